/- Texts of the statement CachePlays, one behind the other: Go functions as Lean functions, the machine's calls, the plain law. -/
import Derived.Test.YtdijkhamebkfjaaMCachePlays12
import Derived.Deep.MidRow
set_option linter.unusedVariables false
set_option linter.unusedSimpArgs false
section
namespace Go.Proofs.Ytdijkhamebkfjaa.X
open Go.RowKit Go.Proofs.YtdijkhamebkfjaaW.PrintWords Go.Proofs.YtdijkhamebkfjaaW.PrintLast Go.Proofs.YtdijkhamebkfjaaW.PrintMore
open Go.Proofs.Ytdijkhamebkfjaa Go.Proofs.Ytdijkhamebkfjaa.Sp
def rp.T10 : Bool × List (List Nat × List Nat) := (true, [([], []), ([], []), ([], []), ([1, 2], [1, 2]), ([0, 3], [0, 3]), ([4], [4]), ([5], [5]), ([5], [5]), ([6, 4, 0, 1, 2, 3, 4, 5, 6], [6]), ([7, 8, 0, 1, 2, 3, 4, 5, 6, 7, 8], [7])])
def rp.B10 : List Nat := [0, 0, 0, 6, 15, 31, 63, 63, 127, 511]
theorem rp.tab10 : rtab .any (opsOf Try.f25 10) = rp.T10 := by kernel_rfl
theorem rp.bits10 : waitsOk rp.T10.2 rp.B10 = true := by kernel_rfl
def rp.T18 : Bool × List (List Nat × List Nat) := (true, [([], []), ([], []), ([0, 1], [0, 1]), ([], []), ([], []), ([], []), ([4, 5], [4, 5]), ([3, 6, 2], [3, 6]), ([7], [7]), ([2, 8, 7], [2, 8]), ([9, 9, 0, 1, 2, 3, 4, 5, 6, 7, 8, 9], [1, 9])])
def rp.B18 : List Nat := [0, 0, 3, 0, 0, 0, 48, 127, 255, 511, 1023]
theorem rp.tab18 : rtab .any (opsOf Try.f25 18) = rp.T18 := by kernel_rfl
theorem rp.bits18 : waitsOk rp.T18.2 rp.B18 = true := by kernel_rfl
theorem info50 : (Try.prog.info? 50).map (fun i => (i.zero, i.size)) = some (some (.agg #[.int .i64 0, .int .i64 0, .int .i64 0, .int .i64 0, .slice none 0 0, .slice none 0 0, .int .i64 0, .slice none 0 0, .slice none 0 0, .slice none 0 0, .int .i64 0, .int .i64 0]), 12) := by kernel_rfl
theorem one_rep {w : World} {base : Nat} {ok : Nat → Prop} (x : Hdr) : Reps (kH.M w base ok) kH.sz [x] [encH x] := ⟨rfl, fun j p hj => by
  cases j with
  | zero =>
    simp only [List.getElem?_cons_zero, Option.some.injEq] at hj
    subst hj
    rfl
  | succ j => simp at hj⟩
theorem one_kL {P : Nat → Prop} {w W : World} {A : Option Addr} {x : Hdr} {l : List Int} (hC : Kd.C kH W A 1 [x]) (hK : ∃ A c, [encH x] = [Value.slice A l.length c] ∧ l.length ≤ c ∧ Wd P w A l) : Kd.C (kL P w) W A 1 [l] := by
  obtain ⟨h1, h2, h3⟩ := hC
  refine ⟨rfl, h2, fun hn => ?_⟩
  obtain ⟨ad, e, hc⟩ := h3 hn
  refine ⟨ad, e, fun j p hj => ?_⟩
  cases j with
  | zero =>
    simp only [List.getElem?_cons_zero, Option.some.injEq] at hj
    subst hj
    obtain ⟨cs, g1, g2, g3⟩ := hc 0 x rfl
    have g4 : cs = [encH x] := g2
    subst g4
    exact ⟨_, g1, hK, g3⟩
  | succ j => simp at hj
/-- The blocks of the reference's state, and a new word's. -/
def With (P : Nat → Prop) (v : Value) : Nat → Prop := fun k => P k ∨ v.ownBlock = some k
section
variable {P : Nat → Prop} {n : Nat} {wa wj w9 : World} {v2 v9 : Value} {A7 : Option Addr} {n7 c7 : Nat} {F : List (List Int)} {x : List Int} {o2 o7 : Nat → Prop} {ok : Nat → Prop} {base : Nat}
theorem add_rows (hP : ∀ k, P k → k < wa.heap.size) (hbel : Below wa.heap.size wa wj) (h : Kd.R (kL (Since P n wa) wa) 22 wj base ok v2 F) : Kd.R (kL (With (Since P n wa) (.slice A7 n7 c7)) wj) 22 wj base (fun _ => True) v2 F :=
  Kd.R_mono (kL_R h (fun _ hk => .inl hk) (fun k hk => hbel.block k (hk.elim (hP k) (·.2)))) (fun _ _ => trivial)
theorem add_one {ok' : Nat → Prop} {A8 : Option Addr} {c8 : Nat} (h7 : Kd.R (Kd.int .i64) 3 wj base ok (.slice A7 n7 c7) x) (h8 : Kd.R kH 22 wj base ok' (.slice A8 1 c8) [(A7, n7, c7)]) : Kd.C (kL (With (Since P n wa) (.slice A7 n7 c7)) wj) wj A8 1 [x] := by
  obtain ⟨e1, e2, _⟩ := Kd.R_reads' h7
  refine one_kL (Kd.R_reads' h8).2.2 ⟨A7, c7, ?_, by omega, Wd.of_R h7 (fun k hk => .inr hk)⟩
  show [Value.slice A7 n7 c7] = _
  rw [e1]
theorem added (hP : ∀ k, P k → k < wa.heap.size) (hwa : n ≤ wa.heap.size) (hbel : Below wa.heap.size wa wj) (h2 : ∀ k, v2.ownBlock = some k → wa.heap.size ≤ k ∧ k < wj.heap.size) (h7 : ∀ k, (Value.slice A7 n7 c7).ownBlock = some k → wa.heap.size ≤ k ∧ k < wj.heap.size ∧ v2.ownBlock ≠ some k)
    (ho : Kd.R (kL (With (Since P n wa) (.slice A7 n7 c7)) wj) 22 w9 base ok v9 (F ++ [x])) (hb : Below wa.heap.size wa w9) (hg : wj.grownBy w9 v2.ownBlock) (hat : v9.ownBlock = v2.ownBlock ∨ ∃ b, v9.ownBlock = some b ∧ wj.heap.size ≤ b) : Wl (Since P n w9) w9 v9 (F ++ [x]) := by
  have hs := hg.size
  have hs2 := hbel.size
  refine Wl.of_R (kL_R ho (fun k hk => ?_) (fun k hk => ?_)) (fun k hk => ?_)
  · rcases hk with hk | hk
    · exact Since.sub (by omega) k hk
    · have := h7 k hk
      exact .inr ⟨by omega, by omega⟩
  · rcases hk with hk | hk
    · have hlt : k < wa.heap.size := hk.elim (hP k) (·.2)
      exact hg.block k (by omega) (fun e => by have := h2 k e.symm; omega)
    · have := h7 k hk
      exact hg.block k (by omega) (fun e => this.2.2 e.symm)
  · refine .inr ⟨?_, Kd.R_lt ho k hk⟩
    rcases hat with e | ⟨b, e, hb2⟩
    · have := h2 k (e ▸ hk)
      omega
    · rw [e] at hk
      obtain rfl := Option.some.inj hk
      omega
end
theorem foot_ne {P : Nat → Prop} {w wX : World} (hP : ∀ k, P k → k < w.heap.size) {k : Nat} (hk : Since P (w.heap.size + 2) wX k) : k ≠ w.heap.size ∧ k ≠ w.heap.size + 1 := by
  rcases hk with hk | hk
  · have := hP k hk
    omega
  · omega
theorem Wl.cell {P : Nat → Prop} {w wr : World} {v : Value} {L : List (List Int)} (hP : ∀ k, P k → k < w.heap.size) (h : Wl (Since P (w.heap.size + 2) wr) wr v L) (j : Nat) (u : Value) : Wl (Since P (w.heap.size + 2) (wr.setCell ⟨w.heap.size, j, none⟩ u)) (wr.setCell ⟨w.heap.size, j, none⟩ u) v L :=
  h.move (Since.sub (by simp)) (fun k hk => Below.heap_setCell wr ⟨w.heap.size, j, none⟩ u k (foot_ne hP hk).1)
theorem Wl.rowset {P : Nat → Prop} {w wr : World} {v : Value} {L : List (List Int)} (hP : ∀ k, P k → k < w.heap.size) (h : Wl (Since P (w.heap.size + 2) wr) wr v L) (cs : Array Value) : Wl (Since P (w.heap.size + 2) (wr.setRow (w.heap.size + 1) cs)) (wr.setRow (w.heap.size + 1) cs) v L :=
  h.move (Since.sub (by simp)) (fun k hk => setRow_other' wr (w.heap.size + 1) cs k (foot_ne hP hk).2)
theorem Wl.fin {P : Nat → Prop} {n m : Nat} {w : World} {v : Value} {L : List (List Int)} (h : Wl (Since P m w) w v L) (hn : n ≤ m) : Wl (Since P n w) w v L :=
  h.move (fun k hk => hk.elim .inl (fun h2 => .inr ⟨by omega, h2.2⟩)) (Stays.refl _ _)
/-- At the i-th beginning something else was said. -/
def clashAt (kd : Int) (W U : List (List Int)) (l out : List Int) (i : Nat) : Prop := (findF kd W U (l.take i)).2 = true ∧ if kd = 1 then i = l.length ∧ (findF kd W U (l.take i)).1 ≠ out else (findF kd W U (l.take i)).1 ≠ out.take i
/-- The beginnings with those of a word. -/
def freshR (G : List (List Int)) (l : List Int) : Nat → List (List Int)
  | 0 => G
  | j + 1 => if l.take j ∈ freshR G l j then freshR G l j else freshR G l j ++ [l.take j]
theorem findR_len (kd : Int) (M : Nat) (w : List Int) : ∀ (W U : List (List Int)), (∀ x ∈ U, x.length ≤ M) → (findR kd W U w).1.length ≤ M
  | [], U, h => by
    unfold findR
    exact Nat.zero_le _
  | a :: W, [], h => by
    unfold findR
    exact Nat.zero_le _
  | a :: W, o :: U, h => by
    unfold findR
    have ho := h o List.mem_cons_self
    by_cases h1 : okR kd a w = true
    · rw [if_pos h1]
      by_cases h2 : kd = 1
      · rw [if_pos h2]; exact ho
      · rw [if_neg h2]
        show (o.take w.length).length ≤ M
        rw [List.length_take]; omega
    · rw [if_neg h1]
      exact findR_len kd M w W U (fun x hx => h x (List.mem_cons_of_mem _ hx))
theorem findF_len (kd : Int) (W U : List (List Int)) (w : List Int) (M : Nat) (h : ∀ x ∈ U, x.length ≤ M) : (findF kd W U w).1.length ≤ M := by
  unfold findF
  split
  · exact Nat.zero_le _
  · exact findR_len kd M w W U h
theorem freshR_len (G : List (List Int)) (l : List Int) : ∀ j, (freshR G l j).length ≤ G.length + j
  | 0 => Nat.le_refl _
  | j + 1 => by
    have := freshR_len G l j
    unfold freshR
    split
    · omega
    · rw [List.length_append, List.length_singleton]; omega
theorem freshR_all (G : List (List Int)) (l : List Int) (M : Nat) (hG : ∀ x ∈ G, x.length ≤ M) (hl : l.length ≤ M) : ∀ j, ∀ x ∈ freshR G l j, x.length ≤ M
  | 0, x, hx => hG x hx
  | j + 1, x, hx => by
    unfold freshR at hx
    split at hx
    · exact freshR_all G l M hG hl j x hx
    · rcases List.mem_append.1 hx with hx | hx
      · exact freshR_all G l M hG hl j x hx
      · obtain rfl := List.mem_singleton.1 hx
        rw [List.length_take]
        omega
theorem box_like {w : World} {g : Nat} {kd K O most h m : Int} {vW vU vG : Value} (hb : w.heap[g]? = some (.cells #[.int .i64 kd, .int .i64 K, .int .i64 O, .int .i64 0, .slice none 0 0, .slice none 0 0, .int .i64 most, vW, vU, vG, .int .i64 h, .int .i64 m] 50 (0, 0))) : w.rangeAt g 0 [.int .i64 kd, .int .i64 K, .int .i64 O, .int .i64 0, .slice none 0 0, .slice none 0 0] := fun j v hv => by
  rw [Nat.zero_add, blk_cell hb j]
  match j, hv with
  | 0, hv => exact hv
  | 1, hv => exact hv
  | 2, hv => exact hv
  | 3, hv => exact hv
  | 4, hv => exact hv
  | 5, hv => exact hv
  | j + 6, hv => simp at hv
theorem box_all {w : World} {g : Nat} {kd K O most h m : Int} {vW vU vG : Value} (hb : w.heap[g]? = some (.cells #[.int .i64 kd, .int .i64 K, .int .i64 O, .int .i64 0, .slice none 0 0, .slice none 0 0, .int .i64 most, vW, vU, vG, .int .i64 h, .int .i64 m] 50 (0, 0))) : w.rangeAt g 0 [.int .i64 kd, .int .i64 K, .int .i64 O, .int .i64 0, .slice none 0 0, .slice none 0 0, .int .i64 most, vW, vU, vG, .int .i64 h, .int .i64 m] := fun j v hv => by
  rw [Nat.zero_add, blk_cell hb j]
  rw [← hv]
  simp
theorem info24 : (Try.prog.info? 24).map (fun i => (i.zero, i.size)) = some (some (.agg #[.int .i64 0, .int .i64 0, .int .i64 0, .int .i64 0, .slice none 0 0, .slice none 0 0]), 6) := by kernel_rfl
open Classical in
noncomputable def refErr (kd : Int) (K : Nat) (O : Int) (most : Nat) (W U G : List (List Int)) (l out : List Int) : Int :=
  if wordErr K l ≠ 0 then wordErr K l else if memB kd O l.length out = false then 100 else if ∃ i, i ≤ l.length ∧ clashAt kd W U l out i then 111 else if (freshR G l (l.length + 1)).length > most then 110 else 0
def stR (kd : Int) (K : Nat) (O : Int) (most : Nat) (h m : Int) (vW vU vG : Value) : Array Value := #[.int .i64 kd, .int .i64 (K : Int), .int .i64 O, .int .i64 0, .slice none 0 0, .slice none 0 0, .int .i64 (most : Int), vW, vU, vG, .int .i64 h, .int .i64 m]
def RPutPost (P : Nat → Prop) (kd : Int) (K : Nat) (O : Int) (most : Nat) (h m : Int) (W U G : List (List Int)) (l out : List Int) (w : World) : Ending → World → Prop := fun e w' => ∃ vW vU vG : Value, e = .returned (.tuple #[.agg (stR kd K O most h m vW vU vG), .int .i64 (refErr kd K O most W U G l out)]) ∧
  Wl (Since P w.heap.size w') w' vW (if refErr kd K O most W U G l out = 0 then W ++ [l] else W) ∧ Wl (Since P w.heap.size w') w' vU (if refErr kd K O most W U G l out = 0 then U ++ [out] else U) ∧ Wl (Since P w.heap.size w') w' vG (if refErr kd K O most W U G l out = 0 then freshR G l (l.length + 1) else G) ∧ Below w.heap.size w w'
theorem RPutPost.no {P : Nat → Prop} {kd : Int} {K : Nat} {O : Int} {most : Nat} {h m : Int} {W U G : List (List Int)} {l out : List Int} {w w' : World} {vW vU vG : Value} {x : Int} (hP : ∀ k, P k → k < w.heap.size) (hW : Wl P w vW W) (hU : Wl P w vU U) (hG : Wl P w vG G) (he : refErr kd K O most W U G l out = x) (hx : x ≠ 0) (hb : Below w.heap.size w w') : RPutPost P kd K O most h m W U G l out w (.returned (.tuple #[.agg (stR kd K O most h m vW vU vG), .int .i64 x])) w' := by
  have key : ∀ v L, Wl P w v L → Wl (Since P w.heap.size w') w' v L := fun v L hv => hv.move (fun _ hk => .inl hk) (fun k hk => hb.block k (hP k hk))
  unfold RPutPost
  rw [he, if_neg hx, if_neg hx, if_neg hx]
  exact ⟨vW, vU, vG, rfl, key _ _ hW, key _ _ hU, key _ _ hG, hb⟩
theorem RPutPost.ok {P : Nat → Prop} {kd : Int} {K : Nat} {O : Int} {most : Nat} {h m : Int} {W U G : List (List Int)} {l out : List Int} {w w' : World} {vW vU vG : Value} (he : refErr kd K O most W U G l out = 0) (hW : Wl (Since P w.heap.size w') w' vW (W ++ [l])) (hU : Wl (Since P w.heap.size w') w' vU (U ++ [out])) (hG : Wl (Since P w.heap.size w') w' vG (freshR G l (l.length + 1))) (hb : Below w.heap.size w w') : RPutPost P kd K O most h m W U G l out w (.returned (.tuple #[.agg (stR kd K O most h m vW vU vG), .int .i64 0])) w' := by
  unfold RPutPost
  rw [he, if_pos rfl, if_pos rfl, if_pos rfl]
  exact ⟨vW, vU, vG, rfl, hW, hU, hG, hb⟩
theorem refErr_word {kd : Int} {K : Nat} {O : Int} {most : Nat} {W U G : List (List Int)} {l out : List Int} {x : Int} (h : wordErr K l = x) (hx : x ≠ 0) : refErr kd K O most W U G l out = x := by
  unfold refErr
  rw [h, if_pos hx]
theorem refErr_teach {kd : Int} {K : Nat} {O : Int} {most : Nat} {W U G : List (List Int)} {l out : List Int} (h : wordErr K l = 0) (h2 : memB kd O l.length out = false) : refErr kd K O most W U G l out = 100 := by
  unfold refErr
  rw [if_neg (fun hn => hn h), if_pos h2]
theorem refErr_clash {kd : Int} {K : Nat} {O : Int} {most : Nat} {W U G : List (List Int)} {l out : List Int} (h : wordErr K l = 0) (h2 : memB kd O l.length out = true) (h3 : ∃ i, i ≤ l.length ∧ clashAt kd W U l out i) : refErr kd K O most W U G l out = 111 := by
  unfold refErr
  rw [if_neg (fun hn => hn h), if_neg (by rw [h2]; decide), if_pos h3]
theorem refErr_full {kd : Int} {K : Nat} {O : Int} {most : Nat} {W U G : List (List Int)} {l out : List Int} (h : wordErr K l = 0) (h2 : memB kd O l.length out = true) (h3 : ∀ i, i < l.length + 1 → ¬ clashAt kd W U l out i) : refErr kd K O most W U G l out = if (freshR G l (l.length + 1)).length > most then 110 else 0 := by
  unfold refErr
  rw [if_neg (fun hn => hn h), if_neg (by rw [h2]; decide), if_neg (fun ⟨i, h4, h5⟩ => h3 i (by omega) h5)]
attribute [local go_sem] max2_int min2_int max_two min_two max_three min_three max_four min_four
theorem pmeas_at {a j : Nat} (e : wrap64 ((j : Int) + 1) = ((j + 1 : Nat) : Int)) (h : j < a) : a - (intOf (.int .i64 (wrap64 ((j : Int) + 1)))).toNat < a - (intOf (.int .i64 (j : Int))).toNat := by
  rw [e]
  show a - (((j + 1 : Nat) : Int)).toNat < a - ((j : Int)).toNat
  omega
theorem pmeas_at2 {a j : Nat} (h : j < a) : a - (intOf (.int .i64 ((j : Int) + 1))).toNat < a - (intOf (.int .i64 (j : Int))).toNat := by
  show a - ((j : Int) + 1).toNat < a - ((j : Int)).toNat
  omega
set_option maxHeartbeats 16000000 in
set_option maxRecDepth 100000 in
theorem RPut_c1 (P : Nat → Prop) (K : Nat) (O : Int) (most : Nat) (h m : Int) (AW : Option Addr) (cW : Nat) (AU : Option Addr) (cU : Nat) (AG : Option Addr) (cG : Nat) (W U G : List (List Int)) (w : World) (l : List Int) (A1 : Option Addr) (c1 : Nat) (out : List Int) (A2 : Option Addr) (c2 : Nat) (hP : ∀ k, P k → k < w.heap.size) (hW : Wl P w (.slice AW W.length cW) W) (hU : Wl P w (.slice AU U.length cU) U) (hG : Wl P w (.slice AG G.length cG) G) (hr1 : Kd.C (Kd.int .i64) w A1 l.length l) (hc1 : l.length ≤ c1) (hr2 : Kd.C (Kd.int .i64) w A2 out.length out) (hc2 : out.length ≤ c2) (hK : 1 ≤ K ∧ K ≤ 64) (hWU : W.length = U.length) (hWl : ∀ x ∈ W, x.length ≤ 1000000) (hWn : W.length ≤ 1000000) (hUl : ∀ x ∈ U, x.length ≤ 1000000) (hGl : ∀ x ∈ G, x.length ≤ 1000000) (hUn : U.length ≤ 1000000) (hGn : G.length ≤ 2000000) (hl : l.length ≤ 1000000) (hol : out.length ≤ 1000000) : Calls Try.prog 25 #[.agg #[.int .i64 1, .int .i64 (K : Int), .int .i64 O, .int .i64 0, .slice none 0 0, .slice none 0 0, .int .i64 (most : Int), .slice AW W.length cW, .slice AU U.length cU, .slice AG G.length cG, .int .i64 h, .int .i64 m], .slice A1 l.length c1, .slice A2 out.length c2] w (RPutPost P 1 K O most h m W U G l out w) := by
  have hu50 := Try.underlying50
  have hu24 := Try.underlying24
  have hu25 := Try.underlying25
  have hu22 := Try.underlying22
  have hu76 := Try.underlying76
  have hu78 := Try.underlying78
  obtain ⟨z50, i50⟩ := zero_of_info info50
  obtain ⟨z24, i24⟩ := zero_of_info info24
  have HP := Aside0.mk hP
  have HW := Aside0.mk hW
  have HU := Aside0.mk hU
  have HG := Aside0.mk hG
  have HR1 := Aside0.mk hr1
  have HC1 := Aside0.mk hc1
  have HR2 := Aside0.mk hr2
  have HC2 := Aside0.mk hc2
  have HK := Aside0.mk hK
  have HWU := Aside0.mk hWU
  have HWL := Aside0.mk hWl
  have HWN := Aside0.mk hWn
  have HUL := Aside0.mk hUl
  have HGL := Aside0.mk hGl
  have HUN := Aside0.mk hUn
  have HGN := Aside0.mk hGn
  have HL := Aside0.mk hl
  have HOL := Aside0.mk hol
  have hz2 : ((w.alloc (.cells #[.int .i64 1, .int .i64 (K : Int), .int .i64 O, .int .i64 0, .slice none 0 0, .slice none 0 0, .int .i64 (most : Int), .slice AW W.length cW, .slice AU U.length cU, .slice AG G.length cG, .int .i64 h, .int .i64 m] 50)).alloc (.cells #[.int .i64 0, .int .i64 0, .int .i64 0, .int .i64 0, .slice none 0 0, .slice none 0 0, .int .i64 0, .slice none 0 0, .slice none 0 0, .slice none 0 0, .int .i64 0, .int .i64 0] 50)).heap[w.heap.size + 1]? = some (.cells #[.int .i64 0, .int .i64 0, .int .i64 0, .int .i64 0, .slice none 0 0, .slice none 0 0, .int .i64 0, .slice none 0 0, .slice none 0 0, .slice none 0 0, .int .i64 0, .int .i64 0] 50 (0, 0)) := by
    have h9 := blk_new (w.alloc (.cells #[.int .i64 1, .int .i64 (K : Int), .int .i64 O, .int .i64 0, .slice none 0 0, .slice none 0 0, .int .i64 (most : Int), .slice AW W.length cW, .slice AU U.length cU, .slice AG G.length cG, .int .i64 h, .int .i64 m] 50)) (.cells #[.int .i64 0, .int .i64 0, .int .i64 0, .int .i64 0, .slice none 0 0, .slice none 0 0, .int .i64 0, .slice none 0 0, .slice none 0 0, .slice none 0 0, .int .i64 0, .int .i64 0] 50)
    have e : (w.alloc (.cells #[.int .i64 1, .int .i64 (K : Int), .int .i64 O, .int .i64 0, .slice none 0 0, .slice none 0 0, .int .i64 (most : Int), .slice AW W.length cW, .slice AU U.length cU, .slice AG G.length cG, .int .i64 h, .int .i64 m] 50)).heap.size = w.heap.size + 1 := by simp
    rw [e] at h9
    exact h9
  have HS0 : Aside0 (Sep w.heap.size [blk w.heap.size #[.int .i64 1, .int .i64 (K : Int), .int .i64 O, .int .i64 0, .slice none 0 0, .slice none 0 0, .int .i64 (most : Int), .slice AW W.length cW, .slice AU U.length cU, .slice AG G.length cG, .int .i64 h, .int .i64 m] 50, blk (w.heap.size + 1) #[.int .i64 0, .int .i64 0, .int .i64 0, .int .i64 0, .slice none 0 0, .slice none 0 0, .int .i64 0, .slice none 0 0, .slice none 0 0, .slice none 0 0, .int .i64 0, .int .i64 0] 50] ((w.alloc (.cells #[.int .i64 1, .int .i64 (K : Int), .int .i64 O, .int .i64 0, .slice none 0 0, .slice none 0 0, .int .i64 (most : Int), .slice AW W.length cW, .slice AU U.length cU, .slice AG G.length cG, .int .i64 h, .int .i64 m] 50)).alloc (.cells #[.int .i64 0, .int .i64 0, .int .i64 0, .int .i64 0, .slice none 0 0, .slice none 0 0, .int .i64 0, .slice none 0 0, .slice none 0 0, .slice none 0 0, .int .i64 0, .int .i64 0] 50))) := ⟨((Sep.start w.heap.size 2 w).fillBlk 0 rfl rfl (blk_new w (.cells #[.int .i64 1, .int .i64 (K : Int), .int .i64 O, .int .i64 0, .slice none 0 0, .slice none 0 0, .int .i64 (most : Int), .slice AW W.length cW, .slice AU U.length cU, .slice AG G.length cG, .int .i64 h, .int .i64 m] 50)) (below_alloc (Below.refl w.heap.size w) (.cells #[.int .i64 1, .int .i64 (K : Int), .int .i64 O, .int .i64 0, .slice none 0 0, .slice none 0 0, .int .i64 (most : Int), .slice AW W.length cW, .slice AU U.length cU, .slice AG G.length cG, .int .i64 h, .int .i64 m] 50)) (Nat.le_refl _)).fillBlk 1 rfl (g := w.heap.size + 1) (by simp) hz2 (below_alloc (Below.refl _ _) (.cells #[.int .i64 0, .int .i64 0, .int .i64 0, .int .i64 0, .slice none 0 0, .slice none 0 0, .int .i64 0, .slice none 0 0, .slice none 0 0, .slice none 0 0, .int .i64 0, .int .i64 0] 50)) (by simp)⟩
  clear hz2
  have HB0 : Aside0 (Below w.heap.size w ((w.alloc (.cells #[.int .i64 1, .int .i64 (K : Int), .int .i64 O, .int .i64 0, .slice none 0 0, .slice none 0 0, .int .i64 (most : Int), .slice AW W.length cW, .slice AU U.length cU, .slice AG G.length cG, .int .i64 h, .int .i64 m] 50)).alloc (.cells #[.int .i64 0, .int .i64 0, .int .i64 0, .int .i64 0, .slice none 0 0, .slice none 0 0, .int .i64 0, .slice none 0 0, .slice none 0 0, .slice none 0 0, .int .i64 0, .int .i64 0] 50))) := ⟨below_alloc (below_alloc (Below.refl _ _) _) _⟩
  have hwe := fun W' hr => WCheck_calls A1 c1 l K W' hK.1 hK.2 hr hc1
  obtain ⟨x, hx⟩ : ∃ x, wordErr K l = x := ⟨_, rfl⟩
  rw [hx] at hwe
  have HX := Aside0.mk hx
  clear hP hW hU hG hr1 hc1 hr2 hc2 hK hWU hWl hWn hUl hGl hUn hGn hl hol hx
  by_cases hx0 : x = 0
  · subst hx0
    cases hmem : memB 1 O l.length out with
    | false =>
      have HMEM := Aside0.mk hmem
      have hte := fun W' h1 h2 => TCheck_ref 1 K O l out A1 c1 A2 c2 W' (.inl rfl) (by have := HOL.out; omega) h1 HC1.out h2 HC2.out
      rw [hmem, if_neg (by decide)] at hte
      clear hmem
      go_enter Try.func25, Try.ntmps25
      go_wp2_with (first
      | ((with_reducible refine gate_store (t := 50) (p := 6) rfl ?_)
         refine wpList_store_rowTo rfl 50 (.tmp 6) (.tmp 36) rfl rfl (w.heap.size + 1) #[.int .i64 1, .int .i64 (K : Int), .int .i64 O, .int .i64 0, .slice none 0 0, .slice none 0 0, .int .i64 (most : Int), .slice AW W.length cW, .slice AU U.length cU, .slice AG G.length cG, .int .i64 h, .int .i64 m] rfl rfl 50 _ (HS2.out.get 1 rfl) ?_ ?_ (by simp [Value.oneCell']) ?_
         (focus (rw [i50]; rfl))
         (focus rfl)
         have HSz := Aside0.mk (HS2.out.setStruct 1 rfl #[.int .i64 1, .int .i64 (K : Int), .int .i64 O, .int .i64 0, .slice none 0 0, .slice none 0 0, .int .i64 (most : Int), .slice AW W.length cW, .slice AU U.length cU, .slice AG G.length cG, .int .i64 h, .int .i64 m] HB2.out.size)
         have HBz := Aside0.mk (below_setRow HB2.out (HS2.out.bound 1 rfl (show w.heap.size + 1 = w.heap.size + 1 from rfl)).1 #[.int .i64 1, .int .i64 (K : Int), .int .i64 O, .int .i64 0, .slice none 0 0, .slice none 0 0, .int .i64 (most : Int), .slice AW W.length cW, .slice AU U.length cU, .slice AG G.length cG, .int .i64 h, .int .i64 m])
         generalize World.setRow _ (w.heap.size + 1) _ = wz at HSz HBz ⊢)
      | ((with_reducible refine gate_dst (N := 36) rfl ?_)
         refine wpList_load_row rfl 50 (.tmp 3) rfl w.heap.size rfl 50 #[.int .i64 1, .int .i64 (K : Int), .int .i64 O, .int .i64 0, .slice none 0 0, .slice none 0 0, .int .i64 (most : Int), .slice AW W.length cW, .slice AU U.length cU, .slice AG G.length cG, .int .i64 h, .int .i64 m] (0, 0) _ (HS2.out.get 0 rfl) Try.underlying50 rfl ?_ ?_
         (focus (rw [i50]; rfl)))
      | (go_at_call 45; refine (hte _ (Kd.C_below HR1.out HB1.out) (Kd.C_below HR2.out HB1.out)).mono ?_
         rintro e w2 ⟨rfl, hb⟩
         have HS2 := Aside0.mk (HS1.out.low hb)
         have HB2 := Aside0.mk (below_step HB1.out hb)
         clear hb)
      | ((with_reducible refine gate_dst (N := 29) rfl ?_)
         refine wpList_load_mid rfl 24 (.tmp 28) rfl w.heap.size 0 rfl [.int .i64 1, .int .i64 (K : Int), .int .i64 O, .int .i64 0, .slice none 0 0, .slice none 0 0] _ (box_like (HS1.out.get 0 rfl)) Try.underlying24 rfl ?_ ?_
         (focus (rw [i24]; rfl)))
      | (go_at_call 44; refine (hwe _ (Kd.C_below HR1.out HB0.out)).mono ?_
         rintro e w1 ⟨p1, rfl, ⟨nd1, rfl⟩⟩
         have HS1 := Aside0.mk (HS0.out.low (pw_below_drewN (Below.refl _ _) nd1))
         have HB1 := Aside0.mk (pw_below_drewN HB0.out nd1)
         generalize World.drewN _ nd1 = w1 at HS1 HB1 ⊢))
      refine bodyPost_ret (results_ct rfl _ _ (w.heap.size + 1) 50 #[.int .i64 1, .int .i64 (K : Int), .int .i64 O, .int .i64 0, .slice none 0 0, .slice none 0 0, .int .i64 (most : Int), .slice AW W.length cW, .slice AU U.length cU, .slice AG G.length cG, .int .i64 h, .int .i64 m] (0, 0) _ rfl (HSz.out.get 1 rfl) Try.underlying50 rfl (by kernel_rfl)) rfl ?_
      exact RPutPost.no HP.out HW.out HU.out HG.out (refErr_teach HX.out HMEM.out) (by decide) HBz.out
    | true =>
      have HMEM := Aside0.mk hmem
      have hte := fun W' h1 h2 => TCheck_ref 1 K O l out A1 c1 A2 c2 W' (.inl rfl) (by have := HOL.out; omega) h1 HC1.out h2 HC2.out
      rw [hmem, if_pos rfl] at hte
      clear hmem
      go_enter Try.func25, Try.ntmps25
      go_wp2_with (first
      | (go_at_call 45; refine (hte _ (Kd.C_below HR1.out HB1.out) (Kd.C_below HR2.out HB1.out)).mono ?_
         rintro e w2 ⟨rfl, hb⟩
         have HS2 := Aside0.mk (HS1.out.low hb)
         have HB2 := Aside0.mk (below_step HB1.out hb)
         clear hb)
      | ((with_reducible refine gate_dst (N := 29) rfl ?_)
         refine wpList_load_mid rfl 24 (.tmp 28) rfl w.heap.size 0 rfl [.int .i64 1, .int .i64 (K : Int), .int .i64 O, .int .i64 0, .slice none 0 0, .slice none 0 0] _ (box_like (HS1.out.get 0 rfl)) Try.underlying24 rfl ?_ ?_
         (focus (rw [i24]; rfl)))
      | (go_at_call 44; refine (hwe _ (Kd.C_below HR1.out HB0.out)).mono ?_
         rintro e w1 ⟨p1, rfl, ⟨nd1, rfl⟩⟩
         have HS1 := Aside0.mk (HS0.out.low (pw_below_drewN (Below.refl _ _) nd1))
         have HB1 := Aside0.mk (pw_below_drewN HB0.out nd1)
         generalize World.drewN _ nd1 = w1 at HS1 HB1 ⊢))
      have HOI : Aside0 (True ∧ 0 ≤ out.length) := ⟨⟨trivial, Nat.zero_le _⟩⟩
      clear HS0 HB0 HS1 HB1 hwe hte
      go_loopw [10] (fun v10 wr => ∃ (i : Nat), v10 = .int .i64 (i : Int) ∧ Aside0 (i ≤ l.length + 1 ∧ ∀ j, j < i → ¬ clashAt 1 W U l out j) ∧ Aside0 (Sep w.heap.size [blk w.heap.size #[.int .i64 1, .int .i64 (K : Int), .int .i64 O, .int .i64 0, .slice none 0 0, .slice none 0 0, .int .i64 (most : Int), .slice AW W.length cW, .slice AU U.length cU, .slice AG G.length cG, .int .i64 h, .int .i64 m] 50, blk (w.heap.size + 1) #[.int .i64 0, .int .i64 0, .int .i64 0, .int .i64 0, .slice none 0 0, .slice none 0 0, .int .i64 0, .slice none 0 0, .slice none 0 0, .slice none 0 0, .int .i64 0, .int .i64 0] 50] wr) ∧ Aside0 (Below w.heap.size w wr)) (fun v10 _ => l.length + 1 - (intOf v10).toNat)
      case atStart => exact ⟨0, rfl, ⟨Nat.zero_le _, fun j hj => absurd hj (Nat.not_lt_zero _)⟩, HS2, HB2⟩
      case round =>
        clear HS2 HB2
        obtain ⟨i, rfl, HI, HSr, HBr⟩ := hrel
        by_cases hi : i < l.length + 1
        · have HIL := Aside0.mk hi
          have hi' : (i : Int) ≤ (l.length : Int) := by omega
          have hic : (i : Int) ≤ (c1 : Int) := by have := HC1.out; omega
          obtain ⟨r1, rb, hr⟩ : ∃ r1 rb, findF 1 W U (l.take i) = (r1, rb) := ⟨_, _, rfl⟩
          have HRR := Aside0.mk hr
          have HRL : Aside0 (r1.length ≤ 1000000000) := ⟨by have h1 := findF_len 1 W U (l.take i) 1000000 HUL.out; rw [hr] at h1; exact Nat.le_trans h1 (by decide)⟩
          clear hr hi
          go_wp2
          refine start_ (n := 10) (S := fun w' => w'.heap[w.heap.size]? = some (.cells #[.int .i64 1, .int .i64 (K : Int), .int .i64 O, .int .i64 0, .slice none 0 0, .slice none 0 0, .int .i64 (most : Int), .slice AW W.length cW, .slice AU U.length cU, .slice AG G.length cG, .int .i64 h, .int .i64 m] 50 (0, 0))) (ds := [4]) #[false, false, false, false, false, false, false, false, false, false] (by kernel_rfl) rfl rfl ((HSr.out.low (below_drew1 (Below.refl _ _))).get 0 rfl) (fun hHeld => ?_)
          refine with_tabW rp.tab10 rp.bits10 (fun HT_ HW_ => ?_)
          have HS5 := Aside0.mk (HSr.out.low (below_drew1 (Below.refl _ _)))
          have HB5 := Aside0.mk (below_drew1 HBr.out)
          clear HSr HBr
          generalize wr.drew = wd at HS5 HB5 hHeld ⊢
          refine pure_ (i := 1) (N := (some 46)) (v := ?_) (a' := ?_) #[false, true, false, false, false, false, false, false, false, false] rfl rfl (any_of HT_.out (by kernel_rfl)) (fun _ _ _ h => h) (Or.inl ⟨by rfl, ?_⟩) ?_ ?_
          rotate_left
          · intro w'
            go_simp
            with_reducible rfl
          rotate_left
          · simp only [Act.put, List.setIfInBounds_toArray, List.set_cons_zero, List.set_cons_succ, i64_w, i32_w]
            rfl
          refine pure_ (i := 2) (N := (some 47)) (v := ?_) (a' := ?_) #[false, true, true, false, false, false, false, false, false, false] rfl rfl (any_of HT_.out (by kernel_rfl)) (fun _ _ _ h => h) (Or.inl ⟨by rfl, ?_⟩) ?_ ?_
          rotate_left
          · intro w'
            go_simp
            with_reducible rfl
          rotate_left
          · simp only [Act.put, List.setIfInBounds_toArray, List.set_cons_zero, List.set_cons_succ, i64_w, i32_w]
            rfl
          refine pure_ (i := 3) (N := (some 48)) (v := ?_) (a' := ?_) #[false, true, true, true, false, false, false, false, false, false] rfl rfl (any_of HT_.out (by kernel_rfl)) (fun _ _ _ h => h) (Or.inl ⟨by rfl, ?_⟩) ?_ ?_
          rotate_left
          · intro w'
            go_simp
            with_reducible rfl
          rotate_left
          · simp only [Act.put, List.setIfInBounds_toArray, List.set_cons_zero, List.set_cons_succ, i64_w, i32_w]
            rfl
          refine take_ (i := 0) (N := (some 45)) (v := .agg #[.int .i64 1, .int .i64 (K : Int), .int .i64 O, .int .i64 0, .slice none 0 0, .slice none 0 0, .int .i64 (most : Int), .slice AW W.length cW, .slice AU U.length cU, .slice AG G.length cG, .int .i64 h, .int .i64 m]) (a' := ?_) #[true, true, true, true, false, false, false, false, false, false] rfl rfl (take_ofW HT_.out HW_.out (by kernel_rfl)) (fun _ _ _ h => h) (yieldsIf_load_mid (by rfl) 50 _ rfl w.heap.size 0 rfl [.int .i64 1, .int .i64 (K : Int), .int .i64 O, .int .i64 0, .slice none 0 0, .slice none 0 0, .int .i64 (most : Int), .slice AW W.length cW, .slice AU U.length cU, .slice AG G.length cG, .int .i64 h, .int .i64 m] _ (fun w' h => box_all h) Try.underlying50 rfl (by rw [i50]; rfl)) hHeld ?_ ?_
          rotate_left
          · simp only [Act.put, List.setIfInBounds_toArray, List.set_cons_zero, List.set_cons_succ, i64_w, i32_w]
            rfl
          refine last_ (i := 4) (N := (some 49)) #[true, true, true, true, true, false, false, false, false, false] rfl rfl (one_of HT_.out (by kernel_rfl)) (by decide) (fun Kc hK => ?_)
          refine goes_ Try.func26 (by kernel_rfl) rfl #[.agg #[.int .i64 1, .int .i64 (K : Int), .int .i64 O, .int .i64 0, .slice none 0 0, .slice none 0 0, .int .i64 (most : Int), .slice AW W.length cW, .slice AU U.length cU, .slice AG G.length cG, .int .i64 h, .int .i64 m], .slice A1 i c1] (by rfl) rfl rfl (by (try simp only [List.map_toArray, List.map_cons, List.map_nil]); first | done | rfl | simp [Act.eval]) ?_
          refine (Find_cut 1 P (K : Int) O (most : Int) h m AW cW AU cU AG G.length cG W U wd (l.take i) A1 i c1 (fun k hk => Nat.lt_of_lt_of_le (HP.out k hk) HB5.out.size) (HW.out.move (fun _ h => h) (fun k hk => HB5.out.block k (HP.out k hk))) (HU.out.move (fun _ h => h) (fun k hk => HB5.out.block k (HP.out k hk))) (C_cut (Kd.C_below HR1.out HB5.out) (by have := HIL.out; omega)) (by have h1 := HIL.out; have h2 := HC1.out; omega) HWU.out (fun x hx => by have := HWL.out x hx; omega) (by have := HWN.out; omega) (by rw [List.length_take]; have := HL.out; omega) (.inl rfl) (fun e => by cases e)).mono ?_
          rintro e w6 hF
          unfold FindRPost at hF
          rw [HRR.out] at hF
          dsimp only at hF
          obtain ⟨Af, nf, cf, rfl, hn, hc, hd, hb⟩ := hF
          subst hn
          refine ⟨_, rfl, ?_⟩
          have HS6 := Aside0.mk (HS5.out.low hb)
          have HB6 := Aside0.mk (below_step HB5.out hb)
          have HF := Aside0.mk (And.intro hc hd)
          clear hc hd hb HS5 HB5
          refine hK.out _ _ ?_; clear hK Kc
          refine norm_ (a' := ?_) ?_ ?_
          rotate_left
          · show Act.put _ (some 49) _ = _
            simp only [Act.put, List.setIfInBounds_toArray, List.set_cons_zero, List.set_cons_succ, i64_w, i32_w]
            rfl
          refine pure_ (i := 5) (N := (some 44)) (v := ?_) (a' := ?_) #[true, true, true, true, true, true, false, false, false, false] rfl rfl (any_of HT_.out (by kernel_rfl)) (fun _ _ _ h => h) (Or.inl ⟨by rfl, ?_⟩) ?_ ?_
          rotate_left
          · intro w'
            go_simp
            with_reducible rfl
          rotate_left
          · simp only [Act.put, List.setIfInBounds_toArray, List.set_cons_zero, List.set_cons_succ, i64_w, i32_w]
            rfl
          refine pure_ (i := 6) (N := (some 50)) (v := ?_) (a' := ?_) #[true, true, true, true, true, true, true, false, false, false] rfl rfl (any_of HT_.out (by kernel_rfl)) (fun _ _ _ h => h) (Or.inl ⟨by rfl, ?_⟩) ?_ ?_
          rotate_left
          · intro w'
            go_simp
            with_reducible rfl
          rotate_left
          · simp only [Act.put, List.setIfInBounds_toArray, List.set_cons_zero, List.set_cons_succ, i64_w, i32_w]
            rfl
          refine pure_ (i := 7) (N := (some 51)) (v := ?_) (a' := ?_) #[true, true, true, true, true, true, true, true, false, false] rfl rfl (any_of HT_.out (by kernel_rfl)) (fun _ _ _ h => h) (Or.inl ⟨by rfl, ?_⟩) ?_ ?_
          rotate_left
          · intro w'
            go_simp
            with_reducible rfl
          rotate_left
          · simp only [Act.put, List.setIfInBounds_toArray, List.set_cons_zero, List.set_cons_succ, i64_w, i32_w]
            rfl
          refine pure_ (i := 8) (N := (some 11)) (v := ?_) (a' := ?_) #[true, true, true, true, true, true, true, true, true, false] rfl rfl (any_of HT_.out (by kernel_rfl)) (fun _ _ _ h => h) (Or.inl ⟨by rfl, ?_⟩) ?_ ?_
          rotate_left
          · intro w'
            go_simp
            with_reducible rfl
          rotate_left
          · simp only [Act.put, List.setIfInBounds_toArray, List.set_cons_zero, List.set_cons_succ, i64_w, i32_w]
            rfl
          refine pure_ (i := 9) (N := (some 12)) (v := ?_) (a' := ?_) #[true, true, true, true, true, true, true, true, true, true] rfl rfl (any_of HT_.out (by kernel_rfl)) (fun _ _ _ h => h) (Or.inl ⟨by rfl, ?_⟩) ?_ ?_
          rotate_left
          · intro w'
            go_simp
            with_reducible rfl
          rotate_left
          · simp only [Act.put, List.setIfInBounds_toArray, List.set_cons_zero, List.set_cons_succ, i64_w, i32_w]
            rfl
          refine done_ (done_of HT_.out (by kernel_rfl)) ?_
          have hk0 : w6.cell? ⟨w.heap.size, 0, none⟩ = some (.int .i64 1) := (blk_cell (HS6.out.get 0 rfl) 0).trans rfl
          have hf0 := blk_frozen (HS6.out.get 0 rfl) 0
          by_cases heq : i = l.length
          · have hbe : ((i : Int) == (l.length : Int)) = true := by rw [heq]; exact beq_self_eq_true _
            have HEQ := Aside0.mk heq
            clear heq
            cases rb with
            | false =>
              go_wp2
              have e1 := w64s (a := i) (by have h1 := HIL.out; have h2 := HL.out; omega)
              go_roundw
              case rel => exact ⟨i + 1, by first | rw [e1] | go_num, ⟨HIL.out, fun j hj => by
                rcases Nat.lt_or_ge j i with h1 | h1
                · exact HI.out.2 j h1
                · obtain rfl : j = i := by omega
                  exact (by unfold clashAt; rw [HRR.out]; rintro ⟨h1, _⟩; cases h1)⟩, HS6, HB6⟩
              case measure => first | exact pmeas_at e1 HIL.out | exact pmeas_at2 HIL.out
            | true =>
              by_cases hro : r1 = out
              · have HRO := Aside0.mk hro
                clear hro
                go_wp2_with (first
                | (go_at_call 17; refine (same_calls Af r1.length cf r1 A2 out.length c2 out w6 HF.out.2.C HF.out.1 (Kd.C_below HR2.out HB6.out) (by have := HC2.out; have := HOI.out; omega) HRL.out).mono ?_
                   rw [decide_eq_true HRO.out]
                   rintro e w7 ⟨rfl, ⟨nd, rfl⟩⟩
                   have HS7 := Aside0.mk (HS6.out.low (pw_below_drewN (Below.refl _ _) nd))
                   have HB7 := Aside0.mk (pw_below_drewN HB6.out nd)
                   generalize World.drewN _ nd = w7 at HS7 HB7 ⊢
                   have hk7 : w7.cell? ⟨w.heap.size, 0, none⟩ = some (.int .i64 1) := (blk_cell (HS7.out.get 0 rfl) 0).trans rfl
                   have hf7 := blk_frozen (HS7.out.get 0 rfl) 0))
                have e1 := w64s (a := i) (by have h1 := HIL.out; have h2 := HL.out; omega)
                go_roundw
                case rel => exact ⟨i + 1, by first | rw [e1] | go_num, ⟨HIL.out, fun j hj => by
                  rcases Nat.lt_or_ge j i with h1 | h1
                  · exact HI.out.2 j h1
                  · obtain rfl : j = i := by omega
                    exact (by unfold clashAt; rw [HRR.out]; rintro ⟨_, h2⟩; rw [if_pos rfl] at h2; exact h2.2 HRO.out)⟩, HS7, HB7⟩
                case measure => first | exact pmeas_at e1 HIL.out | exact pmeas_at2 HIL.out
              · have HCL : Aside0 (clashAt 1 W U l out i) := ⟨(by unfold clashAt; rw [HRR.out]; exact ⟨rfl, by rw [if_pos rfl]; exact ⟨HEQ.out, hro⟩⟩)⟩
                have HRO := Aside0.mk hro
                clear hro
                go_wp2_with (first
                | ((with_reducible refine gate_store (t := 50) (p := 6) rfl ?_)
                   refine wpList_store_rowTo rfl 50 (.tmp 6) (.tmp 88) rfl rfl (w.heap.size + 1) #[.int .i64 1, .int .i64 (K : Int), .int .i64 O, .int .i64 0, .slice none 0 0, .slice none 0 0, .int .i64 (most : Int), .slice AW W.length cW, .slice AU U.length cU, .slice AG G.length cG, .int .i64 h, .int .i64 m] rfl rfl 50 _ (HS7.out.get 1 rfl) ?_ ?_ (by simp [Value.oneCell']) ?_
                   (focus (rw [i50]; rfl))
                   (focus rfl)
                   have HSz := Aside0.mk (HS7.out.setStruct 1 rfl #[.int .i64 1, .int .i64 (K : Int), .int .i64 O, .int .i64 0, .slice none 0 0, .slice none 0 0, .int .i64 (most : Int), .slice AW W.length cW, .slice AU U.length cU, .slice AG G.length cG, .int .i64 h, .int .i64 m] HB7.out.size)
                   have HBz := Aside0.mk (below_setRow HB7.out (HS7.out.bound 1 rfl (show w.heap.size + 1 = w.heap.size + 1 from rfl)).1 #[.int .i64 1, .int .i64 (K : Int), .int .i64 O, .int .i64 0, .slice none 0 0, .slice none 0 0, .int .i64 (most : Int), .slice AW W.length cW, .slice AU U.length cU, .slice AG G.length cG, .int .i64 h, .int .i64 m])
                   generalize World.setRow _ (w.heap.size + 1) _ = wz at HSz HBz ⊢)
                | ((with_reducible refine gate_dst (N := 88) rfl ?_)
                   refine wpList_load_row rfl 50 (.tmp 3) rfl w.heap.size rfl 50 #[.int .i64 1, .int .i64 (K : Int), .int .i64 O, .int .i64 0, .slice none 0 0, .slice none 0 0, .int .i64 (most : Int), .slice AW W.length cW, .slice AU U.length cU, .slice AG G.length cG, .int .i64 h, .int .i64 m] (0, 0) _ (HS7.out.get 0 rfl) Try.underlying50 rfl ?_ ?_
                   (focus (rw [i50]; rfl)))
                | (go_at_call 17; refine (same_calls Af r1.length cf r1 A2 out.length c2 out w6 HF.out.2.C HF.out.1 (Kd.C_below HR2.out HB6.out) (by have := HC2.out; have := HOI.out; omega) HRL.out).mono ?_
                   rw [decide_eq_false HRO.out]
                   rintro e w7 ⟨rfl, ⟨nd, rfl⟩⟩
                   have HS7 := Aside0.mk (HS6.out.low (pw_below_drewN (Below.refl _ _) nd))
                   have HB7 := Aside0.mk (pw_below_drewN HB6.out nd)
                   generalize World.drewN _ nd = w7 at HS7 HB7 ⊢
                   have hk7 : w7.cell? ⟨w.heap.size, 0, none⟩ = some (.int .i64 1) := (blk_cell (HS7.out.get 0 rfl) 0).trans rfl
                   have hf7 := blk_frozen (HS7.out.get 0 rfl) 0))
                refine bodyPost_ret (results_ct rfl _ _ (w.heap.size + 1) 50 #[.int .i64 1, .int .i64 (K : Int), .int .i64 O, .int .i64 0, .slice none 0 0, .slice none 0 0, .int .i64 (most : Int), .slice AW W.length cW, .slice AU U.length cU, .slice AG G.length cG, .int .i64 h, .int .i64 m] (0, 0) _ rfl (HSz.out.get 1 rfl) Try.underlying50 rfl (by kernel_rfl)) rfl ?_
                exact RPutPost.no HP.out HW.out HU.out HG.out (refErr_clash HX.out HMEM.out ⟨i, by have := HIL.out; omega, HCL.out⟩) (by decide) HBz.out
          · have hbe : ((i : Int) == (l.length : Int)) = false := beq_eq_false_iff_ne.2 (by omega)
            have HEQ := Aside0.mk heq
            clear heq
            go_wp2
            have e1 := w64s (a := i) (by have h1 := HIL.out; have h2 := HL.out; omega)
            go_roundw
            case rel => exact ⟨i + 1, by first | rw [e1] | go_num, ⟨HIL.out, fun j hj => by
              rcases Nat.lt_or_ge j i with h1 | h1
              · exact HI.out.2 j h1
              · obtain rfl : j = i := by omega
                exact (by unfold clashAt; rw [HRR.out]; rintro ⟨_, h2⟩; rw [if_pos rfl] at h2; exact HEQ.out h2.1)⟩, HS6, HB6⟩
            case measure => first | exact pmeas_at e1 HIL.out | exact pmeas_at2 HIL.out
        · have hi' : ¬ ((i : Int) ≤ (l.length : Int)) := by omega
          have HNC : Aside0 (∀ j, j < l.length + 1 → ¬ clashAt 1 W U l out j) := ⟨fun j hj => HI.out.2 j (by omega)⟩
          clear hi HI
          have hk9 : wr.cell? ⟨w.heap.size, 9, none⟩ = some (.slice AG G.length cG) := (blk_cell (HSr.out.get 0 rfl) 9).trans rfl
          have hf9 := blk_frozen (HSr.out.get 0 rfl) 9
          have HZ0 : Aside0 ((w.heap.size + 2) ≤ wr.heap.size) := ⟨(HSr.out.bound 1 rfl (show w.heap.size + 1 = w.heap.size + 1 from rfl)).2⟩
          have HG0 : Aside0 (Wl (Since P (w.heap.size + 2) wr) wr (.slice AG G.length cG) (freshR G l 0)) := ⟨HG.out.move (fun _ hk => .inl hk) (fun k hk => HBr.out.block k (HP.out k hk))⟩
          go_wp2
          clear hk9 hf9
          go_loopw [14, 13] (fun v14 v13 wr => ∃ (j : Nat) (vF : Value), v14 = .int .i64 (j : Int) ∧ vF = v13 ∧ Aside0 (j ≤ l.length + 1) ∧ Aside0 (Wl (Since P (w.heap.size + 2) wr) wr vF (freshR G l j)) ∧ Aside0 (Sep w.heap.size [blk w.heap.size #[.int .i64 1, .int .i64 (K : Int), .int .i64 O, .int .i64 0, .slice none 0 0, .slice none 0 0, .int .i64 (most : Int), .slice AW W.length cW, .slice AU U.length cU, .slice AG G.length cG, .int .i64 h, .int .i64 m] 50, blk (w.heap.size + 1) #[.int .i64 0, .int .i64 0, .int .i64 0, .int .i64 0, .slice none 0 0, .slice none 0 0, .int .i64 0, .slice none 0 0, .slice none 0 0, .slice none 0 0, .int .i64 0, .int .i64 0] 50] wr) ∧ Aside0 (Below w.heap.size w wr)) (fun v14 _ _ => l.length + 1 - (intOf v14).toNat)
          case atStart => exact ⟨0, _, rfl, rfl, ⟨Nat.zero_le _⟩, HG0, HSr, HBr⟩
          case round =>
            clear HSr HBr HG0 HZ0
            obtain ⟨j, vF, rfl, hvF, HJ, HF, HSr, HBr⟩ := hrel
            subst hvF
            obtain ⟨F, hF⟩ : ∃ F, freshR G l j = F := ⟨_, rfl⟩
            rw [hF] at HF
            obtain ⟨AF, cF, hv⟩ := HF.out.val
            subst hv
            have HFB : Aside0 (F.length ≤ 4000002 ∧ ∀ x ∈ F, x.length ≤ 1000000) := ⟨by
              have h1 := freshR_len G l j
              rw [hF] at h1
              have h2 := HJ.out
              have h3 := HL.out
              have h4 := HGN.out
              omega, by rw [← hF]; exact freshR_all G l 1000000 HGL.out HL.out j⟩
            have HZ : Aside0 ((w.heap.size + 2) ≤ wr.heap.size) := ⟨(HSr.out.bound 1 rfl (show w.heap.size + 1 = w.heap.size + 1 from rfl)).2⟩
            have HFE := Aside0.mk hF
            clear hF
            by_cases hj : j < l.length + 1
            · have HJL := Aside0.mk hj
              have hj' : (j : Int) ≤ (l.length : Int) := by omega
              have hjc : (j : Int) ≤ (c1 : Int) := by have := HC1.out; omega
              clear hj
              by_cases hm : l.take j ∈ F
              · have HM := Aside0.mk hm
                clear hm
                go_wp2_with (first
                | (go_at_call 46; refine (Has_calls (.slice AF F.length cF) (Since P (w.heap.size + 2) wr) F A1 j c1 (l.take j) wr HF.out (C_cut (Kd.C_below HR1.out HBr.out) (by have := HJL.out; omega)) (by have h1 := HJL.out; have h2 := HC1.out; omega) (by have := HFB.out.1; omega) (fun x hx => by have := HFB.out.2 x hx; omega)).mono ?_
                   rw [decide_eq_true HM.out]
                   rintro e w2 ⟨rfl, ⟨nd, rfl⟩⟩
                   have HFn := Aside0.mk (HF.out.since (fun k hk => Nat.lt_of_lt_of_le (HP.out k hk) HBr.out.size) (pw_below_drewN (Below.refl _ _) nd))
                   have HSn := Aside0.mk (HSr.out.low (pw_below_drewN (Below.refl _ _) nd))
                   have HBn := Aside0.mk (pw_below_drewN HBr.out nd)
                   have HZn : Aside0 ((w.heap.size + 2) ≤ (World.drewN wr nd).heap.size) := ⟨Nat.le_trans HZ.out (pw_below_drewN (Below.refl wr.heap.size wr) nd).size⟩
                   clear HF HSr HBr
                   generalize World.drewN _ nd = wa at HFn HSn HBn HZn ⊢))
                have e1 := w64s (a := j) (by have h1 := HJL.out; have h2 := HL.out; omega)
                have e2 : freshR G l (j + 1) = F := by
                  show (if l.take j ∈ freshR G l j then freshR G l j else freshR G l j ++ [l.take j]) = _
                  rw [HFE.out, if_pos HM.out]
                go_roundw
                case rel => exact ⟨j + 1, _, by first | rw [e1] | go_num, rfl, ⟨HJL.out⟩, ⟨by rw [e2]; exact HFn.out⟩, HSn, HBn⟩
                case measure => first | exact pmeas_at e1 HJL.out | exact pmeas_at2 HJL.out
              · have HM := Aside0.mk hm
                clear hm
                go_wp2_with (first
                | (go_at_call 46; refine (Has_calls (.slice AF F.length cF) (Since P (w.heap.size + 2) wr) F A1 j c1 (l.take j) wr HF.out (C_cut (Kd.C_below HR1.out HBr.out) (by have := HJL.out; omega)) (by have h1 := HJL.out; have h2 := HC1.out; omega) (by have := HFB.out.1; omega) (fun x hx => by have := HFB.out.2 x hx; omega)).mono ?_
                   rw [decide_eq_false HM.out]
                   rintro e w2 ⟨rfl, ⟨nd, rfl⟩⟩
                   have HFn := Aside0.mk (HF.out.since (fun k hk => Nat.lt_of_lt_of_le (HP.out k hk) HBr.out.size) (pw_below_drewN (Below.refl _ _) nd))
                   have HSn := Aside0.mk (HSr.out.low (pw_below_drewN (Below.refl _ _) nd))
                   have HBn := Aside0.mk (pw_below_drewN HBr.out nd)
                   have HZn : Aside0 ((w.heap.size + 2) ≤ (World.drewN wr nd).heap.size) := ⟨Nat.le_trans HZ.out (pw_below_drewN (Below.refl wr.heap.size wr) nd).size⟩
                   clear HF HSr HBr
                   generalize World.drewN _ nd = wa at HFn HSn HBn HZn ⊢))
                have HPA : Aside0 (∀ k, P k → k < wa.heap.size) := ⟨fun k hk => Nat.lt_of_lt_of_le (HP.out k hk) HBn.out.size⟩
                have HNA := HZn
                refine start_ (n := 11) (S := fun w' => Below wa.heap.size wa w') (ds := [9]) #[false, false, false, false, false, false, false, false, false, false, false] (by kernel_rfl) rfl rfl (below_drew1 (Below.refl _ _)) (fun hHeld => ?_)
                refine with_tabW rp.tab18 rp.bits18 (fun HT_ HW_ => ?_)
                generalize wa.drew = wd at hHeld ⊢
                have hsep : Sp.Sep wa.heap.size [Sp.none_, Sp.none_, Sp.none_] wd := Sp.Sep.start _ 3 _
                have hbel := hHeld
                refine pure_ (i := 1) (N := (some 104)) (v := ?_) (a' := ?_) #[false, true, false, false, false, false, false, false, false, false, false] rfl rfl (any_of HT_.out (by kernel_rfl)) (fun _ _ _ h => h) (Or.inl ⟨by rfl, ?_⟩) ?_ ?_
                rotate_left
                · intro w'
                  go_simp
                  with_reducible rfl
                rotate_left
                · simp only [Act.put, List.setIfInBounds_toArray, List.set_cons_zero, List.set_cons_succ, i64_w, i32_w]
                  rfl
                refine pure_ (i := 4) (N := (some 107)) (v := ?_) (a' := ?_) #[false, true, false, false, true, false, false, false, false, false, false] rfl rfl (any_of HT_.out (by kernel_rfl)) (fun _ _ _ h => h) (Or.inl ⟨by rfl, ?_⟩) ?_ ?_
                rotate_left
                · intro w'
                  go_simp
                  with_reducible rfl
                rotate_left
                · simp only [Act.put, List.setIfInBounds_toArray, List.set_cons_zero, List.set_cons_succ, i64_w, i32_w]
                  rfl
                refine pure_ (i := 5) (N := (some 108)) (v := ?_) (a' := ?_) #[false, true, false, false, true, true, false, false, false, false, false] rfl rfl (any_of HT_.out (by kernel_rfl)) (fun _ _ _ h => h) (Or.inl ⟨by rfl, ?_⟩) ?_ ?_
                rotate_left
                · intro w'
                  go_simp
                  with_reducible rfl
                rotate_left
                · simp only [Act.put, List.setIfInBounds_toArray, List.set_cons_zero, List.set_cons_succ, i64_w, i32_w]
                  rfl
                refine pure_ (i := 6) (N := (some 109)) (v := ?_) (a' := ?_) #[false, true, false, false, true, true, true, false, false, false, false] rfl rfl (any_of HT_.out (by kernel_rfl)) (fun _ _ _ h => h) (Or.inl ⟨by rfl, ?_⟩) ?_ ?_
                rotate_left
                · intro w'
                  go_simp
                  with_reducible rfl
                rotate_left
                · simp only [Act.put, List.setIfInBounds_toArray, List.set_cons_zero, List.set_cons_succ, i64_w, i32_w]
                  rfl
                refine join_ (σ := Value × Value × Value) 4 #[true, true, true, true, true, true, true, false, false, false, false] (fun s_ => [(103, s_.1), (105, s_.2.1), (106, s_.2.2)]) (fun s_ w' => Sp.Sep wa.heap.size [Sp.row (kL (Since P (w.heap.size + 2) wa) wa) 22 wa.heap.size s_.2.1 F, Sp.ints wa.heap.size s_.2.2 [], Sp.none_] w' ∧ Below wa.heap.size wa w') ?_ ?_
                rotate_left
                · intro hJ0_2_3
                  refine join_ (σ := Value × Value) 5 #[true, true, false, true, true, true, true, false, false, false, false] (fun s_ => [(103, s_.1), (106, s_.2)]) (fun s_ w' => Sp.Sep wa.heap.size [Sp.row (kL (Since P (w.heap.size + 2) wa) wa) 22 wa.heap.size s_.1 [], Sp.ints wa.heap.size s_.2 [], Sp.none_] w' ∧ Below wa.heap.size wa w') ?_ ?_
                  rotate_left
                  · intro hJ0_3
                    refine two_ (i := 0) (j := 3) (Ni := some 103) (Nj := some 106) #[true, true, false, false, true, true, true, false, false, false, false] #[false, true, false, true, true, true, true, false, false, false, false] rfl rfl rfl rfl (two_of HT_.out (by kernel_rfl)) (by decide) (by decide) (fun Kc hK => ?_) (fun Kc hK => ?_)
                    · skip
                      refine Kd.R_lit_step (kL (Since P (w.heap.size + 2) wa) wa) (w0 := wa) wa.heap.size 22 (by rfl) (N := 103) rfl (xs := ([] : List (List Int))) (inner := []) (ok := fun _ => True) (okp := fun _ => True) ?hr ?hp (fun _ hk => hk) trivial hbel hbel.size (by simp) ?_
                      (case hr => first | (go_simp; done) | (go_simp; rfl))
                      (case hp => exact (Reps.none _ _))
                      intro v1 w1 ho hb hg hnew
                      have hsep1 : Sp.Sep wa.heap.size [Sp.row (kL (Since P (w.heap.size + 2) wa) wa) 22 wa.heap.size v1 [], Sp.none_, Sp.none_] w1 := hsep.fillNew 0 rfl rfl ho hg hnew hbel.size
                      have hbel1 := hb
                      clear ho hb hg hnew
                      refine hK.out _ _ hbel1 (fun hHeld => ?_)
                      clear hK Kc hsep hbel
                      have hsep := hsep1
                      have hbel := hbel1
                      clear hsep1 hbel1
                      refine norm_ (a' := ?_) ?_ ?_
                      rotate_left
                      · show Act.put _ (some 103) _ = _
                        simp only [Act.put, List.setIfInBounds_toArray, List.set_cons_zero, List.set_cons_succ, i64_w, i32_w]
                        rfl
                      refine two_ (i := 2) (j := 3) (Ni := some 105) (Nj := some 106) #[true, true, true, false, true, true, true, false, false, false, false] #[true, true, false, true, true, true, true, false, false, false, false] rfl rfl rfl rfl (two_of HT_.out (by kernel_rfl)) (by decide) (by decide) (fun Kc hK => ?_) (fun Kc hK => ?_)
                      · skip
                        refine Kd.R_append_rows_step (kL (Since P (w.heap.size + 2) wa) wa) (w0 := wa) wa.heap.size (by rfl) (.tmp 103) (.tmp 104) 25 22 (.slice none 0 0) 24 rfl Try.underlying25 info22 rfl (show 0 < 1 by decide) (by omega) v1 [] F AF F.length cF (fun _ => True) (fun _ => False) rfl rfl (Kd.R_mono (hsep.get 0 rfl) (fun _ _ => trivial)) (Kd.C_below (Wl.rows HFn.out) hbel) (fun _ _ h => h) (fun _ h => h.elim) (fun _ _ => trivial) hbel hbel.size (by rw [List.length_nil, Nat.zero_add]; have h3 := HFB.out.1; omega) ?_
                        intro v2 w1 ho hb hg hat
                        rw [List.nil_append] at ho
                        have hsep1 : Sp.Sep wa.heap.size [Sp.row (kL (Since P (w.heap.size + 2) wa) wa) 22 wa.heap.size v2 F, Sp.none_, Sp.none_] w1 := hsep.app 0 rfl rfl ho hg hat hbel.size
                        have hbel1 := hb
                        clear ho hb hg hat
                        refine hK.out _ _ hbel1 (fun hHeld => ?_)
                        clear hK Kc hsep hbel
                        have hsep := hsep1
                        have hbel := hbel1
                        clear hsep1 hbel1
                        refine norm_ (a' := ?_) ?_ ?_
                        rotate_left
                        · show Act.put _ (some 105) _ = _
                          simp only [Act.put, List.setIfInBounds_toArray, List.set_cons_zero, List.set_cons_succ, i64_w, i32_w]
                          rfl
                        refine one_ (i := 3) (N := some 106) #[true, true, true, true, true, true, true, false, false, false, false] rfl rfl (one_of HT_.out (by kernel_rfl)) (by decide) (fun Kc hK => ?_)
                        refine Kd.R_lit_step (Kd.int .i64) (w0 := wa) wa.heap.size 3 (by rfl) (N := 106) rfl (xs := ([] : List Int)) (inner := []) (ok := fun _ => True) (okp := fun _ => True) ?hr ?hp (fun _ hk => hk) trivial hbel hbel.size (by simp) ?_
                        (case hr => first | (go_simp; done) | (go_simp; rfl))
                        (case hp => exact (Reps.none _ _))
                        intro v3 w1 ho hb hg hnew
                        have hsep1 : Sp.Sep wa.heap.size [Sp.row (kL (Since P (w.heap.size + 2) wa) wa) 22 wa.heap.size v2 F, Sp.ints wa.heap.size v3 [], Sp.none_] w1 := hsep.fillNew 1 rfl rfl ho hg hnew hbel.size
                        have hbel1 := hb
                        clear ho hb hg hnew
                        refine hK.out _ _ hbel1 (fun hHeld => ?_)
                        clear hK Kc hsep hbel
                        have hsep := hsep1
                        have hbel := hbel1
                        clear hsep1 hbel1
                        refine norm_ (a' := ?_) ?_ ?_
                        rotate_left
                        · show Act.put _ (some 106) _ = _
                          simp only [Act.put, List.setIfInBounds_toArray, List.set_cons_zero, List.set_cons_succ, i64_w, i32_w]
                          rfl
                        exact norm_ (by first | (simp only [putAll, Act.put, List.setIfInBounds_toArray, List.set_cons_zero, List.set_cons_succ]; done) | (simp only [putAll, Act.put, List.setIfInBounds_toArray, List.set_cons_zero, List.set_cons_succ]; rfl)) (hJ0_2_3 (v1, v2, v3) _ ⟨hsep, hbel⟩)
                      · skip
                        refine Kd.R_lit_step (Kd.int .i64) (w0 := wa) wa.heap.size 3 (by rfl) (N := 106) rfl (xs := ([] : List Int)) (inner := []) (ok := fun _ => True) (okp := fun _ => True) ?hr ?hp (fun _ hk => hk) trivial hbel hbel.size (by simp) ?_
                        (case hr => first | (go_simp; done) | (go_simp; rfl))
                        (case hp => exact (Reps.none _ _))
                        intro v3 w1 ho hb hg hnew
                        have hsep1 : Sp.Sep wa.heap.size [Sp.row (kL (Since P (w.heap.size + 2) wa) wa) 22 wa.heap.size v1 [], Sp.ints wa.heap.size v3 [], Sp.none_] w1 := hsep.fillNew 1 rfl rfl ho hg hnew hbel.size
                        have hbel1 := hb
                        clear ho hb hg hnew
                        refine hK.out _ _ hbel1 (fun hHeld => ?_)
                        clear hK Kc hsep hbel
                        have hsep := hsep1
                        have hbel := hbel1
                        clear hsep1 hbel1
                        refine norm_ (a' := ?_) ?_ ?_
                        rotate_left
                        · show Act.put _ (some 106) _ = _
                          simp only [Act.put, List.setIfInBounds_toArray, List.set_cons_zero, List.set_cons_succ, i64_w, i32_w]
                          rfl
                        exact norm_ (by first | (simp only [putAll, Act.put, List.setIfInBounds_toArray, List.set_cons_zero, List.set_cons_succ]; done) | (simp only [putAll, Act.put, List.setIfInBounds_toArray, List.set_cons_zero, List.set_cons_succ]; rfl)) (hJ0_3 (v1, v3) _ ⟨hsep, hbel⟩)
                    · skip
                      refine Kd.R_lit_step (Kd.int .i64) (w0 := wa) wa.heap.size 3 (by rfl) (N := 106) rfl (xs := ([] : List Int)) (inner := []) (ok := fun _ => True) (okp := fun _ => True) ?hr ?hp (fun _ hk => hk) trivial hbel hbel.size (by simp) ?_
                      (case hr => first | (go_simp; done) | (go_simp; rfl))
                      (case hp => exact (Reps.none _ _))
                      intro v3 w1 ho hb hg hnew
                      have hsep1 : Sp.Sep wa.heap.size [Sp.none_, Sp.ints wa.heap.size v3 [], Sp.none_] w1 := hsep.fillNew 1 rfl rfl ho hg hnew hbel.size
                      have hbel1 := hb
                      clear ho hb hg hnew
                      refine hK.out _ _ hbel1 (fun hHeld => ?_)
                      clear hK Kc hsep hbel
                      have hsep := hsep1
                      have hbel := hbel1
                      clear hsep1 hbel1
                      refine norm_ (a' := ?_) ?_ ?_
                      rotate_left
                      · show Act.put _ (some 106) _ = _
                        simp only [Act.put, List.setIfInBounds_toArray, List.set_cons_zero, List.set_cons_succ, i64_w, i32_w]
                        rfl
                      refine one_ (i := 0) (N := some 103) #[true, true, false, true, true, true, true, false, false, false, false] rfl rfl (one_of HT_.out (by kernel_rfl)) (by decide) (fun Kc hK => ?_)
                      refine Kd.R_lit_step (kL (Since P (w.heap.size + 2) wa) wa) (w0 := wa) wa.heap.size 22 (by rfl) (N := 103) rfl (xs := ([] : List (List Int))) (inner := []) (ok := fun _ => True) (okp := fun _ => True) ?hr ?hp (fun _ hk => hk) trivial hbel hbel.size (by simp) ?_
                      (case hr => first | (go_simp; done) | (go_simp; rfl))
                      (case hp => exact (Reps.none _ _))
                      intro v1 w1 ho hb hg hnew
                      have hsep1 : Sp.Sep wa.heap.size [Sp.row (kL (Since P (w.heap.size + 2) wa) wa) 22 wa.heap.size v1 [], Sp.ints wa.heap.size v3 [], Sp.none_] w1 := hsep.fillNew 0 rfl rfl ho hg hnew hbel.size
                      have hbel1 := hb
                      clear ho hb hg hnew
                      refine hK.out _ _ hbel1 (fun hHeld => ?_)
                      clear hK Kc hsep hbel
                      have hsep := hsep1
                      have hbel := hbel1
                      clear hsep1 hbel1
                      refine norm_ (a' := ?_) ?_ ?_
                      rotate_left
                      · show Act.put _ (some 103) _ = _
                        simp only [Act.put, List.setIfInBounds_toArray, List.set_cons_zero, List.set_cons_succ, i64_w, i32_w]
                        rfl
                      exact norm_ (by first | (simp only [putAll, Act.put, List.setIfInBounds_toArray, List.set_cons_zero, List.set_cons_succ]; done) | (simp only [putAll, Act.put, List.setIfInBounds_toArray, List.set_cons_zero, List.set_cons_succ]; rfl)) (hJ0_3 (v1, v3) _ ⟨hsep, hbel⟩)
                  rintro ⟨v1, v3⟩ wj ⟨hsep, hbel⟩
                  try dsimp only at hsep
                  have hHeld : Below wa.heap.size wa wj := hbel
                  refine norm_ (a' := ?_) ?_ ?_
                  rotate_left
                  · simp only [putAll, Act.put, List.setIfInBounds_toArray, List.set_cons_zero, List.set_cons_succ]
                    rfl
                  refine one_ (i := 2) (N := some 105) #[true, true, true, true, true, true, true, false, false, false, false] rfl rfl (one_of HT_.out (by kernel_rfl)) (by decide) (fun Kc hK => ?_)
                  refine Kd.R_append_rows_step (kL (Since P (w.heap.size + 2) wa) wa) (w0 := wa) wa.heap.size (by rfl) (.tmp 103) (.tmp 104) 25 22 (.slice none 0 0) 24 rfl Try.underlying25 info22 rfl (show 0 < 1 by decide) (by omega) v1 [] F AF F.length cF (fun _ => True) (fun _ => False) rfl rfl (Kd.R_mono (hsep.get 0 rfl) (fun _ _ => trivial)) (Kd.C_below (Wl.rows HFn.out) hbel) (fun _ _ h => h) (fun _ h => h.elim) (fun _ _ => trivial) hbel hbel.size (by rw [List.length_nil, Nat.zero_add]; have h3 := HFB.out.1; omega) ?_
                  intro v2 w1 ho hb hg hat
                  rw [List.nil_append] at ho
                  have hsep1 : Sp.Sep wa.heap.size [Sp.row (kL (Since P (w.heap.size + 2) wa) wa) 22 wa.heap.size v2 F, Sp.ints wa.heap.size v3 [], Sp.none_] w1 := hsep.app 0 rfl rfl ho hg hat hbel.size
                  have hbel1 := hb
                  clear ho hb hg hat
                  refine hK.out _ _ hbel1 (fun hHeld => ?_)
                  clear hK Kc hsep hbel
                  have hsep := hsep1
                  have hbel := hbel1
                  clear hsep1 hbel1
                  refine norm_ (a' := ?_) ?_ ?_
                  rotate_left
                  · show Act.put _ (some 105) _ = _
                    simp only [Act.put, List.setIfInBounds_toArray, List.set_cons_zero, List.set_cons_succ, i64_w, i32_w]
                    rfl
                  exact norm_ (by first | (simp only [putAll, Act.put, List.setIfInBounds_toArray, List.set_cons_zero, List.set_cons_succ]; done) | (simp only [putAll, Act.put, List.setIfInBounds_toArray, List.set_cons_zero, List.set_cons_succ]; rfl)) (hJ0_2_3 (v1, v2, v3) _ ⟨hsep, hbel⟩)
                rintro ⟨v1, v2, v3⟩ wj ⟨hsep, hbel⟩
                try dsimp only at hsep
                have hHeld : Below wa.heap.size wa wj := hbel
                refine norm_ (a' := ?_) ?_ ?_
                rotate_left
                · simp only [putAll, Act.put, List.setIfInBounds_toArray, List.set_cons_zero, List.set_cons_succ]
                  rfl
                refine one_ (i := 7) (N := some 110) #[true, true, true, true, true, true, true, true, false, false, false] rfl rfl (one_of HT_.out (by kernel_rfl)) (by decide) (fun Kc hK => ?_)
                refine Kd.R_append_rows_step (Kd.int .i64) (w0 := wa) wa.heap.size (by rfl) (.tmp 106) (.tmp 109) 22 3 (.int .i64 0) 8 rfl Try.underlying22 info3 rfl (by decide) (by omega) v3 [] (l.take j) A1 j c1 (fun _ => True) (fun _ => False) rfl rfl (Kd.R_mono (hsep.get 1 rfl) (fun _ _ => trivial)) (C_cut (Kd.C_below HR1.out (below_step HBn.out hbel)) (by have := HJL.out; omega)) (fun _ _ h => h) (fun _ h => h.elim) (fun _ _ => trivial) hbel hbel.size (by rw [List.length_nil, Nat.zero_add]; have h1 := HJL.out; have h2 := HL.out; omega) ?_
                intro v7 w1 ho hb hg hat
                rw [List.nil_append] at ho
                obtain ⟨A7, c7, hv⟩ := Kd.R_slice ho
                rw [List.length_take, Nat.min_eq_left (by have := HJL.out; omega)] at hv
                subst hv
                have hsep1 : Sp.Sep wa.heap.size [Sp.row (kL (Since P (w.heap.size + 2) wa) wa) 22 wa.heap.size v2 F, Sp.ints wa.heap.size (.slice A7 j c7) (l.take j), Sp.none_] w1 := hsep.app 1 rfl rfl ho hg hat hbel.size
                have hbel1 := hb
                clear ho hb hg hat
                refine hK.out _ _ hbel1 (fun hHeld => ?_)
                clear hK Kc hsep hbel
                have hsep := hsep1
                have hbel := hbel1
                clear hsep1 hbel1
                refine norm_ (a' := ?_) ?_ ?_
                rotate_left
                · show Act.put _ (some 110) _ = _
                  simp only [Act.put, List.setIfInBounds_toArray, List.set_cons_zero, List.set_cons_succ, i64_w, i32_w]
                  rfl
                refine one_ (i := 8) (N := some 111) #[true, true, true, true, true, true, true, true, true, false, false] rfl rfl (one_of HT_.out (by kernel_rfl)) (by decide) (fun Kc hK => ?_)
                refine Kd.R_lit_step kH (w0 := wa) wa.heap.size 22 (by rfl) (N := 111) rfl (xs := [(A7, j, c7)]) (inner := [.slice A7 j c7]) (ok := fun _ => True) (okp := fun _ => True) ?hr ?hp (fun _ hk => hk) trivial hbel hbel.size (by simp) ?_
                (case hr => first | (go_simp; done) | (go_simp; rfl))
                (case hp => exact one_rep _)
                intro v8 w1 ho hb hg hnew
                obtain ⟨A8, c8, hv⟩ := Kd.R_slice ho
                have hv' : v8 = .slice A8 1 c8 := hv
                subst hv'
                clear hv
                have hsep1 : Sp.Sep wa.heap.size [Sp.row (kL (Since P (w.heap.size + 2) wa) wa) 22 wa.heap.size v2 F, Sp.ints wa.heap.size (.slice A7 j c7) (l.take j), Sp.row kH 22 wa.heap.size (.slice A8 1 c8) [(A7, j, c7)]] w1 := hsep.fillNew 2 rfl rfl ho hg hnew hbel.size
                have hbel1 := hb
                clear ho hb hg hnew
                refine hK.out _ _ hbel1 (fun hHeld => ?_)
                clear hK Kc hsep hbel
                have hsep := hsep1
                have hbel := hbel1
                clear hsep1 hbel1
                refine norm_ (a' := ?_) ?_ ?_
                rotate_left
                · show Act.put _ (some 111) _ = _
                  simp only [Act.put, List.setIfInBounds_toArray, List.set_cons_zero, List.set_cons_succ, i64_w, i32_w]
                  rfl
                refine last_ (i := 9) (N := some 112) #[true, true, true, true, true, true, true, true, true, true, false] rfl rfl (one_of HT_.out (by kernel_rfl)) (by decide) (fun Kc hK => ?_)
                rename World => wj
                refine Kd.R_append_rows_step (kL (With (Since P (w.heap.size + 2) wa) (.slice A7 j c7)) wj) (w0 := wa) wa.heap.size (by rfl) (.tmp 105) (.tmp 111) 25 22 (.slice none 0 0) 24 rfl Try.underlying25 info22 rfl (show 0 < 1 by decide) (by omega) v2 F [l.take j] A8 1 c8 (fun _ => True) (fun _ => False) rfl rfl (add_rows HPA.out hbel (hsep.get 0 rfl)) (add_one (hsep.get 1 rfl) (hsep.get 2 rfl)) (fun _ _ h => h) (fun _ h => h.elim) (fun _ _ => trivial) hbel hbel.size (by have h3 := HFB.out.1; omega) ?_
                intro v9 w9 ho hb hg hat
                have hq := added HPA.out HNA.out hbel (fun k hk => hsep.bound 0 rfl (show some k = v2.ownBlock from hk.symm)) (fun k hk => ⟨(hsep.bound 1 rfl (show some k = _ from hk.symm)).1, (hsep.bound 1 rfl (show some k = _ from hk.symm)).2, fun e => hsep.apart (i := 0) (j := 1) rfl rfl (by decide) (show some k = v2.ownBlock from e.symm) (show some k = _ from hk.symm)⟩) ho hb hg hat
                have HF9 := Aside0.mk hq
                have HS9 := Aside0.mk (HSn.out.low hb)
                have HB9 := Aside0.mk (below_step HBn.out hb)
                clear ho hb hg hat hq
                refine hK.out _ _ ?_
                clear hK Kc hsep hbel
                refine norm_ (a' := ?_) ?_ ?_
                rotate_left
                · show Act.put _ (some 112) _ = _
                  simp only [Act.put, List.setIfInBounds_toArray, List.set_cons_zero, List.set_cons_succ, i64_w, i32_w]
                  rfl
                refine pure_ (i := 10) (N := (some 13)) (v := ?_) (a' := ?_) #[true, true, true, true, true, true, true, true, true, true, true] rfl rfl (any_of HT_.out (by kernel_rfl)) (fun _ _ _ h => h) (Or.inl ⟨by rfl, ?_⟩) ?_ ?_
                rotate_left
                · intro w'
                  go_simp
                  with_reducible rfl
                rotate_left
                · simp only [Act.put, List.setIfInBounds_toArray, List.set_cons_zero, List.set_cons_succ, i64_w, i32_w]
                  rfl
                refine done_ (done_of HT_.out (by kernel_rfl)) ?_
                go_wp2
                have e1 := w64s (a := j) (by have h1 := HJL.out; have h2 := HL.out; omega)
                have e2 : freshR G l (j + 1) = F ++ [l.take j] := by
                  show (if l.take j ∈ freshR G l j then freshR G l j else freshR G l j ++ [l.take j]) = _
                  rw [HFE.out, if_neg HM.out]
                go_roundw
                case rel => exact ⟨j + 1, _, by first | rw [e1] | go_num, rfl, ⟨HJL.out⟩, ⟨by rw [e2]; exact HF9.out⟩, HS9, HB9⟩
                case measure => first | exact pmeas_at e1 HJL.out | exact pmeas_at2 HJL.out
            · have hj' : ¬ ((j : Int) ≤ (l.length : Int)) := by omega
              obtain rfl : j = l.length + 1 := by have := HJ.out; omega
              have hk6 : wr.cell? ⟨w.heap.size, 6, none⟩ = some (.int .i64 (most : Int)) := (blk_cell (HSr.out.get 0 rfl) 6).trans rfl
              have hf6 := blk_frozen (HSr.out.get 0 rfl) 6
              clear hj
              by_cases hfu : F.length > most
              · have hfu' : (F.length : Int) > (most : Int) := by omega
                have HFU := Aside0.mk hfu
                clear hfu
                go_wp2_with (first
                | ((with_reducible refine gate_store (t := 50) (p := 6) rfl ?_)
                   refine wpList_store_rowTo rfl 50 (.tmp 6) (.tmp 118) rfl rfl (w.heap.size + 1) #[.int .i64 1, .int .i64 (K : Int), .int .i64 O, .int .i64 0, .slice none 0 0, .slice none 0 0, .int .i64 (most : Int), .slice AW W.length cW, .slice AU U.length cU, .slice AG G.length cG, .int .i64 h, .int .i64 m] rfl rfl 50 _ (HSr.out.get 1 rfl) ?_ ?_ (by simp [Value.oneCell']) ?_
                   (focus (rw [i50]; rfl))
                   (focus rfl)
                   have HSz := Aside0.mk (HSr.out.setStruct 1 rfl #[.int .i64 1, .int .i64 (K : Int), .int .i64 O, .int .i64 0, .slice none 0 0, .slice none 0 0, .int .i64 (most : Int), .slice AW W.length cW, .slice AU U.length cU, .slice AG G.length cG, .int .i64 h, .int .i64 m] HBr.out.size)
                   have HBz := Aside0.mk (below_setRow HBr.out (HSr.out.bound 1 rfl (show w.heap.size + 1 = w.heap.size + 1 from rfl)).1 #[.int .i64 1, .int .i64 (K : Int), .int .i64 O, .int .i64 0, .slice none 0 0, .slice none 0 0, .int .i64 (most : Int), .slice AW W.length cW, .slice AU U.length cU, .slice AG G.length cG, .int .i64 h, .int .i64 m])
                   generalize World.setRow _ (w.heap.size + 1) _ = wz at HSz HBz ⊢)
                | ((with_reducible refine gate_dst (N := 118) rfl ?_)
                   refine wpList_load_row rfl 50 (.tmp 3) rfl w.heap.size rfl 50 #[.int .i64 1, .int .i64 (K : Int), .int .i64 O, .int .i64 0, .slice none 0 0, .slice none 0 0, .int .i64 (most : Int), .slice AW W.length cW, .slice AU U.length cU, .slice AG G.length cG, .int .i64 h, .int .i64 m] (0, 0) _ (HSr.out.get 0 rfl) Try.underlying50 rfl ?_ ?_
                   (focus (rw [i50]; rfl))))
                refine bodyPost_ret (results_ct rfl _ _ (w.heap.size + 1) 50 #[.int .i64 1, .int .i64 (K : Int), .int .i64 O, .int .i64 0, .slice none 0 0, .slice none 0 0, .int .i64 (most : Int), .slice AW W.length cW, .slice AU U.length cU, .slice AG G.length cG, .int .i64 h, .int .i64 m] (0, 0) _ rfl (HSz.out.get 1 rfl) Try.underlying50 rfl (by kernel_rfl)) rfl ?_
                exact RPutPost.no HP.out HW.out HU.out HG.out ((refErr_full HX.out HMEM.out HNC.out).trans (if_pos (by rw [HFE.out]; exact HFU.out))) (by decide) HBz.out
              · have hfu' : ¬ ((F.length : Int) > (most : Int)) := by omega
                have HFU := Aside0.mk hfu
                clear hfu
                have hkr9 : wr.cell? ⟨w.heap.size, 9, none⟩ = some (.slice AG G.length cG) := (blk_cell (HSr.out.get 0 rfl) 9).trans rfl
                have hfr9 := blk_frozen (HSr.out.get 0 rfl) 9
                go_wp2_with (first
                | ((with_reducible refine gate_store (t := 50) (p := 6) rfl ?_)
                   refine wpList_store_rowTo rfl 50 (.tmp 6) (.tmp 141) rfl rfl (w.heap.size + 1) #[.int .i64 1, .int .i64 (K : Int), .int .i64 O, .int .i64 0, .slice none 0 0, .slice none 0 0, .int .i64 (most : Int), .slice AW2 W2.length cW2, .slice AU2 U2.length cU2, .slice AF F.length cF, .int .i64 h, .int .i64 m] rfl rfl 50 _ (HSaz.out.get 1 rfl) ?_ ?_ (by simp [Value.oneCell']) ?_
                   (focus (rw [i50]; rfl))
                   (focus rfl)
                   have HSz := Aside0.mk (HSaz.out.setStruct 1 rfl #[.int .i64 1, .int .i64 (K : Int), .int .i64 O, .int .i64 0, .slice none 0 0, .slice none 0 0, .int .i64 (most : Int), .slice AW2 W2.length cW2, .slice AU2 U2.length cU2, .slice AF F.length cF, .int .i64 h, .int .i64 m] HBaz.out.size)
                   have HBz := Aside0.mk (below_setRow HBaz.out (HSaz.out.bound 1 rfl (show w.heap.size + 1 = w.heap.size + 1 from rfl)).1 #[.int .i64 1, .int .i64 (K : Int), .int .i64 O, .int .i64 0, .slice none 0 0, .slice none 0 0, .int .i64 (most : Int), .slice AW2 W2.length cW2, .slice AU2 U2.length cU2, .slice AF F.length cF, .int .i64 h, .int .i64 m])
                   have HFe := Aside0.mk (Wl.rowset HP.out HFz.out #[.int .i64 1, .int .i64 (K : Int), .int .i64 O, .int .i64 0, .slice none 0 0, .slice none 0 0, .int .i64 (most : Int), .slice AW2 W2.length cW2, .slice AU2 U2.length cU2, .slice AF F.length cF, .int .i64 h, .int .i64 m])
                   have HWe := Aside0.mk (Wl.rowset HP.out HWz.out #[.int .i64 1, .int .i64 (K : Int), .int .i64 O, .int .i64 0, .slice none 0 0, .slice none 0 0, .int .i64 (most : Int), .slice AW2 W2.length cW2, .slice AU2 U2.length cU2, .slice AF F.length cF, .int .i64 h, .int .i64 m])
                   have HUe := Aside0.mk (Wl.rowset HP.out HUz.out #[.int .i64 1, .int .i64 (K : Int), .int .i64 O, .int .i64 0, .slice none 0 0, .slice none 0 0, .int .i64 (most : Int), .slice AW2 W2.length cW2, .slice AU2 U2.length cU2, .slice AF F.length cF, .int .i64 h, .int .i64 m])
                   generalize World.setRow _ (w.heap.size + 1) _ = wz at HSz HBz HFe HWe HUe ⊢)
                | ((with_reducible refine gate_dst (N := 141) rfl ?_)
                   have HSaz := Aside0.mk (HSy6.out.cell 0 rfl 8 (.slice AU2 U2.length cU2) (cs' := #[.int .i64 1, .int .i64 (K : Int), .int .i64 O, .int .i64 0, .slice none 0 0, .slice none 0 0, .int .i64 (most : Int), .slice AW2 W2.length cW2, .slice AU2 U2.length cU2, .slice AF F.length cF, .int .i64 h, .int .i64 m]) rfl HBy6.out.size)
                   have HBaz := Aside0.mk (HSy6.out.belowSet (j := 8) (u := .slice AU2 U2.length cU2) 0 rfl HBy6.out)
                   have HFz := Aside0.mk (Wl.cell HP.out HFy6.out 8 (.slice AU2 U2.length cU2))
                   have HWz := Aside0.mk (Wl.cell HP.out HWy6.out 8 (.slice AU2 U2.length cU2))
                   have HUz := Aside0.mk (Wl.cell HP.out HU2.out 8 (.slice AU2 U2.length cU2))
                   generalize World.setCell wy6 ⟨w.heap.size, 8, none⟩ _ = waz at HSaz HBaz HFz HWz HUz ⊢
                   refine wpList_load_row rfl 50 (.tmp 3) rfl w.heap.size rfl 50 #[.int .i64 1, .int .i64 (K : Int), .int .i64 O, .int .i64 0, .slice none 0 0, .slice none 0 0, .int .i64 (most : Int), .slice AW2 W2.length cW2, .slice AU2 U2.length cU2, .slice AF F.length cF, .int .i64 h, .int .i64 m] (0, 0) _ (HSaz.out.get 0 rfl) Try.underlying50 rfl ?_ ?_
                   (focus (rw [i50]; rfl)))
                | ((with_reducible refine gate_builtin (b := .append) (xs := #[.tmp 134, .tmp 138]) rfl ?_)
                   at_builtin
                   refine Kd.R_append_rows (kL (With (Since P (w.heap.size + 2) way) (.slice Ay7 out.length cy7)) wy5) (w0 := way) way.heap.size rfl (.tmp 134) (.tmp 138) 25 22 (.slice none 0 0) 24 rfl Try.underlying25 info22 rfl (show 0 < 1 by decide) (by omega) vy2 U [out] Ay8 1 cy8 (fun _ => True) (fun _ => False) rfl rfl (add_rows HyPA.out HyQ5.out (HyP5.out.get 0 rfl)) (add_one (HyP5.out.get 1 rfl) (HyP5.out.get 2 rfl)) (fun _ _ h => h) (fun _ h => h.elim) (fun _ _ => trivial) HyQ5.out HyQ5.out.size (by have h1 := HUN.out; omega) ?_
                   intro vy6 wy6 ho hb hg hat
                   have hq := added HyPA.out HyNA.out HyQ5.out (fun k hk => HyP5.out.bound 0 rfl (show some k = vy2.ownBlock from hk.symm)) (fun k hk => ⟨(HyP5.out.bound 1 rfl (show some k = _ from hk.symm)).1, (HyP5.out.bound 1 rfl (show some k = _ from hk.symm)).2, fun e => HyP5.out.apart (i := 0) (j := 1) rfl rfl (by decide) (show some k = vy2.ownBlock from e.symm) (show some k = _ from hk.symm)⟩) ho hb hg hat
                   obtain ⟨U2, hU2⟩ : ∃ U2, U ++ [out] = U2 := ⟨_, rfl⟩
                   rw [hU2] at hq
                   obtain ⟨AU2, cU2, hv⟩ := hq.val
                   subst hv
                   have HU2 := Aside0.mk hq
                   have HUE := Aside0.mk hU2
                   have HSy6 := Aside0.mk (HSay.out.low hb)
                   have HBy6 := Aside0.mk (below_step HBay.out hb)
                   have HFy6 := Aside0.mk (HFy.out.since HyPA.out hb)
                   have HWy6 := Aside0.mk (HWy.out.since HyPA.out hb)
                   clear ho hb hg hat hq hU2
                   have hkz8 : wy6.cell? ⟨w.heap.size, 8, none⟩ = some (.slice AU U.length cU) := (blk_cell (HSy6.out.get 0 rfl) 8).trans rfl
                   have hfz8 := blk_frozen (HSy6.out.get 0 rfl) 8)
                | ((with_reducible refine gate_dst (N := 138) rfl ?_)
                   refine Kd.R_lit kH (w0 := way) way.heap.size 22 rfl (N := 138) rfl (xs := [(Ay7, out.length, cy7)]) (inner := [.slice Ay7 out.length cy7]) (ok := fun _ => True) (okp := fun _ => True) ?hr ?hp (fun _ hk => hk) trivial HyQ4.out HyQ4.out.size (by simp) ?_
                   (case hr => first | (go_simp; done) | (go_simp; rfl))
                   (case hp => exact one_rep _)
                   intro vy5 wy5 ho hb hg hnew
                   obtain ⟨Ay8, cy8, hv⟩ := Kd.R_slice ho
                   have hv' : vy5 = .slice Ay8 1 cy8 := hv
                   subst hv'
                   have HyP5 := Aside0.mk (HyP4.out.fillNew 2 rfl rfl ho hg hnew HyQ4.out.size)
                   have HyQ5 := Aside0.mk hb
                   clear ho hb hg hnew hv)
                | ((with_reducible refine gate_builtin (b := .append) (xs := #[.tmp 135, .tmp 136]) rfl ?_)
                   at_builtin
                   refine Kd.R_append_rows (Kd.int .i64) (w0 := way) way.heap.size rfl (.tmp 135) (.tmp 136) 22 3 (.int .i64 0) 8 rfl Try.underlying22 info3 rfl (by decide) (by omega) vy3 [] out A2 out.length c2 (fun _ => True) (fun _ => False) rfl rfl (Kd.R_mono (HyP3.out.get 1 rfl) (fun _ _ => trivial)) (Kd.C_below (Kd.C_below HR2.out HBay.out) HyQ3.out) (fun _ _ h => h) (fun _ h => h.elim) (fun _ _ => trivial) HyQ3.out HyQ3.out.size (by rw [List.length_nil, Nat.zero_add]; have h1 := HOL.out; omega) ?_
                   intro vy4 wy4 ho hb hg hat
                   rw [List.nil_append] at ho
                   obtain ⟨Ay7, cy7, hv⟩ := Kd.R_slice ho
                   subst hv
                   have HyP4 := Aside0.mk (HyP3.out.app 1 rfl rfl ho hg hat HyQ3.out.size)
                   have HyQ4 := Aside0.mk hb
                   clear ho hb hg hat)
                | ((with_reducible refine gate_dst (N := 135) rfl ?_)
                   refine Kd.R_lit (Kd.int .i64) (w0 := way) way.heap.size 3 rfl (N := 135) rfl (xs := ([] : List Int)) (inner := []) (ok := fun _ => True) (okp := fun _ => True) ?hr ?hp (fun _ hk => hk) trivial HyQ2.out HyQ2.out.size (by simp) ?_
                   (case hr => first | (go_simp; done) | (go_simp; rfl))
                   (case hp => exact (Reps.none _ _))
                   intro vy3 wy3 ho hb hg hnew
                   have HyP3 := Aside0.mk (HyP2.out.fillNew 1 rfl rfl ho hg hnew HyQ2.out.size)
                   have HyQ3 := Aside0.mk hb
                   clear ho hb hg hnew)
                | ((with_reducible refine gate_builtin (b := .append) (xs := #[.tmp 131, .tmp 133]) rfl ?_)
                   at_builtin
                   refine Kd.R_append_rows (kL (Since P (w.heap.size + 2) way) way) (w0 := way) way.heap.size rfl (.tmp 131) (.tmp 133) 25 22 (.slice none 0 0) 24 rfl Try.underlying25 info22 rfl (show 0 < 1 by decide) (by omega) vy1 [] U AU U.length cU (fun _ => True) (fun _ => False) rfl rfl (Kd.R_mono (HyP1.out.get 0 rfl) (fun _ _ => trivial)) (Kd.C_below (Wl.rows (HU.out.move (fun _ hk => .inl hk) (fun k hk => HBay.out.block k (HP.out k hk)))) HyQ1.out) (fun _ _ h => h) (fun _ h => h.elim) (fun _ _ => trivial) HyQ1.out HyQ1.out.size (by rw [List.length_nil, Nat.zero_add]; have h1 := HUN.out; omega) ?_
                   intro vy2 wy2 ho hb hg hat
                   rw [List.nil_append] at ho
                   have HyP2 := Aside0.mk (HyP1.out.app 0 rfl rfl ho hg hat HyQ1.out.size)
                   have HyQ2 := Aside0.mk hb
                   clear ho hb hg hat)
                | ((with_reducible refine gate_dst (N := 131) rfl ?_)
                   have HSay := Aside0.mk (HSx6.out.cell 0 rfl 7 (.slice AW2 W2.length cW2) (cs' := #[.int .i64 1, .int .i64 (K : Int), .int .i64 O, .int .i64 0, .slice none 0 0, .slice none 0 0, .int .i64 (most : Int), .slice AW2 W2.length cW2, .slice AU U.length cU, .slice AF F.length cF, .int .i64 h, .int .i64 m]) rfl HBx6.out.size)
                   have HBay := Aside0.mk (HSx6.out.belowSet (j := 7) (u := .slice AW2 W2.length cW2) 0 rfl HBx6.out)
                   have HFy := Aside0.mk (Wl.cell HP.out HFx6.out 7 (.slice AW2 W2.length cW2))
                   have HWy := Aside0.mk (Wl.cell HP.out HW2.out 7 (.slice AW2 W2.length cW2))
                   generalize World.setCell wx6 ⟨w.heap.size, 7, none⟩ _ = way at HSay HBay HFy HWy ⊢
                   have HyPA : Aside0 (∀ k, P k → k < way.heap.size) := ⟨fun k hk => Nat.lt_of_lt_of_le (HP.out k hk) HBay.out.size⟩
                   have HyNA : Aside0 ((w.heap.size + 2) ≤ way.heap.size) := ⟨(HSay.out.bound 1 rfl (show w.heap.size + 1 = w.heap.size + 1 from rfl)).2⟩
                   refine Kd.R_lit (kL (Since P (w.heap.size + 2) way) way) (w0 := way) way.heap.size 22 rfl (N := 131) rfl (xs := ([] : List (List Int))) (inner := []) (ok := fun _ => True) (okp := fun _ => True) ?hr ?hp (fun _ hk => hk) trivial (Below.refl _ _) (Nat.le_refl _) (by simp) ?_
                   (case hr => first | (go_simp; done) | (go_simp; rfl))
                   (case hp => exact (Reps.none _ _))
                   intro vy1 wy1 ho hb hg hnew
                   have HyP1 := Aside0.mk ((Sep.start way.heap.size 3 way).fillNew 0 rfl rfl ho hg hnew (Nat.le_refl _))
                   have HyQ1 := Aside0.mk hb
                   clear ho hb hg hnew
                   have HSy1 := Aside0.mk (HSay.out.low HyQ1.out)
                   have hky8 : wy1.cell? ⟨w.heap.size, 8, none⟩ = some (.slice AU U.length cU) := (blk_cell (HSy1.out.get 0 rfl) 8).trans rfl
                   have hfy8 := blk_frozen (HSy1.out.get 0 rfl) 8)
                | ((with_reducible refine gate_builtin (b := .append) (xs := #[.tmp 124, .tmp 128]) rfl ?_)
                   at_builtin
                   refine Kd.R_append_rows (kL (With (Since P (w.heap.size + 2) wax) (.slice Ax7 l.length cx7)) wx5) (w0 := wax) wax.heap.size rfl (.tmp 124) (.tmp 128) 25 22 (.slice none 0 0) 24 rfl Try.underlying25 info22 rfl (show 0 < 1 by decide) (by omega) vx2 W [l] Ax8 1 cx8 (fun _ => True) (fun _ => False) rfl rfl (add_rows HxPA.out HxQ5.out (HxP5.out.get 0 rfl)) (add_one (HxP5.out.get 1 rfl) (HxP5.out.get 2 rfl)) (fun _ _ h => h) (fun _ h => h.elim) (fun _ _ => trivial) HxQ5.out HxQ5.out.size (by have h1 := HWN.out; omega) ?_
                   intro vx6 wx6 ho hb hg hat
                   have hq := added HxPA.out HxNA.out HxQ5.out (fun k hk => HxP5.out.bound 0 rfl (show some k = vx2.ownBlock from hk.symm)) (fun k hk => ⟨(HxP5.out.bound 1 rfl (show some k = _ from hk.symm)).1, (HxP5.out.bound 1 rfl (show some k = _ from hk.symm)).2, fun e => HxP5.out.apart (i := 0) (j := 1) rfl rfl (by decide) (show some k = vx2.ownBlock from e.symm) (show some k = _ from hk.symm)⟩) ho hb hg hat
                   obtain ⟨W2, hW2⟩ : ∃ W2, W ++ [l] = W2 := ⟨_, rfl⟩
                   rw [hW2] at hq
                   obtain ⟨AW2, cW2, hv⟩ := hq.val
                   subst hv
                   have HW2 := Aside0.mk hq
                   have HWE := Aside0.mk hW2
                   have HSx6 := Aside0.mk (HSax.out.low hb)
                   have HBx6 := Aside0.mk (below_step HBax.out hb)
                   have HFx6 := Aside0.mk (HFx.out.since HxPA.out hb)
                   clear ho hb hg hat hq hW2
                   have hky7 : wx6.cell? ⟨w.heap.size, 7, none⟩ = some (.slice AW W.length cW) := (blk_cell (HSx6.out.get 0 rfl) 7).trans rfl
                   have hfy7 := blk_frozen (HSx6.out.get 0 rfl) 7)
                | ((with_reducible refine gate_dst (N := 128) rfl ?_)
                   refine Kd.R_lit kH (w0 := wax) wax.heap.size 22 rfl (N := 128) rfl (xs := [(Ax7, l.length, cx7)]) (inner := [.slice Ax7 l.length cx7]) (ok := fun _ => True) (okp := fun _ => True) ?hr ?hp (fun _ hk => hk) trivial HxQ4.out HxQ4.out.size (by simp) ?_
                   (case hr => first | (go_simp; done) | (go_simp; rfl))
                   (case hp => exact one_rep _)
                   intro vx5 wx5 ho hb hg hnew
                   obtain ⟨Ax8, cx8, hv⟩ := Kd.R_slice ho
                   have hv' : vx5 = .slice Ax8 1 cx8 := hv
                   subst hv'
                   have HxP5 := Aside0.mk (HxP4.out.fillNew 2 rfl rfl ho hg hnew HxQ4.out.size)
                   have HxQ5 := Aside0.mk hb
                   clear ho hb hg hnew hv)
                | ((with_reducible refine gate_builtin (b := .append) (xs := #[.tmp 125, .tmp 126]) rfl ?_)
                   at_builtin
                   refine Kd.R_append_rows (Kd.int .i64) (w0 := wax) wax.heap.size rfl (.tmp 125) (.tmp 126) 22 3 (.int .i64 0) 8 rfl Try.underlying22 info3 rfl (by decide) (by omega) vx3 [] l A1 l.length c1 (fun _ => True) (fun _ => False) rfl rfl (Kd.R_mono (HxP3.out.get 1 rfl) (fun _ _ => trivial)) (Kd.C_below (Kd.C_below HR1.out HBax.out) HxQ3.out) (fun _ _ h => h) (fun _ h => h.elim) (fun _ _ => trivial) HxQ3.out HxQ3.out.size (by rw [List.length_nil, Nat.zero_add]; have h1 := HL.out; omega) ?_
                   intro vx4 wx4 ho hb hg hat
                   rw [List.nil_append] at ho
                   obtain ⟨Ax7, cx7, hv⟩ := Kd.R_slice ho
                   subst hv
                   have HxP4 := Aside0.mk (HxP3.out.app 1 rfl rfl ho hg hat HxQ3.out.size)
                   have HxQ4 := Aside0.mk hb
                   clear ho hb hg hat)
                | ((with_reducible refine gate_dst (N := 125) rfl ?_)
                   refine Kd.R_lit (Kd.int .i64) (w0 := wax) wax.heap.size 3 rfl (N := 125) rfl (xs := ([] : List Int)) (inner := []) (ok := fun _ => True) (okp := fun _ => True) ?hr ?hp (fun _ hk => hk) trivial HxQ2.out HxQ2.out.size (by simp) ?_
                   (case hr => first | (go_simp; done) | (go_simp; rfl))
                   (case hp => exact (Reps.none _ _))
                   intro vx3 wx3 ho hb hg hnew
                   have HxP3 := Aside0.mk (HxP2.out.fillNew 1 rfl rfl ho hg hnew HxQ2.out.size)
                   have HxQ3 := Aside0.mk hb
                   clear ho hb hg hnew)
                | ((with_reducible refine gate_builtin (b := .append) (xs := #[.tmp 121, .tmp 123]) rfl ?_)
                   at_builtin
                   refine Kd.R_append_rows (kL (Since P (w.heap.size + 2) wax) wax) (w0 := wax) wax.heap.size rfl (.tmp 121) (.tmp 123) 25 22 (.slice none 0 0) 24 rfl Try.underlying25 info22 rfl (show 0 < 1 by decide) (by omega) vx1 [] W AW W.length cW (fun _ => True) (fun _ => False) rfl rfl (Kd.R_mono (HxP1.out.get 0 rfl) (fun _ _ => trivial)) (Kd.C_below (Wl.rows (HW.out.move (fun _ hk => .inl hk) (fun k hk => HBax.out.block k (HP.out k hk)))) HxQ1.out) (fun _ _ h => h) (fun _ h => h.elim) (fun _ _ => trivial) HxQ1.out HxQ1.out.size (by rw [List.length_nil, Nat.zero_add]; have h1 := HWN.out; omega) ?_
                   intro vx2 wx2 ho hb hg hat
                   rw [List.nil_append] at ho
                   have HxP2 := Aside0.mk (HxP1.out.app 0 rfl rfl ho hg hat HxQ1.out.size)
                   have HxQ2 := Aside0.mk hb
                   clear ho hb hg hat)
                | ((with_reducible refine gate_dst (N := 121) rfl ?_)
                   have HSax := Aside0.mk (HSr.out.cell 0 rfl 9 (.slice AF F.length cF) (cs' := #[.int .i64 1, .int .i64 (K : Int), .int .i64 O, .int .i64 0, .slice none 0 0, .slice none 0 0, .int .i64 (most : Int), .slice AW W.length cW, .slice AU U.length cU, .slice AF F.length cF, .int .i64 h, .int .i64 m]) rfl HBr.out.size)
                   have HBax := Aside0.mk (HSr.out.belowSet (j := 9) (u := .slice AF F.length cF) 0 rfl HBr.out)
                   have HFx := Aside0.mk (Wl.cell HP.out HF.out 9 (.slice AF F.length cF))
                   generalize World.setCell wr ⟨w.heap.size, 9, none⟩ _ = wax at HSax HBax HFx ⊢
                   have HxPA : Aside0 (∀ k, P k → k < wax.heap.size) := ⟨fun k hk => Nat.lt_of_lt_of_le (HP.out k hk) HBax.out.size⟩
                   have HxNA : Aside0 ((w.heap.size + 2) ≤ wax.heap.size) := ⟨(HSax.out.bound 1 rfl (show w.heap.size + 1 = w.heap.size + 1 from rfl)).2⟩
                   refine Kd.R_lit (kL (Since P (w.heap.size + 2) wax) wax) (w0 := wax) wax.heap.size 22 rfl (N := 121) rfl (xs := ([] : List (List Int))) (inner := []) (ok := fun _ => True) (okp := fun _ => True) ?hr ?hp (fun _ hk => hk) trivial (Below.refl _ _) (Nat.le_refl _) (by simp) ?_
                   (case hr => first | (go_simp; done) | (go_simp; rfl))
                   (case hp => exact (Reps.none _ _))
                   intro vx1 wx1 ho hb hg hnew
                   have HxP1 := Aside0.mk ((Sep.start wax.heap.size 3 wax).fillNew 0 rfl rfl ho hg hnew (Nat.le_refl _))
                   have HxQ1 := Aside0.mk hb
                   clear ho hb hg hnew
                   have HSx1 := Aside0.mk (HSax.out.low HxQ1.out)
                   have hkx7 : wx1.cell? ⟨w.heap.size, 7, none⟩ = some (.slice AW W.length cW) := (blk_cell (HSx1.out.get 0 rfl) 7).trans rfl
                   have hfx7 := blk_frozen (HSx1.out.get 0 rfl) 7))
                refine bodyPost_ret (results_ct rfl _ _ (w.heap.size + 1) 50 #[.int .i64 1, .int .i64 (K : Int), .int .i64 O, .int .i64 0, .slice none 0 0, .slice none 0 0, .int .i64 (most : Int), .slice AW2 W2.length cW2, .slice AU2 U2.length cU2, .slice AF F.length cF, .int .i64 h, .int .i64 m] (0, 0) _ rfl (HSz.out.get 1 rfl) Try.underlying50 rfl (by kernel_rfl)) rfl ?_
                exact RPutPost.ok ((refErr_full HX.out HMEM.out HNC.out).trans (if_neg (by rw [HFE.out]; exact HFU.out))) (by rw [HWE.out]; exact HWe.out.fin (by omega)) (by rw [HUE.out]; exact HUe.out.fin (by omega)) (by rw [HFE.out]; exact HFe.out.fin (by omega)) HBz.out
  · have hxb : (x != 0) = true := by simpa using hx0
    clear hxb
    go_enter Try.func25, Try.ntmps25
    go_wp2_with (first
    | ((with_reducible refine gate_store (t := 50) (p := 6) rfl ?_)
       refine wpList_store_rowTo rfl 50 (.tmp 6) (.tmp 25) rfl rfl (w.heap.size + 1) #[.int .i64 1, .int .i64 (K : Int), .int .i64 O, .int .i64 0, .slice none 0 0, .slice none 0 0, .int .i64 (most : Int), .slice AW W.length cW, .slice AU U.length cU, .slice AG G.length cG, .int .i64 h, .int .i64 m] rfl rfl 50 _ (HS1.out.get 1 rfl) ?_ ?_ (by simp [Value.oneCell']) ?_
       (focus (rw [i50]; rfl))
       (focus rfl)
       have HSz := Aside0.mk (HS1.out.setStruct 1 rfl #[.int .i64 1, .int .i64 (K : Int), .int .i64 O, .int .i64 0, .slice none 0 0, .slice none 0 0, .int .i64 (most : Int), .slice AW W.length cW, .slice AU U.length cU, .slice AG G.length cG, .int .i64 h, .int .i64 m] HB1.out.size)
       have HBz := Aside0.mk (below_setRow HB1.out (HS1.out.bound 1 rfl (show w.heap.size + 1 = w.heap.size + 1 from rfl)).1 #[.int .i64 1, .int .i64 (K : Int), .int .i64 O, .int .i64 0, .slice none 0 0, .slice none 0 0, .int .i64 (most : Int), .slice AW W.length cW, .slice AU U.length cU, .slice AG G.length cG, .int .i64 h, .int .i64 m])
       generalize World.setRow _ (w.heap.size + 1) _ = wz at HSz HBz ⊢)
    | ((with_reducible refine gate_dst (N := 25) rfl ?_)
       refine wpList_load_row rfl 50 (.tmp 3) rfl w.heap.size rfl 50 #[.int .i64 1, .int .i64 (K : Int), .int .i64 O, .int .i64 0, .slice none 0 0, .slice none 0 0, .int .i64 (most : Int), .slice AW W.length cW, .slice AU U.length cU, .slice AG G.length cG, .int .i64 h, .int .i64 m] (0, 0) _ (HS1.out.get 0 rfl) Try.underlying50 rfl ?_ ?_
       (focus (rw [i50]; rfl)))
    | (go_at_call 44; refine (hwe _ (Kd.C_below HR1.out HB0.out)).mono ?_
       rintro e w1 ⟨p1, rfl, ⟨nd1, rfl⟩⟩
       have HS1 := Aside0.mk (HS0.out.low (pw_below_drewN (Below.refl _ _) nd1))
       have HB1 := Aside0.mk (pw_below_drewN HB0.out nd1)
       generalize World.drewN _ nd1 = w1 at HS1 HB1 ⊢))
    refine bodyPost_ret (results_ct rfl _ _ (w.heap.size + 1) 50 #[.int .i64 1, .int .i64 (K : Int), .int .i64 O, .int .i64 0, .slice none 0 0, .slice none 0 0, .int .i64 (most : Int), .slice AW W.length cW, .slice AU U.length cU, .slice AG G.length cG, .int .i64 h, .int .i64 m] (0, 0) _ rfl (HSz.out.get 1 rfl) Try.underlying50 rfl (by kernel_rfl)) rfl ?_
    exact RPutPost.no HP.out HW.out HU.out HG.out (refErr_word HX.out hx0) hx0 HBz.out
set_option maxHeartbeats 16000000 in
set_option maxRecDepth 100000 in
theorem RPut_c2 (P : Nat → Prop) (K : Nat) (O : Int) (most : Nat) (h m : Int) (AW : Option Addr) (cW : Nat) (AU : Option Addr) (cU : Nat) (AG : Option Addr) (cG : Nat) (W U G : List (List Int)) (w : World) (l : List Int) (A1 : Option Addr) (c1 : Nat) (out : List Int) (A2 : Option Addr) (c2 : Nat) (hP : ∀ k, P k → k < w.heap.size) (hW : Wl P w (.slice AW W.length cW) W) (hU : Wl P w (.slice AU U.length cU) U) (hG : Wl P w (.slice AG G.length cG) G) (hr1 : Kd.C (Kd.int .i64) w A1 l.length l) (hc1 : l.length ≤ c1) (hr2 : Kd.C (Kd.int .i64) w A2 out.length out) (hc2 : out.length ≤ c2) (hK : 1 ≤ K ∧ K ≤ 64) (hWU : W.length = U.length) (hWl : ∀ x ∈ W, x.length ≤ 1000000) (hWn : W.length ≤ 1000000) (hUl : ∀ x ∈ U, x.length ≤ 1000000) (hGl : ∀ x ∈ G, x.length ≤ 1000000) (hUn : U.length ≤ 1000000) (hGn : G.length ≤ 2000000) (hl : l.length ≤ 1000000) (hol : out.length ≤ 1000000) (hlen : ∀ (i : Nat) (a o : List Int), W[i]? = some a → U[i]? = some o → a.length ≤ o.length) : Calls Try.prog 25 #[.agg #[.int .i64 2, .int .i64 (K : Int), .int .i64 O, .int .i64 0, .slice none 0 0, .slice none 0 0, .int .i64 (most : Int), .slice AW W.length cW, .slice AU U.length cU, .slice AG G.length cG, .int .i64 h, .int .i64 m], .slice A1 l.length c1, .slice A2 out.length c2] w (RPutPost P 2 K O most h m W U G l out w) := by
  have hu50 := Try.underlying50
  have hu24 := Try.underlying24
  have hu25 := Try.underlying25
  have hu22 := Try.underlying22
  have hu76 := Try.underlying76
  have hu78 := Try.underlying78
  obtain ⟨z50, i50⟩ := zero_of_info info50
  obtain ⟨z24, i24⟩ := zero_of_info info24
  have HP := Aside0.mk hP
  have HW := Aside0.mk hW
  have HU := Aside0.mk hU
  have HG := Aside0.mk hG
  have HR1 := Aside0.mk hr1
  have HC1 := Aside0.mk hc1
  have HR2 := Aside0.mk hr2
  have HC2 := Aside0.mk hc2
  have HK := Aside0.mk hK
  have HWU := Aside0.mk hWU
  have HWL := Aside0.mk hWl
  have HWN := Aside0.mk hWn
  have HUL := Aside0.mk hUl
  have HGL := Aside0.mk hGl
  have HUN := Aside0.mk hUn
  have HGN := Aside0.mk hGn
  have HL := Aside0.mk hl
  have HOL := Aside0.mk hol
  have HLEN := Aside0.mk hlen
  have hz2 : ((w.alloc (.cells #[.int .i64 2, .int .i64 (K : Int), .int .i64 O, .int .i64 0, .slice none 0 0, .slice none 0 0, .int .i64 (most : Int), .slice AW W.length cW, .slice AU U.length cU, .slice AG G.length cG, .int .i64 h, .int .i64 m] 50)).alloc (.cells #[.int .i64 0, .int .i64 0, .int .i64 0, .int .i64 0, .slice none 0 0, .slice none 0 0, .int .i64 0, .slice none 0 0, .slice none 0 0, .slice none 0 0, .int .i64 0, .int .i64 0] 50)).heap[w.heap.size + 1]? = some (.cells #[.int .i64 0, .int .i64 0, .int .i64 0, .int .i64 0, .slice none 0 0, .slice none 0 0, .int .i64 0, .slice none 0 0, .slice none 0 0, .slice none 0 0, .int .i64 0, .int .i64 0] 50 (0, 0)) := by
    have h9 := blk_new (w.alloc (.cells #[.int .i64 2, .int .i64 (K : Int), .int .i64 O, .int .i64 0, .slice none 0 0, .slice none 0 0, .int .i64 (most : Int), .slice AW W.length cW, .slice AU U.length cU, .slice AG G.length cG, .int .i64 h, .int .i64 m] 50)) (.cells #[.int .i64 0, .int .i64 0, .int .i64 0, .int .i64 0, .slice none 0 0, .slice none 0 0, .int .i64 0, .slice none 0 0, .slice none 0 0, .slice none 0 0, .int .i64 0, .int .i64 0] 50)
    have e : (w.alloc (.cells #[.int .i64 2, .int .i64 (K : Int), .int .i64 O, .int .i64 0, .slice none 0 0, .slice none 0 0, .int .i64 (most : Int), .slice AW W.length cW, .slice AU U.length cU, .slice AG G.length cG, .int .i64 h, .int .i64 m] 50)).heap.size = w.heap.size + 1 := by simp
    rw [e] at h9
    exact h9
  have HS0 : Aside0 (Sep w.heap.size [blk w.heap.size #[.int .i64 2, .int .i64 (K : Int), .int .i64 O, .int .i64 0, .slice none 0 0, .slice none 0 0, .int .i64 (most : Int), .slice AW W.length cW, .slice AU U.length cU, .slice AG G.length cG, .int .i64 h, .int .i64 m] 50, blk (w.heap.size + 1) #[.int .i64 0, .int .i64 0, .int .i64 0, .int .i64 0, .slice none 0 0, .slice none 0 0, .int .i64 0, .slice none 0 0, .slice none 0 0, .slice none 0 0, .int .i64 0, .int .i64 0] 50] ((w.alloc (.cells #[.int .i64 2, .int .i64 (K : Int), .int .i64 O, .int .i64 0, .slice none 0 0, .slice none 0 0, .int .i64 (most : Int), .slice AW W.length cW, .slice AU U.length cU, .slice AG G.length cG, .int .i64 h, .int .i64 m] 50)).alloc (.cells #[.int .i64 0, .int .i64 0, .int .i64 0, .int .i64 0, .slice none 0 0, .slice none 0 0, .int .i64 0, .slice none 0 0, .slice none 0 0, .slice none 0 0, .int .i64 0, .int .i64 0] 50))) := ⟨((Sep.start w.heap.size 2 w).fillBlk 0 rfl rfl (blk_new w (.cells #[.int .i64 2, .int .i64 (K : Int), .int .i64 O, .int .i64 0, .slice none 0 0, .slice none 0 0, .int .i64 (most : Int), .slice AW W.length cW, .slice AU U.length cU, .slice AG G.length cG, .int .i64 h, .int .i64 m] 50)) (below_alloc (Below.refl w.heap.size w) (.cells #[.int .i64 2, .int .i64 (K : Int), .int .i64 O, .int .i64 0, .slice none 0 0, .slice none 0 0, .int .i64 (most : Int), .slice AW W.length cW, .slice AU U.length cU, .slice AG G.length cG, .int .i64 h, .int .i64 m] 50)) (Nat.le_refl _)).fillBlk 1 rfl (g := w.heap.size + 1) (by simp) hz2 (below_alloc (Below.refl _ _) (.cells #[.int .i64 0, .int .i64 0, .int .i64 0, .int .i64 0, .slice none 0 0, .slice none 0 0, .int .i64 0, .slice none 0 0, .slice none 0 0, .slice none 0 0, .int .i64 0, .int .i64 0] 50)) (by simp)⟩
  clear hz2
  have HB0 : Aside0 (Below w.heap.size w ((w.alloc (.cells #[.int .i64 2, .int .i64 (K : Int), .int .i64 O, .int .i64 0, .slice none 0 0, .slice none 0 0, .int .i64 (most : Int), .slice AW W.length cW, .slice AU U.length cU, .slice AG G.length cG, .int .i64 h, .int .i64 m] 50)).alloc (.cells #[.int .i64 0, .int .i64 0, .int .i64 0, .int .i64 0, .slice none 0 0, .slice none 0 0, .int .i64 0, .slice none 0 0, .slice none 0 0, .slice none 0 0, .int .i64 0, .int .i64 0] 50))) := ⟨below_alloc (below_alloc (Below.refl _ _) _) _⟩
  have hwe := fun W' hr => WCheck_calls A1 c1 l K W' hK.1 hK.2 hr hc1
  obtain ⟨x, hx⟩ : ∃ x, wordErr K l = x := ⟨_, rfl⟩
  rw [hx] at hwe
  have HX := Aside0.mk hx
  clear hP hW hU hG hr1 hc1 hr2 hc2 hK hWU hWl hWn hUl hGl hUn hGn hl hol hlen hx
  by_cases hx0 : x = 0
  · subst hx0
    cases hmem : memB 2 O l.length out with
    | false =>
      have HMEM := Aside0.mk hmem
      have hte := fun W' h1 h2 => TCheck_ref 2 K O l out A1 c1 A2 c2 W' (.inr rfl) (by have := HOL.out; omega) h1 HC1.out h2 HC2.out
      rw [hmem, if_neg (by decide)] at hte
      clear hmem
      go_enter Try.func25, Try.ntmps25
      go_wp2_with (first
      | ((with_reducible refine gate_store (t := 50) (p := 6) rfl ?_)
         refine wpList_store_rowTo rfl 50 (.tmp 6) (.tmp 36) rfl rfl (w.heap.size + 1) #[.int .i64 2, .int .i64 (K : Int), .int .i64 O, .int .i64 0, .slice none 0 0, .slice none 0 0, .int .i64 (most : Int), .slice AW W.length cW, .slice AU U.length cU, .slice AG G.length cG, .int .i64 h, .int .i64 m] rfl rfl 50 _ (HS2.out.get 1 rfl) ?_ ?_ (by simp [Value.oneCell']) ?_
         (focus (rw [i50]; rfl))
         (focus rfl)
         have HSz := Aside0.mk (HS2.out.setStruct 1 rfl #[.int .i64 2, .int .i64 (K : Int), .int .i64 O, .int .i64 0, .slice none 0 0, .slice none 0 0, .int .i64 (most : Int), .slice AW W.length cW, .slice AU U.length cU, .slice AG G.length cG, .int .i64 h, .int .i64 m] HB2.out.size)
         have HBz := Aside0.mk (below_setRow HB2.out (HS2.out.bound 1 rfl (show w.heap.size + 1 = w.heap.size + 1 from rfl)).1 #[.int .i64 2, .int .i64 (K : Int), .int .i64 O, .int .i64 0, .slice none 0 0, .slice none 0 0, .int .i64 (most : Int), .slice AW W.length cW, .slice AU U.length cU, .slice AG G.length cG, .int .i64 h, .int .i64 m])
         generalize World.setRow _ (w.heap.size + 1) _ = wz at HSz HBz ⊢)
      | ((with_reducible refine gate_dst (N := 36) rfl ?_)
         refine wpList_load_row rfl 50 (.tmp 3) rfl w.heap.size rfl 50 #[.int .i64 2, .int .i64 (K : Int), .int .i64 O, .int .i64 0, .slice none 0 0, .slice none 0 0, .int .i64 (most : Int), .slice AW W.length cW, .slice AU U.length cU, .slice AG G.length cG, .int .i64 h, .int .i64 m] (0, 0) _ (HS2.out.get 0 rfl) Try.underlying50 rfl ?_ ?_
         (focus (rw [i50]; rfl)))
      | (go_at_call 45; refine (hte _ (Kd.C_below HR1.out HB1.out) (Kd.C_below HR2.out HB1.out)).mono ?_
         rintro e w2 ⟨rfl, hb⟩
         have HS2 := Aside0.mk (HS1.out.low hb)
         have HB2 := Aside0.mk (below_step HB1.out hb)
         clear hb)
      | ((with_reducible refine gate_dst (N := 29) rfl ?_)
         refine wpList_load_mid rfl 24 (.tmp 28) rfl w.heap.size 0 rfl [.int .i64 2, .int .i64 (K : Int), .int .i64 O, .int .i64 0, .slice none 0 0, .slice none 0 0] _ (box_like (HS1.out.get 0 rfl)) Try.underlying24 rfl ?_ ?_
         (focus (rw [i24]; rfl)))
      | (go_at_call 44; refine (hwe _ (Kd.C_below HR1.out HB0.out)).mono ?_
         rintro e w1 ⟨p1, rfl, ⟨nd1, rfl⟩⟩
         have HS1 := Aside0.mk (HS0.out.low (pw_below_drewN (Below.refl _ _) nd1))
         have HB1 := Aside0.mk (pw_below_drewN HB0.out nd1)
         generalize World.drewN _ nd1 = w1 at HS1 HB1 ⊢))
      refine bodyPost_ret (results_ct rfl _ _ (w.heap.size + 1) 50 #[.int .i64 2, .int .i64 (K : Int), .int .i64 O, .int .i64 0, .slice none 0 0, .slice none 0 0, .int .i64 (most : Int), .slice AW W.length cW, .slice AU U.length cU, .slice AG G.length cG, .int .i64 h, .int .i64 m] (0, 0) _ rfl (HSz.out.get 1 rfl) Try.underlying50 rfl (by kernel_rfl)) rfl ?_
      exact RPutPost.no HP.out HW.out HU.out HG.out (refErr_teach HX.out HMEM.out) (by decide) HBz.out
    | true =>
      have HMEM := Aside0.mk hmem
      have hte := fun W' h1 h2 => TCheck_ref 2 K O l out A1 c1 A2 c2 W' (.inr rfl) (by have := HOL.out; omega) h1 HC1.out h2 HC2.out
      rw [hmem, if_pos rfl] at hte
      clear hmem
      go_enter Try.func25, Try.ntmps25
      go_wp2_with (first
      | (go_at_call 45; refine (hte _ (Kd.C_below HR1.out HB1.out) (Kd.C_below HR2.out HB1.out)).mono ?_
         rintro e w2 ⟨rfl, hb⟩
         have HS2 := Aside0.mk (HS1.out.low hb)
         have HB2 := Aside0.mk (below_step HB1.out hb)
         clear hb)
      | ((with_reducible refine gate_dst (N := 29) rfl ?_)
         refine wpList_load_mid rfl 24 (.tmp 28) rfl w.heap.size 0 rfl [.int .i64 2, .int .i64 (K : Int), .int .i64 O, .int .i64 0, .slice none 0 0, .slice none 0 0] _ (box_like (HS1.out.get 0 rfl)) Try.underlying24 rfl ?_ ?_
         (focus (rw [i24]; rfl)))
      | (go_at_call 44; refine (hwe _ (Kd.C_below HR1.out HB0.out)).mono ?_
         rintro e w1 ⟨p1, rfl, ⟨nd1, rfl⟩⟩
         have HS1 := Aside0.mk (HS0.out.low (pw_below_drewN (Below.refl _ _) nd1))
         have HB1 := Aside0.mk (pw_below_drewN HB0.out nd1)
         generalize World.drewN _ nd1 = w1 at HS1 HB1 ⊢))
      have HOI : Aside0 (out.length = l.length) := ⟨by have := mem_len HMEM.out; rwa [if_neg (by decide)] at this⟩
      clear HS0 HB0 HS1 HB1 hwe hte
      go_loopw [10] (fun v10 wr => ∃ (i : Nat), v10 = .int .i64 (i : Int) ∧ Aside0 (i ≤ l.length + 1 ∧ ∀ j, j < i → ¬ clashAt 2 W U l out j) ∧ Aside0 (Sep w.heap.size [blk w.heap.size #[.int .i64 2, .int .i64 (K : Int), .int .i64 O, .int .i64 0, .slice none 0 0, .slice none 0 0, .int .i64 (most : Int), .slice AW W.length cW, .slice AU U.length cU, .slice AG G.length cG, .int .i64 h, .int .i64 m] 50, blk (w.heap.size + 1) #[.int .i64 0, .int .i64 0, .int .i64 0, .int .i64 0, .slice none 0 0, .slice none 0 0, .int .i64 0, .slice none 0 0, .slice none 0 0, .slice none 0 0, .int .i64 0, .int .i64 0] 50] wr) ∧ Aside0 (Below w.heap.size w wr)) (fun v10 _ => l.length + 1 - (intOf v10).toNat)
      case atStart => exact ⟨0, rfl, ⟨Nat.zero_le _, fun j hj => absurd hj (Nat.not_lt_zero _)⟩, HS2, HB2⟩
      case round =>
        clear HS2 HB2
        obtain ⟨i, rfl, HI, HSr, HBr⟩ := hrel
        by_cases hi : i < l.length + 1
        · have HIL := Aside0.mk hi
          have hi' : (i : Int) ≤ (l.length : Int) := by omega
          have hic : (i : Int) ≤ (c1 : Int) := by have := HC1.out; omega
          obtain ⟨r1, rb, hr⟩ : ∃ r1 rb, findF 2 W U (l.take i) = (r1, rb) := ⟨_, _, rfl⟩
          have HRR := Aside0.mk hr
          have HRL : Aside0 (r1.length ≤ 1000000000) := ⟨by have h1 := findF_len 2 W U (l.take i) 1000000 HUL.out; rw [hr] at h1; exact Nat.le_trans h1 (by decide)⟩
          clear hr hi
          go_wp2
          refine start_ (n := 10) (S := fun w' => w'.heap[w.heap.size]? = some (.cells #[.int .i64 2, .int .i64 (K : Int), .int .i64 O, .int .i64 0, .slice none 0 0, .slice none 0 0, .int .i64 (most : Int), .slice AW W.length cW, .slice AU U.length cU, .slice AG G.length cG, .int .i64 h, .int .i64 m] 50 (0, 0))) (ds := [4]) #[false, false, false, false, false, false, false, false, false, false] (by kernel_rfl) rfl rfl ((HSr.out.low (below_drew1 (Below.refl _ _))).get 0 rfl) (fun hHeld => ?_)
          refine with_tabW rp.tab10 rp.bits10 (fun HT_ HW_ => ?_)
          have HS5 := Aside0.mk (HSr.out.low (below_drew1 (Below.refl _ _)))
          have HB5 := Aside0.mk (below_drew1 HBr.out)
          clear HSr HBr
          generalize wr.drew = wd at HS5 HB5 hHeld ⊢
          refine pure_ (i := 1) (N := (some 46)) (v := ?_) (a' := ?_) #[false, true, false, false, false, false, false, false, false, false] rfl rfl (any_of HT_.out (by kernel_rfl)) (fun _ _ _ h => h) (Or.inl ⟨by rfl, ?_⟩) ?_ ?_
          rotate_left
          · intro w'
            go_simp
            with_reducible rfl
          rotate_left
          · simp only [Act.put, List.setIfInBounds_toArray, List.set_cons_zero, List.set_cons_succ, i64_w, i32_w]
            rfl
          refine pure_ (i := 2) (N := (some 47)) (v := ?_) (a' := ?_) #[false, true, true, false, false, false, false, false, false, false] rfl rfl (any_of HT_.out (by kernel_rfl)) (fun _ _ _ h => h) (Or.inl ⟨by rfl, ?_⟩) ?_ ?_
          rotate_left
          · intro w'
            go_simp
            with_reducible rfl
          rotate_left
          · simp only [Act.put, List.setIfInBounds_toArray, List.set_cons_zero, List.set_cons_succ, i64_w, i32_w]
            rfl
          refine pure_ (i := 3) (N := (some 48)) (v := ?_) (a' := ?_) #[false, true, true, true, false, false, false, false, false, false] rfl rfl (any_of HT_.out (by kernel_rfl)) (fun _ _ _ h => h) (Or.inl ⟨by rfl, ?_⟩) ?_ ?_
          rotate_left
          · intro w'
            go_simp
            with_reducible rfl
          rotate_left
          · simp only [Act.put, List.setIfInBounds_toArray, List.set_cons_zero, List.set_cons_succ, i64_w, i32_w]
            rfl
          refine take_ (i := 0) (N := (some 45)) (v := .agg #[.int .i64 2, .int .i64 (K : Int), .int .i64 O, .int .i64 0, .slice none 0 0, .slice none 0 0, .int .i64 (most : Int), .slice AW W.length cW, .slice AU U.length cU, .slice AG G.length cG, .int .i64 h, .int .i64 m]) (a' := ?_) #[true, true, true, true, false, false, false, false, false, false] rfl rfl (take_ofW HT_.out HW_.out (by kernel_rfl)) (fun _ _ _ h => h) (yieldsIf_load_mid (by rfl) 50 _ rfl w.heap.size 0 rfl [.int .i64 2, .int .i64 (K : Int), .int .i64 O, .int .i64 0, .slice none 0 0, .slice none 0 0, .int .i64 (most : Int), .slice AW W.length cW, .slice AU U.length cU, .slice AG G.length cG, .int .i64 h, .int .i64 m] _ (fun w' h => box_all h) Try.underlying50 rfl (by rw [i50]; rfl)) hHeld ?_ ?_
          rotate_left
          · simp only [Act.put, List.setIfInBounds_toArray, List.set_cons_zero, List.set_cons_succ, i64_w, i32_w]
            rfl
          refine last_ (i := 4) (N := (some 49)) #[true, true, true, true, true, false, false, false, false, false] rfl rfl (one_of HT_.out (by kernel_rfl)) (by decide) (fun Kc hK => ?_)
          refine goes_ Try.func26 (by kernel_rfl) rfl #[.agg #[.int .i64 2, .int .i64 (K : Int), .int .i64 O, .int .i64 0, .slice none 0 0, .slice none 0 0, .int .i64 (most : Int), .slice AW W.length cW, .slice AU U.length cU, .slice AG G.length cG, .int .i64 h, .int .i64 m], .slice A1 i c1] (by rfl) rfl rfl (by (try simp only [List.map_toArray, List.map_cons, List.map_nil]); first | done | rfl | simp [Act.eval]) ?_
          refine (Find_cut 2 P (K : Int) O (most : Int) h m AW cW AU cU AG G.length cG W U wd (l.take i) A1 i c1 (fun k hk => Nat.lt_of_lt_of_le (HP.out k hk) HB5.out.size) (HW.out.move (fun _ h => h) (fun k hk => HB5.out.block k (HP.out k hk))) (HU.out.move (fun _ h => h) (fun k hk => HB5.out.block k (HP.out k hk))) (C_cut (Kd.C_below HR1.out HB5.out) (by have := HIL.out; omega)) (by have h1 := HIL.out; have h2 := HC1.out; omega) HWU.out (fun x hx => by have := HWL.out x hx; omega) (by have := HWN.out; omega) (by rw [List.length_take]; have := HL.out; omega) (.inr rfl) (fun _ => HLEN.out)).mono ?_
          rintro e w6 hF
          unfold FindRPost at hF
          rw [HRR.out] at hF
          dsimp only at hF
          obtain ⟨Af, nf, cf, rfl, hn, hc, hd, hb⟩ := hF
          subst hn
          refine ⟨_, rfl, ?_⟩
          have HS6 := Aside0.mk (HS5.out.low hb)
          have HB6 := Aside0.mk (below_step HB5.out hb)
          have HF := Aside0.mk (And.intro hc hd)
          clear hc hd hb HS5 HB5
          refine hK.out _ _ ?_; clear hK Kc
          refine norm_ (a' := ?_) ?_ ?_
          rotate_left
          · show Act.put _ (some 49) _ = _
            simp only [Act.put, List.setIfInBounds_toArray, List.set_cons_zero, List.set_cons_succ, i64_w, i32_w]
            rfl
          refine pure_ (i := 5) (N := (some 44)) (v := ?_) (a' := ?_) #[true, true, true, true, true, true, false, false, false, false] rfl rfl (any_of HT_.out (by kernel_rfl)) (fun _ _ _ h => h) (Or.inl ⟨by rfl, ?_⟩) ?_ ?_
          rotate_left
          · intro w'
            go_simp
            with_reducible rfl
          rotate_left
          · simp only [Act.put, List.setIfInBounds_toArray, List.set_cons_zero, List.set_cons_succ, i64_w, i32_w]
            rfl
          refine pure_ (i := 6) (N := (some 50)) (v := ?_) (a' := ?_) #[true, true, true, true, true, true, true, false, false, false] rfl rfl (any_of HT_.out (by kernel_rfl)) (fun _ _ _ h => h) (Or.inl ⟨by rfl, ?_⟩) ?_ ?_
          rotate_left
          · intro w'
            go_simp
            with_reducible rfl
          rotate_left
          · simp only [Act.put, List.setIfInBounds_toArray, List.set_cons_zero, List.set_cons_succ, i64_w, i32_w]
            rfl
          refine pure_ (i := 7) (N := (some 51)) (v := ?_) (a' := ?_) #[true, true, true, true, true, true, true, true, false, false] rfl rfl (any_of HT_.out (by kernel_rfl)) (fun _ _ _ h => h) (Or.inl ⟨by rfl, ?_⟩) ?_ ?_
          rotate_left
          · intro w'
            go_simp
            with_reducible rfl
          rotate_left
          · simp only [Act.put, List.setIfInBounds_toArray, List.set_cons_zero, List.set_cons_succ, i64_w, i32_w]
            rfl
          refine pure_ (i := 8) (N := (some 11)) (v := ?_) (a' := ?_) #[true, true, true, true, true, true, true, true, true, false] rfl rfl (any_of HT_.out (by kernel_rfl)) (fun _ _ _ h => h) (Or.inl ⟨by rfl, ?_⟩) ?_ ?_
          rotate_left
          · intro w'
            go_simp
            with_reducible rfl
          rotate_left
          · simp only [Act.put, List.setIfInBounds_toArray, List.set_cons_zero, List.set_cons_succ, i64_w, i32_w]
            rfl
          refine pure_ (i := 9) (N := (some 12)) (v := ?_) (a' := ?_) #[true, true, true, true, true, true, true, true, true, true] rfl rfl (any_of HT_.out (by kernel_rfl)) (fun _ _ _ h => h) (Or.inl ⟨by rfl, ?_⟩) ?_ ?_
          rotate_left
          · intro w'
            go_simp
            with_reducible rfl
          rotate_left
          · simp only [Act.put, List.setIfInBounds_toArray, List.set_cons_zero, List.set_cons_succ, i64_w, i32_w]
            rfl
          refine done_ (done_of HT_.out (by kernel_rfl)) ?_
          have hk0 : w6.cell? ⟨w.heap.size, 0, none⟩ = some (.int .i64 2) := (blk_cell (HS6.out.get 0 rfl) 0).trans rfl
          have hf0 := blk_frozen (HS6.out.get 0 rfl) 0
          have hic2 : (i : Int) ≤ (c2 : Int) := by have := HOI.out; have := HC2.out; omega
          cases rb with
          | false =>
            go_wp2
            have e1 := w64s (a := i) (by have h1 := HIL.out; have h2 := HL.out; omega)
            go_roundw
            case rel => exact ⟨i + 1, by first | rw [e1] | go_num, ⟨HIL.out, fun j hj => by
              rcases Nat.lt_or_ge j i with h1 | h1
              · exact HI.out.2 j h1
              · obtain rfl : j = i := by omega
                exact (by unfold clashAt; rw [HRR.out]; rintro ⟨h1, _⟩; cases h1)⟩, HS6, HB6⟩
            case measure => first | exact pmeas_at e1 HIL.out | exact pmeas_at2 HIL.out
          | true =>
            by_cases hro : r1 = (out.take i)
            · have HRO := Aside0.mk hro
              clear hro
              go_wp2_with (first
              | (go_at_call 17; refine (same_calls Af r1.length cf r1 A2 i c2 (out.take i) w6 HF.out.2.C HF.out.1 (C_cut (Kd.C_below HR2.out HB6.out) (by have := HOI.out; omega)) (by have := HC2.out; have := HOI.out; omega) HRL.out).mono ?_
                 rw [decide_eq_true HRO.out]
                 rintro e w7 ⟨rfl, ⟨nd, rfl⟩⟩
                 have HS7 := Aside0.mk (HS6.out.low (pw_below_drewN (Below.refl _ _) nd))
                 have HB7 := Aside0.mk (pw_below_drewN HB6.out nd)
                 generalize World.drewN _ nd = w7 at HS7 HB7 ⊢
                 have hk7 : w7.cell? ⟨w.heap.size, 0, none⟩ = some (.int .i64 2) := (blk_cell (HS7.out.get 0 rfl) 0).trans rfl
                 have hf7 := blk_frozen (HS7.out.get 0 rfl) 0))
              have e1 := w64s (a := i) (by have h1 := HIL.out; have h2 := HL.out; omega)
              go_roundw
              case rel => exact ⟨i + 1, by first | rw [e1] | go_num, ⟨HIL.out, fun j hj => by
                rcases Nat.lt_or_ge j i with h1 | h1
                · exact HI.out.2 j h1
                · obtain rfl : j = i := by omega
                  exact (by unfold clashAt; rw [HRR.out]; rintro ⟨_, h2⟩; rw [if_neg (by decide)] at h2; exact h2 HRO.out)⟩, HS7, HB7⟩
              case measure => first | exact pmeas_at e1 HIL.out | exact pmeas_at2 HIL.out
            · have HCL : Aside0 (clashAt 2 W U l out i) := ⟨(by unfold clashAt; rw [HRR.out]; exact ⟨rfl, by rw [if_neg (by decide)]; exact hro⟩)⟩
              have HRO := Aside0.mk hro
              clear hro
              go_wp2_with (first
              | ((with_reducible refine gate_store (t := 50) (p := 6) rfl ?_)
                 refine wpList_store_rowTo rfl 50 (.tmp 6) (.tmp 88) rfl rfl (w.heap.size + 1) #[.int .i64 2, .int .i64 (K : Int), .int .i64 O, .int .i64 0, .slice none 0 0, .slice none 0 0, .int .i64 (most : Int), .slice AW W.length cW, .slice AU U.length cU, .slice AG G.length cG, .int .i64 h, .int .i64 m] rfl rfl 50 _ (HS7.out.get 1 rfl) ?_ ?_ (by simp [Value.oneCell']) ?_
                 (focus (rw [i50]; rfl))
                 (focus rfl)
                 have HSz := Aside0.mk (HS7.out.setStruct 1 rfl #[.int .i64 2, .int .i64 (K : Int), .int .i64 O, .int .i64 0, .slice none 0 0, .slice none 0 0, .int .i64 (most : Int), .slice AW W.length cW, .slice AU U.length cU, .slice AG G.length cG, .int .i64 h, .int .i64 m] HB7.out.size)
                 have HBz := Aside0.mk (below_setRow HB7.out (HS7.out.bound 1 rfl (show w.heap.size + 1 = w.heap.size + 1 from rfl)).1 #[.int .i64 2, .int .i64 (K : Int), .int .i64 O, .int .i64 0, .slice none 0 0, .slice none 0 0, .int .i64 (most : Int), .slice AW W.length cW, .slice AU U.length cU, .slice AG G.length cG, .int .i64 h, .int .i64 m])
                 generalize World.setRow _ (w.heap.size + 1) _ = wz at HSz HBz ⊢)
              | ((with_reducible refine gate_dst (N := 88) rfl ?_)
                 refine wpList_load_row rfl 50 (.tmp 3) rfl w.heap.size rfl 50 #[.int .i64 2, .int .i64 (K : Int), .int .i64 O, .int .i64 0, .slice none 0 0, .slice none 0 0, .int .i64 (most : Int), .slice AW W.length cW, .slice AU U.length cU, .slice AG G.length cG, .int .i64 h, .int .i64 m] (0, 0) _ (HS7.out.get 0 rfl) Try.underlying50 rfl ?_ ?_
                 (focus (rw [i50]; rfl)))
              | (go_at_call 17; refine (same_calls Af r1.length cf r1 A2 i c2 (out.take i) w6 HF.out.2.C HF.out.1 (C_cut (Kd.C_below HR2.out HB6.out) (by have := HOI.out; omega)) (by have := HC2.out; have := HOI.out; omega) HRL.out).mono ?_
                 rw [decide_eq_false HRO.out]
                 rintro e w7 ⟨rfl, ⟨nd, rfl⟩⟩
                 have HS7 := Aside0.mk (HS6.out.low (pw_below_drewN (Below.refl _ _) nd))
                 have HB7 := Aside0.mk (pw_below_drewN HB6.out nd)
                 generalize World.drewN _ nd = w7 at HS7 HB7 ⊢
                 have hk7 : w7.cell? ⟨w.heap.size, 0, none⟩ = some (.int .i64 2) := (blk_cell (HS7.out.get 0 rfl) 0).trans rfl
                 have hf7 := blk_frozen (HS7.out.get 0 rfl) 0))
              refine bodyPost_ret (results_ct rfl _ _ (w.heap.size + 1) 50 #[.int .i64 2, .int .i64 (K : Int), .int .i64 O, .int .i64 0, .slice none 0 0, .slice none 0 0, .int .i64 (most : Int), .slice AW W.length cW, .slice AU U.length cU, .slice AG G.length cG, .int .i64 h, .int .i64 m] (0, 0) _ rfl (HSz.out.get 1 rfl) Try.underlying50 rfl (by kernel_rfl)) rfl ?_
              exact RPutPost.no HP.out HW.out HU.out HG.out (refErr_clash HX.out HMEM.out ⟨i, by have := HIL.out; omega, HCL.out⟩) (by decide) HBz.out
        · have hi' : ¬ ((i : Int) ≤ (l.length : Int)) := by omega
          have HNC : Aside0 (∀ j, j < l.length + 1 → ¬ clashAt 2 W U l out j) := ⟨fun j hj => HI.out.2 j (by omega)⟩
          clear hi HI
          have hk9 : wr.cell? ⟨w.heap.size, 9, none⟩ = some (.slice AG G.length cG) := (blk_cell (HSr.out.get 0 rfl) 9).trans rfl
          have hf9 := blk_frozen (HSr.out.get 0 rfl) 9
          have HZ0 : Aside0 ((w.heap.size + 2) ≤ wr.heap.size) := ⟨(HSr.out.bound 1 rfl (show w.heap.size + 1 = w.heap.size + 1 from rfl)).2⟩
          have HG0 : Aside0 (Wl (Since P (w.heap.size + 2) wr) wr (.slice AG G.length cG) (freshR G l 0)) := ⟨HG.out.move (fun _ hk => .inl hk) (fun k hk => HBr.out.block k (HP.out k hk))⟩
          go_wp2
          clear hk9 hf9
          go_loopw [14, 13] (fun v14 v13 wr => ∃ (j : Nat) (vF : Value), v14 = .int .i64 (j : Int) ∧ vF = v13 ∧ Aside0 (j ≤ l.length + 1) ∧ Aside0 (Wl (Since P (w.heap.size + 2) wr) wr vF (freshR G l j)) ∧ Aside0 (Sep w.heap.size [blk w.heap.size #[.int .i64 2, .int .i64 (K : Int), .int .i64 O, .int .i64 0, .slice none 0 0, .slice none 0 0, .int .i64 (most : Int), .slice AW W.length cW, .slice AU U.length cU, .slice AG G.length cG, .int .i64 h, .int .i64 m] 50, blk (w.heap.size + 1) #[.int .i64 0, .int .i64 0, .int .i64 0, .int .i64 0, .slice none 0 0, .slice none 0 0, .int .i64 0, .slice none 0 0, .slice none 0 0, .slice none 0 0, .int .i64 0, .int .i64 0] 50] wr) ∧ Aside0 (Below w.heap.size w wr)) (fun v14 _ _ => l.length + 1 - (intOf v14).toNat)
          case atStart => exact ⟨0, _, rfl, rfl, ⟨Nat.zero_le _⟩, HG0, HSr, HBr⟩
          case round =>
            clear HSr HBr HG0 HZ0
            obtain ⟨j, vF, rfl, hvF, HJ, HF, HSr, HBr⟩ := hrel
            subst hvF
            obtain ⟨F, hF⟩ : ∃ F, freshR G l j = F := ⟨_, rfl⟩
            rw [hF] at HF
            obtain ⟨AF, cF, hv⟩ := HF.out.val
            subst hv
            have HFB : Aside0 (F.length ≤ 4000002 ∧ ∀ x ∈ F, x.length ≤ 1000000) := ⟨by
              have h1 := freshR_len G l j
              rw [hF] at h1
              have h2 := HJ.out
              have h3 := HL.out
              have h4 := HGN.out
              omega, by rw [← hF]; exact freshR_all G l 1000000 HGL.out HL.out j⟩
            have HZ : Aside0 ((w.heap.size + 2) ≤ wr.heap.size) := ⟨(HSr.out.bound 1 rfl (show w.heap.size + 1 = w.heap.size + 1 from rfl)).2⟩
            have HFE := Aside0.mk hF
            clear hF
            by_cases hj : j < l.length + 1
            · have HJL := Aside0.mk hj
              have hj' : (j : Int) ≤ (l.length : Int) := by omega
              have hjc : (j : Int) ≤ (c1 : Int) := by have := HC1.out; omega
              clear hj
              by_cases hm : l.take j ∈ F
              · have HM := Aside0.mk hm
                clear hm
                go_wp2_with (first
                | (go_at_call 46; refine (Has_calls (.slice AF F.length cF) (Since P (w.heap.size + 2) wr) F A1 j c1 (l.take j) wr HF.out (C_cut (Kd.C_below HR1.out HBr.out) (by have := HJL.out; omega)) (by have h1 := HJL.out; have h2 := HC1.out; omega) (by have := HFB.out.1; omega) (fun x hx => by have := HFB.out.2 x hx; omega)).mono ?_
                   rw [decide_eq_true HM.out]
                   rintro e w2 ⟨rfl, ⟨nd, rfl⟩⟩
                   have HFn := Aside0.mk (HF.out.since (fun k hk => Nat.lt_of_lt_of_le (HP.out k hk) HBr.out.size) (pw_below_drewN (Below.refl _ _) nd))
                   have HSn := Aside0.mk (HSr.out.low (pw_below_drewN (Below.refl _ _) nd))
                   have HBn := Aside0.mk (pw_below_drewN HBr.out nd)
                   have HZn : Aside0 ((w.heap.size + 2) ≤ (World.drewN wr nd).heap.size) := ⟨Nat.le_trans HZ.out (pw_below_drewN (Below.refl wr.heap.size wr) nd).size⟩
                   clear HF HSr HBr
                   generalize World.drewN _ nd = wa at HFn HSn HBn HZn ⊢))
                have e1 := w64s (a := j) (by have h1 := HJL.out; have h2 := HL.out; omega)
                have e2 : freshR G l (j + 1) = F := by
                  show (if l.take j ∈ freshR G l j then freshR G l j else freshR G l j ++ [l.take j]) = _
                  rw [HFE.out, if_pos HM.out]
                go_roundw
                case rel => exact ⟨j + 1, _, by first | rw [e1] | go_num, rfl, ⟨HJL.out⟩, ⟨by rw [e2]; exact HFn.out⟩, HSn, HBn⟩
                case measure => first | exact pmeas_at e1 HJL.out | exact pmeas_at2 HJL.out
              · have HM := Aside0.mk hm
                clear hm
                go_wp2_with (first
                | (go_at_call 46; refine (Has_calls (.slice AF F.length cF) (Since P (w.heap.size + 2) wr) F A1 j c1 (l.take j) wr HF.out (C_cut (Kd.C_below HR1.out HBr.out) (by have := HJL.out; omega)) (by have h1 := HJL.out; have h2 := HC1.out; omega) (by have := HFB.out.1; omega) (fun x hx => by have := HFB.out.2 x hx; omega)).mono ?_
                   rw [decide_eq_false HM.out]
                   rintro e w2 ⟨rfl, ⟨nd, rfl⟩⟩
                   have HFn := Aside0.mk (HF.out.since (fun k hk => Nat.lt_of_lt_of_le (HP.out k hk) HBr.out.size) (pw_below_drewN (Below.refl _ _) nd))
                   have HSn := Aside0.mk (HSr.out.low (pw_below_drewN (Below.refl _ _) nd))
                   have HBn := Aside0.mk (pw_below_drewN HBr.out nd)
                   have HZn : Aside0 ((w.heap.size + 2) ≤ (World.drewN wr nd).heap.size) := ⟨Nat.le_trans HZ.out (pw_below_drewN (Below.refl wr.heap.size wr) nd).size⟩
                   clear HF HSr HBr
                   generalize World.drewN _ nd = wa at HFn HSn HBn HZn ⊢))
                have HPA : Aside0 (∀ k, P k → k < wa.heap.size) := ⟨fun k hk => Nat.lt_of_lt_of_le (HP.out k hk) HBn.out.size⟩
                have HNA := HZn
                refine start_ (n := 11) (S := fun w' => Below wa.heap.size wa w') (ds := [9]) #[false, false, false, false, false, false, false, false, false, false, false] (by kernel_rfl) rfl rfl (below_drew1 (Below.refl _ _)) (fun hHeld => ?_)
                refine with_tabW rp.tab18 rp.bits18 (fun HT_ HW_ => ?_)
                generalize wa.drew = wd at hHeld ⊢
                have hsep : Sp.Sep wa.heap.size [Sp.none_, Sp.none_, Sp.none_] wd := Sp.Sep.start _ 3 _
                have hbel := hHeld
                refine pure_ (i := 1) (N := (some 104)) (v := ?_) (a' := ?_) #[false, true, false, false, false, false, false, false, false, false, false] rfl rfl (any_of HT_.out (by kernel_rfl)) (fun _ _ _ h => h) (Or.inl ⟨by rfl, ?_⟩) ?_ ?_
                rotate_left
                · intro w'
                  go_simp
                  with_reducible rfl
                rotate_left
                · simp only [Act.put, List.setIfInBounds_toArray, List.set_cons_zero, List.set_cons_succ, i64_w, i32_w]
                  rfl
                refine pure_ (i := 4) (N := (some 107)) (v := ?_) (a' := ?_) #[false, true, false, false, true, false, false, false, false, false, false] rfl rfl (any_of HT_.out (by kernel_rfl)) (fun _ _ _ h => h) (Or.inl ⟨by rfl, ?_⟩) ?_ ?_
                rotate_left
                · intro w'
                  go_simp
                  with_reducible rfl
                rotate_left
                · simp only [Act.put, List.setIfInBounds_toArray, List.set_cons_zero, List.set_cons_succ, i64_w, i32_w]
                  rfl
                refine pure_ (i := 5) (N := (some 108)) (v := ?_) (a' := ?_) #[false, true, false, false, true, true, false, false, false, false, false] rfl rfl (any_of HT_.out (by kernel_rfl)) (fun _ _ _ h => h) (Or.inl ⟨by rfl, ?_⟩) ?_ ?_
                rotate_left
                · intro w'
                  go_simp
                  with_reducible rfl
                rotate_left
                · simp only [Act.put, List.setIfInBounds_toArray, List.set_cons_zero, List.set_cons_succ, i64_w, i32_w]
                  rfl
                refine pure_ (i := 6) (N := (some 109)) (v := ?_) (a' := ?_) #[false, true, false, false, true, true, true, false, false, false, false] rfl rfl (any_of HT_.out (by kernel_rfl)) (fun _ _ _ h => h) (Or.inl ⟨by rfl, ?_⟩) ?_ ?_
                rotate_left
                · intro w'
                  go_simp
                  with_reducible rfl
                rotate_left
                · simp only [Act.put, List.setIfInBounds_toArray, List.set_cons_zero, List.set_cons_succ, i64_w, i32_w]
                  rfl
                refine join_ (σ := Value × Value × Value) 4 #[true, true, true, true, true, true, true, false, false, false, false] (fun s_ => [(103, s_.1), (105, s_.2.1), (106, s_.2.2)]) (fun s_ w' => Sp.Sep wa.heap.size [Sp.row (kL (Since P (w.heap.size + 2) wa) wa) 22 wa.heap.size s_.2.1 F, Sp.ints wa.heap.size s_.2.2 [], Sp.none_] w' ∧ Below wa.heap.size wa w') ?_ ?_
                rotate_left
                · intro hJ0_2_3
                  refine join_ (σ := Value × Value) 5 #[true, true, false, true, true, true, true, false, false, false, false] (fun s_ => [(103, s_.1), (106, s_.2)]) (fun s_ w' => Sp.Sep wa.heap.size [Sp.row (kL (Since P (w.heap.size + 2) wa) wa) 22 wa.heap.size s_.1 [], Sp.ints wa.heap.size s_.2 [], Sp.none_] w' ∧ Below wa.heap.size wa w') ?_ ?_
                  rotate_left
                  · intro hJ0_3
                    refine two_ (i := 0) (j := 3) (Ni := some 103) (Nj := some 106) #[true, true, false, false, true, true, true, false, false, false, false] #[false, true, false, true, true, true, true, false, false, false, false] rfl rfl rfl rfl (two_of HT_.out (by kernel_rfl)) (by decide) (by decide) (fun Kc hK => ?_) (fun Kc hK => ?_)
                    · skip
                      refine Kd.R_lit_step (kL (Since P (w.heap.size + 2) wa) wa) (w0 := wa) wa.heap.size 22 (by rfl) (N := 103) rfl (xs := ([] : List (List Int))) (inner := []) (ok := fun _ => True) (okp := fun _ => True) ?hr ?hp (fun _ hk => hk) trivial hbel hbel.size (by simp) ?_
                      (case hr => first | (go_simp; done) | (go_simp; rfl))
                      (case hp => exact (Reps.none _ _))
                      intro v1 w1 ho hb hg hnew
                      have hsep1 : Sp.Sep wa.heap.size [Sp.row (kL (Since P (w.heap.size + 2) wa) wa) 22 wa.heap.size v1 [], Sp.none_, Sp.none_] w1 := hsep.fillNew 0 rfl rfl ho hg hnew hbel.size
                      have hbel1 := hb
                      clear ho hb hg hnew
                      refine hK.out _ _ hbel1 (fun hHeld => ?_)
                      clear hK Kc hsep hbel
                      have hsep := hsep1
                      have hbel := hbel1
                      clear hsep1 hbel1
                      refine norm_ (a' := ?_) ?_ ?_
                      rotate_left
                      · show Act.put _ (some 103) _ = _
                        simp only [Act.put, List.setIfInBounds_toArray, List.set_cons_zero, List.set_cons_succ, i64_w, i32_w]
                        rfl
                      refine two_ (i := 2) (j := 3) (Ni := some 105) (Nj := some 106) #[true, true, true, false, true, true, true, false, false, false, false] #[true, true, false, true, true, true, true, false, false, false, false] rfl rfl rfl rfl (two_of HT_.out (by kernel_rfl)) (by decide) (by decide) (fun Kc hK => ?_) (fun Kc hK => ?_)
                      · skip
                        refine Kd.R_append_rows_step (kL (Since P (w.heap.size + 2) wa) wa) (w0 := wa) wa.heap.size (by rfl) (.tmp 103) (.tmp 104) 25 22 (.slice none 0 0) 24 rfl Try.underlying25 info22 rfl (show 0 < 1 by decide) (by omega) v1 [] F AF F.length cF (fun _ => True) (fun _ => False) rfl rfl (Kd.R_mono (hsep.get 0 rfl) (fun _ _ => trivial)) (Kd.C_below (Wl.rows HFn.out) hbel) (fun _ _ h => h) (fun _ h => h.elim) (fun _ _ => trivial) hbel hbel.size (by rw [List.length_nil, Nat.zero_add]; have h3 := HFB.out.1; omega) ?_
                        intro v2 w1 ho hb hg hat
                        rw [List.nil_append] at ho
                        have hsep1 : Sp.Sep wa.heap.size [Sp.row (kL (Since P (w.heap.size + 2) wa) wa) 22 wa.heap.size v2 F, Sp.none_, Sp.none_] w1 := hsep.app 0 rfl rfl ho hg hat hbel.size
                        have hbel1 := hb
                        clear ho hb hg hat
                        refine hK.out _ _ hbel1 (fun hHeld => ?_)
                        clear hK Kc hsep hbel
                        have hsep := hsep1
                        have hbel := hbel1
                        clear hsep1 hbel1
                        refine norm_ (a' := ?_) ?_ ?_
                        rotate_left
                        · show Act.put _ (some 105) _ = _
                          simp only [Act.put, List.setIfInBounds_toArray, List.set_cons_zero, List.set_cons_succ, i64_w, i32_w]
                          rfl
                        refine one_ (i := 3) (N := some 106) #[true, true, true, true, true, true, true, false, false, false, false] rfl rfl (one_of HT_.out (by kernel_rfl)) (by decide) (fun Kc hK => ?_)
                        refine Kd.R_lit_step (Kd.int .i64) (w0 := wa) wa.heap.size 3 (by rfl) (N := 106) rfl (xs := ([] : List Int)) (inner := []) (ok := fun _ => True) (okp := fun _ => True) ?hr ?hp (fun _ hk => hk) trivial hbel hbel.size (by simp) ?_
                        (case hr => first | (go_simp; done) | (go_simp; rfl))
                        (case hp => exact (Reps.none _ _))
                        intro v3 w1 ho hb hg hnew
                        have hsep1 : Sp.Sep wa.heap.size [Sp.row (kL (Since P (w.heap.size + 2) wa) wa) 22 wa.heap.size v2 F, Sp.ints wa.heap.size v3 [], Sp.none_] w1 := hsep.fillNew 1 rfl rfl ho hg hnew hbel.size
                        have hbel1 := hb
                        clear ho hb hg hnew
                        refine hK.out _ _ hbel1 (fun hHeld => ?_)
                        clear hK Kc hsep hbel
                        have hsep := hsep1
                        have hbel := hbel1
                        clear hsep1 hbel1
                        refine norm_ (a' := ?_) ?_ ?_
                        rotate_left
                        · show Act.put _ (some 106) _ = _
                          simp only [Act.put, List.setIfInBounds_toArray, List.set_cons_zero, List.set_cons_succ, i64_w, i32_w]
                          rfl
                        exact norm_ (by first | (simp only [putAll, Act.put, List.setIfInBounds_toArray, List.set_cons_zero, List.set_cons_succ]; done) | (simp only [putAll, Act.put, List.setIfInBounds_toArray, List.set_cons_zero, List.set_cons_succ]; rfl)) (hJ0_2_3 (v1, v2, v3) _ ⟨hsep, hbel⟩)
                      · skip
                        refine Kd.R_lit_step (Kd.int .i64) (w0 := wa) wa.heap.size 3 (by rfl) (N := 106) rfl (xs := ([] : List Int)) (inner := []) (ok := fun _ => True) (okp := fun _ => True) ?hr ?hp (fun _ hk => hk) trivial hbel hbel.size (by simp) ?_
                        (case hr => first | (go_simp; done) | (go_simp; rfl))
                        (case hp => exact (Reps.none _ _))
                        intro v3 w1 ho hb hg hnew
                        have hsep1 : Sp.Sep wa.heap.size [Sp.row (kL (Since P (w.heap.size + 2) wa) wa) 22 wa.heap.size v1 [], Sp.ints wa.heap.size v3 [], Sp.none_] w1 := hsep.fillNew 1 rfl rfl ho hg hnew hbel.size
                        have hbel1 := hb
                        clear ho hb hg hnew
                        refine hK.out _ _ hbel1 (fun hHeld => ?_)
                        clear hK Kc hsep hbel
                        have hsep := hsep1
                        have hbel := hbel1
                        clear hsep1 hbel1
                        refine norm_ (a' := ?_) ?_ ?_
                        rotate_left
                        · show Act.put _ (some 106) _ = _
                          simp only [Act.put, List.setIfInBounds_toArray, List.set_cons_zero, List.set_cons_succ, i64_w, i32_w]
                          rfl
                        exact norm_ (by first | (simp only [putAll, Act.put, List.setIfInBounds_toArray, List.set_cons_zero, List.set_cons_succ]; done) | (simp only [putAll, Act.put, List.setIfInBounds_toArray, List.set_cons_zero, List.set_cons_succ]; rfl)) (hJ0_3 (v1, v3) _ ⟨hsep, hbel⟩)
                    · skip
                      refine Kd.R_lit_step (Kd.int .i64) (w0 := wa) wa.heap.size 3 (by rfl) (N := 106) rfl (xs := ([] : List Int)) (inner := []) (ok := fun _ => True) (okp := fun _ => True) ?hr ?hp (fun _ hk => hk) trivial hbel hbel.size (by simp) ?_
                      (case hr => first | (go_simp; done) | (go_simp; rfl))
                      (case hp => exact (Reps.none _ _))
                      intro v3 w1 ho hb hg hnew
                      have hsep1 : Sp.Sep wa.heap.size [Sp.none_, Sp.ints wa.heap.size v3 [], Sp.none_] w1 := hsep.fillNew 1 rfl rfl ho hg hnew hbel.size
                      have hbel1 := hb
                      clear ho hb hg hnew
                      refine hK.out _ _ hbel1 (fun hHeld => ?_)
                      clear hK Kc hsep hbel
                      have hsep := hsep1
                      have hbel := hbel1
                      clear hsep1 hbel1
                      refine norm_ (a' := ?_) ?_ ?_
                      rotate_left
                      · show Act.put _ (some 106) _ = _
                        simp only [Act.put, List.setIfInBounds_toArray, List.set_cons_zero, List.set_cons_succ, i64_w, i32_w]
                        rfl
                      refine one_ (i := 0) (N := some 103) #[true, true, false, true, true, true, true, false, false, false, false] rfl rfl (one_of HT_.out (by kernel_rfl)) (by decide) (fun Kc hK => ?_)
                      refine Kd.R_lit_step (kL (Since P (w.heap.size + 2) wa) wa) (w0 := wa) wa.heap.size 22 (by rfl) (N := 103) rfl (xs := ([] : List (List Int))) (inner := []) (ok := fun _ => True) (okp := fun _ => True) ?hr ?hp (fun _ hk => hk) trivial hbel hbel.size (by simp) ?_
                      (case hr => first | (go_simp; done) | (go_simp; rfl))
                      (case hp => exact (Reps.none _ _))
                      intro v1 w1 ho hb hg hnew
                      have hsep1 : Sp.Sep wa.heap.size [Sp.row (kL (Since P (w.heap.size + 2) wa) wa) 22 wa.heap.size v1 [], Sp.ints wa.heap.size v3 [], Sp.none_] w1 := hsep.fillNew 0 rfl rfl ho hg hnew hbel.size
                      have hbel1 := hb
                      clear ho hb hg hnew
                      refine hK.out _ _ hbel1 (fun hHeld => ?_)
                      clear hK Kc hsep hbel
                      have hsep := hsep1
                      have hbel := hbel1
                      clear hsep1 hbel1
                      refine norm_ (a' := ?_) ?_ ?_
                      rotate_left
                      · show Act.put _ (some 103) _ = _
                        simp only [Act.put, List.setIfInBounds_toArray, List.set_cons_zero, List.set_cons_succ, i64_w, i32_w]
                        rfl
                      exact norm_ (by first | (simp only [putAll, Act.put, List.setIfInBounds_toArray, List.set_cons_zero, List.set_cons_succ]; done) | (simp only [putAll, Act.put, List.setIfInBounds_toArray, List.set_cons_zero, List.set_cons_succ]; rfl)) (hJ0_3 (v1, v3) _ ⟨hsep, hbel⟩)
                  rintro ⟨v1, v3⟩ wj ⟨hsep, hbel⟩
                  try dsimp only at hsep
                  have hHeld : Below wa.heap.size wa wj := hbel
                  refine norm_ (a' := ?_) ?_ ?_
                  rotate_left
                  · simp only [putAll, Act.put, List.setIfInBounds_toArray, List.set_cons_zero, List.set_cons_succ]
                    rfl
                  refine one_ (i := 2) (N := some 105) #[true, true, true, true, true, true, true, false, false, false, false] rfl rfl (one_of HT_.out (by kernel_rfl)) (by decide) (fun Kc hK => ?_)
                  refine Kd.R_append_rows_step (kL (Since P (w.heap.size + 2) wa) wa) (w0 := wa) wa.heap.size (by rfl) (.tmp 103) (.tmp 104) 25 22 (.slice none 0 0) 24 rfl Try.underlying25 info22 rfl (show 0 < 1 by decide) (by omega) v1 [] F AF F.length cF (fun _ => True) (fun _ => False) rfl rfl (Kd.R_mono (hsep.get 0 rfl) (fun _ _ => trivial)) (Kd.C_below (Wl.rows HFn.out) hbel) (fun _ _ h => h) (fun _ h => h.elim) (fun _ _ => trivial) hbel hbel.size (by rw [List.length_nil, Nat.zero_add]; have h3 := HFB.out.1; omega) ?_
                  intro v2 w1 ho hb hg hat
                  rw [List.nil_append] at ho
                  have hsep1 : Sp.Sep wa.heap.size [Sp.row (kL (Since P (w.heap.size + 2) wa) wa) 22 wa.heap.size v2 F, Sp.ints wa.heap.size v3 [], Sp.none_] w1 := hsep.app 0 rfl rfl ho hg hat hbel.size
                  have hbel1 := hb
                  clear ho hb hg hat
                  refine hK.out _ _ hbel1 (fun hHeld => ?_)
                  clear hK Kc hsep hbel
                  have hsep := hsep1
                  have hbel := hbel1
                  clear hsep1 hbel1
                  refine norm_ (a' := ?_) ?_ ?_
                  rotate_left
                  · show Act.put _ (some 105) _ = _
                    simp only [Act.put, List.setIfInBounds_toArray, List.set_cons_zero, List.set_cons_succ, i64_w, i32_w]
                    rfl
                  exact norm_ (by first | (simp only [putAll, Act.put, List.setIfInBounds_toArray, List.set_cons_zero, List.set_cons_succ]; done) | (simp only [putAll, Act.put, List.setIfInBounds_toArray, List.set_cons_zero, List.set_cons_succ]; rfl)) (hJ0_2_3 (v1, v2, v3) _ ⟨hsep, hbel⟩)
                rintro ⟨v1, v2, v3⟩ wj ⟨hsep, hbel⟩
                try dsimp only at hsep
                have hHeld : Below wa.heap.size wa wj := hbel
                refine norm_ (a' := ?_) ?_ ?_
                rotate_left
                · simp only [putAll, Act.put, List.setIfInBounds_toArray, List.set_cons_zero, List.set_cons_succ]
                  rfl
                refine one_ (i := 7) (N := some 110) #[true, true, true, true, true, true, true, true, false, false, false] rfl rfl (one_of HT_.out (by kernel_rfl)) (by decide) (fun Kc hK => ?_)
                refine Kd.R_append_rows_step (Kd.int .i64) (w0 := wa) wa.heap.size (by rfl) (.tmp 106) (.tmp 109) 22 3 (.int .i64 0) 8 rfl Try.underlying22 info3 rfl (by decide) (by omega) v3 [] (l.take j) A1 j c1 (fun _ => True) (fun _ => False) rfl rfl (Kd.R_mono (hsep.get 1 rfl) (fun _ _ => trivial)) (C_cut (Kd.C_below HR1.out (below_step HBn.out hbel)) (by have := HJL.out; omega)) (fun _ _ h => h) (fun _ h => h.elim) (fun _ _ => trivial) hbel hbel.size (by rw [List.length_nil, Nat.zero_add]; have h1 := HJL.out; have h2 := HL.out; omega) ?_
                intro v7 w1 ho hb hg hat
                rw [List.nil_append] at ho
                obtain ⟨A7, c7, hv⟩ := Kd.R_slice ho
                rw [List.length_take, Nat.min_eq_left (by have := HJL.out; omega)] at hv
                subst hv
                have hsep1 : Sp.Sep wa.heap.size [Sp.row (kL (Since P (w.heap.size + 2) wa) wa) 22 wa.heap.size v2 F, Sp.ints wa.heap.size (.slice A7 j c7) (l.take j), Sp.none_] w1 := hsep.app 1 rfl rfl ho hg hat hbel.size
                have hbel1 := hb
                clear ho hb hg hat
                refine hK.out _ _ hbel1 (fun hHeld => ?_)
                clear hK Kc hsep hbel
                have hsep := hsep1
                have hbel := hbel1
                clear hsep1 hbel1
                refine norm_ (a' := ?_) ?_ ?_
                rotate_left
                · show Act.put _ (some 110) _ = _
                  simp only [Act.put, List.setIfInBounds_toArray, List.set_cons_zero, List.set_cons_succ, i64_w, i32_w]
                  rfl
                refine one_ (i := 8) (N := some 111) #[true, true, true, true, true, true, true, true, true, false, false] rfl rfl (one_of HT_.out (by kernel_rfl)) (by decide) (fun Kc hK => ?_)
                refine Kd.R_lit_step kH (w0 := wa) wa.heap.size 22 (by rfl) (N := 111) rfl (xs := [(A7, j, c7)]) (inner := [.slice A7 j c7]) (ok := fun _ => True) (okp := fun _ => True) ?hr ?hp (fun _ hk => hk) trivial hbel hbel.size (by simp) ?_
                (case hr => first | (go_simp; done) | (go_simp; rfl))
                (case hp => exact one_rep _)
                intro v8 w1 ho hb hg hnew
                obtain ⟨A8, c8, hv⟩ := Kd.R_slice ho
                have hv' : v8 = .slice A8 1 c8 := hv
                subst hv'
                clear hv
                have hsep1 : Sp.Sep wa.heap.size [Sp.row (kL (Since P (w.heap.size + 2) wa) wa) 22 wa.heap.size v2 F, Sp.ints wa.heap.size (.slice A7 j c7) (l.take j), Sp.row kH 22 wa.heap.size (.slice A8 1 c8) [(A7, j, c7)]] w1 := hsep.fillNew 2 rfl rfl ho hg hnew hbel.size
                have hbel1 := hb
                clear ho hb hg hnew
                refine hK.out _ _ hbel1 (fun hHeld => ?_)
                clear hK Kc hsep hbel
                have hsep := hsep1
                have hbel := hbel1
                clear hsep1 hbel1
                refine norm_ (a' := ?_) ?_ ?_
                rotate_left
                · show Act.put _ (some 111) _ = _
                  simp only [Act.put, List.setIfInBounds_toArray, List.set_cons_zero, List.set_cons_succ, i64_w, i32_w]
                  rfl
                refine last_ (i := 9) (N := some 112) #[true, true, true, true, true, true, true, true, true, true, false] rfl rfl (one_of HT_.out (by kernel_rfl)) (by decide) (fun Kc hK => ?_)
                rename World => wj
                refine Kd.R_append_rows_step (kL (With (Since P (w.heap.size + 2) wa) (.slice A7 j c7)) wj) (w0 := wa) wa.heap.size (by rfl) (.tmp 105) (.tmp 111) 25 22 (.slice none 0 0) 24 rfl Try.underlying25 info22 rfl (show 0 < 1 by decide) (by omega) v2 F [l.take j] A8 1 c8 (fun _ => True) (fun _ => False) rfl rfl (add_rows HPA.out hbel (hsep.get 0 rfl)) (add_one (hsep.get 1 rfl) (hsep.get 2 rfl)) (fun _ _ h => h) (fun _ h => h.elim) (fun _ _ => trivial) hbel hbel.size (by have h3 := HFB.out.1; omega) ?_
                intro v9 w9 ho hb hg hat
                have hq := added HPA.out HNA.out hbel (fun k hk => hsep.bound 0 rfl (show some k = v2.ownBlock from hk.symm)) (fun k hk => ⟨(hsep.bound 1 rfl (show some k = _ from hk.symm)).1, (hsep.bound 1 rfl (show some k = _ from hk.symm)).2, fun e => hsep.apart (i := 0) (j := 1) rfl rfl (by decide) (show some k = v2.ownBlock from e.symm) (show some k = _ from hk.symm)⟩) ho hb hg hat
                have HF9 := Aside0.mk hq
                have HS9 := Aside0.mk (HSn.out.low hb)
                have HB9 := Aside0.mk (below_step HBn.out hb)
                clear ho hb hg hat hq
                refine hK.out _ _ ?_
                clear hK Kc hsep hbel
                refine norm_ (a' := ?_) ?_ ?_
                rotate_left
                · show Act.put _ (some 112) _ = _
                  simp only [Act.put, List.setIfInBounds_toArray, List.set_cons_zero, List.set_cons_succ, i64_w, i32_w]
                  rfl
                refine pure_ (i := 10) (N := (some 13)) (v := ?_) (a' := ?_) #[true, true, true, true, true, true, true, true, true, true, true] rfl rfl (any_of HT_.out (by kernel_rfl)) (fun _ _ _ h => h) (Or.inl ⟨by rfl, ?_⟩) ?_ ?_
                rotate_left
                · intro w'
                  go_simp
                  with_reducible rfl
                rotate_left
                · simp only [Act.put, List.setIfInBounds_toArray, List.set_cons_zero, List.set_cons_succ, i64_w, i32_w]
                  rfl
                refine done_ (done_of HT_.out (by kernel_rfl)) ?_
                go_wp2
                have e1 := w64s (a := j) (by have h1 := HJL.out; have h2 := HL.out; omega)
                have e2 : freshR G l (j + 1) = F ++ [l.take j] := by
                  show (if l.take j ∈ freshR G l j then freshR G l j else freshR G l j ++ [l.take j]) = _
                  rw [HFE.out, if_neg HM.out]
                go_roundw
                case rel => exact ⟨j + 1, _, by first | rw [e1] | go_num, rfl, ⟨HJL.out⟩, ⟨by rw [e2]; exact HF9.out⟩, HS9, HB9⟩
                case measure => first | exact pmeas_at e1 HJL.out | exact pmeas_at2 HJL.out
            · have hj' : ¬ ((j : Int) ≤ (l.length : Int)) := by omega
              obtain rfl : j = l.length + 1 := by have := HJ.out; omega
              have hk6 : wr.cell? ⟨w.heap.size, 6, none⟩ = some (.int .i64 (most : Int)) := (blk_cell (HSr.out.get 0 rfl) 6).trans rfl
              have hf6 := blk_frozen (HSr.out.get 0 rfl) 6
              clear hj
              by_cases hfu : F.length > most
              · have hfu' : (F.length : Int) > (most : Int) := by omega
                have HFU := Aside0.mk hfu
                clear hfu
                go_wp2_with (first
                | ((with_reducible refine gate_store (t := 50) (p := 6) rfl ?_)
                   refine wpList_store_rowTo rfl 50 (.tmp 6) (.tmp 118) rfl rfl (w.heap.size + 1) #[.int .i64 2, .int .i64 (K : Int), .int .i64 O, .int .i64 0, .slice none 0 0, .slice none 0 0, .int .i64 (most : Int), .slice AW W.length cW, .slice AU U.length cU, .slice AG G.length cG, .int .i64 h, .int .i64 m] rfl rfl 50 _ (HSr.out.get 1 rfl) ?_ ?_ (by simp [Value.oneCell']) ?_
                   (focus (rw [i50]; rfl))
                   (focus rfl)
                   have HSz := Aside0.mk (HSr.out.setStruct 1 rfl #[.int .i64 2, .int .i64 (K : Int), .int .i64 O, .int .i64 0, .slice none 0 0, .slice none 0 0, .int .i64 (most : Int), .slice AW W.length cW, .slice AU U.length cU, .slice AG G.length cG, .int .i64 h, .int .i64 m] HBr.out.size)
                   have HBz := Aside0.mk (below_setRow HBr.out (HSr.out.bound 1 rfl (show w.heap.size + 1 = w.heap.size + 1 from rfl)).1 #[.int .i64 2, .int .i64 (K : Int), .int .i64 O, .int .i64 0, .slice none 0 0, .slice none 0 0, .int .i64 (most : Int), .slice AW W.length cW, .slice AU U.length cU, .slice AG G.length cG, .int .i64 h, .int .i64 m])
                   generalize World.setRow _ (w.heap.size + 1) _ = wz at HSz HBz ⊢)
                | ((with_reducible refine gate_dst (N := 118) rfl ?_)
                   refine wpList_load_row rfl 50 (.tmp 3) rfl w.heap.size rfl 50 #[.int .i64 2, .int .i64 (K : Int), .int .i64 O, .int .i64 0, .slice none 0 0, .slice none 0 0, .int .i64 (most : Int), .slice AW W.length cW, .slice AU U.length cU, .slice AG G.length cG, .int .i64 h, .int .i64 m] (0, 0) _ (HSr.out.get 0 rfl) Try.underlying50 rfl ?_ ?_
                   (focus (rw [i50]; rfl))))
                refine bodyPost_ret (results_ct rfl _ _ (w.heap.size + 1) 50 #[.int .i64 2, .int .i64 (K : Int), .int .i64 O, .int .i64 0, .slice none 0 0, .slice none 0 0, .int .i64 (most : Int), .slice AW W.length cW, .slice AU U.length cU, .slice AG G.length cG, .int .i64 h, .int .i64 m] (0, 0) _ rfl (HSz.out.get 1 rfl) Try.underlying50 rfl (by kernel_rfl)) rfl ?_
                exact RPutPost.no HP.out HW.out HU.out HG.out ((refErr_full HX.out HMEM.out HNC.out).trans (if_pos (by rw [HFE.out]; exact HFU.out))) (by decide) HBz.out
              · have hfu' : ¬ ((F.length : Int) > (most : Int)) := by omega
                have HFU := Aside0.mk hfu
                clear hfu
                have hkr9 : wr.cell? ⟨w.heap.size, 9, none⟩ = some (.slice AG G.length cG) := (blk_cell (HSr.out.get 0 rfl) 9).trans rfl
                have hfr9 := blk_frozen (HSr.out.get 0 rfl) 9
                go_wp2_with (first
                | ((with_reducible refine gate_store (t := 50) (p := 6) rfl ?_)
                   refine wpList_store_rowTo rfl 50 (.tmp 6) (.tmp 141) rfl rfl (w.heap.size + 1) #[.int .i64 2, .int .i64 (K : Int), .int .i64 O, .int .i64 0, .slice none 0 0, .slice none 0 0, .int .i64 (most : Int), .slice AW2 W2.length cW2, .slice AU2 U2.length cU2, .slice AF F.length cF, .int .i64 h, .int .i64 m] rfl rfl 50 _ (HSaz.out.get 1 rfl) ?_ ?_ (by simp [Value.oneCell']) ?_
                   (focus (rw [i50]; rfl))
                   (focus rfl)
                   have HSz := Aside0.mk (HSaz.out.setStruct 1 rfl #[.int .i64 2, .int .i64 (K : Int), .int .i64 O, .int .i64 0, .slice none 0 0, .slice none 0 0, .int .i64 (most : Int), .slice AW2 W2.length cW2, .slice AU2 U2.length cU2, .slice AF F.length cF, .int .i64 h, .int .i64 m] HBaz.out.size)
                   have HBz := Aside0.mk (below_setRow HBaz.out (HSaz.out.bound 1 rfl (show w.heap.size + 1 = w.heap.size + 1 from rfl)).1 #[.int .i64 2, .int .i64 (K : Int), .int .i64 O, .int .i64 0, .slice none 0 0, .slice none 0 0, .int .i64 (most : Int), .slice AW2 W2.length cW2, .slice AU2 U2.length cU2, .slice AF F.length cF, .int .i64 h, .int .i64 m])
                   have HFe := Aside0.mk (Wl.rowset HP.out HFz.out #[.int .i64 2, .int .i64 (K : Int), .int .i64 O, .int .i64 0, .slice none 0 0, .slice none 0 0, .int .i64 (most : Int), .slice AW2 W2.length cW2, .slice AU2 U2.length cU2, .slice AF F.length cF, .int .i64 h, .int .i64 m])
                   have HWe := Aside0.mk (Wl.rowset HP.out HWz.out #[.int .i64 2, .int .i64 (K : Int), .int .i64 O, .int .i64 0, .slice none 0 0, .slice none 0 0, .int .i64 (most : Int), .slice AW2 W2.length cW2, .slice AU2 U2.length cU2, .slice AF F.length cF, .int .i64 h, .int .i64 m])
                   have HUe := Aside0.mk (Wl.rowset HP.out HUz.out #[.int .i64 2, .int .i64 (K : Int), .int .i64 O, .int .i64 0, .slice none 0 0, .slice none 0 0, .int .i64 (most : Int), .slice AW2 W2.length cW2, .slice AU2 U2.length cU2, .slice AF F.length cF, .int .i64 h, .int .i64 m])
                   generalize World.setRow _ (w.heap.size + 1) _ = wz at HSz HBz HFe HWe HUe ⊢)
                | ((with_reducible refine gate_dst (N := 141) rfl ?_)
                   have HSaz := Aside0.mk (HSy6.out.cell 0 rfl 8 (.slice AU2 U2.length cU2) (cs' := #[.int .i64 2, .int .i64 (K : Int), .int .i64 O, .int .i64 0, .slice none 0 0, .slice none 0 0, .int .i64 (most : Int), .slice AW2 W2.length cW2, .slice AU2 U2.length cU2, .slice AF F.length cF, .int .i64 h, .int .i64 m]) rfl HBy6.out.size)
                   have HBaz := Aside0.mk (HSy6.out.belowSet (j := 8) (u := .slice AU2 U2.length cU2) 0 rfl HBy6.out)
                   have HFz := Aside0.mk (Wl.cell HP.out HFy6.out 8 (.slice AU2 U2.length cU2))
                   have HWz := Aside0.mk (Wl.cell HP.out HWy6.out 8 (.slice AU2 U2.length cU2))
                   have HUz := Aside0.mk (Wl.cell HP.out HU2.out 8 (.slice AU2 U2.length cU2))
                   generalize World.setCell wy6 ⟨w.heap.size, 8, none⟩ _ = waz at HSaz HBaz HFz HWz HUz ⊢
                   refine wpList_load_row rfl 50 (.tmp 3) rfl w.heap.size rfl 50 #[.int .i64 2, .int .i64 (K : Int), .int .i64 O, .int .i64 0, .slice none 0 0, .slice none 0 0, .int .i64 (most : Int), .slice AW2 W2.length cW2, .slice AU2 U2.length cU2, .slice AF F.length cF, .int .i64 h, .int .i64 m] (0, 0) _ (HSaz.out.get 0 rfl) Try.underlying50 rfl ?_ ?_
                   (focus (rw [i50]; rfl)))
                | ((with_reducible refine gate_builtin (b := .append) (xs := #[.tmp 134, .tmp 138]) rfl ?_)
                   at_builtin
                   refine Kd.R_append_rows (kL (With (Since P (w.heap.size + 2) way) (.slice Ay7 out.length cy7)) wy5) (w0 := way) way.heap.size rfl (.tmp 134) (.tmp 138) 25 22 (.slice none 0 0) 24 rfl Try.underlying25 info22 rfl (show 0 < 1 by decide) (by omega) vy2 U [out] Ay8 1 cy8 (fun _ => True) (fun _ => False) rfl rfl (add_rows HyPA.out HyQ5.out (HyP5.out.get 0 rfl)) (add_one (HyP5.out.get 1 rfl) (HyP5.out.get 2 rfl)) (fun _ _ h => h) (fun _ h => h.elim) (fun _ _ => trivial) HyQ5.out HyQ5.out.size (by have h1 := HUN.out; omega) ?_
                   intro vy6 wy6 ho hb hg hat
                   have hq := added HyPA.out HyNA.out HyQ5.out (fun k hk => HyP5.out.bound 0 rfl (show some k = vy2.ownBlock from hk.symm)) (fun k hk => ⟨(HyP5.out.bound 1 rfl (show some k = _ from hk.symm)).1, (HyP5.out.bound 1 rfl (show some k = _ from hk.symm)).2, fun e => HyP5.out.apart (i := 0) (j := 1) rfl rfl (by decide) (show some k = vy2.ownBlock from e.symm) (show some k = _ from hk.symm)⟩) ho hb hg hat
                   obtain ⟨U2, hU2⟩ : ∃ U2, U ++ [out] = U2 := ⟨_, rfl⟩
                   rw [hU2] at hq
                   obtain ⟨AU2, cU2, hv⟩ := hq.val
                   subst hv
                   have HU2 := Aside0.mk hq
                   have HUE := Aside0.mk hU2
                   have HSy6 := Aside0.mk (HSay.out.low hb)
                   have HBy6 := Aside0.mk (below_step HBay.out hb)
                   have HFy6 := Aside0.mk (HFy.out.since HyPA.out hb)
                   have HWy6 := Aside0.mk (HWy.out.since HyPA.out hb)
                   clear ho hb hg hat hq hU2
                   have hkz8 : wy6.cell? ⟨w.heap.size, 8, none⟩ = some (.slice AU U.length cU) := (blk_cell (HSy6.out.get 0 rfl) 8).trans rfl
                   have hfz8 := blk_frozen (HSy6.out.get 0 rfl) 8)
                | ((with_reducible refine gate_dst (N := 138) rfl ?_)
                   refine Kd.R_lit kH (w0 := way) way.heap.size 22 rfl (N := 138) rfl (xs := [(Ay7, out.length, cy7)]) (inner := [.slice Ay7 out.length cy7]) (ok := fun _ => True) (okp := fun _ => True) ?hr ?hp (fun _ hk => hk) trivial HyQ4.out HyQ4.out.size (by simp) ?_
                   (case hr => first | (go_simp; done) | (go_simp; rfl))
                   (case hp => exact one_rep _)
                   intro vy5 wy5 ho hb hg hnew
                   obtain ⟨Ay8, cy8, hv⟩ := Kd.R_slice ho
                   have hv' : vy5 = .slice Ay8 1 cy8 := hv
                   subst hv'
                   have HyP5 := Aside0.mk (HyP4.out.fillNew 2 rfl rfl ho hg hnew HyQ4.out.size)
                   have HyQ5 := Aside0.mk hb
                   clear ho hb hg hnew hv)
                | ((with_reducible refine gate_builtin (b := .append) (xs := #[.tmp 135, .tmp 136]) rfl ?_)
                   at_builtin
                   refine Kd.R_append_rows (Kd.int .i64) (w0 := way) way.heap.size rfl (.tmp 135) (.tmp 136) 22 3 (.int .i64 0) 8 rfl Try.underlying22 info3 rfl (by decide) (by omega) vy3 [] out A2 out.length c2 (fun _ => True) (fun _ => False) rfl rfl (Kd.R_mono (HyP3.out.get 1 rfl) (fun _ _ => trivial)) (Kd.C_below (Kd.C_below HR2.out HBay.out) HyQ3.out) (fun _ _ h => h) (fun _ h => h.elim) (fun _ _ => trivial) HyQ3.out HyQ3.out.size (by rw [List.length_nil, Nat.zero_add]; have h1 := HOL.out; omega) ?_
                   intro vy4 wy4 ho hb hg hat
                   rw [List.nil_append] at ho
                   obtain ⟨Ay7, cy7, hv⟩ := Kd.R_slice ho
                   subst hv
                   have HyP4 := Aside0.mk (HyP3.out.app 1 rfl rfl ho hg hat HyQ3.out.size)
                   have HyQ4 := Aside0.mk hb
                   clear ho hb hg hat)
                | ((with_reducible refine gate_dst (N := 135) rfl ?_)
                   refine Kd.R_lit (Kd.int .i64) (w0 := way) way.heap.size 3 rfl (N := 135) rfl (xs := ([] : List Int)) (inner := []) (ok := fun _ => True) (okp := fun _ => True) ?hr ?hp (fun _ hk => hk) trivial HyQ2.out HyQ2.out.size (by simp) ?_
                   (case hr => first | (go_simp; done) | (go_simp; rfl))
                   (case hp => exact (Reps.none _ _))
                   intro vy3 wy3 ho hb hg hnew
                   have HyP3 := Aside0.mk (HyP2.out.fillNew 1 rfl rfl ho hg hnew HyQ2.out.size)
                   have HyQ3 := Aside0.mk hb
                   clear ho hb hg hnew)
                | ((with_reducible refine gate_builtin (b := .append) (xs := #[.tmp 131, .tmp 133]) rfl ?_)
                   at_builtin
                   refine Kd.R_append_rows (kL (Since P (w.heap.size + 2) way) way) (w0 := way) way.heap.size rfl (.tmp 131) (.tmp 133) 25 22 (.slice none 0 0) 24 rfl Try.underlying25 info22 rfl (show 0 < 1 by decide) (by omega) vy1 [] U AU U.length cU (fun _ => True) (fun _ => False) rfl rfl (Kd.R_mono (HyP1.out.get 0 rfl) (fun _ _ => trivial)) (Kd.C_below (Wl.rows (HU.out.move (fun _ hk => .inl hk) (fun k hk => HBay.out.block k (HP.out k hk)))) HyQ1.out) (fun _ _ h => h) (fun _ h => h.elim) (fun _ _ => trivial) HyQ1.out HyQ1.out.size (by rw [List.length_nil, Nat.zero_add]; have h1 := HUN.out; omega) ?_
                   intro vy2 wy2 ho hb hg hat
                   rw [List.nil_append] at ho
                   have HyP2 := Aside0.mk (HyP1.out.app 0 rfl rfl ho hg hat HyQ1.out.size)
                   have HyQ2 := Aside0.mk hb
                   clear ho hb hg hat)
                | ((with_reducible refine gate_dst (N := 131) rfl ?_)
                   have HSay := Aside0.mk (HSx6.out.cell 0 rfl 7 (.slice AW2 W2.length cW2) (cs' := #[.int .i64 2, .int .i64 (K : Int), .int .i64 O, .int .i64 0, .slice none 0 0, .slice none 0 0, .int .i64 (most : Int), .slice AW2 W2.length cW2, .slice AU U.length cU, .slice AF F.length cF, .int .i64 h, .int .i64 m]) rfl HBx6.out.size)
                   have HBay := Aside0.mk (HSx6.out.belowSet (j := 7) (u := .slice AW2 W2.length cW2) 0 rfl HBx6.out)
                   have HFy := Aside0.mk (Wl.cell HP.out HFx6.out 7 (.slice AW2 W2.length cW2))
                   have HWy := Aside0.mk (Wl.cell HP.out HW2.out 7 (.slice AW2 W2.length cW2))
                   generalize World.setCell wx6 ⟨w.heap.size, 7, none⟩ _ = way at HSay HBay HFy HWy ⊢
                   have HyPA : Aside0 (∀ k, P k → k < way.heap.size) := ⟨fun k hk => Nat.lt_of_lt_of_le (HP.out k hk) HBay.out.size⟩
                   have HyNA : Aside0 ((w.heap.size + 2) ≤ way.heap.size) := ⟨(HSay.out.bound 1 rfl (show w.heap.size + 1 = w.heap.size + 1 from rfl)).2⟩
                   refine Kd.R_lit (kL (Since P (w.heap.size + 2) way) way) (w0 := way) way.heap.size 22 rfl (N := 131) rfl (xs := ([] : List (List Int))) (inner := []) (ok := fun _ => True) (okp := fun _ => True) ?hr ?hp (fun _ hk => hk) trivial (Below.refl _ _) (Nat.le_refl _) (by simp) ?_
                   (case hr => first | (go_simp; done) | (go_simp; rfl))
                   (case hp => exact (Reps.none _ _))
                   intro vy1 wy1 ho hb hg hnew
                   have HyP1 := Aside0.mk ((Sep.start way.heap.size 3 way).fillNew 0 rfl rfl ho hg hnew (Nat.le_refl _))
                   have HyQ1 := Aside0.mk hb
                   clear ho hb hg hnew
                   have HSy1 := Aside0.mk (HSay.out.low HyQ1.out)
                   have hky8 : wy1.cell? ⟨w.heap.size, 8, none⟩ = some (.slice AU U.length cU) := (blk_cell (HSy1.out.get 0 rfl) 8).trans rfl
                   have hfy8 := blk_frozen (HSy1.out.get 0 rfl) 8)
                | ((with_reducible refine gate_builtin (b := .append) (xs := #[.tmp 124, .tmp 128]) rfl ?_)
                   at_builtin
                   refine Kd.R_append_rows (kL (With (Since P (w.heap.size + 2) wax) (.slice Ax7 l.length cx7)) wx5) (w0 := wax) wax.heap.size rfl (.tmp 124) (.tmp 128) 25 22 (.slice none 0 0) 24 rfl Try.underlying25 info22 rfl (show 0 < 1 by decide) (by omega) vx2 W [l] Ax8 1 cx8 (fun _ => True) (fun _ => False) rfl rfl (add_rows HxPA.out HxQ5.out (HxP5.out.get 0 rfl)) (add_one (HxP5.out.get 1 rfl) (HxP5.out.get 2 rfl)) (fun _ _ h => h) (fun _ h => h.elim) (fun _ _ => trivial) HxQ5.out HxQ5.out.size (by have h1 := HWN.out; omega) ?_
                   intro vx6 wx6 ho hb hg hat
                   have hq := added HxPA.out HxNA.out HxQ5.out (fun k hk => HxP5.out.bound 0 rfl (show some k = vx2.ownBlock from hk.symm)) (fun k hk => ⟨(HxP5.out.bound 1 rfl (show some k = _ from hk.symm)).1, (HxP5.out.bound 1 rfl (show some k = _ from hk.symm)).2, fun e => HxP5.out.apart (i := 0) (j := 1) rfl rfl (by decide) (show some k = vx2.ownBlock from e.symm) (show some k = _ from hk.symm)⟩) ho hb hg hat
                   obtain ⟨W2, hW2⟩ : ∃ W2, W ++ [l] = W2 := ⟨_, rfl⟩
                   rw [hW2] at hq
                   obtain ⟨AW2, cW2, hv⟩ := hq.val
                   subst hv
                   have HW2 := Aside0.mk hq
                   have HWE := Aside0.mk hW2
                   have HSx6 := Aside0.mk (HSax.out.low hb)
                   have HBx6 := Aside0.mk (below_step HBax.out hb)
                   have HFx6 := Aside0.mk (HFx.out.since HxPA.out hb)
                   clear ho hb hg hat hq hW2
                   have hky7 : wx6.cell? ⟨w.heap.size, 7, none⟩ = some (.slice AW W.length cW) := (blk_cell (HSx6.out.get 0 rfl) 7).trans rfl
                   have hfy7 := blk_frozen (HSx6.out.get 0 rfl) 7)
                | ((with_reducible refine gate_dst (N := 128) rfl ?_)
                   refine Kd.R_lit kH (w0 := wax) wax.heap.size 22 rfl (N := 128) rfl (xs := [(Ax7, l.length, cx7)]) (inner := [.slice Ax7 l.length cx7]) (ok := fun _ => True) (okp := fun _ => True) ?hr ?hp (fun _ hk => hk) trivial HxQ4.out HxQ4.out.size (by simp) ?_
                   (case hr => first | (go_simp; done) | (go_simp; rfl))
                   (case hp => exact one_rep _)
                   intro vx5 wx5 ho hb hg hnew
                   obtain ⟨Ax8, cx8, hv⟩ := Kd.R_slice ho
                   have hv' : vx5 = .slice Ax8 1 cx8 := hv
                   subst hv'
                   have HxP5 := Aside0.mk (HxP4.out.fillNew 2 rfl rfl ho hg hnew HxQ4.out.size)
                   have HxQ5 := Aside0.mk hb
                   clear ho hb hg hnew hv)
                | ((with_reducible refine gate_builtin (b := .append) (xs := #[.tmp 125, .tmp 126]) rfl ?_)
                   at_builtin
                   refine Kd.R_append_rows (Kd.int .i64) (w0 := wax) wax.heap.size rfl (.tmp 125) (.tmp 126) 22 3 (.int .i64 0) 8 rfl Try.underlying22 info3 rfl (by decide) (by omega) vx3 [] l A1 l.length c1 (fun _ => True) (fun _ => False) rfl rfl (Kd.R_mono (HxP3.out.get 1 rfl) (fun _ _ => trivial)) (Kd.C_below (Kd.C_below HR1.out HBax.out) HxQ3.out) (fun _ _ h => h) (fun _ h => h.elim) (fun _ _ => trivial) HxQ3.out HxQ3.out.size (by rw [List.length_nil, Nat.zero_add]; have h1 := HL.out; omega) ?_
                   intro vx4 wx4 ho hb hg hat
                   rw [List.nil_append] at ho
                   obtain ⟨Ax7, cx7, hv⟩ := Kd.R_slice ho
                   subst hv
                   have HxP4 := Aside0.mk (HxP3.out.app 1 rfl rfl ho hg hat HxQ3.out.size)
                   have HxQ4 := Aside0.mk hb
                   clear ho hb hg hat)
                | ((with_reducible refine gate_dst (N := 125) rfl ?_)
                   refine Kd.R_lit (Kd.int .i64) (w0 := wax) wax.heap.size 3 rfl (N := 125) rfl (xs := ([] : List Int)) (inner := []) (ok := fun _ => True) (okp := fun _ => True) ?hr ?hp (fun _ hk => hk) trivial HxQ2.out HxQ2.out.size (by simp) ?_
                   (case hr => first | (go_simp; done) | (go_simp; rfl))
                   (case hp => exact (Reps.none _ _))
                   intro vx3 wx3 ho hb hg hnew
                   have HxP3 := Aside0.mk (HxP2.out.fillNew 1 rfl rfl ho hg hnew HxQ2.out.size)
                   have HxQ3 := Aside0.mk hb
                   clear ho hb hg hnew)
                | ((with_reducible refine gate_builtin (b := .append) (xs := #[.tmp 121, .tmp 123]) rfl ?_)
                   at_builtin
                   refine Kd.R_append_rows (kL (Since P (w.heap.size + 2) wax) wax) (w0 := wax) wax.heap.size rfl (.tmp 121) (.tmp 123) 25 22 (.slice none 0 0) 24 rfl Try.underlying25 info22 rfl (show 0 < 1 by decide) (by omega) vx1 [] W AW W.length cW (fun _ => True) (fun _ => False) rfl rfl (Kd.R_mono (HxP1.out.get 0 rfl) (fun _ _ => trivial)) (Kd.C_below (Wl.rows (HW.out.move (fun _ hk => .inl hk) (fun k hk => HBax.out.block k (HP.out k hk)))) HxQ1.out) (fun _ _ h => h) (fun _ h => h.elim) (fun _ _ => trivial) HxQ1.out HxQ1.out.size (by rw [List.length_nil, Nat.zero_add]; have h1 := HWN.out; omega) ?_
                   intro vx2 wx2 ho hb hg hat
                   rw [List.nil_append] at ho
                   have HxP2 := Aside0.mk (HxP1.out.app 0 rfl rfl ho hg hat HxQ1.out.size)
                   have HxQ2 := Aside0.mk hb
                   clear ho hb hg hat)
                | ((with_reducible refine gate_dst (N := 121) rfl ?_)
                   have HSax := Aside0.mk (HSr.out.cell 0 rfl 9 (.slice AF F.length cF) (cs' := #[.int .i64 2, .int .i64 (K : Int), .int .i64 O, .int .i64 0, .slice none 0 0, .slice none 0 0, .int .i64 (most : Int), .slice AW W.length cW, .slice AU U.length cU, .slice AF F.length cF, .int .i64 h, .int .i64 m]) rfl HBr.out.size)
                   have HBax := Aside0.mk (HSr.out.belowSet (j := 9) (u := .slice AF F.length cF) 0 rfl HBr.out)
                   have HFx := Aside0.mk (Wl.cell HP.out HF.out 9 (.slice AF F.length cF))
                   generalize World.setCell wr ⟨w.heap.size, 9, none⟩ _ = wax at HSax HBax HFx ⊢
                   have HxPA : Aside0 (∀ k, P k → k < wax.heap.size) := ⟨fun k hk => Nat.lt_of_lt_of_le (HP.out k hk) HBax.out.size⟩
                   have HxNA : Aside0 ((w.heap.size + 2) ≤ wax.heap.size) := ⟨(HSax.out.bound 1 rfl (show w.heap.size + 1 = w.heap.size + 1 from rfl)).2⟩
                   refine Kd.R_lit (kL (Since P (w.heap.size + 2) wax) wax) (w0 := wax) wax.heap.size 22 rfl (N := 121) rfl (xs := ([] : List (List Int))) (inner := []) (ok := fun _ => True) (okp := fun _ => True) ?hr ?hp (fun _ hk => hk) trivial (Below.refl _ _) (Nat.le_refl _) (by simp) ?_
                   (case hr => first | (go_simp; done) | (go_simp; rfl))
                   (case hp => exact (Reps.none _ _))
                   intro vx1 wx1 ho hb hg hnew
                   have HxP1 := Aside0.mk ((Sep.start wax.heap.size 3 wax).fillNew 0 rfl rfl ho hg hnew (Nat.le_refl _))
                   have HxQ1 := Aside0.mk hb
                   clear ho hb hg hnew
                   have HSx1 := Aside0.mk (HSax.out.low HxQ1.out)
                   have hkx7 : wx1.cell? ⟨w.heap.size, 7, none⟩ = some (.slice AW W.length cW) := (blk_cell (HSx1.out.get 0 rfl) 7).trans rfl
                   have hfx7 := blk_frozen (HSx1.out.get 0 rfl) 7))
                refine bodyPost_ret (results_ct rfl _ _ (w.heap.size + 1) 50 #[.int .i64 2, .int .i64 (K : Int), .int .i64 O, .int .i64 0, .slice none 0 0, .slice none 0 0, .int .i64 (most : Int), .slice AW2 W2.length cW2, .slice AU2 U2.length cU2, .slice AF F.length cF, .int .i64 h, .int .i64 m] (0, 0) _ rfl (HSz.out.get 1 rfl) Try.underlying50 rfl (by kernel_rfl)) rfl ?_
                exact RPutPost.ok ((refErr_full HX.out HMEM.out HNC.out).trans (if_neg (by rw [HFE.out]; exact HFU.out))) (by rw [HWE.out]; exact HWe.out.fin (by omega)) (by rw [HUE.out]; exact HUe.out.fin (by omega)) (by rw [HFE.out]; exact HFe.out.fin (by omega)) HBz.out
  · have hxb : (x != 0) = true := by simpa using hx0
    clear hxb
    go_enter Try.func25, Try.ntmps25
    go_wp2_with (first
    | ((with_reducible refine gate_store (t := 50) (p := 6) rfl ?_)
       refine wpList_store_rowTo rfl 50 (.tmp 6) (.tmp 25) rfl rfl (w.heap.size + 1) #[.int .i64 2, .int .i64 (K : Int), .int .i64 O, .int .i64 0, .slice none 0 0, .slice none 0 0, .int .i64 (most : Int), .slice AW W.length cW, .slice AU U.length cU, .slice AG G.length cG, .int .i64 h, .int .i64 m] rfl rfl 50 _ (HS1.out.get 1 rfl) ?_ ?_ (by simp [Value.oneCell']) ?_
       (focus (rw [i50]; rfl))
       (focus rfl)
       have HSz := Aside0.mk (HS1.out.setStruct 1 rfl #[.int .i64 2, .int .i64 (K : Int), .int .i64 O, .int .i64 0, .slice none 0 0, .slice none 0 0, .int .i64 (most : Int), .slice AW W.length cW, .slice AU U.length cU, .slice AG G.length cG, .int .i64 h, .int .i64 m] HB1.out.size)
       have HBz := Aside0.mk (below_setRow HB1.out (HS1.out.bound 1 rfl (show w.heap.size + 1 = w.heap.size + 1 from rfl)).1 #[.int .i64 2, .int .i64 (K : Int), .int .i64 O, .int .i64 0, .slice none 0 0, .slice none 0 0, .int .i64 (most : Int), .slice AW W.length cW, .slice AU U.length cU, .slice AG G.length cG, .int .i64 h, .int .i64 m])
       generalize World.setRow _ (w.heap.size + 1) _ = wz at HSz HBz ⊢)
    | ((with_reducible refine gate_dst (N := 25) rfl ?_)
       refine wpList_load_row rfl 50 (.tmp 3) rfl w.heap.size rfl 50 #[.int .i64 2, .int .i64 (K : Int), .int .i64 O, .int .i64 0, .slice none 0 0, .slice none 0 0, .int .i64 (most : Int), .slice AW W.length cW, .slice AU U.length cU, .slice AG G.length cG, .int .i64 h, .int .i64 m] (0, 0) _ (HS1.out.get 0 rfl) Try.underlying50 rfl ?_ ?_
       (focus (rw [i50]; rfl)))
    | (go_at_call 44; refine (hwe _ (Kd.C_below HR1.out HB0.out)).mono ?_
       rintro e w1 ⟨p1, rfl, ⟨nd1, rfl⟩⟩
       have HS1 := Aside0.mk (HS0.out.low (pw_below_drewN (Below.refl _ _) nd1))
       have HB1 := Aside0.mk (pw_below_drewN HB0.out nd1)
       generalize World.drewN _ nd1 = w1 at HS1 HB1 ⊢))
    refine bodyPost_ret (results_ct rfl _ _ (w.heap.size + 1) 50 #[.int .i64 2, .int .i64 (K : Int), .int .i64 O, .int .i64 0, .slice none 0 0, .slice none 0 0, .int .i64 (most : Int), .slice AW W.length cW, .slice AU U.length cU, .slice AG G.length cG, .int .i64 h, .int .i64 m] (0, 0) _ rfl (HSz.out.get 1 rfl) Try.underlying50 rfl (by kernel_rfl)) rfl ?_
    exact RPutPost.no HP.out HW.out HU.out HG.out (refErr_word HX.out hx0) hx0 HBz.out
set_option maxHeartbeats 16000000 in
set_option maxRecDepth 100000 in
theorem RPut_walk (kd : Int) (P : Nat → Prop) (K : Nat) (O : Int) (most : Nat) (h m : Int) (AW : Option Addr) (cW : Nat) (AU : Option Addr) (cU : Nat) (AG : Option Addr) (cG : Nat) (W U G : List (List Int)) (w : World) (l : List Int) (A1 : Option Addr) (c1 : Nat) (out : List Int) (A2 : Option Addr) (c2 : Nat) (hP : ∀ k, P k → k < w.heap.size) (hW : Wl P w (.slice AW W.length cW) W) (hU : Wl P w (.slice AU U.length cU) U) (hG : Wl P w (.slice AG G.length cG) G) (hr1 : Kd.C (Kd.int .i64) w A1 l.length l) (hc1 : l.length ≤ c1) (hr2 : Kd.C (Kd.int .i64) w A2 out.length out) (hc2 : out.length ≤ c2) (hK : 1 ≤ K ∧ K ≤ 64) (hWU : W.length = U.length) (hWl : ∀ x ∈ W, x.length ≤ 1000000) (hWn : W.length ≤ 1000000) (hUl : ∀ x ∈ U, x.length ≤ 1000000) (hGl : ∀ x ∈ G, x.length ≤ 1000000) (hUn : U.length ≤ 1000000) (hGn : G.length ≤ 2000000) (hl : l.length ≤ 1000000) (hol : out.length ≤ 1000000) (hkd : kd = 1 ∨ kd = 2) (hlen : kd = 2 → ∀ (i : Nat) (a o : List Int), W[i]? = some a → U[i]? = some o → a.length ≤ o.length) : Calls Try.prog 25 #[.agg #[.int .i64 kd, .int .i64 (K : Int), .int .i64 O, .int .i64 0, .slice none 0 0, .slice none 0 0, .int .i64 (most : Int), .slice AW W.length cW, .slice AU U.length cU, .slice AG G.length cG, .int .i64 h, .int .i64 m], .slice A1 l.length c1, .slice A2 out.length c2] w (RPutPost P kd K O most h m W U G l out w) := by
  rcases hkd with rfl | rfl
  · exact RPut_c1 P K O most h m AW cW AU cU AG cG W U G w l A1 c1 out A2 c2 hP hW hU hG hr1 hc1 hr2 hc2 hK hWU hWl hWn hUl hGl hUn hGn hl hol
  · exact RPut_c2 P K O most h m AW cW AU cU AG cG W U G w l A1 c1 out A2 c2 hP hW hU hG hr1 hc1 hr2 hc2 hK hWU hWl hWn hUl hGl hUn hGn hl hol (hlen rfl)
end Go.Proofs.Ytdijkhamebkfjaa.X
end
