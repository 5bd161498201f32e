/- Texts of the statement SampleKeeps, one behind the other: Go functions as Lean functions, the machine's calls, the plain law. -/
import Derived.Test.YtocejofjmmoeaaaMSampleKeeps1
import Derived.Test.YtocejofjmmoeaaaMSampleKeeps4
import Derived.Test.YtocejofjmmoeaaaMSampleKeeps13
import Derived.Shelf.SlSortCmp.NoneTotal
import Derived.Shelf.SlSortCmp.Whole1
set_option linter.unusedVariables false
set_option linter.unusedSimpArgs false
section
namespace Go.Proofs.Ytocejofjmmoeaaa.X
open Go.RowKit Go.Proofs.YtocejofjmmoeaaaW.PrintWords Go.Proofs.YtocejofjmmoeaaaW.PrintLast Go.Proofs.YtocejofjmmoeaaaW.PrintMore
open Go.Proofs.Ytocejofjmmoeaaa Go.Proofs.Ytocejofjmmoeaaa.Sp
def lexC : List Int → List Int → Int
  | [], [] => 0
  | [], _ :: _ => -1
  | _ :: _, [] => 1
  | a :: xs, b :: ys => if a < b then -1 else if a > b then 1 else lexC xs ys
def cmpW (a b : List Int) : Int := if a.length < b.length then -1 else if a.length > b.length then 1 else lexC a b
theorem lexC_self : ∀ a, lexC a a = 0
  | [] => rfl
  | a :: xs => by unfold lexC; rw [if_neg (by omega), if_neg (by omega)]; exact lexC_self xs
theorem lexC_anti : ∀ a b, lexC a b = - lexC b a
  | [], [] => rfl
  | [], _ :: _ => rfl
  | _ :: _, [] => rfl
  | a :: xs, b :: ys => by
    unfold lexC
    have := lexC_anti xs ys
    split <;> split <;> (try split) <;> first | omega | (exfalso; omega) | skip
theorem lexC_zero : ∀ a b, lexC a b = 0 → a = b
  | [], [], _ => rfl
  | [], _ :: _, h => by simp [lexC] at h
  | _ :: _, [], h => by simp [lexC] at h
  | a :: xs, b :: ys, h => by
    unfold lexC at h
    by_cases h1 : a < b
    · rw [if_pos h1] at h; omega
    · by_cases h2 : a > b
      · rw [if_neg h1, if_pos h2] at h; omega
      · rw [if_neg h1, if_neg h2] at h
        rw [lexC_zero xs ys h, show a = b by omega]
theorem lexC_trans : ∀ a b c, lexC a b < 0 → lexC b c < 0 → lexC a c < 0
  | [], [], c, h, _ => by simp [lexC] at h
  | [], _ :: _, [], _, h2 => by simp [lexC] at h2
  | [], _ :: _, _ :: _, _, _ => by simp [lexC]
  | _ :: _, [], _, h, _ => by simp [lexC] at h
  | _ :: _, _ :: _, [], _, h2 => by simp [lexC] at h2
  | a :: xs, b :: ys, c :: zs, h, h2 => by
    unfold lexC at h h2 ⊢
    by_cases c1 : a < c
    · rw [if_pos c1]; omega
    · by_cases c2 : a > c
      · exfalso
        by_cases h3 : a < b
        · have : b > c := by omega
          rw [if_neg (by omega), if_pos this] at h2
          omega
        · by_cases h4 : a > b
          · rw [if_neg h3, if_pos h4] at h; omega
          · rw [if_neg (by omega), if_pos (by omega)] at h2; omega
      · rw [if_neg c1, if_neg c2]
        by_cases h3 : a < b
        · rw [if_neg (by omega), if_pos (by omega)] at h2; omega
        · by_cases h4 : a > b
          · rw [if_neg h3, if_pos h4] at h; omega
          · rw [if_neg h3, if_neg h4] at h
            rw [if_neg (by omega), if_neg (by omega)] at h2
            exact lexC_trans xs ys zs h h2
theorem cmpW_self (a : List Int) : cmpW a a = 0 := by unfold cmpW; rw [if_neg (by omega), if_neg (by omega)]; exact lexC_self a
theorem cmpW_anti (a b : List Int) : cmpW a b = - cmpW b a := by
  unfold cmpW
  have := lexC_anti a b
  split <;> split <;> (try split) <;> first | omega | (exfalso; omega) | skip
theorem cmpW_zero (a b : List Int) (h : cmpW a b = 0) : a = b := by
  unfold cmpW at h
  by_cases h1 : a.length < b.length
  · rw [if_pos h1] at h; omega
  · by_cases h2 : a.length > b.length
    · rw [if_neg h1, if_pos h2] at h; omega
    · rw [if_neg h1, if_neg h2] at h
      exact lexC_zero a b h
theorem cmpW_trans (a b c : List Int) (h : cmpW a b < 0) (h2 : cmpW b c < 0) : cmpW a c < 0 := by
  unfold cmpW at h h2 ⊢
  by_cases c1 : a.length < c.length
  · rw [if_pos c1]; omega
  · by_cases c2 : a.length > c.length
    · exfalso
      by_cases h3 : a.length < b.length
      · rw [if_neg (by omega), if_pos (by omega)] at h2; omega
      · by_cases h4 : a.length > b.length
        · rw [if_neg h3, if_pos h4] at h; omega
        · rw [if_neg (by omega), if_pos (by omega)] at h2; omega
    · rw [if_neg c1, if_neg c2]
      by_cases h3 : a.length < b.length
      · rw [if_neg (by omega), if_pos (by omega)] at h2; omega
      · by_cases h4 : a.length > b.length
        · rw [if_neg h3, if_pos h4] at h; omega
        · rw [if_neg h3, if_neg h4] at h
          rw [if_neg (by omega), if_neg (by omega)] at h2
          exact lexC_trans a b c h h2
theorem cmp_int (x y : Int) : cmp_Compare_int.f x y = some (if x < y then -1 else if x > y then 1 else 0) := by
  unfold cmp_Compare_int.f cmp_isNaN_int.f
  simp
  split <;> (try split) <;> rfl
theorem sl_cmp : ∀ (k : Nat) (a b : List Int) (i : Nat), i ≤ a.length → a.length - i + 1 ≤ k → a.length < 4611686018427387904 → b.length < 4611686018427387904 → i ≤ b.length → slices_Compare_int_int.l0 k a b a (a.length : Int) i = some (lexC (a.drop i) (b.drop i))
  | 0, a, b, i, hi, hk, _, _, _ => by omega
  | k + 1, a, b, i, hi, hk, ha, hb, hib => by
    unfold slices_Compare_int_int.l0
    by_cases h : i < a.length
    · rw [if_pos (by omega), if_pos (by omega), if_pos (by omega)]
      rw [List.drop_eq_getElem_cons h]
      by_cases h2 : i < b.length
      · rw [if_neg (by omega), if_pos (by omega), cmp_int, rd_nat h, rd_nat h2, List.drop_eq_getElem_cons h2]
        have e : wrap64 ((i : Int) + 1) = ((i + 1 : Nat) : Int) := by unfold wrap64; omega
        have ih := sl_cmp k a b (i + 1) (by omega) (by omega) ha hb (by omega)
        unfold lexC
        by_cases c1 : a[i] < b[i]
        · simp [c1]
        · by_cases c2 : a[i] > b[i]
          · simp [c1, c2]
          · rw [if_neg c1, if_neg c2, if_neg c1, if_neg c2]
            simp only [Option.bind_some, ↓reduceIte]
            rw [e, ih]
      · have hbe : b.drop i = [] := List.drop_eq_nil_of_le (by omega)
        rw [if_pos (by omega), hbe]
        rfl
    · have hae : a.drop i = [] := List.drop_eq_nil_of_le (by omega)
      rw [if_neg (by omega), hae]
      by_cases h2 : i < b.length
      · rw [if_pos (by omega), List.drop_eq_getElem_cons h2]
        rfl
      · rw [if_neg (by omega), List.drop_eq_nil_of_le (by omega)]
        rfl
theorem cmpW_is (k : Nat) (a b : List Int) (hk : a.length + 1 ≤ k) (ha : a.length < 4611686018427387904) (hb : b.length < 4611686018427387904) : word_Compare.f k a b = some (cmpW a b) := by
  unfold word_Compare.f cmpW
  rw [cmp_int]
  by_cases c1 : a.length < b.length
  · rw [if_pos (by omega), if_pos c1]; rfl
  · by_cases c2 : a.length > b.length
    · rw [if_neg (by omega), if_pos (by omega), if_neg c1, if_pos c2]; rfl
    · rw [if_neg (by omega), if_neg (by omega), if_neg c1, if_neg c2]
      have := sl_cmp k a b 0 (by omega) (by omega) ha hb (by omega)
      simp only [Option.bind_some, ↓reduceIte]
      unfold slices_Compare_int_int.f
      have t2 : slices_Compare_int_int.l0 k a b a (a.length : Int) 0 = some (lexC a b) := this
      rw [t2]
      rfl
abbrev Hdr := Option Addr × Nat × Nat
def encH (h : Hdr) : Value := .slice h.1 h.2.1 h.2.2
theorem encH_one : ∀ h, (encH h).oneCell' = true := fun _ => rfl
abbrev kH : Kd Hdr := Kd.scalar encH encH_one
theorem cmp_swo {α : Type} (f : α → List Int) : Go.Sort.SWO (ltOf (fun x y => cmpW (f x) (f y))) where
  irrefl := fun x => by
    unfold ltOf
    refine decide_eq_false ?_
    show ¬ cmpW (f x) (f x) < 0
    rw [cmpW_self]
    omega
  trans := fun x y z h1 h2 => by
    unfold ltOf at *
    exact decide_eq_true (cmpW_trans _ _ _ (of_decide_eq_true h1) (of_decide_eq_true h2))
  ntrans := fun x y z h1 h2 => by
    unfold ltOf at *
    have g1 : ¬ cmpW (f x) (f y) < 0 := of_decide_eq_false h1
    have g2 : ¬ cmpW (f y) (f z) < 0 := of_decide_eq_false h2
    refine decide_eq_false fun (g3 : cmpW (f x) (f z) < 0) => ?_
    have a1 := cmpW_anti (f x) (f y)
    have a2 := cmpW_anti (f y) (f z)
    by_cases e1 : cmpW (f y) (f x) = 0
    · rw [cmpW_zero _ _ e1] at g2; exact g2 g3
    · by_cases e2 : cmpW (f z) (f y) = 0
      · rw [cmpW_zero _ _ e2] at g3; exact g1 g3
      · have := cmpW_trans (f z) (f y) (f x) (by omega) (by omega)
        have a3 := cmpW_anti (f x) (f z)
        omega
theorem sw_heap {α : Type} [Inhabited α] (enc : α → Value) (w : World) (g m : Nat) (dk : Array α) (os : Array Obj) (cur : Array Value) (hc : w.heap[g]? = some (.cells cur 32 (0, 0))) (k : Nat) (hk : k < w.heap.size) :
    (sortWorld enc w g 0 m dk os).heap[k]? = if k = g then some (.cells (Go.Sort.putCells enc 0 dk cur) 32 (0, 0)) else w.heap[k]? := by
  have e1 : (sortWorld enc w g 0 m dk os).heap = (w.heap.modify g (Go.Sort.onCells (Go.Sort.putCells enc 0 dk))) ++ os := rfl
  rw [e1, Array.getElem?_append_left (by simpa using hk), Array.getElem?_modify]
  by_cases e : g = k
  · subst e
    rw [if_pos rfl, if_pos rfl, hc]
    rfl
  · rw [if_neg e, if_neg (fun h => e h.symm)]
theorem sw_size {α : Type} [Inhabited α] (enc : α → Value) (w : World) (g m : Nat) (dk : Array α) (os : Array Obj) : w.heap.size ≤ (sortWorld enc w g 0 m dk os).heap.size := by
  show w.heap.size ≤ ((w.heap.modify g _) ++ os).size
  simp
def SortRPost (base n : Nat) (v : Value) (H : Nat → Hdr) (L : Nat → List Int) (rs : List Res) (i0 : Nat) (w : World) : Ending → World → Prop := fun e w' => e = .returned (.tuple #[]) ∧ ∃ s : Nat → Nat, ((List.range n).map s).Perm (List.range n) ∧ (∀ i j, i < j → j < n → cmpW (L (s i)) (L (s j)) ≤ 0) ∧ Sep base (rs.set i0 (row kH 32 base v ((List.range n).map fun i => H (s i)))) w' ∧ Below base w w'
theorem SortReads (base n : Nat) (v : Value) (H : Nat → Hdr) (L : Nat → List Int) (rs : List Res) (i0 : Nat) (w0 w : World) (h : Sep base rs w) (hi0 : rs[i0]? = some (row kH 32 base v ((List.range n).map H))) (hb : base ≤ w.heap.size) (hw0 : w0.heap.size ≤ base) (hbel : Below w0.heap.size w0 w) (hrd : ∀ i, i < n → ∃ A c, encH (H i) = .slice A (L i).length c ∧ (L i).length ≤ c ∧ Kd.C (Kd.int .i64) w0 A (L i).length (L i)) (hn : n < 4611686018427387904) (hL : ∀ i, i < n → (L i).length < 4611686018427387904) :
    Calls Try.prog 38 #[v, .func (.func 39) #[] #[]] w (SortRPost base n v H L rs i0 w) := by
  by_cases hn0 : n = 0
  · subst hn0
    obtain ⟨A, c, rfl⟩ := Kd.R_slice (h.get i0 hi0)
    have hS := AnyF.slices_SortFunc_none (P := Try.prog) (ρ := Try.sortL_ren) { Try.sortL with } A c (.func (.func 39) #[] #[]) w
    change Calls Try.prog 38 _ _ _ at hS
    refine hS.mono ?_
    rintro e w' ⟨rfl, rfl⟩
    refine ⟨rfl, id, by simp, fun i j hi hj => by omega, ?_, Below.refl _ _⟩
    refine (show Sep base (rs.set i0 (row kH 32 base (.slice A ((List.range 0).map H).length c) ((List.range 0).map H))) w' from ?_)
    rw [set_same hi0]
    exact h
  · have hrow := h.get i0 hi0
    have hown := Kd.own_of_R hrow
    rw [List.length_map, List.length_range] at hown
    rcases hown.2 with ⟨_, h0⟩ | ⟨g, cap, cur, hv, hgb, hc, hle, hcap, hsz, htk⟩
    · omega
    · subst hv
      have hglt := blk_lt hc
      obtain ⟨N, hN⟩ : ∃ N : Nat → Nat, N = fun i => if i < n then i else 0 := ⟨_, rfl⟩
      have hNlt : ∀ i, N i < n := fun i => by rw [hN]; show (if i < n then i else 0) < n; split <;> omega
      have hNs : ∀ i, i < n → N i = i := fun i hi => by rw [hN]; exact if_pos hi
      have hcell : ∀ i, i < n → cur[i]? = some (encH (H i)) := fun i hi => by
        have := congrArg (fun l => l[i]?) htk
        simp only [List.getElem?_take, encs, List.getElem?_map, List.getElem?_range hi] at this
        rw [if_pos (by omega), Array.getElem?_toList] at this
        exact this
      let enc : Nat → Value := fun i => encH (H (N i))
      have hH : Go.Sort.Holds enc w g 0 (Array.range n) := fun j hj => by
        have hj' : j < n := by simpa using hj
        refine ⟨?_, blk_frozen hc _⟩
        rw [cell_of_row w g _ cur 32 (0, 0) hc, Nat.zero_add, hcell j hj']
        congr 1
        have : (Array.range n)[j]! = j := by simp [hj']
        rw [this]
        show encH (H j) = encH (H (N j))
        rw [hNs j hj']
      have hsz' : (Array.range n).size = n := by simp
      have hsw : ∀ m os (dk : Array Nat), Below base w (sortWorld enc w g 0 m dk os) := fun m os dk => ⟨rfl, rfl, rfl, sw_size enc w g m dk os, fun k hk => by
        rw [sw_heap enc w g m dk os cur hc k (by omega), if_neg (by omega)]⟩
      have hcmp : CmpReads Try.prog 39 #[] enc (fun x y => cmpW (L (N x)) (L (N y))) g 0 (Array.range n).size w := fun m os dk hs x y => by
        have rd1 : ∀ i, i < n → ∃ A c, encH (H i) = .slice A (L i).length c ∧ (L i).length ≤ c ∧ Kd.C (Kd.int .i64) (sortWorld enc w g 0 m dk os) A (L i).length (L i) := fun i hi => by
          obtain ⟨A, c, g1, g2, g3⟩ := hrd i hi
          exact ⟨A, c, g1, g2, Kd.C_below g3 (hbel.trans ((hsw m os dk).mono hw0))⟩
        obtain ⟨A, c, e1, hc1, hr1⟩ := rd1 (N x) (hNlt x)
        obtain ⟨A2, c2, e2, hc2, hr2⟩ := rd1 (N y) (hNlt y)
        have hw := word_Compare.calls ((L (N x)).length + 1) A c (L (N x)) A2 c2 (L (N y)) (cmpW (L (N x)) (L (N y))) _ hr1 hc1 hr2 hc2 (cmpW_is _ _ _ (Nat.le_refl _) (hL _ (hNlt x)) (hL _ (hNlt y)))
        show Calls Try.prog 39 #[encH (H (N x)), encH (H (N y))] _ _
        rw [e1, e2]
        refine hw.mono ?_
        rintro e w' ⟨rfl, nd, rfl⟩
        exact ⟨rfl, nd, rfl⟩
      have eg : ∀ args w, (callFunc 39 args).run Try.prog w = .ok (.enter 39 args) w := fun args W => enters_ Try.func39 (by kernel_rfl) rfl args W
      have hS := Any.slices_SortFunc Try.sortL enc (fun _ => rfl) (fun x y => cmpW (L (N x)) (L (N y))) (cmp_swo (fun x => L (N x))) 39 #[] g 0 cap (Array.range n) w eg hcmp.lays hH hglt (by rw [hsz']; exact hn)
      rw [hsz'] at hS
      change Calls Try.prog 38 _ _ _ at hS
      refine hS.mono ?_
      rintro e w' ⟨rfl, d', m, os, hp, hsrt, rfl⟩
      obtain ⟨p1, _, p3⟩ := hp
      rw [hsz'] at p1
      obtain ⟨s, hs⟩ : ∃ s : Nat → Nat, s = fun i => d'[i]! := ⟨_, rfl⟩
      have hds : d'.toList = (List.range n).map s := by
        apply List.ext_getElem (by simp [p1])
        intro i h1 h2
        have hi : i < d'.size := by simpa using h1
        rw [List.getElem_map, List.getElem_range, hs, Array.getElem_toList]
        show d'[i] = d'[i]!
        rw [getElem!_pos d' i hi]
      have hperm : ((List.range n).map s).Perm (List.range n) := by
        rw [← hds]
        have e1 : d'.extract 0 n = d' := by rw [← p1]; simp
        have e2 : (Array.range n).extract 0 n = Array.range n := by
          have : (Array.range n).extract 0 (Array.range n).size = Array.range n := by simp
          rwa [hsz'] at this
        rw [e1, e2] at p3
        simpa using p3
      have hsn : ∀ i, i < n → s i < n := fun i hi => List.mem_range.1 (hperm.mem_iff.1 (List.mem_map.2 ⟨i, List.mem_range.2 hi, rfl⟩))
      refine ⟨rfl, s, hperm, fun i j hij hj => ?_, ?_, hsw m os d'⟩
      · have := hsrt i j (Nat.zero_le _) hij hj
        have g1 : ¬ cmpW (L (N d'[j]!)) (L (N d'[i]!)) < 0 := of_decide_eq_false this
        have e1 : d'[j]! = s j := by rw [hs]
        have e2 : d'[i]! = s i := by rw [hs]
        rw [e1, e2, hNs _ (hsn j hj), hNs _ (hsn i (by omega))] at g1
        have a1 := cmpW_anti (L (s i)) (L (s j))
        omega
      · skip
        have hnew : (row kH 32 base (.slice (some ⟨g, 0, none⟩) n cap) ((List.range n).map (fun i => H (s i)))).at_ (sortWorld enc w g 0 m d' os) := by
          refine Kd.R_of_own (h1 := encH_one) ⟨by simp [encs], .inr ⟨g, cap, Go.Sort.putCells enc 0 d' cur, by rw [List.length_map, List.length_range], hgb, ?_, by simpa using hle, hcap, ?_, ?_⟩⟩ (fun k hk => hk.symm)
          · rw [sw_heap enc w g m d' os cur hc g hglt, if_pos rfl]
          · simpa [Go.Sort.putCells] using hsz
          · have hcs : n ≤ cur.size := by omega
            apply List.ext_getElem?
            intro k
            rw [List.getElem?_take, List.length_map, List.length_range]
            by_cases hk : k < n
            · rw [if_pos (by omega), Array.getElem?_toList, Go.Sort.putCells, Array.getElem?_mapIdx, Array.getElem?_eq_getElem (by omega)]
              have e1 : d'[k]! = s k := by rw [hs]
              simp only [Option.map_some, Nat.zero_le, true_and, Nat.zero_add, Nat.sub_zero, encs, List.getElem?_map, List.getElem?_range hk]
              rw [if_pos (by omega), e1]
              show some (encH (H (N (s k)))) = _
              rw [hNs _ (hsn k hk)]
            · rw [if_neg (by omega), List.getElem?_eq_none]
              simp only [encs, List.length_map, List.length_range]
              omega
        exact h.upd i0 hi0 hnew (fun k hk hlt => by rw [sw_heap enc w g m d' os cur hc k hlt, if_neg (fun e => hk (show some k = some g by rw [e]))]) (fun k hk => ⟨.inl hk, by
          rw [show k = g by injection hk]
          exact Nat.lt_of_lt_of_le hglt (sw_size enc w g m d' os)⟩) hb (sw_size enc w g m d' os)
end Go.Proofs.Ytocejofjmmoeaaa.X
end
