/- Texts of the statement CacheOwn, one behind the other: Go functions as Lean functions, the machine's calls, the plain law. -/
import Derived.Test.YtdijkhamebkfjaaMCacheOwn1
import Derived.Test.YtdijkhamebkfjaaMCacheOwn4
import Derived.Test.YtdijkhamebkfjaaMCacheOwn8
import Derived.Test.YtdijkhamebkfjaaMCacheOwn9
import Derived.Shelf.SlSortCmp.NoneTotal
import Derived.Shelf.SlSortCmp.Whole1
set_option linter.unusedVariables false
set_option linter.unusedSimpArgs false
section
namespace Go.Proofs.Ytdijkhamebkfjaa.X
open Go.RowKit Go.Proofs.YtdijkhamebkfjaaW.PrintWords Go.Proofs.YtdijkhamebkfjaaW.PrintLast Go.Proofs.YtdijkhamebkfjaaW.PrintMore
open Go.Proofs.Ytdijkhamebkfjaa Go.Proofs.Ytdijkhamebkfjaa.Sp
abbrev Hdr := Option Addr × Nat × Nat
def encH (h : Hdr) : Value := .slice h.1 h.2.1 h.2.2
theorem encH_one : ∀ h, (encH h).oneCell' = true := fun _ => rfl
abbrev kH : Kd Hdr := Kd.scalar encH encH_one
/-- A row of words: its heads, then each word's own row. -/
def wds (base : Nat) (v : Value) (n : Nat) (H : Nat → Hdr) (L : Nat → List Int) : List Res := row kH 22 base v ((List.range n).map H) :: (List.range n).map (fun i => ints base (encH (H i)) (L i))
theorem wds_get {base : Nat} {v : Value} {n : Nat} {H : Nat → Hdr} {L : Nat → List Int} {i : Nat} (hi : i < n) : (wds base v n H L)[i + 1]? = some (ints base (encH (H i)) (L i)) := by
  unfold wds
  rw [List.getElem?_cons_succ, List.getElem?_map, List.getElem?_range hi]
  rfl
theorem wds_snoc (base : Nat) (v : Value) (n : Nat) (H : Nat → Hdr) (L : Nat → List Int) (h : Hdr) (l : List Int) : wds base v (n + 1) (upd H n h) (upd L n l) = row kH 22 base v ((List.range n).map H ++ [h]) :: ((List.range n).map (fun i => ints base (encH (H i)) (L i)) ++ [ints base (encH h) l]) := by
  unfold wds
  rw [List.range_succ, List.map_append, List.map_append]
  have e1 : (List.range n).map (upd H n h) = (List.range n).map H := List.map_congr_left (fun i hi => upd_ne _ _ (by have := List.mem_range.1 hi; omega))
  have e2 : (List.range n).map (fun i => ints base (encH (upd H n h i)) (upd L n l i)) = (List.range n).map (fun i => ints base (encH (H i)) (L i)) := List.map_congr_left (fun i hi => by
    have := List.mem_range.1 hi
    rw [upd_ne _ _ (by omega), upd_ne _ _ (by omega)])
  rw [e1, e2]
  simp [upd_at]
theorem cmp_swo {α : Type} (f : α → List Int) : Go.Sort.SWO (ltOf (fun x y => cmpW (f x) (f y))) where
  irrefl := fun x => by
    unfold ltOf
    refine decide_eq_false ?_
    show ¬ cmpW (f x) (f x) < 0
    rw [cmpW_self]
    omega
  trans := fun x y z h1 h2 => by
    unfold ltOf at *
    exact decide_eq_true (cmpW_trans _ _ _ (of_decide_eq_true h1) (of_decide_eq_true h2))
  ntrans := fun x y z h1 h2 => by
    unfold ltOf at *
    have g1 : ¬ cmpW (f x) (f y) < 0 := of_decide_eq_false h1
    have g2 : ¬ cmpW (f y) (f z) < 0 := of_decide_eq_false h2
    refine decide_eq_false fun (g3 : cmpW (f x) (f z) < 0) => ?_
    have a1 := cmpW_anti (f x) (f y)
    have a2 := cmpW_anti (f y) (f z)
    by_cases e1 : cmpW (f y) (f x) = 0
    · rw [cmpW_zero _ _ e1] at g2; exact g2 g3
    · by_cases e2 : cmpW (f z) (f y) = 0
      · rw [cmpW_zero _ _ e2] at g3; exact g1 g3
      · have := cmpW_trans (f z) (f y) (f x) (by omega) (by omega)
        have a3 := cmpW_anti (f x) (f z)
        omega
theorem sw_heap {α : Type} [Inhabited α] (enc : α → Value) (w : World) (g m : Nat) (dk : Array α) (os : Array Obj) (cur : Array Value) (hc : w.heap[g]? = some (.cells cur 22 (0, 0))) (k : Nat) (hk : k < w.heap.size) :
    (sortWorld enc w g 0 m dk os).heap[k]? = if k = g then some (.cells (Go.Sort.putCells enc 0 dk cur) 22 (0, 0)) else w.heap[k]? := by
  have e1 : (sortWorld enc w g 0 m dk os).heap = (w.heap.modify g (Go.Sort.onCells (Go.Sort.putCells enc 0 dk))) ++ os := rfl
  rw [e1, Array.getElem?_append_left (by simpa using hk), Array.getElem?_modify]
  by_cases e : g = k
  · subst e
    rw [if_pos rfl, if_pos rfl, hc]
    rfl
  · rw [if_neg e, if_neg (fun h => e h.symm)]
theorem sw_size {α : Type} [Inhabited α] (enc : α → Value) (w : World) (g m : Nat) (dk : Array α) (os : Array Obj) : w.heap.size ≤ (sortWorld enc w g 0 m dk os).heap.size := by
  show w.heap.size ≤ ((w.heap.modify g _) ++ os).size
  simp
def SortPost (base n : Nat) (v : Value) (H : Nat → Hdr) (L : Nat → List Int) (w : World) : Ending → World → Prop := fun e w' => e = .returned (.tuple #[]) ∧ ∃ s : Nat → Nat, ((List.range n).map s).Perm (List.range n) ∧ (∀ i j, i < j → j < n → cmpW (L (s i)) (L (s j)) ≤ 0) ∧ Sep base (wds base v n (fun i => H (s i)) (fun i => L (s i))) w' ∧ Below base w w'
theorem SortFunc_calls (base n : Nat) (v : Value) (H : Nat → Hdr) (L : Nat → List Int) (w : World) (h : Sep base (wds base v n H L) w) (hb : base ≤ w.heap.size) (hn : n < 4611686018427387904) (hL : ∀ i, i < n → (L i).length < 4611686018427387904) :
    Calls Try.prog 42 #[v, .func (.func 43) #[] #[]] w (SortPost base n v H L w) := by
  by_cases hn0 : n = 0
  · subst hn0
    obtain ⟨A, c, rfl⟩ := Kd.R_slice (h.get 0 rfl)
    have hS := AnyF.slices_SortFunc_none (P := Try.prog) (ρ := Try.sortL_ren) { Try.sortL with } A c (.func (.func 43) #[] #[]) w
    change Calls Try.prog 42 _ _ _ at hS
    refine hS.mono ?_
    rintro e w' ⟨rfl, rfl⟩
    exact ⟨rfl, id, by simp, fun i j hi hj => by omega, h, Below.refl _ _⟩
  · have hrow := h.get 0 rfl
    have hown := Kd.own_of_R hrow
    rw [List.length_map, List.length_range] at hown
    rcases hown.2 with ⟨_, h0⟩ | ⟨g, cap, cur, hv, hgb, hc, hle, hcap, hsz, htk⟩
    · omega
    · subst hv
      have hglt := blk_lt hc
      obtain ⟨N, hN⟩ : ∃ N : Nat → Nat, N = fun i => if i < n then i else 0 := ⟨_, rfl⟩
      have hNlt : ∀ i, N i < n := fun i => by rw [hN]; show (if i < n then i else 0) < n; split <;> omega
      have hNs : ∀ i, i < n → N i = i := fun i hi => by rw [hN]; exact if_pos hi
      have hcell : ∀ i, i < n → cur[i]? = some (encH (H i)) := fun i hi => by
        have := congrArg (fun l => l[i]?) htk
        simp only [List.getElem?_take, encs, List.getElem?_map, List.getElem?_range hi] at this
        rw [if_pos (by omega), Array.getElem?_toList] at this
        exact this
      let enc : Nat → Value := fun i => encH (H (N i))
      have hH : Go.Sort.Holds enc w g 0 (Array.range n) := fun j hj => by
        have hj' : j < n := by simpa using hj
        refine ⟨?_, blk_frozen hc _⟩
        rw [cell_of_row w g _ cur 22 (0, 0) hc, Nat.zero_add, hcell j hj']
        congr 1
        have : (Array.range n)[j]! = j := by simp [hj']
        rw [this]
        show encH (H j) = encH (H (N j))
        rw [hNs j hj']
      have hsz' : (Array.range n).size = n := by simp
      have hne : ∀ i, i < n → some g ≠ (encH (H i)).ownBlock := fun i hi e => by
        exact apart_of h.2 (i := 0) (j := i + 1) (r := row kH 22 base (.slice (some ⟨g, 0, none⟩) n cap) ((List.range n).map H)) (q := ints base (encH (H i)) (L i)) rfl (wds_get hi) (by omega) (k := g) rfl e
      have hcmp : CmpReads Try.prog 43 #[] enc (fun x y => cmpW (L (N x)) (L (N y))) g 0 (Array.range n).size w := fun m os dk hs x y => by
        have rd1 : ∀ i, i < n → ∃ A c, encH (H i) = .slice A (L i).length c ∧ (L i).length ≤ c ∧ Kd.C (Kd.int .i64) (sortWorld enc w g 0 m dk os) A (L i).length (L i) := fun i hi => by
          have h1 := (ints base (encH (H i)) (L i)).step (h.get (i + 1) (wds_get hi)) (w1 := sortWorld enc w g 0 m dk os) (fun k hk hlt => by
            rw [sw_heap enc w g m dk os cur hc k hlt, if_neg]
            intro e
            subst e
            exact hne i hi hk)
          exact Kd.R_reads h1
        obtain ⟨A, c, e1, hc1, hr1⟩ := rd1 (N x) (hNlt x)
        obtain ⟨A2, c2, e2, hc2, hr2⟩ := rd1 (N y) (hNlt y)
        have hw := word_Compare.calls ((L (N x)).length + 1) A c (L (N x)) A2 c2 (L (N y)) (cmpW (L (N x)) (L (N y))) _ hr1 hc1 hr2 hc2 (cmpW_is _ _ _ (Nat.le_refl _) (hL _ (hNlt x)) (hL _ (hNlt y)))
        show Calls Try.prog 43 #[encH (H (N x)), encH (H (N y))] _ _
        rw [e1, e2]
        refine hw.mono ?_
        rintro e w' ⟨rfl, nd, rfl⟩
        exact ⟨rfl, nd, rfl⟩
      have eg : ∀ args w, (callFunc 43 args).run Try.prog w = .ok (.enter 43 args) w := fun args W => enters_ Try.func43 (by kernel_rfl) rfl args W
      have hS := Any.slices_SortFunc Try.sortL enc (fun _ => rfl) (fun x y => cmpW (L (N x)) (L (N y))) (cmp_swo (fun x => L (N x))) 43 #[] g 0 cap (Array.range n) w eg hcmp.lays hH hglt (by rw [hsz']; exact hn)
      rw [hsz'] at hS
      change Calls Try.prog 42 _ _ _ at hS
      refine hS.mono ?_
      rintro e w' ⟨rfl, d', m, os, hp, hsrt, rfl⟩
      obtain ⟨p1, _, p3⟩ := hp
      rw [hsz'] at p1
      obtain ⟨s, hs⟩ : ∃ s : Nat → Nat, s = fun i => d'[i]! := ⟨_, rfl⟩
      have hds : d'.toList = (List.range n).map s := by
        apply List.ext_getElem (by simp [p1])
        intro i h1 h2
        have hi : i < d'.size := by simpa using h1
        rw [List.getElem_map, List.getElem_range, hs, Array.getElem_toList]
        show d'[i] = d'[i]!
        rw [getElem!_pos d' i hi]
      have hperm : ((List.range n).map s).Perm (List.range n) := by
        rw [← hds]
        have e1 : d'.extract 0 n = d' := by rw [← p1]; simp
        have e2 : (Array.range n).extract 0 n = Array.range n := by
          have : (Array.range n).extract 0 (Array.range n).size = Array.range n := by simp
          rwa [hsz'] at this
        rw [e1, e2] at p3
        simpa using p3
      have hsn : ∀ i, i < n → s i < n := fun i hi => List.mem_range.1 (hperm.mem_iff.1 (List.mem_map.2 ⟨i, List.mem_range.2 hi, rfl⟩))
      refine ⟨rfl, s, hperm, fun i j hij hj => ?_, ?_, ?_⟩
      · have := hsrt i j (Nat.zero_le _) hij hj
        have g1 : ¬ cmpW (L (N d'[j]!)) (L (N d'[i]!)) < 0 := of_decide_eq_false this
        have e1 : d'[j]! = s j := by rw [hs]
        have e2 : d'[i]! = s i := by rw [hs]
        rw [e1, e2, hNs _ (hsn j hj), hNs _ (hsn i (by omega))] at g1
        have a1 := cmpW_anti (L (s i)) (L (s j))
        omega
      · have hp2 : (wds base (.slice (some ⟨g, 0, none⟩) n cap) n H L).Perm (row kH 22 base (.slice (some ⟨g, 0, none⟩) n cap) ((List.range n).map H) :: (List.range n).map (fun i => ints base (encH (H (s i))) (L (s i)))) := by
          unfold wds
          refine List.Perm.cons _ ?_
          have e1 : (List.range n).map (fun i => ints base (encH (H (s i))) (L (s i))) = ((List.range n).map s).map (fun i => ints base (encH (H i)) (L i)) := by rw [List.map_map]; rfl
          rw [e1]
          exact (hperm.map _).symm
        have h2 := Sep.perm h hp2
        have hnew : (row kH 22 base (.slice (some ⟨g, 0, none⟩) n cap) ((List.range n).map (fun i => H (s i)))).at_ (sortWorld enc w g 0 m d' os) := by
          refine Kd.R_of_own (h1 := encH_one) ⟨by simp [encs], .inr ⟨g, cap, Go.Sort.putCells enc 0 d' cur, by rw [List.length_map, List.length_range], hgb, ?_, by simpa using hle, hcap, ?_, ?_⟩⟩ (fun k hk => hk.symm)
          · rw [sw_heap enc w g m d' os cur hc g hglt, if_pos rfl]
          · simpa [Go.Sort.putCells] using hsz
          · have hcs : n ≤ cur.size := by omega
            apply List.ext_getElem?
            intro k
            rw [List.getElem?_take, List.length_map, List.length_range]
            by_cases hk : k < n
            · rw [if_pos (by omega), Array.getElem?_toList, Go.Sort.putCells, Array.getElem?_mapIdx, Array.getElem?_eq_getElem (by omega)]
              have e1 : d'[k]! = s k := by rw [hs]
              simp only [Option.map_some, Nat.zero_le, true_and, Nat.zero_add, Nat.sub_zero, encs, List.getElem?_map, List.getElem?_range hk]
              rw [if_pos (by omega), e1]
              show some (encH (H (N (s k)))) = _
              rw [hNs _ (hsn k hk)]
            · rw [if_neg (by omega), List.getElem?_eq_none]
              simp only [encs, List.length_map, List.length_range]
              omega
        have h3 := h2.upd 0 rfl hnew (fun k hk hlt => by rw [sw_heap enc w g m d' os cur hc k hlt, if_neg (fun e => hk (show some k = some g by rw [e]))]) (fun k hk => ⟨.inl hk, by
          rw [show k = g by injection hk]
          exact Nat.lt_of_lt_of_le hglt (sw_size enc w g m d' os)⟩) hb (sw_size enc w g m d' os)
        exact h3
      · refine ⟨rfl, rfl, rfl, sw_size enc w g m d' os, fun k hk => ?_⟩
        rw [sw_heap enc w g m d' os cur hc k (by omega), if_neg (by omega)]
end Go.Proofs.Ytdijkhamebkfjaa.X
end

section
namespace Go.Proofs.Ytdijkhamebkfjaa.X
open Go.RowKit Go.Proofs.YtdijkhamebkfjaaW.PrintWords Go.Proofs.YtdijkhamebkfjaaW.PrintLast Go.Proofs.YtdijkhamebkfjaaW.PrintMore
open Go.Proofs.Ytdijkhamebkfjaa Go.Proofs.Ytdijkhamebkfjaa.Sp
/-- Does no word go on from this one? -/
def leafB (n : Nat) (B : Nat → List Int) (i : Nat) : Bool := (List.range n).all fun j => !(decide (B j ≠ []) && decide ((B j).dropLast = B i))
def keepB (kd : Int) (n : Nat) (B : Nat → List Int) (V : Nat → Int) (i : Nat) : Bool := if kd = 1 then decide (V i ≥ 0) else leafB n B i
theorem leaf_is {n K : Nat} {B : Nat → List Int} {U Y : Nat → Nat} {D : Nat → Nat → Nat} (h : Tri n K B U Y D) {i : Nat} (hi : i < n) : (lst K (D i)).any (fun x => x != 0) = !(leafB n B i) := by
  rw [Bool.eq_iff_iff]
  have e : (!(leafB n B i)) = true ↔ ∃ j, j < n ∧ B j ≠ [] ∧ (B j).dropLast = B i := by
    unfold leafB
    rw [Bool.not_eq_true', List.all_eq_false]
    constructor
    · rintro ⟨j, hj, h2⟩
      simp only [Bool.not_eq_true', Bool.not_eq_true, Bool.not_eq_false', Bool.and_eq_true, decide_eq_true_eq, Bool.not_eq_false] at h2
      exact ⟨j, List.mem_range.1 hj, h2.1, h2.2⟩
    · rintro ⟨j, hj, h2, h3⟩
      exact ⟨j, List.mem_range.2 hj, by simp [h2, h3]⟩
  rw [e, List.any_eq_true]
  constructor
  · rintro ⟨x, hx, hx0⟩
    obtain ⟨y, hy, rfl⟩ := List.getElem_of_mem hx
    have hyK : y < K := by rw [lst_len] at hy; exact hy
    obtain ⟨g1, g2⟩ := h.dn i y hi hyK
    have hd : D i y ≠ 0 := fun e => by
      have h4 := lst_get (D i) hyK
      rw [List.getElem?_eq_getElem hy] at h4
      rw [Option.some.inj h4, e] at hx0
      simp at hx0
    have h3 := g2 hd
    exact ⟨D i y, g1, by rw [h3]; simp, by rw [h3, List.dropLast_concat]⟩
  · rintro ⟨j, hj, h1, h2⟩
    have hj0 : 0 < j := Nat.pos_of_ne_zero fun e => h1 (by rw [e, h.root])
    obtain ⟨g1, g2, g3⟩ := h.up j hj0 hj
    rw [g3, List.dropLast_concat] at h2
    have hu := h.inj (U j) i (by omega) hi h2
    rw [h2] at g3
    have hd := h.all i j (Y j) hi hj g2 g3
    refine ⟨(j : Int), ?_, by simp; omega⟩
    have h4 := lst_get (D i) g2
    rw [hd] at h4
    exact List.mem_of_getElem? h4
theorem Notnil_lst (K : Nat) (f : Nat → Nat) (gd : Nat) (w : World) (hc : w.heap[gd]? = some (.cells (numsA (lst K f)) 3 (0, 0))) (hK : K ≤ 64) :
    Calls Try.prog 39 #[.slice (some ⟨gd, 0, none⟩) K K, .func (.func 40) #[] #[]] w fun e w' => e = .returned (.bool ((lst K f).any (fun x => x != 0))) ∧ Drawn0 w w' := by
  have h := Notnil_calls (some ⟨gd, 0, none⟩) K (lst K f) w (nums_C hc (by rw [lst_len]; omega))
  rw [lst_len] at h
  exact h
/-- What Words tells. -/
def WordsPost (w : World) (n : Nat) (B : Nat → List Int) (p : Nat → Bool) : Ending → World → Prop := fun e w' => ∃ (v : Value) (m : Nat) (H : Nat → Hdr) (L : Nat → List Int), e = .returned v ∧ Sep w.heap.size (wds w.heap.size v m H L) w' ∧ ((List.range m).map L).Perm (((List.range n).filter p).map B) ∧ (∀ i j, i < j → j < m → cmpW (L i) (L j) ≤ 0) ∧ Below w.heap.size w w'
theorem wds_tell {base : Nat} {v : Value} {n : Nat} {H : Nat → Hdr} {L : Nat → List Int} {w : World} (h : Sep base (wds base v n H L) w) : ∃ A c, v = .slice A n c := by
  obtain ⟨A, c, e⟩ := Kd.R_slice (h.get 0 rfl)
  rw [List.length_map, List.length_range] at e
  exact ⟨A, c, e⟩
theorem filt_succ (p : Nat → Bool) (i : Nat) : (List.range (i + 1)).filter p = (List.range i).filter p ++ (if p i then [i] else []) := by
  rw [List.range_succ, List.filter_append]
  congr 1
  by_cases h : p i <;> simp [h]
theorem Tri.len {n K : Nat} {B : Nat → List Int} {U Y : Nat → Nat} {D : Nat → Nat → Nat} (h : Tri n K B U Y D) : ∀ i, i < n → (B i).length ≤ i := fun i => by
  induction i using Nat.strongRecOn with
  | ind i ih =>
    intro hi
    by_cases h0 : i = 0
    · rw [h0, h.root]
      exact Nat.le_refl _
    · obtain ⟨g1, _, g3⟩ := h.up i (by omega) hi
      have := ih _ g1 (by omega)
      rw [g3, List.length_append, List.length_singleton]
      omega
theorem Sep.consRow {base : Nat} {rs : List Res} {W w2 : World} {ok : Nat → Prop} {v : Value} {xs : List Int} (h : Sep base rs W) (hR : Kd.R (Kd.int .i64) 3 w2 W.heap.size ok v xs) (hb : Below W.heap.size W w2) (hbase : base ≤ W.heap.size) : Sep base (ints base v xs :: rs) w2 :=
  h.cons _ (Kd.R_tight rfl (Kd.R_lower hR hbase)) hb (fun k hk => by
    have hk' : some k = v.ownBlock := hk
    have h2 := Kd.R_lt hR k hk'.symm
    rcases Kd.R_base2 hR with h3 | ⟨j, h3, h4⟩
    · rw [h3] at hk'; cases hk'
    · rw [h3] at hk'; injection hk' with h1; omega) hbase
theorem Sep.snoc {base : Nat} {v : Value} {n : Nat} {H : Nat → Hdr} {L : Nat → List Int} {w : World} {h : Hdr} {l : List Int} (hs : Sep base (ints base (encH h) l :: row kH 22 base v ((List.range n).map H ++ [h]) :: (List.range n).map (fun i => ints base (encH (H i)) (L i))) w) : Sep base (wds base v (n + 1) (upd H n h) (upd L n l)) w := by
  rw [wds_snoc]
  refine Sep.perm hs ?_
  refine (List.Perm.swap _ _ _).trans (List.Perm.cons _ ?_)
  exact (List.perm_append_singleton _ _).symm
theorem snoc_map {m i : Nat} {L : Nat → List Int} {B : Nat → List Int} {p : Nat → Bool} (h : (List.range m).map L = ((List.range i).filter p).map B) (hp : p i = true) : (List.range (m + 1)).map (upd L m (B i)) = ((List.range (i + 1)).filter p).map B := by
  rw [filt_succ, if_pos hp, List.map_append, ← h, List.range_succ, List.map_append]
  have e1 : (List.range m).map (upd L m (B i)) = (List.range m).map L := List.map_congr_left (fun j hj => upd_ne _ _ (by have := List.mem_range.1 hj; omega))
  rw [e1]
  simp [upd_at]
theorem skip_map {m i : Nat} {L : Nat → List Int} {B : Nat → List Int} {p : Nat → Bool} (h : (List.range m).map L = ((List.range i).filter p).map B) (hp : p i = false) : (List.range m).map L = ((List.range (i + 1)).filter p).map B := by
  rw [filt_succ, hp, h]
  simp
theorem few_map {m i : Nat} {L : Nat → List Int} {B : Nat → List Int} {p : Nat → Bool} (h : (List.range m).map L = ((List.range i).filter p).map B) : m ≤ i := by
  have h1 := congrArg List.length h
  have h2 := List.length_filter_le p (List.range i)
  rw [List.length_map, List.length_map, List.length_range] at h1
  rw [List.length_range] at h2
  omega
theorem in_map {m i : Nat} {L : Nat → List Int} {B : Nat → List Int} {p : Nat → Bool} (h : (List.range m).map L = ((List.range i).filter p).map B) {j : Nat} (hj : j < m) : ∃ x, x < i ∧ L j = B x := by
  have : L j ∈ (List.range m).map L := List.mem_map.2 ⟨j, List.mem_range.2 hj, rfl⟩
  rw [h] at this
  obtain ⟨x, hx, e⟩ := List.mem_map.1 this
  exact ⟨x, List.mem_range.1 (List.mem_filter.1 hx).1, e.symm⟩
attribute [local go_sem] max2_int min2_int max_two min_two max_three min_three max_four min_four
set_option maxHeartbeats 16000000 in
set_option maxRecDepth 100000 in
theorem Words_1 (base : Nat) (own : Nat → Prop) (g : Nat) (K : Nat) (O : Int) (most n : Nat) (B : Nat → List Int) (V : Nat → Int) (hits misses : Int) (w : World) (h : (trie base own g 1 K O most n B V hits misses).at_ w) (hn : n ≤ 1048576) (hK : K ≤ 64) :
    Calls Try.prog 20 #[.pointer (some ⟨g, 0, none⟩)] w (WordsPost w n B (keepB 1 n B V)) := by
  have HH := Aside0.mk h
  obtain ⟨U, Y, D, gn, cn, gd, htri, hsep, _⟩ := h
  have hu65 := Try.underlying65
  have hu69 := Try.underlying69
  have hu67 := Try.underlying67
  have hu24 := Try.underlying24
  have hu63 := Try.underlying63
  have HTR := Aside0.mk htri
  have HSP := Aside0.mk hsep
  have RD := rd_of hsep
  have hc7 : w.cell? ⟨g, 7, none⟩ = some (.slice (some ⟨gn, 0, none⟩) n cn) := (RD.h 7).trans rfl
  clear htri hsep RD
  have HK := Aside0.mk hK
  have HN := Aside0.mk hn
  go_enter Try.func20, Try.ntmps20
  go_wp2
  go_loopw [14, 3] (fun v14 v3 wr => ∃ (i m : Nat) (H : Nat → Hdr) (L : Nat → List Int) (tv : Value), v14 = .int .i64 (i : Int) ∧ tv = v3 ∧ Aside0 (i ≤ n ∧ (List.range m).map L = ((List.range i).filter (keepB 1 n B V)).map B) ∧ Aside0 (Sep w.heap.size (wds w.heap.size tv m H L) wr) ∧ Aside0 (Below w.heap.size w wr)) (fun v14 _ _ => n - (intOf v14).toNat)
  case atStart => exact ⟨0, 0, fun _ => (none, 0, 0), fun _ => [], _, rfl, rfl, ⟨Nat.zero_le _, rfl⟩, ⟨(Sep.nil _ _).nilRow kH 22⟩, ⟨Below.refl _ _⟩⟩
  case round =>
    obtain ⟨i, m, H, L, tv, rfl, htv, HI, HS, HB⟩ := hrel
    subst htv
    obtain ⟨At, ct, rfl⟩ := wds_tell HS.out
    have hmi := few_map HI.out.2
    by_cases hi : i < n
    · have hi' : (i : Int) < (n : Int) := by omega
      have HIN := Aside0.mk hi
      have RD := Rd.low HSP.out HB.out
      have hc0 : wr.cell? ⟨g, 0, none⟩ = some (.int .i64 1) := (RD.h 0).trans rfl
      obtain ⟨hn0, hn1, hn2, hn3⟩ := RD.u i hi
      have HDN : Aside0 (wr.heap[gd i]? = some (.cells (numsA (lst K (D i))) 3 (0, 0))) := ⟨(HSP.out.low HB.out).get (i + 2) (show (tpc base g 1 K O most n U Y V D gn cn gd hits misses)[i + 2]? = some (blk (gd i) (numsA (lst K (D i))) 3) by
        show (dns n K D gd)[i]? = _
        exact dns_get D gd hi)⟩
      have HLL : Aside0 ((((List.range m).map H).length + 1) * 24 ≤ 140737488355328) := ⟨by rw [List.length_map, List.length_range]; omega⟩
      clear RD hmi
      obtain ⟨bl, hbl⟩ : ∃ bl, (lst K (D i)).any (fun x => x != 0) = bl := ⟨_, rfl⟩
      have HANY := Aside0.mk hbl
      clear hbl hi
      generalize hz : V i = z at hn2
      have hcA : (wr.alloc (.cells #[.int .i64 (U i : Int), .int .i64 (Y i : Int), .int .i64 z, .slice (some ⟨gd i, 0, none⟩) K K] 69)).cell? ⟨g, 0, none⟩ = some (.int .i64 1) := ((Rd.low HSP.out (below_alloc HB.out _)).h 0).trans rfl
      by_cases hz0 : z ≥ 0
      · have HP1 : Aside0 (keepB 1 n B V i = true) := ⟨by unfold keepB; rw [if_pos rfl, hz]; exact decide_eq_true hz0⟩
        clear hz
        go_wp2_with (first
        | ((with_reducible refine gate_builtin (b := .append) (xs := #[.tmp 46, .tmp 50]) rfl ?_)
           at_builtin
           refine Kd.R_append kH (w0 := w) w.heap.size rfl (.tmp 46) (.tmp 50) 25 22 (.slice none 0 0) 24 rfl Try.underlying25 info22 rfl (by decide) (by omega) (.slice At m ct) ((List.range m).map H) (A2, (B i).length, c2) [.slice A2 (B i).length c2] (fun _ => True) (fun _ => False) rfl (by simp [Act.eval]) rfl (fun _ hk => hk.elim) (fun _ _ => trivial) (Kd.R_mono (HS2.out.get 1 rfl) (fun _ _ => trivial)) HB2.out HB2.out.size HLL.out ?_
           intro v8 w9 ho hb hg hat
           have HS9 := Aside0.mk (Sep.snoc (h := (A2, (B i).length, c2)) (HS2.out.app 1 rfl rfl ho hg hat HB2.out.size))
           have HB9 := Aside0.mk hb
           clear ho hb hg hat)
        | 
             go_at_call 41
             refine (Spell_walk base own g 1 K O most n B V hits misses _ (Res.low HH.out (pw_below_drewN (below_alloc HB.out _) _)) HN.out i HIN.out).mono ?_
             rintro e w2 ⟨tv2, rfl, hR, hb⟩
             obtain ⟨A2, c2, rfl⟩ := Kd.R_slice hR
             have HS2 := Aside0.mk (Sep.consRow (HS.out.low (pw_below_drewN (below_alloc (Below.refl _ _) _) _)) hR hb (below_size (pw_below_drewN (below_alloc HB.out _) _)))
             have HB2 := Aside0.mk (below_step (pw_below_drewN (below_alloc HB.out _) _) hb)
             clear hR hb
        | 
             go_at_call 39
             refine (Notnil_lst K (D i) (gd i) _ ((heap_alloc_old wr _ (blk_lt HDN.out)).trans HDN.out) HK.out).mono ?_
             rw [HANY.out]
             rintro e w1 ⟨rfl, nd, rfl⟩)
        go_roundw
        case rel => exact ⟨i + 1, m + 1, _, _, _, by go_num, rfl, ⟨by have := HIN.out; omega, snoc_map HI.out.2 HP1.out⟩, HS9, HB9⟩
        case measure => have := HIN.out; simp [intOf]; omega
      · have HP0 : Aside0 (keepB 1 n B V i = false) := ⟨by unfold keepB; rw [if_pos rfl, hz]; exact decide_eq_false hz0⟩
        clear hz
        go_wp2_with (first
        | 
             go_at_call 39
             refine (Notnil_lst K (D i) (gd i) _ ((heap_alloc_old wr _ (blk_lt HDN.out)).trans HDN.out) HK.out).mono ?_
             rw [HANY.out]
             rintro e w1 ⟨rfl, nd, rfl⟩)
        go_roundw
        case rel => exact ⟨i + 1, m, H, L, _, by go_num, rfl, ⟨by have := HIN.out; omega, skip_map HI.out.2 HP0.out⟩, ⟨HS.out.low (pw_below_drewN (below_alloc (Below.refl _ _) _) _)⟩, ⟨pw_below_drewN (below_alloc HB.out _) _⟩⟩
        case measure => have := HIN.out; simp [intOf]; omega
    · have hi' : ¬ ((i : Int) < (n : Int)) := by omega
      have HIE : Aside0 (i = n) := ⟨by have := HI.out.1; omega⟩
      have HML : Aside0 (m < 4611686018427387904 ∧ ∀ j, j < m → (L j).length < 4611686018427387904) := ⟨by have := HI.out.1; omega, fun j hj => by
        obtain ⟨x, hx, e⟩ := in_map HI.out.2 hj
        have := HTR.out.len x (by have := HI.out.1; omega)
        rw [e]
        have := HI.out.1
        omega⟩
      clear hi hmi
      go_wp2_with (first
      | 
           go_at_call 42
           refine (SortFunc_calls w.heap.size m (.slice At m ct) H L _ HS.out HB.out.size HML.out.1 HML.out.2).mono ?_
           rintro e w1 ⟨rfl, s, hp, hsrt, hsep, hbl⟩
           have HP := Aside0.mk hp
           have HSR := Aside0.mk hsrt
           have HSE := Aside0.mk hsep
           have HBL := Aside0.mk hbl
           clear hp hsrt hsep hbl)
      go_ret
      exact ⟨_, m, _, _, rfl, HSE.out, by
        have h := HI.out.2
        rw [HIE.out] at h
        rw [← h]
        have h2 := HP.out.map L
        rw [List.map_map] at h2
        exact h2, HSR.out, HB.out.trans HBL.out⟩
set_option maxHeartbeats 16000000 in
set_option maxRecDepth 100000 in
theorem Words_2 (base : Nat) (own : Nat → Prop) (g : Nat) (K : Nat) (O : Int) (most n : Nat) (B : Nat → List Int) (V : Nat → Int) (hits misses : Int) (w : World) (h : (trie base own g 2 K O most n B V hits misses).at_ w) (hn : n ≤ 1048576) (hK : K ≤ 64) :
    Calls Try.prog 20 #[.pointer (some ⟨g, 0, none⟩)] w (WordsPost w n B (keepB 2 n B V)) := by
  have HH := Aside0.mk h
  obtain ⟨U, Y, D, gn, cn, gd, htri, hsep, _⟩ := h
  have hu65 := Try.underlying65
  have hu69 := Try.underlying69
  have hu67 := Try.underlying67
  have hu24 := Try.underlying24
  have hu63 := Try.underlying63
  have HTR := Aside0.mk htri
  have HSP := Aside0.mk hsep
  have RD := rd_of hsep
  have hc7 : w.cell? ⟨g, 7, none⟩ = some (.slice (some ⟨gn, 0, none⟩) n cn) := (RD.h 7).trans rfl
  clear htri hsep RD
  have HK := Aside0.mk hK
  have HN := Aside0.mk hn
  go_enter Try.func20, Try.ntmps20
  go_wp2
  go_loopw [14, 3] (fun v14 v3 wr => ∃ (i m : Nat) (H : Nat → Hdr) (L : Nat → List Int) (tv : Value), v14 = .int .i64 (i : Int) ∧ tv = v3 ∧ Aside0 (i ≤ n ∧ (List.range m).map L = ((List.range i).filter (keepB 2 n B V)).map B) ∧ Aside0 (Sep w.heap.size (wds w.heap.size tv m H L) wr) ∧ Aside0 (Below w.heap.size w wr)) (fun v14 _ _ => n - (intOf v14).toNat)
  case atStart => exact ⟨0, 0, fun _ => (none, 0, 0), fun _ => [], _, rfl, rfl, ⟨Nat.zero_le _, rfl⟩, ⟨(Sep.nil _ _).nilRow kH 22⟩, ⟨Below.refl _ _⟩⟩
  case round =>
    obtain ⟨i, m, H, L, tv, rfl, htv, HI, HS, HB⟩ := hrel
    subst htv
    obtain ⟨At, ct, rfl⟩ := wds_tell HS.out
    have hmi := few_map HI.out.2
    by_cases hi : i < n
    · have hi' : (i : Int) < (n : Int) := by omega
      have HIN := Aside0.mk hi
      have RD := Rd.low HSP.out HB.out
      have hc0 : wr.cell? ⟨g, 0, none⟩ = some (.int .i64 2) := (RD.h 0).trans rfl
      obtain ⟨hn0, hn1, hn2, hn3⟩ := RD.u i hi
      have HDN : Aside0 (wr.heap[gd i]? = some (.cells (numsA (lst K (D i))) 3 (0, 0))) := ⟨(HSP.out.low HB.out).get (i + 2) (show (tpc base g 2 K O most n U Y V D gn cn gd hits misses)[i + 2]? = some (blk (gd i) (numsA (lst K (D i))) 3) by
        show (dns n K D gd)[i]? = _
        exact dns_get D gd hi)⟩
      have HLL : Aside0 ((((List.range m).map H).length + 1) * 24 ≤ 140737488355328) := ⟨by rw [List.length_map, List.length_range]; omega⟩
      clear RD hmi
      have hlf := leaf_is HTR.out hi
      have HKP : Aside0 (keepB 2 n B V i = leafB n B i) := ⟨if_neg (by decide)⟩
      clear hi
      generalize hz : V i = z at hn2
      have hcA : (wr.alloc (.cells #[.int .i64 (U i : Int), .int .i64 (Y i : Int), .int .i64 z, .slice (some ⟨gd i, 0, none⟩) K K] 69)).cell? ⟨g, 0, none⟩ = some (.int .i64 2) := ((Rd.low HSP.out (below_alloc HB.out _)).h 0).trans rfl
      cases hb : leafB n B i with
      | true =>
        have HP1 : Aside0 (keepB 2 n B V i = true) := ⟨HKP.out.trans hb⟩
        have HANY : Aside0 ((lst K (D i)).any (fun x => x != 0) = false) := ⟨by rw [hlf, hb]; rfl⟩
        clear hlf hb hz
        go_wp2_with (first
        | ((with_reducible refine gate_builtin (b := .append) (xs := #[.tmp 46, .tmp 50]) rfl ?_)
           at_builtin
           refine Kd.R_append kH (w0 := w) w.heap.size rfl (.tmp 46) (.tmp 50) 25 22 (.slice none 0 0) 24 rfl Try.underlying25 info22 rfl (by decide) (by omega) (.slice At m ct) ((List.range m).map H) (A2, (B i).length, c2) [.slice A2 (B i).length c2] (fun _ => True) (fun _ => False) rfl (by simp [Act.eval]) rfl (fun _ hk => hk.elim) (fun _ _ => trivial) (Kd.R_mono (HS2.out.get 1 rfl) (fun _ _ => trivial)) HB2.out HB2.out.size HLL.out ?_
           intro v8 w9 ho hb hg hat
           have HS9 := Aside0.mk (Sep.snoc (h := (A2, (B i).length, c2)) (HS2.out.app 1 rfl rfl ho hg hat HB2.out.size))
           have HB9 := Aside0.mk hb
           clear ho hb hg hat)
        | 
             go_at_call 41
             refine (Spell_walk base own g 2 K O most n B V hits misses _ (Res.low HH.out (pw_below_drewN (below_alloc HB.out _) _)) HN.out i HIN.out).mono ?_
             rintro e w2 ⟨tv2, rfl, hR, hb⟩
             obtain ⟨A2, c2, rfl⟩ := Kd.R_slice hR
             have HS2 := Aside0.mk (Sep.consRow (HS.out.low (pw_below_drewN (below_alloc (Below.refl _ _) _) _)) hR hb (below_size (pw_below_drewN (below_alloc HB.out _) _)))
             have HB2 := Aside0.mk (below_step (pw_below_drewN (below_alloc HB.out _) _) hb)
             clear hR hb
        | 
             go_at_call 39
             refine (Notnil_lst K (D i) (gd i) _ ((heap_alloc_old wr _ (blk_lt HDN.out)).trans HDN.out) HK.out).mono ?_
             rw [HANY.out]
             rintro e w1 ⟨rfl, nd, rfl⟩)
        go_roundw
        case rel => exact ⟨i + 1, m + 1, _, _, _, by go_num, rfl, ⟨by have := HIN.out; omega, snoc_map HI.out.2 HP1.out⟩, HS9, HB9⟩
        case measure => have := HIN.out; simp [intOf]; omega
      | false =>
        have HP0 : Aside0 (keepB 2 n B V i = false) := ⟨HKP.out.trans hb⟩
        have HANY : Aside0 ((lst K (D i)).any (fun x => x != 0) = true) := ⟨by rw [hlf, hb]; rfl⟩
        clear hlf hb hz
        go_wp2_with (first
        | 
             go_at_call 39
             refine (Notnil_lst K (D i) (gd i) _ ((heap_alloc_old wr _ (blk_lt HDN.out)).trans HDN.out) HK.out).mono ?_
             rw [HANY.out]
             rintro e w1 ⟨rfl, nd, rfl⟩)
        go_roundw
        case rel => exact ⟨i + 1, m, H, L, _, by go_num, rfl, ⟨by have := HIN.out; omega, skip_map HI.out.2 HP0.out⟩, ⟨HS.out.low (pw_below_drewN (below_alloc (Below.refl _ _) _) _)⟩, ⟨pw_below_drewN (below_alloc HB.out _) _⟩⟩
        case measure => have := HIN.out; simp [intOf]; omega
    · have hi' : ¬ ((i : Int) < (n : Int)) := by omega
      have HIE : Aside0 (i = n) := ⟨by have := HI.out.1; omega⟩
      have HML : Aside0 (m < 4611686018427387904 ∧ ∀ j, j < m → (L j).length < 4611686018427387904) := ⟨by have := HI.out.1; omega, fun j hj => by
        obtain ⟨x, hx, e⟩ := in_map HI.out.2 hj
        have := HTR.out.len x (by have := HI.out.1; omega)
        rw [e]
        have := HI.out.1
        omega⟩
      clear hi hmi
      go_wp2_with (first
      | 
           go_at_call 42
           refine (SortFunc_calls w.heap.size m (.slice At m ct) H L _ HS.out HB.out.size HML.out.1 HML.out.2).mono ?_
           rintro e w1 ⟨rfl, s, hp, hsrt, hsep, hbl⟩
           have HP := Aside0.mk hp
           have HSR := Aside0.mk hsrt
           have HSE := Aside0.mk hsep
           have HBL := Aside0.mk hbl
           clear hp hsrt hsep hbl)
      go_ret
      exact ⟨_, m, _, _, rfl, HSE.out, by
        have h := HI.out.2
        rw [HIE.out] at h
        rw [← h]
        have h2 := HP.out.map L
        rw [List.map_map] at h2
        exact h2, HSR.out, HB.out.trans HBL.out⟩
end Go.Proofs.Ytdijkhamebkfjaa.X
end

section
namespace Go.Proofs.Ytdijkhamebkfjaa.X
open Go.RowKit Go.Proofs.YtdijkhamebkfjaaW.PrintWords Go.Proofs.YtdijkhamebkfjaaW.PrintLast Go.Proofs.YtdijkhamebkfjaaW.PrintMore
open Go.Proofs.Ytdijkhamebkfjaa Go.Proofs.Ytdijkhamebkfjaa.Sp
theorem own_at (l : List Int) : At 1 (fun _ => []) l [0] ∧ Stop 1 (fun _ => []) l [0] := by
  by_cases h : 0 < l.length
  · exact ⟨(first_at (fun _ => []) rfl h).1, (first_at (fun _ => []) rfl h).2 h⟩
  · have h0 : l = [] := List.eq_nil_of_length_eq_zero (by omega)
    subst h0
    refine ⟨⟨Nat.one_pos, fun j a hj => ?_, Nat.le_refl _⟩, At.all_stop (by decide)⟩
    cases j with
    | zero =>
      simp only [List.getElem?_cons_zero, Option.some.injEq] at hj
      subst hj
      exact ⟨Nat.one_pos, rfl⟩
    | succ j => simp at hj
theorem own_V1 (l out : List Int) {c : Nat} (hc : c ≤ l.length) : putV 1 1 (fun _ => -1) l out [0] c = if c = l.length then rd out 0 else -1 := by
  have hlast : lastN 1 l [0] = l.length := by
    unfold lastN
    by_cases h0 : l.length = 0
    · rw [if_pos (by show 1 = l.length + 1; omega), h0]
      rfl
    · rw [if_neg (by show ¬ (1 = l.length + 1); omega), one_N]
      omega
  unfold putV
  rw [if_pos rfl, hlast]
  by_cases h : c = l.length
  · rw [if_pos h, h, upd_at]
  · rw [if_neg h, upd_ne _ _ h]
    unfold putV0
    by_cases h2 : c < 1
    · rw [if_pos h2]
    · rw [if_neg h2, if_neg (by decide)]
theorem own_way (l : List Int) : At (putN 1 l [0]) (putB 1 (fun _ => []) l [0]) l (List.range (l.length + 1)) ∧ Stop (putN 1 l [0]) (putB 1 (fun _ => []) l [0]) l (List.range (l.length + 1)) := by
  have h := range_at l (Nat.le_refl l.length)
  rw [List.take_length] at h
  exact h
theorem own_tell1 {l out : List Int} (ho : out.length = 1) (h0 : 0 ≤ rd out 0) : tellF 1 (putV 1 1 (fun _ => -1) l out [0]) l (List.range (l.length + 1)) = (out, true) := by
  rw [tell_1 (a := l.length) (by rw [List.length_range]) (List.getElem?_range (by omega)), own_V1 l out (Nat.le_refl _), if_pos rfl, if_neg (by omega)]
  congr 1
  apply List.ext_getElem (by rw [ho]; rfl)
  intro j h1 h2
  have hj : j = 0 := by have h1' : j < 1 := h1; omega
  subst hj
  show rd out 0 = out[0]
  exact rd_nat (xs := out) (i := 0) h2
theorem own_tell2 {l out : List Int} (ho : out.length = l.length) : tellF 2 (putV 2 1 (fun _ => -1) l out [0]) l (List.range (l.length + 1)) = (out, true) := by
  have h := one_tell2 ho (Nat.le_refl l.length)
  rw [List.take_length] at h
  rw [h, ← ho, List.take_length]
theorem filt_last (p : Nat → Bool) (n : Nat) (h1 : p n = true) (h2 : ∀ i, i < n → p i = false) : (List.range (n + 1)).filter p = [n] := by
  rw [filt_succ, if_pos h1]
  have : (List.range n).filter p = [] := by
    rw [List.filter_eq_nil_iff]
    intro i hi
    rw [h2 i (List.mem_range.1 hi)]
    decide
  rw [this]
  rfl
theorem own_keep (kd : Int) (l out : List Int) (hkd : kd = 2 ∨ (kd = 1 ∧ 0 ≤ rd out 0)) : ((List.range (putN 1 l [0])).filter (keepB kd (putN 1 l [0]) (putB 1 (fun _ => []) l [0]) (putV kd 1 (fun _ => -1) l out [0]))).map (putB 1 (fun _ => []) l [0]) = [l] := by
  have e : (List.range (putN 1 l [0])).filter (keepB kd (putN 1 l [0]) (putB 1 (fun _ => []) l [0]) (putV kd 1 (fun _ => -1) l out [0])) = [l.length] := by
    rw [one_N]
    rcases hkd with rfl | ⟨rfl, h0⟩
    · refine filt_last _ _ ?_ (fun i hi => ?_)
      · unfold keepB leafB
        rw [if_neg (by decide), List.all_eq_true]
        intro j hj
        have hjl := List.mem_range.1 hj
        rw [one_B, one_B, List.take_length]
        by_cases hj0 : l.take j = []
        · simp [hj0]
        · have : (l.take j).dropLast ≠ l := fun e => by
            have h1 := congrArg List.length e
            rw [List.length_dropLast, List.length_take] at h1
            have h2 : 0 < (l.take j).length := List.length_pos_iff.2 hj0
            rw [List.length_take] at h2
            omega
          simp [this]
      · unfold keepB leafB
        rw [if_neg (by decide), List.all_eq_false]
        refine ⟨i + 1, List.mem_range.2 (by omega), ?_⟩
        rw [one_B, one_B]
        have h1 : l.take (i + 1) = l.take i ++ [l[i]] := List.take_succ_eq_append_getElem hi
        have h2 : l.take (i + 1) ≠ [] := by rw [h1]; exact List.append_ne_nil_of_right_ne_nil _ (List.cons_ne_nil _ _)
        have h3 : (l.take (i + 1)).dropLast = l.take i := by rw [h1, List.dropLast_concat]
        rw [decide_eq_true h2, decide_eq_true h3]
        decide
    · refine filt_last _ _ ?_ (fun i hi => ?_)
      · unfold keepB
        rw [if_pos rfl, own_V1 l out (Nat.le_refl _), if_pos rfl]
        exact decide_eq_true h0
      · unfold keepB
        rw [if_pos rfl, own_V1 l out (by omega), if_neg (by omega)]
        decide
  rw [e]
  show [putB 1 (fun _ => []) l [0] l.length] = [l]
  rw [one_B, List.take_length]
/-- Words of a cache that holds one word. -/
def OneWords (w : World) (l : List Int) : Ending → World → Prop := fun e w' => ∃ (v : Value) (h : Hdr), e = .returned v ∧ Sep w.heap.size [row kH 22 w.heap.size v [h], ints w.heap.size (encH h) l] w' ∧ Below w.heap.size w w'
theorem one_words {w : World} {n : Nat} {B : Nat → List Int} {p : Nat → Bool} {l : List Int} (hk : ((List.range n).filter p).map B = [l]) : ∀ e w', WordsPost w n B p e w' → OneWords w l e w' := by
  rintro e w' ⟨v, m, H, L, rfl, hS, hp, _, hb⟩
  rw [hk] at hp
  have h1 := List.perm_singleton.1 hp
  have hm : m = 1 := by have := congrArg List.length h1; simpa using this
  subst hm
  have hL : L 0 = l := by simpa using h1
  refine ⟨v, H 0, rfl, ?_, hb⟩
  rw [← hL]
  exact hS
/-- Pieces of a call's own, beside those that were there. -/
theorem Sep.join {base : Nat} {rs qs : List Res} {w w1 : World} (h : Sep base rs w) (hq : Sep w.heap.size qs w1) (hb : Below w.heap.size w w1) (hbase : base ≤ w.heap.size) : Sep base (qs ++ rs) w1 := by
  have h1 := h.low hb
  refine ⟨fun r hr => ?_, ?_⟩
  · rcases List.mem_append.1 hr with hr | hr
    · exact ⟨(hq.1 r hr).1, fun k hk => ⟨Nat.le_trans hbase ((hq.1 r hr).2 k hk).1, ((hq.1 r hr).2 k hk).2⟩⟩
    · exact h1.1 r hr
  · rw [List.pairwise_append]
    refine ⟨hq.2, h1.2, fun a ha b hb' k hka hkb => ?_⟩
    have g1 := ((hq.1 a ha).2 k hka).1
    have g2 := ((h.1 b hb').2 k hkb).2
    omega
theorem OneWords.join {base : Nat} {rs : List Res} {w w1 : World} {l : List Int} {e : Ending} (h : Sep base rs w) (ho : OneWords w l e w1) (hbase : base ≤ w.heap.size) : ∃ (A : Option Addr) (c : Nat) (hd : Hdr), e = .returned (.slice A 1 c) ∧ Sep base (row kH 22 base (.slice A 1 c) [hd] :: ints base (encH hd) l :: rs) w1 ∧ Below base w w1 := by
  obtain ⟨v, hd, rfl, hS, hb⟩ := ho
  obtain ⟨A, c, rfl⟩ := Kd.R_slice (hS.get 0 rfl)
  have hj := Sep.join h hS hb hbase
  refine ⟨A, c, hd, rfl, ⟨fun r hr => ?_, ?_⟩, hb.mono hbase⟩
  · rcases List.mem_cons.1 hr with rfl | hr
    · have := hj.1 _ (List.mem_cons_self ..)
      exact ⟨Kd.R_lower this.1 hbase, this.2⟩
    · rcases List.mem_cons.1 hr with rfl | hr
      · have := hj.1 _ (List.mem_cons_of_mem _ (List.mem_cons_self ..))
        exact ⟨Kd.R_lower this.1 hbase, this.2⟩
      · exact hj.1 r (List.mem_cons_of_mem _ (List.mem_cons_of_mem _ hr))
  · obtain ⟨p1, p2⟩ := List.pairwise_cons.1 hj.2
    obtain ⟨p3, p4⟩ := List.pairwise_cons.1 p2
    refine List.pairwise_cons.2 ⟨fun q hq k hk hk' => ?_, List.pairwise_cons.2 ⟨fun q hq k hk hk' => p3 q hq k hk hk', p4⟩⟩
    rcases List.mem_cons.1 hq with rfl | hq
    · exact p1 _ (List.mem_cons_self ..) k hk hk'
    · exact p1 q (List.mem_cons_of_mem _ hq) k hk hk'
theorem two_lists {base g : Nat} {rs : List Res} {v1 v2 : Value} {l1 l2 : List Int} {W : World} (h : Sep base (ints base v1 l1 :: ints base v2 l2 :: rs) W) (hg : Heads W g [v1, v2]) (hlow : base ≤ g) : Lists W base g [v1, v2] [l1, l2] := by
  have o1 := OR_of_R (h.get 0 rfl)
  have o2 := OR_of_R (h.get 1 rfl)
  have a1 : ∀ k, v1.ownBlock = some k → v2.ownBlock ≠ some k := fun k h1 h2 => h.apart (i := 0) (j := 1) rfl rfl (by decide) (k := k) h1.symm h2.symm
  refine ⟨hg, hlow, rfl, fun j v l hv hl => ?_, fun i j v v' hij hv hv' => ?_⟩
  · match j, hv, hl with
    | 0, hv, hl => obtain rfl := Option.some.inj hv; obtain rfl := Option.some.inj hl; exact o1
    | 1, hv, hl => obtain rfl := Option.some.inj hv; obtain rfl := Option.some.inj hl; exact o2
    | j + 2, hv, hl => cases hv
  · have key : ∀ a b : Value, (∀ k, a.ownBlock = some k → b.ownBlock ≠ some k) → a.ownBlock = none ∨ a.ownBlock ≠ b.ownBlock := fun a b hab => by
      cases e : a.ownBlock with
      | none => exact .inl rfl
      | some k => exact .inr (fun e2 => hab k e e2.symm)
    match i, j, hv, hv' with
    | 0, 0, _, _ => exact absurd rfl hij
    | 1, 1, _, _ => exact absurd rfl hij
    | 0, 1, hv, hv' => obtain rfl := Option.some.inj hv; obtain rfl := Option.some.inj hv'; exact key _ _ a1
    | 1, 0, hv, hv' => obtain rfl := Option.some.inj hv; obtain rfl := Option.some.inj hv'; exact key _ _ (fun k h1 h2 => a1 k h2 h1)
    | 0, j + 2, _, hv' => cases hv'
    | 1, j + 2, _, hv' => cases hv'
    | i + 2, _, hv, _ => cases hv
theorem Apart_two {base g c : Nat} {rs : List Res} {v1 v2 : Value} {l1 l2 : List Int} {W : World} (h : Sep base (ints base v1 l1 :: ints base v2 l2 :: rs) W) (hg : Heads W g [v1, v2]) (hlow : base ≤ g) (hl1 : l1.length ≤ 1000000) (hl2 : l2.length ≤ 1000000) (hb : base ≤ W.heap.size) :
    Calls Try.prog 19 #[.slice (some ⟨g, 0, none⟩) 2 c] W fun e w' => e = .returned (.bool true) ∧ Sep base rs w' ∧ Below base W w' := by
  refine (Apart_walk base g 2 c [v1, v2] [l1, l2] W (two_lists h hg hlow) rfl (by decide) (fun l hl => ?_) hb).mono ?_
  · simp only [List.mem_cons, List.not_mem_nil, or_false] at hl
    rcases hl with rfl | rfl
    · exact hl1
    · exact hl2
  · rintro e w' ⟨rfl, hbel⟩
    refine ⟨rfl, Sep.step h.tail.tail (fun r hr k hk hlt => hbel.kept k hlt (fun v hv he => ?_)), hbel.below⟩
    obtain ⟨j, hj⟩ := List.getElem?_of_mem hr
    simp only [List.mem_cons, List.not_mem_nil, or_false] at hv
    rcases hv with rfl | rfl
    · exact h.apart (i := 0) (j := j + 2) rfl hj (by omega) (k := k) he.symm hk
    · exact h.apart (i := 1) (j := j + 2) rfl hj (by omega) (k := k) he.symm hk
theorem heads_row {base g c : Nat} {ok : Nat → Prop} {h1 h2 : Hdr} {W : World} (h : Kd.R kH 22 W base ok (.slice (some ⟨g, 0, none⟩) 2 c) [h1, h2]) : Heads W g [encH h1, encH h2] ∧ base ≤ g := by
  have ho := Kd.own_of_R h
  rcases ho.2 with ⟨e, _⟩ | ⟨g', cap, cur, e, hb, hc, hle, hcap, hsz, htk⟩
  · cases e
  · injection e with e1 e2 e3
    injection e1 with e1
    injection e1 with e1 _ _
    subst e1
    refine ⟨⟨cur, hc, fun j v hj => ?_⟩, hb⟩
    have h3 := congrArg (fun l => l[j]?) htk
    simp only [List.getElem?_take] at h3
    have hj2 : j < 2 := (List.getElem?_eq_some_iff.1 hj).1
    rw [if_pos (by show j < 2 * 1; omega), Array.getElem?_toList] at h3
    rw [h3]
    exact hj
end Go.Proofs.Ytdijkhamebkfjaa.X
end

section
namespace Go.Proofs.Ytdijkhamebkfjaa.X
open Go.RowKit Go.Proofs.YtdijkhamebkfjaaW.PrintWords Go.Proofs.YtdijkhamebkfjaaW.PrintLast Go.Proofs.YtdijkhamebkfjaaW.PrintMore
open Go.Proofs.Ytdijkhamebkfjaa Go.Proofs.Ytdijkhamebkfjaa.Sp
theorem row_frozen {w : World} {base g n c : Nat} {ok : Nat → Prop} {xs : List Int} (h : Kd.R (Kd.int .i64) 3 w base ok (.slice (some ⟨g, 0, none⟩) n c) xs) (j : Nat) : w.frozen? ⟨g, j, none⟩ = false := by
  rcases (Kd.own_of_R h).2 with ⟨h1, _⟩ | ⟨g', cap', cur, h1, hb, hc, _⟩
  · cases h1
  · injection h1 with h2 h3 h4
    injection h2 with h2
    injection h2 with h2 _ _
    subst h2
    exact blk_frozen hc j
theorem one_C {W : World} {g : Nat} {A : Option Addr} {c : Nat} {l : List Int} (hg : W.heap[g]? = some (.cells #[.slice A l.length c] 22 (0, 0))) (hl : l.length ≤ c) (hc : Kd.C (Kd.int .i64) W A l.length l) : Kd.C (Kd.slice 3 (Kd.int .i64)) W (some ⟨g, 0, none⟩) 1 [l] := by
  refine ⟨rfl, by decide, fun _ => ⟨⟨g, 0, none⟩, rfl, fun j p hj => ?_⟩⟩
  cases j with
  | zero =>
    simp only [List.getElem?_cons_zero, Option.some.injEq] at hj
    subst hj
    refine ⟨[.slice A l.length c], rfl, ⟨A, c, rfl, hl, hc⟩, fun i u hu => ?_⟩
    cases i with
    | zero =>
      simp only [List.getElem?_cons_zero, Option.some.injEq] at hu
      subst hu
      exact (blk_cell hg 0).trans rfl
    | succ i => simp at hu
  | succ j => simp at hj
/-- A store into a row of numbers among the pieces. -/
theorem Sep.putInt {base : Nat} {rs : List Res} {w : World} {g n cap : Nat} {xs : List Int} (h : Sep base rs w) (i : Nat) (hi : rs[i]? = some (ints base (.slice (some ⟨g, 0, none⟩) n cap) xs)) (j : Nat) (x : Int) (hbase : base ≤ w.heap.size) : Sep base (rs.set i (ints base (.slice (some ⟨g, 0, none⟩) n cap) (xs.set j x))) (w.setCell ⟨g, j, none⟩ (.int .i64 x)) := by
  obtain ⟨h2, h3⟩ := Kd.R_putg (h.get i hi) (j : Int) x
  rw [Int.toNat_natCast] at h2 h3
  exact h.upd i hi h2 (fun k hk hlt => h3.block k hlt (fun e => hk (show some k = some g from e))) (fun k hk => ⟨.inl hk, Kd.R_lt h2 k (show _ = some k from hk.symm)⟩) hbase h3.size
theorem wpList_step {P : Program} {ops : Array Oper} {Q : Exit → Act → World → Prop} {a : Act} {w : World} {rest : List Oper} {o : Oper} (hw : Region.wanted o (yielded ops a.tmps) = true) (h : if Region.wanted o (yielded ops a.tmps) = true then Oper.wp P o a w (wpList P ops Q rest) Q else wpList P ops Q rest (a.put o.dst undef) w) : wpList P ops Q (o :: rest) a w := by
  unfold wpList
  rw [if_pos hw] at h ⊢
  exact .inl h
theorem heads_lit (w : World) (v1 v2 : Value) : Heads (w.alloc (.cells #[v1, v2] 22)) w.heap.size [v1, v2] := ⟨#[v1, v2], blk_new w _, fun j v hj => by simpa using hj⟩
theorem kh_some {w : World} {base : Nat} {ok : Nat → Prop} {v : Value} {h1 h2 : Hdr} (h : Kd.R kH 22 w base ok v [h1, h2]) : ∃ g c, v = .slice (some ⟨g, 0, none⟩) 2 c := by
  rcases (Kd.own_of_R h).2 with ⟨_, h0⟩ | ⟨g, cap, cur, rfl, _⟩
  · cases h0
  · exact ⟨g, cap, rfl⟩
theorem Sep.turn4 {base : Nat} {w : World} {a b c d : Res} {r : List Res} (h : Sep base (a :: b :: c :: d :: r) w) : Sep base (d :: b :: c :: a :: r) w :=
  Sep.perm h ((List.perm_middle (l₁ := [a, b, c]) (a := d) (l₂ := r)).trans (List.Perm.cons d (List.perm_middle (l₁ := [b, c]) (a := a) (l₂ := r)).symm))
/-- A row of one word, read. -/
theorem row1_C {base : Nat} {rs : List Res} {A : Option Addr} {c : Nat} {h : Hdr} {l : List Int} {W : World} (hs : Sep base (row kH 22 base (.slice A 1 c) [h] :: ints base (encH h) l :: rs) W) : Kd.C (Kd.slice 3 (Kd.int .i64)) W A 1 [l] ∧ 1 ≤ c := by
  have hrow := hs.get 0 rfl
  obtain ⟨Ai, ci, e, hlc, hC⟩ := Kd.R_reads (hs.get 1 rfl)
  have ho := Kd.own_of_R hrow
  rcases ho.2 with ⟨e0, h0⟩ | ⟨g, cap, cur, e0, hb, hc, hle, hcap, hsz, htk⟩
  · cases h0
  · injection e0 with e1 e2 e3
    subst e1
    refine ⟨⟨rfl, by decide, fun _ => ⟨⟨g, 0, none⟩, rfl, fun j p hj => ?_⟩⟩, by omega⟩
    cases j with
    | zero =>
      simp only [List.getElem?_cons_zero, Option.some.injEq] at hj
      subst hj
      refine ⟨[.slice Ai l.length ci], rfl, ⟨Ai, ci, rfl, hlc, hC⟩, fun i u hu => ?_⟩
      cases i with
      | zero =>
        simp only [List.getElem?_cons_zero, Option.some.injEq] at hu
        subst hu
        have h3 := congrArg (fun l => l[0]?) htk
        simp only [List.getElem?_take] at h3
        rw [if_pos (by show 0 < 1 * 1; omega), Array.getElem?_toList] at h3
        refine (blk_cell hc 0).trans (h3.trans ?_)
        show some (encH h) = _
        rw [e]
      | succ i => simp at hu
    | succ j => simp at hj
theorem lists_one (l : List Int) (hl : l.length ≤ 1000000000) : tutorref01_Lists.f (l.length + 2) [l] [l] = some true := by
  have h1 : rd_L2 [l] 0 = l := rfl
  have h2 : wrap64 ((0 : Int) + 1) = 1 := by unfold wrap64; omega
  unfold tutorref01_Lists.f
  simp only [tutorref01_Lists.l0, List.length_singleton, h1, h2, same_f hl (Nat.lt_succ_self _)]
  simp
attribute [local go_sem] max2_int min2_int max_two min_two max_three min_three max_four min_four
set_option maxHeartbeats 16000000 in
set_option maxRecDepth 100000 in
theorem Own_a (a0 : Bool) (A1 : Option Addr) (c1 : Nat) (l1 : List Int) (A2 : Option Addr) (c2 : Nat) (l2 : List Int) (w : World) (h1 : (l1.length : Int) > 200) : Calls Try.prog 5 #[.bool a0, .slice A1 l1.length c1, .slice A2 l2.length c2] w fun e w' => e = .returned (.bool true) ∧ Below w.heap.size w w' := by
  go_enter Try.func5, Try.ntmps5
  go_wp2_with (first
  | (go_at_call 11; refine (live_walk w).mono ?_
     rintro e w1 ⟨rfl, hb⟩
     have HB1 := Aside0.mk hb
     clear hb))
  go_ret
  exact ⟨rfl, HB1.out⟩
set_option maxHeartbeats 16000000 in
set_option maxRecDepth 100000 in
theorem Own_b (a0 : Bool) (A1 : Option Addr) (c1 : Nat) (l1 : List Int) (A2 : Option Addr) (c2 : Nat) (l2 : List Int) (w : World) (h1 : ¬ (l1.length : Int) > 200) (h3 : (l2.length : Int) > 300) : Calls Try.prog 5 #[.bool a0, .slice A1 l1.length c1, .slice A2 l2.length c2] w fun e w' => e = .returned (.bool true) ∧ Below w.heap.size w w' := by
  go_enter Try.func5, Try.ntmps5
  go_wp2_with (first
  | (go_at_call 11; refine (live_walk w).mono ?_
     rintro e w1 ⟨rfl, hb⟩
     have HB1 := Aside0.mk hb
     clear hb))
  go_ret
  exact ⟨rfl, HB1.out⟩
set_option maxHeartbeats 16000000 in
set_option maxRecDepth 100000 in
theorem Own_2ok (A1 : Option Addr) (c1 : Nat) (l1 : List Int) (A2 : Option Addr) (c2 : Nat) (l2 : List Int) (w : World) (hr1 : Kd.C (Kd.int .i64) w A1 l1.length l1) (hc1 : l1.length ≤ c1) (hr2 : Kd.C (Kd.int .i64) w A2 l2.length l2) (hc2 : l2.length ≤ c2) (hlb : l1.length ≤ 200) (hlo : l2.length ≤ 300) (he : putErr 2 3 2 500 1 (fun _ => -1) l1 l2 [0] = 0) : Calls Try.prog 5 #[.bool true, .slice A1 l1.length c1, .slice A2 l2.length c2] w fun e w' => e = .returned (.bool true) ∧ Below w.heap.size w w' := by
  have h1 : ¬ (l1.length : Int) > 200 := by omega
  have h3 : ¬ (l2.length : Int) > 300 := by omega
  have hu22 := Try.underlying22
  have hu25 := Try.underlying25
  have hnw : ∀ W : World, Calls Try.prog 12 #[.int .i64 2, .int .i64 3, .int .i64 2, .int .i64 500] W (NewPost W 2 3 2 500) := fun W => New_mealy 3 500 2 W (by decide) (by decide) (by decide) (by decide) (by decide) (by decide)
  have HF := Aside0.mk (own_at l1)
  have HR1 := Aside0.mk hr1
  have HR2 := Aside0.mk hr2
  clear hr1 hr2
  have HX := Aside0.mk he
  have HT : Aside0 (tellF 2 (putV 2 1 (fun _ => -1) l1 l2 [0]) l1 (List.range (l1.length + 1)) = (l2, true)) := ⟨own_tell2 (by have := mem_len (putErr_zero he).2.1; rwa [if_neg (by decide)] at this)⟩
  have HKP := Aside0.mk (own_keep 2 l1 l2 (.inl rfl))
  clear he
  go_enter Try.func5, Try.ntmps5
  go_wp2_with (first
  | (go_at_call 13; with_reducible refine (tutorlaw11_num.calls 0 0 w9 rfl).mono ?_
     rintro e w10 ⟨rfl, hd⟩
     have HS10 := Aside0.mk (HS9.out.low hd.below)
     have HB10 := Aside0.mk (below_step HB9.out hd.below)
     clear hd)
  | (go_at_call 15; refine (Put_ok HS8.out 5 rfl HB8.out.size (.inr rfl) (by decide) (by decide) (by decide) (by decide) l1 (by omega) Av l1.length cv rfl (row_C (HS8.out.get 2 rfl)).2 l2 Ao l2.length co rfl (row_rd HS8.out 5 2 rfl (fun _ hk => hk) rfl (by decide)) (row_rd HS8.out 5 3 rfl (fun _ hk => hk) rfl (by decide)) [0] HF.out.1 HF.out.2 HX.out).mono ?_
     rintro e w9 ⟨own3, rfl, hS, hb⟩
     have HS9 : Aside0 (Sep w.heap.size [none_, none_, ints w.heap.size (.slice Av l1.length cv) l1, ints w.heap.size (.slice Ao l2.length co) l2, trie w.heap.size own2 g2 2 3 2 500 1 (fun _ => []) (fun _ => -1) 0 0, trie w.heap.size own3 g 2 3 2 500 (putN 1 l1 [0]) (putB 1 (fun _ => []) l1 [0]) (putV 2 1 (fun _ => -1) l1 l2 [0]) 0 0] w9) := ⟨hS⟩
     have HB9 := Aside0.mk (HB8.out.trans hb)
     clear hS hb)
  | ((with_reducible refine gate_builtin (b := .append) (xs := #[.tmp 60, .tmp 61]) rfl ?_)
     at_builtin
     refine Kd.R_append_rows (Kd.int .i64) (w0 := w) w.heap.size rfl (.tmp 60) (.tmp 61) 22 3 (.int .i64 0) 8 rfl Try.underlying22 info3 rfl (by decide) (by omega) v7 [] l2 A2 l2.length c2 (fun _ => True) (fun _ => False) rfl rfl (Kd.R_mono (HS7.out.get 3 rfl) (fun _ _ => trivial)) (Kd.C_below HR2.out HB7.out) (fun _ _ h => h) (fun _ h => h.elim) (fun _ _ => trivial) HB7.out HB7.out.size (by simp; omega) ?_
     intro v8 w8 ho hb hg hat
     rw [List.nil_append] at ho
     obtain ⟨Ao, co, rfl⟩ := Kd.R_slice ho
     have HS8 : Aside0 (Sep w.heap.size [none_, none_, ints w.heap.size (.slice Av l1.length cv) l1, ints w.heap.size (.slice Ao l2.length co) l2, trie w.heap.size own2 g2 2 3 2 500 1 (fun _ => []) (fun _ => -1) 0 0, trie w.heap.size own g 2 3 2 500 1 (fun _ => []) (fun _ => -1) 0 0] w8) := ⟨HS7.out.app 3 rfl rfl ho hg hat HB7.out.size⟩
     have HB8 := Aside0.mk hb
     clear ho hb hg hat)
  | ((with_reducible refine gate_dst (N := 60) rfl ?_)
     refine Kd.R_lit (Kd.int .i64) (w0 := w6) w6.heap.size 3 rfl (N := 60) rfl (xs := ([] : List Int)) (inner := []) (ok := fun _ => True) (okp := fun _ => True) ?hr ?hp (fun _ hk => hk) trivial (Below.refl _ _) (Nat.le_refl _) (by simp) ?_
     (case hr => first | (go_simp; done) | (go_simp; rfl))
     (case hp => exact (Reps.none _ _))
     intro v7 w7 ho hb hg hnew
     have HS7 := Aside0.mk (HS6.out.fillRow 3 rfl rfl ho hb HB6.out.size)
     have HB7 := Aside0.mk (below_step HB6.out hb)
     clear ho hb hg hnew)
  | ((with_reducible refine gate_builtin (b := .append) (xs := #[.tmp 57, .tmp 58]) rfl ?_)
     at_builtin
     refine Kd.R_append_rows (Kd.int .i64) (w0 := w) w.heap.size rfl (.tmp 57) (.tmp 58) 22 3 (.int .i64 0) 8 rfl Try.underlying22 info3 rfl (by decide) (by omega) v5 [] l1 A1 l1.length c1 (fun _ => True) (fun _ => False) rfl rfl (Kd.R_mono (HS5.out.get 2 rfl) (fun _ _ => trivial)) (Kd.C_below HR1.out HB5.out) (fun _ _ h => h) (fun _ h => h.elim) (fun _ _ => trivial) HB5.out HB5.out.size (by simp; omega) ?_
     intro v6 w6 ho hb hg hat
     rw [List.nil_append] at ho
     obtain ⟨Av, cv, rfl⟩ := Kd.R_slice ho
     have HS6 : Aside0 (Sep w.heap.size [none_, none_, ints w.heap.size (.slice Av l1.length cv) l1, none_, trie w.heap.size own2 g2 2 3 2 500 1 (fun _ => []) (fun _ => -1) 0 0, trie w.heap.size own g 2 3 2 500 1 (fun _ => []) (fun _ => -1) 0 0] w6) := ⟨HS5.out.app 2 rfl rfl ho hg hat HB5.out.size⟩
     have HB6 := Aside0.mk hb
     clear ho hb hg hat)
  | ((with_reducible refine gate_dst (N := 57) rfl ?_)
     refine Kd.R_lit (Kd.int .i64) (w0 := w4) w4.heap.size 3 rfl (N := 57) rfl (xs := ([] : List Int)) (inner := []) (ok := fun _ => True) (okp := fun _ => True) ?hr ?hp (fun _ hk => hk) trivial (Below.refl _ _) (Nat.le_refl _) (by simp) ?_
     (case hr => first | (go_simp; done) | (go_simp; rfl))
     (case hp => exact (Reps.none _ _))
     intro v5 w5 ho hb hg hnew
     have HS5 := Aside0.mk (HS4.out.fillRow 2 rfl rfl ho hb HB4.out.size)
     have HB5 := Aside0.mk (below_step HB4.out hb)
     clear ho hb hg hnew)
  | (go_at_call 13; with_reducible refine (tutorlaw11_num.calls 0 0 w3 rfl).mono ?_
     rintro e w4 ⟨rfl, hd⟩
     have HS4 := Aside0.mk (HS3.out.low hd.below)
     have HB4 := Aside0.mk (below_step HB3.out hd.below)
     clear hd)
  | (go_at_call 13; with_reducible refine (tutorlaw11_num.calls 0 0 w2 rfl).mono ?_
     rintro e w3 ⟨rfl, hd⟩
     have HS3 := Aside0.mk (HS2.out.low hd.below)
     have HB3 := Aside0.mk (below_step HB2.out hd.below)
     clear hd)
  | (go_at_call 12; with_reducible refine (hnw w1).mono ?_
     rintro e w2 ⟨g2, own2, rfl, hS, hb⟩
     have HS2 : Aside0 (Sep w.heap.size [none_, none_, none_, none_, trie w.heap.size own2 g2 2 3 2 500 1 (fun _ => []) (fun _ => -1) 0 0, trie w.heap.size own g 2 3 2 500 1 (fun _ => []) (fun _ => -1) 0 0] w2) := ⟨((((New_add HS1.out HB1.out.size hS hb).free none_ trivial (fun _ hk => hk.elim)).free none_ trivial (fun _ hk => hk.elim)).free none_ trivial (fun _ hk => hk.elim)).free none_ trivial (fun _ hk => hk.elim)⟩
     have HB2 := Aside0.mk (below_step HB1.out hb)
     clear hS hb)
  | (go_at_call 12; with_reducible refine (hnw w).mono ?_
     rintro e w1 ⟨g, own, rfl, hS, hb⟩
     have HS1 := Aside0.mk hS
     have HB1 := Aside0.mk hb
     clear hS hb))
  clear HS1 HS2 HS3 HS4 HS5 HS6 HS7 HS8 HS9 HB1 HB2 HB3 HB4 HB5 HB6 HB7 HB8 HB9
  go_loopw [15] (fun v15 wr => ∃ (i : Nat) (zs : List Int), v15 = .int .i64 (i : Int) ∧ Aside0 (i ≤ l1.length) ∧ Aside0 (zs.length = l1.length) ∧ Aside0 (Sep w.heap.size [none_, none_, ints w.heap.size (.slice Av l1.length cv) zs, ints w.heap.size (.slice Ao l2.length co) l2, trie w.heap.size own2 g2 2 3 2 500 1 (fun _ => []) (fun _ => -1) 0 0, trie w.heap.size own3 g 2 3 2 500 (putN 1 l1 [0]) (putB 1 (fun _ => []) l1 [0]) (putV 2 1 (fun _ => -1) l1 l2 [0]) 0 0] wr) ∧ Aside0 (Below w.heap.size w wr)) (fun v15 _ => l1.length - (intOf v15).toNat)
  case atStart => exact ⟨0, l1, rfl, ⟨by omega⟩, ⟨rfl⟩, HS10, HB10⟩
  case round =>
    clear HS10 HB10
    obtain ⟨i, zs, rfl, HI, HZzs, HS, HB⟩ := hrel
    by_cases hi : i < l1.length
    · have HIN := Aside0.mk hi
      have hi' : (i : Int) < (l1.length : Int) := by omega
      have hzl : i < zs.length := by rw [HZzs.out]; exact hi
      obtain ⟨gv, cv', hv⟩ := ints_some (HS.out.get 2 rfl) (fun e => by rw [e] at hzl; simp at hzl)
      injection hv with hv1 hv2 hv3
      subst hv1
      obtain ⟨ad, ea, hcell⟩ := Kd.at_int (row_C (HS.out.get 2 rfl)).1 (i : Int) (by omega) hi'
      injection ea with ea
      subst ea
      rw [Int.toNat_natCast, Addr.add_mid, Nat.zero_add] at hcell
      have hfz := row_frozen (HS.out.get 2 rfl) i
      clear hi hzl hv2 hv3
      go_wp2
      go_roundw
      case rel => exact ⟨i + 1, zs.set i 9, by go_num, ⟨by have := HIN.out; omega⟩, ⟨by rw [List.length_set]; exact HZzs.out⟩, ⟨Sep.putInt HS.out 2 rfl i 9 HB.out.size⟩, ⟨HB.out.setCell (HS.out.bound 2 rfl (k := gv) rfl).1 _⟩⟩
      case measure => have := HIN.out; simp [intOf]; omega
    · have hi' : ¬ ((i : Int) < (l1.length : Int)) := by omega
      clear hi
      go_wp2
      go_loopw [16] (fun v16 wr => ∃ (i : Nat) (ys : List Int), v16 = .int .i64 (i : Int) ∧ Aside0 (i ≤ l2.length) ∧ Aside0 (ys.length = l2.length) ∧ Aside0 (Sep w.heap.size [none_, none_, ints w.heap.size (.slice Av l1.length cv) zs, ints w.heap.size (.slice Ao l2.length co) ys, trie w.heap.size own2 g2 2 3 2 500 1 (fun _ => []) (fun _ => -1) 0 0, trie w.heap.size own3 g 2 3 2 500 (putN 1 l1 [0]) (putB 1 (fun _ => []) l1 [0]) (putV 2 1 (fun _ => -1) l1 l2 [0]) 0 0] wr) ∧ Aside0 (Below w.heap.size w wr)) (fun v16 _ => l2.length - (intOf v16).toNat)
      case atStart => exact ⟨0, l2, rfl, ⟨by omega⟩, ⟨rfl⟩, HS, HB⟩
      case round =>
        clear HS HB
        obtain ⟨i, ys, rfl, HI, HZys, HS, HB⟩ := hrel
        by_cases hi : i < l2.length
        · have HIN := Aside0.mk hi
          have hi' : (i : Int) < (l2.length : Int) := by omega
          have hzl : i < ys.length := by rw [HZys.out]; exact hi
          obtain ⟨gv, cv', hv⟩ := ints_some (HS.out.get 3 rfl) (fun e => by rw [e] at hzl; simp at hzl)
          injection hv with hv1 hv2 hv3
          subst hv1
          obtain ⟨ad, ea, hcell⟩ := Kd.at_int (row_C (HS.out.get 3 rfl)).1 (i : Int) (by omega) hi'
          injection ea with ea
          subst ea
          rw [Int.toNat_natCast, Addr.add_mid, Nat.zero_add] at hcell
          have hfz := row_frozen (HS.out.get 3 rfl) i
          clear hi hzl hv2 hv3
          go_wp2
          go_roundw
          case rel => exact ⟨i + 1, ys.set i 9, by go_num, ⟨by have := HIN.out; omega⟩, ⟨by rw [List.length_set]; exact HZys.out⟩, ⟨Sep.putInt HS.out 3 rfl i 9 HB.out.size⟩, ⟨HB.out.setCell (HS.out.bound 3 rfl (k := gv) rfl).1 _⟩⟩
          case measure => have := HIN.out; simp [intOf]; omega
        · have hi' : ¬ ((i : Int) < (l2.length : Int)) := by omega
          clear hi
          go_wp2_with (first
          | (go_at_call 11; refine (live_walk w23).mono ?_
             rintro e w24 ⟨rfl, hb⟩
             have HB24 := Aside0.mk (below_step HB23.out hb)
             clear hb)
          | (go_at_call 18; refine (Nodes_walk w.heap.size own2 g2 2 3 2 500 1 (fun _ => []) (fun _ => -1) 0 0 w22 (HS22.out.get 7 rfl)).mono ?_
             rintro e w23 ⟨rfl, hb⟩
             have HB23 := Aside0.mk (below_step HB22.out hb)
             clear hb)
          | (go_at_call 21; refine (tutorref01_Lists.calls (l1.length + 2) Au cu [l1] (some ⟨w21.heap.size, 0, none⟩) 1 [l1] true _ (row1_C (HS21.out.low (below_alloc (Below.refl w21.heap.size w21) (.cells #[.slice A1 l1.length c1] 22)))).1 (row1_C HS21.out).2 (one_C (blk_new w21 _) hc1 (Kd.C_below HR1.out (below_alloc HB21.out (.cells #[.slice A1 l1.length c1] 22)))) (Nat.le_refl _) (lists_one l1 (by omega))).mono ?_
             rintro e w22 ⟨rfl, hd⟩
             have HS22 := Aside0.mk ((HS21.out.low (below_alloc (Below.refl w21.heap.size w21) (.cells #[.slice A1 l1.length c1] 22))).low hd.below)
             have HB22 := Aside0.mk (below_step (below_alloc HB21.out (.cells #[.slice A1 l1.length c1] 22)) hd.below)
             clear hd)
          | (go_at_call 20; refine (Words_2 w.heap.size own6 g 3 2 500 (putN 1 l1 [0]) (putB 1 (fun _ => []) l1 [0]) (putV 2 1 (fun _ => -1) l1 l2 [0]) (if true = true then (if true = true then (if true = true then 0 + 1 else 0) + 1 else (if true = true then 0 + 1 else 0)) + 1 else (if true = true then (if true = true then 0 + 1 else 0) + 1 else (if true = true then 0 + 1 else 0))) (if true = true then (if true = true then (if true = true then 0 else 0 + 1) else (if true = true then 0 else 0 + 1) + 1) else (if true = true then (if true = true then 0 else 0 + 1) else (if true = true then 0 else 0 + 1) + 1) + 1) w20 (HS20.out.get 6 rfl) (by rw [one_N]; omega) (by decide)).mono ?_
             rintro e w21 hW
             obtain ⟨Au, cu, hd3, rfl, hS, hb⟩ := OneWords.join HS20.out (one_words HKP.out _ _ hW) HB20.out.size
             have HS21 := Aside0.mk hS
             have HB21 := Aside0.mk (HB20.out.trans hb)
             clear hS hb hW)
          | (go_at_call 17; refine (same_calls Az l2.length cz l2 A2 l2.length c2 l2 w19 (row_C (HS19.out.get 0 rfl)).1 (row_C (HS19.out.get 0 rfl)).2 (Kd.C_below HR2.out HB19.out) hc2 (by omega)).mono ?_
             rw [decide_eq_true rfl]
             rintro e w20 ⟨rfl, hd⟩
             have HS20 := Aside0.mk (HS19.out.low hd.below)
             have HB20 := Aside0.mk (below_step HB19.out hd.below)
             clear hd)
          | (go_at_call 16; refine (Get_is HS18.out 6 0 rfl rfl (by decide) HB18.out.size (.inr rfl) (by rw [one_N]; omega) (by decide) l1 (by omega) A1 l1.length c1 rfl (Kd.C_below HR1.out HB18.out) (by decide) (by decide) (List.range (l1.length + 1)) (own_way l1).1 (own_way l1).2 l2 true HT.out).mono ?_
             rintro e w19 ⟨v, own6, rfl, hS, hb⟩
             obtain ⟨Az, cz, hv⟩ := Kd.R_slice (hS.get 0 rfl)
             subst hv
             have HS19 : Aside0 (Sep w.heap.size [ints w.heap.size (.slice Az l2.length cz) l2, row kH 22 w.heap.size (.slice (some ⟨g17, 0, none⟩) 2 c17) [hd1, hd2], row kH 22 w.heap.size (.slice Ax 1 cx) [hd2], ints w.heap.size (.slice Av l1.length cv) zs, ints w.heap.size (.slice Ao l2.length co) ys, trie w.heap.size own2 g2 2 3 2 500 1 (fun _ => []) (fun _ => -1) 0 0, trie w.heap.size own6 g 2 3 2 500 (putN 1 l1 [0]) (putB 1 (fun _ => []) l1 [0]) (putV 2 1 (fun _ => -1) l1 l2 [0]) (if true = true then (if true = true then (if true = true then 0 + 1 else 0) + 1 else (if true = true then 0 + 1 else 0)) + 1 else (if true = true then (if true = true then 0 + 1 else 0) + 1 else (if true = true then 0 + 1 else 0))) (if true = true then (if true = true then (if true = true then 0 else 0 + 1) else (if true = true then 0 else 0 + 1) + 1) else (if true = true then (if true = true then 0 else 0 + 1) else (if true = true then 0 else 0 + 1) + 1) + 1)] w19) := ⟨hS⟩
             have HB19 := Aside0.mk (HB18.out.trans hb)
             clear hS hb)
          | (go_at_call 19; refine (Apart_two HS17.out (heads_row (HS17.out.get 2 rfl)).1 (heads_row (HS17.out.get 2 rfl)).2 (by omega) (by omega) HB17.out.size).mono ?_
             rintro e w18 ⟨rfl, hS, hb⟩
             have HS18 := Aside0.mk (hS.free none_ trivial (fun _ hk => hk.elim))
             have HB18 := Aside0.mk (HB17.out.trans hb)
             clear hS hb)
          | ((with_reducible refine gate_builtin (b := .append) (xs := #[.tmp 115, .tmp 117]) rfl ?_)
             at_builtin
             refine wpList_step (by first | rfl | (go_simp; done)) ?_
             refine Kd.R_append_rows_step kH (w0 := w) w.heap.size (by first | rfl | (go_simp; done)) (.tmp 115) (.tmp 117) 25 22 (.slice none 0 0) 24 rfl Try.underlying25 info22 rfl (by decide) (by omega) (.slice Aw 1 cw) [hd1] [hd2] Ax 1 cx (fun _ => True) (fun _ => False) rfl rfl (Kd.R_mono (HS16.out.get 2 rfl) (fun _ _ => trivial)) (Kd.R_reads' (HS16.out.get 0 rfl)).2.2 (fun _ _ h => h) (fun _ h => h.elim) (fun _ _ => trivial) HB16.out HB16.out.size (by show (1 + 1) * 24 ≤ 140737488355328; omega) ?_
             intro v17 w17 ho hb hg hat
             obtain ⟨g17, c17, rfl⟩ := kh_some ho
             have HS17 := Aside0.mk (Sep.turn4 (HS16.out.app 2 rfl rfl ho hg hat HB16.out.size))
             have HB17 := Aside0.mk hb
             clear ho hb hg hat)
          | (go_at_call 20; refine (Words_2 w.heap.size own5 g 3 2 500 (putN 1 l1 [0]) (putB 1 (fun _ => []) l1 [0]) (putV 2 1 (fun _ => -1) l1 l2 [0]) (if true = true then (if true = true then 0 + 1 else 0) + 1 else (if true = true then 0 + 1 else 0)) (if true = true then (if true = true then 0 else 0 + 1) else (if true = true then 0 else 0 + 1) + 1) w15 (HS15.out.get 5 rfl) (by rw [one_N]; omega) (by decide)).mono ?_
             rintro e w16 hW
             obtain ⟨Ax, cx, hd2, rfl, hS, hb⟩ := OneWords.join HS15.out (one_words HKP.out _ _ hW) HB15.out.size
             have HS16 := Aside0.mk hS
             have HB16 := Aside0.mk (HB15.out.trans hb)
             clear hS hb hW)
          | (go_at_call 20; refine (Words_2 w.heap.size own5 g 3 2 500 (putN 1 l1 [0]) (putB 1 (fun _ => []) l1 [0]) (putV 2 1 (fun _ => -1) l1 l2 [0]) (if true = true then (if true = true then 0 + 1 else 0) + 1 else (if true = true then 0 + 1 else 0)) (if true = true then (if true = true then 0 else 0 + 1) else (if true = true then 0 else 0 + 1) + 1) w14 (HS14.out.get 3 rfl) (by rw [one_N]; omega) (by decide)).mono ?_
             rintro e w15 hW
             obtain ⟨Aw, cw, hd1, rfl, hS, hb⟩ := OneWords.join HS14.out (one_words HKP.out _ _ hW) HB14.out.size
             have HS15 := Aside0.mk hS
             have HB15 := Aside0.mk (HB14.out.trans hb)
             clear hS hb hW)
          | (go_at_call 19; refine (Apart_two (HS13.out.low (below_alloc (Below.refl w13.heap.size w13) (.cells #[.slice Aa l2.length ca, .slice Ab l2.length cb] 22))) (heads_lit w13 _ _) HB13.out.size (by omega) (by omega) (Nat.le_trans HB13.out.size (below_alloc (Below.refl w13.heap.size w13) (.cells #[.slice Aa l2.length ca, .slice Ab l2.length cb] 22)).size)).mono ?_
             rintro e w14 ⟨rfl, hS, hb⟩
             have HS14 := Aside0.mk hS
             have HB14 := Aside0.mk ((below_alloc HB13.out (.cells #[.slice Aa l2.length ca, .slice Ab l2.length cb] 22)).trans hb)
             clear hS hb)
          | (go_at_call 17; refine (same_calls Aa l2.length ca l2 A2 l2.length c2 l2 w12 (row_C (HS12.out.get 0 rfl)).1 (row_C (HS12.out.get 0 rfl)).2 (Kd.C_below HR2.out HB12.out) hc2 (by omega)).mono ?_
             rw [decide_eq_true rfl]
             rintro e w13 ⟨rfl, hd⟩
             have HS13 := Aside0.mk (HS12.out.low hd.below)
             have HB13 := Aside0.mk (below_step HB12.out hd.below)
             clear hd)
          | (go_at_call 16; refine (Get_is HS11.out 5 1 rfl rfl (by decide) HB11.out.size (.inr rfl) (by rw [one_N]; omega) (by decide) l1 (by omega) A1 l1.length c1 rfl (Kd.C_below HR1.out HB11.out) (by decide) (by decide) (List.range (l1.length + 1)) (own_way l1).1 (own_way l1).2 l2 true HT.out).mono ?_
             rintro e w12 ⟨v, own5, rfl, hS, hb⟩
             obtain ⟨Ab, cb, hv⟩ := Kd.R_slice (hS.get 1 rfl)
             subst hv
             have HS12 : Aside0 (Sep w.heap.size [ints w.heap.size (.slice Aa l2.length ca) l2, ints w.heap.size (.slice Ab l2.length cb) l2, ints w.heap.size (.slice Av l1.length cv) zs, ints w.heap.size (.slice Ao l2.length co) ys, trie w.heap.size own2 g2 2 3 2 500 1 (fun _ => []) (fun _ => -1) 0 0, trie w.heap.size own5 g 2 3 2 500 (putN 1 l1 [0]) (putB 1 (fun _ => []) l1 [0]) (putV 2 1 (fun _ => -1) l1 l2 [0]) (if true = true then (if true = true then 0 + 1 else 0) + 1 else (if true = true then 0 + 1 else 0)) (if true = true then (if true = true then 0 else 0 + 1) else (if true = true then 0 else 0 + 1) + 1)] w12) := ⟨hS⟩
             have HB12 := Aside0.mk (HB11.out.trans hb)
             clear hS hb)
          | (go_at_call 16; refine (Get_is HS.out 5 0 rfl rfl (by decide) HB.out.size (.inr rfl) (by rw [one_N]; omega) (by decide) l1 (by omega) A1 l1.length c1 rfl (Kd.C_below HR1.out HB.out) (by decide) (by decide) (List.range (l1.length + 1)) (own_way l1).1 (own_way l1).2 l2 true HT.out).mono ?_
             rintro e w11 ⟨v, own4, rfl, hS, hb⟩
             obtain ⟨Aa, ca, hv⟩ := Kd.R_slice (hS.get 0 rfl)
             subst hv
             have HS11 : Aside0 (Sep w.heap.size [ints w.heap.size (.slice Aa l2.length ca) l2, none_, ints w.heap.size (.slice Av l1.length cv) zs, ints w.heap.size (.slice Ao l2.length co) ys, trie w.heap.size own2 g2 2 3 2 500 1 (fun _ => []) (fun _ => -1) 0 0, trie w.heap.size own4 g 2 3 2 500 (putN 1 l1 [0]) (putB 1 (fun _ => []) l1 [0]) (putV 2 1 (fun _ => -1) l1 l2 [0]) (if true = true then 0 + 1 else 0) (if true = true then 0 else 0 + 1)] w11) := ⟨hS⟩
             have HB11 := Aside0.mk (HB.out.trans hb)
             clear hS hb))
          go_ret
          exact ⟨rfl, HB24.out⟩
set_option maxHeartbeats 16000000 in
set_option maxRecDepth 100000 in
theorem Own_1ok (A1 : Option Addr) (c1 : Nat) (l1 : List Int) (A2 : Option Addr) (c2 : Nat) (l2 : List Int) (w : World) (hr1 : Kd.C (Kd.int .i64) w A1 l1.length l1) (hc1 : l1.length ≤ c1) (hr2 : Kd.C (Kd.int .i64) w A2 l2.length l2) (hc2 : l2.length ≤ c2) (hlb : l1.length ≤ 200) (hlo : l2.length ≤ 300) (he : putErr 1 3 2 500 1 (fun _ => -1) l1 l2 [0] = 0) : Calls Try.prog 5 #[.bool false, .slice A1 l1.length c1, .slice A2 l2.length c2] w fun e w' => e = .returned (.bool true) ∧ Below w.heap.size w w' := by
  have h1 : ¬ (l1.length : Int) > 200 := by omega
  have h3 : ¬ (l2.length : Int) > 300 := by omega
  have hu22 := Try.underlying22
  have hu25 := Try.underlying25
  have hnw : ∀ W : World, Calls Try.prog 12 #[.int .i64 1, .int .i64 3, .int .i64 2, .int .i64 500] W (NewPost W 1 3 2 500) := fun W => New_dfa 3 500 W (by decide) (by decide) (by decide) (by decide)
  have HF := Aside0.mk (own_at l1)
  have HR1 := Aside0.mk hr1
  have HR2 := Aside0.mk hr2
  clear hr1 hr2
  have HX := Aside0.mk he
  have HT : Aside0 (tellF 1 (putV 1 1 (fun _ => -1) l1 l2 [0]) l1 (List.range (l1.length + 1)) = (l2, true)) := ⟨own_tell1 (mem_two (putErr_zero he).2.1).1 (mem_two (putErr_zero he).2.1).2.1⟩
  have HKP := Aside0.mk (own_keep 1 l1 l2 (.inr ⟨rfl, (mem_two (putErr_zero he).2.1).2.1⟩))
  clear he
  go_enter Try.func5, Try.ntmps5
  go_wp2_with (first
  | (go_at_call 13; with_reducible refine (tutorlaw11_num.calls 0 0 w9 rfl).mono ?_
     rintro e w10 ⟨rfl, hd⟩
     have HS10 := Aside0.mk (HS9.out.low hd.below)
     have HB10 := Aside0.mk (below_step HB9.out hd.below)
     clear hd)
  | (go_at_call 15; refine (Put_ok HS8.out 5 rfl HB8.out.size (.inl rfl) (by decide) (by decide) (by decide) (by decide) l1 (by omega) Av l1.length cv rfl (row_C (HS8.out.get 2 rfl)).2 l2 Ao l2.length co rfl (row_rd HS8.out 5 2 rfl (fun _ hk => hk) rfl (by decide)) (row_rd HS8.out 5 3 rfl (fun _ hk => hk) rfl (by decide)) [0] HF.out.1 HF.out.2 HX.out).mono ?_
     rintro e w9 ⟨own3, rfl, hS, hb⟩
     have HS9 : Aside0 (Sep w.heap.size [none_, none_, ints w.heap.size (.slice Av l1.length cv) l1, ints w.heap.size (.slice Ao l2.length co) l2, trie w.heap.size own2 g2 1 3 2 500 1 (fun _ => []) (fun _ => -1) 0 0, trie w.heap.size own3 g 1 3 2 500 (putN 1 l1 [0]) (putB 1 (fun _ => []) l1 [0]) (putV 1 1 (fun _ => -1) l1 l2 [0]) 0 0] w9) := ⟨hS⟩
     have HB9 := Aside0.mk (HB8.out.trans hb)
     clear hS hb)
  | ((with_reducible refine gate_builtin (b := .append) (xs := #[.tmp 60, .tmp 61]) rfl ?_)
     at_builtin
     refine Kd.R_append_rows (Kd.int .i64) (w0 := w) w.heap.size rfl (.tmp 60) (.tmp 61) 22 3 (.int .i64 0) 8 rfl Try.underlying22 info3 rfl (by decide) (by omega) v7 [] l2 A2 l2.length c2 (fun _ => True) (fun _ => False) rfl rfl (Kd.R_mono (HS7.out.get 3 rfl) (fun _ _ => trivial)) (Kd.C_below HR2.out HB7.out) (fun _ _ h => h) (fun _ h => h.elim) (fun _ _ => trivial) HB7.out HB7.out.size (by simp; omega) ?_
     intro v8 w8 ho hb hg hat
     rw [List.nil_append] at ho
     obtain ⟨Ao, co, rfl⟩ := Kd.R_slice ho
     have HS8 : Aside0 (Sep w.heap.size [none_, none_, ints w.heap.size (.slice Av l1.length cv) l1, ints w.heap.size (.slice Ao l2.length co) l2, trie w.heap.size own2 g2 1 3 2 500 1 (fun _ => []) (fun _ => -1) 0 0, trie w.heap.size own g 1 3 2 500 1 (fun _ => []) (fun _ => -1) 0 0] w8) := ⟨HS7.out.app 3 rfl rfl ho hg hat HB7.out.size⟩
     have HB8 := Aside0.mk hb
     clear ho hb hg hat)
  | ((with_reducible refine gate_dst (N := 60) rfl ?_)
     refine Kd.R_lit (Kd.int .i64) (w0 := w6) w6.heap.size 3 rfl (N := 60) rfl (xs := ([] : List Int)) (inner := []) (ok := fun _ => True) (okp := fun _ => True) ?hr ?hp (fun _ hk => hk) trivial (Below.refl _ _) (Nat.le_refl _) (by simp) ?_
     (case hr => first | (go_simp; done) | (go_simp; rfl))
     (case hp => exact (Reps.none _ _))
     intro v7 w7 ho hb hg hnew
     have HS7 := Aside0.mk (HS6.out.fillRow 3 rfl rfl ho hb HB6.out.size)
     have HB7 := Aside0.mk (below_step HB6.out hb)
     clear ho hb hg hnew)
  | ((with_reducible refine gate_builtin (b := .append) (xs := #[.tmp 57, .tmp 58]) rfl ?_)
     at_builtin
     refine Kd.R_append_rows (Kd.int .i64) (w0 := w) w.heap.size rfl (.tmp 57) (.tmp 58) 22 3 (.int .i64 0) 8 rfl Try.underlying22 info3 rfl (by decide) (by omega) v5 [] l1 A1 l1.length c1 (fun _ => True) (fun _ => False) rfl rfl (Kd.R_mono (HS5.out.get 2 rfl) (fun _ _ => trivial)) (Kd.C_below HR1.out HB5.out) (fun _ _ h => h) (fun _ h => h.elim) (fun _ _ => trivial) HB5.out HB5.out.size (by simp; omega) ?_
     intro v6 w6 ho hb hg hat
     rw [List.nil_append] at ho
     obtain ⟨Av, cv, rfl⟩ := Kd.R_slice ho
     have HS6 : Aside0 (Sep w.heap.size [none_, none_, ints w.heap.size (.slice Av l1.length cv) l1, none_, trie w.heap.size own2 g2 1 3 2 500 1 (fun _ => []) (fun _ => -1) 0 0, trie w.heap.size own g 1 3 2 500 1 (fun _ => []) (fun _ => -1) 0 0] w6) := ⟨HS5.out.app 2 rfl rfl ho hg hat HB5.out.size⟩
     have HB6 := Aside0.mk hb
     clear ho hb hg hat)
  | ((with_reducible refine gate_dst (N := 57) rfl ?_)
     refine Kd.R_lit (Kd.int .i64) (w0 := w4) w4.heap.size 3 rfl (N := 57) rfl (xs := ([] : List Int)) (inner := []) (ok := fun _ => True) (okp := fun _ => True) ?hr ?hp (fun _ hk => hk) trivial (Below.refl _ _) (Nat.le_refl _) (by simp) ?_
     (case hr => first | (go_simp; done) | (go_simp; rfl))
     (case hp => exact (Reps.none _ _))
     intro v5 w5 ho hb hg hnew
     have HS5 := Aside0.mk (HS4.out.fillRow 2 rfl rfl ho hb HB4.out.size)
     have HB5 := Aside0.mk (below_step HB4.out hb)
     clear ho hb hg hnew)
  | (go_at_call 13; with_reducible refine (tutorlaw11_num.calls 0 0 w3 rfl).mono ?_
     rintro e w4 ⟨rfl, hd⟩
     have HS4 := Aside0.mk (HS3.out.low hd.below)
     have HB4 := Aside0.mk (below_step HB3.out hd.below)
     clear hd)
  | (go_at_call 13; with_reducible refine (tutorlaw11_num.calls 0 0 w2 rfl).mono ?_
     rintro e w3 ⟨rfl, hd⟩
     have HS3 := Aside0.mk (HS2.out.low hd.below)
     have HB3 := Aside0.mk (below_step HB2.out hd.below)
     clear hd)
  | (go_at_call 12; with_reducible refine (hnw w1).mono ?_
     rintro e w2 ⟨g2, own2, rfl, hS, hb⟩
     have HS2 : Aside0 (Sep w.heap.size [none_, none_, none_, none_, trie w.heap.size own2 g2 1 3 2 500 1 (fun _ => []) (fun _ => -1) 0 0, trie w.heap.size own g 1 3 2 500 1 (fun _ => []) (fun _ => -1) 0 0] w2) := ⟨((((New_add HS1.out HB1.out.size hS hb).free none_ trivial (fun _ hk => hk.elim)).free none_ trivial (fun _ hk => hk.elim)).free none_ trivial (fun _ hk => hk.elim)).free none_ trivial (fun _ hk => hk.elim)⟩
     have HB2 := Aside0.mk (below_step HB1.out hb)
     clear hS hb)
  | (go_at_call 12; with_reducible refine (hnw w).mono ?_
     rintro e w1 ⟨g, own, rfl, hS, hb⟩
     have HS1 := Aside0.mk hS
     have HB1 := Aside0.mk hb
     clear hS hb))
  clear HS1 HS2 HS3 HS4 HS5 HS6 HS7 HS8 HS9 HB1 HB2 HB3 HB4 HB5 HB6 HB7 HB8 HB9
  go_loopw [15] (fun v15 wr => ∃ (i : Nat) (zs : List Int), v15 = .int .i64 (i : Int) ∧ Aside0 (i ≤ l1.length) ∧ Aside0 (zs.length = l1.length) ∧ Aside0 (Sep w.heap.size [none_, none_, ints w.heap.size (.slice Av l1.length cv) zs, ints w.heap.size (.slice Ao l2.length co) l2, trie w.heap.size own2 g2 1 3 2 500 1 (fun _ => []) (fun _ => -1) 0 0, trie w.heap.size own3 g 1 3 2 500 (putN 1 l1 [0]) (putB 1 (fun _ => []) l1 [0]) (putV 1 1 (fun _ => -1) l1 l2 [0]) 0 0] wr) ∧ Aside0 (Below w.heap.size w wr)) (fun v15 _ => l1.length - (intOf v15).toNat)
  case atStart => exact ⟨0, l1, rfl, ⟨by omega⟩, ⟨rfl⟩, HS10, HB10⟩
  case round =>
    clear HS10 HB10
    obtain ⟨i, zs, rfl, HI, HZzs, HS, HB⟩ := hrel
    by_cases hi : i < l1.length
    · have HIN := Aside0.mk hi
      have hi' : (i : Int) < (l1.length : Int) := by omega
      have hzl : i < zs.length := by rw [HZzs.out]; exact hi
      obtain ⟨gv, cv', hv⟩ := ints_some (HS.out.get 2 rfl) (fun e => by rw [e] at hzl; simp at hzl)
      injection hv with hv1 hv2 hv3
      subst hv1
      obtain ⟨ad, ea, hcell⟩ := Kd.at_int (row_C (HS.out.get 2 rfl)).1 (i : Int) (by omega) hi'
      injection ea with ea
      subst ea
      rw [Int.toNat_natCast, Addr.add_mid, Nat.zero_add] at hcell
      have hfz := row_frozen (HS.out.get 2 rfl) i
      clear hi hzl hv2 hv3
      go_wp2
      go_roundw
      case rel => exact ⟨i + 1, zs.set i 9, by go_num, ⟨by have := HIN.out; omega⟩, ⟨by rw [List.length_set]; exact HZzs.out⟩, ⟨Sep.putInt HS.out 2 rfl i 9 HB.out.size⟩, ⟨HB.out.setCell (HS.out.bound 2 rfl (k := gv) rfl).1 _⟩⟩
      case measure => have := HIN.out; simp [intOf]; omega
    · have hi' : ¬ ((i : Int) < (l1.length : Int)) := by omega
      clear hi
      go_wp2
      go_loopw [16] (fun v16 wr => ∃ (i : Nat) (ys : List Int), v16 = .int .i64 (i : Int) ∧ Aside0 (i ≤ l2.length) ∧ Aside0 (ys.length = l2.length) ∧ Aside0 (Sep w.heap.size [none_, none_, ints w.heap.size (.slice Av l1.length cv) zs, ints w.heap.size (.slice Ao l2.length co) ys, trie w.heap.size own2 g2 1 3 2 500 1 (fun _ => []) (fun _ => -1) 0 0, trie w.heap.size own3 g 1 3 2 500 (putN 1 l1 [0]) (putB 1 (fun _ => []) l1 [0]) (putV 1 1 (fun _ => -1) l1 l2 [0]) 0 0] wr) ∧ Aside0 (Below w.heap.size w wr)) (fun v16 _ => l2.length - (intOf v16).toNat)
      case atStart => exact ⟨0, l2, rfl, ⟨by omega⟩, ⟨rfl⟩, HS, HB⟩
      case round =>
        clear HS HB
        obtain ⟨i, ys, rfl, HI, HZys, HS, HB⟩ := hrel
        by_cases hi : i < l2.length
        · have HIN := Aside0.mk hi
          have hi' : (i : Int) < (l2.length : Int) := by omega
          have hzl : i < ys.length := by rw [HZys.out]; exact hi
          obtain ⟨gv, cv', hv⟩ := ints_some (HS.out.get 3 rfl) (fun e => by rw [e] at hzl; simp at hzl)
          injection hv with hv1 hv2 hv3
          subst hv1
          obtain ⟨ad, ea, hcell⟩ := Kd.at_int (row_C (HS.out.get 3 rfl)).1 (i : Int) (by omega) hi'
          injection ea with ea
          subst ea
          rw [Int.toNat_natCast, Addr.add_mid, Nat.zero_add] at hcell
          have hfz := row_frozen (HS.out.get 3 rfl) i
          clear hi hzl hv2 hv3
          go_wp2
          go_roundw
          case rel => exact ⟨i + 1, ys.set i 9, by go_num, ⟨by have := HIN.out; omega⟩, ⟨by rw [List.length_set]; exact HZys.out⟩, ⟨Sep.putInt HS.out 3 rfl i 9 HB.out.size⟩, ⟨HB.out.setCell (HS.out.bound 3 rfl (k := gv) rfl).1 _⟩⟩
          case measure => have := HIN.out; simp [intOf]; omega
        · have hi' : ¬ ((i : Int) < (l2.length : Int)) := by omega
          clear hi
          go_wp2_with (first
          | (go_at_call 11; refine (live_walk w23).mono ?_
             rintro e w24 ⟨rfl, hb⟩
             have HB24 := Aside0.mk (below_step HB23.out hb)
             clear hb)
          | (go_at_call 18; refine (Nodes_walk w.heap.size own2 g2 1 3 2 500 1 (fun _ => []) (fun _ => -1) 0 0 w22 (HS22.out.get 7 rfl)).mono ?_
             rintro e w23 ⟨rfl, hb⟩
             have HB23 := Aside0.mk (below_step HB22.out hb)
             clear hb)
          | (go_at_call 21; refine (tutorref01_Lists.calls (l1.length + 2) Au cu [l1] (some ⟨w21.heap.size, 0, none⟩) 1 [l1] true _ (row1_C (HS21.out.low (below_alloc (Below.refl w21.heap.size w21) (.cells #[.slice A1 l1.length c1] 22)))).1 (row1_C HS21.out).2 (one_C (blk_new w21 _) hc1 (Kd.C_below HR1.out (below_alloc HB21.out (.cells #[.slice A1 l1.length c1] 22)))) (Nat.le_refl _) (lists_one l1 (by omega))).mono ?_
             rintro e w22 ⟨rfl, hd⟩
             have HS22 := Aside0.mk ((HS21.out.low (below_alloc (Below.refl w21.heap.size w21) (.cells #[.slice A1 l1.length c1] 22))).low hd.below)
             have HB22 := Aside0.mk (below_step (below_alloc HB21.out (.cells #[.slice A1 l1.length c1] 22)) hd.below)
             clear hd)
          | (go_at_call 20; refine (Words_1 w.heap.size own6 g 3 2 500 (putN 1 l1 [0]) (putB 1 (fun _ => []) l1 [0]) (putV 1 1 (fun _ => -1) l1 l2 [0]) (if true = true then (if true = true then (if true = true then 0 + 1 else 0) + 1 else (if true = true then 0 + 1 else 0)) + 1 else (if true = true then (if true = true then 0 + 1 else 0) + 1 else (if true = true then 0 + 1 else 0))) (if true = true then (if true = true then (if true = true then 0 else 0 + 1) else (if true = true then 0 else 0 + 1) + 1) else (if true = true then (if true = true then 0 else 0 + 1) else (if true = true then 0 else 0 + 1) + 1) + 1) w20 (HS20.out.get 6 rfl) (by rw [one_N]; omega) (by decide)).mono ?_
             rintro e w21 hW
             obtain ⟨Au, cu, hd3, rfl, hS, hb⟩ := OneWords.join HS20.out (one_words HKP.out _ _ hW) HB20.out.size
             have HS21 := Aside0.mk hS
             have HB21 := Aside0.mk (HB20.out.trans hb)
             clear hS hb hW)
          | (go_at_call 17; refine (same_calls Az l2.length cz l2 A2 l2.length c2 l2 w19 (row_C (HS19.out.get 0 rfl)).1 (row_C (HS19.out.get 0 rfl)).2 (Kd.C_below HR2.out HB19.out) hc2 (by omega)).mono ?_
             rw [decide_eq_true rfl]
             rintro e w20 ⟨rfl, hd⟩
             have HS20 := Aside0.mk (HS19.out.low hd.below)
             have HB20 := Aside0.mk (below_step HB19.out hd.below)
             clear hd)
          | (go_at_call 16; refine (Get_is HS18.out 6 0 rfl rfl (by decide) HB18.out.size (.inl rfl) (by rw [one_N]; omega) (by decide) l1 (by omega) A1 l1.length c1 rfl (Kd.C_below HR1.out HB18.out) (by decide) (by decide) (List.range (l1.length + 1)) (own_way l1).1 (own_way l1).2 l2 true HT.out).mono ?_
             rintro e w19 ⟨v, own6, rfl, hS, hb⟩
             obtain ⟨Az, cz, hv⟩ := Kd.R_slice (hS.get 0 rfl)
             subst hv
             have HS19 : Aside0 (Sep w.heap.size [ints w.heap.size (.slice Az l2.length cz) l2, row kH 22 w.heap.size (.slice (some ⟨g17, 0, none⟩) 2 c17) [hd1, hd2], row kH 22 w.heap.size (.slice Ax 1 cx) [hd2], ints w.heap.size (.slice Av l1.length cv) zs, ints w.heap.size (.slice Ao l2.length co) ys, trie w.heap.size own2 g2 1 3 2 500 1 (fun _ => []) (fun _ => -1) 0 0, trie w.heap.size own6 g 1 3 2 500 (putN 1 l1 [0]) (putB 1 (fun _ => []) l1 [0]) (putV 1 1 (fun _ => -1) l1 l2 [0]) (if true = true then (if true = true then (if true = true then 0 + 1 else 0) + 1 else (if true = true then 0 + 1 else 0)) + 1 else (if true = true then (if true = true then 0 + 1 else 0) + 1 else (if true = true then 0 + 1 else 0))) (if true = true then (if true = true then (if true = true then 0 else 0 + 1) else (if true = true then 0 else 0 + 1) + 1) else (if true = true then (if true = true then 0 else 0 + 1) else (if true = true then 0 else 0 + 1) + 1) + 1)] w19) := ⟨hS⟩
             have HB19 := Aside0.mk (HB18.out.trans hb)
             clear hS hb)
          | (go_at_call 19; refine (Apart_two HS17.out (heads_row (HS17.out.get 2 rfl)).1 (heads_row (HS17.out.get 2 rfl)).2 (by omega) (by omega) HB17.out.size).mono ?_
             rintro e w18 ⟨rfl, hS, hb⟩
             have HS18 := Aside0.mk (hS.free none_ trivial (fun _ hk => hk.elim))
             have HB18 := Aside0.mk (HB17.out.trans hb)
             clear hS hb)
          | ((with_reducible refine gate_builtin (b := .append) (xs := #[.tmp 115, .tmp 117]) rfl ?_)
             at_builtin
             refine wpList_step (by first | rfl | (go_simp; done)) ?_
             refine Kd.R_append_rows_step kH (w0 := w) w.heap.size (by first | rfl | (go_simp; done)) (.tmp 115) (.tmp 117) 25 22 (.slice none 0 0) 24 rfl Try.underlying25 info22 rfl (by decide) (by omega) (.slice Aw 1 cw) [hd1] [hd2] Ax 1 cx (fun _ => True) (fun _ => False) rfl rfl (Kd.R_mono (HS16.out.get 2 rfl) (fun _ _ => trivial)) (Kd.R_reads' (HS16.out.get 0 rfl)).2.2 (fun _ _ h => h) (fun _ h => h.elim) (fun _ _ => trivial) HB16.out HB16.out.size (by show (1 + 1) * 24 ≤ 140737488355328; omega) ?_
             intro v17 w17 ho hb hg hat
             obtain ⟨g17, c17, rfl⟩ := kh_some ho
             have HS17 := Aside0.mk (Sep.turn4 (HS16.out.app 2 rfl rfl ho hg hat HB16.out.size))
             have HB17 := Aside0.mk hb
             clear ho hb hg hat)
          | (go_at_call 20; refine (Words_1 w.heap.size own5 g 3 2 500 (putN 1 l1 [0]) (putB 1 (fun _ => []) l1 [0]) (putV 1 1 (fun _ => -1) l1 l2 [0]) (if true = true then (if true = true then 0 + 1 else 0) + 1 else (if true = true then 0 + 1 else 0)) (if true = true then (if true = true then 0 else 0 + 1) else (if true = true then 0 else 0 + 1) + 1) w15 (HS15.out.get 5 rfl) (by rw [one_N]; omega) (by decide)).mono ?_
             rintro e w16 hW
             obtain ⟨Ax, cx, hd2, rfl, hS, hb⟩ := OneWords.join HS15.out (one_words HKP.out _ _ hW) HB15.out.size
             have HS16 := Aside0.mk hS
             have HB16 := Aside0.mk (HB15.out.trans hb)
             clear hS hb hW)
          | (go_at_call 20; refine (Words_1 w.heap.size own5 g 3 2 500 (putN 1 l1 [0]) (putB 1 (fun _ => []) l1 [0]) (putV 1 1 (fun _ => -1) l1 l2 [0]) (if true = true then (if true = true then 0 + 1 else 0) + 1 else (if true = true then 0 + 1 else 0)) (if true = true then (if true = true then 0 else 0 + 1) else (if true = true then 0 else 0 + 1) + 1) w14 (HS14.out.get 3 rfl) (by rw [one_N]; omega) (by decide)).mono ?_
             rintro e w15 hW
             obtain ⟨Aw, cw, hd1, rfl, hS, hb⟩ := OneWords.join HS14.out (one_words HKP.out _ _ hW) HB14.out.size
             have HS15 := Aside0.mk hS
             have HB15 := Aside0.mk (HB14.out.trans hb)
             clear hS hb hW)
          | (go_at_call 19; refine (Apart_two (HS13.out.low (below_alloc (Below.refl w13.heap.size w13) (.cells #[.slice Aa l2.length ca, .slice Ab l2.length cb] 22))) (heads_lit w13 _ _) HB13.out.size (by omega) (by omega) (Nat.le_trans HB13.out.size (below_alloc (Below.refl w13.heap.size w13) (.cells #[.slice Aa l2.length ca, .slice Ab l2.length cb] 22)).size)).mono ?_
             rintro e w14 ⟨rfl, hS, hb⟩
             have HS14 := Aside0.mk hS
             have HB14 := Aside0.mk ((below_alloc HB13.out (.cells #[.slice Aa l2.length ca, .slice Ab l2.length cb] 22)).trans hb)
             clear hS hb)
          | (go_at_call 17; refine (same_calls Aa l2.length ca l2 A2 l2.length c2 l2 w12 (row_C (HS12.out.get 0 rfl)).1 (row_C (HS12.out.get 0 rfl)).2 (Kd.C_below HR2.out HB12.out) hc2 (by omega)).mono ?_
             rw [decide_eq_true rfl]
             rintro e w13 ⟨rfl, hd⟩
             have HS13 := Aside0.mk (HS12.out.low hd.below)
             have HB13 := Aside0.mk (below_step HB12.out hd.below)
             clear hd)
          | (go_at_call 16; refine (Get_is HS11.out 5 1 rfl rfl (by decide) HB11.out.size (.inl rfl) (by rw [one_N]; omega) (by decide) l1 (by omega) A1 l1.length c1 rfl (Kd.C_below HR1.out HB11.out) (by decide) (by decide) (List.range (l1.length + 1)) (own_way l1).1 (own_way l1).2 l2 true HT.out).mono ?_
             rintro e w12 ⟨v, own5, rfl, hS, hb⟩
             obtain ⟨Ab, cb, hv⟩ := Kd.R_slice (hS.get 1 rfl)
             subst hv
             have HS12 : Aside0 (Sep w.heap.size [ints w.heap.size (.slice Aa l2.length ca) l2, ints w.heap.size (.slice Ab l2.length cb) l2, ints w.heap.size (.slice Av l1.length cv) zs, ints w.heap.size (.slice Ao l2.length co) ys, trie w.heap.size own2 g2 1 3 2 500 1 (fun _ => []) (fun _ => -1) 0 0, trie w.heap.size own5 g 1 3 2 500 (putN 1 l1 [0]) (putB 1 (fun _ => []) l1 [0]) (putV 1 1 (fun _ => -1) l1 l2 [0]) (if true = true then (if true = true then 0 + 1 else 0) + 1 else (if true = true then 0 + 1 else 0)) (if true = true then (if true = true then 0 else 0 + 1) else (if true = true then 0 else 0 + 1) + 1)] w12) := ⟨hS⟩
             have HB12 := Aside0.mk (HB11.out.trans hb)
             clear hS hb)
          | (go_at_call 16; refine (Get_is HS.out 5 0 rfl rfl (by decide) HB.out.size (.inl rfl) (by rw [one_N]; omega) (by decide) l1 (by omega) A1 l1.length c1 rfl (Kd.C_below HR1.out HB.out) (by decide) (by decide) (List.range (l1.length + 1)) (own_way l1).1 (own_way l1).2 l2 true HT.out).mono ?_
             rintro e w11 ⟨v, own4, rfl, hS, hb⟩
             obtain ⟨Aa, ca, hv⟩ := Kd.R_slice (hS.get 0 rfl)
             subst hv
             have HS11 : Aside0 (Sep w.heap.size [ints w.heap.size (.slice Aa l2.length ca) l2, none_, ints w.heap.size (.slice Av l1.length cv) zs, ints w.heap.size (.slice Ao l2.length co) ys, trie w.heap.size own2 g2 1 3 2 500 1 (fun _ => []) (fun _ => -1) 0 0, trie w.heap.size own4 g 1 3 2 500 (putN 1 l1 [0]) (putB 1 (fun _ => []) l1 [0]) (putV 1 1 (fun _ => -1) l1 l2 [0]) (if true = true then 0 + 1 else 0) (if true = true then 0 else 0 + 1)] w11) := ⟨hS⟩
             have HB11 := Aside0.mk (HB.out.trans hb)
             clear hS hb))
          go_ret
          exact ⟨rfl, HB24.out⟩
set_option maxHeartbeats 16000000 in
set_option maxRecDepth 100000 in
theorem Own_2no (A1 : Option Addr) (c1 : Nat) (l1 : List Int) (A2 : Option Addr) (c2 : Nat) (l2 : List Int) (w : World) (hr1 : Kd.C (Kd.int .i64) w A1 l1.length l1) (hc1 : l1.length ≤ c1) (hr2 : Kd.C (Kd.int .i64) w A2 l2.length l2) (hc2 : l2.length ≤ c2) (hlb : l1.length ≤ 200) (hlo : l2.length ≤ 300) (x : Int) (hx : putErr 2 3 2 500 1 (fun _ => -1) l1 l2 [0] = x) (hx0 : x ≠ 0) : Calls Try.prog 5 #[.bool true, .slice A1 l1.length c1, .slice A2 l2.length c2] w fun e w' => e = .returned (.bool true) ∧ Below w.heap.size w w' := by
  have h1 : ¬ (l1.length : Int) > 200 := by omega
  have h3 : ¬ (l2.length : Int) > 300 := by omega
  have hu22 := Try.underlying22
  have hu25 := Try.underlying25
  have hnw : ∀ W : World, Calls Try.prog 12 #[.int .i64 2, .int .i64 3, .int .i64 2, .int .i64 500] W (NewPost W 2 3 2 500) := fun W => New_mealy 3 500 2 W (by decide) (by decide) (by decide) (by decide) (by decide) (by decide)
  have HF := Aside0.mk (own_at l1)
  have HR1 := Aside0.mk hr1
  have HR2 := Aside0.mk hr2
  clear hr1 hr2
  have HX := Aside0.mk hx
  have hxb : (x == 0) = false := by simpa using hx0
  clear hx
  go_enter Try.func5, Try.ntmps5
  go_wp2_with (first
  | (go_at_call 13; with_reducible refine (tutorlaw11_num.calls x x w9 rfl).mono ?_
     rintro e w10 ⟨rfl, hd⟩
     have HS10 := Aside0.mk (HS9.out.low hd.below)
     have HB10 := Aside0.mk (below_step HB9.out hd.below)
     clear hd)
  | (go_at_call 15; refine (Put_no HS8.out 5 rfl HB8.out.size (.inr rfl) (by decide) (by decide) (by decide) (by decide) l1 (by omega) Av l1.length cv rfl (row_C (HS8.out.get 2 rfl)).2 l2 Ao l2.length co rfl (row_rd HS8.out 5 2 rfl (fun _ hk => hk) rfl (by decide)) (row_rd HS8.out 5 3 rfl (fun _ hk => hk) rfl (by decide)) [0] HF.out.1 HF.out.2 x HX.out hx0).mono ?_
     rintro e w9 ⟨own3, rfl, hS, hb⟩
     have HS9 : Aside0 (Sep w.heap.size [none_, none_, ints w.heap.size (.slice Av l1.length cv) l1, ints w.heap.size (.slice Ao l2.length co) l2, trie w.heap.size own2 g2 2 3 2 500 1 (fun _ => []) (fun _ => -1) 0 0, trie w.heap.size own3 g 2 3 2 500 1 (fun _ => []) (fun _ => -1) 0 0] w9) := ⟨hS⟩
     have HB9 := Aside0.mk (HB8.out.trans hb)
     clear hS hb)
  | ((with_reducible refine gate_builtin (b := .append) (xs := #[.tmp 60, .tmp 61]) rfl ?_)
     at_builtin
     refine Kd.R_append_rows (Kd.int .i64) (w0 := w) w.heap.size rfl (.tmp 60) (.tmp 61) 22 3 (.int .i64 0) 8 rfl Try.underlying22 info3 rfl (by decide) (by omega) v7 [] l2 A2 l2.length c2 (fun _ => True) (fun _ => False) rfl rfl (Kd.R_mono (HS7.out.get 3 rfl) (fun _ _ => trivial)) (Kd.C_below HR2.out HB7.out) (fun _ _ h => h) (fun _ h => h.elim) (fun _ _ => trivial) HB7.out HB7.out.size (by simp; omega) ?_
     intro v8 w8 ho hb hg hat
     rw [List.nil_append] at ho
     obtain ⟨Ao, co, rfl⟩ := Kd.R_slice ho
     have HS8 : Aside0 (Sep w.heap.size [none_, none_, ints w.heap.size (.slice Av l1.length cv) l1, ints w.heap.size (.slice Ao l2.length co) l2, trie w.heap.size own2 g2 2 3 2 500 1 (fun _ => []) (fun _ => -1) 0 0, trie w.heap.size own g 2 3 2 500 1 (fun _ => []) (fun _ => -1) 0 0] w8) := ⟨HS7.out.app 3 rfl rfl ho hg hat HB7.out.size⟩
     have HB8 := Aside0.mk hb
     clear ho hb hg hat)
  | ((with_reducible refine gate_dst (N := 60) rfl ?_)
     refine Kd.R_lit (Kd.int .i64) (w0 := w6) w6.heap.size 3 rfl (N := 60) rfl (xs := ([] : List Int)) (inner := []) (ok := fun _ => True) (okp := fun _ => True) ?hr ?hp (fun _ hk => hk) trivial (Below.refl _ _) (Nat.le_refl _) (by simp) ?_
     (case hr => first | (go_simp; done) | (go_simp; rfl))
     (case hp => exact (Reps.none _ _))
     intro v7 w7 ho hb hg hnew
     have HS7 := Aside0.mk (HS6.out.fillRow 3 rfl rfl ho hb HB6.out.size)
     have HB7 := Aside0.mk (below_step HB6.out hb)
     clear ho hb hg hnew)
  | ((with_reducible refine gate_builtin (b := .append) (xs := #[.tmp 57, .tmp 58]) rfl ?_)
     at_builtin
     refine Kd.R_append_rows (Kd.int .i64) (w0 := w) w.heap.size rfl (.tmp 57) (.tmp 58) 22 3 (.int .i64 0) 8 rfl Try.underlying22 info3 rfl (by decide) (by omega) v5 [] l1 A1 l1.length c1 (fun _ => True) (fun _ => False) rfl rfl (Kd.R_mono (HS5.out.get 2 rfl) (fun _ _ => trivial)) (Kd.C_below HR1.out HB5.out) (fun _ _ h => h) (fun _ h => h.elim) (fun _ _ => trivial) HB5.out HB5.out.size (by simp; omega) ?_
     intro v6 w6 ho hb hg hat
     rw [List.nil_append] at ho
     obtain ⟨Av, cv, rfl⟩ := Kd.R_slice ho
     have HS6 : Aside0 (Sep w.heap.size [none_, none_, ints w.heap.size (.slice Av l1.length cv) l1, none_, trie w.heap.size own2 g2 2 3 2 500 1 (fun _ => []) (fun _ => -1) 0 0, trie w.heap.size own g 2 3 2 500 1 (fun _ => []) (fun _ => -1) 0 0] w6) := ⟨HS5.out.app 2 rfl rfl ho hg hat HB5.out.size⟩
     have HB6 := Aside0.mk hb
     clear ho hb hg hat)
  | ((with_reducible refine gate_dst (N := 57) rfl ?_)
     refine Kd.R_lit (Kd.int .i64) (w0 := w4) w4.heap.size 3 rfl (N := 57) rfl (xs := ([] : List Int)) (inner := []) (ok := fun _ => True) (okp := fun _ => True) ?hr ?hp (fun _ hk => hk) trivial (Below.refl _ _) (Nat.le_refl _) (by simp) ?_
     (case hr => first | (go_simp; done) | (go_simp; rfl))
     (case hp => exact (Reps.none _ _))
     intro v5 w5 ho hb hg hnew
     have HS5 := Aside0.mk (HS4.out.fillRow 2 rfl rfl ho hb HB4.out.size)
     have HB5 := Aside0.mk (below_step HB4.out hb)
     clear ho hb hg hnew)
  | (go_at_call 13; with_reducible refine (tutorlaw11_num.calls 0 0 w3 rfl).mono ?_
     rintro e w4 ⟨rfl, hd⟩
     have HS4 := Aside0.mk (HS3.out.low hd.below)
     have HB4 := Aside0.mk (below_step HB3.out hd.below)
     clear hd)
  | (go_at_call 13; with_reducible refine (tutorlaw11_num.calls 0 0 w2 rfl).mono ?_
     rintro e w3 ⟨rfl, hd⟩
     have HS3 := Aside0.mk (HS2.out.low hd.below)
     have HB3 := Aside0.mk (below_step HB2.out hd.below)
     clear hd)
  | (go_at_call 12; with_reducible refine (hnw w1).mono ?_
     rintro e w2 ⟨g2, own2, rfl, hS, hb⟩
     have HS2 : Aside0 (Sep w.heap.size [none_, none_, none_, none_, trie w.heap.size own2 g2 2 3 2 500 1 (fun _ => []) (fun _ => -1) 0 0, trie w.heap.size own g 2 3 2 500 1 (fun _ => []) (fun _ => -1) 0 0] w2) := ⟨((((New_add HS1.out HB1.out.size hS hb).free none_ trivial (fun _ hk => hk.elim)).free none_ trivial (fun _ hk => hk.elim)).free none_ trivial (fun _ hk => hk.elim)).free none_ trivial (fun _ hk => hk.elim)⟩
     have HB2 := Aside0.mk (below_step HB1.out hb)
     clear hS hb)
  | (go_at_call 12; with_reducible refine (hnw w).mono ?_
     rintro e w1 ⟨g, own, rfl, hS, hb⟩
     have HS1 := Aside0.mk hS
     have HB1 := Aside0.mk hb
     clear hS hb))
  clear HS1 HS2 HS3 HS4 HS5 HS6 HS7 HS8 HS9 HB1 HB2 HB3 HB4 HB5 HB6 HB7 HB8 HB9
  go_loopw [15] (fun v15 wr => ∃ (i : Nat) (zs : List Int), v15 = .int .i64 (i : Int) ∧ Aside0 (i ≤ l1.length) ∧ Aside0 (zs.length = l1.length) ∧ Aside0 (Sep w.heap.size [none_, none_, ints w.heap.size (.slice Av l1.length cv) zs, ints w.heap.size (.slice Ao l2.length co) l2, trie w.heap.size own2 g2 2 3 2 500 1 (fun _ => []) (fun _ => -1) 0 0, trie w.heap.size own3 g 2 3 2 500 1 (fun _ => []) (fun _ => -1) 0 0] wr) ∧ Aside0 (Below w.heap.size w wr)) (fun v15 _ => l1.length - (intOf v15).toNat)
  case atStart => exact ⟨0, l1, rfl, ⟨by omega⟩, ⟨rfl⟩, HS10, HB10⟩
  case round =>
    clear HS10 HB10
    obtain ⟨i, zs, rfl, HI, HZzs, HS, HB⟩ := hrel
    by_cases hi : i < l1.length
    · have HIN := Aside0.mk hi
      have hi' : (i : Int) < (l1.length : Int) := by omega
      have hzl : i < zs.length := by rw [HZzs.out]; exact hi
      obtain ⟨gv, cv', hv⟩ := ints_some (HS.out.get 2 rfl) (fun e => by rw [e] at hzl; simp at hzl)
      injection hv with hv1 hv2 hv3
      subst hv1
      obtain ⟨ad, ea, hcell⟩ := Kd.at_int (row_C (HS.out.get 2 rfl)).1 (i : Int) (by omega) hi'
      injection ea with ea
      subst ea
      rw [Int.toNat_natCast, Addr.add_mid, Nat.zero_add] at hcell
      have hfz := row_frozen (HS.out.get 2 rfl) i
      clear hi hzl hv2 hv3
      go_wp2
      go_roundw
      case rel => exact ⟨i + 1, zs.set i 9, by go_num, ⟨by have := HIN.out; omega⟩, ⟨by rw [List.length_set]; exact HZzs.out⟩, ⟨Sep.putInt HS.out 2 rfl i 9 HB.out.size⟩, ⟨HB.out.setCell (HS.out.bound 2 rfl (k := gv) rfl).1 _⟩⟩
      case measure => have := HIN.out; simp [intOf]; omega
    · have hi' : ¬ ((i : Int) < (l1.length : Int)) := by omega
      clear hi
      go_wp2
      go_loopw [16] (fun v16 wr => ∃ (i : Nat) (ys : List Int), v16 = .int .i64 (i : Int) ∧ Aside0 (i ≤ l2.length) ∧ Aside0 (ys.length = l2.length) ∧ Aside0 (Sep w.heap.size [none_, none_, ints w.heap.size (.slice Av l1.length cv) zs, ints w.heap.size (.slice Ao l2.length co) ys, trie w.heap.size own2 g2 2 3 2 500 1 (fun _ => []) (fun _ => -1) 0 0, trie w.heap.size own3 g 2 3 2 500 1 (fun _ => []) (fun _ => -1) 0 0] wr) ∧ Aside0 (Below w.heap.size w wr)) (fun v16 _ => l2.length - (intOf v16).toNat)
      case atStart => exact ⟨0, l2, rfl, ⟨by omega⟩, ⟨rfl⟩, HS, HB⟩
      case round =>
        clear HS HB
        obtain ⟨i, ys, rfl, HI, HZys, HS, HB⟩ := hrel
        by_cases hi : i < l2.length
        · have HIN := Aside0.mk hi
          have hi' : (i : Int) < (l2.length : Int) := by omega
          have hzl : i < ys.length := by rw [HZys.out]; exact hi
          obtain ⟨gv, cv', hv⟩ := ints_some (HS.out.get 3 rfl) (fun e => by rw [e] at hzl; simp at hzl)
          injection hv with hv1 hv2 hv3
          subst hv1
          obtain ⟨ad, ea, hcell⟩ := Kd.at_int (row_C (HS.out.get 3 rfl)).1 (i : Int) (by omega) hi'
          injection ea with ea
          subst ea
          rw [Int.toNat_natCast, Addr.add_mid, Nat.zero_add] at hcell
          have hfz := row_frozen (HS.out.get 3 rfl) i
          clear hi hzl hv2 hv3
          go_wp2
          go_roundw
          case rel => exact ⟨i + 1, ys.set i 9, by go_num, ⟨by have := HIN.out; omega⟩, ⟨by rw [List.length_set]; exact HZys.out⟩, ⟨Sep.putInt HS.out 3 rfl i 9 HB.out.size⟩, ⟨HB.out.setCell (HS.out.bound 3 rfl (k := gv) rfl).1 _⟩⟩
          case measure => have := HIN.out; simp [intOf]; omega
        · have hi' : ¬ ((i : Int) < (l2.length : Int)) := by omega
          clear hi
          go_wp2_with (first
          | (go_at_call 11; refine (live_walk wr).mono ?_
             rintro e w99 ⟨rfl, hb⟩
             have HB99 := Aside0.mk (below_step HB.out hb)
             clear hb))
          go_ret
          exact ⟨rfl, HB99.out⟩
set_option maxHeartbeats 16000000 in
set_option maxRecDepth 100000 in
theorem Own_1no (A1 : Option Addr) (c1 : Nat) (l1 : List Int) (A2 : Option Addr) (c2 : Nat) (l2 : List Int) (w : World) (hr1 : Kd.C (Kd.int .i64) w A1 l1.length l1) (hc1 : l1.length ≤ c1) (hr2 : Kd.C (Kd.int .i64) w A2 l2.length l2) (hc2 : l2.length ≤ c2) (hlb : l1.length ≤ 200) (hlo : l2.length ≤ 300) (x : Int) (hx : putErr 1 3 2 500 1 (fun _ => -1) l1 l2 [0] = x) (hx0 : x ≠ 0) : Calls Try.prog 5 #[.bool false, .slice A1 l1.length c1, .slice A2 l2.length c2] w fun e w' => e = .returned (.bool true) ∧ Below w.heap.size w w' := by
  have h1 : ¬ (l1.length : Int) > 200 := by omega
  have h3 : ¬ (l2.length : Int) > 300 := by omega
  have hu22 := Try.underlying22
  have hu25 := Try.underlying25
  have hnw : ∀ W : World, Calls Try.prog 12 #[.int .i64 1, .int .i64 3, .int .i64 2, .int .i64 500] W (NewPost W 1 3 2 500) := fun W => New_dfa 3 500 W (by decide) (by decide) (by decide) (by decide)
  have HF := Aside0.mk (own_at l1)
  have HR1 := Aside0.mk hr1
  have HR2 := Aside0.mk hr2
  clear hr1 hr2
  have HX := Aside0.mk hx
  have hxb : (x == 0) = false := by simpa using hx0
  clear hx
  go_enter Try.func5, Try.ntmps5
  go_wp2_with (first
  | (go_at_call 13; with_reducible refine (tutorlaw11_num.calls x x w9 rfl).mono ?_
     rintro e w10 ⟨rfl, hd⟩
     have HS10 := Aside0.mk (HS9.out.low hd.below)
     have HB10 := Aside0.mk (below_step HB9.out hd.below)
     clear hd)
  | (go_at_call 15; refine (Put_no HS8.out 5 rfl HB8.out.size (.inl rfl) (by decide) (by decide) (by decide) (by decide) l1 (by omega) Av l1.length cv rfl (row_C (HS8.out.get 2 rfl)).2 l2 Ao l2.length co rfl (row_rd HS8.out 5 2 rfl (fun _ hk => hk) rfl (by decide)) (row_rd HS8.out 5 3 rfl (fun _ hk => hk) rfl (by decide)) [0] HF.out.1 HF.out.2 x HX.out hx0).mono ?_
     rintro e w9 ⟨own3, rfl, hS, hb⟩
     have HS9 : Aside0 (Sep w.heap.size [none_, none_, ints w.heap.size (.slice Av l1.length cv) l1, ints w.heap.size (.slice Ao l2.length co) l2, trie w.heap.size own2 g2 1 3 2 500 1 (fun _ => []) (fun _ => -1) 0 0, trie w.heap.size own3 g 1 3 2 500 1 (fun _ => []) (fun _ => -1) 0 0] w9) := ⟨hS⟩
     have HB9 := Aside0.mk (HB8.out.trans hb)
     clear hS hb)
  | ((with_reducible refine gate_builtin (b := .append) (xs := #[.tmp 60, .tmp 61]) rfl ?_)
     at_builtin
     refine Kd.R_append_rows (Kd.int .i64) (w0 := w) w.heap.size rfl (.tmp 60) (.tmp 61) 22 3 (.int .i64 0) 8 rfl Try.underlying22 info3 rfl (by decide) (by omega) v7 [] l2 A2 l2.length c2 (fun _ => True) (fun _ => False) rfl rfl (Kd.R_mono (HS7.out.get 3 rfl) (fun _ _ => trivial)) (Kd.C_below HR2.out HB7.out) (fun _ _ h => h) (fun _ h => h.elim) (fun _ _ => trivial) HB7.out HB7.out.size (by simp; omega) ?_
     intro v8 w8 ho hb hg hat
     rw [List.nil_append] at ho
     obtain ⟨Ao, co, rfl⟩ := Kd.R_slice ho
     have HS8 : Aside0 (Sep w.heap.size [none_, none_, ints w.heap.size (.slice Av l1.length cv) l1, ints w.heap.size (.slice Ao l2.length co) l2, trie w.heap.size own2 g2 1 3 2 500 1 (fun _ => []) (fun _ => -1) 0 0, trie w.heap.size own g 1 3 2 500 1 (fun _ => []) (fun _ => -1) 0 0] w8) := ⟨HS7.out.app 3 rfl rfl ho hg hat HB7.out.size⟩
     have HB8 := Aside0.mk hb
     clear ho hb hg hat)
  | ((with_reducible refine gate_dst (N := 60) rfl ?_)
     refine Kd.R_lit (Kd.int .i64) (w0 := w6) w6.heap.size 3 rfl (N := 60) rfl (xs := ([] : List Int)) (inner := []) (ok := fun _ => True) (okp := fun _ => True) ?hr ?hp (fun _ hk => hk) trivial (Below.refl _ _) (Nat.le_refl _) (by simp) ?_
     (case hr => first | (go_simp; done) | (go_simp; rfl))
     (case hp => exact (Reps.none _ _))
     intro v7 w7 ho hb hg hnew
     have HS7 := Aside0.mk (HS6.out.fillRow 3 rfl rfl ho hb HB6.out.size)
     have HB7 := Aside0.mk (below_step HB6.out hb)
     clear ho hb hg hnew)
  | ((with_reducible refine gate_builtin (b := .append) (xs := #[.tmp 57, .tmp 58]) rfl ?_)
     at_builtin
     refine Kd.R_append_rows (Kd.int .i64) (w0 := w) w.heap.size rfl (.tmp 57) (.tmp 58) 22 3 (.int .i64 0) 8 rfl Try.underlying22 info3 rfl (by decide) (by omega) v5 [] l1 A1 l1.length c1 (fun _ => True) (fun _ => False) rfl rfl (Kd.R_mono (HS5.out.get 2 rfl) (fun _ _ => trivial)) (Kd.C_below HR1.out HB5.out) (fun _ _ h => h) (fun _ h => h.elim) (fun _ _ => trivial) HB5.out HB5.out.size (by simp; omega) ?_
     intro v6 w6 ho hb hg hat
     rw [List.nil_append] at ho
     obtain ⟨Av, cv, rfl⟩ := Kd.R_slice ho
     have HS6 : Aside0 (Sep w.heap.size [none_, none_, ints w.heap.size (.slice Av l1.length cv) l1, none_, trie w.heap.size own2 g2 1 3 2 500 1 (fun _ => []) (fun _ => -1) 0 0, trie w.heap.size own g 1 3 2 500 1 (fun _ => []) (fun _ => -1) 0 0] w6) := ⟨HS5.out.app 2 rfl rfl ho hg hat HB5.out.size⟩
     have HB6 := Aside0.mk hb
     clear ho hb hg hat)
  | ((with_reducible refine gate_dst (N := 57) rfl ?_)
     refine Kd.R_lit (Kd.int .i64) (w0 := w4) w4.heap.size 3 rfl (N := 57) rfl (xs := ([] : List Int)) (inner := []) (ok := fun _ => True) (okp := fun _ => True) ?hr ?hp (fun _ hk => hk) trivial (Below.refl _ _) (Nat.le_refl _) (by simp) ?_
     (case hr => first | (go_simp; done) | (go_simp; rfl))
     (case hp => exact (Reps.none _ _))
     intro v5 w5 ho hb hg hnew
     have HS5 := Aside0.mk (HS4.out.fillRow 2 rfl rfl ho hb HB4.out.size)
     have HB5 := Aside0.mk (below_step HB4.out hb)
     clear ho hb hg hnew)
  | (go_at_call 13; with_reducible refine (tutorlaw11_num.calls 0 0 w3 rfl).mono ?_
     rintro e w4 ⟨rfl, hd⟩
     have HS4 := Aside0.mk (HS3.out.low hd.below)
     have HB4 := Aside0.mk (below_step HB3.out hd.below)
     clear hd)
  | (go_at_call 13; with_reducible refine (tutorlaw11_num.calls 0 0 w2 rfl).mono ?_
     rintro e w3 ⟨rfl, hd⟩
     have HS3 := Aside0.mk (HS2.out.low hd.below)
     have HB3 := Aside0.mk (below_step HB2.out hd.below)
     clear hd)
  | (go_at_call 12; with_reducible refine (hnw w1).mono ?_
     rintro e w2 ⟨g2, own2, rfl, hS, hb⟩
     have HS2 : Aside0 (Sep w.heap.size [none_, none_, none_, none_, trie w.heap.size own2 g2 1 3 2 500 1 (fun _ => []) (fun _ => -1) 0 0, trie w.heap.size own g 1 3 2 500 1 (fun _ => []) (fun _ => -1) 0 0] w2) := ⟨((((New_add HS1.out HB1.out.size hS hb).free none_ trivial (fun _ hk => hk.elim)).free none_ trivial (fun _ hk => hk.elim)).free none_ trivial (fun _ hk => hk.elim)).free none_ trivial (fun _ hk => hk.elim)⟩
     have HB2 := Aside0.mk (below_step HB1.out hb)
     clear hS hb)
  | (go_at_call 12; with_reducible refine (hnw w).mono ?_
     rintro e w1 ⟨g, own, rfl, hS, hb⟩
     have HS1 := Aside0.mk hS
     have HB1 := Aside0.mk hb
     clear hS hb))
  clear HS1 HS2 HS3 HS4 HS5 HS6 HS7 HS8 HS9 HB1 HB2 HB3 HB4 HB5 HB6 HB7 HB8 HB9
  go_loopw [15] (fun v15 wr => ∃ (i : Nat) (zs : List Int), v15 = .int .i64 (i : Int) ∧ Aside0 (i ≤ l1.length) ∧ Aside0 (zs.length = l1.length) ∧ Aside0 (Sep w.heap.size [none_, none_, ints w.heap.size (.slice Av l1.length cv) zs, ints w.heap.size (.slice Ao l2.length co) l2, trie w.heap.size own2 g2 1 3 2 500 1 (fun _ => []) (fun _ => -1) 0 0, trie w.heap.size own3 g 1 3 2 500 1 (fun _ => []) (fun _ => -1) 0 0] wr) ∧ Aside0 (Below w.heap.size w wr)) (fun v15 _ => l1.length - (intOf v15).toNat)
  case atStart => exact ⟨0, l1, rfl, ⟨by omega⟩, ⟨rfl⟩, HS10, HB10⟩
  case round =>
    clear HS10 HB10
    obtain ⟨i, zs, rfl, HI, HZzs, HS, HB⟩ := hrel
    by_cases hi : i < l1.length
    · have HIN := Aside0.mk hi
      have hi' : (i : Int) < (l1.length : Int) := by omega
      have hzl : i < zs.length := by rw [HZzs.out]; exact hi
      obtain ⟨gv, cv', hv⟩ := ints_some (HS.out.get 2 rfl) (fun e => by rw [e] at hzl; simp at hzl)
      injection hv with hv1 hv2 hv3
      subst hv1
      obtain ⟨ad, ea, hcell⟩ := Kd.at_int (row_C (HS.out.get 2 rfl)).1 (i : Int) (by omega) hi'
      injection ea with ea
      subst ea
      rw [Int.toNat_natCast, Addr.add_mid, Nat.zero_add] at hcell
      have hfz := row_frozen (HS.out.get 2 rfl) i
      clear hi hzl hv2 hv3
      go_wp2
      go_roundw
      case rel => exact ⟨i + 1, zs.set i 9, by go_num, ⟨by have := HIN.out; omega⟩, ⟨by rw [List.length_set]; exact HZzs.out⟩, ⟨Sep.putInt HS.out 2 rfl i 9 HB.out.size⟩, ⟨HB.out.setCell (HS.out.bound 2 rfl (k := gv) rfl).1 _⟩⟩
      case measure => have := HIN.out; simp [intOf]; omega
    · have hi' : ¬ ((i : Int) < (l1.length : Int)) := by omega
      clear hi
      go_wp2
      go_loopw [16] (fun v16 wr => ∃ (i : Nat) (ys : List Int), v16 = .int .i64 (i : Int) ∧ Aside0 (i ≤ l2.length) ∧ Aside0 (ys.length = l2.length) ∧ Aside0 (Sep w.heap.size [none_, none_, ints w.heap.size (.slice Av l1.length cv) zs, ints w.heap.size (.slice Ao l2.length co) ys, trie w.heap.size own2 g2 1 3 2 500 1 (fun _ => []) (fun _ => -1) 0 0, trie w.heap.size own3 g 1 3 2 500 1 (fun _ => []) (fun _ => -1) 0 0] wr) ∧ Aside0 (Below w.heap.size w wr)) (fun v16 _ => l2.length - (intOf v16).toNat)
      case atStart => exact ⟨0, l2, rfl, ⟨by omega⟩, ⟨rfl⟩, HS, HB⟩
      case round =>
        clear HS HB
        obtain ⟨i, ys, rfl, HI, HZys, HS, HB⟩ := hrel
        by_cases hi : i < l2.length
        · have HIN := Aside0.mk hi
          have hi' : (i : Int) < (l2.length : Int) := by omega
          have hzl : i < ys.length := by rw [HZys.out]; exact hi
          obtain ⟨gv, cv', hv⟩ := ints_some (HS.out.get 3 rfl) (fun e => by rw [e] at hzl; simp at hzl)
          injection hv with hv1 hv2 hv3
          subst hv1
          obtain ⟨ad, ea, hcell⟩ := Kd.at_int (row_C (HS.out.get 3 rfl)).1 (i : Int) (by omega) hi'
          injection ea with ea
          subst ea
          rw [Int.toNat_natCast, Addr.add_mid, Nat.zero_add] at hcell
          have hfz := row_frozen (HS.out.get 3 rfl) i
          clear hi hzl hv2 hv3
          go_wp2
          go_roundw
          case rel => exact ⟨i + 1, ys.set i 9, by go_num, ⟨by have := HIN.out; omega⟩, ⟨by rw [List.length_set]; exact HZys.out⟩, ⟨Sep.putInt HS.out 3 rfl i 9 HB.out.size⟩, ⟨HB.out.setCell (HS.out.bound 3 rfl (k := gv) rfl).1 _⟩⟩
          case measure => have := HIN.out; simp [intOf]; omega
        · have hi' : ¬ ((i : Int) < (l2.length : Int)) := by omega
          clear hi
          go_wp2_with (first
          | (go_at_call 11; refine (live_walk wr).mono ?_
             rintro e w99 ⟨rfl, hb⟩
             have HB99 := Aside0.mk (below_step HB.out hb)
             clear hb))
          go_ret
          exact ⟨rfl, HB99.out⟩
theorem tutorlaw11_CacheOwn.calls (a0 : Bool) (A1 : Option Addr) (c1 : Nat) (l1 : List Int) (A2 : Option Addr) (c2 : Nat) (l2 : List Int) (r : Bool) (w : World) (hr1 : Kd.C (Kd.int .i64) w A1 l1.length l1) (hc1 : l1.length ≤ c1) (hr2 : Kd.C (Kd.int .i64) w A2 l2.length l2) (hc2 : l2.length ≤ c2) (h : r = true) : Calls Try.prog 5 #[.bool a0, .slice A1 l1.length c1, .slice A2 l2.length c2] w fun e w' => e = .returned (.bool r) ∧ Below w.heap.size w w' := by
  subst h
  by_cases h1 : (l1.length : Int) > 200
  · exact Own_a a0 A1 c1 l1 A2 c2 l2 w h1
  by_cases h3 : (l2.length : Int) > 300
  · exact Own_b a0 A1 c1 l1 A2 c2 l2 w h1 h3
  cases a0 with
  | true =>
    by_cases he : putErr 2 3 2 500 1 (fun _ => -1) l1 l2 [0] = 0
    · exact Own_2ok A1 c1 l1 A2 c2 l2 w hr1 hc1 hr2 hc2 (by omega) (by omega) he
    · exact Own_2no A1 c1 l1 A2 c2 l2 w hr1 hc1 hr2 hc2 (by omega) (by omega) _ rfl he
  | false =>
    by_cases he : putErr 1 3 2 500 1 (fun _ => -1) l1 l2 [0] = 0
    · exact Own_1ok A1 c1 l1 A2 c2 l2 w hr1 hc1 hr2 hc2 (by omega) (by omega) he
    · exact Own_1no A1 c1 l1 A2 c2 l2 w hr1 hc1 hr2 hc2 (by omega) (by omega) _ rfl he
end Go.Proofs.Ytdijkhamebkfjaa.X
end
