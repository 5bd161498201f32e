/- Texts of the statement CachePlays, one behind the other: Go functions as Lean functions, the machine's calls, the plain law. -/
import Derived.Test.YtdijkhamebkfjaaMCachePlays4
import Derived.Test.YtdijkhamebkfjaaMCachePlays6
import Derived.Test.YtdijkhamebkfjaaMCachePlays8
import Derived.Deep.WholeRow
set_option linter.unusedVariables false
set_option linter.unusedSimpArgs false
section
namespace Go.Proofs.Ytdijkhamebkfjaa.X
open Go.RowKit Go.Proofs.YtdijkhamebkfjaaW.PrintWords Go.Proofs.YtdijkhamebkfjaaW.PrintLast Go.Proofs.YtdijkhamebkfjaaW.PrintMore
open Go.Proofs.Ytdijkhamebkfjaa Go.Proofs.Ytdijkhamebkfjaa.Sp
def upd {α : Type} (f : Nat → α) (i : Nat) (v : α) : Nat → α := fun j => if j = i then v else f j
theorem upd_at {α : Type} (f : Nat → α) (i : Nat) (v : α) : upd f i v i = v := by simp [upd]
theorem upd_ne {α : Type} (f : Nat → α) {i j : Nat} (v : α) (h : j ≠ i) : upd f i v j = f j := by simp [upd, h]
def lst (n : Nat) (f : Nat → Nat) : List Int := (List.range n).map fun i => (f i : Int)
theorem lst_len (n : Nat) (f : Nat → Nat) : (lst n f).length = n := by simp [lst]
theorem rd_lst {n : Nat} (f : Nat → Nat) {i : Nat} (h : i < n) : rd (lst n f) (i : Int) = (f i : Int) := by
  simp [rd, lst, List.getD_eq_getElem?_getD, List.getElem?_map, List.getElem?_range h]
theorem lst_get {n : Nat} (f : Nat → Nat) {i : Nat} (h : i < n) : (lst n f)[i]? = some (f i : Int) := by
  simp [lst, List.getElem?_map, List.getElem?_range h]
theorem lst_set {n : Nat} (f : Nat → Nat) {i : Nat} (_h : i < n) (v : Nat) : (lst n f).set i (v : Int) = lst n (upd f i v) := by
  apply List.ext_getElem?
  intro j
  by_cases hj : j < n
  · rw [lst_get _ hj, List.getElem?_set, lst_len, lst_get _ hj]
    by_cases e : i = j
    · subst e; simp [upd_at, hj]
    · rw [if_neg e, upd_ne _ _ (fun h => e h.symm)]
  · rw [List.getElem?_eq_none (by simpa [lst_len] using hj), List.getElem?_eq_none (by simpa [lst_len] using hj)]
def numsA (xs : List Int) : Array Value := (xs.map (Value.int .i64)).toArray
theorem nums_cell {w : World} {g : Nat} {xs : List Int} (h : w.heap[g]? = some (.cells (numsA xs) 3 (0, 0))) (j : Nat) (hj : j < xs.length) : w.cell? ⟨g, j, none⟩ = some (.int .i64 (rd xs j)) := by
  rw [blk_cell h]
  simp [numsA, rd, List.getD_eq_getElem?_getD, List.getElem?_eq_getElem hj]
theorem lst_cell {w : World} {g n : Nat} {C : Nat → Nat} (h : w.heap[g]? = some (.cells (numsA (lst n C)) 3 (0, 0))) {j : Nat} (hj : j < n) : w.cell? ⟨g, j, none⟩ = some (.int .i64 (C j : Int)) := by
  rw [nums_cell h j (by rw [lst_len]; exact hj), rd_lst C hj]
theorem lstA_set {n : Nat} (C : Nat → Nat) {i : Nat} (h : i < n) (v : Nat) : (numsA (lst n C)).setIfInBounds i (.int .i64 (v : Int)) = numsA (lst n (upd C i v)) := by
  rw [← lst_set C h v]
  simp [numsA, List.map_set]
theorem made_cells (z : Value) (n : Nat) : madeCells #[z] n = (List.replicate n z).toArray := by
  apply Array.ext'
  simp only [madeCells]
  apply List.ext_getElem
  · simp
  · intro i h1 h2
    simp [Nat.mod_one]
theorem made_nums (n : Nat) : madeCells #[Value.int .i64 0] n = numsA (lst n fun _ => 0) := by
  rw [made_cells]
  simp [numsA, lst, List.map_const']
theorem nums_C {w : World} {g : Nat} {xs : List Int} (h : w.heap[g]? = some (.cells (numsA xs) 3 (0, 0))) (hm : xs.length ≤ 9223372036854775807) : Kd.C (Kd.int .i64) w (some ⟨g, 0, none⟩) xs.length xs :=
  Kd.C_of_reads (d := (0 : Int)) ⟨rfl, hm, fun _ => ⟨_, rfl, fun j hj => by
    have := nums_cell h j hj
    rw [Addr.add_mid, Nat.zero_add]
    simpa [rd] using this⟩⟩
theorem Sep.step {base : Nat} {rs : List Res} {w w1 : World} (h : Sep base rs w) (hk : ∀ r ∈ rs, ∀ k, r.own k → k < w.heap.size → w1.heap[k]? = w.heap[k]?) : Sep base rs w1 :=
  ⟨fun r hr => ⟨r.step (h.1 r hr).1 (hk r hr), fun k hrk => by
    have h1 := (h.1 r hr).2 k hrk
    have h2 := hk r hr k hrk h1.2
    rw [Array.getElem?_eq_getElem h1.2] at h2
    exact ⟨h1.1, (Array.getElem?_eq_some_iff.1 h2).1⟩⟩, h.2⟩
theorem w64s {a : Nat} (h : a ≤ 1000000000) : wrap64 ((a : Int) + 1) = ((a + 1 : Nat) : Int) := by
  unfold wrap64
  omega
def tl (T : List Nat) : List Int := T.map fun (c : Nat) => (c : Int)
theorem tl_len (T : List Nat) : (tl T).length = T.length := by simp [tl]
theorem rd_tl {T : List Nat} {j : Nat} (h : j < T.length) : rd (tl T) (j : Int) = (T[j] : Int) := by
  simp [rd, tl, List.getD_eq_getElem?_getD, List.getElem?_eq_getElem h]
theorem tl_snoc (T : List Nat) (c : Nat) : tl (T ++ [c]) = tl T ++ [(c : Int)] := by simp [tl]
theorem rd_nat {xs : List Int} {i : Nat} (h : i < xs.length) : rd xs (i : Int) = xs[i] := by simp [rd, List.getD_eq_getElem?_getD, List.getElem?_eq_getElem h]
theorem same_l0 (a b : List Int) (hl : a.length = b.length) (hb : a.length ≤ 1000000000) : ∀ (d k i : Nat), i + d = a.length → d < k → tutorref01_Same.l0 k a b (i : Int) = some (decide (a.drop i = b.drop i)) := by
  intro d
  induction d with
  | zero =>
    intro k i h hk
    obtain ⟨k, rfl⟩ : ∃ m, k = m + 1 := ⟨k - 1, by omega⟩
    simp only [tutorref01_Same.l0]
    rw [if_neg (by omega), List.drop_of_length_le (by omega), List.drop_of_length_le (by omega)]
    rfl
  | succ d ih =>
    intro k i h hk
    obtain ⟨k, rfl⟩ : ∃ m, k = m + 1 := ⟨k - 1, by omega⟩
    simp only [tutorref01_Same.l0]
    have hda : a.drop i = a[i]'(by omega) :: a.drop (i + 1) := List.drop_eq_getElem_cons (by omega)
    have hdb : b.drop i = b[i]'(by omega) :: b.drop (i + 1) := List.drop_eq_getElem_cons (by omega)
    rw [if_pos (by omega), if_pos (by omega), if_pos (by omega), rd_nat (by omega), rd_nat (by omega), hda, hdb]
    by_cases he : a[i]'(by omega) = b[i]'(by omega)
    · rw [if_pos he, w64s (by omega), ih k (i + 1) (by omega) (by omega), he]
      congr 1
      exact decide_eq_decide.2 ⟨fun h => by rw [h], fun h => (List.cons.inj h).2⟩
    · rw [if_neg he]
      congr 1
      exact (decide_eq_false (fun h => he (List.cons.inj h).1)).symm
theorem same_f {a b : List Int} {k : Nat} (hb : a.length ≤ 1000000000) (hk : a.length < k) : tutorref01_Same.f k a b = some (decide (a = b)) := by
  unfold tutorref01_Same.f
  by_cases hl : a.length = b.length
  · rw [if_pos (by omega)]
    have := same_l0 a b hl hb a.length k 0 (by omega) hk
    simpa using this
  · rw [if_neg (by omega)]
    have : a ≠ b := fun h => hl (by rw [h])
    simp [this]
theorem same_calls (A0 : Option Addr) (n c0 : Nat) (a : List Int) (A1 : Option Addr) (m c1 : Nat) (b : List Int) (w : World) (h0 : Kd.C (Kd.int .i64) w A0 n a) (hc0 : n ≤ c0) (h1 : Kd.C (Kd.int .i64) w A1 m b) (hc1 : m ≤ c1) (hl : n ≤ 1000000000) :
    Calls Try.prog 17 #[.slice A0 n c0, .slice A1 m c1] w fun e w' => e = .returned (.bool (decide (a = b))) ∧ Drawn0 w w' := by
  have e0 := Kd.C_len h0
  have e1 := Kd.C_len h1
  subst e0
  subst e1
  exact tutorref01_Same.calls (a.length + 1) A0 c0 a A1 c1 b _ w h0 hc0 h1 hc1 (same_f hl (by omega))
theorem row_C {w : World} {base : Nat} {ok : Nat → Prop} {A : Option Addr} {n c : Nat} {xs : List Int} (h : Kd.R (Kd.int .i64) 3 w base ok (.slice A n c) xs) : Kd.C (Kd.int .i64) w A n xs ∧ n ≤ c := by
  obtain ⟨h1, h2, h3⟩ := Kd.R_reads' h
  exact ⟨h1 ▸ h3, h2⟩
theorem lit_C {w : World} {g n : Nat} {xs : List Int} {cs : Array Value} (h : w.heap[g]? = some (.cells cs 3 (0, 0))) (e : cs = numsA xs) (hn : n = xs.length) (hm : n ≤ 1000000000) : Kd.C (Kd.int .i64) w (some ⟨g, 0, none⟩) n xs := by
  subst e
  subst hn
  exact nums_C h (by omega)
theorem ints_some {w : World} {base : Nat} {ok : Nat → Prop} {v : Value} {xs : List Int} (h : Kd.R (Kd.int .i64) 3 w base ok v xs) (hn : xs ≠ []) : ∃ g c, v = .slice (some ⟨g, 0, none⟩) xs.length c := by
  rcases (Kd.own_of_R h).2 with ⟨rfl, h0⟩ | ⟨g, cap, cur, rfl, _⟩
  · exact absurd (List.eq_nil_of_length_eq_zero h0) hn
  · exact ⟨g, cap, rfl⟩
theorem tl_at {w : World} {base : Nat} {ok : Nat → Prop} {g n c : Nat} {T : List Nat} (h : Kd.R (Kd.int .i64) 3 w base ok (.slice (some ⟨g, 0, none⟩) n c) (tl T)) {j : Nat} (hj : j < T.length) : w.cell? ⟨g, j, none⟩ = some (.int .i64 (T[j] : Int)) := by
  have hn := Kd.C_len (Kd.R_reads' h).2.2
  have hl := (Kd.R_reads' h).1
  have h2 := Kd.R_celln (0 : Int) h (j : Int) (by omega) (by rw [hl, tl_len]; omega)
  obtain ⟨h3, _⟩ := h2
  rw [Int.toNat_natCast] at h3
  exact h3.trans (by rw [show rdOf (0 : Int) (tl T) (j : Int) = (T[j] : Int) from rd_tl hj])
end Go.Proofs.Ytdijkhamebkfjaa.X
end

section
namespace Go.Proofs.Ytdijkhamebkfjaa.X
open Go.RowKit Go.Proofs.YtdijkhamebkfjaaW.PrintWords Go.Proofs.YtdijkhamebkfjaaW.PrintLast Go.Proofs.YtdijkhamebkfjaaW.PrintMore
open Go.Proofs.Ytdijkhamebkfjaa Go.Proofs.Ytdijkhamebkfjaa.Sp
structure Tri (n K : Nat) (B : Nat → List Int) (U Y : Nat → Nat) (D : Nat → Nat → Nat) : Prop where
  pos : 0 < n
  root : B 0 = []
  inj : ∀ i j, i < n → j < n → B i = B j → i = j
  up : ∀ i, 0 < i → i < n → U i < i ∧ Y i < K ∧ B i = B (U i) ++ [(Y i : Int)]
  dn : ∀ i x, i < n → x < K → D i x < n ∧ (D i x ≠ 0 → B (D i x) = B i ++ [(x : Int)])
  all : ∀ i j x, i < n → j < n → x < K → B j = B i ++ [(x : Int)] → D i x = j
theorem snoc_inj {a b : List Int} {x y : Int} (h : a ++ [x] = b ++ [y]) : a = b ∧ x = y := by
  obtain ⟨h1, h2⟩ := List.append_inj' h rfl
  exact ⟨h1, by injection h2⟩
theorem Tri.start (K : Nat) : Tri 1 K (fun _ => []) (fun _ => 0) (fun _ => 0) (fun _ _ => 0) where
  pos := Nat.one_pos
  root := rfl
  inj := fun i j hi hj _ => by omega
  up := fun i h0 h1 => by omega
  dn := fun i x _ _ => ⟨Nat.one_pos, fun h => absurd rfl h⟩
  all := fun i j x _ _ _ h => by simp at h
theorem Tri.congr {n K : Nat} {B B' : Nat → List Int} {U Y : Nat → Nat} {D : Nat → Nat → Nat} (h : Tri n K B U Y D) (hb : ∀ i, i < n → B' i = B i) : Tri n K B' U Y D where
  pos := h.pos
  root := (hb 0 h.pos).trans h.root
  inj := fun i j hi hj e => h.inj i j hi hj (by rw [← hb i hi, ← hb j hj, e])
  up := fun i h0 hi => by
    obtain ⟨h1, h2, h3⟩ := h.up i h0 hi
    exact ⟨h1, h2, by rw [hb i hi, hb _ (by omega), h3]⟩
  dn := fun i x hi hx => by
    obtain ⟨h1, h2⟩ := h.dn i x hi hx
    exact ⟨h1, fun hd => by rw [hb _ h1, hb i hi, h2 hd]⟩
  all := fun i j x hi hj hx e => h.all i j x hi hj hx (by rw [← hb i hi, ← hb j hj, e])
theorem Tri.more {m K : Nat} {B : Nat → List Int} {U Y : Nat → Nat} {D : Nat → Nat → Nat} (h : Tri m K B U Y D) {last x : Nat} (hl : last < m) (hx : x < K) (hB : B m = B last ++ [(x : Int)]) (hf : ∀ i, i < m → B i ≠ B m) :
    Tri (m + 1) K B (upd U m last) (upd Y m x) (upd (upd D last (upd (D last) x m)) m (fun _ => 0)) where
  pos := Nat.succ_pos _
  root := h.root
  inj := fun i j hi hj e => by
    by_cases h1 : i = m
    · by_cases h2 : j = m
      · omega
      · subst h1; exact absurd e.symm (hf j (by omega))
    · by_cases h2 : j = m
      · subst h2; exact absurd e (hf i (by omega))
      · exact h.inj i j (by omega) (by omega) e
  up := fun i h0 hi => by
    by_cases h1 : i = m
    · subst h1
      rw [upd_at, upd_at]
      exact ⟨hl, hx, hB⟩
    · rw [upd_ne _ _ h1, upd_ne _ _ h1]
      exact h.up i h0 (by omega)
  dn := fun i y hi hy => by
    by_cases h1 : i = m
    · subst h1
      rw [upd_at]
      exact ⟨by omega, fun h => absurd rfl h⟩
    · rw [upd_ne _ _ h1]
      by_cases h2 : i = last
      · subst h2
        rw [upd_at]
        by_cases h3 : y = x
        · subst h3
          rw [upd_at]
          exact ⟨by omega, fun _ => hB⟩
        · rw [upd_ne _ _ h3]
          obtain ⟨g1, g2⟩ := h.dn i y hl hy
          exact ⟨by omega, g2⟩
      · rw [upd_ne _ _ h2]
        obtain ⟨g1, g2⟩ := h.dn i y (by omega) hy
        exact ⟨by omega, g2⟩
  all := fun i j y hi hj hy e => by
    by_cases h1 : i = m
    · exfalso
      subst h1
      by_cases h2 : j = i
      · subst h2
        have := congrArg List.length e
        simp at this
      · have hj0 : 0 < j := by
          refine Nat.pos_of_ne_zero fun h0 => ?_
          rw [h0, h.root] at e
          simp at e
        obtain ⟨g1, _, g3⟩ := h.up j hj0 (by omega)
        rw [g3] at e
        exact hf _ (by omega) (snoc_inj e).1
    · rw [upd_ne _ _ h1]
      by_cases h2 : j = m
      · subst h2
        rw [hB] at e
        obtain ⟨e1, e2⟩ := snoc_inj e
        have hil := h.inj last i hl (by omega) e1
        have hxy : x = y := by omega
        subst hil
        subst hxy
        rw [upd_at, upd_at]
      · have hd := h.all i j y (by omega) (by omega) hy e
        by_cases h3 : i = last
        · subst h3
          rw [upd_at]
          by_cases h4 : y = x
          · subst h4
            rw [← hB] at e
            exact absurd e (hf j (by omega))
          · rw [upd_ne _ _ h4]
            exact hd
        · rw [upd_ne _ _ h3]
          exact hd
structure At (n : Nat) (B : Nat → List Int) (w : List Int) (at_ : List Nat) : Prop where
  ne : 0 < at_.length
  ok : ∀ j a : Nat, at_[j]? = some a → a < n ∧ B a = w.take j
  le : at_.length ≤ w.length + 1
def Stop (n : Nat) (B : Nat → List Int) (w : List Int) (at_ : List Nat) : Prop := at_.length ≤ w.length → ∀ i, i < n → B i ≠ w.take at_.length
theorem At.start {n K : Nat} {B : Nat → List Int} {U Y : Nat → Nat} {D : Nat → Nat → Nat} (h : Tri n K B U Y D) (w : List Int) : At n B w [0] where
  ne := Nat.one_pos
  ok := fun j a hj => by
    cases j with
    | zero =>
      simp only [List.getElem?_cons_zero, Option.some.injEq] at hj
      subst hj
      exact ⟨h.pos, h.root⟩
    | succ j => simp at hj
  le := by simp
theorem At.last {n : Nat} {B : Nat → List Int} {w : List Int} {at_ : List Nat} (h : At n B w at_) : ∃ a, at_[at_.length - 1]? = some a ∧ a < n ∧ B a = w.take (at_.length - 1) := by
  have h1 : at_.length - 1 < at_.length := by have := h.ne; omega
  exact ⟨_, List.getElem?_eq_getElem h1, h.ok _ _ (List.getElem?_eq_getElem h1)⟩
theorem take_at {w : List Int} {l : Nat} {x : Int} (hl : 0 < l) (h : w[l - 1]? = some x) : w.take l = w.take (l - 1) ++ [x] := by
  obtain ⟨m, rfl⟩ : ∃ m, l = m + 1 := ⟨l - 1, by omega⟩
  rw [Nat.add_sub_cancel] at h ⊢
  obtain ⟨h1, h2⟩ := List.getElem?_eq_some_iff.1 h
  rw [List.take_succ_eq_append_getElem h1, h2]
theorem At.stop_bad {n K : Nat} {B : Nat → List Int} {U Y : Nat → Nat} {D : Nat → Nat → Nat} (ht : Tri n K B U Y D) {w : List Int} {at_ : List Nat} (h : At n B w at_) (hl : at_.length ≤ w.length) (hx : w[at_.length - 1]'(by have := h.ne; omega) < 0 ∨ w[at_.length - 1]'(by have := h.ne; omega) ≥ (K : Int)) : Stop n B w at_ := fun _ i hi e => by
  have hne := h.ne
  rw [take_at hne (List.getElem?_eq_getElem (show at_.length - 1 < w.length by omega))] at e
  have hi0 : 0 < i := by
    refine Nat.pos_of_ne_zero fun h0 => ?_
    rw [h0, ht.root] at e
    exact absurd (congrArg List.length e) (by rw [List.length_append, List.length_nil, List.length_singleton]; omega)
  obtain ⟨_, g2, g3⟩ := ht.up i hi0 hi
  rw [g3] at e
  have := (snoc_inj e).2
  omega
theorem At.stop_none {n K : Nat} {B : Nat → List Int} {U Y : Nat → Nat} {D : Nat → Nat → Nat} (ht : Tri n K B U Y D) {w : List Int} {at_ : List Nat} (h : At n B w at_) (hl : at_.length ≤ w.length) {x a : Nat} (hx : w[at_.length - 1]? = some (x : Int)) (hxK : x < K) (ha : at_[at_.length - 1]? = some a) (hd : D a x = 0) : Stop n B w at_ := fun _ i hi e => by
  have hne := h.ne
  obtain ⟨ga, gb⟩ := h.ok _ _ ha
  rw [take_at hne hx, ← gb] at e
  have := ht.all a i x ga hi hxK e
  rw [hd] at this
  rw [← this, ht.root] at e
  simp at e
theorem At.step {n K : Nat} {B : Nat → List Int} {U Y : Nat → Nat} {D : Nat → Nat → Nat} (ht : Tri n K B U Y D) {w : List Int} {at_ : List Nat} (h : At n B w at_) (hl : at_.length ≤ w.length) {x a : Nat} (hx : w[at_.length - 1]? = some (x : Int)) (hxK : x < K) (ha : at_[at_.length - 1]? = some a) (hd : D a x ≠ 0) : At n B w (at_ ++ [D a x]) where
  ne := by simp
  ok := fun j b hj => by
    have hne := h.ne
    by_cases hjl : j < at_.length
    · rw [List.getElem?_append_left hjl] at hj
      exact h.ok j b hj
    · have hje : j = at_.length := by
        have := (List.getElem?_eq_some_iff.1 hj).1
        simp at this
        omega
      subst hje
      rw [List.getElem?_append_right (Nat.le_refl _), Nat.sub_self] at hj
      simp only [List.getElem?_cons_zero, Option.some.injEq] at hj
      subst hj
      obtain ⟨ga, gb⟩ := h.ok _ _ ha
      obtain ⟨g1, g2⟩ := ht.dn a x ga hxK
      exact ⟨g1, by rw [g2 hd, gb, take_at hne hx]⟩
  le := by simp; omega
theorem At.all_stop {n : Nat} {B : Nat → List Int} {w : List Int} {at_ : List Nat} (hl : ¬ at_.length ≤ w.length) : Stop n B w at_ := fun h => absurd h hl
/-- The whole way is there just if the word is. -/
theorem At.whole {n K : Nat} {B : Nat → List Int} {U Y : Nat → Nat} {D : Nat → Nat → Nat} (ht : Tri n K B U Y D) {w : List Int} {at_ : List Nat} (h : At n B w at_) (hs : Stop n B w at_) : at_.length = w.length + 1 ↔ ∃ i, i < n ∧ B i = w := by
  constructor
  · intro e
    obtain ⟨a, _, g1, g2⟩ := h.last
    exact ⟨a, g1, by rw [g2, e, Nat.add_sub_cancel, List.take_length]⟩
  · rintro ⟨i, hi, e⟩
    refine Classical.byContradiction fun hne => ?_
    have hle : at_.length ≤ w.length := by have := h.le; omega
    -- the word's beginnings are all there
    have key : ∀ d l, l + d = w.length → ∃ i, i < n ∧ B i = w.take l := by
      intro d
      induction d with
      | zero => intro l hl; exact ⟨i, hi, by rw [e, List.take_of_length_le (by omega)]⟩
      | succ d ih =>
        intro l hl
        obtain ⟨j, hj, ej⟩ := ih (l + 1) (by omega)
        have hj0 : 0 < j := by
          refine Nat.pos_of_ne_zero fun h0 => ?_
          rw [h0, ht.root] at ej
          have := congrArg List.length ej
          simp at this
          omega
        obtain ⟨g1, _, g3⟩ := ht.up j hj0 hj
        rw [List.take_succ_eq_append_getElem (by omega), g3] at ej
        exact ⟨U j, by omega, (snoc_inj ej).1⟩
    obtain ⟨j, hj, ej⟩ := key (w.length - at_.length) at_.length (by omega)
    exact hs hle j hj ej
theorem Tri.fresh {n K : Nat} {B : Nat → List Int} {U Y : Nat → Nat} {D : Nat → Nat → Nat} (ht : Tri n K B U Y D) {w : List Int} {a : Nat} (hs : a ≤ w.length → ∀ i, i < n → B i ≠ w.take a) : ∀ k, a + k ≤ w.length → ∀ i, i < n → B i ≠ w.take (a + k)
  | 0, h => hs h
  | k + 1, h => fun i hi e => by
    have hi0 : 0 < i := by
      refine Nat.pos_of_ne_zero fun h0 => ?_
      rw [h0, ht.root] at e
      have := congrArg List.length e
      simp at this
      omega
    obtain ⟨g1, _, g3⟩ := ht.up i hi0 hi
    rw [← Nat.add_assoc, List.take_succ_eq_append_getElem (by omega), g3] at e
    exact Tri.fresh ht hs k (by omega) (U i) (by omega) (snoc_inj e).1
/-- The way is one. -/
theorem At.one {n K : Nat} {B : Nat → List Int} {U Y : Nat → Nat} {D : Nat → Nat → Nat} (ht : Tri n K B U Y D) {w : List Int} {a b : List Nat} (ha : At n B w a) (sa : Stop n B w a) (hb : At n B w b) (sb : Stop n B w b) : a = b := by
  have get : ∀ j x y, a[j]? = some x → b[j]? = some y → x = y := fun j x y hx hy => by
    obtain ⟨g1, g2⟩ := ha.ok j x hx
    obtain ⟨g3, g4⟩ := hb.ok j y hy
    exact ht.inj x y g1 g3 (by rw [g2, g4])
  have len : a.length = b.length := by
    have h1 := ha.le
    have h2 := hb.le
    rcases Nat.lt_trichotomy a.length b.length with h | h | h
    · obtain ⟨g1, g2⟩ := hb.ok a.length _ (List.getElem?_eq_getElem h)
      exact absurd g2 (sa (by omega) _ g1)
    · exact h
    · obtain ⟨g1, g2⟩ := ha.ok b.length _ (List.getElem?_eq_getElem h)
      exact absurd g2 (sb (by omega) _ g1)
  apply List.ext_getElem len
  intro j h1 h2
  exact get j _ _ (List.getElem?_eq_getElem h1) (List.getElem?_eq_getElem h2)
/-- What is told of a word: the row, and whether something is. -/
def tellF (kd : Int) (V : Nat → Int) (w : List Int) (at_ : List Nat) : List Int × Bool :=
  if at_.length = w.length + 1 then (if kd = 1 then (if V (at_.getD w.length 0) < 0 then ([], false) else ([V (at_.getD w.length 0)], true)) else ((at_.drop 1).map V, true)) else ([], false)
def clashF (kd : Int) (V : Nat → Int) (w out : List Int) (at_ : List Nat) : Bool :=
  if kd = 1 then decide (at_.length = w.length + 1 ∧ V (at_.getD (at_.length - 1) 0) ≥ 0 ∧ V (at_.getD (at_.length - 1) 0) ≠ rd out 0) else decide ((at_.drop 1).map V ≠ out.take (at_.length - 1))
/-- The nodes behind a Put. -/
def putN (n : Nat) (w : List Int) (at_ : List Nat) : Nat := n + (w.length + 1 - at_.length)
def putB (n : Nat) (B : Nat → List Int) (w : List Int) (at_ : List Nat) : Nat → List Int := fun i => if i < n then B i else w.take (at_.length + (i - n))
def putV0 (kd : Int) (n : Nat) (V : Nat → Int) (out : List Int) (at_ : List Nat) : Nat → Int := fun i => if i < n then V i else if kd = 2 then rd out ((at_.length - 1 + (i - n) : Nat) : Int) else -1
def lastN (n : Nat) (w : List Int) (at_ : List Nat) : Nat := if at_.length = w.length + 1 then at_.getD (at_.length - 1) 0 else putN n w at_ - 1
def putV (kd : Int) (n : Nat) (V : Nat → Int) (w out : List Int) (at_ : List Nat) : Nat → Int := if kd = 1 then upd (putV0 kd n V out at_) (lastN n w at_) (rd out 0) else putV0 kd n V out at_
end Go.Proofs.Ytdijkhamebkfjaa.X
end

section
namespace Go.Proofs.Ytdijkhamebkfjaa.X
open Go.RowKit Go.Proofs.YtdijkhamebkfjaaW.PrintWords Go.Proofs.YtdijkhamebkfjaaW.PrintLast Go.Proofs.YtdijkhamebkfjaaW.PrintMore
open Go.Proofs.Ytdijkhamebkfjaa Go.Proofs.Ytdijkhamebkfjaa.Sp
/-- A node's cells: up, by, out, down (a row of its own). -/
def nodeC (K : Nat) (p : Int × Int × Int × Nat) : List Value := [.int .i64 p.1, .int .i64 p.2.1, .int .i64 p.2.2.1, .slice (some ⟨p.2.2.2, 0, none⟩) K K]
def knode (K : Nat) : Kd (Int × Int × Int × Nat) where
  sz := 4
  E := []
  K := fun _ s cs => cs = nodeC K s
  M := fun _ _ _ s cs => cs = nodeC K s
  K_len := fun h => by rw [h]; rfl
  K_one := fun h v hv => by
    rw [h] at hv
    simp only [nodeC, List.mem_cons, List.not_mem_nil, or_false] at hv
    rcases hv with rfl | rfl | rfl | rfl <;> rfl
  K_below := fun _ h => h
  K_of_M := fun h => h
  M_mono := fun _ h => h
  M_bound := fun h => h
  M_move := fun _ h => h
  M_lower := fun _ h => h
abbrev nodes (K base : Nat) (v : Value) (xs : List (Int × Int × Int × Nat)) : Res := Sp.row (knode K) 69 base v xs
theorem node_cells {K : Nat} {w : World} {base : Nat} {ok : Nat → Prop} {g n c : Nat} {row : List (Int × Int × Int × Nat)} (h : Kd.R (knode K) 69 w base ok (.slice (some ⟨g, 0, none⟩) n c) row) (i : Nat) (p : Int × Int × Int × Nat) (hp : row[i]? = some p) :
    (∀ j, j < 4 → w.cell? ⟨g, i * 4 + j, none⟩ = (nodeC K p)[j]?) ∧ ∀ j, w.frozen? ⟨g, j, none⟩ = false := by
  obtain ⟨_, inner, ho, hr⟩ := h
  have hi := (List.getElem?_eq_some_iff.1 hp).1
  rcases ho.2 with ⟨h1, h0⟩ | ⟨g', cap, cur, h1, hb, hc, hle, hcap, hsz, htk⟩
  · cases h1
  · injection h1 with h2 h3 h4
    injection h2 with h2
    injection h2 with h2 _ _
    subst h2
    have hw := hr.2 i p hp
    change List.take 4 (List.drop (i * 4) inner) = nodeC K p at hw
    change List.take (row.length * 4) cur.toList = inner at htk
    refine ⟨fun j hj => ?_, fun j => blk_frozen hc _⟩
    rw [cell_of_row w g _ cur 69 (0, 0) hc, ← hw, List.getElem?_take, if_pos hj, List.getElem?_drop, ← htk, List.getElem?_take, if_pos (by omega)]
    simp
/-- What a node says is written. -/
theorem node_put {K : Nat} {w : World} {base : Nat} {ok : Nat → Prop} {g n c : Nat} {row : List (Int × Int × Int × Nat)} (h : Kd.R (knode K) 69 w base ok (.slice (some ⟨g, 0, none⟩) n c) row) (i : Nat) (p : Int × Int × Int × Nat) (hp : row[i]? = some p) (a : Int) :
    Kd.R (knode K) 69 (w.setCell ⟨g, i * 4 + 2, none⟩ (.int .i64 a)) base ok (.slice (some ⟨g, 0, none⟩) n c) (row.set i (p.1, p.2.1, a, p.2.2.2)) := by
  have hi := (List.getElem?_eq_some_iff.1 hp).1
  have hn : n = row.length := (Kd.R_reads' h).1
  subst hn
  obtain ⟨h0, inner, ho, hr⟩ := h
  refine ⟨h0, inner.set (i * 4 + 2) (.int .i64 a), ?_, ?_, fun j q hq => ?_⟩
  · rw [List.length_set]
    exact (World.ownsRow.stored ho (i * 4 + 2) (.int .i64 a)).1
  · rw [List.length_set, List.length_set]
    exact hr.1
  · change List.take 4 (List.drop (j * 4) (inner.set (i * 4 + 2) (.int .i64 a))) = nodeC K q
    rw [List.getElem?_set] at hq
    by_cases e : i = j
    · subst e
      rw [if_pos rfl, if_pos hi] at hq
      obtain rfl := Option.some.inj hq
      have hw := hr.2 i p hp
      change List.take 4 (List.drop (i * 4) inner) = nodeC K p at hw
      have hil : inner.length = row.length * 4 := hr.1
      apply List.ext_getElem?
      intro k
      have hk := congrArg (fun l => l[k]?) hw
      simp only [List.getElem?_take, List.getElem?_drop] at hk ⊢
      rw [List.getElem?_set]
      match k with
      | 0 => rw [if_pos (by omega), if_neg (by omega)]; simpa [nodeC] using hk
      | 1 => rw [if_pos (by omega), if_neg (by omega)]; simpa [nodeC] using hk
      | 2 => simp [nodeC, show i * 4 + 2 < inner.length by omega]
      | 3 => rw [if_pos (by omega), if_neg (by omega)]; simpa [nodeC] using hk
      | k + 4 =>
        rw [if_neg (by omega)]
        simp [nodeC]
    · rw [if_neg e] at hq
      have hw := hr.2 j q hq
      change List.take 4 (List.drop (j * 4) inner) = nodeC K q at hw
      rw [← hw]
      apply List.ext_getElem?
      intro k
      simp only [List.getElem?_take, List.getElem?_drop]
      by_cases hk : k < 4
      · rw [if_pos hk, if_pos hk, List.getElem?_set_ne (by omega)]
      · rw [if_neg hk, if_neg hk]
structure Hold (base : Nat) (own : Nat → Prop) (w0 : World) (rs : List Res) (w : World) : Prop where
  sep : Sep base rs w
  mine : ∀ r ∈ rs, ∀ k, r.own k → own k ∨ w0.heap.size ≤ k
  kept : ∀ k, k < w0.heap.size → ¬ own k → w.heap[k]? = w0.heap[k]?
  below : Below base w0 w
  hb : base ≤ w0.heap.size
section
variable {base : Nat} {own : Nat → Prop} {w0 w w1 : World} {rs : List Res}
theorem Hold.start {rs : List Res} (h : Sep base rs w0) (hm : ∀ r ∈ rs, ∀ k, r.own k → own k) (hb : base ≤ w0.heap.size) : Hold base own w0 rs w0 :=
  ⟨h, fun r hr k hk => .inl (hm r hr k hk), fun _ _ _ => rfl, Below.refl _ _, hb⟩
theorem Hold.size (h : Hold base own w0 rs w) : w0.heap.size ≤ w.heap.size := by
  exact h.below.size
theorem Hold.get (h : Hold base own w0 rs w) (i : Nat) {r : Res} (hi : rs[i]? = some r) : r.at_ w := h.sep.get i hi
theorem Hold.bsize (h : Hold base own w0 rs w) : base ≤ w.heap.size := Nat.le_trans h.hb h.size
theorem Hold.upd (h : Hold base own w0 rs w) (i : Nat) {r r' : Res} (hi : rs[i]? = some r) (hat : r'.at_ w1) (hk : ∀ k, ¬ r.own k → k < w.heap.size → w1.heap[k]? = w.heap[k]?) (ho : ∀ k, r'.own k → (r.own k ∨ w.heap.size ≤ k) ∧ k < w1.heap.size) (hs : w.heap.size ≤ w1.heap.size) (hbel : Below base w0 w1) : Hold base own w0 (rs.set i r') w1 := by
  have hri := h.mine r (List.mem_of_getElem? hi)
  refine ⟨h.sep.upd i hi hat hk ho h.bsize hs, fun q hq k hqk => ?_, fun k hk0 hno => ?_, hbel, h.hb⟩
  · rcases List.mem_or_eq_of_mem_set hq with h1 | rfl
    · exact h.mine q h1 k hqk
    · rcases (ho k hqk).1 with h2 | h2
      · exact hri k h2
      · exact .inr (Nat.le_trans h.size h2)
  · rw [hk k (fun hrk => by
      rcases hri k hrk with h1 | h1
      · exact hno h1
      · omega) (Nat.lt_of_lt_of_le hk0 h.size)]
    exact h.kept k hk0 hno
theorem Hold.low (h : Hold base own w0 rs w) (hb : Below w.heap.size w w1) : Hold base own w0 rs w1 :=
  ⟨h.sep.low hb, h.mine, fun k hk hno => (hb.block k (Nat.lt_of_lt_of_le hk h.size)).trans (h.kept k hk hno), below_then h.below h.bsize hb, h.hb⟩
theorem Hold.free (h : Hold base own w0 rs w) : Hold base own w0 (none_ :: rs) w :=
  ⟨h.sep.free none_ trivial (fun _ hk => hk.elim), fun r hr k hk => by
    rcases List.mem_cons.1 hr with rfl | hr
    · exact hk.elim
    · exact h.mine r hr k hk, h.kept, h.below, h.hb⟩
/-- A store into a block. -/
theorem Hold.cell {g : Nat} {cs cs' : Array Value} {t : TypeId} (h : Hold base own w0 rs w) (i : Nat) (hi : rs[i]? = some (blk g cs t)) (j : Nat) (u : Value) (e : cs.setIfInBounds j u = cs') : Hold base own w0 (rs.set i (blk g cs' t)) (w.setCell ⟨g, j, none⟩ u) :=
  h.upd i hi (blk_put (h.get i hi) j u e) (fun k hk _ => Below.heap_setCell w ⟨g, j, none⟩ u k hk) (fun k hk => ⟨.inl hk, by rw [show k = g from hk]; simpa using blk_lt (h.get i hi)⟩) (by simp) (h.below.setCell (h.sep.bound i hi (show g = g from rfl)).1 _)
/-- A store into a row of numbers. -/
theorem Hold.put {g n cap : Nat} {xs : List Int} (h : Hold base own w0 rs w) (i : Nat) (hi : rs[i]? = some (ints base (.slice (some ⟨g, 0, none⟩) n cap) xs)) (j : Nat) (x : Int) :
    Hold base own w0 (rs.set i (ints base (.slice (some ⟨g, 0, none⟩) n cap) (xs.set j x))) (w.setCell ⟨g, j, none⟩ (.int .i64 x)) := by
  obtain ⟨h2, h3⟩ := Kd.R_putg (h.get i hi) (j : Int) x
  rw [Int.toNat_natCast] at h2 h3
  have hg : base ≤ g := (h.sep.bound i hi (k := g) rfl).1
  refine h.upd i hi h2 (fun k hk hlt => h3.block k hlt (fun e => hk (show some k = some g from e))) (fun k hk => ⟨.inl hk, ?_⟩) h3.size (h.below.setCell hg _)
  exact Kd.R_lt h2 k (show _ = some k from hk.symm)
/-- An append to a row. -/
theorem Hold.app {α : Type} {d : Kd α} {e : Nat} {ok : Nat → Prop} {v v1 : Value} {xs xs1 : List α} (h : Hold base own w0 rs w) (i : Nat) (hi : rs[i]? = some (row d e base v xs)) (hE : d.E = []) (hr : d.R e w1 base ok v1 xs1) (hg : w.grownBy w1 v.ownBlock) (hat : v1.ownBlock = v.ownBlock ∨ ∃ b, v1.ownBlock = some b ∧ w.heap.size ≤ b) :
    Hold base own w0 (rs.set i (row d e base v1 xs1)) w1 := by
  refine h.upd i hi (Kd.R_tight hE hr) (fun k hk hlt => hg.block k hlt hk) (fun k hk => ?_) hg.size (pw_below_grown h.below _ h.bsize hg (fun k hk => (h.sep.bound i hi (k := k) hk.symm).1))
  have hk' : some k = v1.ownBlock := hk
  refine ⟨?_, Kd.R_lt hr k hk'.symm⟩
  rcases hat with h1 | ⟨b, h1, h2⟩
  · exact .inl (hk'.trans h1)
  · rw [h1] at hk'
    injection hk' with hk'
    exact .inr (by omega)
/-- A new piece in the place of nothing. -/
theorem Hold.fill (h : Hold base own w0 rs w) (i : Nat) (hi : rs[i]? = some none_) (r : Res) (hat : r.at_ w1) (hb : Below w.heap.size w w1) (ho : ∀ k, r.own k → w.heap.size ≤ k ∧ k < w1.heap.size) : Hold base own w0 (rs.set i r) w1 :=
  h.upd i hi hat (fun k _ hlt => hb.block k hlt) (fun k hk => ⟨.inr (ho k hk).1, (ho k hk).2⟩) hb.size (below_then h.below h.bsize hb)
theorem Hold.fillBlk (h : Hold base own w0 rs w) (i : Nat) (hi : rs[i]? = some none_) {g : Nat} {cs : Array Value} {t : TypeId} (hg : g = w.heap.size) (hbox : w1.heap[g]? = some (.cells cs t (0, 0))) (hb : Below w.heap.size w w1) : Hold base own w0 (rs.set i (blk g cs t)) w1 :=
  h.fill i hi _ hbox hb (fun k hk => by have hk : k = g := hk; have := blk_lt hbox; omega)
theorem Hold.fillRow {α : Type} {d : Kd α} {e : Nat} {ok : Nat → Prop} {v : Value} {xs : List α} (h : Hold base own w0 rs w) (i : Nat) (hi : rs[i]? = some none_) (hE : d.E = []) (hr : d.R e w1 w.heap.size ok v xs) (hb : Below w.heap.size w w1) : Hold base own w0 (rs.set i (row d e base v xs)) w1 :=
  h.fill i hi _ (Kd.R_tight hE (Kd.R_lower hr h.bsize)) hb (fun k hk => by
    have hk' : some k = v.ownBlock := hk
    have h2 := Kd.R_lt hr k hk'.symm
    rcases Kd.R_base2 hr with h3 | ⟨j, h3, h4⟩
    · rw [h3] at hk'; cases hk'
    · rw [h3] at hk'; injection hk' with h1; omega)
end
section
variable {base : Nat} {own : Nat → Prop} {w0 w w1 : World} {rs : List Res}
/-- What a node says is written. -/
theorem Hold.putNode {K g n cap : Nat} {xs : List (Int × Int × Int × Nat)} (h : Hold base own w0 rs w) (i : Nat) (hi : rs[i]? = some (nodes K base (.slice (some ⟨g, 0, none⟩) n cap) xs)) (j : Nat) (p : Int × Int × Int × Nat) (hp : xs[j]? = some p) (a : Int) :
    Hold base own w0 (rs.set i (nodes K base (.slice (some ⟨g, 0, none⟩) n cap) (xs.set j (p.1, p.2.1, a, p.2.2.2)))) (w.setCell ⟨g, j * 4 + 2, none⟩ (.int .i64 a)) := by
  have h2 := node_put (h.get i hi) j p hp a
  have hg : base ≤ g := (h.sep.bound i hi (k := g) rfl).1
  refine h.upd i hi h2 (fun k hk _ => Below.heap_setCell w ⟨g, j * 4 + 2, none⟩ _ k (fun e => hk (show some k = some g by rw [e]))) (fun k hk => ⟨.inl hk, ?_⟩) (by simp) (h.below.setCell hg _)
  exact Kd.R_lt h2 k (show _ = some k from hk.symm)
theorem Sep.perm {rs rs2 : List Res} (h : Sep base rs w) (hp : rs.Perm rs2) : Sep base rs2 w :=
  ⟨fun r hr => h.1 r (hp.mem_iff.2 hr), hp.pairwise h.2 (fun {a b} hab k hb ha => hab k ha hb)⟩
theorem Hold.perm {rs rs2 : List Res} (h : Hold base own w0 rs w) (hp : rs.Perm rs2) : Hold base own w0 rs2 w :=
  ⟨Sep.perm h.sep hp, fun r hr => h.mine r (hp.mem_iff.2 hr), h.kept, h.below, h.hb⟩
theorem Hold.sub {rs rs' : List Res} (h : Hold base own w0 rs w) (hs : rs'.Sublist rs) : Hold base own w0 rs' w := ⟨h.sep.sub hs, fun r hr => h.mine r (hs.subset hr), h.kept, h.below, h.hb⟩
/-- A new row in the place of nothing. -/
theorem Hold.fillNew {α : Type} {d : Kd α} {e : Nat} {ok : Nat → Prop} {v : Value} {xs : List α} (h : Hold base own w0 rs w) (i : Nat) (hi : rs[i]? = some none_) (hE : d.E = []) (hr : d.R e w1 base ok v xs) (hg : w.grownBy w1 none) (hn : ∃ b, v.ownBlock = some b ∧ w.heap.size ≤ b) : Hold base own w0 (rs.set i (row d e base v xs)) w1 :=
  h.fill i hi _ (Kd.R_tight hE hr) (pw_below_grown (Below.refl _ _) none (Nat.le_refl _) hg (fun k hk => by cases hk)) (fun k hk => by
    have hk' : some k = v.ownBlock := hk
    obtain ⟨b, hb, hb2⟩ := hn
    have h2 := Kd.R_lt hr k hk'.symm
    rw [hb] at hk'
    injection hk' with hk'
    omega)
end
def nlst (n : Nat) (U Y : Nat → Nat) (V : Nat → Int) (gd : Nat → Nat) : List (Int × Int × Int × Nat) := (List.range n).map fun i => ((U i : Int), (Y i : Int), V i, gd i)
theorem nlst_len (n : Nat) (U Y : Nat → Nat) (V : Nat → Int) (gd : Nat → Nat) : (nlst n U Y V gd).length = n := by simp [nlst]
theorem nlst_get {n : Nat} (U Y : Nat → Nat) (V : Nat → Int) (gd : Nat → Nat) {i : Nat} (h : i < n) : (nlst n U Y V gd)[i]? = some ((U i : Int), (Y i : Int), V i, gd i) := by
  simp [nlst, List.getElem?_map, List.getElem?_range h]
theorem nlst_congr {n : Nat} {U U' Y Y' : Nat → Nat} {V V' : Nat → Int} {gd gd' : Nat → Nat} (hu : ∀ i, i < n → U i = U' i) (hy : ∀ i, i < n → Y i = Y' i) (hv : ∀ i, i < n → V i = V' i) (hg : ∀ i, i < n → gd i = gd' i) : nlst n U Y V gd = nlst n U' Y' V' gd' := by
  unfold nlst
  apply List.map_congr_left
  intro i hi
  have := List.mem_range.1 hi
  rw [hu i this, hy i this, hv i this, hg i this]
theorem nlst_snoc (n : Nat) (U Y : Nat → Nat) (V : Nat → Int) (gd : Nat → Nat) (u y d : Nat) : nlst (n + 1) (upd U n u) (upd Y n y) V (upd gd n d) = nlst n U Y V gd ++ [((u : Int), (y : Int), V n, d)] := by
  unfold nlst
  rw [List.range_succ, List.map_append]
  congr 1
  · apply List.map_congr_left
    intro i hi
    have := List.mem_range.1 hi
    rw [upd_ne _ _ (by omega), upd_ne _ _ (by omega), upd_ne _ _ (by omega)]
  · simp [upd_at]
theorem nlst_set {n : Nat} (U Y : Nat → Nat) (V : Nat → Int) (gd : Nat → Nat) {i : Nat} (_h : i < n) (v : Int) : (nlst n U Y V gd).set i ((U i : Int), (Y i : Int), v, gd i) = nlst n U Y (upd V i v) gd := by
  apply List.ext_getElem?
  intro j
  by_cases hj : j < n
  · rw [nlst_get _ _ _ _ hj, List.getElem?_set, nlst_len, nlst_get _ _ _ _ hj]
    by_cases e : i = j
    · subst e; simp [upd_at, hj]
    · rw [if_neg e, upd_ne _ _ (fun h => e h.symm)]
  · rw [List.getElem?_eq_none (by simpa [nlst_len] using hj), List.getElem?_eq_none (by simpa [nlst_len] using hj)]
/-- The rows down. -/
def dns (n K : Nat) (D : Nat → Nat → Nat) (gd : Nat → Nat) : List Res := (List.range n).map fun i => blk (gd i) (numsA (lst K (D i))) 3
theorem dns_len (n K : Nat) (D : Nat → Nat → Nat) (gd : Nat → Nat) : (dns n K D gd).length = n := by simp [dns]
theorem dns_get {n K : Nat} (D : Nat → Nat → Nat) (gd : Nat → Nat) {i : Nat} (h : i < n) : (dns n K D gd)[i]? = some (blk (gd i) (numsA (lst K (D i))) 3) := by
  simp [dns, List.getElem?_map, List.getElem?_range h]
theorem dns_set {n K : Nat} (D : Nat → Nat → Nat) (gd : Nat → Nat) {i : Nat} (_h : i < n) (f : Nat → Nat) : (dns n K D gd).set i (blk (gd i) (numsA (lst K f)) 3) = dns n K (upd D i f) gd := by
  apply List.ext_getElem?
  intro j
  by_cases hj : j < n
  · rw [dns_get _ _ hj, List.getElem?_set, dns_len, dns_get _ _ hj]
    by_cases e : i = j
    · subst e; simp [upd_at, hj]
    · rw [if_neg e, upd_ne _ _ (fun h => e h.symm)]
  · rw [List.getElem?_eq_none (by simpa [dns_len] using hj), List.getElem?_eq_none (by simpa [dns_len] using hj)]
theorem dns_snoc (n K : Nat) (D : Nat → Nat → Nat) (gd : Nat → Nat) (f : Nat → Nat) (d : Nat) : dns (n + 1) K (upd D n f) (upd gd n d) = dns n K D gd ++ [blk d (numsA (lst K f)) 3] := by
  unfold dns
  rw [List.range_succ, List.map_append]
  congr 1
  · apply List.map_congr_left
    intro i hi
    have := List.mem_range.1 hi
    rw [upd_ne _ _ (by omega), upd_ne _ _ (by omega)]
  · simp [upd_at]
/-- The head of a cache: what the machine is like, the bound, the nodes, how often was told. -/
abbrev hdr (kd : Int) (K : Nat) (O : Int) (most gn n cn : Nat) (hits misses : Int) : Array Value := #[.int .i64 kd, .int .i64 (K : Int), .int .i64 O, .int .i64 0, .slice none 0 0, .slice none 0 0, .int .i64 (most : Int), .slice (some ⟨gn, 0, none⟩) n cn, .int .i64 hits, .int .i64 misses]
def tpc (base g : Nat) (kd : Int) (K : Nat) (O : Int) (most n : Nat) (U Y : Nat → Nat) (V : Nat → Int) (D : Nat → Nat → Nat) (gn cn : Nat) (gd : Nat → Nat) (hits misses : Int) : List Res :=
  blk g (hdr kd K O most gn n cn hits misses) 65 :: nodes K base (.slice (some ⟨gn, 0, none⟩) n cn) (nlst n U Y V gd) :: dns n K D gd
/-- A cache: what it is like, its words, what they say, how often was told. -/
def trie (base : Nat) (own : Nat → Prop) (g : Nat) (kd : Int) (K : Nat) (O : Int) (most n : Nat) (B : Nat → List Int) (V : Nat → Int) (hits misses : Int) : Res where
  own := own
  at_ := fun w => ∃ (U Y : Nat → Nat) (D : Nat → Nat → Nat) (gn cn : Nat) (gd : Nat → Nat), Tri n K B U Y D ∧ Sep base (tpc base g kd K O most n U Y V D gn cn gd hits misses) w ∧ ∀ r ∈ tpc base g kd K O most n U Y V D gn cn gd hits misses, ∀ k, r.own k → own k
  step := fun {w w1} h hk => by
    obtain ⟨U, Y, D, gn, cn, gd, h1, h2, h3⟩ := h
    exact ⟨U, Y, D, gn, cn, gd, h1, Sep.step h2 (fun r hr k hrk hlt => hk k (h3 r hr k hrk) hlt), h3⟩
/-- A piece that a call turned. -/
theorem Sep.turn1 {base : Nat} {own : Nat → Prop} {rs : List Res} {w w1 : World} {p p' : Res} (h : Sep base rs w) (i : Nat) (hi : rs[i]? = some p) (hp : ∀ k, p.own k → own k) (hp2 : ∀ k, own k → p.own k) (hh : Hold base own w [p'] w1) : Sep base (rs.set i p') w1 :=
  h.upd i hi (hh.get 0 rfl) (fun k hk hlt => hh.kept k hlt (fun ho => hk (hp2 k ho))) (fun k hk => ⟨(hh.mine p' (List.mem_singleton_self _) k hk).imp (hp2 k) (fun h => h), (hh.sep.bound 0 rfl hk).2⟩) hh.hb hh.size
end Go.Proofs.Ytdijkhamebkfjaa.X
end

section
namespace Go.Proofs.Ytdijkhamebkfjaa.X
open Go.RowKit Go.Proofs.YtdijkhamebkfjaaW.PrintWords Go.Proofs.YtdijkhamebkfjaaW.PrintLast Go.Proofs.YtdijkhamebkfjaaW.PrintMore
open Go.Proofs.Ytdijkhamebkfjaa Go.Proofs.Ytdijkhamebkfjaa.Sp
def nw.T10 : Bool × List (List Nat × List Nat) := (true, [([], []), ([], []), ([1], [1]), ([2], [2]), ([3], [3]), ([], []), ([], []), ([6, 6], [6]), ([5, 7], [5, 7]), ([8], [8]), ([4, 9], [4, 9]), ([0, 0, 1, 2, 3, 4, 5, 6, 7, 8, 9, 10], [0]), ([11, 0, 1, 2, 3, 4, 5, 6, 7, 8, 9, 10], [11]), ([12, 10, 10, 0, 1, 2, 3, 4, 5, 6, 7, 8, 9, 10], [10, 12])])
def nw.B10 : List Nat := [0, 0, 2, 6, 14, 0, 0, 64, 224, 480, 1022, 2047, 4095, 8191]
theorem nw.tab10 : rtab .any (opsOf Try.f12 10) = nw.T10 := by kernel_rfl
theorem nw.bits10 : waitsOk nw.T10.2 nw.B10 = true := by kernel_rfl
theorem info69 : (Try.prog.info? 69).map (fun i => (i.zero, i.size)) = some (some (.agg #[.int .i64 0, .int .i64 0, .int .i64 0, .slice none 0 0]), 4) := by kernel_rfl
theorem info69b (K : Nat) : (Try.prog.info? 69).map (fun i => (i.zero, i.size, i.bytes)) = some (some (.agg #[.int .i64 0, .int .i64 0, .int .i64 0, .slice none 0 0]), (knode K).sz, 48) := by
  show _ = some (some _, 4, 48)
  kernel_rfl
theorem run_one_node (K : Nat) (W : World) (p : Int × Int × Int × Nat) : (Instr.buildSlice 63 1 #[(0, .agg (nodeC K p).toArray)]).run Try.prog W = .ok (.slice (some ⟨W.heap.size, 0, none⟩) 1 1) (W.alloc (.cells (nodeC K p).toArray 69)) := by
  cases hi : Try.prog.info? 69 with
  | none => have := info69; rw [hi] at this; cases this
  | some ie =>
    have h88 := info69
    rw [hi] at h88
    simp only [Option.map_some, Option.some.injEq, Prod.mk.injEq] at h88
    refine run_buildSlice W 63 69 1 _ _ ie _ Try.underlying63 hi h88.1 (by rw [h88.2]; decide) (by rw [h88.2]; decide) ?_
    rw [h88.2]
    have h := Great.fill_whole (s := 4) (by decide) [.agg (nodeC K p).toArray] ((Array.range (1 * 4)).map ((Value.agg #[.int .i64 0, .int .i64 0, .int .i64 0, .slice none 0 0]).cells[· % (Value.agg #[.int .i64 0, .int .i64 0, .int .i64 0, .slice none 0 0]).cells.size]!)) (by
      intro v hv
      simp only [List.mem_singleton] at hv
      subst hv
      rfl) (by simp)
    simpa [Value.cells] using h
/-- What New says of its numbers. -/
def newErr (kd K O most : Int) : Int := if kd ≠ 1 ∧ kd ≠ 2 then 30 else if K < 1 ∨ K > 64 then 1 else if (kd = 1 ∧ O ≠ 2) ∨ O < 1 ∨ O > 64 then 33 else if most < 1 ∨ most > 1048576 then 3 else 0
attribute [local go_sem] max2_int min2_int max_two min_two max_three min_three max_four min_four
def NewErrPost (w : World) (x : Int) : Ending → World → Prop := fun e w' => e = .returned (.tuple #[.pointer none, .int .i64 x]) ∧ Below w.heap.size w w'
set_option maxHeartbeats 16000000 in
set_option maxRecDepth 100000 in
theorem New_bad1 (kd K O most : Int) (w : World) (h1 : kd ≠ 1) (h2 : kd ≠ 2) : Calls Try.prog 12 #[.int .i64 kd, .int .i64 K, .int .i64 O, .int .i64 most] w (NewErrPost w 30) := by
  have e1 : (kd != 1) = true := by simpa using h1
  have e2 : (kd != 2) = true := by simpa using h2
  clear h1 h2
  go_enter Try.func12, Try.ntmps12
  go_wp2
  try rw [Exit.noGoto_ret]
  go_ret2
  exact ⟨rfl, Below.refl _ _⟩
set_option maxHeartbeats 16000000 in
set_option maxRecDepth 100000 in
theorem New_bad2a (kd K O most : Int) (w : World) (hkd : kd = 1 ∨ kd = 2) (h : K < 1) : Calls Try.prog 12 #[.int .i64 kd, .int .i64 K, .int .i64 O, .int .i64 most] w (NewErrPost w 1) := by
  rcases hkd with rfl | rfl
  · skip
    go_enter Try.func12, Try.ntmps12
    go_wp2
    try rw [Exit.noGoto_ret]
    go_ret2
    exact ⟨rfl, Below.refl _ _⟩
  · skip
    go_enter Try.func12, Try.ntmps12
    go_wp2
    try rw [Exit.noGoto_ret]
    go_ret2
    exact ⟨rfl, Below.refl _ _⟩
set_option maxHeartbeats 16000000 in
set_option maxRecDepth 100000 in
theorem New_bad2b (kd K O most : Int) (w : World) (hkd : kd = 1 ∨ kd = 2) (h0 : ¬ K < 1) (h : K > 64) : Calls Try.prog 12 #[.int .i64 kd, .int .i64 K, .int .i64 O, .int .i64 most] w (NewErrPost w 1) := by
  rcases hkd with rfl | rfl
  · skip
    go_enter Try.func12, Try.ntmps12
    go_wp2
    try rw [Exit.noGoto_ret]
    go_ret2
    exact ⟨rfl, Below.refl _ _⟩
  · skip
    go_enter Try.func12, Try.ntmps12
    go_wp2
    try rw [Exit.noGoto_ret]
    go_ret2
    exact ⟨rfl, Below.refl _ _⟩
set_option maxHeartbeats 16000000 in
set_option maxRecDepth 100000 in
theorem New_bad3a (kd K O most : Int) (w : World) (hkd : kd = 1) (k0 : ¬ K < 1) (k1 : ¬ K > 64) (h : O ≠ 2) : Calls Try.prog 12 #[.int .i64 kd, .int .i64 K, .int .i64 O, .int .i64 most] w (NewErrPost w 33) := by
  subst hkd
  have e1 : (O != 2) = true := by simpa using h
  clear h
  go_enter Try.func12, Try.ntmps12
  go_wp2
  try rw [Exit.noGoto_ret]
  go_ret2
  exact ⟨rfl, Below.refl _ _⟩
set_option maxHeartbeats 16000000 in
set_option maxRecDepth 100000 in
theorem New_bad3b (kd K O most : Int) (w : World) (hkd : kd = 2) (k0 : ¬ K < 1) (k1 : ¬ K > 64) (h : O < 1) : Calls Try.prog 12 #[.int .i64 kd, .int .i64 K, .int .i64 O, .int .i64 most] w (NewErrPost w 33) := by
  subst hkd
  go_enter Try.func12, Try.ntmps12
  go_wp2
  try rw [Exit.noGoto_ret]
  go_ret2
  exact ⟨rfl, Below.refl _ _⟩
set_option maxHeartbeats 16000000 in
set_option maxRecDepth 100000 in
theorem New_bad3c (kd K O most : Int) (w : World) (hkd : kd = 2) (k0 : ¬ K < 1) (k1 : ¬ K > 64) (h0 : ¬ O < 1) (h : O > 64) : Calls Try.prog 12 #[.int .i64 kd, .int .i64 K, .int .i64 O, .int .i64 most] w (NewErrPost w 33) := by
  subst hkd
  go_enter Try.func12, Try.ntmps12
  go_wp2
  try rw [Exit.noGoto_ret]
  go_ret2
  exact ⟨rfl, Below.refl _ _⟩
set_option maxHeartbeats 16000000 in
set_option maxRecDepth 100000 in
theorem New_bad4a (kd K O most : Int) (w : World) (hkd : kd = 1 ∨ kd = 2) (k0 : ¬ K < 1) (k1 : ¬ K > 64) (ho : kd = 1 → O = 2) (o0 : ¬ O < 1) (o1 : ¬ O > 64) (h : most < 1) : Calls Try.prog 12 #[.int .i64 kd, .int .i64 K, .int .i64 O, .int .i64 most] w (NewErrPost w 3) := by
  rcases hkd with rfl | rfl
  · obtain rfl := ho rfl
    go_enter Try.func12, Try.ntmps12
    go_wp2
    try rw [Exit.noGoto_ret]
    go_ret2
    exact ⟨rfl, Below.refl _ _⟩
  · clear ho
    go_enter Try.func12, Try.ntmps12
    go_wp2
    try rw [Exit.noGoto_ret]
    go_ret2
    exact ⟨rfl, Below.refl _ _⟩
set_option maxHeartbeats 16000000 in
set_option maxRecDepth 100000 in
theorem New_bad4b (kd K O most : Int) (w : World) (hkd : kd = 1 ∨ kd = 2) (k0 : ¬ K < 1) (k1 : ¬ K > 64) (ho : kd = 1 → O = 2) (o0 : ¬ O < 1) (o1 : ¬ O > 64) (h0 : ¬ most < 1) (h : most > 1048576) : Calls Try.prog 12 #[.int .i64 kd, .int .i64 K, .int .i64 O, .int .i64 most] w (NewErrPost w 3) := by
  rcases hkd with rfl | rfl
  · obtain rfl := ho rfl
    go_enter Try.func12, Try.ntmps12
    go_wp2
    try rw [Exit.noGoto_ret]
    go_ret2
    exact ⟨rfl, Below.refl _ _⟩
  · clear ho
    go_enter Try.func12, Try.ntmps12
    go_wp2
    try rw [Exit.noGoto_ret]
    go_ret2
    exact ⟨rfl, Below.refl _ _⟩
theorem New_bad (kd K O most : Int) (w : World) (h : newErr kd K O most ≠ 0) : Calls Try.prog 12 #[.int .i64 kd, .int .i64 K, .int .i64 O, .int .i64 most] w (NewErrPost w (newErr kd K O most)) := by
  unfold newErr at h ⊢
  by_cases h1 : kd ≠ 1 ∧ kd ≠ 2
  · rw [if_pos h1]
    exact New_bad1 kd K O most w h1.1 h1.2
  · have hkd : kd = 1 ∨ kd = 2 := by omega
    rw [if_neg h1] at h ⊢
    by_cases h2 : K < 1 ∨ K > 64
    · rw [if_pos h2]
      by_cases h3 : K < 1
      · exact New_bad2a kd K O most w hkd h3
      · exact New_bad2b kd K O most w hkd h3 (by omega)
    · rw [if_neg h2] at h ⊢
      by_cases h3 : (kd = 1 ∧ O ≠ 2) ∨ O < 1 ∨ O > 64
      · rw [if_pos h3]
        by_cases h4 : kd = 1
        · exact New_bad3a kd K O most w h4 (by omega) (by omega) (by omega)
        · by_cases h5 : O < 1
          · exact New_bad3b kd K O most w (by omega) (by omega) (by omega) h5
          · exact New_bad3c kd K O most w (by omega) (by omega) (by omega) h5 (by omega)
      · rw [if_neg h3] at h ⊢
        by_cases h4 : most < 1 ∨ most > 1048576
        · rw [if_pos h4]
          by_cases h5 : most < 1
          · exact New_bad4a kd K O most w hkd (by omega) (by omega) (by omega) (by omega) (by omega) h5
          · exact New_bad4b kd K O most w hkd (by omega) (by omega) (by omega) (by omega) (by omega) h5 (by omega)
        · rw [if_neg h4] at h
          exact absurd rfl h
theorem made_nums' (n : Nat) : madeCells #[Value.int .i64 0] ((n : Int)).toNat = numsA (lst n fun _ => 0) := by rw [Int.toNat_natCast, made_nums]
def NewPost (w : World) (kd : Int) (K : Nat) (O : Int) (most : Nat) : Ending → World → Prop := fun e w' => ∃ (g : Nat) (own : Nat → Prop), e = .returned (.tuple #[.pointer (some ⟨g, 0, none⟩), .int .i64 0]) ∧ Sep w.heap.size [trie w.heap.size own g kd K O most 1 (fun _ => []) (fun _ => -1) 0 0] w' ∧ Below w.heap.size w w'
/-- Pieces as one. -/
theorem Sep.one {base : Nat} {rs : List Res} {w : World} (h : Sep base rs w) (own : Nat → Prop) (r : Res) (ho : r.own = own) (hown : ∀ k, own k → ∃ q ∈ rs, q.own k) (hat : r.at_ w) : Sep base [r] w :=
  ⟨fun q hq => by
    rw [List.mem_singleton] at hq
    subst hq
    refine ⟨hat, fun k hk => ?_⟩
    rw [ho] at hk
    obtain ⟨p, hp, hpk⟩ := hown k hk
    exact (h.1 p hp).2 k hpk, List.pairwise_singleton _ _⟩
set_option maxHeartbeats 16000000 in
set_option maxRecDepth 100000 in
theorem New_dfa (K most : Nat) (w : World) (hK0 : 1 ≤ K) (hK : K ≤ 64) (hm0 : 1 ≤ most) (hm : most ≤ 1048576)  : Calls Try.prog 12 #[.int .i64 1, .int .i64 (K : Int), .int .i64 2, .int .i64 (most : Int)] w (NewPost w 1 K 2 most) := by
  have hu65 := Try.underlying65
  have hu67 := Try.underlying67
  have hu69 := Try.underlying69
  have hu24 := Try.underlying24
  have hu63 := Try.underlying63
  have k0 : ¬ (K : Int) < 1 := by omega
  have k1 : ¬ (K : Int) > 64 := by omega
  have m0 : ¬ (most : Int) < 1 := by omega
  have m1 : ¬ (most : Int) > 1048576 := by omega
  have HS1 := Aside0.mk ((Sep.nil w.heap.size w).alloc #[.int .i64 1, .int .i64 (K : Int), .int .i64 2, .int .i64 0, .slice none 0 0, .slice none 0 0, .int .i64 (most : Int), .slice none 0 0, .int .i64 0, .int .i64 0] 65 (Nat.le_refl _))
  have HB1 := Aside0.mk (below_alloc (Below.refl w.heap.size w) (.cells #[.int .i64 1, .int .i64 (K : Int), .int .i64 2, .int .i64 0, .slice none 0 0, .slice none 0 0, .int .i64 (most : Int), .slice none 0 0, .int .i64 0, .int .i64 0] 65))
  go_enter Try.func12, Try.ntmps12
  go_wp2
  refine start_ (n := 14) (S := fun w' => w'.cell? ⟨w.heap.size, 7, none⟩ = some (.slice none 0 0)) (ds := [10, 13]) #[false, false, false, false, false, false, false, false, false, false, false, false, false, false] (by kernel_rfl) rfl rfl ((blk_cell ((HS1.out.low (below_drew1 (Below.refl _ _))).get 0 rfl) 7).trans rfl) (fun hHeld => ?_)
  refine with_tabW nw.tab10 nw.bits10 (fun HT_ HW_ => ?_)
  have HSD := Aside0.mk (HS1.out.low (below_drew1 (Below.refl _ _)))
  have HBD := Aside0.mk (below_drew1 HB1.out)
  clear HS1 HB1
  generalize (w.alloc _).drew = wd at HSD HBD hHeld ⊢
  refine pure_ (i := 0) (N := (some 54)) (v := ?_) (a' := ?_) #[true, false, false, false, false, false, false, false, false, false, false, false, false, false] rfl rfl (any_of HT_.out (by kernel_rfl)) (fun _ _ _ h => h) (Or.inl ⟨by rfl, ?_⟩) ?_ ?_
  rotate_left
  · intro w'
    go_simp
    with_reducible rfl
  rotate_left
  · simp only [Act.put, List.setIfInBounds_toArray, List.set_cons_zero, List.set_cons_succ, i64_w, i32_w]
    rfl
  refine pure_ (i := 1) (N := (some 55)) (v := ?_) (a' := ?_) #[true, true, false, false, false, false, false, false, false, false, false, false, false, false] rfl rfl (any_of HT_.out (by kernel_rfl)) (fun _ _ _ h => h) (Or.inl ⟨by rfl, ?_⟩) ?_ ?_
  rotate_left
  · intro w'
    go_simp
    with_reducible rfl
  rotate_left
  · simp only [Act.put, List.setIfInBounds_toArray, List.set_cons_zero, List.set_cons_succ, i64_w, i32_w]
    rfl
  refine pure_ (i := 2) (N := (some 56)) (v := ?_) (a' := ?_) #[true, true, true, false, false, false, false, false, false, false, false, false, false, false] rfl rfl (any_of HT_.out (by kernel_rfl)) (fun _ _ _ h => h) (Or.inl ⟨by rfl, ?_⟩) ?_ ?_
  rotate_left
  · intro w'
    go_simp
    with_reducible rfl
  rotate_left
  · simp only [Act.put, List.setIfInBounds_toArray, List.set_cons_zero, List.set_cons_succ, i64_w, i32_w]
    rfl
  refine pure_ (i := 3) (N := (some 57)) (v := ?_) (a' := ?_) #[true, true, true, true, false, false, false, false, false, false, false, false, false, false] rfl rfl (any_of HT_.out (by kernel_rfl)) (fun _ _ _ h => h) (Or.inl ⟨by rfl, ?_⟩) ?_ ?_
  rotate_left
  · intro w'
    go_simp
    with_reducible rfl
  rotate_left
  · simp only [Act.put, List.setIfInBounds_toArray, List.set_cons_zero, List.set_cons_succ, i64_w, i32_w]
    rfl
  refine pure_ (i := 5) (N := (some 59)) (v := ?_) (a' := ?_) #[true, true, true, true, false, true, false, false, false, false, false, false, false, false] rfl rfl (any_of HT_.out (by kernel_rfl)) (fun _ _ _ h => h) (Or.inl ⟨by rfl, ?_⟩) ?_ ?_
  rotate_left
  · intro w'
    go_simp
    with_reducible rfl
  rotate_left
  · simp only [Act.put, List.setIfInBounds_toArray, List.set_cons_zero, List.set_cons_succ, i64_w, i32_w]
    rfl
  refine pure_ (i := 6) (N := (some 60)) (v := ?_) (a' := ?_) #[true, true, true, true, false, true, true, false, false, false, false, false, false, false] rfl rfl (any_of HT_.out (by kernel_rfl)) (fun _ _ _ h => h) (Or.inl ⟨by rfl, ?_⟩) ?_ ?_
  rotate_left
  · intro w'
    go_simp
    with_reducible rfl
  rotate_left
  · simp only [Act.put, List.setIfInBounds_toArray, List.set_cons_zero, List.set_cons_succ, i64_w, i32_w]
    rfl
  refine take_ (i := 4) (N := (some 58)) (v := ?_) (a' := ?_) #[true, true, true, true, true, true, true, false, false, false, false, false, false, false] rfl rfl (take_ofW HT_.out HW_.out (by kernel_rfl)) (fun _ _ _ h => h) (Or.inl ⟨by rfl, ?_⟩) hHeld ?_ ?_
  rotate_left
  · rintro w' s0
    go_simp
    with_reducible rfl
  rotate_left
  · simp only [Act.put, List.setIfInBounds_toArray, List.set_cons_zero, List.set_cons_succ, i64_w, i32_w]
    rfl
  refine one_ (i := 7) (N := (some 61)) #[true, true, true, true, true, true, true, true, false, false, false, false, false, false] rfl rfl (one_of HT_.out (by kernel_rfl)) (by decide) (fun Kc hK => ?_)
  have hmk := print_make_int 22 3 (.int .i64 0) 8 Try.underlying22 info3 rfl (by decide) (K : Int) (by omega) (by omega) wd
  rw [made_nums', Int.toNat_natCast] at hmk
  refine value_ (w1 := ?_) (v := ?_) (by rfl) rfl ?_ ?_
  rotate_left 2
  · go_simp
    constructor
    · rfl
    · rfl
  clear hmk
  have HS2 := Aside0.mk (HSD.out.alloc (numsA (lst K fun _ => 0)) 3 HBD.out.size)
  have HB2 := Aside0.mk (below_alloc HBD.out (.cells (numsA (lst K fun _ => 0)) 3))
  refine hK.out _ _ ((blk_cell (HS2.out.get 1 rfl) 7).trans rfl) (fun hHeld => ?_); clear hK Kc
  clear HSD HBD
  obtain ⟨gd, hgd⟩ : ∃ gd, gd = wd.heap.size := ⟨_, rfl⟩
  rw [← hgd] at HS2 ⊢
  generalize wd.alloc (.cells (numsA (lst K fun _ => 0)) 3) = wa at HS2 HB2 hHeld ⊢
  clear hgd
  refine norm_ (a' := ?_) ?_ ?_
  rotate_left
  · show Act.put _ (some 61) _ = _
    simp only [Act.put, List.setIfInBounds_toArray, List.set_cons_zero, List.set_cons_succ, i64_w, i32_w]
    rfl
  refine pure_ (i := 8) (N := (some 62)) (v := ?_) (a' := ?_) #[true, true, true, true, true, true, true, true, true, false, false, false, false, false] rfl rfl (any_of HT_.out (by kernel_rfl)) (fun _ _ _ h => h) (Or.inl ⟨by rfl, ?_⟩) ?_ ?_
  rotate_left
  · intro w'
    go_simp
    with_reducible rfl
  rotate_left
  · simp only [Act.put, List.setIfInBounds_toArray, List.set_cons_zero, List.set_cons_succ, i64_w, i32_w]
    rfl
  refine one_ (i := 9) (N := (some 63)) #[true, true, true, true, true, true, true, true, true, true, false, false, false, false] rfl rfl (one_of HT_.out (by kernel_rfl)) (by decide) (fun Kc hK => ?_)
  have hrn := run_one_node K wa (0, 0, -1, gd)
  simp only [nodeC] at hrn
  refine value_ (w1 := ?_) (v := ?_) (by rfl) rfl ?_ ?_
  rotate_left 2
  · go_simp
    constructor
    · rfl
    · rfl
  clear hrn
  refine hK.out _ _ ((blk_cell ((HS2.out.low (below_alloc (Below.refl _ _) _)).get 1 rfl) 7).trans rfl) (fun hHeld => ?_); clear hK Kc
  refine norm_ (a' := ?_) ?_ ?_
  rotate_left
  · show Act.put _ (some 63) _ = _
    simp only [Act.put, List.setIfInBounds_toArray, List.set_cons_zero, List.set_cons_succ, i64_w, i32_w]
    rfl
  refine last_ (i := 10) (N := (some 64)) #[true, true, true, true, true, true, true, true, true, true, true, false, false, false] rfl rfl (one_of HT_.out (by kernel_rfl)) (by decide) (fun Kc hK => ?_)
  refine Kd.R_append_step (knode K) (w0 := w) w.heap.size (by rfl) (.tmp 58) (.tmp 63) 63 69 (.agg #[.int .i64 0, .int .i64 0, .int .i64 0, .slice none 0 0]) 48 rfl Try.underlying63 (info69b K) rfl (show 0 < 4 by decide) (by omega) (.slice none 0 0) [] ((0 : Int), (0 : Int), (-1 : Int), gd) (nodeC K (0, 0, -1, gd)) (fun _ => True) (fun _ => False) rfl rfl rfl (fun _ hk => hk.elim) (fun _ _ => trivial) (Kd.R_nil _ _ _ _ _) HB2.out HB2.out.size (by decide) ?_
  intro v1 w3 ho hb hg hat
  have HS3 := Aside0.mk ((HS2.out.free none_ trivial (fun _ hk => hk.elim)).fillNew 0 rfl rfl ho hg (by
    rcases hat with h1 | ⟨b, h1, h2⟩
    · obtain ⟨g1, c1, e1, _⟩ := Kd.R_form ho (by simp)
      rw [e1] at h1
      cases h1
    · exact ⟨b, h1, h2⟩) HB2.out.size)
  have HB3 := Aside0.mk hb
  obtain ⟨gn, cn, e1, _, _, _⟩ := Kd.R_form ho (by simp)
  subst e1
  clear ho hb hg hat hHeld HS2 HB2
  refine hK.out _ _ ?_; clear hK Kc
  refine norm_ (a' := ?_) ?_ ?_
  rotate_left
  · show Act.put _ (some 64) _ = _
    simp only [Act.put, List.setIfInBounds_toArray, List.set_cons_zero, List.set_cons_succ, i64_w, i32_w]
    rfl
  refine pure_ (i := 11) (N := (some 65)) (v := ?_) (a' := ?_) #[true, true, true, true, true, true, true, true, true, true, true, true, false, false] rfl rfl (any_of HT_.out (by kernel_rfl)) (fun _ _ _ h => h) (Or.inl ⟨by rfl, ?_⟩) ?_ ?_
  rotate_left
  · intro w'
    go_simp
    with_reducible rfl
  rotate_left
  · simp only [Act.put, List.setIfInBounds_toArray, List.set_cons_zero, List.set_cons_succ, i64_w, i32_w]
    rfl
  refine pure_ (i := 12) (N := (some 66)) (v := ?_) (a' := ?_) #[true, true, true, true, true, true, true, true, true, true, true, true, true, false] rfl rfl (any_of HT_.out (by kernel_rfl)) (fun _ _ _ h => h) (Or.inl ⟨by rfl, ?_⟩) ?_ ?_
  rotate_left
  · intro w'
    go_simp
    with_reducible rfl
  rotate_left
  · simp only [Act.put, List.setIfInBounds_toArray, List.set_cons_zero, List.set_cons_succ, i64_w, i32_w]
    rfl
  refine last_ (i := 13) (N := none) #[true, true, true, true, true, true, true, true, true, true, true, true, true, true] rfl rfl (one_of HT_.out (by kernel_rfl)) (by decide) (fun Kc hK => ?_)
  have hcl : w3.cell? ⟨w.heap.size, 7, none⟩ = some (.slice none 0 0) := (blk_cell (HS3.out.get 2 rfl) 7).trans rfl
  have hfz := blk_frozen (HS3.out.get 2 rfl) 7
  refine skip_ (w1 := ?_) (by rfl) rfl ?_ ?_
  rotate_left
  · go_simp
    rfl
  have HS4 := Aside0.mk (HS3.out.cell 2 rfl 7 (.slice (some ⟨gn, 0, none⟩) 1 cn) (cs' := hdr 1 K 2 most gn 1 cn 0 0) rfl HB3.out.size)
  have HB4 := Aside0.mk (HS3.out.belowSet 2 rfl (j := 7) (u := .slice (some ⟨gn, 0, none⟩) 1 cn) HB3.out)
  clear hcl hfz
  refine hK.out _ _ ?_; clear hK Kc
  generalize World.setCell w3 _ _ = w4 at HS4 HB4 ⊢
  clear HS3 HB3
  refine done_ (done_of HT_.out (by kernel_rfl)) ?_
  go_wp2
  try rw [Exit.noGoto_ret]
  go_ret2
  have hp : Sep w.heap.size (tpc w.heap.size w.heap.size 1 K 2 most 1 (fun _ => 0) (fun _ => 0) (fun _ => -1) (fun _ _ => 0) gn cn (fun _ => gd) 0 0) w4 := Sep.perm HS4.out (by
    show List.Perm [_, _, _] [_, _, _]
    exact List.Perm.trans (List.perm_append_comm (l₁ := [_, _]) (l₂ := [_])) (List.Perm.refl _))
  refine ⟨_, fun k => ∃ q ∈ tpc w.heap.size w.heap.size 1 K 2 most 1 (fun _ => 0) (fun _ => 0) (fun _ => -1) (fun _ _ => 0) gn cn (fun _ => gd) 0 0, q.own k, rfl, ?_, HB4.out⟩
  exact Sep.one hp _ (trie w.heap.size _ w.heap.size 1 K 2 most 1 (fun _ => []) (fun _ => -1) 0 0) rfl (fun k hk => hk) ⟨fun _ => 0, fun _ => 0, fun _ _ => 0, gn, cn, fun _ => gd, Tri.start K, hp, fun r hr k hk => ⟨r, hr, hk⟩⟩
set_option maxHeartbeats 16000000 in
set_option maxRecDepth 100000 in
theorem New_mealy (K most : Nat) (O : Int) (w : World) (hK0 : 1 ≤ K) (hK : K ≤ 64) (hm0 : 1 ≤ most) (hm : most ≤ 1048576) (o0 : ¬ O < 1) (o1 : ¬ O > 64) : Calls Try.prog 12 #[.int .i64 2, .int .i64 (K : Int), .int .i64 O, .int .i64 (most : Int)] w (NewPost w 2 K O most) := by
  have hu65 := Try.underlying65
  have hu67 := Try.underlying67
  have hu69 := Try.underlying69
  have hu24 := Try.underlying24
  have hu63 := Try.underlying63
  have k0 : ¬ (K : Int) < 1 := by omega
  have k1 : ¬ (K : Int) > 64 := by omega
  have m0 : ¬ (most : Int) < 1 := by omega
  have m1 : ¬ (most : Int) > 1048576 := by omega
  have HS1 := Aside0.mk ((Sep.nil w.heap.size w).alloc #[.int .i64 2, .int .i64 (K : Int), .int .i64 O, .int .i64 0, .slice none 0 0, .slice none 0 0, .int .i64 (most : Int), .slice none 0 0, .int .i64 0, .int .i64 0] 65 (Nat.le_refl _))
  have HB1 := Aside0.mk (below_alloc (Below.refl w.heap.size w) (.cells #[.int .i64 2, .int .i64 (K : Int), .int .i64 O, .int .i64 0, .slice none 0 0, .slice none 0 0, .int .i64 (most : Int), .slice none 0 0, .int .i64 0, .int .i64 0] 65))
  go_enter Try.func12, Try.ntmps12
  go_wp2
  refine start_ (n := 14) (S := fun w' => w'.cell? ⟨w.heap.size, 7, none⟩ = some (.slice none 0 0)) (ds := [10, 13]) #[false, false, false, false, false, false, false, false, false, false, false, false, false, false] (by kernel_rfl) rfl rfl ((blk_cell ((HS1.out.low (below_drew1 (Below.refl _ _))).get 0 rfl) 7).trans rfl) (fun hHeld => ?_)
  refine with_tabW nw.tab10 nw.bits10 (fun HT_ HW_ => ?_)
  have HSD := Aside0.mk (HS1.out.low (below_drew1 (Below.refl _ _)))
  have HBD := Aside0.mk (below_drew1 HB1.out)
  clear HS1 HB1
  generalize (w.alloc _).drew = wd at HSD HBD hHeld ⊢
  refine pure_ (i := 0) (N := (some 54)) (v := ?_) (a' := ?_) #[true, false, false, false, false, false, false, false, false, false, false, false, false, false] rfl rfl (any_of HT_.out (by kernel_rfl)) (fun _ _ _ h => h) (Or.inl ⟨by rfl, ?_⟩) ?_ ?_
  rotate_left
  · intro w'
    go_simp
    with_reducible rfl
  rotate_left
  · simp only [Act.put, List.setIfInBounds_toArray, List.set_cons_zero, List.set_cons_succ, i64_w, i32_w]
    rfl
  refine pure_ (i := 1) (N := (some 55)) (v := ?_) (a' := ?_) #[true, true, false, false, false, false, false, false, false, false, false, false, false, false] rfl rfl (any_of HT_.out (by kernel_rfl)) (fun _ _ _ h => h) (Or.inl ⟨by rfl, ?_⟩) ?_ ?_
  rotate_left
  · intro w'
    go_simp
    with_reducible rfl
  rotate_left
  · simp only [Act.put, List.setIfInBounds_toArray, List.set_cons_zero, List.set_cons_succ, i64_w, i32_w]
    rfl
  refine pure_ (i := 2) (N := (some 56)) (v := ?_) (a' := ?_) #[true, true, true, false, false, false, false, false, false, false, false, false, false, false] rfl rfl (any_of HT_.out (by kernel_rfl)) (fun _ _ _ h => h) (Or.inl ⟨by rfl, ?_⟩) ?_ ?_
  rotate_left
  · intro w'
    go_simp
    with_reducible rfl
  rotate_left
  · simp only [Act.put, List.setIfInBounds_toArray, List.set_cons_zero, List.set_cons_succ, i64_w, i32_w]
    rfl
  refine pure_ (i := 3) (N := (some 57)) (v := ?_) (a' := ?_) #[true, true, true, true, false, false, false, false, false, false, false, false, false, false] rfl rfl (any_of HT_.out (by kernel_rfl)) (fun _ _ _ h => h) (Or.inl ⟨by rfl, ?_⟩) ?_ ?_
  rotate_left
  · intro w'
    go_simp
    with_reducible rfl
  rotate_left
  · simp only [Act.put, List.setIfInBounds_toArray, List.set_cons_zero, List.set_cons_succ, i64_w, i32_w]
    rfl
  refine pure_ (i := 5) (N := (some 59)) (v := ?_) (a' := ?_) #[true, true, true, true, false, true, false, false, false, false, false, false, false, false] rfl rfl (any_of HT_.out (by kernel_rfl)) (fun _ _ _ h => h) (Or.inl ⟨by rfl, ?_⟩) ?_ ?_
  rotate_left
  · intro w'
    go_simp
    with_reducible rfl
  rotate_left
  · simp only [Act.put, List.setIfInBounds_toArray, List.set_cons_zero, List.set_cons_succ, i64_w, i32_w]
    rfl
  refine pure_ (i := 6) (N := (some 60)) (v := ?_) (a' := ?_) #[true, true, true, true, false, true, true, false, false, false, false, false, false, false] rfl rfl (any_of HT_.out (by kernel_rfl)) (fun _ _ _ h => h) (Or.inl ⟨by rfl, ?_⟩) ?_ ?_
  rotate_left
  · intro w'
    go_simp
    with_reducible rfl
  rotate_left
  · simp only [Act.put, List.setIfInBounds_toArray, List.set_cons_zero, List.set_cons_succ, i64_w, i32_w]
    rfl
  refine take_ (i := 4) (N := (some 58)) (v := ?_) (a' := ?_) #[true, true, true, true, true, true, true, false, false, false, false, false, false, false] rfl rfl (take_ofW HT_.out HW_.out (by kernel_rfl)) (fun _ _ _ h => h) (Or.inl ⟨by rfl, ?_⟩) hHeld ?_ ?_
  rotate_left
  · rintro w' s0
    go_simp
    with_reducible rfl
  rotate_left
  · simp only [Act.put, List.setIfInBounds_toArray, List.set_cons_zero, List.set_cons_succ, i64_w, i32_w]
    rfl
  refine one_ (i := 7) (N := (some 61)) #[true, true, true, true, true, true, true, true, false, false, false, false, false, false] rfl rfl (one_of HT_.out (by kernel_rfl)) (by decide) (fun Kc hK => ?_)
  have hmk := print_make_int 22 3 (.int .i64 0) 8 Try.underlying22 info3 rfl (by decide) (K : Int) (by omega) (by omega) wd
  rw [made_nums', Int.toNat_natCast] at hmk
  refine value_ (w1 := ?_) (v := ?_) (by rfl) rfl ?_ ?_
  rotate_left 2
  · go_simp
    constructor
    · rfl
    · rfl
  clear hmk
  have HS2 := Aside0.mk (HSD.out.alloc (numsA (lst K fun _ => 0)) 3 HBD.out.size)
  have HB2 := Aside0.mk (below_alloc HBD.out (.cells (numsA (lst K fun _ => 0)) 3))
  refine hK.out _ _ ((blk_cell (HS2.out.get 1 rfl) 7).trans rfl) (fun hHeld => ?_); clear hK Kc
  clear HSD HBD
  obtain ⟨gd, hgd⟩ : ∃ gd, gd = wd.heap.size := ⟨_, rfl⟩
  rw [← hgd] at HS2 ⊢
  generalize wd.alloc (.cells (numsA (lst K fun _ => 0)) 3) = wa at HS2 HB2 hHeld ⊢
  clear hgd
  refine norm_ (a' := ?_) ?_ ?_
  rotate_left
  · show Act.put _ (some 61) _ = _
    simp only [Act.put, List.setIfInBounds_toArray, List.set_cons_zero, List.set_cons_succ, i64_w, i32_w]
    rfl
  refine pure_ (i := 8) (N := (some 62)) (v := ?_) (a' := ?_) #[true, true, true, true, true, true, true, true, true, false, false, false, false, false] rfl rfl (any_of HT_.out (by kernel_rfl)) (fun _ _ _ h => h) (Or.inl ⟨by rfl, ?_⟩) ?_ ?_
  rotate_left
  · intro w'
    go_simp
    with_reducible rfl
  rotate_left
  · simp only [Act.put, List.setIfInBounds_toArray, List.set_cons_zero, List.set_cons_succ, i64_w, i32_w]
    rfl
  refine one_ (i := 9) (N := (some 63)) #[true, true, true, true, true, true, true, true, true, true, false, false, false, false] rfl rfl (one_of HT_.out (by kernel_rfl)) (by decide) (fun Kc hK => ?_)
  have hrn := run_one_node K wa (0, 0, -1, gd)
  simp only [nodeC] at hrn
  refine value_ (w1 := ?_) (v := ?_) (by rfl) rfl ?_ ?_
  rotate_left 2
  · go_simp
    constructor
    · rfl
    · rfl
  clear hrn
  refine hK.out _ _ ((blk_cell ((HS2.out.low (below_alloc (Below.refl _ _) _)).get 1 rfl) 7).trans rfl) (fun hHeld => ?_); clear hK Kc
  refine norm_ (a' := ?_) ?_ ?_
  rotate_left
  · show Act.put _ (some 63) _ = _
    simp only [Act.put, List.setIfInBounds_toArray, List.set_cons_zero, List.set_cons_succ, i64_w, i32_w]
    rfl
  refine last_ (i := 10) (N := (some 64)) #[true, true, true, true, true, true, true, true, true, true, true, false, false, false] rfl rfl (one_of HT_.out (by kernel_rfl)) (by decide) (fun Kc hK => ?_)
  refine Kd.R_append_step (knode K) (w0 := w) w.heap.size (by rfl) (.tmp 58) (.tmp 63) 63 69 (.agg #[.int .i64 0, .int .i64 0, .int .i64 0, .slice none 0 0]) 48 rfl Try.underlying63 (info69b K) rfl (show 0 < 4 by decide) (by omega) (.slice none 0 0) [] ((0 : Int), (0 : Int), (-1 : Int), gd) (nodeC K (0, 0, -1, gd)) (fun _ => True) (fun _ => False) rfl rfl rfl (fun _ hk => hk.elim) (fun _ _ => trivial) (Kd.R_nil _ _ _ _ _) HB2.out HB2.out.size (by decide) ?_
  intro v1 w3 ho hb hg hat
  have HS3 := Aside0.mk ((HS2.out.free none_ trivial (fun _ hk => hk.elim)).fillNew 0 rfl rfl ho hg (by
    rcases hat with h1 | ⟨b, h1, h2⟩
    · obtain ⟨g1, c1, e1, _⟩ := Kd.R_form ho (by simp)
      rw [e1] at h1
      cases h1
    · exact ⟨b, h1, h2⟩) HB2.out.size)
  have HB3 := Aside0.mk hb
  obtain ⟨gn, cn, e1, _, _, _⟩ := Kd.R_form ho (by simp)
  subst e1
  clear ho hb hg hat hHeld HS2 HB2
  refine hK.out _ _ ?_; clear hK Kc
  refine norm_ (a' := ?_) ?_ ?_
  rotate_left
  · show Act.put _ (some 64) _ = _
    simp only [Act.put, List.setIfInBounds_toArray, List.set_cons_zero, List.set_cons_succ, i64_w, i32_w]
    rfl
  refine pure_ (i := 11) (N := (some 65)) (v := ?_) (a' := ?_) #[true, true, true, true, true, true, true, true, true, true, true, true, false, false] rfl rfl (any_of HT_.out (by kernel_rfl)) (fun _ _ _ h => h) (Or.inl ⟨by rfl, ?_⟩) ?_ ?_
  rotate_left
  · intro w'
    go_simp
    with_reducible rfl
  rotate_left
  · simp only [Act.put, List.setIfInBounds_toArray, List.set_cons_zero, List.set_cons_succ, i64_w, i32_w]
    rfl
  refine pure_ (i := 12) (N := (some 66)) (v := ?_) (a' := ?_) #[true, true, true, true, true, true, true, true, true, true, true, true, true, false] rfl rfl (any_of HT_.out (by kernel_rfl)) (fun _ _ _ h => h) (Or.inl ⟨by rfl, ?_⟩) ?_ ?_
  rotate_left
  · intro w'
    go_simp
    with_reducible rfl
  rotate_left
  · simp only [Act.put, List.setIfInBounds_toArray, List.set_cons_zero, List.set_cons_succ, i64_w, i32_w]
    rfl
  refine last_ (i := 13) (N := none) #[true, true, true, true, true, true, true, true, true, true, true, true, true, true] rfl rfl (one_of HT_.out (by kernel_rfl)) (by decide) (fun Kc hK => ?_)
  have hcl : w3.cell? ⟨w.heap.size, 7, none⟩ = some (.slice none 0 0) := (blk_cell (HS3.out.get 2 rfl) 7).trans rfl
  have hfz := blk_frozen (HS3.out.get 2 rfl) 7
  refine skip_ (w1 := ?_) (by rfl) rfl ?_ ?_
  rotate_left
  · go_simp
    rfl
  have HS4 := Aside0.mk (HS3.out.cell 2 rfl 7 (.slice (some ⟨gn, 0, none⟩) 1 cn) (cs' := hdr 2 K O most gn 1 cn 0 0) rfl HB3.out.size)
  have HB4 := Aside0.mk (HS3.out.belowSet 2 rfl (j := 7) (u := .slice (some ⟨gn, 0, none⟩) 1 cn) HB3.out)
  clear hcl hfz
  refine hK.out _ _ ?_; clear hK Kc
  generalize World.setCell w3 _ _ = w4 at HS4 HB4 ⊢
  clear HS3 HB3
  refine done_ (done_of HT_.out (by kernel_rfl)) ?_
  go_wp2
  try rw [Exit.noGoto_ret]
  go_ret2
  have hp : Sep w.heap.size (tpc w.heap.size w.heap.size 2 K O most 1 (fun _ => 0) (fun _ => 0) (fun _ => -1) (fun _ _ => 0) gn cn (fun _ => gd) 0 0) w4 := Sep.perm HS4.out (by
    show List.Perm [_, _, _] [_, _, _]
    exact List.Perm.trans (List.perm_append_comm (l₁ := [_, _]) (l₂ := [_])) (List.Perm.refl _))
  refine ⟨_, fun k => ∃ q ∈ tpc w.heap.size w.heap.size 2 K O most 1 (fun _ => 0) (fun _ => 0) (fun _ => -1) (fun _ _ => 0) gn cn (fun _ => gd) 0 0, q.own k, rfl, ?_, HB4.out⟩
  exact Sep.one hp _ (trie w.heap.size _ w.heap.size 2 K O most 1 (fun _ => []) (fun _ => -1) 0 0) rfl (fun k hk => hk) ⟨fun _ => 0, fun _ => 0, fun _ _ => 0, gn, cn, fun _ => gd, Tri.start K, hp, fun r hr k hk => ⟨r, hr, hk⟩⟩
end Go.Proofs.Ytdijkhamebkfjaa.X
end

section
namespace Go.Proofs.Ytdijkhamebkfjaa.X
open Go.RowKit Go.Proofs.YtdijkhamebkfjaaW.PrintWords Go.Proofs.YtdijkhamebkfjaaW.PrintLast Go.Proofs.YtdijkhamebkfjaaW.PrintMore
open Go.Proofs.Ytdijkhamebkfjaa Go.Proofs.Ytdijkhamebkfjaa.Sp
theorem Res.low {r : Res} {w w1 : World} (h : r.at_ w) (hb : Below w.heap.size w w1) : r.at_ w1 := r.step h (fun k _ hlt => hb.block k hlt)
/-- What a cache reads. -/
structure Rd (g : Nat) (kd : Int) (K : Nat) (O : Int) (most n : Nat) (U Y : Nat → Nat) (V : Nat → Int) (D : Nat → Nat → Nat) (gn cn : Nat) (gd : Nat → Nat) (hits misses : Int) (w : World) : Prop where
  h : ∀ j, w.cell? ⟨g, j, none⟩ = (hdr kd K O most gn n cn hits misses)[j]?
  u : ∀ i, i < n → w.cell? ⟨gn, i * 4, none⟩ = some (.int .i64 (U i : Int)) ∧ w.cell? ⟨gn, i * 4 + 1, none⟩ = some (.int .i64 (Y i : Int)) ∧ w.cell? ⟨gn, i * 4 + 2, none⟩ = some (.int .i64 (V i)) ∧ w.cell? ⟨gn, i * 4 + 3, none⟩ = some (.slice (some ⟨gd i, 0, none⟩) K K)
  d : ∀ i x, i < n → x < K → w.cell? ⟨gd i, x, none⟩ = some (.int .i64 (D i x : Int))
theorem rd_of {base g : Nat} {kd : Int} {K : Nat} {O : Int} {most n : Nat} {U Y : Nat → Nat} {V : Nat → Int} {D : Nat → Nat → Nat} {gn cn : Nat} {gd : Nat → Nat} {hits misses : Int} {w : World} (h : Sep base (tpc base g kd K O most n U Y V D gn cn gd hits misses) w) : Rd g kd K O most n U Y V D gn cn gd hits misses w where
  h := fun j => blk_cell (h.get 0 rfl) j
  u := fun i hi => by
    obtain ⟨h1, _⟩ := node_cells (h.get 1 rfl) i _ (nlst_get U Y V gd hi)
    exact ⟨h1 0 (by omega), h1 1 (by omega), h1 2 (by omega), h1 3 (by omega)⟩
  d := fun i x hi hx => by
    have := h.get (i + 2) (show (tpc base g kd K O most n U Y V D gn cn gd hits misses)[i + 2]? = some (blk (gd i) (numsA (lst K (D i))) 3) by
      show (dns n K D gd)[i]? = _
      exact dns_get D gd hi)
    exact lst_cell this hx
theorem Rd.low {g : Nat} {kd : Int} {K : Nat} {O : Int} {most n : Nat} {U Y : Nat → Nat} {V : Nat → Int} {D : Nat → Nat → Nat} {gn cn : Nat} {gd : Nat → Nat} {hits misses : Int} {base : Nat} {w w1 : World} (h : Sep base (tpc base g kd K O most n U Y V D gn cn gd hits misses) w) (hb : Below w.heap.size w w1) : Rd g kd K O most n U Y V D gn cn gd hits misses w1 := rd_of (h.low hb)
theorem tl_cell {w : World} {base : Nat} {ok : Nat → Prop} {g n c : Nat} {T : List Nat} (h : Kd.R (Kd.int .i64) 3 w base ok (.slice (some ⟨g, 0, none⟩) n c) (tl T)) {j a : Nat} (hj : T[j]? = some a) : w.cell? ⟨g, j, none⟩ = some (.int .i64 (a : Int)) := by
  obtain ⟨h1, h2⟩ := List.getElem?_eq_some_iff.1 hj
  rw [tl_at h h1, h2]
def WalkPost (w : World) (n : Nat) (B : Nat → List Int) (l : List Int) : Ending → World → Prop := fun e w' => ∃ (ga ca : Nat) (at_ : List Nat), e = .returned (.slice (some ⟨ga, 0, none⟩) at_.length ca) ∧ Kd.R (Kd.int .i64) 3 w' w.heap.size (fun _ => True) (.slice (some ⟨ga, 0, none⟩) at_.length ca) (tl at_) ∧ At n B l at_ ∧ Stop n B l at_ ∧ Below w.heap.size w w'
theorem tl_ne {T : List Nat} (h : 0 < T.length) : tl T ≠ [] := fun e => by
  rw [← tl_len, e] at h
  exact absurd h (Nat.lt_irrefl 0)
attribute [local go_sem] max2_int min2_int max_two min_two max_three min_three max_four min_four
set_option maxHeartbeats 16000000 in
set_option maxRecDepth 100000 in
theorem Walk_walk (base : Nat) (own : Nat → Prop) (g : Nat) (kd : Int) (K : Nat) (O : Int) (most n : Nat) (B : Nat → List Int) (V : Nat → Int) (hits misses : Int) (w : World) (h : (trie base own g kd K O most n B V hits misses).at_ w) (hn : n ≤ 1048576) (hK : K ≤ 64) (l : List Int) (A : Option Addr) (c : Nat) (hr : Kd.C (Kd.int .i64) w A l.length l) (hl : l.length ≤ 1000000) :
    Calls Try.prog 36 #[.pointer (some ⟨g, 0, none⟩), .slice A l.length c] w (WalkPost w n B l) := by
  obtain ⟨U, Y, D, gn, cn, gd, htri, hsep, _⟩ := h
  have hu65 := Try.underlying65
  have hu69 := Try.underlying69
  have hu24 := Try.underlying24
  have hu63 := Try.underlying63
  have HTR := Aside0.mk htri
  have HSP := Aside0.mk hsep
  have HRC := Aside0.mk hr
  clear htri hsep hr
  go_enter Try.func36, Try.ntmps36
  go_wp2_with (first
  | ((with_reducible refine gate_dst (N := 9) rfl ?_)
     refine Kd.R_lit (Kd.int .i64) (w0 := w) w.heap.size 3 rfl (N := 9) rfl (xs := [(0 : Int)]) (inner := [.int .i64 0]) (ok := fun _ => True) (okp := fun _ => True) ?hr ?hp (fun _ hk => hk) trivial (Below.refl _ _) (Nat.le_refl _) (by simp) ?_
     (case hr => first | (go_simp; done) | (go_simp; rfl))
     (case hp => exact (Reps.one (show Kd.M (Kd.int .i64) _ _ _ (0 : Int) [.int .i64 0] from rfl) (Reps.none _ _)))
     intro v7 w7 ho hb hg hnew
     have HR7 : Aside0 (Kd.R (Kd.int .i64) 3 w7 w.heap.size (fun _ => True) v7 (tl [0])) := ⟨ho⟩
     have HB7 := Aside0.mk hb
     clear ho hb hg hnew))

  go_loopw [12, 5] (fun v12 v5 wr => ∃ (i : Nat) (at_ : List Nat) (tv : Value), v12 = .int .i64 (i : Int) ∧ tv = v5 ∧ Aside0 (i ≤ l.length ∧ at_.length = i + 1) ∧ Aside0 (Kd.R (Kd.int .i64) 3 wr w.heap.size (fun _ => True) tv (tl at_)) ∧ Aside0 (Below w.heap.size w wr) ∧ Aside0 (At n B l at_)) (fun v12 _ _ => l.length - (intOf v12).toNat)
  case atStart => exact ⟨0, [0], _, rfl, rfl, ⟨Nat.zero_le _, rfl⟩, HR7, HB7, ⟨At.start HTR.out l⟩⟩
  case round =>
    clear HR7 HB7
    obtain ⟨i, at_, tv, rfl, htv, HI, HR, HB, HAT⟩ := hrel
    subst htv
    have HAL := Aside0.mk HI.out.2
    obtain ⟨ga, ca, hv⟩ := ints_some HR.out (tl_ne HAT.out.ne)
    rw [tl_len, HAL.out] at hv
    subst hv
    by_cases hi : i < l.length
    · have HIL := Aside0.mk hi
      have hi' : (i : Int) < (l.length : Int) := by omega
      obtain ⟨adl, el, hxl⟩ := Kd.at_int (Kd.C_below HRC.out HB.out) (i : Int) (by omega) hi'
      subst el
      rw [Int.toNat_natCast, rd_nat hi] at hxl
      have hc1 : wr.cell? ⟨g, 1, none⟩ = some (.int .i64 (K : Int)) := ((Rd.low HSP.out HB.out).h 1).trans rfl
      have HGX : Aside0 (l[i]? = some l[i]) := ⟨List.getElem?_eq_getElem hi⟩
      obtain ⟨z, hz⟩ : ∃ z, l[i] = z := ⟨_, rfl⟩
      rw [hz] at hxl HGX
      have HBAD : Aside0 (z < 0 ∨ z ≥ (K : Int) → Stop n B l at_) := ⟨fun hx => by
        have e1 : at_.length - 1 = i := by rw [HAL.out]; omega
        refine HAT.out.stop_bad HTR.out (by rw [HAL.out]; omega) ?_
        simp only [e1, hz]
        exact hx⟩
      clear hi hz
      by_cases hz0 : z < 0
      · have HST := Aside0.mk (HBAD.out (.inl hz0))
        go_wp2
        try rw [Exit.noGoto_ret]
        go_ret
        exact ⟨ga, ca, at_, by rw [HAL.out]; rfl, by rw [HAL.out]; exact HR.out, HAT.out, HST.out, HB.out⟩
      by_cases hzK : z ≥ (K : Int)
      · have HST := Aside0.mk (HBAD.out (.inr hzK))
        go_wp2
        try rw [Exit.noGoto_ret]
        go_ret
        exact ⟨ga, ca, at_, by rw [HAL.out]; rfl, by rw [HAL.out]; exact HR.out, HAT.out, HST.out, HB.out⟩
      obtain ⟨y, rfl⟩ : ∃ y : Nat, z = (y : Int) := ⟨z.toNat, by omega⟩
      have hyK : y < K := by omega
      have hla : i < at_.length := by rw [HAL.out]; omega
      obtain ⟨a, ha⟩ : ∃ a, at_[i]? = some a := ⟨_, List.getElem?_eq_getElem hla⟩
      have han := (HAT.out.ok i a ha).1
      have hxa := tl_cell HR.out ha
      have RD := Rd.low HSP.out HB.out
      have hc7 : wr.cell? ⟨g, 7, none⟩ = some (.slice (some ⟨gn, 0, none⟩) n cn) := (RD.h 7).trans rfl
      have hd3 := (RD.u a han).2.2.2
      have hdd := RD.d a y han hyK
      have HST : Aside0 (D a y = 0 → Stop n B l at_) := ⟨fun hd => HAT.out.stop_none HTR.out (by rw [HAL.out]; have := HIL.out; omega) (x := y) (by rw [HAL.out, Nat.add_sub_cancel]; exact HGX.out) hyK (by rw [HAL.out, Nat.add_sub_cancel]; exact ha) hd⟩
      have HSP2 : Aside0 (D a y ≠ 0 → At n B l (at_ ++ [D a y])) := ⟨fun hd => HAT.out.step HTR.out (by rw [HAL.out]; have := HIL.out; omega) (x := y) (by rw [HAL.out, Nat.add_sub_cancel]; exact HGX.out) hyK (by rw [HAL.out, Nat.add_sub_cancel]; exact ha) hd⟩
      have hw1 : IntKind.i64.wrap (((i + 1 : Nat) : Int) - 1) = (i : Int) := by rw [i64_w]; unfold wrap64; omega
      have han' : (a : Int) < (n : Int) := by omega
      have hy' : (y : Int) < (K : Int) := by omega
      have hii : (i : Int) < ((i + 1 : Nat) : Int) := by omega
      have hin : i ≤ 1000000 := by have := HIL.out; omega
      generalize hdg : D a y = d at hdd HST HSP2
      clear RD hla han ha hyK hdg HBAD
      by_cases hd0 : d = 0
      · have HS2 := Aside0.mk (HST.out hd0)
        subst hd0
        go_wp2
        go_quiet (fail)
        go_wp2
        try rw [Exit.noGoto_ret]
        go_ret
        exact ⟨ga, ca, at_, by rw [HAL.out]; rfl, by rw [HAL.out]; exact Kd.R_drewN HR.out _, HAT.out, HS2.out, pw_below_drewN HB.out _⟩
      · have hdb : ((d : Int) == 0) = false := by simp; omega
        have HS2 := Aside0.mk (HSP2.out hd0)
        have HLL : Aside0 (((tl at_).length + 1) * 8 ≤ 140737488355328) := ⟨by rw [tl_len, HAL.out]; omega⟩
        clear hd0
        go_wp2
        go_quiet (fail)
        go_wp2_with (first
        | ((with_reducible refine gate_builtin (b := .append) (xs := #[.tmp 45, .tmp 47]) rfl ?_)
           at_builtin
           refine Kd.R_append (Kd.int .i64) (w0 := w) w.heap.size rfl (.tmp 45) (.tmp 47) 22 3 (.int .i64 0) 8 rfl Try.underlying22 info3 rfl (by decide) (by omega) (.slice (some ⟨ga, 0, none⟩) (i + 1) ca) (tl at_) (d : Int) [.int .i64 (d : Int)] (fun _ => True) (fun _ => False) rfl (by simp [Act.eval]) rfl (fun _ hk => hk.elim) (fun _ _ => trivial) (Kd.R_drewN HR.out _) (pw_below_drewN HB.out _) (below_size (pw_below_drewN HB.out _)) HLL.out ?_
           intro v8 w9 ho hb hg hat
           have HR9 : Aside0 (Kd.R (Kd.int .i64) 3 w9 w.heap.size (fun _ => True) v8 (tl (at_ ++ [d]))) := ⟨by rw [tl_snoc]; exact ho⟩
           have HB9 := Aside0.mk hb
           clear ho hb hg hat))
        go_roundw
        case rel => exact ⟨i + 1, at_ ++ [d], _, by go_num, rfl, ⟨by have := HIL.out; omega, by rw [List.length_append, HAL.out]; rfl⟩, HR9, HB9, HS2⟩
        case measure => have := HIL.out; simp [intOf]; omega
    · have hi' : ¬ ((i : Int) < (l.length : Int)) := by omega
      have HST : Aside0 (Stop n B l at_) := ⟨At.all_stop (by rw [HAL.out]; have := HI.out; omega)⟩
      clear hi
      go_wp2
      try rw [Exit.noGoto_ret]
      go_ret
      exact ⟨ga, ca, at_, by rw [HAL.out]; rfl, by rw [HAL.out]; exact HR.out, HAT.out, HST.out, HB.out⟩
end Go.Proofs.Ytdijkhamebkfjaa.X
end

section
namespace Go.Proofs.Ytdijkhamebkfjaa.X
open Go.RowKit Go.Proofs.YtdijkhamebkfjaaW.PrintWords Go.Proofs.YtdijkhamebkfjaaW.PrintLast Go.Proofs.YtdijkhamebkfjaaW.PrintMore
open Go.Proofs.Ytdijkhamebkfjaa Go.Proofs.Ytdijkhamebkfjaa.Sp
def FindPost (w : World) (kd : Int) (n : Nat) (B : Nat → List Int) (V : Nat → Int) (l : List Int) : Ending → World → Prop := fun e w' => ∃ (v : Value) (at_ : List Nat), e = .returned (.tuple #[v, .bool (tellF kd V l at_).2]) ∧ Kd.R (Kd.int .i64) 3 w' w.heap.size (fun _ => True) v (tellF kd V l at_).1 ∧ At n B l at_ ∧ Stop n B l at_ ∧ Below w.heap.size w w'
theorem tell_no {kd : Int} {V : Nat → Int} {l : List Int} {at_ : List Nat} (h : at_.length ≠ l.length + 1) : tellF kd V l at_ = ([], false) := by unfold tellF; rw [if_neg h]
theorem tell_1 {V : Nat → Int} {l : List Int} {at_ : List Nat} {a : Nat} (h : at_.length = l.length + 1) (ha : at_[l.length]? = some a) : tellF 1 V l at_ = if V a < 0 then ([], false) else ([V a], true) := by
  unfold tellF
  rw [if_pos h, if_pos rfl, List.getD_eq_getElem?_getD, ha]
  rfl
theorem tell_2 {V : Nat → Int} {l : List Int} {at_ : List Nat} (h : at_.length = l.length + 1) : tellF 2 V l at_ = ((at_.drop 1).map V, true) := by
  unfold tellF
  rw [if_pos h, if_neg (by decide)]
attribute [local go_sem] max2_int min2_int max_two min_two max_three min_three max_four min_four
set_option maxHeartbeats 16000000 in
set_option maxRecDepth 100000 in
theorem Find_1 (base : Nat) (own : Nat → Prop) (g : Nat) (K : Nat) (O : Int) (most n : Nat) (B : Nat → List Int) (V : Nat → Int) (hits misses : Int) (w : World) (h : (trie base own g 1 K O most n B V hits misses).at_ w) (hn : n ≤ 1048576) (hK : K ≤ 64) (l : List Int) (A : Option Addr) (c : Nat) (hr : Kd.C (Kd.int .i64) w A l.length l) (hl : l.length ≤ 1000000) :
    Calls Try.prog 38 #[.pointer (some ⟨g, 0, none⟩), .slice A l.length c] w (FindPost w 1 n B V l) := by
  have HH := Aside0.mk h
  obtain ⟨U, Y, D, gn, cn, gd, htri, hsep, _⟩ := h
  have hu65 := Try.underlying65
  have hu69 := Try.underlying69
  have hu67 := Try.underlying67
  have hu24 := Try.underlying24
  have hu63 := Try.underlying63
  have HSP := Aside0.mk hsep
  have HRC := Aside0.mk hr
  clear htri hsep hr
  go_enter Try.func38, Try.ntmps38
  go_upto_region 2 with (
     go_at_call 36
     refine (Walk_walk base own g 1 K O most n B V hits misses _ HH.out hn hK l A c HRC.out hl).mono ?_
     rintro e w1 ⟨ga, ca, at_, rfl, hR, hat, hst, hb⟩
     have HR := Aside0.mk hR
     have HAT := Aside0.mk hat
     have HST := Aside0.mk hst
     have HB := Aside0.mk hb
     clear hR hat hst hb)
  obtain ⟨L, hL⟩ : ∃ L, at_.length = L := ⟨_, rfl⟩
  obtain ⟨m, hm⟩ : ∃ m, l.length + 1 = m := ⟨_, rfl⟩
  have hcap := (Kd.R_reads' HR.out).2.1
  rw [hL] at hcap ⊢
  have hw1 : IntKind.i64.wrap ((l.length : Int) + 1) = (m : Int) := by rw [i64_w]; unfold wrap64; omega
  have HL := Aside0.mk hL
  have HM := Aside0.mk hm
  by_cases hLm : L = m
  · have hlb : ((L : Int) != (m : Int)) = false := by simp [hLm]
    have HLM := Aside0.mk hLm
    have HLE : Aside0 (at_.length = l.length + 1) := ⟨by rw [HL.out, HLM.out, HM.out]⟩
    have RD := Rd.low HSP.out HB.out
    have hc0 : w1.cell? ⟨g, 0, none⟩ = some (.int .i64 1) := (RD.h 0).trans rfl
    have hc7 : w1.cell? ⟨g, 7, none⟩ = some (.slice (some ⟨gn, 0, none⟩) n cn) := (RD.h 7).trans rfl
    have hla : l.length < at_.length := by rw [HLE.out]; exact Nat.lt_succ_self _
    obtain ⟨a, ha⟩ : ∃ a, at_[l.length]? = some a := ⟨_, List.getElem?_eq_getElem hla⟩
    have han := (HAT.out.ok _ a ha).1
    have hxa := tl_cell HR.out ha
    have hva := (RD.u a han).2.2.1
    have han' : (a : Int) < (n : Int) := by omega
    have hlL : (l.length : Int) < (L : Int) := by omega
    have HT := Aside0.mk (tell_1 (V := V) HLE.out ha)
    generalize hz : V a = z at hva HT
    clear RD hla han ha hLm hm hL hcap hz
    by_cases hz0 : z < 0
    · have HT2 : Aside0 (tellF 1 V l at_ = ([], false)) := ⟨by rw [HT.out, if_pos hz0]⟩
      go_wp2
      go_quiet (fail)
      go_wp2
      try rw [Exit.noGoto_ret]
      go_ret2
      exact ⟨_, at_, by rw [HT2.out]; rfl, by rw [HT2.out]; exact Kd.R_nil _ _ _ _ _, HAT.out, HST.out, pw_below_drewN HB.out _⟩
    · have HT2 : Aside0 (tellF 1 V l at_ = ([z], true)) := ⟨by rw [HT.out, if_neg hz0]⟩
      go_wp2
      go_quiet (fail)
      go_wp2_with (first
      | ((with_reducible refine gate_dst (N := 42) rfl ?_)
         refine Kd.R_lit (Kd.int .i64) (w0 := w) w.heap.size 3 rfl (N := 42) rfl (xs := [z]) (inner := [.int .i64 z]) (ok := fun _ => True) (okp := fun _ => True) ?hr ?hp (fun _ hk => hk) trivial (pw_below_drewN HB.out _) (below_size (pw_below_drewN HB.out _)) (by simp) ?_
         (case hr => first | (go_simp; done) | (go_simp; rfl))
         (case hp => exact (Reps.one (show Kd.M (Kd.int .i64) _ _ _ z [.int .i64 z] from rfl) (Reps.none _ _)))
         intro v7 w7 ho hb hg hnew
         have HR7 : Aside0 (Kd.R (Kd.int .i64) 3 w7 w.heap.size (fun _ => True) v7 [z]) := ⟨ho⟩
         have HB7 := Aside0.mk hb
         clear ho hb hg hnew))
      try rw [Exit.noGoto_ret]
      go_ret2
      exact ⟨_, at_, by rw [HT2.out]; rfl, by rw [HT2.out]; exact HR7.out, HAT.out, HST.out, HB7.out⟩
  · have hlb : ((L : Int) != (m : Int)) = true := by simp; omega
    have HT : Aside0 (tellF 1 V l at_ = ([], false)) := ⟨tell_no (by rw [HL.out, HM.out]; exact hLm)⟩
    clear hLm hm hL hcap
    go_wp2
    try rw [Exit.noGoto_ret]
    go_ret2
    exact ⟨_, at_, by rw [HT.out]; rfl, by rw [HT.out]; exact Kd.R_nil _ _ _ _ _, HAT.out, HST.out, HB.out⟩
set_option maxHeartbeats 16000000 in
set_option maxRecDepth 100000 in
theorem Find_2 (base : Nat) (own : Nat → Prop) (g : Nat) (K : Nat) (O : Int) (most n : Nat) (B : Nat → List Int) (V : Nat → Int) (hits misses : Int) (w : World) (h : (trie base own g 2 K O most n B V hits misses).at_ w) (hn : n ≤ 1048576) (hK : K ≤ 64) (l : List Int) (A : Option Addr) (c : Nat) (hr : Kd.C (Kd.int .i64) w A l.length l) (hl : l.length ≤ 1000000) :
    Calls Try.prog 38 #[.pointer (some ⟨g, 0, none⟩), .slice A l.length c] w (FindPost w 2 n B V l) := by
  have HH := Aside0.mk h
  obtain ⟨U, Y, D, gn, cn, gd, htri, hsep, _⟩ := h
  have hu65 := Try.underlying65
  have hu69 := Try.underlying69
  have hu67 := Try.underlying67
  have hu24 := Try.underlying24
  have hu63 := Try.underlying63
  have HSP := Aside0.mk hsep
  have HRC := Aside0.mk hr
  clear htri hsep hr
  go_enter Try.func38, Try.ntmps38
  go_upto_region 2 with (
     go_at_call 36
     refine (Walk_walk base own g 2 K O most n B V hits misses _ HH.out hn hK l A c HRC.out hl).mono ?_
     rintro e w1 ⟨ga, ca, at_, rfl, hR, hat, hst, hb⟩
     have HR := Aside0.mk hR
     have HAT := Aside0.mk hat
     have HST := Aside0.mk hst
     have HB := Aside0.mk hb
     clear hR hat hst hb)
  obtain ⟨L, hL⟩ : ∃ L, at_.length = L := ⟨_, rfl⟩
  obtain ⟨m, hm⟩ : ∃ m, l.length + 1 = m := ⟨_, rfl⟩
  have hcap := (Kd.R_reads' HR.out).2.1
  rw [hL] at hcap ⊢
  have hw1 : IntKind.i64.wrap ((l.length : Int) + 1) = (m : Int) := by rw [i64_w]; unfold wrap64; omega
  have HL := Aside0.mk hL
  have HM := Aside0.mk hm
  by_cases hLm : L = m
  · have hlb : ((L : Int) != (m : Int)) = false := by simp [hLm]
    have HLM := Aside0.mk hLm
    have HLE : Aside0 (at_.length = l.length + 1) := ⟨by rw [HL.out, HLM.out, HM.out]⟩
    have RD := Rd.low HSP.out HB.out
    have hc0 : w1.cell? ⟨g, 0, none⟩ = some (.int .i64 2) := (RD.h 0).trans rfl
    have hc7 : w1.cell? ⟨g, 7, none⟩ = some (.slice (some ⟨gn, 0, none⟩) n cn) := (RD.h 7).trans rfl
    have HT := Aside0.mk (tell_2 (V := V) HLE.out)
    have HRD := Aside0.mk RD
    have hL1 : 1 ≤ L := by omega
    have hl1 : L - 1 = l.length := by omega
    clear RD hm hL hc7
    by_cases hca : ca = 1
    · have hl0 : l.length = 0 := by omega
      have HL0 := Aside0.mk hl0
      clear hLm hl0
      go_wp2
      go_loopw [46, 8] (fun v46 v8 wr => ∃ (q : Nat) (tv : Value), v46 = .int .i64 (q : Int) ∧ tv = v8 ∧ Aside0 (q ≤ l.length) ∧ Aside0 (Kd.R (Kd.int .i64) 3 wr w1.heap.size (fun _ => True) tv (((at_.drop 1).take q).map V)) ∧ Aside0 (Below w1.heap.size w1 wr)) (fun v46 _ _ => l.length - (intOf v46).toNat)
      case atStart => exact ⟨0, _, rfl, rfl, ⟨Nat.zero_le _⟩, ⟨Kd.R_nil _ _ _ _ _⟩, ⟨Below.refl _ _⟩⟩
      case round =>
        obtain ⟨q, tv, rfl, htv, HQ, HO, HB1⟩ := hrel
        subst htv
        have HB2 : Aside0 (Below w.heap.size w wr) := ⟨below_step HB.out HB1.out⟩
        by_cases hq : q < l.length
        · exact absurd hq (by have := HL0.out; omega)
        · have hq' : ¬ ((q : Int) < (l.length : Int)) := by omega
          have hqe : q = l.length := by have := HQ.out; omega
          have HOE : Aside0 (Kd.R (Kd.int .i64) 3 wr w.heap.size (fun _ => True) tv ((at_.drop 1).map V)) := ⟨by
            have h := Kd.R_lower HO.out HB.out.size
            rw [hqe, List.take_of_length_le (by rw [List.length_drop, HLE.out]; omega)] at h
            exact h⟩
          clear hq hqe
          go_wp2
          try rw [Exit.noGoto_ret]
          go_ret2
          exact ⟨_, at_, by rw [HT.out]; rfl, by rw [HT.out]; exact HOE.out, HAT.out, HST.out, HB2.out⟩
    have hca' : ¬ ca - 1 = 0 := by omega
    clear hLm
    go_wp2
    go_loopw [46, 8] (fun v46 v8 wr => ∃ (q : Nat) (tv : Value), v46 = .int .i64 (q : Int) ∧ tv = v8 ∧ Aside0 (q ≤ l.length) ∧ Aside0 (Kd.R (Kd.int .i64) 3 wr w1.heap.size (fun _ => True) tv (((at_.drop 1).take q).map V)) ∧ Aside0 (Below w1.heap.size w1 wr)) (fun v46 _ _ => l.length - (intOf v46).toNat)
    case atStart => exact ⟨0, _, rfl, rfl, ⟨Nat.zero_le _⟩, ⟨Kd.R_nil _ _ _ _ _⟩, ⟨Below.refl _ _⟩⟩
    case round =>
      obtain ⟨q, tv, rfl, htv, HQ, HO, HB1⟩ := hrel
      subst htv
      have HB2 : Aside0 (Below w.heap.size w wr) := ⟨below_step HB.out HB1.out⟩
      by_cases hq : q < l.length
      · have HQL := Aside0.mk hq
        have hq' : (q : Int) < (l.length : Int) := by omega
        have hla : 1 + q < at_.length := by rw [HLE.out]; omega
        obtain ⟨a, ha⟩ : ∃ a, at_[1 + q]? = some a := ⟨_, List.getElem?_eq_getElem hla⟩
        have han := (HAT.out.ok _ a ha).1
        have hxa := (HB1.out.cell (p := ⟨ga, 1 + q, none⟩) (Kd.R_lt HR.out ga rfl)).trans (tl_cell HR.out ha)
        have RD2 := Rd.low HSP.out HB2.out
        have hc7 : wr.cell? ⟨g, 7, none⟩ = some (.slice (some ⟨gn, 0, none⟩) n cn) := (RD2.h 7).trans rfl
        have hva := (RD2.u a han).2.2.1
        have han' : (a : Int) < (n : Int) := by omega
        have HTK : Aside0 (((at_.drop 1).take (q + 1)).map V = ((at_.drop 1).take q).map V ++ [V a]) := ⟨by
          have hd : (at_.drop 1)[q]? = some a := by rw [List.getElem?_drop]; exact ha
          obtain ⟨h1, h2⟩ := List.getElem?_eq_some_iff.1 hd
          rw [List.take_succ_eq_append_getElem h1, h2, List.map_append]
          rfl⟩
        have HLL : Aside0 (((((at_.drop 1).take q).map V).length + 1) * 8 ≤ 140737488355328) := ⟨by rw [List.length_map, List.length_take]; omega⟩
        generalize hz : V a = z at hva HTK
        clear RD2 hla han ha hq hz
        go_wp2_with (first
        | ((with_reducible refine gate_builtin (b := .append) (xs := #[.tmp 50, .tmp 60]) rfl ?_)
           at_builtin
           refine Kd.R_append (Kd.int .i64) (w0 := w1) w1.heap.size rfl (.tmp 50) (.tmp 60) 22 3 (.int .i64 0) 8 rfl Try.underlying22 info3 rfl (by decide) (by omega) tv (((at_.drop 1).take q).map V) z [.int .i64 z] (fun _ => True) (fun _ => False) rfl (by simp [Act.eval]) rfl (fun _ hk => hk.elim) (fun _ _ => trivial) HO.out HB1.out HB1.out.size HLL.out ?_
           intro v8 w9 ho hb hg hat
           have HO9 : Aside0 (Kd.R (Kd.int .i64) 3 w9 w1.heap.size (fun _ => True) v8 (((at_.drop 1).take (q + 1)).map V)) := ⟨by rw [HTK.out]; exact ho⟩
           have HB9 := Aside0.mk hb
           clear ho hb hg hat))
        go_roundw
        case rel => exact ⟨q + 1, _, by go_num, rfl, ⟨by have := HQL.out; omega⟩, HO9, HB9⟩
        case measure => have := HQL.out; simp [intOf]; omega
      · have hq' : ¬ ((q : Int) < (l.length : Int)) := by omega
        have hqe : q = l.length := by have := HQ.out; omega
        have HOE : Aside0 (Kd.R (Kd.int .i64) 3 wr w.heap.size (fun _ => True) tv ((at_.drop 1).map V)) := ⟨by
          have h := Kd.R_lower HO.out HB.out.size
          rw [hqe, List.take_of_length_le (by rw [List.length_drop, HLE.out]; omega)] at h
          exact h⟩
        clear hq hqe
        go_wp2
        try rw [Exit.noGoto_ret]
        go_ret2
        exact ⟨_, at_, by rw [HT.out]; rfl, by rw [HT.out]; exact HOE.out, HAT.out, HST.out, HB2.out⟩
  · have hlb : ((L : Int) != (m : Int)) = true := by simp; omega
    have HT : Aside0 (tellF 2 V l at_ = ([], false)) := ⟨tell_no (by rw [HL.out, HM.out]; exact hLm)⟩
    clear hLm hm hL hcap
    go_wp2
    try rw [Exit.noGoto_ret]
    go_ret2
    exact ⟨_, at_, by rw [HT.out]; rfl, by rw [HT.out]; exact Kd.R_nil _ _ _ _ _, HAT.out, HST.out, HB.out⟩
end Go.Proofs.Ytdijkhamebkfjaa.X
end

section
namespace Go.Proofs.Ytdijkhamebkfjaa.X
open Go.RowKit Go.Proofs.YtdijkhamebkfjaaW.PrintWords Go.Proofs.YtdijkhamebkfjaaW.PrintLast Go.Proofs.YtdijkhamebkfjaaW.PrintMore
open Go.Proofs.Ytdijkhamebkfjaa Go.Proofs.Ytdijkhamebkfjaa.Sp
theorem rev_l0 : ∀ (k : Nat) (x : List Int) (i : Nat) (j : Int), x.length < 4611686018427387904 → j < (x.length : Int) → -1 ≤ j → i ≤ x.length → j - i + 2 ≤ 2 * (k : Int) → -1 ≤ j - i → ∃ r, slices_Reverse_int_int.l0 k x i j = some r ∧ r.length = x.length ∧ ∀ t, t < x.length → r.getD t 0 = if i ≤ t ∧ (t : Int) ≤ j then x.getD ((i : Int) + j - t).toNat 0 else x.getD t 0
  | 0, x, i, j, hx, hj, hj0, hi, hk, hn => by omega
  | k + 1, x, i, j, hx, hj, hj0, hi, hk, hn => by
    unfold slices_Reverse_int_int.l0
    by_cases hij : (i : Int) < j
    · have e1 : wrap64 ((i : Int) + 1) = ((i + 1 : Nat) : Int) := by unfold wrap64; omega
      have e2 : wrap64 (j - 1) = j - 1 := by unfold wrap64; omega
      rw [if_pos hij, if_pos (by omega), if_pos hj, if_pos (by omega), if_pos (by omega), e1, e2]
      obtain ⟨jn, rfl⟩ : ∃ jn : Nat, j = (jn : Int) := ⟨j.toNat, by omega⟩
      rw [Int.toNat_natCast, Int.toNat_natCast]
      have hi2 : i < x.length := by omega
      have hj2 : jn < x.length := by omega
      rw [rd_nat hi2, rd_nat hj2]
      by_cases hk0 : k = 0
      · subst hk0; omega
      obtain ⟨r, h1, h2, h3⟩ := rev_l0 k ((x.set i x[jn]).set jn x[i]) (i + 1) ((jn : Int) - 1) (by simpa using hx) (by simp; omega) (by omega) (by simp; omega) (by push_cast; omega) (by push_cast; omega)
      refine ⟨r, h1, by simpa using h2, fun t ht => ?_⟩
      rw [h3 t (by simpa using ht)]
      have E : ∀ s, s < x.length → ((x.set i x[jn]).set jn x[i]).getD s 0 = if s = jn then x.getD i 0 else if s = i then x.getD jn 0 else x.getD s 0 := fun s hs => by
        rw [List.getD_eq_getElem?_getD, List.getElem?_set, List.getElem?_set]
        by_cases a1 : jn = s
        · subst a1
          simp [hs, List.getD_eq_getElem?_getD, List.getElem?_eq_getElem hi2]
        · by_cases a2 : i = s
          · subst a2
            rw [if_neg a1, if_pos rfl, if_pos (by simpa using hs), if_neg (fun h => a1 h.symm), if_pos rfl]
            simp [List.getD_eq_getElem?_getD, List.getElem?_eq_getElem hj2]
          · rw [if_neg a1, if_neg a2, if_neg (fun h => a1 h.symm), if_neg (fun h => a2 h.symm), List.getD_eq_getElem?_getD]
      have e3 : (((i + 1 : Nat) : Int) + ((jn : Int) - 1) - t).toNat = ((i : Int) + jn - t).toNat := by congr 1; omega
      rw [e3]
      by_cases c1 : t = jn
      · subst c1
        rw [if_neg (by omega), if_pos (by omega), E t hj2, if_pos rfl]
        congr 1
        omega
      by_cases c2 : t = i
      · subst c2
        rw [if_neg (by omega), if_pos (by omega), E t hi2, if_neg c1, if_pos rfl]
        congr 1
        omega
      by_cases c3 : i ≤ t ∧ (t : Int) ≤ jn
      · rw [if_pos (by omega), if_pos c3, E _ (by omega), if_neg (by omega), if_neg (by omega)]
      · rw [if_neg (by omega), if_neg c3, E t ht, if_neg c1, if_neg c2]
    · rw [if_neg hij]
      refine ⟨x, rfl, rfl, fun t ht => ?_⟩
      by_cases c : i ≤ t ∧ (t : Int) ≤ j
      · rw [if_pos c]
        congr 1
        omega
      · rw [if_neg c]
theorem rev_is (k : Nat) (l : List Int) (hl : l.length < 4611686018427387904) (hk : l.length + 1 ≤ k) : slices_Reverse_int_int.f k l = some l.reverse := by
  unfold slices_Reverse_int_int.f
  have e : wrap64 ((l.length : Int) - 1) = (l.length : Int) - 1 := by unfold wrap64; omega
  rw [e]
  obtain ⟨r, h1, h2, h3⟩ := rev_l0 k l 0 ((l.length : Int) - 1) hl (by omega) (by omega) (by omega) (by omega) (by omega)
  have h1' : slices_Reverse_int_int.l0 k l 0 ((l.length : Int) - 1) = some r := h1
  rw [h1']
  congr 1
  apply List.ext_getElem (by rw [h2, List.length_reverse])
  intro t ht _
  have := h3 t (by omega)
  rw [if_pos (by omega), List.getD_eq_getElem?_getD, List.getElem?_eq_getElem ht, List.getD_eq_getElem?_getD, List.getElem?_eq_getElem (by omega)] at this
  rw [List.getElem_reverse]
  have e2 : (((0 : Nat) : Int) + ((l.length : Int) - 1) - t).toNat = l.length - 1 - t := by omega
  simp only [e2] at this
  exact this
def SpellPost (w : World) (v : List Int) : Ending → World → Prop := fun e w' => ∃ tv : Value, e = .returned tv ∧ Kd.R (Kd.int .i64) 3 w' w.heap.size (fun _ => True) tv v ∧ Below w.heap.size w w'
attribute [local go_sem] max2_int min2_int max_two min_two max_three min_three max_four min_four
set_option maxHeartbeats 16000000 in
set_option maxRecDepth 100000 in
theorem Spell_walk (base : Nat) (own : Nat → Prop) (g : Nat) (kd : Int) (K : Nat) (O : Int) (most n : Nat) (B : Nat → List Int) (V : Nat → Int) (hits misses : Int) (w : World) (h : (trie base own g kd K O most n B V hits misses).at_ w) (hn : n ≤ 1048576) (i0 : Nat) (hi0 : i0 < n) :
    Calls Try.prog 41 #[.pointer (some ⟨g, 0, none⟩), .int .i64 (i0 : Int)] w (SpellPost w (B i0)) := by
  obtain ⟨U, Y, D, gn, cn, gd, htri, hsep, _⟩ := h
  have hu65 := Try.underlying65
  have hu69 := Try.underlying69
  have hu67 := Try.underlying67
  have hu24 := Try.underlying24
  have hu63 := Try.underlying63
  have HTR := Aside0.mk htri
  have HSP := Aside0.mk hsep
  clear htri hsep
  have HI0 := Aside0.mk hi0
  go_enter Try.func41, Try.ntmps41
  go_wp2
  go_loopw [1, 5] (fun v1 v5 wr => ∃ (a : Nat) (acc : List Int) (tv : Value), v1 = .int .i64 (a : Int) ∧ tv = v5 ∧ Aside0 (a < n ∧ acc.length + a ≤ i0 ∧ B i0 = B a ++ acc.reverse) ∧ Aside0 (Kd.R (Kd.int .i64) 3 wr w.heap.size (fun _ => True) tv acc) ∧ Aside0 (Below w.heap.size w wr)) (fun v1 _ _ => (intOf v1).toNat)
  case atStart => exact ⟨i0, [], _, rfl, rfl, ⟨hi0, by simp, by simp⟩, ⟨Kd.R_nil _ _ _ _ _⟩, ⟨Below.refl _ _⟩⟩
  case round =>
    obtain ⟨a, acc, tv, rfl, htv, HI, HR, HB⟩ := hrel
    subst htv
    by_cases ha : a = 0
    · have HBE : Aside0 (acc.reverse = B i0) := ⟨by rw [HI.out.2.2, ha, HTR.out.root]; rfl⟩
      have HAL : Aside0 (acc.length < 4611686018427387904) := ⟨by have := HI.out.2.1; omega⟩
      subst ha
      clear hi0
      go_wp2_with (first
      | 
           go_at_call 54
           refine (slices_Reverse_int_int.calls (acc.length + 1) (fun _ => True) tv acc acc.reverse w _ HB.out HR.out (rev_is _ _ HAL.out (Nat.le_refl _))).mono ?_
           rintro e w1 ⟨rfl, hR, hb, _⟩
           have HR9 := Aside0.mk hR
           have HB9 := Aside0.mk hb
           clear hR hb)
      go_ret
      exact ⟨tv, rfl, by rw [← HBE.out]; exact Kd.R_mono HR9.out (fun _ _ => trivial), HB9.out⟩
    · have hab : ((a : Int) != 0) = true := by simp; omega
      have HAN : Aside0 (a < n) := ⟨HI.out.1⟩
      have han := HI.out.1
      have han' : (a : Int) < (n : Int) := by omega
      obtain ⟨g1, g2, g3⟩ := HTR.out.up a (by omega) han
      have RD := Rd.low HSP.out HB.out
      have hc7 : wr.cell? ⟨g, 7, none⟩ = some (.slice (some ⟨gn, 0, none⟩) n cn) := (RD.h 7).trans rfl
      have hva := (RD.u a han).2.1
      have HN : Aside0 (U a < n ∧ acc.length + 1 + U a ≤ i0 ∧ B i0 = B (U a) ++ (acc ++ [(Y a : Int)]).reverse) := ⟨by omega, by have := HI.out.2.1; omega, by rw [HI.out.2.2, g3, List.reverse_append, List.append_assoc]; rfl⟩
      have HLL : Aside0 ((acc.length + 1) * 8 ≤ 140737488355328) := ⟨by have := HI.out.2.1; omega⟩
      have HUA : Aside0 (U a < a) := ⟨g1⟩
      generalize hy : Y a = y at hva HN
      clear RD g1 g2 g3 hy hi0 ha han
      go_wp2_with (first
      | ((with_reducible refine gate_builtin (b := .append) (xs := #[.tmp 8, .tmp 18]) rfl ?_)
         at_builtin
         refine Kd.R_append (Kd.int .i64) (w0 := w) w.heap.size rfl (.tmp 8) (.tmp 18) 22 3 (.int .i64 0) 8 rfl Try.underlying22 info3 rfl (by decide) (by omega) tv acc (y : Int) [.int .i64 (y : Int)] (fun _ => True) (fun _ => False) rfl (by simp [Act.eval]) rfl (fun _ hk => hk.elim) (fun _ _ => trivial) HR.out HB.out HB.out.size HLL.out ?_
         intro v8 w9 ho hb hg hat
         have HR9 : Aside0 (Kd.R (Kd.int .i64) 3 w9 w.heap.size (fun _ => True) v8 (acc ++ [(y : Int)])) := ⟨ho⟩
         have HB9 := Aside0.mk hb
         have RD9 := Rd.low HSP.out hb
         have hc7' : w9.cell? ⟨g, 7, none⟩ = some (.slice (some ⟨gn, 0, none⟩) n cn) := (RD9.h 7).trans rfl
         have hu9 := (RD9.u a HAN.out).1
         clear RD9
         clear ho hb hg hat))
      go_roundw
      case rel => exact ⟨U a, acc ++ [(y : Int)], _, rfl, rfl, ⟨HN.out.1, by rw [List.length_append]; exact HN.out.2.1, HN.out.2.2⟩, HR9, HB9⟩
      case measure => have := HUA.out; simp [intOf]; omega
end Go.Proofs.Ytdijkhamebkfjaa.X
end

section
namespace Go.Proofs.Ytdijkhamebkfjaa.X
open Go.RowKit Go.Proofs.YtdijkhamebkfjaaW.PrintWords Go.Proofs.YtdijkhamebkfjaaW.PrintLast Go.Proofs.YtdijkhamebkfjaaW.PrintMore
open Go.Proofs.Ytdijkhamebkfjaa Go.Proofs.Ytdijkhamebkfjaa.Sp
attribute [local go_sem] max2_int min2_int max_two min_two max_three min_three max_four min_four
set_option maxHeartbeats 16000000 in
set_option maxRecDepth 100000 in
theorem Clash_1 (base : Nat) (own : Nat → Prop) (g : Nat) (K : Nat) (O : Int) (most n : Nat) (B : Nat → List Int) (V : Nat → Int) (hits misses : Int) (w : World) (h : (trie base own g 1 K O most n B V hits misses).at_ w) (hn : n ≤ 1048576) (l : List Int) (at_ : List Nat) (ga ca bs : Nat) (ok : Nat → Prop) (hR : Kd.R (Kd.int .i64) 3 w bs ok (.slice (some ⟨ga, 0, none⟩) at_.length ca) (tl at_)) (hat : At n B l at_) (hl : l.length ≤ 1000000) (out : List Int) (Ao : Option Addr) (co : Nat) (hro : Kd.C (Kd.int .i64) w Ao out.length out) (ho : out.length = 1) :
    Calls Try.prog 37 #[.pointer (some ⟨g, 0, none⟩), .slice (some ⟨ga, 0, none⟩) at_.length ca, .int .i64 (l.length : Int), .slice Ao out.length co] w fun e w' => e = .returned (.bool (clashF 1 V l out at_)) ∧ Below w.heap.size w w' := by
  obtain ⟨U, Y, D, gn, cn, gd, htri, hsep, _⟩ := h
  have hu65 := Try.underlying65
  have hu69 := Try.underlying69
  have hu67 := Try.underlying67
  have hu24 := Try.underlying24
  have hu63 := Try.underlying63
  have RD := rd_of hsep
  have HSP := Aside0.mk hsep
  have HRO := Aside0.mk hro
  have HR := Aside0.mk hR
  have HAT := Aside0.mk hat
  clear htri hsep hro hR
  have hle := hat.le
  have hne := hat.ne
  clear hat
  obtain ⟨L, hL⟩ : ∃ L, at_.length = L := ⟨_, rfl⟩
  rw [hL] at hle hne ⊢
  have HL := Aside0.mk hL
  have hc0 : w.cell? ⟨g, 0, none⟩ = some (.int .i64 1) := (RD.h 0).trans rfl
  have hc7 : w.cell? ⟨g, 7, none⟩ = some (.slice (some ⟨gn, 0, none⟩) n cn) := (RD.h 7).trans rfl
  obtain ⟨i, hi⟩ : ∃ i, L = i + 1 := ⟨L - 1, by omega⟩
  obtain ⟨m, hm⟩ : ∃ m, l.length + 1 = m := ⟨_, rfl⟩
  have hw1 : IntKind.i64.wrap ((L : Int) - 1) = (i : Int) := by rw [i64_w]; unfold wrap64; omega
  have hw2 : IntKind.i64.wrap ((l.length : Int) + 1) = (m : Int) := by rw [i64_w]; unfold wrap64; omega
  have hla : i < at_.length := by rw [hL]; omega
  obtain ⟨a, ha⟩ : ∃ a, at_[i]? = some a := ⟨_, List.getElem?_eq_getElem hla⟩
  have han := (HAT.out.ok _ a ha).1
  have hxa := tl_cell HR.out ha
  have hva := (RD.u a han).2.2.1
  have han' : (a : Int) < (n : Int) := by omega
  have hiL : (i : Int) < (L : Int) := by omega
  obtain ⟨ado, eo, hxo⟩ := Kd.at_int HRO.out (0 : Int) (by omega) (by omega)
  subst eo
  have hxo' : w.cell? (ado.add 0) = some (.int .i64 (rd out 0)) := hxo
  have hol : (0 : Int) < (out.length : Int) := by omega
  have hxo2 : w.cell? ado = some (.int .i64 (rd out 0)) := by
    have h2 : ado.add 0 = ado := by cases ado; rfl
    rw [h2] at hxo'
    exact hxo'
  have HC : Aside0 (clashF 1 V l out at_ = decide (at_.length = l.length + 1 ∧ V a ≥ 0 ∧ V a ≠ rd out 0)) := ⟨by
    unfold clashF
    rw [if_pos rfl, HL.out, hi, Nat.add_sub_cancel, List.getD_eq_getElem?_getD, ha]
    rfl⟩
  generalize hz : V a = z at hva HC
  generalize hy : rd out 0 = y at hxo' hxo2 HC
  clear RD hla han ha hz hy hxo
  by_cases hLm : L = m
  · have hlb : ((L : Int) == (m : Int)) = true := by simp [hLm]
    by_cases hz0 : z ≥ 0
    · by_cases hzy : z = y
      · have hzb : (z != y) = false := by simpa using hzy
        have HT : Aside0 (clashF 1 V l out at_ = false) := ⟨by rw [HC.out]; exact decide_eq_false (fun h => h.2.2 hzy)⟩
        clear hLm hm hL hi hzy
        go_enter Try.func37, Try.ntmps37
        go_wp2
        go_quiet (fail)
        go_wp2
        go_ret
        exact ⟨by rw [HT.out]; rfl, pw_below_drewN (Below.refl _ _) _⟩
      · have hzb : (z != y) = true := by simpa using hzy
        have HT : Aside0 (clashF 1 V l out at_ = true) := ⟨by rw [HC.out]; exact decide_eq_true ⟨by rw [HL.out]; omega, hz0, hzy⟩⟩
        clear hLm hm hL hi hzy
        go_enter Try.func37, Try.ntmps37
        go_wp2
        go_quiet (fail)
        go_wp2
        go_ret
        exact ⟨by rw [HT.out]; rfl, pw_below_drewN (Below.refl _ _) _⟩
    · have HT : Aside0 (clashF 1 V l out at_ = false) := ⟨by rw [HC.out]; exact decide_eq_false (fun h => hz0 h.2.1)⟩
      clear hLm hm hL hi
      go_enter Try.func37, Try.ntmps37
      go_wp2
      go_quiet (fail)
      go_wp2
      go_ret
      exact ⟨by rw [HT.out]; rfl, pw_below_drewN (Below.refl _ _) _⟩
  · have hlb : ((L : Int) == (m : Int)) = false := by simp; omega
    have HT : Aside0 (clashF 1 V l out at_ = false) := ⟨by rw [HC.out]; exact decide_eq_false (fun h => hLm (by have := h.1; rw [HL.out] at this; omega))⟩
    clear hLm hm hL hi
    go_enter Try.func37, Try.ntmps37
    go_wp2
    go_quiet (fail)
    go_wp2
    go_ret
    exact ⟨by rw [HT.out]; rfl, pw_below_drewN (Below.refl _ _) _⟩
set_option maxHeartbeats 16000000 in
set_option maxRecDepth 100000 in
theorem Clash_2 (base : Nat) (own : Nat → Prop) (g : Nat) (K : Nat) (O : Int) (most n : Nat) (B : Nat → List Int) (V : Nat → Int) (hits misses : Int) (w : World) (h : (trie base own g 2 K O most n B V hits misses).at_ w) (hn : n ≤ 1048576) (l : List Int) (at_ : List Nat) (ga ca bs : Nat) (ok : Nat → Prop) (hR : Kd.R (Kd.int .i64) 3 w bs ok (.slice (some ⟨ga, 0, none⟩) at_.length ca) (tl at_)) (hat : At n B l at_) (hl : l.length ≤ 1000000) (out : List Int) (Ao : Option Addr) (co : Nat) (hro : Kd.C (Kd.int .i64) w Ao out.length out) (ho : out.length = l.length) :
    Calls Try.prog 37 #[.pointer (some ⟨g, 0, none⟩), .slice (some ⟨ga, 0, none⟩) at_.length ca, .int .i64 (l.length : Int), .slice Ao out.length co] w fun e w' => e = .returned (.bool (clashF 2 V l out at_)) ∧ Below w.heap.size w w' := by
  obtain ⟨U, Y, D, gn, cn, gd, htri, hsep, _⟩ := h
  have hu65 := Try.underlying65
  have hu69 := Try.underlying69
  have hu67 := Try.underlying67
  have hu24 := Try.underlying24
  have hu63 := Try.underlying63
  have RD := rd_of hsep
  have HSP := Aside0.mk hsep
  have HRO := Aside0.mk hro
  have HR := Aside0.mk hR
  have HAT := Aside0.mk hat
  clear htri hsep hro hR
  have hle := hat.le
  have hne := hat.ne
  clear hat
  obtain ⟨L, hL⟩ : ∃ L, at_.length = L := ⟨_, rfl⟩
  rw [hL] at hle hne ⊢
  have HL := Aside0.mk hL
  have hcap := (Kd.R_reads' HR.out).2.1
  rw [hL] at hcap
  have hc0 : w.cell? ⟨g, 0, none⟩ = some (.int .i64 2) := (RD.h 0).trans rfl
  obtain ⟨i, hi⟩ : ∃ i, L = i + 1 := ⟨L - 1, by omega⟩
  have hil : i ≤ l.length := by omega
  have HOL := Aside0.mk ho
  have HI := Aside0.mk (And.intro hi hil)
  have hl1 : L - 1 = i := by omega
  have hL1 : 1 ≤ L := by omega
  have HC : Aside0 (clashF 2 V l out at_ = decide ((at_.drop 1).map V ≠ out.take (at_.length - 1))) := ⟨by
    unfold clashF
    rw [if_neg (by decide)]⟩
  clear RD ho
  by_cases hca : ca = 1
  · have hi0 : i = 0 := by omega
    have HI0 := Aside0.mk hi0
    clear hL hi hi0 hil
    go_enter Try.func37, Try.ntmps37
    go_wp2
    try rw [hl1]
    go_loopw [51] (fun v51 wr => ∃ q : Nat, v51 = .int .i64 (q : Int) ∧ Aside0 (q ≤ i) ∧ Aside0 (Below w.heap.size w wr) ∧ Aside0 (∀ j : Nat, j < q → V (at_.getD (1 + j) 0) = rd out (j : Int))) (fun v51 _ => i - (intOf v51).toNat)
    case atStart => exact ⟨0, rfl, ⟨Nat.zero_le _⟩, ⟨Below.refl _ _⟩, ⟨fun j hj => absurd hj (Nat.not_lt_zero _)⟩⟩
    case round =>
      obtain ⟨q, rfl, HQ, HB, HE⟩ := hrel
      by_cases hq : q < i
      · exact absurd hq (by have := HI0.out; omega)
      · have hq' : ¬ ((q : Int) < (i : Int)) := by omega
        have hqe : q = i := by have := HQ.out; omega
        have HT : Aside0 (clashF 2 V l out at_ = false) := ⟨by
          rw [HC.out]
          refine decide_eq_false (fun h => h ?_)
          apply List.ext_getElem
          · rw [List.length_map, List.length_drop, List.length_take, HL.out]; have := HI.out; have := HOL.out; omega
          · intro j h1 h2
            have hj : j < i := by rw [List.length_map, List.length_drop, HL.out] at h1; have := HI.out; omega
            have h3 := HE.out j (by omega)
            rw [rd_nat (by rw [HOL.out]; have := HI.out.2; omega), List.getD_eq_getElem?_getD, List.getElem?_eq_getElem (by rw [HL.out]; have := HI.out; omega)] at h3
            rw [List.getElem_map, List.getElem_drop, List.getElem_take]
            exact h3⟩
        clear hq hqe
        go_wp2
        go_ret
        exact ⟨by rw [HT.out]; rfl, HB.out⟩
  · have hca' : ¬ ca - 1 = 0 := by omega
    clear hL hi
    go_enter Try.func37, Try.ntmps37
    go_wp2
    try rw [hl1]
    go_loopw [51] (fun v51 wr => ∃ q : Nat, v51 = .int .i64 (q : Int) ∧ Aside0 (q ≤ i) ∧ Aside0 (Below w.heap.size w wr) ∧ Aside0 (∀ j : Nat, j < q → V (at_.getD (1 + j) 0) = rd out (j : Int))) (fun v51 _ => i - (intOf v51).toNat)
    case atStart => exact ⟨0, rfl, ⟨Nat.zero_le _⟩, ⟨Below.refl _ _⟩, ⟨fun j hj => absurd hj (Nat.not_lt_zero _)⟩⟩
    case round =>
      obtain ⟨q, rfl, HQ, HB, HE⟩ := hrel
      by_cases hq : q < i
      · have HQL := Aside0.mk hq
        have hq' : (q : Int) < (i : Int) := by omega
        have hla : 1 + q < at_.length := by rw [HL.out]; have := HI.out; omega
        obtain ⟨a, ha⟩ : ∃ a, at_[1 + q]? = some a := ⟨_, List.getElem?_eq_getElem hla⟩
        have hgd : at_.getD (1 + q) 0 = a := by rw [List.getD_eq_getElem?_getD, ha]; rfl
        have han := (HAT.out.ok _ a ha).1
        have hxa := (HB.out.cell (p := ⟨ga, 1 + q, none⟩) (Kd.R_lt HR.out ga rfl)).trans (tl_cell HR.out ha)
        have RD2 := Rd.low HSP.out HB.out
        have hc7 : wr.cell? ⟨g, 7, none⟩ = some (.slice (some ⟨gn, 0, none⟩) n cn) := (RD2.h 7).trans rfl
        have hva := (RD2.u a han).2.2.1
        have han' : (a : Int) < (n : Int) := by omega
        have hqo : q < out.length := by rw [HOL.out]; have := HI.out; omega
        have hqo' : (q : Int) < (out.length : Int) := by omega
        obtain ⟨ado, eo, hxo⟩ := Kd.at_int (Kd.C_below HRO.out HB.out) (q : Int) (by omega) hqo'
        subst eo
        rw [Int.toNat_natCast] at hxo
        have HEV : Aside0 (at_.getD (1 + q) 0 = a) := ⟨hgd⟩
        have HY : Aside0 (V a = rd out (q : Int) → ∀ j : Nat, j < q + 1 → V (at_.getD (1 + j) 0) = rd out (j : Int)) := ⟨fun he j hj => by
          by_cases e : j = q
          · subst e; rw [HEV.out]; exact he
          · exact HE.out j (by omega)⟩
        have HNE : Aside0 (V a ≠ rd out (q : Int) → clashF 2 V l out at_ = true) := ⟨fun he => by
          rw [HC.out]
          refine decide_eq_true (fun h => he ?_)
          have h1 := congrArg (fun l => l[q]?) h
          simp only [List.getElem?_map, List.getElem?_drop, ha, Option.map_some] at h1
          rw [List.getElem?_take, if_pos (by rw [HL.out]; have := HI.out; have := HQL.out; omega), List.getElem?_eq_getElem hqo] at h1
          injection h1 with h1
          rw [h1, rd_nat hqo]⟩
        generalize hz : V a = z at hva HY HNE
        generalize hy : rd out (q : Int) = y at hxo HY HNE
        clear RD2 hla han ha hq hz hy hgd hqo
        by_cases hzy : z = y
        · have hzb : (z != y) = false := by simpa using hzy
          have HY2 := Aside0.mk (HY.out hzy)
          clear hzy
          go_wp2
          go_quiet (fail)
          go_wp2
          go_roundw
          case rel => exact ⟨q + 1, by go_num, ⟨by have := HQL.out; omega⟩, ⟨pw_below_drewN HB.out _⟩, HY2⟩
          case measure => have := HQL.out; simp [intOf]; omega
        · have hzb : (z != y) = true := by simpa using hzy
          have HT := Aside0.mk (HNE.out hzy)
          clear hzy
          go_wp2
          go_quiet (fail)
          go_wp2
          try rw [Exit.noGoto_ret]
          go_ret
          exact ⟨by rw [HT.out]; rfl, pw_below_drewN HB.out _⟩
      · have hq' : ¬ ((q : Int) < (i : Int)) := by omega
        have hqe : q = i := by have := HQ.out; omega
        have HT : Aside0 (clashF 2 V l out at_ = false) := ⟨by
          rw [HC.out]
          refine decide_eq_false (fun h => h ?_)
          apply List.ext_getElem
          · rw [List.length_map, List.length_drop, List.length_take, HL.out]; have := HI.out; have := HOL.out; omega
          · intro j h1 h2
            have hj : j < i := by rw [List.length_map, List.length_drop, HL.out] at h1; have := HI.out; omega
            have h3 := HE.out j (by omega)
            rw [rd_nat (by rw [HOL.out]; have := HI.out.2; omega), List.getD_eq_getElem?_getD, List.getElem?_eq_getElem (by rw [HL.out]; have := HI.out; omega)] at h3
            rw [List.getElem_map, List.getElem_drop, List.getElem_take]
            exact h3⟩
        clear hq hqe
        go_wp2
        go_ret
        exact ⟨by rw [HT.out]; rfl, HB.out⟩
set_option maxHeartbeats 16000000 in
set_option maxRecDepth 100000 in
theorem Nodes_walk (base : Nat) (own : Nat → Prop) (g : Nat) (kd : Int) (K : Nat) (O : Int) (most n : Nat) (B : Nat → List Int) (V : Nat → Int) (hits misses : Int) (w : World) (h : (trie base own g kd K O most n B V hits misses).at_ w) : Calls Try.prog 18 #[.pointer (some ⟨g, 0, none⟩)] w fun e w' => e = .returned (.int .i64 (n : Int)) ∧ Below w.heap.size w w' := by
  obtain ⟨U, Y, D, gn, cn, gd, htri, hsep, _⟩ := h
  have hu65 := Try.underlying65
  have RD := rd_of hsep
  have hx : w.cell? ⟨g, 7, none⟩ = some (.slice (some ⟨gn, 0, none⟩) n cn) := (RD.h 7).trans rfl
  clear RD hsep htri
  go_enter Try.func18, Try.ntmps18
  go_wp2
  go_ret
  exact ⟨rfl, Below.refl _ _⟩
set_option maxHeartbeats 16000000 in
set_option maxRecDepth 100000 in
theorem Hits_walk (base : Nat) (own : Nat → Prop) (g : Nat) (kd : Int) (K : Nat) (O : Int) (most n : Nat) (B : Nat → List Int) (V : Nat → Int) (hits misses : Int) (w : World) (h : (trie base own g kd K O most n B V hits misses).at_ w) : Calls Try.prog 28 #[.pointer (some ⟨g, 0, none⟩)] w fun e w' => e = .returned (.int .i64 hits) ∧ Below w.heap.size w w' := by
  obtain ⟨U, Y, D, gn, cn, gd, htri, hsep, _⟩ := h
  have hu65 := Try.underlying65
  have RD := rd_of hsep
  have hx : w.cell? ⟨g, 8, none⟩ = some (.int .i64 hits) := (RD.h 8).trans rfl
  clear RD hsep htri
  go_enter Try.func28, Try.ntmps28
  go_wp2
  go_ret
  exact ⟨rfl, Below.refl _ _⟩
set_option maxHeartbeats 16000000 in
set_option maxRecDepth 100000 in
theorem Misses_walk (base : Nat) (own : Nat → Prop) (g : Nat) (kd : Int) (K : Nat) (O : Int) (most n : Nat) (B : Nat → List Int) (V : Nat → Int) (hits misses : Int) (w : World) (h : (trie base own g kd K O most n B V hits misses).at_ w) : Calls Try.prog 29 #[.pointer (some ⟨g, 0, none⟩)] w fun e w' => e = .returned (.int .i64 misses) ∧ Below w.heap.size w w' := by
  obtain ⟨U, Y, D, gn, cn, gd, htri, hsep, _⟩ := h
  have hu65 := Try.underlying65
  have RD := rd_of hsep
  have hx : w.cell? ⟨g, 9, none⟩ = some (.int .i64 misses) := (RD.h 9).trans rfl
  clear RD hsep htri
  go_enter Try.func29, Try.ntmps29
  go_wp2
  go_ret
  exact ⟨rfl, Below.refl _ _⟩
theorem Find_any (base : Nat) (own : Nat → Prop) (g : Nat) (kd : Int) (K : Nat) (O : Int) (most n : Nat) (B : Nat → List Int) (V : Nat → Int) (hits misses : Int) (hkd : kd = 1 ∨ kd = 2) (w : World) (h : (trie base own g kd K O most n B V hits misses).at_ w) (hn : n ≤ 1048576) (hK : K ≤ 64) (l : List Int) (A : Option Addr) (c : Nat) (hr : Kd.C (Kd.int .i64) w A l.length l) (hl : l.length ≤ 1000000) :
    Calls Try.prog 38 #[.pointer (some ⟨g, 0, none⟩), .slice A l.length c] w (FindPost w kd n B V l) := by
  rcases hkd with rfl | rfl
  · exact Find_1 base own g K O most n B V hits misses w h hn hK l A c hr hl
  · exact Find_2 base own g K O most n B V hits misses w h hn hK l A c hr hl
def HasPost (w : World) (kd : Int) (n : Nat) (B : Nat → List Int) (V : Nat → Int) (l : List Int) : Ending → World → Prop := fun e w' => ∃ at_ : List Nat, e = .returned (.bool (tellF kd V l at_).2) ∧ At n B l at_ ∧ Stop n B l at_ ∧ Below w.heap.size w w'
set_option maxHeartbeats 16000000 in
set_option maxRecDepth 100000 in
theorem Has_walk (base : Nat) (own : Nat → Prop) (g : Nat) (kd : Int) (K : Nat) (O : Int) (most n : Nat) (B : Nat → List Int) (V : Nat → Int) (hits misses : Int) (hkd : kd = 1 ∨ kd = 2) (w : World) (h : (trie base own g kd K O most n B V hits misses).at_ w) (hn : n ≤ 1048576) (hK : K ≤ 64) (l : List Int) (A : Option Addr) (c : Nat) (hr : Kd.C (Kd.int .i64) w A l.length l) (hl : l.length ≤ 1000000) :
    Calls Try.prog 27 #[.pointer (some ⟨g, 0, none⟩), .slice A l.length c] w (HasPost w kd n B V l) := by
  go_enter Try.func27, Try.ntmps27
  go_wp2_with (
     go_at_call 38
     refine (Find_any base own g kd K O most n B V hits misses hkd w h hn hK l A c hr hl).mono ?_
     rintro e w1 ⟨v, at_, rfl, hR, hat, hst, hb⟩
     have HR := Aside0.mk hR
     have HAT := Aside0.mk hat
     have HST := Aside0.mk hst
     have HB := Aside0.mk hb
     clear hR hat hst hb)
  go_ret
  exact ⟨at_, rfl, HAT.out, HST.out, HB.out⟩
theorem Hold.pack {base : Nat} {own : Nat → Prop} {w0 w : World} {ms : List Res} {g : Nat} {kd : Int} {K : Nat} {O : Int} {most n : Nat} {B : Nat → List Int} {U Y : Nat → Nat} {V : Nat → Int} {D : Nat → Nat → Nat} {gn cn : Nat} {gd : Nat → Nat} {hits misses : Int} (h : Hold base own w0 (ms ++ tpc base g kd K O most n U Y V D gn cn gd hits misses) w) (hi : Tri n K B U Y D) :
    Hold base own w0 (ms ++ [trie base (fun k => ∃ r ∈ tpc base g kd K O most n U Y V D gn cn gd hits misses, r.own k) g kd K O most n B V hits misses]) w := by
  have hp := List.pairwise_append.1 h.sep.2
  have hs2 : Sep base (tpc base g kd K O most n U Y V D gn cn gd hits misses) w := h.sep.sub (List.sublist_append_right _ _)
  refine ⟨⟨fun r hr => ?_, List.pairwise_append.2 ⟨hp.1, List.pairwise_singleton _ _, fun a ha b hb k hk hk' => ?_⟩⟩, fun r hr k hk => ?_, h.kept, h.below, h.hb⟩
  · rcases List.mem_append.1 hr with hr | hr
    · exact h.sep.1 r (List.mem_append_left _ hr)
    · rw [List.mem_singleton] at hr
      subst hr
      refine ⟨⟨U, Y, D, gn, cn, gd, hi, hs2, fun r hr k hk => ⟨r, hr, hk⟩⟩, fun k hk => ?_⟩
      obtain ⟨q, hq, hqk⟩ := hk
      exact (hs2.1 q hq).2 k hqk
  · rw [List.mem_singleton] at hb
    subst hb
    obtain ⟨q, hq, hqk⟩ := hk'
    exact hp.2.2 a ha q hq k hk hqk
  · rcases List.mem_append.1 hr with hr | hr
    · exact h.mine r (List.mem_append_left _ hr) k hk
    · rw [List.mem_singleton] at hr
      subst hr
      obtain ⟨q, hq, hqk⟩ := hk
      exact h.mine q (List.mem_append_right _ hq) k hqk
/-- A piece that a call turned, and a row that it answered. -/
theorem Sep.turn {base : Nat} {own : Nat → Prop} {rs : List Res} {w w1 : World} {p p' m : Res} (h : Sep base rs w) (i j : Nat) (hi : rs[i]? = some p) (hp : ∀ k, p.own k → own k) (hp2 : ∀ k, own k → p.own k) (hj : rs[j]? = some none_) (hij : i ≠ j) (hh : Hold base own w [m, p'] w1) : Sep base ((rs.set i p').set j m) w1 := by
  have hil := (List.getElem?_eq_some_iff.1 hi).1
  have hjl := (List.getElem?_eq_some_iff.1 hj).1
  have hget : ∀ a x, ((rs.set i p').set j m)[a]? = some x → (a = j ∧ x = m) ∨ (a ≠ j ∧ a = i ∧ x = p') ∨ (a ≠ j ∧ a ≠ i ∧ rs[a]? = some x) := by
    intro a x hx
    by_cases ha : a = j
    · subst ha
      rw [List.getElem?_set_self (by simpa using hjl)] at hx
      exact .inl ⟨rfl, (Option.some.inj hx).symm⟩
    · rw [List.getElem?_set_ne (fun e => ha e.symm)] at hx
      by_cases hb : a = i
      · subst hb
        rw [List.getElem?_set_self hil] at hx
        exact .inr (.inl ⟨ha, rfl, (Option.some.inj hx).symm⟩)
      · rw [List.getElem?_set_ne (fun e => hb e.symm)] at hx
        exact .inr (.inr ⟨ha, hb, hx⟩)
  have old : ∀ a x, a ≠ i → rs[a]? = some x → ∀ k, x.own k → ¬ own k ∧ k < w.heap.size ∧ base ≤ k := fun a x ha hx k hk => ⟨fun ho => h.apart hx hi ha hk (hp2 k ho), (h.bound a hx hk).2, (h.bound a hx hk).1⟩
  have new : ∀ r ∈ [m, p'], ∀ k, r.own k → own k ∨ w.heap.size ≤ k := hh.mine
  refine Sep.of_apart (fun a x hx => ?_) (fun a b x y hx hy hab k hk hk' => ?_)
  · rcases hget a x hx with ⟨_, rfl⟩ | ⟨_, _, rfl⟩ | ⟨_, h2, h3⟩
    · exact ⟨hh.get 0 rfl, fun k hk => hh.sep.bound 0 rfl hk⟩
    · exact ⟨hh.get 1 rfl, fun k hk => hh.sep.bound 1 rfl hk⟩
    · refine ⟨x.step (h.get a h3) (fun k hk hlt => hh.kept k hlt (old a x h2 h3 k hk).1), fun k hk => ?_⟩
      have := old a x h2 h3 k hk
      have := hh.size
      omega
  · rcases hget a x hx with ⟨ha, rfl⟩ | ⟨ha, ha2, rfl⟩ | ⟨ha, ha2, hx3⟩
    · rcases hget b y hy with ⟨hb, rfl⟩ | ⟨hb, hb2, rfl⟩ | ⟨hb, hb2, hy3⟩
      · exact hab (ha.trans hb.symm)
      · exact hh.sep.apart (i := 0) (j := 1) rfl rfl (by decide) hk hk'
      · have g1 := old b y hb2 hy3 k hk'
        rcases new x (by simp) k hk with h1 | h1
        · exact g1.1 h1
        · omega
    · rcases hget b y hy with ⟨hb, rfl⟩ | ⟨hb, hb2, rfl⟩ | ⟨hb, hb2, hy3⟩
      · exact hh.sep.apart (i := 1) (j := 0) rfl rfl (by decide) hk hk'
      · exact hab (ha2.trans hb2.symm)
      · have g1 := old b y hb2 hy3 k hk'
        rcases new x (by simp) k hk with h1 | h1
        · exact g1.1 h1
        · omega
    · have g1 := old a x ha2 hx3 k hk
      rcases hget b y hy with ⟨hb, rfl⟩ | ⟨hb, hb2, rfl⟩ | ⟨hb, hb2, hy3⟩
      · rcases new y (by simp) k hk' with h1 | h1
        · exact g1.1 h1
        · omega
      · rcases new y (by simp) k hk' with h1 | h1
        · exact g1.1 h1
        · omega
      · exact h.apart hx3 hy3 hab hk hk'
def GetPost (base : Nat) (own : Nat → Prop) (g : Nat) (kd : Int) (K : Nat) (O : Int) (most n : Nat) (B : Nat → List Int) (V : Nat → Int) (hits misses : Int) (l : List Int) (w : World) : Ending → World → Prop := fun e w' => ∃ (v : Value) (at_ : List Nat) (own' : Nat → Prop), e = .returned (.tuple #[v, .bool (tellF kd V l at_).2]) ∧ At n B l at_ ∧ Stop n B l at_ ∧ Hold base own w [Sp.ints base v (tellF kd V l at_).1, trie base own' g kd K O most n B V (if (tellF kd V l at_).2 = true then hits + 1 else hits) (if (tellF kd V l at_).2 = true then misses else misses + 1)] w'
set_option maxHeartbeats 16000000 in
set_option maxRecDepth 100000 in
theorem Get_walk (base : Nat) (own : Nat → Prop) (g : Nat) (kd : Int) (K : Nat) (O : Int) (most n : Nat) (B : Nat → List Int) (V : Nat → Int) (hits misses : Int) (hkd : kd = 1 ∨ kd = 2) (w : World) (h : (trie base own g kd K O most n B V hits misses).at_ w) (hn : n ≤ 1048576) (hK : K ≤ 64) (l : List Int) (A : Option Addr) (c : Nat) (hr : Kd.C (Kd.int .i64) w A l.length l) (hl : l.length ≤ 1000000) (hb0 : base ≤ w.heap.size) (hh0 : 0 ≤ hits ∧ hits ≤ 1000000000) (hm0 : 0 ≤ misses ∧ misses ≤ 1000000000) :
    Calls Try.prog 16 #[.pointer (some ⟨g, 0, none⟩), .slice A l.length c] w (GetPost base own g kd K O most n B V hits misses l w) := by
  have HH := Aside0.mk h
  have hu65 := Try.underlying65
  go_enter Try.func16, Try.ntmps16
  go_upto_region 4 with (
     go_at_call 38
     refine (Find_any base own g kd K O most n B V hits misses hkd w h hn hK l A c hr hl).mono ?_
     rintro e w1 ⟨v, at_, rfl, hR, hat, hst, hb⟩
     have HR := Aside0.mk hR
     have HAT := Aside0.mk hat
     have HST := Aside0.mk hst
     have HB := Aside0.mk hb
     clear hR hat hst hb)
  obtain ⟨U, Y, D, gn, cn, gd, htri, hsep, hmine⟩ := h
  have HT := Aside0.mk htri
  have H0 := Hold.start hsep hmine hb0
  have H1 := Aside0.mk (H0.free.fillRow 0 rfl rfl HR.out HB.out)
  have RD := Rd.low hsep HB.out
  have hx8 : w1.cell? ⟨g, 8, none⟩ = some (.int .i64 hits) := (RD.h 8).trans rfl
  have hx9 : w1.cell? ⟨g, 9, none⟩ = some (.int .i64 misses) := (RD.h 9).trans rfl
  have hf8 : w1.frozen? ⟨g, 8, none⟩ = false := blk_frozen (H1.out.get 1 rfl) 8
  have hf9 : w1.frozen? ⟨g, 9, none⟩ = false := blk_frozen (H1.out.get 1 rfl) 9
  have hw8 : IntKind.i64.wrap (hits + 1) = hits + 1 := by rw [i64_w]; unfold wrap64; omega
  have hw9 : IntKind.i64.wrap (misses + 1) = misses + 1 := by rw [i64_w]; unfold wrap64; omega
  clear RD htri hsep hmine H0 hh0 hm0
  generalize hok : (tellF kd V l at_).2 = ok
  have HOK := Aside0.mk hok
  clear hok
  cases ok with
  | true =>
    have H2 := Aside0.mk (Hold.pack (ms := [_]) (H1.out.cell 1 rfl 8 (.int .i64 (hits + 1)) (cs' := hdr kd K O most gn n cn (hits + 1) misses) rfl) HT.out)
    go_wp2
    go_ret2
    exact ⟨v, at_, _, by rw [HOK.out]; rfl, HAT.out, HST.out, by rw [HOK.out, if_pos rfl, if_pos rfl]; exact H2.out⟩
  | false =>
    have H2 := Aside0.mk (Hold.pack (ms := [_]) (H1.out.cell 1 rfl 9 (.int .i64 (misses + 1)) (cs' := hdr kd K O most gn n cn hits (misses + 1)) rfl) HT.out)
    go_wp2
    go_ret2
    exact ⟨v, at_, _, by rw [HOK.out]; rfl, HAT.out, HST.out, by rw [HOK.out, if_neg (by decide), if_neg (by decide)]; exact H2.out⟩
end Go.Proofs.Ytdijkhamebkfjaa.X
end
