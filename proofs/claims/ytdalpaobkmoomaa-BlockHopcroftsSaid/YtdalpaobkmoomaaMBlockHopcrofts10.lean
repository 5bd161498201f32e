/- Texts of the statement BlockHopcrofts, one behind the other: Go functions as Lean functions, the machine's calls, the plain law. -/
import Derived.Test.YtdalpaobkmoomaaMBlockHopcrofts0
import Derived.Test.YtdalpaobkmoomaaMBlockHopcrofts6
import Derived.Test.YtdalpaobkmoomaaMBlockHopcrofts8
set_option linter.unusedVariables false
set_option linter.unusedSimpArgs false
section
namespace Go.Proofs.Ytdalpaobkmoomaa.X
open Go.RowKit Go.Proofs.YtdalpaobkmoomaaW.PrintWords Go.Proofs.YtdalpaobkmoomaaW.PrintLast Go.Proofs.YtdalpaobkmoomaaW.PrintMore
open Go.Proofs.Ytdalpaobkmoomaa Go.Proofs.Ytdalpaobkmoomaa.Sp
def pairC (p : Int × Int) : List Value := [.int .i64 p.1, .int .i64 p.2]
def kpair : Kd (Int × Int) where
  sz := 2
  E := []
  K := fun _ s cs => cs = pairC s
  M := fun _ _ _ s cs => cs = pairC s
  K_len := fun h => by rw [h]; rfl
  K_one := fun h v hv => by
    rw [h] at hv
    simp only [pairC, List.mem_cons, List.not_mem_nil, or_false] at hv
    rcases hv with rfl | rfl <;> rfl
  K_below := fun _ h => h
  K_of_M := fun h => h
  M_mono := fun _ h => h
  M_bound := fun h => h
  M_move := fun _ h => h
  M_lower := fun _ h => h
abbrev pairs (base : Nat) (v : Value) (xs : List (Int × Int)) : Res := Sp.row kpair 61 base v xs
theorem pair_cells {w : World} {base : Nat} {ok : Nat → Prop} {g n c : Nat} {row : List (Int × Int)} (h : Kd.R kpair 61 w base ok (.slice (some ⟨g, 0, none⟩) n c) row) (i : Nat) (p : Int × Int) (hp : row[i]? = some p) :
    w.cell? ⟨g, i * 2, none⟩ = some (.int .i64 p.1) ∧ w.cell? ⟨g, i * 2 + 1, none⟩ = some (.int .i64 p.2) ∧ w.frozen? ⟨g, i * 2, none⟩ = false := by
  obtain ⟨_, inner, ho, hr⟩ := h
  have hi := (List.getElem?_eq_some_iff.1 hp).1
  rcases ho.2 with ⟨h1, h0⟩ | ⟨g', cap, cur, h1, hb, hc, hle, hcap, hsz, htk⟩
  · cases h1
  · injection h1 with h2 h3 h4
    injection h2 with h2
    injection h2 with h2 _ _
    subst h2
    have hw := hr.2 i p hp
    change List.take 2 (List.drop (i * 2) inner) = pairC p at hw
    change List.take (row.length * 2) cur.toList = inner at htk
    have hj : ∀ j, j < 2 → w.cell? ⟨g, i * 2 + j, none⟩ = (pairC p)[j]? := by
      intro j hj
      rw [cell_of_row w g _ cur 61 (0, 0) hc, ← hw, List.getElem?_take, if_pos hj, List.getElem?_drop, ← htk, List.getElem?_take, if_pos (by omega)]
      simp
    exact ⟨hj 0 (by omega), hj 1 (by omega), blk_frozen hc _⟩
/-- The first of a pair is written. -/
theorem pair_put {w : World} {base : Nat} {ok : Nat → Prop} {g n c : Nat} {row : List (Int × Int)} (h : Kd.R kpair 61 w base ok (.slice (some ⟨g, 0, none⟩) n c) row) (i : Nat) (p : Int × Int) (hp : row[i]? = some p) (a : Int) :
    Kd.R kpair 61 (w.setCell ⟨g, i * 2, none⟩ (.int .i64 a)) base ok (.slice (some ⟨g, 0, none⟩) n c) (row.set i (a, p.2)) := by
  have hi := (List.getElem?_eq_some_iff.1 hp).1
  have hn : n = row.length := (Kd.R_reads' h).1
  subst hn
  obtain ⟨h0, inner, ho, hr⟩ := h
  refine ⟨h0, inner.set (i * 2) (.int .i64 a), ?_, ?_, fun j q hq => ?_⟩
  · rw [List.length_set]
    exact (World.ownsRow.stored ho (i * 2) (.int .i64 a)).1
  · rw [List.length_set, List.length_set]
    exact hr.1
  · change List.take 2 (List.drop (j * 2) (inner.set (i * 2) (.int .i64 a))) = pairC q
    rw [List.getElem?_set] at hq
    by_cases e : i = j
    · subst e
      rw [if_pos rfl, if_pos hi] at hq
      obtain rfl := Option.some.inj hq
      have hw := hr.2 i p hp
      change List.take 2 (List.drop (i * 2) inner) = pairC p at hw
      have hil : inner.length = row.length * 2 := hr.1
      apply List.ext_getElem?
      intro k
      have hk := congrArg (fun l => l[k]?) hw
      simp only [List.getElem?_take, List.getElem?_drop] at hk ⊢
      rw [List.getElem?_set]
      match k with
      | 0 => simp [pairC, show i * 2 < inner.length by omega]
      | 1 => simpa [pairC] using hk
      | k + 2 =>
        rw [if_neg (by omega)]
        simp [pairC]
    · rw [if_neg e] at hq
      have hw := hr.2 j q hq
      change List.take 2 (List.drop (j * 2) inner) = pairC q at hw
      rw [← hw]
      apply List.ext_getElem?
      intro k
      simp only [List.getElem?_take, List.getElem?_drop]
      by_cases hk : k < 2
      · rw [if_pos hk, if_pos hk, List.getElem?_set_ne (by omega)]
      · rw [if_neg hk, if_neg hk]
def numsA (xs : List Int) : Array Value := (xs.map (Value.int .i64)).toArray
def boolsA (n : Nat) (D : Nat → Bool) : Array Value := ((List.range n).map fun i => Value.bool (D i)).toArray
theorem nums_cell {w : World} {g : Nat} {xs : List Int} (h : w.heap[g]? = some (.cells (numsA xs) 3 (0, 0))) (j : Nat) (hj : j < xs.length) : w.cell? ⟨g, j, none⟩ = some (.int .i64 (rd xs j)) := by
  rw [blk_cell h]
  simp [numsA, rd, List.getD_eq_getElem?_getD, List.getElem?_eq_getElem hj]
theorem lst_cell {w : World} {g n : Nat} {C : Nat → Nat} (h : w.heap[g]? = some (.cells (numsA (lst n C)) 3 (0, 0))) {j : Nat} (hj : j < n) : w.cell? ⟨g, j, none⟩ = some (.int .i64 (C j : Int)) := by
  rw [nums_cell h j (by rw [lst_len]; exact hj), rd_lst C hj]
theorem bools_cell {w : World} {g n : Nat} {D : Nat → Bool} (h : w.heap[g]? = some (.cells (boolsA n D) 4 (0, 0))) {j : Nat} (hj : j < n) : w.cell? ⟨g, j, none⟩ = some (.bool (D j)) := by
  rw [blk_cell h]
  simp [boolsA, hj]
theorem lstA_set {n : Nat} (C : Nat → Nat) {i : Nat} (h : i < n) (v : Nat) : (numsA (lst n C)).setIfInBounds i (.int .i64 (v : Int)) = numsA (lst n (upd C i v)) := by
  rw [← lst_set C h v]
  simp [numsA, List.map_set]
theorem boolsA_set {n : Nat} (D : Nat → Bool) {i : Nat} (v : Bool) : (boolsA n D).setIfInBounds i (.bool v) = boolsA n (upd D i v) := by
  apply Array.ext'
  simp only [boolsA, List.setIfInBounds_toArray]
  apply List.ext_getElem?
  intro j
  by_cases hj : j < n
  · rw [List.getElem?_set, List.length_map, List.length_range, List.getElem?_map, List.getElem?_map, List.getElem?_range hj]
    by_cases e : i = j
    · subst e; simp [upd_at, hj]
    · rw [if_neg e]; simp [upd_ne D v (fun h => e h.symm)]
  · rw [List.getElem?_eq_none (by simpa using hj), List.getElem?_eq_none (by simpa using hj)]
theorem made_cells (z : Value) (n : Nat) : madeCells #[z] n = (List.replicate n z).toArray := by
  apply Array.ext'
  simp only [madeCells]
  apply List.ext_getElem
  · simp
  · intro i h1 h2
    simp [Nat.mod_one]
theorem made_nums (n : Nat) : madeCells #[Value.int .i64 0] n = numsA (lst n fun _ => 0) := by
  rw [made_cells]
  simp [numsA, lst, List.map_const']
theorem made_bools (n : Nat) : madeCells #[Value.bool false] n = boolsA n fun _ => false := by
  rw [made_cells]
  simp [boolsA, List.map_const']
theorem nums_C {w : World} {g : Nat} {xs : List Int} (h : w.heap[g]? = some (.cells (numsA xs) 3 (0, 0))) (hm : xs.length ≤ 9223372036854775807) : Kd.C (Kd.int .i64) w (some ⟨g, 0, none⟩) xs.length xs :=
  Kd.C_of_reads (d := (0 : Int)) ⟨rfl, hm, fun _ => ⟨_, rfl, fun j hj => by
    have := nums_cell h j hj
    rw [Addr.add_mid, Nat.zero_add]
    simpa [rd] using this⟩⟩
/-- make([]T, n) for an element of one cell. -/
theorem fresh_make {t e : TypeId} {z : Value} {bytes : Nat} (ht : Try.prog.underlying t = some (.slice e)) (hinfo : (Try.prog.info? e).map (fun i => (i.zero, i.size, i.bytes)) = some (some z, 1, bytes)) (hz : z.cells = #[z]) (hb0 : 0 < bytes) (hb8 : bytes ≤ 8)
    {ops : Array Oper} {rest : List Oper} {o : Oper} {a : Act} {Q : Exit → Act → World → Prop} {W : World} (hgd : o.guard = none) {x : Operand} (ho : o.op = .makeSlice t x x) {N : Int} (hx : a.eval x = .int .i64 N) (h0 : 0 ≤ N) (h1 : N ≤ 65536)
    (h : ∀ w1, w1.heap[W.heap.size]? = some (.cells (madeCells #[z] N.toNat) e (0, 0)) → Below W.heap.size W w1 → w1.heap.size = W.heap.size + 1 → wpList Try.prog ops Q rest (a.put o.dst (.slice (some ⟨W.heap.size, 0, none⟩) N.toNat N.toNat)) w1) : wpList Try.prog ops Q (o :: rest) a W := by
  have hm : N.toNat * bytes ≤ 65536 * 8 := Nat.mul_le_mul (by omega) hb8
  have hmk := print_make_int t e z bytes ht hinfo hz hb0 N h0 (by omega) W
  refine Kd.event_run hgd (v := .slice (some ⟨W.heap.size, 0, none⟩) N.toNat N.toNat) (w1 := W.alloc (.cells (madeCells #[z] N.toNat) e)) ?_ (h _ (blk_new W _) (below_alloc (Below.refl _ _) _) (by simp))
  unfold execOp
  simp [ho, hx, hmk, Result.andThen]
structure Hold (base : Nat) (own : Nat → Prop) (w0 : World) (rs : List Res) (w : World) : Prop where
  sep : Sep base rs w
  mine : ∀ r ∈ rs, ∀ k, r.own k → own k ∨ w0.heap.size ≤ k
  kept : ∀ k, k < w0.heap.size → ¬ own k → w.heap[k]? = w0.heap[k]?
  below : Below base w0 w
  hb : base ≤ w0.heap.size
section
variable {base : Nat} {own : Nat → Prop} {w0 w w1 : World} {rs : List Res}
theorem Hold.start {rs : List Res} (h : Sep base rs w0) (hm : ∀ r ∈ rs, ∀ k, r.own k → own k) (hb : base ≤ w0.heap.size) : Hold base own w0 rs w0 :=
  ⟨h, fun r hr k hk => .inl (hm r hr k hk), fun _ _ _ => rfl, Below.refl _ _, hb⟩
theorem Hold.size (h : Hold base own w0 rs w) : w0.heap.size ≤ w.heap.size := by
  exact h.below.size
theorem Hold.get (h : Hold base own w0 rs w) (i : Nat) {r : Res} (hi : rs[i]? = some r) : r.at_ w := h.sep.get i hi
theorem Hold.bsize (h : Hold base own w0 rs w) : base ≤ w.heap.size := Nat.le_trans h.hb h.size
theorem Hold.upd (h : Hold base own w0 rs w) (i : Nat) {r r' : Res} (hi : rs[i]? = some r) (hat : r'.at_ w1) (hk : ∀ k, ¬ r.own k → k < w.heap.size → w1.heap[k]? = w.heap[k]?) (ho : ∀ k, r'.own k → (r.own k ∨ w.heap.size ≤ k) ∧ k < w1.heap.size) (hs : w.heap.size ≤ w1.heap.size) (hbel : Below base w0 w1) : Hold base own w0 (rs.set i r') w1 := by
  have hri := h.mine r (List.mem_of_getElem? hi)
  refine ⟨h.sep.upd i hi hat hk ho h.bsize hs, fun q hq k hqk => ?_, fun k hk0 hno => ?_, hbel, h.hb⟩
  · rcases List.mem_or_eq_of_mem_set hq with h1 | rfl
    · exact h.mine q h1 k hqk
    · rcases (ho k hqk).1 with h2 | h2
      · exact hri k h2
      · exact .inr (Nat.le_trans h.size h2)
  · rw [hk k (fun hrk => by
      rcases hri k hrk with h1 | h1
      · exact hno h1
      · omega) (Nat.lt_of_lt_of_le hk0 h.size)]
    exact h.kept k hk0 hno
theorem Hold.low (h : Hold base own w0 rs w) (hb : Below w.heap.size w w1) : Hold base own w0 rs w1 :=
  ⟨h.sep.low hb, h.mine, fun k hk hno => (hb.block k (Nat.lt_of_lt_of_le hk h.size)).trans (h.kept k hk hno), below_then h.below h.bsize hb, h.hb⟩
theorem Hold.free (h : Hold base own w0 rs w) : Hold base own w0 (none_ :: rs) w :=
  ⟨h.sep.free none_ trivial (fun _ hk => hk.elim), fun r hr k hk => by
    rcases List.mem_cons.1 hr with rfl | hr
    · exact hk.elim
    · exact h.mine r hr k hk, h.kept, h.below, h.hb⟩
/-- A store into a block. -/
theorem Hold.cell {g : Nat} {cs cs' : Array Value} {t : TypeId} (h : Hold base own w0 rs w) (i : Nat) (hi : rs[i]? = some (blk g cs t)) (j : Nat) (u : Value) (e : cs.setIfInBounds j u = cs') : Hold base own w0 (rs.set i (blk g cs' t)) (w.setCell ⟨g, j, none⟩ u) :=
  h.upd i hi (blk_put (h.get i hi) j u e) (fun k hk _ => Below.heap_setCell w ⟨g, j, none⟩ u k hk) (fun k hk => ⟨.inl hk, by rw [show k = g from hk]; simpa using blk_lt (h.get i hi)⟩) (by simp) (h.below.setCell (h.sep.bound i hi (show g = g from rfl)).1 _)
/-- A store into a row of numbers. -/
theorem Hold.put {g n cap : Nat} {xs : List Int} (h : Hold base own w0 rs w) (i : Nat) (hi : rs[i]? = some (ints base (.slice (some ⟨g, 0, none⟩) n cap) xs)) (j : Nat) (x : Int) :
    Hold base own w0 (rs.set i (ints base (.slice (some ⟨g, 0, none⟩) n cap) (xs.set j x))) (w.setCell ⟨g, j, none⟩ (.int .i64 x)) := by
  obtain ⟨h2, h3⟩ := Kd.R_putg (h.get i hi) (j : Int) x
  rw [Int.toNat_natCast] at h2 h3
  have hg : base ≤ g := (h.sep.bound i hi (k := g) rfl).1
  refine h.upd i hi h2 (fun k hk hlt => h3.block k hlt (fun e => hk (show some k = some g from e))) (fun k hk => ⟨.inl hk, ?_⟩) h3.size (h.below.setCell hg _)
  exact Kd.R_lt h2 k (show _ = some k from hk.symm)
/-- A store into the first of a pair. -/
theorem Hold.putPair {g n cap : Nat} {xs : List (Int × Int)} (h : Hold base own w0 rs w) (i : Nat) (hi : rs[i]? = some (pairs base (.slice (some ⟨g, 0, none⟩) n cap) xs)) (j : Nat) (p : Int × Int) (hp : xs[j]? = some p) (a : Int) :
    Hold base own w0 (rs.set i (pairs base (.slice (some ⟨g, 0, none⟩) n cap) (xs.set j (a, p.2)))) (w.setCell ⟨g, j * 2, none⟩ (.int .i64 a)) := by
  have h2 := pair_put (h.get i hi) j p hp a
  have hg : base ≤ g := (h.sep.bound i hi (k := g) rfl).1
  refine h.upd i hi h2 (fun k hk _ => Below.heap_setCell w ⟨g, j * 2, none⟩ _ k (fun e => hk (show some k = some g by rw [e]))) (fun k hk => ⟨.inl hk, ?_⟩) (by simp) (h.below.setCell hg _)
  exact Kd.R_lt h2 k (show _ = some k from hk.symm)
/-- An append to a row. -/
theorem Hold.app {α : Type} {d : Kd α} {e : Nat} {ok : Nat → Prop} {v v1 : Value} {xs xs1 : List α} (h : Hold base own w0 rs w) (i : Nat) (hi : rs[i]? = some (row d e base v xs)) (hE : d.E = []) (hr : d.R e w1 base ok v1 xs1) (hg : w.grownBy w1 v.ownBlock) (hat : v1.ownBlock = v.ownBlock ∨ ∃ b, v1.ownBlock = some b ∧ w.heap.size ≤ b) :
    Hold base own w0 (rs.set i (row d e base v1 xs1)) w1 := by
  refine h.upd i hi (Kd.R_tight hE hr) (fun k hk hlt => hg.block k hlt hk) (fun k hk => ?_) hg.size (pw_below_grown h.below _ h.bsize hg (fun k hk => (h.sep.bound i hi (k := k) hk.symm).1))
  have hk' : some k = v1.ownBlock := hk
  refine ⟨?_, Kd.R_lt hr k hk'.symm⟩
  rcases hat with h1 | ⟨b, h1, h2⟩
  · exact .inl (hk'.trans h1)
  · rw [h1] at hk'
    injection hk' with hk'
    exact .inr (by omega)
/-- A store into a map. -/
theorem Hold.putMap {α β : Type} {b : Nat} {enc : α → Value} {venc : β → Value} {es es1 : List (α × β)} (h : Hold base own w0 rs w) (i : Nat) (hi : rs[i]? = some (mp b enc venc es)) (hm : Vm.MapAt w1 b enc venc es1) (hg : w.grownBy w1 (some b)) : Hold base own w0 (rs.set i (mp b enc venc es1)) w1 :=
  h.upd i hi hm (fun k hk hlt => hg.block k hlt (fun e => hk (by injection e))) (fun k hk => ⟨.inl hk, by have := hm.lt; rw [show k = b from hk]; exact this⟩) hg.size (pw_below_grown h.below _ h.bsize hg (fun k hk => by injection hk with hk; exact (h.sep.bound i hi (k := k) hk.symm).1))
/-- A new piece in the place of nothing. -/
theorem Hold.fill (h : Hold base own w0 rs w) (i : Nat) (hi : rs[i]? = some none_) (r : Res) (hat : r.at_ w1) (hb : Below w.heap.size w w1) (ho : ∀ k, r.own k → w.heap.size ≤ k ∧ k < w1.heap.size) : Hold base own w0 (rs.set i r) w1 :=
  h.upd i hi hat (fun k _ hlt => hb.block k hlt) (fun k hk => ⟨.inr (ho k hk).1, (ho k hk).2⟩) hb.size (below_then h.below h.bsize hb)
theorem Hold.fillBlk (h : Hold base own w0 rs w) (i : Nat) (hi : rs[i]? = some none_) {g : Nat} {cs : Array Value} {t : TypeId} (hg : g = w.heap.size) (hbox : w1.heap[g]? = some (.cells cs t (0, 0))) (hb : Below w.heap.size w w1) : Hold base own w0 (rs.set i (blk g cs t)) w1 :=
  h.fill i hi _ hbox hb (fun k hk => by have hk : k = g := hk; have := blk_lt hbox; omega)
theorem Hold.fillMap {α β : Type} (h : Hold base own w0 rs w) (i : Nat) (hi : rs[i]? = some none_) (enc : α → Value) (venc : β → Value) : Hold base own w0 (rs.set i (mp w.heap.size enc venc [])) (w.alloc (.map #[] 0)) :=
  h.fill i hi _ (Vm.map_new w enc venc) (below_alloc (Below.refl _ _) _) (fun k hk => by rw [show k = w.heap.size from hk]; simp)
theorem Hold.fillNil {α : Type} (h : Hold base own w0 rs w) (i : Nat) (hi : rs[i]? = some none_) (d : Kd α) (e : Nat) : Hold base own w0 (rs.set i (row d e base (.slice none 0 0) [])) w :=
  h.upd i hi (Kd.R_nil _ _ _ _ _) (fun k _ _ => rfl) (fun k hk => by simp [row, Value.ownBlock] at hk) (Nat.le_refl _) h.below
theorem Hold.fillRow {α : Type} {d : Kd α} {e : Nat} {ok : Nat → Prop} {v : Value} {xs : List α} (h : Hold base own w0 rs w) (i : Nat) (hi : rs[i]? = some none_) (hE : d.E = []) (hr : d.R e w1 w.heap.size ok v xs) (hb : Below w.heap.size w w1) : Hold base own w0 (rs.set i (row d e base v xs)) w1 :=
  h.fill i hi _ (Kd.R_tight hE (Kd.R_lower hr h.bsize)) hb (fun k hk => by
    have hk' : some k = v.ownBlock := hk
    have h2 := Kd.R_lt hr k hk'.symm
    rcases Kd.R_base2 hr with h3 | ⟨j, h3, h4⟩
    · rw [h3] at hk'; cases hk'
    · rw [h3] at hk'; injection hk' with h1; omega)
/-- A row that was sorted. -/
theorem Hold.sorted {g n cap m : Nat} {os : Array Obj} {xs ys : List Int} (h : Hold base own w0 rs w) (i : Nat) (hi : rs[i]? = some (ints base (.slice (some ⟨g, 0, none⟩) n cap) xs)) (hl : ys.length = xs.length) :
    Hold base own w0 (rs.set i (ints base (.slice (some ⟨g, 0, none⟩) n cap) ys)) (Go.Sort.grow (Go.Sort.putRow (Value.int .i64) (Go.Sort.ahead w m) g 0 ys.toArray) os) := by
  have hR := h.get i hi
  have hn : n = xs.length := (Kd.R_reads' hR).1
  subst hn
  have ho := Kd.own_of_R hR
  have hg : base ≤ g := (h.sep.bound i hi (k := g) rfl).1
  rcases ho.2 with ⟨h1, _⟩ | ⟨g', cap', cur, h1, hb, hc, hle, hcap, hsz, htk⟩
  · cases h1
  · injection h1 with h2 h3 h4
    injection h2 with h2
    injection h2 with h2 _ _
    subst h2
    subst h4
    have hlt := blk_lt hc
    have hget : ∀ k, k < w.heap.size → (Go.Sort.grow (Go.Sort.putRow (Value.int .i64) (Go.Sort.ahead w m) g 0 ys.toArray) os).heap[k]? = if k = g then some (.cells (Go.Sort.putCells (Value.int .i64) 0 ys.toArray cur) 3 (0, 0)) else w.heap[k]? := by
      intro k hk
      have e1 : (Go.Sort.grow (Go.Sort.putRow (Value.int .i64) (Go.Sort.ahead w m) g 0 ys.toArray) os).heap = (w.heap.modify g (Go.Sort.onCells (Go.Sort.putCells (Value.int .i64) 0 ys.toArray))) ++ os := rfl
      rw [e1, Array.getElem?_append_left (by simpa using hk), Array.getElem?_modify]
      by_cases e : g = k
      · subst e
        rw [if_pos rfl, if_pos rfl, hc]
        rfl
      · rw [if_neg e, if_neg (fun h => e h.symm)]
    have hsize : w.heap.size ≤ (Go.Sort.grow (Go.Sort.putRow (Value.int .i64) (Go.Sort.ahead w m) g 0 ys.toArray) os).heap.size := by
      show w.heap.size ≤ ((w.heap.modify g _) ++ os).size
      simp
    have hnew : Kd.R (Kd.int .i64) 3 (Go.Sort.grow (Go.Sort.putRow (Value.int .i64) (Go.Sort.ahead w m) g 0 ys.toArray) os) base (fun k => some k = (Value.slice (some ⟨g, 0, none⟩) xs.length cap).ownBlock) (.slice (some ⟨g, 0, none⟩) xs.length cap) ys := by
      refine Kd.R_of_own ⟨by simp [encs], .inr ⟨g, cap, Go.Sort.putCells (Value.int .i64) 0 ys.toArray cur, by rw [hl], hb, ?_, by omega, hcap, ?_, ?_⟩⟩ (fun k hk => hk.symm)
      · rw [hget g hlt, if_pos rfl]
      · simpa [Go.Sort.putCells] using hsz
      · have hcs : ys.length ≤ cur.size := by omega
        apply List.ext_getElem?
        intro k
        rw [List.getElem?_take]
        by_cases hk : k < ys.length
        · rw [if_pos (by omega), Array.getElem?_toList, Go.Sort.putCells, Array.getElem?_mapIdx, Array.getElem?_eq_getElem (by omega)]
          simp [hk, encs]
        · rw [if_neg (by omega), List.getElem?_eq_none]
          simp only [encs, List.length_map]
          omega
    refine h.upd i hi hnew (fun k hk hlt' => ?_) (fun k hk => ⟨.inl hk, ?_⟩) hsize ?_
    · rw [hget k hlt', if_neg (fun e => hk (show some k = some g by rw [e]))]
    · exact Kd.R_lt hnew k (show _ = some k from hk.symm)
    · refine ⟨h.below.os, h.below.tape, h.below.output, Nat.le_trans h.below.size hsize, fun k hk => ?_⟩
      have hkw : k < w.heap.size := Nat.lt_of_lt_of_le hk h.bsize
      rw [hget k hkw, if_neg (by omega)]
      exact h.below.block k hk
end
def pcs (base g n N : Nat) (C R P A B : Nat → Nat) (gr cr gp cp gc gs cs : Nat) : List Res :=
  [blk g #[.slice (some ⟨gr, 0, none⟩) n cr, .slice (some ⟨gp, 0, none⟩) n cp, .slice (some ⟨gc, 0, none⟩) n n, .slice (some ⟨gs, 0, none⟩) N cs] 64,
   ints base (.slice (some ⟨gr, 0, none⟩) n cr) (lst n R), ints base (.slice (some ⟨gp, 0, none⟩) n cp) (lst n P), blk gc (numsA (lst n C)) 3, pairs base (.slice (some ⟨gs, 0, none⟩) N cs) (slst N A B)]
theorem Sep.step {base : Nat} {rs : List Res} {w w1 : World} (h : Sep base rs w) (hk : ∀ r ∈ rs, ∀ k, r.own k → k < w.heap.size → w1.heap[k]? = w.heap[k]?) : Sep base rs w1 :=
  ⟨fun r hr => ⟨r.step (h.1 r hr).1 (hk r hr), fun k hrk => by
    have h1 := (h.1 r hr).2 k hrk
    have h2 := hk r hr k hrk h1.2
    rw [Array.getElem?_eq_getElem h1.2] at h2
    exact ⟨h1.1, (Array.getElem?_eq_some_iff.1 h2).1⟩⟩, h.2⟩
/-- A Part as one piece: its classes and how many there are; all else stays inside. -/
def part (base : Nat) (own : Nat → Prop) (g n N : Nat) (C : Nat → Nat) : Res where
  own := own
  at_ := fun w => ∃ (R P A B : Nat → Nat) (gr cr gp cp gc gs cs : Nat), Inv n N C R P A B ∧ Sep base (pcs base g n N C R P A B gr cr gp cp gc gs cs) w ∧ ∀ r ∈ pcs base g n N C R P A B gr cr gp cp gc gs cs, ∀ k, r.own k → own k
  step := fun {w w1} h hk => by
    obtain ⟨R, P, A, B, gr, cr, gp, cp, gc, gs, cs, h1, h2, h3⟩ := h
    exact ⟨R, P, A, B, gr, cr, gp, cp, gc, gs, cs, h1, Sep.step h2 (fun r hr k hrk hlt => hk k (h3 r hr k hrk) hlt), h3⟩
/-- What may be said of old blocks, and what is new. -/
structure Turn (base : Nat) (own : Nat → Prop) (w0 w : World) : Prop where
  kept : ∀ k, k < w0.heap.size → ¬ own k → w.heap[k]? = w0.heap[k]?
  below : Below base w0 w
end Go.Proofs.Ytdalpaobkmoomaa.X
end

section
namespace Go.Proofs.Ytdalpaobkmoomaa.X
open Go.RowKit Go.Proofs.YtdalpaobkmoomaaW.PrintWords Go.Proofs.YtdalpaobkmoomaaW.PrintLast Go.Proofs.YtdalpaobkmoomaaW.PrintMore
open Go.Proofs.Ytdalpaobkmoomaa Go.Proofs.Ytdalpaobkmoomaa.Sp
def sw0.T0 : Bool × List (List Nat × List Nat) := (true, [([], []), ([0], [0]), ([1], [1]), ([2], [2]), ([], []), ([3, 4], [3, 4]), ([5], [5]), ([], []), ([7], [7]), ([8], [8]), ([9], [9]), ([], []), ([10, 11], [10, 11]), ([12], [12]), ([6, 0, 1, 2, 3, 4, 5, 6], [6]), ([13, 14, 0, 1, 2, 3, 4, 5, 6, 7, 8, 9, 10, 11, 12, 13, 14], [13])])
def sw0.B0 : List Nat := [0, 1, 3, 7, 0, 31, 63, 0, 128, 384, 896, 0, 3968, 8064, 127, 32767]
theorem sw0.tab0 : rtab .any (opsOf Try.f29 0) = sw0.T0 := by kernel_rfl
theorem sw0.bits0 : waitsOk sw0.T0.2 sw0.B0 = true := by kernel_rfl
def sw1.T1 : Bool × List (List Nat × List Nat) := (true, [([], []), ([0], [0]), ([1], [1]), ([2], [2]), ([], []), ([], []), ([5], [5]), ([6], [6]), ([7], [7]), ([], []), ([], []), ([], []), ([3, 4, 0, 1, 2, 3, 4, 8, 10], [3, 4]), ([12, 10, 0, 1, 2, 3, 4, 8, 10], [10, 12]), ([8, 9, 0, 1, 2, 3, 4, 5, 6, 7, 8, 9, 10, 11, 12, 13], [8, 9]), ([14, 11, 13, 0, 1, 2, 3, 4, 5, 6, 7, 8, 9, 10, 11, 12, 13], [11, 14])])
def sw1.B1 : List Nat := [0, 1, 3, 7, 0, 0, 32, 96, 224, 0, 0, 0, 1535, 5631, 16383, 32767]
theorem sw1.tab1 : rtab .any (opsOf Try.f29 1) = sw1.T1 := by kernel_rfl
theorem sw1.bits1 : waitsOk sw1.T1.2 sw1.B1 = true := by kernel_rfl
def sw2.T2 : Bool × List (List Nat × List Nat) := (true, [([], []), ([0], [0]), ([1], [1]), ([2], [2]), ([], []), ([], []), ([5], [5]), ([6], [6]), ([7], [7]), ([], []), ([], []), ([], []), ([3, 4, 0, 1, 2, 3, 4, 8, 10], [3, 4]), ([12, 10, 0, 1, 2, 3, 4, 8, 10], [10, 12]), ([8, 9, 0, 1, 2, 3, 4, 5, 6, 7, 8, 9, 10, 11, 12, 13], [8, 9]), ([14, 11, 13, 0, 1, 2, 3, 4, 5, 6, 7, 8, 9, 10, 11, 12, 13], [11, 14])])
def sw2.B2 : List Nat := [0, 1, 3, 7, 0, 0, 32, 96, 224, 0, 0, 0, 1535, 5631, 16383, 32767]
theorem sw2.tab2 : rtab .any (opsOf Try.f29 2) = sw2.T2 := by kernel_rfl
theorem sw2.bits2 : waitsOk sw2.T2.2 sw2.B2 = true := by kernel_rfl
theorem row_cell {w : World} {base g n c : Nat} {ok : Nat → Prop} {f : Nat → Nat} (h : Kd.R (Kd.int .i64) 3 w base ok (.slice (some ⟨g, 0, none⟩) n c) (lst n f)) {j : Nat} (hj : j < n) : w.cell? ⟨g, j, none⟩ = some (.int .i64 (f j : Int)) := by
  obtain ⟨ad, e, hc⟩ := Kd.at_int (Kd.R_reads' h).2.2 (j : Int) (by omega) (by rw [lst_len]; omega)
  injection e with e
  subst e
  rw [Int.toNat_natCast, Addr.add_mid, Nat.zero_add, rd_lst f hj] at hc
  exact hc
theorem row_frozen {w : World} {base g n c : Nat} {ok : Nat → Prop} {xs : List Int} (h : Kd.R (Kd.int .i64) 3 w base ok (.slice (some ⟨g, 0, none⟩) n c) xs) (j : Nat) : w.frozen? ⟨g, j, none⟩ = false := by
  rcases (Kd.own_of_R h).2 with ⟨h1, _⟩ | ⟨g', cap', cur, h1, hb, hc, _⟩
  · cases h1
  · injection h1 with h2 h3 h4
    injection h2 with h2
    injection h2 with h2 _ _
    subst h2
    exact blk_frozen hc j
theorem set_at {rs : List Res} {i : Nat} {r : Res} (h : rs[i]? = some r) (r' : Res) : (rs.set i r')[i]? = some r' := by
  rw [List.getElem?_set_self (List.getElem?_eq_some_iff.1 h).1]
theorem set_off {rs : List Res} {i j : Nat} {r : Res} (h : rs[i]? = some r) (r' : Res) (hij : i ≠ j) : (rs.set j r')[i]? = some r := by
  rw [List.getElem?_set_ne (fun e => hij e.symm)]
  exact h
set_option maxHeartbeats 8000000 in
set_option maxRecDepth 100000 in
theorem swap_walk (base : Nat) (own : Nat → Prop) (w0 : World) (rs : List Res) (w : World) (g n : Nat) (vc vs : Value) (R P : Nat → Nat) (gr cr gp cp ib ir ip i q : Nat)
    (H : Hold base own w0 rs w) (hib : rs[ib]? = some (blk g #[.slice (some ⟨gr, 0, none⟩) n cr, .slice (some ⟨gp, 0, none⟩) n cp, vc, vs] 64)) (hir : rs[ir]? = some (ints base (.slice (some ⟨gr, 0, none⟩) n cr) (lst n R))) (hip : rs[ip]? = some (ints base (.slice (some ⟨gp, 0, none⟩) n cp) (lst n P)))
    (hbr : ib ≠ ir) (hbp : ib ≠ ip) (hrp : ip ≠ ir) (hi : i < n) (hq : q < n) (hpn : P i < n) (hon : R q < n) :
    Calls Try.prog 29 #[.pointer (some ⟨g, 0, none⟩), .int .i64 (i : Int), .int .i64 (q : Int)] w fun e w' => e = .returned (.tuple #[]) ∧
      Hold base own w0 ((rs.set ir (ints base (.slice (some ⟨gr, 0, none⟩) n cr) (lst n (upd (upd R q i) (P i) (R q))))).set ip (ints base (.slice (some ⟨gp, 0, none⟩) n cp) (lst n (upd (upd P i q) (R q) (P i))))) w' := by
  have hu64 := Try.underlying64
  have hu22 := Try.underlying22
  have HH := Aside0.mk H
  have hx1 : (i : Int) < (n : Int) := by omega
  have hx2 : (q : Int) < (n : Int) := by omega
  have hx3 : (P i : Int) < (n : Int) := by omega
  have hx4 : (R q : Int) < (n : Int) := by omega
  clear H
  go_enter Try.func29, Try.ntmps29
  go_wp2
  have hpi : w.drew.cell? ⟨gp, i, none⟩ = some (.int .i64 (P i : Int)) := row_cell (Kd.R_drew (HH.out.get ip hip)) hi
  have hrq : w.drew.cell? ⟨gr, q, none⟩ = some (.int .i64 (R q : Int)) := row_cell (Kd.R_drew (HH.out.get ir hir)) hq
  refine start_ (n := 16) (S := fun w' => w'.cell? ⟨g, 1, none⟩ = some (.slice (some ⟨gp, 0, none⟩) n cp) ∧ w'.cell? ⟨g, 0, none⟩ = some (.slice (some ⟨gr, 0, none⟩) n cr) ∧ w'.cell? ⟨gp, i, none⟩ = some (.int .i64 (P i : Int)) ∧ w'.cell? ⟨gr, q, none⟩ = some (.int .i64 (R q : Int))) (ds := []) #[false, false, false, false, false, false, false, false, false, false, false, false, false, false, false, false] (by kernel_rfl) rfl rfl ⟨(blk_cell (blk_drew (HH.out.get ib hib)) 1).trans rfl, (blk_cell (blk_drew (HH.out.get ib hib)) 0).trans rfl, hpi, hrq⟩ (fun hHeld => ?_)
  refine with_tabW sw0.tab0 sw0.bits0 (fun HT_ HW_ => ?_)
  refine pure_ (i := 0) (N := (some 8)) (v := ?_) (a' := ?_) #[true, false, false, false, false, false, false, false, false, false, false, false, false, false, false, false] rfl rfl (any_of HT_.out (by kernel_rfl)) (fun _ _ _ h => h) (Or.inl ⟨by rfl, ?_⟩) ?_ ?_
  rotate_left
  · intro w'
    go_simp
    with_reducible rfl
  rotate_left
  · simp only [Act.put, List.setIfInBounds_toArray, List.set_cons_zero, List.set_cons_succ, i64_w, i32_w]
    rfl
  refine pure_ (i := 1) (N := (some 9)) (v := ?_) (a' := ?_) #[true, true, false, false, false, false, false, false, false, false, false, false, false, false, false, false] rfl rfl (any_of HT_.out (by kernel_rfl)) (fun _ _ _ h => h) (Or.inl ⟨by rfl, ?_⟩) ?_ ?_
  rotate_left
  · intro w'
    go_simp
    with_reducible rfl
  rotate_left
  · simp only [Act.put, List.setIfInBounds_toArray, List.set_cons_zero, List.set_cons_succ, i64_w, i32_w]
    rfl
  refine pure_ (i := 2) (N := (some 10)) (v := ?_) (a' := ?_) #[true, true, true, false, false, false, false, false, false, false, false, false, false, false, false, false] rfl rfl (any_of HT_.out (by kernel_rfl)) (fun _ _ _ h => h) (Or.inl ⟨by rfl, ?_⟩) ?_ ?_
  rotate_left
  · intro w'
    go_simp
    with_reducible rfl
  rotate_left
  · simp only [Act.put, List.setIfInBounds_toArray, List.set_cons_zero, List.set_cons_succ, i64_w, i32_w]
    rfl
  refine pure_ (i := 4) (N := (some 12)) (v := ?_) (a' := ?_) #[true, true, true, false, true, false, false, false, false, false, false, false, false, false, false, false] rfl rfl (any_of HT_.out (by kernel_rfl)) (fun _ _ _ h => h) (Or.inl ⟨by rfl, ?_⟩) ?_ ?_
  rotate_left
  · intro w'
    go_simp
    with_reducible rfl
  rotate_left
  · simp only [Act.put, List.setIfInBounds_toArray, List.set_cons_zero, List.set_cons_succ, i64_w, i32_w]
    rfl
  refine pure_ (i := 7) (N := (some 15)) (v := ?_) (a' := ?_) #[true, true, true, false, true, false, false, true, false, false, false, false, false, false, false, false] rfl rfl (any_of HT_.out (by kernel_rfl)) (fun _ _ _ h => h) (Or.inl ⟨by rfl, ?_⟩) ?_ ?_
  rotate_left
  · intro w'
    go_simp
    with_reducible rfl
  rotate_left
  · simp only [Act.put, List.setIfInBounds_toArray, List.set_cons_zero, List.set_cons_succ, i64_w, i32_w]
    rfl
  refine pure_ (i := 8) (N := (some 16)) (v := ?_) (a' := ?_) #[true, true, true, false, true, false, false, true, true, false, false, false, false, false, false, false] rfl rfl (any_of HT_.out (by kernel_rfl)) (fun _ _ _ h => h) (Or.inl ⟨by rfl, ?_⟩) ?_ ?_
  rotate_left
  · intro w'
    go_simp
    with_reducible rfl
  rotate_left
  · simp only [Act.put, List.setIfInBounds_toArray, List.set_cons_zero, List.set_cons_succ, i64_w, i32_w]
    rfl
  refine pure_ (i := 9) (N := (some 17)) (v := ?_) (a' := ?_) #[true, true, true, false, true, false, false, true, true, true, false, false, false, false, false, false] rfl rfl (any_of HT_.out (by kernel_rfl)) (fun _ _ _ h => h) (Or.inl ⟨by rfl, ?_⟩) ?_ ?_
  rotate_left
  · intro w'
    go_simp
    with_reducible rfl
  rotate_left
  · simp only [Act.put, List.setIfInBounds_toArray, List.set_cons_zero, List.set_cons_succ, i64_w, i32_w]
    rfl
  refine pure_ (i := 11) (N := (some 19)) (v := ?_) (a' := ?_) #[true, true, true, false, true, false, false, true, true, true, false, true, false, false, false, false] rfl rfl (any_of HT_.out (by kernel_rfl)) (fun _ _ _ h => h) (Or.inl ⟨by rfl, ?_⟩) ?_ ?_
  rotate_left
  · intro w'
    go_simp
    with_reducible rfl
  rotate_left
  · simp only [Act.put, List.setIfInBounds_toArray, List.set_cons_zero, List.set_cons_succ, i64_w, i32_w]
    rfl
  refine take_ (i := 3) (N := (some 11)) (v := ?_) (a' := ?_) #[true, true, true, true, true, false, false, true, true, true, false, true, false, false, false, false] rfl rfl (take_ofW HT_.out HW_.out (by kernel_rfl)) (fun _ _ _ h => h) (Or.inl ⟨by rfl, ?_⟩) hHeld ?_ ?_
  rotate_left
  · rintro w' ⟨s0, s1, s2, s3⟩
    go_simp
    with_reducible rfl
  rotate_left
  · simp only [Act.put, List.setIfInBounds_toArray, List.set_cons_zero, List.set_cons_succ, i64_w, i32_w]
    rfl
  refine pure_ (i := 5) (N := (some 13)) (v := ?_) (a' := ?_) #[true, true, true, true, true, true, false, true, true, true, false, true, false, false, false, false] rfl rfl (any_of HT_.out (by kernel_rfl)) (fun _ _ _ h => h) (Or.inl ⟨by rfl, ?_⟩) ?_ ?_
  rotate_left
  · intro w'
    go_simp
    with_reducible rfl
  rotate_left
  · simp only [Act.put, List.setIfInBounds_toArray, List.set_cons_zero, List.set_cons_succ, i64_w, i32_w]
    rfl
  refine take_ (i := 6) (N := (some 14)) (v := ?_) (a' := ?_) #[true, true, true, true, true, true, true, true, true, true, false, true, false, false, false, false] rfl rfl (take_ofW HT_.out HW_.out (by kernel_rfl)) (fun _ _ _ h => h) (Or.inl ⟨by rfl, ?_⟩) hHeld ?_ ?_
  rotate_left
  · rintro w' ⟨s0, s1, s2, s3⟩
    go_simp
    with_reducible rfl
  rotate_left
  · simp only [Act.put, List.setIfInBounds_toArray, List.set_cons_zero, List.set_cons_succ, i64_w, i32_w]
    rfl
  refine pure_ (i := 14) (N := (some 6)) (v := ?_) (a' := ?_) #[true, true, true, true, true, true, true, true, true, true, false, true, false, false, true, false] rfl rfl (any_of HT_.out (by kernel_rfl)) (fun _ _ _ h => h) (Or.inl ⟨by rfl, ?_⟩) ?_ ?_
  rotate_left
  · intro w'
    go_simp
    with_reducible rfl
  rotate_left
  · simp only [Act.put, List.setIfInBounds_toArray, List.set_cons_zero, List.set_cons_succ, i64_w, i32_w]
    rfl
  refine take_ (i := 10) (N := (some 18)) (v := ?_) (a' := ?_) #[true, true, true, true, true, true, true, true, true, true, true, true, false, false, true, false] rfl rfl (take_ofW HT_.out HW_.out (by kernel_rfl)) (fun _ _ _ h => h) (Or.inl ⟨by rfl, ?_⟩) hHeld ?_ ?_
  rotate_left
  · rintro w' ⟨s0, s1, s2, s3⟩
    go_simp
    with_reducible rfl
  rotate_left
  · simp only [Act.put, List.setIfInBounds_toArray, List.set_cons_zero, List.set_cons_succ, i64_w, i32_w]
    rfl
  refine pure_ (i := 12) (N := (some 20)) (v := ?_) (a' := ?_) #[true, true, true, true, true, true, true, true, true, true, true, true, true, false, true, false] rfl rfl (any_of HT_.out (by kernel_rfl)) (fun _ _ _ h => h) (Or.inl ⟨by rfl, ?_⟩) ?_ ?_
  rotate_left
  · intro w'
    go_simp
    with_reducible rfl
  rotate_left
  · simp only [Act.put, List.setIfInBounds_toArray, List.set_cons_zero, List.set_cons_succ, i64_w, i32_w]
    rfl
  refine take_ (i := 13) (N := (some 21)) (v := ?_) (a' := ?_) #[true, true, true, true, true, true, true, true, true, true, true, true, true, true, true, false] rfl rfl (take_ofW HT_.out HW_.out (by kernel_rfl)) (fun _ _ _ h => h) (Or.inl ⟨by rfl, ?_⟩) hHeld ?_ ?_
  rotate_left
  · rintro w' ⟨s0, s1, s2, s3⟩
    go_simp
    with_reducible rfl
  rotate_left
  · simp only [Act.put, List.setIfInBounds_toArray, List.set_cons_zero, List.set_cons_succ, i64_w, i32_w]
    rfl
  refine pure_ (i := 15) (N := (some 7)) (v := ?_) (a' := ?_) #[true, true, true, true, true, true, true, true, true, true, true, true, true, true, true, true] rfl rfl (any_of HT_.out (by kernel_rfl)) (fun _ _ _ h => h) (Or.inl ⟨by rfl, ?_⟩) ?_ ?_
  rotate_left
  · intro w'
    go_simp
    with_reducible rfl
  rotate_left
  · simp only [Act.put, List.setIfInBounds_toArray, List.set_cons_zero, List.set_cons_succ, i64_w, i32_w]
    rfl
  refine done_ (done_of HT_.out (by kernel_rfl)) ?_

  go_wp2
  have H1 := Aside0.mk (HH.out.low (below_drew1 (Below.refl _ _)))
  clear hHeld hpi hrq HH
  generalize w.drew = w1_ at H1 ⊢
  have HD1 := Aside0.mk (H1.out.low (below_drew1 (Below.refl _ _)))
  refine start_ (n := 16) (S := fun w' => w'.cell? ⟨g, 0, none⟩ = some (.slice (some ⟨gr, 0, none⟩) n cr)) (ds := [13, 15]) #[false, false, false, false, false, false, false, false, false, false, false, false, false, false, false, false] (by kernel_rfl) rfl rfl ((blk_cell (blk_drew (H1.out.get ib hib)) 0).trans rfl) (fun hHeld => ?_)
  refine with_tabW sw1.tab1 sw1.bits1 (fun HT_ HW_ => ?_)
  generalize w1_.drew = wd1 at HD1 hHeld ⊢
  refine pure_ (i := 0) (N := (some 22)) (v := ?_) (a' := ?_) #[true, false, false, false, false, false, false, false, false, false, false, false, false, false, false, false] rfl rfl (any_of HT_.out (by kernel_rfl)) (fun _ _ _ h => h) (Or.inl ⟨by rfl, ?_⟩) ?_ ?_
  rotate_left
  · intro w'
    go_simp
    with_reducible rfl
  rotate_left
  · simp only [Act.put, List.setIfInBounds_toArray, List.set_cons_zero, List.set_cons_succ, i64_w, i32_w]
    rfl
  refine pure_ (i := 1) (N := (some 23)) (v := ?_) (a' := ?_) #[true, true, false, false, false, false, false, false, false, false, false, false, false, false, false, false] rfl rfl (any_of HT_.out (by kernel_rfl)) (fun _ _ _ h => h) (Or.inl ⟨by rfl, ?_⟩) ?_ ?_
  rotate_left
  · intro w'
    go_simp
    with_reducible rfl
  rotate_left
  · simp only [Act.put, List.setIfInBounds_toArray, List.set_cons_zero, List.set_cons_succ, i64_w, i32_w]
    rfl
  refine pure_ (i := 2) (N := (some 24)) (v := ?_) (a' := ?_) #[true, true, true, false, false, false, false, false, false, false, false, false, false, false, false, false] rfl rfl (any_of HT_.out (by kernel_rfl)) (fun _ _ _ h => h) (Or.inl ⟨by rfl, ?_⟩) ?_ ?_
  rotate_left
  · intro w'
    go_simp
    with_reducible rfl
  rotate_left
  · simp only [Act.put, List.setIfInBounds_toArray, List.set_cons_zero, List.set_cons_succ, i64_w, i32_w]
    rfl
  refine pure_ (i := 4) (N := (some 26)) (v := ?_) (a' := ?_) #[true, true, true, false, true, false, false, false, false, false, false, false, false, false, false, false] rfl rfl (any_of HT_.out (by kernel_rfl)) (fun _ _ _ h => h) (Or.inl ⟨by rfl, ?_⟩) ?_ ?_
  rotate_left
  · intro w'
    go_simp
    with_reducible rfl
  rotate_left
  · simp only [Act.put, List.setIfInBounds_toArray, List.set_cons_zero, List.set_cons_succ, i64_w, i32_w]
    rfl
  refine pure_ (i := 5) (N := (some 27)) (v := ?_) (a' := ?_) #[true, true, true, false, true, true, false, false, false, false, false, false, false, false, false, false] rfl rfl (any_of HT_.out (by kernel_rfl)) (fun _ _ _ h => h) (Or.inl ⟨by rfl, ?_⟩) ?_ ?_
  rotate_left
  · intro w'
    go_simp
    with_reducible rfl
  rotate_left
  · simp only [Act.put, List.setIfInBounds_toArray, List.set_cons_zero, List.set_cons_succ, i64_w, i32_w]
    rfl
  refine pure_ (i := 6) (N := (some 28)) (v := ?_) (a' := ?_) #[true, true, true, false, true, true, true, false, false, false, false, false, false, false, false, false] rfl rfl (any_of HT_.out (by kernel_rfl)) (fun _ _ _ h => h) (Or.inl ⟨by rfl, ?_⟩) ?_ ?_
  rotate_left
  · intro w'
    go_simp
    with_reducible rfl
  rotate_left
  · simp only [Act.put, List.setIfInBounds_toArray, List.set_cons_zero, List.set_cons_succ, i64_w, i32_w]
    rfl
  refine pure_ (i := 7) (N := (some 29)) (v := ?_) (a' := ?_) #[true, true, true, false, true, true, true, true, false, false, false, false, false, false, false, false] rfl rfl (any_of HT_.out (by kernel_rfl)) (fun _ _ _ h => h) (Or.inl ⟨by rfl, ?_⟩) ?_ ?_
  rotate_left
  · intro w'
    go_simp
    with_reducible rfl
  rotate_left
  · simp only [Act.put, List.setIfInBounds_toArray, List.set_cons_zero, List.set_cons_succ, i64_w, i32_w]
    rfl
  refine pure_ (i := 9) (N := (some 31)) (v := ?_) (a' := ?_) #[true, true, true, false, true, true, true, true, false, true, false, false, false, false, false, false] rfl rfl (any_of HT_.out (by kernel_rfl)) (fun _ _ _ h => h) (Or.inl ⟨by rfl, ?_⟩) ?_ ?_
  rotate_left
  · intro w'
    go_simp
    with_reducible rfl
  rotate_left
  · simp only [Act.put, List.setIfInBounds_toArray, List.set_cons_zero, List.set_cons_succ, i64_w, i32_w]
    rfl
  refine pure_ (i := 10) (N := (some 32)) (v := ?_) (a' := ?_) #[true, true, true, false, true, true, true, true, false, true, true, false, false, false, false, false] rfl rfl (any_of HT_.out (by kernel_rfl)) (fun _ _ _ h => h) (Or.inl ⟨by rfl, ?_⟩) ?_ ?_
  rotate_left
  · intro w'
    go_simp
    with_reducible rfl
  rotate_left
  · simp only [Act.put, List.setIfInBounds_toArray, List.set_cons_zero, List.set_cons_succ, i64_w, i32_w]
    rfl
  refine pure_ (i := 11) (N := (some 33)) (v := ?_) (a' := ?_) #[true, true, true, false, true, true, true, true, false, true, true, true, false, false, false, false] rfl rfl (any_of HT_.out (by kernel_rfl)) (fun _ _ _ h => h) (Or.inl ⟨by rfl, ?_⟩) ?_ ?_
  rotate_left
  · intro w'
    go_simp
    with_reducible rfl
  rotate_left
  · simp only [Act.put, List.setIfInBounds_toArray, List.set_cons_zero, List.set_cons_succ, i64_w, i32_w]
    rfl
  refine take_ (i := 3) (N := (some 25)) (v := ?_) (a' := ?_) #[true, true, true, true, true, true, true, true, false, true, true, true, false, false, false, false] rfl rfl (take_ofW HT_.out HW_.out (by kernel_rfl)) (fun _ _ _ h => h) (Or.inl ⟨by rfl, ?_⟩) hHeld ?_ ?_
  rotate_left
  · rintro w' s0
    go_simp
    with_reducible rfl
  rotate_left
  · simp only [Act.put, List.setIfInBounds_toArray, List.set_cons_zero, List.set_cons_succ, i64_w, i32_w]
    rfl
  refine take_ (i := 8) (N := (some 30)) (v := ?_) (a' := ?_) #[true, true, true, true, true, true, true, true, true, true, true, true, false, false, false, false] rfl rfl (take_ofW HT_.out HW_.out (by kernel_rfl)) (fun _ _ _ h => h) (Or.inl ⟨by rfl, ?_⟩) hHeld ?_ ?_
  rotate_left
  · rintro w' s0
    go_simp
    with_reducible rfl
  rotate_left
  · simp only [Act.put, List.setIfInBounds_toArray, List.set_cons_zero, List.set_cons_succ, i64_w, i32_w]
    rfl
  refine pure_ (i := 12) (N := (some 34)) (v := ?_) (a' := ?_) #[true, true, true, true, true, true, true, true, true, true, true, true, true, false, false, false] rfl rfl (any_of HT_.out (by kernel_rfl)) (fun _ _ _ h => h) (Or.inl ⟨by rfl, ?_⟩) ?_ ?_
  rotate_left
  · intro w'
    go_simp
    with_reducible rfl
  rotate_left
  · simp only [Act.put, List.setIfInBounds_toArray, List.set_cons_zero, List.set_cons_succ, i64_w, i32_w]
    rfl
  refine last_ (i := 13) (N := none) #[true, true, true, true, true, true, true, true, true, true, true, true, true, true, false, false] rfl rfl (one_of HT_.out (by kernel_rfl)) (by decide) (fun K hK => ?_)
  have hfz : wd1.frozen? ⟨gr, q, none⟩ = false := row_frozen (HD1.out.get ir hir) q
  have hcl : wd1.cell? ⟨gr, q, none⟩ = some (.int .i64 (R q : Int)) := row_cell (HD1.out.get ir hir) hq
  refine skip_ (w1 := ?_) (by rfl) rfl ?_ ?_
  rotate_left
  · go_simp
    rfl
  have HD2 := Aside0.mk (HD1.out.put ir hir q (i : Int))
  have hir2 := set_at hir (ints base (.slice (some ⟨gr, 0, none⟩) n cr) ((lst n R).set q (i : Int)))
  rw [lst_set R hq i] at hir2 HD2
  have hib2 := set_off hib (ints base (.slice (some ⟨gr, 0, none⟩) n cr) (lst n (upd R q i))) hbr
  generalize World.setCell wd1 _ _ = wb1 at HD2 ⊢
  clear hfz hcl HD1
  refine hK.out _ _ ?_; clear hK K
  refine pure_ (i := 14) (N := (some 35)) (v := ?_) (a' := ?_) #[true, true, true, true, true, true, true, true, true, true, true, true, true, true, true, false] rfl rfl (any_of HT_.out (by kernel_rfl)) (fun _ _ _ h => h) (Or.inl ⟨by rfl, ?_⟩) ?_ ?_
  rotate_left
  · intro w'
    go_simp
    with_reducible rfl
  rotate_left
  · simp only [Act.put, List.setIfInBounds_toArray, List.set_cons_zero, List.set_cons_succ, i64_w, i32_w]
    rfl
  refine last_ (i := 15) (N := none) #[true, true, true, true, true, true, true, true, true, true, true, true, true, true, true, true] rfl rfl (one_of HT_.out (by kernel_rfl)) (by decide) (fun K hK => ?_)
  have hfz : wb1.frozen? ⟨gr, P i, none⟩ = false := row_frozen (HD2.out.get ir hir2) (P i)
  have hcl : wb1.cell? ⟨gr, P i, none⟩ = some (.int .i64 ((upd R q i (P i) : Nat) : Int)) := row_cell (HD2.out.get ir hir2) hpn
  refine skip_ (w1 := ?_) (by rfl) rfl ?_ ?_
  rotate_left
  · go_simp
    rfl
  have HD3 := Aside0.mk (HD2.out.put ir hir2 (P i) (R q : Int))
  rw [lst_set (upd R q i) hpn (R q), List.set_set] at HD3
  refine hK.out _ _ ?_; clear hK K
  refine done_ (done_of HT_.out (by kernel_rfl)) ?_

  clear hfz hcl HD2 hir2 hib2 H1 hHeld
  generalize World.setCell _ _ _ = w2_ at HD3 ⊢
  have hib3 := set_off hib (ints base (.slice (some ⟨gr, 0, none⟩) n cr) (lst n (upd (upd R q i) (P i) (R q)))) hbr
  have hip3 := set_off hip (ints base (.slice (some ⟨gr, 0, none⟩) n cr) (lst n (upd (upd R q i) (P i) (R q)))) hrp
  have H2 := HD3
  go_wp2
  have HE1 := Aside0.mk (H2.out.low (below_drew1 (Below.refl _ _)))
  refine start_ (n := 16) (S := fun w' => w'.cell? ⟨g, 1, none⟩ = some (.slice (some ⟨gp, 0, none⟩) n cp)) (ds := [13, 15]) #[false, false, false, false, false, false, false, false, false, false, false, false, false, false, false, false] (by kernel_rfl) rfl rfl ((blk_cell (blk_drew (H2.out.get ib hib3)) 1).trans rfl) (fun hHeld => ?_)
  refine with_tabW sw2.tab2 sw2.bits2 (fun HT_ HW_ => ?_)
  generalize w2_.drew = wd2 at HE1 hHeld ⊢
  refine pure_ (i := 0) (N := (some 36)) (v := ?_) (a' := ?_) #[true, false, false, false, false, false, false, false, false, false, false, false, false, false, false, false] rfl rfl (any_of HT_.out (by kernel_rfl)) (fun _ _ _ h => h) (Or.inl ⟨by rfl, ?_⟩) ?_ ?_
  rotate_left
  · intro w'
    go_simp
    with_reducible rfl
  rotate_left
  · simp only [Act.put, List.setIfInBounds_toArray, List.set_cons_zero, List.set_cons_succ, i64_w, i32_w]
    rfl
  refine pure_ (i := 1) (N := (some 37)) (v := ?_) (a' := ?_) #[true, true, false, false, false, false, false, false, false, false, false, false, false, false, false, false] rfl rfl (any_of HT_.out (by kernel_rfl)) (fun _ _ _ h => h) (Or.inl ⟨by rfl, ?_⟩) ?_ ?_
  rotate_left
  · intro w'
    go_simp
    with_reducible rfl
  rotate_left
  · simp only [Act.put, List.setIfInBounds_toArray, List.set_cons_zero, List.set_cons_succ, i64_w, i32_w]
    rfl
  refine pure_ (i := 2) (N := (some 38)) (v := ?_) (a' := ?_) #[true, true, true, false, false, false, false, false, false, false, false, false, false, false, false, false] rfl rfl (any_of HT_.out (by kernel_rfl)) (fun _ _ _ h => h) (Or.inl ⟨by rfl, ?_⟩) ?_ ?_
  rotate_left
  · intro w'
    go_simp
    with_reducible rfl
  rotate_left
  · simp only [Act.put, List.setIfInBounds_toArray, List.set_cons_zero, List.set_cons_succ, i64_w, i32_w]
    rfl
  refine pure_ (i := 4) (N := (some 40)) (v := ?_) (a' := ?_) #[true, true, true, false, true, false, false, false, false, false, false, false, false, false, false, false] rfl rfl (any_of HT_.out (by kernel_rfl)) (fun _ _ _ h => h) (Or.inl ⟨by rfl, ?_⟩) ?_ ?_
  rotate_left
  · intro w'
    go_simp
    with_reducible rfl
  rotate_left
  · simp only [Act.put, List.setIfInBounds_toArray, List.set_cons_zero, List.set_cons_succ, i64_w, i32_w]
    rfl
  refine pure_ (i := 5) (N := (some 41)) (v := ?_) (a' := ?_) #[true, true, true, false, true, true, false, false, false, false, false, false, false, false, false, false] rfl rfl (any_of HT_.out (by kernel_rfl)) (fun _ _ _ h => h) (Or.inl ⟨by rfl, ?_⟩) ?_ ?_
  rotate_left
  · intro w'
    go_simp
    with_reducible rfl
  rotate_left
  · simp only [Act.put, List.setIfInBounds_toArray, List.set_cons_zero, List.set_cons_succ, i64_w, i32_w]
    rfl
  refine pure_ (i := 6) (N := (some 42)) (v := ?_) (a' := ?_) #[true, true, true, false, true, true, true, false, false, false, false, false, false, false, false, false] rfl rfl (any_of HT_.out (by kernel_rfl)) (fun _ _ _ h => h) (Or.inl ⟨by rfl, ?_⟩) ?_ ?_
  rotate_left
  · intro w'
    go_simp
    with_reducible rfl
  rotate_left
  · simp only [Act.put, List.setIfInBounds_toArray, List.set_cons_zero, List.set_cons_succ, i64_w, i32_w]
    rfl
  refine pure_ (i := 7) (N := (some 43)) (v := ?_) (a' := ?_) #[true, true, true, false, true, true, true, true, false, false, false, false, false, false, false, false] rfl rfl (any_of HT_.out (by kernel_rfl)) (fun _ _ _ h => h) (Or.inl ⟨by rfl, ?_⟩) ?_ ?_
  rotate_left
  · intro w'
    go_simp
    with_reducible rfl
  rotate_left
  · simp only [Act.put, List.setIfInBounds_toArray, List.set_cons_zero, List.set_cons_succ, i64_w, i32_w]
    rfl
  refine pure_ (i := 9) (N := (some 45)) (v := ?_) (a' := ?_) #[true, true, true, false, true, true, true, true, false, true, false, false, false, false, false, false] rfl rfl (any_of HT_.out (by kernel_rfl)) (fun _ _ _ h => h) (Or.inl ⟨by rfl, ?_⟩) ?_ ?_
  rotate_left
  · intro w'
    go_simp
    with_reducible rfl
  rotate_left
  · simp only [Act.put, List.setIfInBounds_toArray, List.set_cons_zero, List.set_cons_succ, i64_w, i32_w]
    rfl
  refine pure_ (i := 10) (N := (some 46)) (v := ?_) (a' := ?_) #[true, true, true, false, true, true, true, true, false, true, true, false, false, false, false, false] rfl rfl (any_of HT_.out (by kernel_rfl)) (fun _ _ _ h => h) (Or.inl ⟨by rfl, ?_⟩) ?_ ?_
  rotate_left
  · intro w'
    go_simp
    with_reducible rfl
  rotate_left
  · simp only [Act.put, List.setIfInBounds_toArray, List.set_cons_zero, List.set_cons_succ, i64_w, i32_w]
    rfl
  refine pure_ (i := 11) (N := (some 47)) (v := ?_) (a' := ?_) #[true, true, true, false, true, true, true, true, false, true, true, true, false, false, false, false] rfl rfl (any_of HT_.out (by kernel_rfl)) (fun _ _ _ h => h) (Or.inl ⟨by rfl, ?_⟩) ?_ ?_
  rotate_left
  · intro w'
    go_simp
    with_reducible rfl
  rotate_left
  · simp only [Act.put, List.setIfInBounds_toArray, List.set_cons_zero, List.set_cons_succ, i64_w, i32_w]
    rfl
  refine take_ (i := 3) (N := (some 39)) (v := ?_) (a' := ?_) #[true, true, true, true, true, true, true, true, false, true, true, true, false, false, false, false] rfl rfl (take_ofW HT_.out HW_.out (by kernel_rfl)) (fun _ _ _ h => h) (Or.inl ⟨by rfl, ?_⟩) hHeld ?_ ?_
  rotate_left
  · rintro w' s0
    go_simp
    with_reducible rfl
  rotate_left
  · simp only [Act.put, List.setIfInBounds_toArray, List.set_cons_zero, List.set_cons_succ, i64_w, i32_w]
    rfl
  refine take_ (i := 8) (N := (some 44)) (v := ?_) (a' := ?_) #[true, true, true, true, true, true, true, true, true, true, true, true, false, false, false, false] rfl rfl (take_ofW HT_.out HW_.out (by kernel_rfl)) (fun _ _ _ h => h) (Or.inl ⟨by rfl, ?_⟩) hHeld ?_ ?_
  rotate_left
  · rintro w' s0
    go_simp
    with_reducible rfl
  rotate_left
  · simp only [Act.put, List.setIfInBounds_toArray, List.set_cons_zero, List.set_cons_succ, i64_w, i32_w]
    rfl
  refine pure_ (i := 12) (N := (some 48)) (v := ?_) (a' := ?_) #[true, true, true, true, true, true, true, true, true, true, true, true, true, false, false, false] rfl rfl (any_of HT_.out (by kernel_rfl)) (fun _ _ _ h => h) (Or.inl ⟨by rfl, ?_⟩) ?_ ?_
  rotate_left
  · intro w'
    go_simp
    with_reducible rfl
  rotate_left
  · simp only [Act.put, List.setIfInBounds_toArray, List.set_cons_zero, List.set_cons_succ, i64_w, i32_w]
    rfl
  refine last_ (i := 13) (N := none) #[true, true, true, true, true, true, true, true, true, true, true, true, true, true, false, false] rfl rfl (one_of HT_.out (by kernel_rfl)) (by decide) (fun K hK => ?_)
  have hfz : wd2.frozen? ⟨gp, i, none⟩ = false := row_frozen (HE1.out.get ip hip3) i
  have hcl : wd2.cell? ⟨gp, i, none⟩ = some (.int .i64 (P i : Int)) := row_cell (HE1.out.get ip hip3) hi
  refine skip_ (w1 := ?_) (by rfl) rfl ?_ ?_
  rotate_left
  · go_simp
    rfl
  have HE2 := Aside0.mk (HE1.out.put ip hip3 i (q : Int))
  have hip4 := set_at hip3 (ints base (.slice (some ⟨gp, 0, none⟩) n cp) ((lst n P).set i (q : Int)))
  rw [lst_set P hi q] at hip4 HE2
  have hib4 := set_off hib3 (ints base (.slice (some ⟨gp, 0, none⟩) n cp) (lst n (upd P i q))) hbp
  generalize World.setCell wd2 _ _ = wb2 at HE2 ⊢
  clear hfz hcl HE1
  refine hK.out _ _ ?_; clear hK K
  refine pure_ (i := 14) (N := (some 49)) (v := ?_) (a' := ?_) #[true, true, true, true, true, true, true, true, true, true, true, true, true, true, true, false] rfl rfl (any_of HT_.out (by kernel_rfl)) (fun _ _ _ h => h) (Or.inl ⟨by rfl, ?_⟩) ?_ ?_
  rotate_left
  · intro w'
    go_simp
    with_reducible rfl
  rotate_left
  · simp only [Act.put, List.setIfInBounds_toArray, List.set_cons_zero, List.set_cons_succ, i64_w, i32_w]
    rfl
  refine last_ (i := 15) (N := none) #[true, true, true, true, true, true, true, true, true, true, true, true, true, true, true, true] rfl rfl (one_of HT_.out (by kernel_rfl)) (by decide) (fun K hK => ?_)
  have hfz : wb2.frozen? ⟨gp, R q, none⟩ = false := row_frozen (HE2.out.get ip hip4) (R q)
  have hcl : wb2.cell? ⟨gp, R q, none⟩ = some (.int .i64 ((upd P i q (R q) : Nat) : Int)) := row_cell (HE2.out.get ip hip4) hon
  refine skip_ (w1 := ?_) (by rfl) rfl ?_ ?_
  rotate_left
  · go_simp
    rfl
  have HE3 := Aside0.mk (HE2.out.put ip hip4 (R q) (P i : Int))
  rw [lst_set (upd P i q) hon (P i), List.set_set] at HE3
  refine hK.out _ _ ?_; clear hK K
  refine done_ (done_of HT_.out (by kernel_rfl)) ?_

  go_wp2
  go_end0
  exact ⟨rfl, HE3.out⟩
end Go.Proofs.Ytdalpaobkmoomaa.X
end
