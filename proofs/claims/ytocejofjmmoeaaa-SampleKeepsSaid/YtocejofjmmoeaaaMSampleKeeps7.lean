/- Texts of the statement SampleKeeps, one behind the other: Go functions as Lean functions, the machine's calls, the plain law. -/
import Derived.Test.YtocejofjmmoeaaaMSampleKeeps5
import Derived.Great.BuildSlice
import Derived.Laws.CopyOwn
set_option linter.unusedVariables false
set_option linter.unusedSimpArgs false
section
namespace Go.Proofs.Ytocejofjmmoeaaa.Sp
open Go.RowKit Go.Proofs.YtocejofjmmoeaaaW.PrintWords Go.Proofs.YtocejofjmmoeaaaW.PrintLast Go.Proofs.YtocejofjmmoeaaaW.PrintMore
/-- A piece: the blocks that it lies in, and what is told of it; it stays while these blocks stay. -/
structure Res where
  own : Nat → Prop
  at_ : World → Prop
  step : ∀ {w w1 : World}, at_ w → (∀ k, own k → k < w.heap.size → w1.heap[k]? = w.heap[k]?) → at_ w1
/-- A block of cells. -/
def blk (g : Nat) (cs : Array Value) (t : TypeId) : Res where
  own := fun k => k = g
  at_ := fun w => w.heap[g]? = some (.cells cs t (0, 0))
  step := fun {w w1} h hk => (hk g rfl (blk_lt h)).trans h
/-- A row whose elements lead nowhere. -/
def row {α : Type} (d : Kd α) (e base : Nat) (v : Value) (xs : List α) : Res where
  own := fun k => some k = v.ownBlock
  at_ := fun w => d.R e w base (fun k => some k = v.ownBlock) v xs
  step := fun h hk => Kd.R_step h (fun k ho hlt => hk k ho hlt)
/-- A row whose elements may lead to rows, no two to one block, all of them in the blocks told. -/
def rows {α : Type} (d : Kd α) (e base : Nat) (own : Nat → Prop) (v : Value) (xs : List α) : Res where
  own := own
  at_ := fun w => Kd.S d e w base own v xs
  step := fun h hk => Kd.S_step h (fun k ho hlt => hk k ho hlt)
theorem S_single {α : Type} {d : Kd α} {e : Nat} {w : World} {base : Nat} {ok : Nat → Prop} {v : Value} {x : α} (h : d.R e w base ok v [x]) : Kd.S d e w base ok v [x] := by
  obtain ⟨h0, inner, ho, hr⟩ := h
  refine ⟨fun _ => 0, h0, inner, ho, hr.1, fun j p hj => ?_⟩
  cases j with
  | zero =>
    simp at hj
    subst hj
    exact d.M_mono (fun k hk => ⟨hk, rfl⟩) (hr.2 0 x rfl)
  | succ j => simp at hj
/-- A map. -/
def mp {α β : Type} (b : Nat) (enc : α → Value) (venc : β → Value) (es : List (α × β)) : Res where
  own := fun k => k = b
  at_ := fun w => Vm.MapAt w b enc venc es
  step := fun h hk => h.block (hk b rfl h.lt)
abbrev ints (base : Nat) (v : Value) (xs : List Int) : Res := row (Kd.int .i64) 3 base v xs
/-- All pieces, apart from one another, none of them older than base. -/
def Sep (base : Nat) (rs : List Res) (w : World) : Prop :=
  (∀ r ∈ rs, r.at_ w ∧ ∀ k, r.own k → base ≤ k ∧ k < w.heap.size) ∧ rs.Pairwise (fun a b => ∀ k, a.own k → ¬ b.own k)
section
variable {base : Nat} {rs : List Res} {w w1 : World}
theorem Sep.get (h : Sep base rs w) (i : Nat) {r : Res} (hi : rs[i]? = some r) : r.at_ w := (h.1 r (List.mem_of_getElem? hi)).1
theorem Sep.bound (h : Sep base rs w) (i : Nat) {r : Res} (hi : rs[i]? = some r) {k : Nat} (hk : r.own k) : base ≤ k ∧ k < w.heap.size := (h.1 r (List.mem_of_getElem? hi)).2 k hk
theorem Sep.low (h : Sep base rs w) (hb : Below w.heap.size w w1) : Sep base rs w1 :=
  ⟨fun r hr => ⟨r.step (h.1 r hr).1 (fun k _ hlt => hb.block k hlt), fun k hk => ⟨((h.1 r hr).2 k hk).1, Nat.lt_of_lt_of_le ((h.1 r hr).2 k hk).2 hb.size⟩⟩, h.2⟩
theorem apart_of {rs : List Res} (h : rs.Pairwise (fun a b => ∀ k, a.own k → ¬ b.own k)) {i j : Nat} {r q : Res} (hi : rs[i]? = some r) (hj : rs[j]? = some q) (hne : i ≠ j) {k : Nat} (hr : r.own k) : ¬ q.own k := by
  have hil := (List.getElem?_eq_some_iff.1 hi)
  have hjl := (List.getElem?_eq_some_iff.1 hj)
  rw [List.pairwise_iff_getElem] at h
  rcases Nat.lt_or_gt_of_ne hne with hlt | hlt
  · have := h i j hil.1 hjl.1 hlt
    rw [hil.2, hjl.2] at this
    exact this k hr
  · have := h j i hjl.1 hil.1 hlt
    rw [hil.2, hjl.2] at this
    exact fun hq => this k hq hr
theorem Sep.apart (h : Sep base rs w) {i j : Nat} {r q : Res} (hi : rs[i]? = some r) (hj : rs[j]? = some q) (hne : i ≠ j) {k : Nat} (hr : r.own k) : ¬ q.own k := apart_of h.2 hi hj hne hr
/-- One piece turns. -/
theorem Sep.upd (h : Sep base rs w) (i : Nat) {r r' : Res} (hi : rs[i]? = some r) (hat : r'.at_ w1) (hk : ∀ k, ¬ r.own k → k < w.heap.size → w1.heap[k]? = w.heap[k]?) (ho : ∀ k, r'.own k → (r.own k ∨ w.heap.size ≤ k) ∧ k < w1.heap.size) (hb : base ≤ w.heap.size) (hs : w.heap.size ≤ w1.heap.size) : Sep base (rs.set i r') w1 := by
  have hil := (List.getElem?_eq_some_iff.1 hi)
  refine ⟨fun q hq => ?_, ?_⟩
  · obtain ⟨j, hj⟩ := List.getElem?_of_mem hq
    by_cases hji : j = i
    · subst hji
      rw [List.getElem?_set_self hil.1] at hj
      obtain rfl := Option.some.inj hj
      refine ⟨hat, fun k hk' => ?_⟩
      rcases ho k hk' with ⟨h1 | h1, h2⟩
      · exact ⟨(h.bound j hi h1).1, h2⟩
      · exact ⟨by omega, h2⟩
    · rw [List.getElem?_set_ne (fun e => hji e.symm)] at hj
      refine ⟨q.step (h.get j hj) (fun k hq' hlt => hk k (h.apart hj hi hji hq') hlt), fun k hq' => ?_⟩
      have := h.bound j hj hq'
      exact ⟨this.1, by omega⟩
  · rw [List.pairwise_iff_getElem]
    intro a b ha hb' hab k hka hkb
    have hold : ∀ j (hj : j < (rs.set i r').length), j ≠ i → ∃ q, rs[j]? = some q ∧ (rs.set i r')[j] = q := by
      intro j hj hji
      refine ⟨rs[j]'(by simpa using hj), List.getElem?_eq_getElem _, ?_⟩
      rw [List.getElem_set_ne (fun e => hji e.symm)]
    by_cases hai : a = i
    · subst hai
      obtain ⟨q, h1, h2⟩ := hold b hb' (by omega)
      rw [List.getElem_set_self] at hka
      rw [h2] at hkb
      rcases ho k hka with ⟨h3 | h3, _⟩
      · exact h.apart hi h1 (by omega) h3 hkb
      · have := h.bound b h1 hkb
        omega
    · by_cases hbi : b = i
      · subst hbi
        obtain ⟨q, h1, h2⟩ := hold a ha (by omega)
        rw [List.getElem_set_self] at hkb
        rw [h2] at hka
        rcases ho k hkb with ⟨h3 | h3, _⟩
        · exact h.apart h1 hi (by omega) hka h3
        · have := h.bound a h1 hka
          omega
      · obtain ⟨q, h1, h2⟩ := hold a ha hai
        obtain ⟨p, h3, h4⟩ := hold b hb' hbi
        rw [h2] at hka
        rw [h4] at hkb
        exact h.apart h1 h3 (by omega) hka hkb
/-- A piece more, new. -/
theorem Sep.cons (h : Sep base rs w) (r : Res) (hat : r.at_ w1) (hb : Below w.heap.size w w1) (ho : ∀ k, r.own k → w.heap.size ≤ k ∧ k < w1.heap.size) (hbase : base ≤ w.heap.size) : Sep base (r :: rs) w1 := by
  have h1 := h.low hb
  refine ⟨fun q hq => ?_, List.pairwise_cons.2 ⟨fun q hq k hk hq' => ?_, h.2⟩⟩
  · rcases List.mem_cons.1 hq with rfl | hq
    · exact ⟨hat, fun k hk => ⟨by have := ho k hk; omega, (ho k hk).2⟩⟩
    · exact h1.1 q hq
  · obtain ⟨j, hj⟩ := List.getElem?_of_mem hq
    have h2 := h.bound j hj hq'
    have h3 := ho k hk
    omega
theorem Sep.nil (base : Nat) (w : World) : Sep base [] w := ⟨fun r hr => (by cases hr), List.Pairwise.nil⟩
theorem Sep.tail {r : Res} (h : Sep base (r :: rs) w) : Sep base rs w := ⟨fun q hq => h.1 q (List.mem_cons_of_mem _ hq), (List.pairwise_cons.1 h.2).2⟩
/-- An empty piece more. -/
theorem Sep.free (h : Sep base rs w) (r : Res) (hat : r.at_ w) (ho : ∀ k, ¬ r.own k) : Sep base (r :: rs) w :=
  ⟨fun q hq => by
    rcases List.mem_cons.1 hq with rfl | hq
    · exact ⟨hat, fun k hk => absurd hk (ho k)⟩
    · exact h.1 q hq, List.pairwise_cons.2 ⟨fun q _ k hk => absurd hk (ho k), h.2⟩⟩
theorem Sep.nilRow {α : Type} (h : Sep base rs w) (d : Kd α) (e : Nat) : Sep base (row d e base (.slice none 0 0) [] :: rs) w := h.free _ (Kd.R_nil _ _ _ _ _) (fun k hk => by simp [row, Value.ownBlock] at hk)
/-- A new block. -/
theorem Sep.alloc (h : Sep base rs w) (cs : Array Value) (t : TypeId) (hb : base ≤ w.heap.size) : Sep base (blk w.heap.size cs t :: rs) (w.alloc (.cells cs t)) :=
  h.cons _ (blk_new w _) (below_alloc (Below.refl _ _) _) (fun k hk => by rw [show k = w.heap.size from hk]; simp) hb
/-- A new row. -/
theorem Sep.newRow {α : Type} {d : Kd α} {e : Nat} {ok : Nat → Prop} {v : Value} {xs : List α} (hE : d.E = []) (h : Sep base rs w) (hr : d.R e w1 base ok v xs) (hg : w.grownBy w1 none) (hn : ∃ b, v.ownBlock = some b ∧ w.heap.size ≤ b) (hbase : base ≤ w.heap.size) : Sep base (row d e base v xs :: rs) w1 := by
  obtain ⟨b, hb1, hb2⟩ := hn
  refine h.cons _ (Kd.R_tight hE hr) ⟨hg.os, hg.tape, hg.output, hg.size, fun i hi => hg.block i hi (by simp)⟩ (fun k hk => ?_) hbase
  have hk' : some k = v.ownBlock := hk
  have := Kd.R_lt hr k hk'.symm
  rw [hb1] at hk'
  have : k = b := by injection hk'
  omega
/-- A new map. -/
theorem Sep.newMap {α β : Type} (h : Sep base rs w) (enc : α → Value) (venc : β → Value) (hb : base ≤ w.heap.size) : Sep base (mp w.heap.size enc venc [] :: rs) (w.alloc (.map #[] 0)) :=
  h.cons _ (Vm.map_new w enc venc) (below_alloc (Below.refl _ _) _) (fun k hk => by rw [show k = w.heap.size from hk]; simp) hb
/-- An append to a row. -/
theorem Sep.app {α : Type} {d : Kd α} {e : Nat} {ok : Nat → Prop} {v v1 : Value} {xs xs1 : List α} (h : Sep base rs w) (i : Nat) (hi : rs[i]? = some (row d e base v xs)) (hE : d.E = []) (hr : d.R e w1 base ok v1 xs1) (hg : w.grownBy w1 v.ownBlock) (hat : v1.ownBlock = v.ownBlock ∨ ∃ b, v1.ownBlock = some b ∧ w.heap.size ≤ b) (hbase : base ≤ w.heap.size) :
    Sep base (rs.set i (row d e base v1 xs1)) w1 := by
  refine h.upd i hi (Kd.R_tight hE hr) (fun k hk hlt => hg.block k hlt hk) (fun k hk => ?_) hbase hg.size
  have hk' : some k = v1.ownBlock := hk
  refine ⟨?_, Kd.R_lt hr k hk'.symm⟩
  rcases hat with h1 | ⟨b, h1, h2⟩
  · exact .inl (hk'.trans h1)
  · rw [h1] at hk'
    injection hk' with hk'
    exact .inr (by omega)
/-- A store into a block. -/
theorem Sep.cell {g : Nat} {cs : Array Value} {t : TypeId} (h : Sep base rs w) (i : Nat) (hi : rs[i]? = some (blk g cs t)) (j : Nat) (u : Value) {cs' : Array Value} (e : cs.setIfInBounds j u = cs') (hbase : base ≤ w.heap.size) : Sep base (rs.set i (blk g cs' t)) (w.setCell ⟨g, j, none⟩ u) :=
  h.upd i hi (blk_put (h.get i hi) j u e) (fun k hk _ => Below.heap_setCell w ⟨g, j, none⟩ u k hk) (fun k hk => ⟨.inl hk, by rw [show k = g from hk]; simpa using blk_lt (h.get i hi)⟩) hbase (by simp)
/-- A store of a whole row of cells into a block. -/
theorem Sep.setRow {g : Nat} {cs cs' : Array Value} {t : TypeId} (h : Sep base rs w) (i : Nat) (hi : rs[i]? = some (blk g cs t)) (hg : (w.setRow g cs').heap[g]? = some (.cells cs' t (0, 0))) (hgr : w.grownBy (w.setRow g cs') (some g)) (hbase : base ≤ w.heap.size) : Sep base (rs.set i (blk g cs' t)) (w.setRow g cs') :=
  h.upd i hi hg (fun k hk hlt => hgr.block k hlt (fun e => hk (by injection e))) (fun k hk => ⟨.inl hk, by have := blk_lt hg; rw [show k = g from hk]; exact this⟩) hbase hgr.size
/-- A store into a row of numbers (or of what else is one cell). -/
theorem Sep.put {α : Type} {enc : α → Value} {h1 : ∀ x, (enc x).oneCell' = true} {e g n cap : Nat} {xs : List α} (h : Sep base rs w) (i : Nat) (hi : rs[i]? = some (row (Kd.scalar enc h1) e base (.slice (some ⟨g, 0, none⟩) n cap) xs)) (j : Int) (x : α) (hbase : base ≤ w.heap.size) :
    Sep base (rs.set i (row (Kd.scalar enc h1) e base (.slice (some ⟨g, 0, none⟩) n cap) (xs.set j.toNat x))) (w.setCell ⟨g, j.toNat, none⟩ (enc x)) := by
  obtain ⟨h2, h3⟩ := Kd.R_putg (h.get i hi) j x
  refine h.upd i hi h2 (fun k hk hlt => h3.block k hlt (fun e => hk (show some k = some g from e))) (fun k hk => ⟨.inl hk, ?_⟩) hbase h3.size
  have := Kd.R_lt h2 k (show _ = some k from hk.symm)
  exact this
/-- A store into a map. -/
theorem Sep.putMap {α β : Type} {b : Nat} {enc : α → Value} {venc : β → Value} {es es1 : List (α × β)} (h : Sep base rs w) (i : Nat) (hi : rs[i]? = some (mp b enc venc es)) (hm : Vm.MapAt w1 b enc venc es1) (hg : w.grownBy w1 (some b)) (hbase : base ≤ w.heap.size) : Sep base (rs.set i (mp b enc venc es1)) w1 :=
  h.upd i hi hm (fun k hk hlt => hg.block k hlt (fun e => hk (by injection e))) (fun k hk => ⟨.inl hk, by have := hm.lt; rw [show k = b from hk]; exact this⟩) hbase hg.size
/-- Below, behind such an event. -/
theorem Sep.belowSet {w0 : World} {g j : Nat} {u : Value} {cs : Array Value} {t : TypeId} (h : Sep base rs w) (i : Nat) (hi : rs[i]? = some (blk g cs t)) (hb : Below base w0 w) : Below base w0 (w.setCell ⟨g, j, none⟩ u) := hb.setCell (h.bound i hi (show g = g from rfl)).1 _
theorem Sep.belowGrown {w0 : World} {i : Nat} {r : Res} (h : Sep base rs w) (hi : rs[i]? = some r) {o : Option Nat} (ho : ∀ k, o = some k → r.own k) (hb : Below base w0 w) (hs : base ≤ w.heap.size) (hg : w.grownBy w1 o) : Below base w0 w1 := pw_below_grown hb o hs hg (fun k hk => (h.bound i hi (ho k hk)).1)
end
theorem new_slice {α : Type} {d : Kd α} {e : Nat} {w : World} {base : Nat} {ok : Nat → Prop} {v : Value} {xs : List α} (h : d.R e w base ok v xs) {n : Nat} (hn : ∃ b, v.ownBlock = some b ∧ n ≤ b) : ∃ g c, v = .slice (some ⟨g, 0, none⟩) xs.length c := by
  obtain ⟨_, inner, ho, _⟩ := h
  obtain ⟨b, hb, _⟩ := hn
  rcases ho.2 with ⟨rfl, _⟩ | ⟨g, cap, cur, rfl, _⟩
  · simp [Value.ownBlock] at hb
  · exact ⟨g, cap, rfl⟩
/-- Nothing yet. -/
def none_ : Res where
  own := fun _ => False
  at_ := fun _ => True
  step := fun _ _ => trivial
/-- Two pieces as one. -/
def both (a b : Res) : Res where
  own := fun k => a.own k ∨ b.own k
  at_ := fun w => (a.at_ w ∧ b.at_ w) ∧ ∀ k, a.own k → ¬ b.own k
  step := fun h hk => ⟨⟨a.step h.1.1 (fun k ho => hk k (.inl ho)), b.step h.1.2 (fun k ho => hk k (.inr ho))⟩, h.2⟩
abbrev mach (base : Nat) (v : Value) (xs : List Int) (u : Value) (ys : List Int) : Res := both (ints base v xs) (ints base u ys)
theorem Sep.start (base : Nat) (n : Nat) (w : World) : Sep base (List.replicate n none_) w :=
  ⟨fun r hr => by rw [List.eq_of_mem_replicate hr]; exact ⟨trivial, fun k hk => hk.elim⟩, List.pairwise_replicate.2 (.inr fun k hk => hk.elim)⟩
/-- A piece in the place of nothing, new behind an event that left all old blocks. -/
theorem Sep.fill {base : Nat} {rs : List Res} {w w1 : World} (h : Sep base rs w) (i : Nat) (hi : rs[i]? = some none_) (r : Res) (hat : r.at_ w1) (hb : Below w.heap.size w w1) (ho : ∀ k, r.own k → w.heap.size ≤ k ∧ k < w1.heap.size) (hbase : base ≤ w.heap.size) : Sep base (rs.set i r) w1 :=
  h.upd i hi hat (fun k _ hlt => hb.block k hlt) (fun k hk => ⟨.inr (ho k hk).1, (ho k hk).2⟩) hbase hb.size
theorem Sep.fillBlk {base : Nat} {rs : List Res} {w w1 : World} (h : Sep base rs w) (i : Nat) (hi : rs[i]? = some none_) {g : Nat} {cs : Array Value} {t : TypeId} (hg : g = w.heap.size) (hbox : w1.heap[g]? = some (.cells cs t (0, 0))) (hb : Below w.heap.size w w1) (hbase : base ≤ w.heap.size) : Sep base (rs.set i (blk g cs t)) w1 :=
  h.fill i hi _ hbox hb (fun k hk => by have hk : k = g := hk; have := blk_lt hbox; omega) hbase
/-- The two lists of a machine that a call made. -/
theorem Sep.fillMach {base : Nat} {rs : List Res} {w w1 : World} (h : Sep base rs w) (i : Nat) (hi : rs[i]? = some none_) {v u : Value} {xs ys : List Int} (hv : (Kd.int .i64).R 3 w1 w.heap.size (fun k => some k ≠ u.ownBlock) v xs) (hu : (Kd.int .i64).R 3 w1 w.heap.size (fun k => some k ≠ v.ownBlock) u ys) (hb : Below w.heap.size w w1) (hbase : base ≤ w.heap.size) : Sep base (rs.set i (mach base v xs u ys)) w1 := by
  refine h.fill i hi _ ⟨⟨Kd.R_tight rfl (Kd.R_lower hv hbase), Kd.R_tight rfl (Kd.R_lower hu hbase)⟩, fun k hk hk' => ?_⟩ hb (fun k hk => ?_) hbase
  · have h1 : some k = v.ownBlock := hk
    have h2 : some k = u.ownBlock := hk'
    exact hv.1 k h1.symm h2
  · rcases hk with hk | hk
    · have h1 : some k = v.ownBlock := hk
      have h2 := Kd.R_lt hv k h1.symm
      have h3 := Kd.R_base2 hv
      rcases h3 with h3 | ⟨j, h3, h4⟩
      · rw [h3] at h1; cases h1
      · rw [h3] at h1; injection h1 with h1; omega
    · have h1 : some k = u.ownBlock := hk
      have h2 := Kd.R_lt hu k h1.symm
      have h3 := Kd.R_base2 hu
      rcases h3 with h3 | ⟨j, h3, h4⟩
      · rw [h3] at h1; cases h1
      · rw [h3] at h1; injection h1 with h1; omega
section
variable {P : Program} {ops : Array Oper} {oi : Oper} {a : Act} {Q : Exit → Act → World → Prop} {Kc : Act → World → Prop}
/-- A store of a whole struct, as one step of a region that draws. -/
theorem store_row_step {w : World} (hw : Region.wanted oi (yielded ops a.tmps) = true) (hN : oi.dst = none) (ty : TypeId) (x y : Operand) (ho : oi.op = .store ty x y) (g : Nat) (cells : Array Value) (hx : a.eval x = .pointer (some ⟨g, 0, none⟩)) (hy : a.eval y = .agg cells)
    (t : TypeId) (old : Array Value) (hg : w.heap[g]? = some (.cells old t (0, 0))) (hi : (P.info? ty).map (·.size) = some cells.size) (hold : old.size = cells.size) (h1 : cells.all (·.oneCell') = true) (h : Kc a (w.setRow g cells)) :
    if Region.wanted oi (yielded ops a.tmps) = true then Oper.wp P oi a w Kc Q else Kc (a.put none undef) w := by
  rw [if_pos hw]
  exact wp_store_row ty x y ho g cells hx hy t old hg hi hold h1 (by rw [hN]; exact h)
end
theorem setRow_other' (w : World) (g : Nat) (cs : Array Value) (k : Nat) (h : k ≠ g) : (w.setRow g cs).heap[k]? = w.heap[k]? := by
  have h' : ¬ g = k := fun e => h e.symm
  simp [World.setRow, Array.getElem?_modify, h']
theorem Sep.setStruct {base : Nat} {rs : List Res} {w : World} {g : Nat} {cs : Array Value} {t : TypeId} (h : Sep base rs w) (i : Nat) (hi : rs[i]? = some (blk g cs t)) (cs' : Array Value) (hbase : base ≤ w.heap.size) : Sep base (rs.set i (blk g cs' t)) (w.setRow g cs') :=
  h.upd i hi (setRow_heap w g cs cs' t (0, 0) (h.get i hi)) (fun k hk _ => setRow_other' w g cs' k hk) (fun k hk => ⟨.inl hk, by rw [show k = g from hk]; simpa using blk_lt (h.get i hi)⟩) hbase (by simp)
theorem Sep.of_apart {base : Nat} {rs : List Res} {w : World} (h1 : ∀ (i : Nat) (r : Res), rs[i]? = some r → r.at_ w ∧ ∀ k, r.own k → base ≤ k ∧ k < w.heap.size) (h2 : ∀ (i j : Nat) (r q : Res), rs[i]? = some r → rs[j]? = some q → i ≠ j → ∀ k, r.own k → ¬ q.own k) : Sep base rs w := by
  refine ⟨fun r hr => ?_, ?_⟩
  · obtain ⟨i, hi⟩ := List.getElem?_of_mem hr
    exact h1 i r hi
  · rw [List.pairwise_iff_getElem]
    intro i j hi hj hij
    exact h2 i j _ _ (List.getElem?_eq_getElem hi) (List.getElem?_eq_getElem hj) (by omega)
/-- Some of the pieces. -/
theorem Sep.sub {base : Nat} {rs rs' : List Res} {w : World} (h : Sep base rs w) (hs : rs'.Sublist rs) : Sep base rs' w := ⟨fun r hr => h.1 r (hs.subset hr), h.2.sublist hs⟩
/-- Two pieces told as one. -/
theorem Sep.merge {base : Nat} {rs : List Res} {w : World} (h : Sep base rs w) (i j : Nat) {r q : Res} (hi : rs[i]? = some r) (hj : rs[j]? = some q) (hij : i ≠ j) : Sep base ((rs.set i (both r q)).set j none_) w := by
  have hil := (List.getElem?_eq_some_iff.1 hi).1
  have hjl := (List.getElem?_eq_some_iff.1 hj).1
  have hget : ∀ a x, ((rs.set i (both r q)).set j none_)[a]? = some x → (a = j ∧ x = none_) ∨ (a ≠ j ∧ a = i ∧ x = both r q) ∨ (a ≠ j ∧ a ≠ i ∧ rs[a]? = some x) := by
    intro a x hx
    by_cases ha : a = j
    · subst ha
      rw [List.getElem?_set_self (by simpa using hjl)] at hx
      exact .inl ⟨rfl, (Option.some.inj hx).symm⟩
    · rw [List.getElem?_set_ne (fun e => ha e.symm)] at hx
      by_cases hb : a = i
      · subst hb
        rw [List.getElem?_set_self hil] at hx
        exact .inr (.inl ⟨ha, rfl, (Option.some.inj hx).symm⟩)
      · rw [List.getElem?_set_ne (fun e => hb e.symm)] at hx
        exact .inr (.inr ⟨ha, hb, hx⟩)
  refine Sep.of_apart (fun a x hx => ?_) (fun a b x y hx hy hab k hk hk' => ?_)
  · rcases hget a x hx with ⟨_, rfl⟩ | ⟨_, _, rfl⟩ | ⟨_, _, hx⟩
    · exact ⟨trivial, fun k hk => hk.elim⟩
    · refine ⟨⟨⟨h.get i hi, h.get j hj⟩, fun k => h.apart hi hj hij⟩, fun k hk => ?_⟩
      rcases hk with hk | hk
      · exact h.bound i hi hk
      · exact h.bound j hj hk
    · exact ⟨h.get a hx, fun k => h.bound a hx⟩
  · rcases hget a x hx with ⟨_, rfl⟩ | ⟨ha, ha', rfl⟩ | ⟨ha, ha', hx⟩
    · exact hk
    · rcases hget b y hy with ⟨_, rfl⟩ | ⟨_, hb', rfl⟩ | ⟨hb, hb', hy⟩
      · exact hk'
      · exact hab (ha'.trans hb'.symm)
      · rcases hk with hk | hk
        · exact h.apart hi hy (fun e => hb' e.symm) hk hk'
        · exact h.apart hj hy (fun e => hb e.symm) hk hk'
    · rcases hget b y hy with ⟨_, rfl⟩ | ⟨_, hb', rfl⟩ | ⟨hb, hb', hy⟩
      · exact hk'
      · rcases hk' with hk' | hk'
        · exact h.apart hx hi ha' hk hk'
        · exact h.apart hx hj ha hk hk'
      · exact h.apart hx hy hab hk hk'
/-- A row of rows made of one row. -/
theorem Sep.rowsOf {α β : Type} {base : Nat} {rs : List Res} {w w1 : World} {d : Kd α} {D : Kd β} {e E : Nat} {vin v : Value} {xin : List α} {xs : List β} (h : Sep base rs w) (i : Nat) (hi : rs[i]? = some (row d e base vin xin)) (hr : Kd.S D E w1 base (fun k => some k = vin.ownBlock ∨ w.heap.size ≤ k) v xs) (hg : w.grownBy w1 none) (hbase : base ≤ w.heap.size) :
    Sep base (rs.set i (rows D E base (fun k => (some k = vin.ownBlock ∨ w.heap.size ≤ k) ∧ k < w1.heap.size) v xs)) w1 :=
  h.upd i hi (Kd.S_mono (Kd.S_bound hr) (fun k hk => ⟨hk.1, hk.2.2.1⟩)) (fun k _ hlt => hg.block k hlt (by simp)) (fun k hk => hk) hbase hg.size
/-- A row appended to a row of rows. -/
theorem Sep.appRows {α β : Type} {base : Nat} {rs : List Res} {w w1 : World} {d : Kd α} {D : Kd β} {e E : Nat} {P : Nat → Prop} {v v1 vin : Value} {xin : List α} {xs xs1 : List β} (h : Sep base rs w) (i j : Nat) (hi : rs[i]? = some (rows D E base P v xs)) (hj : rs[j]? = some (row d e base vin xin)) (hij : i ≠ j)
    (hr : Kd.S D E w1 base (fun k => P k ∨ some k = vin.ownBlock ∨ w.heap.size ≤ k) v1 xs1) (hg : w.grownBy w1 v.ownBlock) (hbase : base ≤ w.heap.size) :
    Sep base ((rs.set j none_).set i (rows D E base (fun k => (P k ∨ some k = vin.ownBlock ∨ w.heap.size ≤ k) ∧ k < w1.heap.size) v1 xs1)) w1 := by
  have hm := h.merge i j hi hj hij
  have hil := (List.getElem?_eq_some_iff.1 hi).1
  have hv : ∀ k, v.ownBlock = some k → P k := (Kd.S_R (h.get i hi)).1
  have hii : ((rs.set i (both (rows D E base P v xs) (row d e base vin xin))).set j none_)[i]? = some (both (rows D E base P v xs) (row d e base vin xin)) := by
    rw [List.getElem?_set_ne (fun e => hij e.symm), List.getElem?_set_self hil]
  have := hm.upd i hii (r' := rows D E base (fun k => (P k ∨ some k = vin.ownBlock ∨ w.heap.size ≤ k) ∧ k < w1.heap.size) v1 xs1) (w1 := w1) (Kd.S_mono (Kd.S_bound hr) (fun k hk => ⟨hk.1, hk.2.2.1⟩)) (fun k hk hlt => hg.block k hlt (fun e => hk (.inl (hv k e.symm)))) (fun k hk => by
    refine ⟨?_, hk.2⟩
    rcases hk.1 with h1 | h1 | h1
    · exact .inl (.inl h1)
    · exact .inl (.inr h1)
    · exact .inr h1) hbase hg.size
  rw [List.set_comm _ _ hij, List.set_set] at this
  exact this
/-- Pieces that were there, and pieces that are new since. -/
theorem Sep.over {base : Nat} {rs rs2 : List Res} {w w1 : World} (h : Sep base rs w) (hb : Below w.heap.size w w1) (h2 : Sep w.heap.size rs2 w1) (hbase : base ≤ w.heap.size) : Sep base (rs2 ++ rs) w1 := by
  have h1 := h.low hb
  refine ⟨fun r hr => ?_, List.pairwise_append.2 ⟨h2.2, h1.2, fun r hr q hq k hk hk' => ?_⟩⟩
  · rcases List.mem_append.1 hr with hr | hr
    · exact ⟨(h2.1 r hr).1, fun k hk => by have := (h2.1 r hr).2 k hk; omega⟩
    · exact h1.1 r hr
  · have := (h2.1 r hr).2 k hk
    have := (h.1 q hq).2 k hk'
    omega
/-- A row that was just made. -/
theorem Sep.fillNew {α : Type} {d : Kd α} {e : Nat} {ok : Nat → Prop} {v : Value} {xs : List α} {base : Nat} {rs : List Res} {w w1 : World} (h : Sep base rs w) (i : Nat) (hi : rs[i]? = some none_) (hE : d.E = []) (hr : d.R e w1 base ok v xs) (hg : w.grownBy w1 none) (hn : ∃ b, v.ownBlock = some b ∧ w.heap.size ≤ b) (hbase : base ≤ w.heap.size) : Sep base (rs.set i (row d e base v xs)) w1 := by
  obtain ⟨b, hb1, hb2⟩ := hn
  refine h.fill i hi _ (Kd.R_tight hE hr) ⟨hg.os, hg.tape, hg.output, hg.size, fun i hi => hg.block i hi (by simp)⟩ (fun k hk => ?_) hbase
  have hk' : some k = v.ownBlock := hk
  have := Kd.R_lt hr k hk'.symm
  rw [hb1] at hk'
  have : k = b := by injection hk'
  omega
/-- A row that a call made, as a piece more. -/
theorem Sep.addRow {α : Type} {d : Kd α} {e : Nat} {ok : Nat → Prop} {v : Value} {xs : List α} {base : Nat} {rs : List Res} {w w1 : World} (h : Sep base rs w) (hE : d.E = []) (hr : d.R e w1 w.heap.size ok v xs) (hb : Below w.heap.size w w1) (hbase : base ≤ w.heap.size) : Sep base (row d e base v xs :: rs) w1 :=
  h.cons _ (Kd.R_tight hE (Kd.R_lower hr hbase)) hb (fun k hk => by
    have hk' : some k = v.ownBlock := hk
    have h2 := Kd.R_lt hr k hk'.symm
    rcases Kd.R_base2 hr with h3 | ⟨j, h3, h4⟩
    · rw [h3] at hk'; cases hk'
    · rw [h3] at hk'; injection hk' with h1; omega) hbase
theorem gate_insert {P : Program} {ops : Array Oper} {rest : List Oper} {o : Oper} {a : Act} {Q : Exit → Act → World → Prop} {W : World} {t : TypeId} {m x v : Operand} (_ho : o.op = .insert t m x v) (h : wpList P ops Q (o :: rest) a W) : wpList P ops Q (o :: rest) a W := h
theorem gate_update {P : Program} {ops : Array Oper} {rest : List Oper} {o : Oper} {a : Act} {Q : Exit → Act → World → Prop} {W : World} {t : TypeId} {m x v : Operand} (_ho : o.op = .mapUpdate t m x v) (h : wpList P ops Q (o :: rest) a W) : wpList P ops Q (o :: rest) a W := h
end Go.Proofs.Ytocejofjmmoeaaa.Sp
end
