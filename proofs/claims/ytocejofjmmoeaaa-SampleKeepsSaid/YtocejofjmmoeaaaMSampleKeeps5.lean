/- Texts of the statement SampleKeeps, one behind the other: Go functions as Lean functions, the machine's calls, the plain law. -/
import Derived.Test.YtocejofjmmoeaaaMSampleKeeps4
import Derived.DeepKeys4
import Derived.Maps.Keyed
set_option linter.unusedVariables false
set_option linter.unusedSimpArgs false
section
namespace Go.Proofs.Ytocejofjmmoeaaa.Vm
open Go.RowKit Go.Proofs.YtocejofjmmoeaaaW.PrintWords Go.Proofs.YtocejofjmmoeaaaW.PrintLast Go.Proofs.YtocejofjmmoeaaaW.PrintMore
/-- How keys are written. -/
structure KeyOk (P : Program) (kt : TypeId) {α : Type} (enc : α → Value) (ok : α → Prop) : Prop where
  keyed : Go.Maps.Keyed P kt
  key : ∀ {a : α}, ok a → ∃ l, keyOf P kt (enc a) = some l
  inj : ∀ {a b : α}, enc a = enc b → a = b
section
variable {α β : Type}
/-- Block b is a map of these keys and values. -/
def MapAt (w : World) (b : Nat) (enc : α → Value) (venc : β → Value) (es : List (α × β)) : Prop :=
  (es.map (·.1)).Nodup ∧ ∃ (ents : List MapEntry) (clock : Nat), w.heap[b]? = some (.map ents.toArray clock) ∧ ents.map (fun e => (e.key, e.val)) = es.map fun p => (enc p.1, venc p.2)
variable {enc : α → Value} {venc : β → Value} {w : World} {b : Nat} {es : List (α × β)}
theorem MapAt.block {w1 : World} (h : MapAt w b enc venc es) (hb : w1.heap[b]? = w.heap[b]?) : MapAt w1 b enc venc es := by
  obtain ⟨h0, ents, clock, h1, h2⟩ := h
  exact ⟨h0, ents, clock, hb.trans h1, h2⟩
theorem MapAt.lt (h : MapAt w b enc venc es) : b < w.heap.size := by
  obtain ⟨_, ents, clock, h1, _⟩ := h
  exact (Array.getElem?_eq_some_iff.1 h1).1
theorem MapAt.below {w1 : World} (h : MapAt w b enc venc es) (hb : Below w.heap.size w w1) : MapAt w1 b enc venc es := h.block (hb.block b h.lt)
/-- A new map. -/
theorem map_new (w : World) (enc : α → Value) (venc : β → Value) : MapAt (w.alloc (.map #[] 0)) w.heap.size enc venc ([] : List (α × β)) :=
  ⟨by simp, [], 0, heap_alloc_new w _, rfl⟩
end
section
variable {α β : Type} [DecidableEq α]
def getK : List (α × β) → α → Option β
  | [], _ => none
  | p :: r, k => if p.1 = k then some p.2 else getK r k
def putK : List (α × β) → α → β → List (α × β)
  | [], k, v => [(k, v)]
  | p :: r, k, v => if p.1 = k then (k, v) :: r else p :: putK r k v
theorem getK_none {es : List (α × β)} {k : α} (h : ∀ p ∈ es, p.1 ≠ k) : getK es k = none := by
  induction es with
  | nil => rfl
  | cons p r ih => rw [getK, if_neg (h p (by simp)), ih (fun q hq => h q (by simp [hq]))]
theorem getK_at {es : List (α × β)} (hn : (es.map (·.1)).Nodup) {j : Nat} {k : α} {v : β} (h : es[j]? = some (k, v)) : getK es k = some v := by
  induction es generalizing j with
  | nil => simp at h
  | cons p r ih =>
    rw [List.map_cons, List.nodup_cons] at hn
    cases j with
    | zero =>
      simp only [List.getElem?_cons_zero, Option.some.injEq] at h
      subst h
      rw [getK, if_pos rfl]
    | succ j =>
      simp only [List.getElem?_cons_succ] at h
      have : p.1 ≠ k := fun e => hn.1 (e ▸ List.mem_map.2 ⟨(k, v), List.mem_of_getElem? h, rfl⟩)
      rw [getK, if_neg this]
      exact ih hn.2 h
theorem putK_new {es : List (α × β)} {k : α} (h : ∀ p ∈ es, p.1 ≠ k) (v : β) : putK es k v = es ++ [(k, v)] := by
  induction es with
  | nil => rfl
  | cons p r ih => rw [putK, if_neg (h p (by simp)), ih (fun q hq => h q (by simp [hq]))]; rfl
theorem putK_at {es : List (α × β)} (hn : (es.map (·.1)).Nodup) {j : Nat} {k : α} {v0 : β} (h : es[j]? = some (k, v0)) (v : β) : putK es k v = es.set j (k, v) := by
  induction es generalizing j with
  | nil => simp at h
  | cons p r ih =>
    rw [List.map_cons, List.nodup_cons] at hn
    cases j with
    | zero =>
      simp only [List.getElem?_cons_zero, Option.some.injEq] at h
      subst h
      rw [putK, if_pos rfl]
      rfl
    | succ j =>
      simp only [List.getElem?_cons_succ] at h
      have : p.1 ≠ k := fun e => hn.1 (e ▸ List.mem_map.2 ⟨(k, v0), List.mem_of_getElem? h, rfl⟩)
      rw [putK, if_neg this, ih hn.2 h]
      rfl
theorem mem_keys_putK {es : List (α × β)} {k : α} {v : β} {x : α} (h : x ∈ (putK es k v).map (·.1)) : x = k ∨ x ∈ es.map (·.1) := by
  induction es with
  | nil => simp [putK] at h; exact .inl h
  | cons p r ih =>
    rw [putK] at h
    by_cases hp : p.1 = k
    · rw [if_pos hp] at h
      simp only [List.map_cons, List.mem_cons] at h ⊢
      rcases h with h | h
      · exact .inl h
      · exact .inr (.inr h)
    · rw [if_neg hp] at h
      simp only [List.map_cons, List.mem_cons] at h ⊢
      rcases h with h | h
      · exact .inr (.inl h)
      · rcases ih h with h | h
        · exact .inl h
        · exact .inr (.inr h)
theorem putK_nodup {es : List (α × β)} (hn : (es.map (·.1)).Nodup) (k : α) (v : β) : ((putK es k v).map (·.1)).Nodup := by
  induction es with
  | nil => simp [putK]
  | cons p r ih =>
    rw [List.map_cons, List.nodup_cons] at hn
    rw [putK]
    by_cases hp : p.1 = k
    · rw [if_pos hp, List.map_cons, List.nodup_cons]
      exact ⟨hp ▸ hn.1, hn.2⟩
    · rw [if_neg hp, List.map_cons, List.nodup_cons]
      exact ⟨fun h => (mem_keys_putK h).elim hp hn.1, ih hn.2⟩
theorem getK_putK (es : List (α × β)) (k : α) (v : β) (x : α) : getK (putK es k v) x = if k = x then some v else getK es x := by
  induction es with
  | nil => simp only [putK, getK]
  | cons p r ih =>
    rw [putK]
    by_cases hp : p.1 = k
    · rw [if_pos hp, getK, getK]
      by_cases hx : k = x
      · rw [if_pos hx, if_pos hx]
      · rw [if_neg hx, if_neg hx, if_neg (fun e => hx (hp ▸ e))]
    · rw [if_neg hp, getK, getK, ih]
      by_cases hx : p.1 = x
      · rw [if_pos hx, if_pos hx, if_neg (fun e => hp (hx.trans e.symm))]
      · rw [if_neg hx, if_neg hx]
variable {P : Program} {kt mt vt : TypeId} {enc : α → Value} {venc : β → Value} {ok : α → Prop} {w : World} {b : Nat} {es : List (α × β)}
theorem map_find (K : KeyOk P kt enc ok) (hes : ∀ p ∈ es, ok p.1) (hn : (es.map (·.1)).Nodup) {ents : List MapEntry} (he : ents.map (fun e => (e.key, e.val)) = es.map fun p => (enc p.1, venc p.2)) {k : α} (hk : ok k) (w : World) :
    ((Instr.findKey kt (enc k) ents).run P w = .ok none w ∧ (∀ p ∈ es, p.1 ≠ k) ∧ getK es k = none) ∨
    ∃ (j : Nat) (v : β), (Instr.findKey kt (enc k) ents).run P w = .ok (some (j, venc v)) w ∧ es[j]? = some (k, v) ∧ getK es k = some v := by
  obtain ⟨l, hl⟩ := K.key hk
  have hget : ∀ (j : Nat) (e : MapEntry), ents[j]? = some e → ∃ p, es[j]? = some p ∧ e.key = enc p.1 ∧ e.val = venc p.2 := by
    intro j e hj
    have h1 := congrArg (fun l => l[j]?) he
    simp only [List.getElem?_map, hj, Option.map_some] at h1
    cases hp : es[j]? with
    | none => rw [hp] at h1; cases h1
    | some p =>
      rw [hp] at h1
      simp only [Option.map_some, Option.some.injEq, Prod.mk.injEq] at h1
      exact ⟨p, rfl, h1.1, h1.2⟩
  rcases K.keyed.find w hl ents (fun e hm => by
    obtain ⟨j, hj⟩ := List.getElem?_of_mem hm
    obtain ⟨p, hp, e1, _⟩ := hget j e hj
    rw [e1]
    exact K.key (hes p (List.mem_of_getElem? hp))) with ⟨h1, h2⟩ | ⟨j, e, h1, h2, h3⟩
  · have hno : ∀ p ∈ es, p.1 ≠ k := by
      intro p hp hpk
      obtain ⟨j, hj⟩ := List.getElem?_of_mem hp
      have h4 := congrArg (fun l => l[j]?) he
      simp only [List.getElem?_map, hj, Option.map_some] at h4
      cases he2 : ents[j]? with
      | none => rw [he2] at h4; cases h4
      | some e =>
        rw [he2] at h4
        simp only [Option.map_some, Option.some.injEq, Prod.mk.injEq] at h4
        exact h2 e (List.mem_of_getElem? he2) (by rw [h4.1, hpk])
    exact .inl ⟨h1, hno, getK_none hno⟩
  · obtain ⟨p, hp, e1, e2⟩ := hget j e h2
    have hpk : p.1 = k := K.inj (e1.symm.trans h3)
    have hp' : es[j]? = some (k, p.2) := by rw [hp, ← hpk]
    exact .inr ⟨j, p.2, by rw [h1, e2], hp', getK_at hn hp'⟩
/-- A look at a key. -/
theorem map_lookup (K : KeyOk P kt enc ok) (hmt : P.underlying mt = some (.map kt vt)) {zv : Value} (hz : ∀ w : World, (zeroValue vt).run P w = .ok zv w) (h : MapAt w b enc venc es) (hes : ∀ p ∈ es, ok p.1) {k : α} (hk : ok k) (c : Bool) :
    (Instr.lookup mt (.map (some b)) (enc k) c).run P w = .ok (if c then .tuple #[((getK es k).map venc).getD zv, .bool (getK es k).isSome] else ((getK es k).map venc).getD zv) w := by
  obtain ⟨hn, ents, clock, h1, h2⟩ := h
  obtain ⟨l, hl⟩ := K.key hk
  rcases map_find K hes hn h2 hk w with ⟨g1, _, g3⟩ | ⟨j, v, g1, _, g3⟩
  · rw [g3]
    cases c <;> simp [Instr.lookup, run_underlying hmt, MapKept.run_getObj_map h1, K.keyed.check w _ hl, g1, hz w, Result.andThen]
  · rw [g3]
    cases c <;> simp [Instr.lookup, run_underlying hmt, MapKept.run_getObj_map h1, K.keyed.check w _ hl, g1, Result.andThen]
/-- A store at a key. -/
theorem map_put (K : KeyOk P kt enc ok) (hmt : P.underlying mt = some (.map kt vt)) (h : MapAt w b enc venc es) (hes : ∀ p ∈ es, ok p.1) {k : α} (hk : ok k) (v : β) :
    ∃ w', (Instr.mapUpdate mt (.map (some b)) (enc k) (venc v)).run P w = .ok () w' ∧ MapAt w' b enc venc (putK es k v) ∧ w.grownBy w' (some b) := by
  obtain ⟨hn, ents, clock, h1, h2⟩ := h
  obtain ⟨l, hl⟩ := K.key hk
  have hg : ∀ o : Obj, w.grownBy (Go.ChangeMaps.setBlock w b o) (some b) := fun o => ⟨rfl, rfl, rfl, by simp [Go.ChangeMaps.setBlock], fun i _ hi => Go.ChangeMaps.heap_setBlock_other h1 _ (fun e => hi (by rw [e]))⟩
  rcases map_find K hes hn h2 hk w with ⟨g1, g2, _⟩ | ⟨j, v0, g1, g2, _⟩
  · refine ⟨Go.ChangeMaps.setBlock w b (.map (ents.toArray.push ⟨enc k, venc v, clock⟩) (clock + 1)), ?_, ⟨putK_nodup hn k v, ents ++ [⟨enc k, venc v, clock⟩], clock + 1, ?_, ?_⟩, hg _⟩
    · simp [Instr.mapUpdate, run_underlying hmt, MapKept.run_getObj_map h1, K.keyed.check w _ hl, g1, MapKept.run_setObj_map _ h1, Result.andThen, Go.ChangeMaps.setBlock]
    · rw [Go.ChangeMaps.heap_setBlock_same h1]
      simp
    · rw [putK_new g2]
      simp [h2]
  · have hjl : j < ents.length := by
      have h4 := congrArg List.length h2
      simp only [List.length_map] at h4
      rw [h4]
      exact (List.getElem?_eq_some_iff.1 g2).1
    have hkey : ents[j].key = enc k := by
      have h4 := congrArg (fun l => l[j]?) h2
      simp only [List.getElem?_map, g2, Option.map_some, List.getElem?_eq_getElem hjl, Option.some.injEq, Prod.mk.injEq] at h4
      exact h4.1
    refine ⟨Go.ChangeMaps.setBlock w b (.map (ents.toArray.modify j fun e => { e with key := enc k, val := venc v }) clock), ?_, ⟨putK_nodup hn k v, ents.modify j (fun e => { e with key := enc k, val := venc v }), clock, ?_, ?_⟩, hg _⟩
    · have hst := K.keyed.stays w hl
      simp [Instr.mapUpdate, run_underlying hmt, MapKept.run_getObj_map h1, K.keyed.check w _ hl, g1, List.getElem?_eq_getElem hjl, hkey, hst, MapKept.run_setObj_map _ h1, Result.andThen, Go.ChangeMaps.setBlock]
    · rw [Go.ChangeMaps.heap_setBlock_same h1]
      simp
    · rw [putK_at hn g2]
      apply List.ext_getElem?
      intro i
      have h4 := congrArg (fun l => l[i]?) h2
      simp only [List.getElem?_map] at h4 ⊢
      rw [List.getElem?_modify]
      by_cases hij : j = i
      · subst hij
        rw [List.getElem?_set_self (List.getElem?_eq_some_iff.1 g2).1, List.getElem?_eq_getElem hjl]
        simp
      · rw [List.getElem?_set_ne hij, ← h4]
        simp [hij]
/-- That store, at the operation. -/
theorem wpList_map_put {ops : Array Oper} {rest : List Oper} {o : Oper} {a : Act} {Q : Exit → Act → World → Prop} (K : KeyOk P kt enc ok) (hmt : P.underlying mt = some (.map kt vt)) (hg : o.guard = none) (m x y : Operand)
    (hop : o.op = .insert mt m x y ∨ o.op = .mapUpdate mt m x y) (k : α) (v : β) (hm : a.eval m = .map (some b)) (hx : a.eval x = enc k) (hv : a.eval y = venc v) (hd : o.dst = none) (h : MapAt w b enc venc es) (hes : ∀ p ∈ es, ok p.1) (hk : ok k)
    (hnext : ∀ w', MapAt w' b enc venc (putK es k v) → w.grownBy w' (some b) → wpList P ops Q rest a w') : wpList P ops Q (o :: rest) a w := by
  obtain ⟨w', h1, h2, h3⟩ := map_put K hmt h hes hk v
  refine wpList_plain hg fun K' hK => ?_
  have hrun : (execOp a.eval o).run P w = .ok .skip w' := by
    unfold execOp
    rcases hop with hop | hop
    · simp [hop, hm, hx, hv, h1, Result.andThen]
    · simp [hop, hm, hx, hv, h1, Result.andThen]
  unfold Oper.wp
  rw [hrun]
  show K' (a.put o.dst undef) w'
  rw [hd]
  exact hK _ _ (hnext w' h2 h3)
end
/-- Whole numbers as keys. -/
theorem int_keys {P : Program} {kt : TypeId} {q : IntKind} (hk : P.underlying kt = some (.int q)) : KeyOk P kt (Value.int q) (fun a => (Lit.int q a).wf = true) where
  keyed := Go.Maps.int_keyed hk
  key := fun {a} ha => ⟨.int q a, by simp [keyOf, mapKey, hk, ha]⟩
  inj := fun h => by injection h
end Go.Proofs.Ytocejofjmmoeaaa.Vm
end
