/- Texts of the statement CachePlays, one behind the other: Go functions as Lean functions, the machine's calls, the plain law. -/
import Derived.Test.YtdijkhamebkfjaaMCachePlays4
import Derived.DeepKeys4
import Derived.Maps.Keyed
set_option linter.unusedVariables false
set_option linter.unusedSimpArgs false
section
namespace Go.Proofs.Ytdijkhamebkfjaa.Vm
open Go.RowKit Go.Proofs.YtdijkhamebkfjaaW.PrintWords Go.Proofs.YtdijkhamebkfjaaW.PrintLast Go.Proofs.YtdijkhamebkfjaaW.PrintMore
/-- How keys are written. -/
structure KeyOk (P : Program) (kt : TypeId) {α : Type} (enc : α → Value) (ok : α → Prop) : Prop where
  keyed : Go.Maps.Keyed P kt
  key : ∀ {a : α}, ok a → ∃ l, keyOf P kt (enc a) = some l
  inj : ∀ {a b : α}, enc a = enc b → a = b
section
variable {α β : Type}
/-- Block b is a map of these keys and values. -/
def MapAt (w : World) (b : Nat) (enc : α → Value) (venc : β → Value) (es : List (α × β)) : Prop :=
  (es.map (·.1)).Nodup ∧ ∃ (ents : List MapEntry) (clock : Nat), w.heap[b]? = some (.map ents.toArray clock) ∧ ents.map (fun e => (e.key, e.val)) = es.map fun p => (enc p.1, venc p.2)
variable {enc : α → Value} {venc : β → Value} {w : World} {b : Nat} {es : List (α × β)}
theorem MapAt.block {w1 : World} (h : MapAt w b enc venc es) (hb : w1.heap[b]? = w.heap[b]?) : MapAt w1 b enc venc es := by
  obtain ⟨h0, ents, clock, h1, h2⟩ := h
  exact ⟨h0, ents, clock, hb.trans h1, h2⟩
theorem MapAt.lt (h : MapAt w b enc venc es) : b < w.heap.size := by
  obtain ⟨_, ents, clock, h1, _⟩ := h
  exact (Array.getElem?_eq_some_iff.1 h1).1
theorem MapAt.below {w1 : World} (h : MapAt w b enc venc es) (hb : Below w.heap.size w w1) : MapAt w1 b enc venc es := h.block (hb.block b h.lt)
end
section
variable {α β : Type} [DecidableEq α]
variable {P : Program} {kt mt vt : TypeId} {enc : α → Value} {venc : β → Value} {ok : α → Prop} {w : World} {b : Nat} {es : List (α × β)}
end
end Go.Proofs.Ytdijkhamebkfjaa.Vm
end
