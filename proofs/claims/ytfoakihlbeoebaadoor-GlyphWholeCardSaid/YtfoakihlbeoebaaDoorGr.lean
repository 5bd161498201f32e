/- string(rs) of a slice of runes that the call owns. -/
import Derived.Test.YtfoakihlbeoebaaDoorX0
import Derived.Laws.Cover4
namespace Go.Proofs.YtfoakihlbeoebaaDoor.X
open Go.RowKit Go.Proofs.YtfoakihlbeoebaaDoorW.PrintWords Go.Proofs.YtfoakihlbeoebaaDoorW.PrintLast Go.Proofs.YtfoakihlbeoebaaDoorW.PrintMore
theorem own_runes {P : Program} {w : World} {base n : Nat} {e' src dst e : TypeId} {v : Value} {xs : List Int} (hs : P.underlying src = some (.slice e)) (he : P.underlying e = some (.int .i32)) (hd : P.underlying dst = some .string)
    (h : w.ownsRow base e' 1 v n (nums .i32 xs)) : (convert src dst v).run P w = .ok (.string (runesBytes xs)) w := by
  have hl : xs.length = n := by have := h.1; simp [nums] at this; exact this
  rcases h.2 with ⟨rfl, rfl⟩ | ⟨g, cap, cur, rfl, _⟩
  · obtain rfl : xs = [] := List.eq_nil_of_length_eq_zero hl
    rw [run_convert_runes_string w src dst e none 0 0 hs he hd]
    simp [Conv.runesToString, Sem.run_pure, runesBytes]
  · rw [run_convert_runes_string w src dst e _ n cap hs he hd]
    apply run_runesToString
    have hc := h.cells (g := g) rfl
    have h1 := run_loadCells_list (P := P) (w := w) ⟨g, 0, none⟩ (nums .i32 xs) (fun j v hv => hc j v hv)
    rw [nums_length, hl] at h1
    exact h1
end Go.Proofs.YtfoakihlbeoebaaDoor.X
