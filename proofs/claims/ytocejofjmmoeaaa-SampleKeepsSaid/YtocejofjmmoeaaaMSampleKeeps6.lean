/- Texts of the statement SampleKeeps, one behind the other: Go functions as Lean functions, the machine's calls, the plain law. -/
import Derived.Test.YtocejofjmmoeaaaMSampleKeeps4
import Derived.Outline
import Derived.Shelf.Abstract
import Derived.WalkSpells
set_option linter.unusedVariables false
set_option linter.unusedSimpArgs false
section
namespace Go.Proofs.Ytocejofjmmoeaaa.X
open Go.RowKit Go.Proofs.YtocejofjmmoeaaaW.PrintWords Go.Proofs.YtocejofjmmoeaaaW.PrintLast Go.Proofs.YtocejofjmmoeaaaW.PrintMore
def idxBy (p : Int → Bool) (l : List Int) : Int := (l.findIdx? p).elim (-1) (fun j => (j : Int))
/-- Wherever what lay in w lies unturned, the function value tells p of a number, and turns nothing. -/
def PredAt (g : FuncId) (lb : Array Value) (p : Int → Bool) (w : World) : Prop :=
  ∀ (x : Int) (W : World), Below w.heap.size w W → Calls Try.prog g (#[.int .i64 x] ++ lb) W fun e W' => e = .returned (.bool (p x)) ∧ Drawn0 W W'
theorem idxBy_step (p : Int → Bool) (l : List Int) (i : Nat) (hi : i < l.length) (hb : ∀ j, j < i → p (rd l j) = false) (h : p (rd l i) = true) : idxBy p l = (i : Int) := by
  have hr : rd l i = l[i] := by simp [rd, List.getD_eq_getElem?_getD, List.getElem?_eq_getElem hi]
  have : l.findIdx? p = some i := by
    rw [List.findIdx?_eq_some_iff_getElem]
    refine ⟨hi, by rw [← hr]; exact h, fun j hj => ?_⟩
    have := hb j hj
    have hr2 : rd l j = l[j]'(by omega) := by simp [rd, List.getD_eq_getElem?_getD, List.getElem?_eq_getElem (show j < l.length by omega)]
    rw [hr2] at this
    simpa using this
  unfold idxBy
  rw [this]
  rfl
theorem idxBy_none (p : Int → Bool) (l : List Int) (hb : ∀ j, j < l.length → p (rd l j) = false) : idxBy p l = -1 := by
  have : l.findIdx? p = none := by
    rw [List.findIdx?_eq_none_iff]
    intro x hx
    obtain ⟨i, hi, rfl⟩ := List.getElem_of_mem hx
    have := hb i hi
    have hr : rd l i = l[i] := by simp [rd, List.getD_eq_getElem?_getD, List.getElem?_eq_getElem hi]
    rw [hr] at this
    exact this
  unfold idxBy
  rw [this]
  rfl
set_option maxHeartbeats 1000000 in
theorem IndexFunc_calls (g : FuncId) (lb : Array Value) (p : Int → Bool) (A : Option Addr) (c : Nat) (l : List Int) (w : World) (hr : Kd.C (Kd.int .i64) w A l.length l)
    (eg : ∀ args W, (callFunc g args).run Try.prog W = .ok (.enter g args) W) (hp : PredAt g lb p w) :
    Calls Try.prog 85 #[.slice A l.length c, .func (.func g) #[] lb] w fun e w' => e = .returned (.int .i64 (idxBy p l)) ∧ Drawn0 w w' := by
  have HR := Aside0.mk hr
  have HP := Aside0.mk hp
  have hmax := hr.2.1
  clear hr hp
  obtain ⟨r, hrr⟩ : ∃ r, idxBy p l = r := ⟨_, rfl⟩
  rw [hrr]
  have RR := Aside0.mk hrr
  clear hrr
  go_enter Try.func85, Try.ntmps85
  go_wp2
  go_loopw [8] (fun v8 wr => ∃ i : Nat, v8 = .int .i64 (i : Int) ∧ Aside0 (i ≤ l.length) ∧ Drawn0 w wr ∧ Aside0 (∀ j : Nat, j < i → p (rd l j) = false)) (fun v8 _ => l.length - (intOf v8).toNat)
  case atStart => exact ⟨0, rfl, ⟨by omega⟩, Drawn0.refl _, ⟨fun j hj => by omega⟩⟩
  case round =>
    obtain ⟨i, rfl, HI, ⟨nd, rfl⟩, HB⟩ := hrel
    have hi := HI.out
    by_cases hlt : i < l.length
    · obtain ⟨ad, ead, hx⟩ := Kd.at_int (Kd.C_drewN HR.out nd) (i : Int) (by omega) (by omega)
      cases ead
      rw [Int.toNat_natCast] at hx
      have cP := HP.out (rd l i) (w.drewN nd) (pw_below_drewN (Below.refl _ _) _)
      have hix := idxBy_step p l i hlt HB.out
      have hnx := HB.out
      have HX := Aside0.mk (show ∀ b, p (rd l i) = b → p (rd l i) = b from fun _ h => h)
      generalize hx0 : rd l (i : Int) = x at hx cP hix
      have HX0 := Aside0.mk hx0
      clear hx0 hnx HX hi
      cases hpx : p x with
      | true =>
        have H := Aside0.mk (RR.out.symm.trans (hix hpx))
        have HPX := Aside0.mk hpx
        rw [hpx] at cP
        clear hix hpx
        obtain rfl := H.out
        go_wp2_with (go_at_fn g; go_must (refine cP.mono ?_; rintro e w2 ⟨rfl, ⟨n2, rfl⟩⟩))
        go_ret
        exact ⟨rfl, (Drawn0.refl _).step _⟩
      | false =>
        have HPX := Aside0.mk hpx
        rw [hpx] at cP
        clear hix hpx
        go_wp2_with (go_at_fn g; go_must (refine cP.mono ?_; rintro e w2 ⟨rfl, ⟨n2, rfl⟩⟩))
        go_roundw
        case rel =>
          refine ⟨i + 1, by go_num, ⟨by omega⟩, (Drawn0.refl _).step _, ⟨fun j hj => ?_⟩⟩
          by_cases hji : j = i
          · rw [hji, HX0.out]; exact HPX.out
          · exact HB.out j (by omega)
        case measure => simp [intOf]; omega
    · have H := Aside0.mk (RR.out.symm.trans (idxBy_none p l (fun j hj => HB.out j (by omega))))
      clear hi
      obtain rfl := H.out
      go_wp2
      go_ret
      exact ⟨rfl, (Drawn0.refl _).step _⟩
end Go.Proofs.Ytocejofjmmoeaaa.X
end
