/- Texts of the statement NfaCounts, one behind the other: Go functions as Lean functions, the machine's calls, the plain law. -/
import Derived.Test.YtkaefgmgcghhiaaMNfaCounts4
import Derived.Outline
import Derived.Shelf.Abstract
import Derived.WalkSpells
set_option linter.unusedVariables false
set_option linter.unusedSimpArgs false
section
namespace Go.Proofs.Ytkaefgmgcghhiaa.X
open Go.RowKit Go.Proofs.YtkaefgmgcghhiaaW.PrintWords Go.Proofs.YtkaefgmgcghhiaaW.PrintLast Go.Proofs.YtkaefgmgcghhiaaW.PrintMore
def idxBy (p : Int → Bool) (l : List Int) : Int := (l.findIdx? p).elim (-1) (fun j => (j : Int))
/-- Wherever what lay in w lies unturned, the function value tells p of a number, and turns nothing. -/
def PredAt (g : FuncId) (lb : Array Value) (p : Int → Bool) (w : World) : Prop :=
  ∀ (x : Int) (W : World), Below w.heap.size w W → Calls Try.prog g (#[.int .i64 x] ++ lb) W fun e W' => e = .returned (.bool (p x)) ∧ bY W W'
theorem idxBy_step (p : Int → Bool) (l : List Int) (i : Nat) (hi : i < l.length) (hb : ∀ j, j < i → p (rd l j) = false) (h : p (rd l i) = true) : idxBy p l = (i : Int) := by
  have hr : rd l i = l[i] := by simp [rd, List.getD_eq_getElem?_getD, List.getElem?_eq_getElem hi]
  have : l.findIdx? p = some i := by
    rw [List.findIdx?_eq_some_iff_getElem]
    refine ⟨hi, by rw [← hr]; exact h, fun j hj => ?_⟩
    have := hb j hj
    have hr2 : rd l j = l[j]'(by omega) := by simp [rd, List.getD_eq_getElem?_getD, List.getElem?_eq_getElem (show j < l.length by omega)]
    rw [hr2] at this
    simpa using this
  unfold idxBy
  rw [this]
  rfl
theorem idxBy_none (p : Int → Bool) (l : List Int) (hb : ∀ j, j < l.length → p (rd l j) = false) : idxBy p l = -1 := by
  have : l.findIdx? p = none := by
    rw [List.findIdx?_eq_none_iff]
    intro x hx
    obtain ⟨i, hi, rfl⟩ := List.getElem_of_mem hx
    have := hb i hi
    have hr : rd l i = l[i] := by simp [rd, List.getD_eq_getElem?_getD, List.getElem?_eq_getElem hi]
    rw [hr] at this
    exact this
  unfold idxBy
  rw [this]
  rfl
set_option maxHeartbeats 1000000 in
theorem IndexFunc_calls (g : FuncId) (lb : Array Value) (p : Int → Bool) (A : Option Addr) (c : Nat) (l : List Int) (w : World) (hr : Kd.C (Kd.int .i64) w A l.length l)
    (eg : ∀ args W, (callFunc g args).run Try.prog W = .ok (.enter g args) W) (hp : PredAt g lb p w) :
    Calls Try.prog 53 #[.slice A l.length c, .func (.func g) #[] lb] w fun e w' => e = .returned (.int .i64 (idxBy p l)) ∧ bY w w' := by
  have HR := aC.mk hr
  have HP := aC.mk hp
  have hmax := hr.2.1
  clear hr hp
  obtain ⟨r, hrr⟩ : ∃ r, idxBy p l = r := ⟨_, rfl⟩
  rw [hrr]
  have RR := aC.mk hrr
  clear hrr
  go_enter Try.func53, Try.ntmps53
  go_wp2
  go_loopw [8] (fun v8 wr => ∃ i : Nat, v8 = .int .i64 (i : Int) ∧ aC (i ≤ l.length) ∧ bY w wr ∧ aC (∀ j : Nat, j < i → p (rd l j) = false)) (fun v8 _ => l.length - (intOf v8).toNat)
  case atStart => exact ⟨0, rfl, ⟨by omega⟩, bY.refl _, ⟨fun j hj => by omega⟩⟩
  case round =>
    obtain ⟨i, rfl, HI, ⟨nd, rfl⟩, HB⟩ := hrel
    have hi := HI.out
    by_cases hlt : i < l.length
    · obtain ⟨ad, ead, hx⟩ := Kd.cz (Kd.bR HR.out nd) (i : Int) (by omega) (by omega)
      cases ead
      rw [Int.toNat_natCast] at hx
      have cP := HP.out (rd l i) (w.drewN nd) (aG (Below.refl _ _) _)
      have hix := idxBy_step p l i hlt HB.out
      have hnx := HB.out
      have HX := aC.mk (show ∀ b, p (rd l i) = b → p (rd l i) = b from fun _ h => h)
      generalize hx0 : rd l (i : Int) = x at hx cP hix
      have HX0 := aC.mk hx0
      clear hx0 hnx HX hi
      cases hpx : p x with
      | true =>
        have H := aC.mk (RR.out.symm.trans (hix hpx))
        have HPX := aC.mk hpx
        rw [hpx] at cP
        clear hix hpx
        obtain rfl := H.out
        go_wp2_with (go_at_fn g; go_must (refine cP.mono ?_; rintro e w2 ⟨rfl, ⟨n2, rfl⟩⟩))
        go_ret
        exact ⟨rfl, (bY.refl _).step _⟩
      | false =>
        have HPX := aC.mk hpx
        rw [hpx] at cP
        clear hix hpx
        go_wp2_with (go_at_fn g; go_must (refine cP.mono ?_; rintro e w2 ⟨rfl, ⟨n2, rfl⟩⟩))
        go_roundw
        case rel =>
          refine ⟨i + 1, by go_num, ⟨by omega⟩, (bY.refl _).step _, ⟨fun j hj => ?_⟩⟩
          by_cases hji : j = i
          · rw [hji, HX0.out]; exact HPX.out
          · exact HB.out j (by omega)
        case measure => simp [intOf]; omega
    · have H := aC.mk (RR.out.symm.trans (idxBy_none p l (fun j hj => HB.out j (by omega))))
      clear hi
      obtain rfl := H.out
      go_wp2
      go_ret
      exact ⟨rfl, (bY.refl _).step _⟩
end Go.Proofs.Ytkaefgmgcghhiaa.X
end

section
namespace Go.Proofs.Ytkaefgmgcghhiaa.X
open Go.RowKit Go.Proofs.YtkaefgmgcghhiaaW.PrintWords Go.Proofs.YtkaefgmgcghhiaaW.PrintLast Go.Proofs.YtkaefgmgcghhiaaW.PrintMore
/-- Is it a state? -/
def stB (N s : Int) : Bool := decide (0 ≤ s) && decide (s < N)
theorem state_calls (N x : Int) (B : Nat) (w : World) (hc : w.cell? ⟨B, 1, none⟩ = some (.int .i64 N)) :
    Calls Try.prog 52 #[.int .i64 x, .pointer (some ⟨B, 0, none⟩)] w fun e w' => e = .returned (.bool (stB N x)) ∧ w = w' := by
  unfold stB
  by_cases h0 : 0 ≤ x
  · have e0 : decide (0 ≤ x) = true := decide_eq_true h0
    rw [e0, Bool.true_and]
    clear h0
    go_enter Try.func52, Try.ntmps52
    go_wp2
    go_ret
    exact ⟨rfl, rfl⟩
  · have e0 : decide (0 ≤ x) = false := decide_eq_false h0
    rw [e0, Bool.false_and]
    clear h0
    go_enter Try.func52, Try.ntmps52
    go_wp2
    go_ret
    exact ⟨rfl, rfl⟩
theorem notState_calls (N x : Int) (B C : Nat) (w : World) (hf : w.cell? ⟨C, 0, none⟩ = some (.func (.func 52) #[] #[.pointer (some ⟨B, 0, none⟩)])) (hc : w.cell? ⟨B, 1, none⟩ = some (.int .i64 N)) :
    Calls Try.prog 54 #[.int .i64 x, .pointer (some ⟨C, 0, none⟩)] w fun e w' => e = .returned (.bool (!stB N x)) ∧ bY w w' := by
  have cS := state_calls N x B w hc
  generalize stB N x = b at cS
  go_enter Try.func54, Try.ntmps54
  go_wp2_with (go_at_call 52; refine cS.mono ?_; rintro e w' ⟨rfl, rfl⟩)
  go_ret
  exact ⟨rfl, bY.refl _⟩
def outB (f : Int) : Bool := decide (f ≠ 0) && decide (f ≠ 1)
theorem out_calls (x : Int) (w : World) : Calls Try.prog 55 #[.int .i64 x] w fun e w' => e = .returned (.bool (outB x)) ∧ bY w w' := by
  unfold outB
  by_cases h0 : x = 0
  · subst h0
    go_enter Try.func55, Try.ntmps55
    go_wp2
    go_ret
    exact ⟨rfl, bY.refl _⟩
  · have e0 : (x != 0) = true := by simpa using h0
    have e1 : decide (x ≠ 0) = true := by simpa using h0
    rw [e1, Bool.true_and]
    by_cases h1 : x = 1
    · subst h1
      clear h0 e1
      go_enter Try.func55, Try.ntmps55
      go_wp2
      go_ret
      exact ⟨rfl, bY.refl _⟩
    · have e2 : (x != 1) = true := by simpa using h1
      have e3 : decide (x ≠ 1) = true := by simpa using h1
      rw [e3]
      clear h0 h1 e1 e3
      go_enter Try.func55, Try.ntmps55
      go_wp2
      go_ret
      exact ⟨rfl, bY.refl _⟩
theorem notState_pred (N : Int) (B C : Nat) (w : World) (hB : B < w.heap.size) (hC : C < w.heap.size) (hf : w.cell? ⟨C, 0, none⟩ = some (.func (.func 52) #[] #[.pointer (some ⟨B, 0, none⟩)])) (hc : w.cell? ⟨B, 1, none⟩ = some (.int .i64 N)) :
    PredAt 54 #[.pointer (some ⟨C, 0, none⟩)] (fun x => !stB N x) w := fun x W hb =>
  notState_calls N x B C W ((hb.cell (p := ⟨C, 0, none⟩) hC).trans hf) ((hb.cell (p := ⟨B, 1, none⟩) hB).trans hc)
theorem out_pred (w : World) : PredAt 55 #[] outB w := fun x W _ => out_calls x W
theorem enters54 : ∀ args W, (callFunc 54 args).run Try.prog W = .ok (.enter 54 args) W := fun args W => enters_ Try.func54 (by kernel_rfl) rfl args W
theorem enters55 : ∀ args W, (callFunc 55 args).run Try.prog W = .ok (.enter 55 args) W := fun args W => enters_ Try.func55 (by kernel_rfl) rfl args W
end Go.Proofs.Ytkaefgmgcghhiaa.X
end
