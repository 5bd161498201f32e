/- Texts of the statement SampleSays, one behind the other: Go functions as Lean functions, the machine's calls, the plain law. -/
import Derived.Test.YtocejofjmmoeaaaMSampleSays0
import Derived.Test.YtocejofjmmoeaaaMSampleSays2
import Derived.Test.YtocejofjmmoeaaaMSampleSays3
import Derived.Laws.StructEq
import Derived.Test.YtocejofjmmoeaaaProg
set_option linter.unusedVariables false
set_option linter.unusedSimpArgs false
section
namespace Go.Proofs.Ytocejofjmmoeaaa.X
open Go.RowKit Go.Proofs.YtocejofjmmoeaaaW.PrintWords Go.Proofs.YtocejofjmmoeaaaW.PrintLast Go.Proofs.YtocejofjmmoeaaaW.PrintMore
attribute [local go_sem] eZ eu fV fU eP eO fF fE   -- for this text's walks alone
set_option linter.unusedVariables false
set_option linter.unusedSimpArgs false
def errW : Option Int → Value
  | none => .nilIface
  | some c => .iface 0 (.int .i64 c)
theorem ag : errW none = .nilIface := rfl
theorem af (c : Int) : errW (some c) = .iface 0 (.int .i64 c) := rfl
theorem info3 : (Try.prog.info? 3).map (fun i => (i.zero, i.size, i.bytes)) = some (some (.int .i64 0), 1, 8) := by kernel_rfl
theorem info5 : (Try.prog.info? 5).map (fun i => (i.zero, i.size, i.bytes)) = some (some (.int .u8 0), 1, 1) := by kernel_rfl
theorem info32 : (Try.prog.info? 32).map (fun i => (i.zero, i.size, i.bytes)) = some (some (.slice none 0 0), 1, 24) := by kernel_rfl
structure S57 where
  f0 : (List Int)
  f1 : Int
def z57 : S57 := ⟨([] : List Int), (0 : Int)⟩
def k57 : Kd S57 := Kd.iso (Kd.pair (Kd.slice 3 (Kd.int .i64)) (Kd.int .i64)) (fun x : S57 => (x.f0, x.f1))
theorem k57_open {w : World} {x : S57} {cs : List Value} (h : k57.K w x cs) : ∃ A0 c0, cs = [.slice A0 x.f0.length c0, .int .i64 x.f1] ∧ x.f0.length ≤ c0 ∧ (Kd.int .i64).C w A0 x.f0.length x.f0 := by
  obtain ⟨_, _, rfl, ⟨A0, c0, rfl, l0, g0⟩, rfl⟩ := h
  exact ⟨A0, c0, rfl, l0, g0⟩
theorem k57_mk (w : World) (x : S57) {A0 : Option Addr} {c0 : Nat} (l0 : x.f0.length ≤ c0) (g0 : (Kd.int .i64).C w A0 x.f0.length x.f0) : k57.K w x [.slice A0 x.f0.length c0, .int .i64 x.f1] := ⟨[.slice A0 x.f0.length c0], [.int .i64 x.f1], rfl, ⟨A0, c0, rfl, l0, g0⟩, rfl⟩
def dm (xs : List S57) (i : Int) : S57 := xs.getD i.toNat z57
theorem at_T57 {w : World} {A : Option Addr} {n : Nat} {xs : List S57} (h : Kd.C k57 w A n xs) (i : Int) (h0 : 0 ≤ i) (h1 : i < n) : ∃ ad A0 c0, A = some ad ∧ w.cell? (ad.add (i.toNat * 2)) = some (.slice A0 (dm xs i).f0.length c0) ∧ w.cell? ⟨(ad.add (i.toNat * 2)).block, (ad.add (i.toNat * 2)).off + 1, none⟩ = some (.int .i64 (dm xs i).f1) ∧ (dm xs i).f0.length ≤ c0 ∧ (Kd.int .i64).C w A0 (dm xs i).f0.length (dm xs i).f0 := by
  obtain ⟨ad, c, e, _, hK, hc0⟩ := Kd.C_get h z57 i h0 h1
  have hc : ∀ j u, c[j]? = some u → w.cell? (ad.add (i.toNat * 2 + j)) = some u := hc0
  obtain ⟨A0, c0, rfl, l0, g0⟩ := k57_open hK
  exact ⟨ad, A0, c0, e, hc 0 _ rfl, by rw [← add_field _ _ 1 (by omega)]; exact hc 1 _ rfl, l0, g0⟩
structure S34 where
  f0 : Int
  f1 : Int
  f2 : (List Int)
  f3 : (List Int)
structure S50 where
  f0 : Int
  f1 : Int
  f2 : Int
  f3 : Int
  f4 : (List Int)
  f5 : (List Int)
def z50 : S50 := ⟨(0 : Int), (0 : Int), (0 : Int), (0 : Int), ([] : List Int), ([] : List Int)⟩
end Go.Proofs.Ytocejofjmmoeaaa.X
end

section
namespace Go.Proofs.Ytocejofjmmoeaaa.X
open Go.RowKit Go.Proofs.YtocejofjmmoeaaaW.PrintWords Go.Proofs.YtocejofjmmoeaaaW.PrintLast Go.Proofs.YtocejofjmmoeaaaW.PrintMore
attribute [local go_sem] eZ eu fV fU eP eO fF fE   -- for this text's walks alone
set_option linter.unusedVariables false
set_option linter.unusedSimpArgs false
def dZ.l0 : Nat → List Int → List Int → Int → Option (Bool)
  | 0, _, _, _ => none
  | k + 1, x0, x1, x5 => if x5 < (x0.length : Int) then (if 0 ≤ x5 then (if x5 < (x1.length : Int) then (if (rd x0 x5) = (rd x1 x5) then (dZ.l0 k x0 x1 (wrap64 (x5 + 1))) else (some false)) else (none)) else (none)) else (some true)
def dZ.f (k : Nat) (l0 : List Int) (l1 : List Int) : Option (Bool) := if (l0.length : Int) = (l1.length : Int) then (dZ.l0 k l0 l1 0) else (some false)
set_option maxHeartbeats 8000000 in
set_option maxRecDepth 100000 in
theorem dZ.calls (k : Nat) (A0 : Option Addr) (c0 : Nat) (l0 : List Int) (A1 : Option Addr) (c1 : Nat) (l1 : List Int) (r : Bool) (w : World) (hr0 : Kd.C (Kd.int .i64) w A0 l0.length l0) (hc0 : l0.length ≤ c0) (hr1 : Kd.C (Kd.int .i64) w A1 l1.length l1) (hc1 : l1.length ≤ c1) (h : dZ.f k l0 l1 = some r) :
    Calls Try.prog 34 #[.slice A0 l0.length c0, .slice A1 l1.length c1] w fun e w' => e = .returned (.bool r) ∧ az w w' := by
  have HR0 := aA.mk hr0
  have HC0 := aA.mk hc0
  clear hr0 hc0
  have HR1 := aA.mk hr1
  have HC1 := aA.mk hc1
  clear hr1 hc1
  have H : (if (l0.length : Int) = (l1.length : Int) then (dZ.l0 k l0 l1 0) else (some false)) = some r := h
  clear h
  by_cases c3 : (l0.length : Int) = (l1.length : Int)
  · rw [if_pos c3] at H
    have c3b0 : ((l0.length : Int) == (l1.length : Int)) = true := beq_iff_eq.mpr c3
    have c3b1 : ((l0.length : Int) != (l1.length : Int)) = false := bne_eq_false_iff_eq.mpr c3
    have c3b2 : (l0.length == l1.length) = true := by first | simpa using c3 | (simp at c3 ⊢; omega)
    clear c3
    have H' := aA.mk H
    clear H
    go_enter Try.func34, Try.ntmps34
    go_wp2
    repeat (go_quiet (fail); try go_wp2)
    go_loopg [5] k (fun kq v5 w' => ∃ (kQ : Int), v5 = .int .i64 kQ ∧ aA (dZ.l0 kq l0 l1 kQ = some r) ∧ aA (kq ≤ k) ∧ az w w')
    case atStart => exact ⟨(0), (by first | rfl | (simp; done) | (simp [*]; done)), H', ⟨Nat.le_refl _⟩, by repeat (first | exact az.refl _ | apply az.step)⟩
    case round =>
      clear H'
      try clear c1
      try clear p2
      try clear c3
      try clear c3b0
      try clear c3b1
      try clear c3b2
      obtain ⟨kQ, rfl, HA, HK1, ⟨m1, rfl⟩⟩ := hrel
      cases gk with
      | zero => exact absurd HA.out (by simp [dZ.l0])
      | succ k1 =>
        have H := HA.out
        clear HA
        simp only [dZ.l0] at H
        by_cases c4 : kQ < (l0.length : Int)
        · rw [if_pos c4] at H
          have gz : decide (kQ < (l0.length : Int)) = true := decide_eq_true c4
          clear c4
          by_cases c5 : 0 ≤ kQ
          · rw [if_pos c5] at H
            have c5b0 : decide (0 ≤ kQ) = true := decide_eq_true c5
            clear c5
            by_cases c6 : kQ < (l1.length : Int)
            · rw [if_pos c6] at H
              have c6b0 : decide (kQ < (l1.length : Int)) = true := decide_eq_true c6
              clear c6
              by_cases c7 : (rd l0 kQ) = (rd l1 kQ)
              · rw [if_pos c7] at H
                have c7b0 : ((rd l0 kQ) == (rd l1 kQ)) = true := beq_iff_eq.mpr c7
                have c7b1 : ((rd l0 kQ) != (rd l1 kQ)) = false := bne_eq_false_iff_eq.mpr c7
                clear c7
                have H' := aA.mk H
                clear H
                have p233 : 0 ≤ (kQ : Int) := of_decide_eq_true (by first | (with_reducible assumption) | assumption)
                have q233 : kQ < (l0.length : Int) := of_decide_eq_true (by first | (with_reducible assumption) | assumption)
                obtain ⟨ad233, e233, hx233_0⟩ := Kd.dN HR0.out kQ p233 q233
                cases e233
                replace p233 := eq_true p233
                replace q233 := eq_true q233
                have p234 : 0 ≤ (kQ : Int) := of_decide_eq_true (by first | (with_reducible assumption) | assumption)
                have q234 : kQ < (l1.length : Int) := of_decide_eq_true (by first | (with_reducible assumption) | assumption)
                obtain ⟨ad234, e234, hx234_0⟩ := Kd.dN HR1.out kQ p234 q234
                cases e234
                replace p234 := eq_true p234
                replace q234 := eq_true q234
                go_wp2
                repeat (go_quiet (fail); try go_wp2)
                go_roundg k1
                case measure => have := HK1.out; omega
                case rel => exact ⟨(wrap64 (kQ + 1)), (by first | rfl | (simp; done) | (simp [*]; done)), H', ⟨by have := HK1.out; omega⟩, by repeat (first | exact az.refl _ | apply az.step)⟩
              · rw [if_neg c7] at H
                have c7b0 : ((rd l0 kQ) == (rd l1 kQ)) = false := beq_eq_false_iff_ne.mpr c7
                have c7b1 : ((rd l0 kQ) != (rd l1 kQ)) = true := bne_iff_ne.mpr c7
                obtain rfl := Option.some.inj H
                have p233 : 0 ≤ (kQ : Int) := of_decide_eq_true (by first | (with_reducible assumption) | assumption)
                have q233 : kQ < (l0.length : Int) := of_decide_eq_true (by first | (with_reducible assumption) | assumption)
                obtain ⟨ad233, e233, hx233_0⟩ := Kd.dN HR0.out kQ p233 q233
                cases e233
                replace p233 := eq_true p233
                replace q233 := eq_true q233
                have p234 : 0 ≤ (kQ : Int) := of_decide_eq_true (by first | (with_reducible assumption) | assumption)
                have q234 : kQ < (l1.length : Int) := of_decide_eq_true (by first | (with_reducible assumption) | assumption)
                obtain ⟨ad234, e234, hx234_0⟩ := Kd.dN HR1.out kQ p234 q234
                cases e234
                replace p234 := eq_true p234
                replace q234 := eq_true q234
                go_wp2
                repeat (go_quiet (fail); try go_wp2)
                go_ret
                exact ⟨by first | rfl | (simp; done) | (simp [*]; done), by repeat (first | exact az.refl _ | apply az.step)⟩
            · rw [if_neg c6] at H
              exact absurd H (by simp)
          · rw [if_neg c5] at H
            exact absurd H (by simp)
        · rw [if_neg c4] at H
          have gz : decide (kQ < (l0.length : Int)) = false := decide_eq_false c4
          clear c4
          obtain rfl := Option.some.inj H
          go_wp2
          repeat (go_quiet (fail); try go_wp2)
          go_ret
          exact ⟨by first | rfl | (simp; done) | (simp [*]; done), by repeat (first | exact az.refl _ | apply az.step)⟩
  · rw [if_neg c3] at H
    have c3b0 : ((l0.length : Int) == (l1.length : Int)) = false := beq_eq_false_iff_ne.mpr c3
    have c3b1 : ((l0.length : Int) != (l1.length : Int)) = true := bne_iff_ne.mpr c3
    have c3b2 : (l0.length == l1.length) = false := by first | simpa using c3 | (simp at c3 ⊢; omega)
    obtain rfl := Option.some.inj H
    go_enter Try.func34, Try.ntmps34
    go_wp2
    repeat (go_quiet (fail); try go_wp2)
    go_ret
    exact ⟨by first | rfl | (simp; done) | (simp [*]; done), by repeat (first | exact az.refl _ | apply az.step)⟩
end Go.Proofs.Ytocejofjmmoeaaa.X
end

section
namespace Go.Proofs.Ytocejofjmmoeaaa.X
open Go.RowKit Go.Proofs.YtocejofjmmoeaaaW.PrintWords Go.Proofs.YtocejofjmmoeaaaW.PrintLast Go.Proofs.YtocejofjmmoeaaaW.PrintMore
attribute [local go_sem] eZ eu fV fU eP eO fF fE   -- for this text's walks alone
set_option linter.unusedVariables false
set_option linter.unusedSimpArgs false
def eT.l0 : Nat → List Int → List Int → Int → Int → Option (ByteArray)
  | 0, _, _, _, _ => none
  | k + 1, x3, x9, x10, x11 => if x11 < x10 then (if 0 ≤ x11 then (if x11 < (x9.length : Int) then (if x11 < (x3.length : Int) then (eT.l0 k (x3.set (x11 : Int).toNat ((rd x9 x11) % 256)) x9 x10 (wrap64 (x11 + 1))) else (none)) else (none)) else (none)) else (some (strOfNums x3))
def eT.f (k : Nat) (l0 : List Int) : Option (ByteArray) := if 0 ≤ (l0.length : Int) then (if ((l0.length : Int) : Int).toNat ≤ 281474976710656 then (eT.l0 k (List.replicate ((l0.length : Int) : Int).toNat 0) l0 (l0.length : Int) 0) else (none)) else (none)
set_option maxHeartbeats 8000000 in
set_option maxRecDepth 100000 in
theorem eT.calls (k : Nat) (A0 : Option Addr) (c0 : Nat) (l0 : List Int) (r : ByteArray) (w : World) (hr0 : Kd.C (Kd.int .i64) w A0 l0.length l0) (hc0 : l0.length ≤ c0) (h : eT.f k l0 = some r) :
    Calls Try.prog 36 #[.slice A0 l0.length c0] w fun e w' => e = .returned (.string r) ∧ Below w.heap.size w w' := by
  have HR0 := aA.mk hr0
  have HC0 := aA.mk hc0
  clear hr0 hc0
  have HB := aA.mk (Below.refl w.heap.size w)
  have H : (if 0 ≤ (l0.length : Int) then (if ((l0.length : Int) : Int).toNat ≤ 281474976710656 then (eT.l0 k (List.replicate ((l0.length : Int) : Int).toNat 0) l0 (l0.length : Int) 0) else (none)) else (none)) = some r := h
  clear h
  by_cases c2 : 0 ≤ (l0.length : Int)
  · rw [if_pos c2] at H
    have c2b0 := eq_true c2
    have c2b1 : decide (0 ≤ (l0.length : Int)) = true := decide_eq_true c2
    clear c2
    by_cases c3 : ((l0.length : Int) : Int).toNat ≤ 281474976710656
    · rw [if_pos c3] at H
      have c3b0 := eq_true c3
      have c3b1 : decide (((l0.length : Int) : Int).toNat ≤ 281474976710656) = true := decide_eq_true c3
      clear c3
      obtain ⟨y106, hy106⟩ : ∃ y_ : List Int, y_ = (List.replicate ((l0.length : Int) : Int).toNat 0) := ⟨_, rfl⟩
      replace H : (eT.l0 k y106 l0 (l0.length : Int) 0) = some r := by first | (rw [hy106]; with_reducible exact H) | (have H2_ := (Option.bind_some _ _).symm.trans H; rw [hy106]; with_reducible exact H2_) | (have H2_ := (Option.bind_some _ _).symm.trans H; with_reducible exact H2_) | with_reducible exact H | (rw [hy106]; exact H) | exact H
      have Ny106 := aA.mk hy106
      clear hy106
      have H' := aA.mk H
      clear H
      go_enter Try.func36, Try.ntmps36
      go_wp2_with (first | ((with_reducible refine bT (N := 8) rfl ?_); refine Kd.R_make (Kd.int .u8) _ 5 rfl (N := 8) rfl 100 _ _ rfl (l0.length : Int) rfl rfl Try.underlying100 (.int .u8 0) 1 info5 rfl (by decide) (by omega) 0 (ok := fun _ => True) (okp := fun _ => True) rfl (fun _ hk => hk) trivial (of_decide_eq_true (by first | (with_reducible assumption) | assumption)) (Nat.le_trans (Nat.mul_le_mul_right _ (of_decide_eq_true (by first | (with_reducible assumption) | assumption) : (l0.length : Int).toNat ≤ 281474976710656)) (by omega)) (Below.refl _ _) (Nat.le_refl _) ?_; intro v107 w4 ho5 hb hg_ hnew_; clear hg_ hnew_; (first | rw [← Ny106.out] at ho5 | (simp only [Int.reduceToNat] at ho5; rw [← Ny106.out] at ho5)); have n0_ := aA.mk (Kd.gI ho5 (aY (by repeat (first | (with_reducible first | exact HB.out | apply aH | apply aG | apply aI) | exact HB.out)))); have n1_ := aA.mk (aW (by repeat (first | (with_reducible first | exact HB.out | apply aH | apply aG | apply aI) | exact HB.out)) hb); clear HB; have HO108 := n0_; have HB := n1_; clear n0_ n1_; clear hb ho5))
      go_loopg [11] k (fun kq v11 w' => ∃ (x3_1 : List Int) (d9 : Int), v11 = .int .i64 d9 ∧ aA (eT.l0 kq x3_1 l0 (l0.length : Int) d9 = some r) ∧ aA (kq ≤ k) ∧ aA (Kd.R (Kd.int .u8) 5 w' w.heap.size (fun _ => True) v107 x3_1) ∧ aA (Below w.heap.size w w'))
      case atStart => exact ⟨(y106), (0), (by first | rfl | (simp; done) | (simp [*]; done)), H', ⟨Nat.le_refl _⟩, ⟨by (with_reducible repeat (first | apply Kd.ai | apply Kd.ah | apply Kd.ax)); exact HO108.out⟩, ⟨by repeat (first | (with_reducible first | exact HB.out | apply aH | apply aG | apply aI) | exact HB.out)⟩⟩
      case round =>
        clear H'
        try clear c2
        try clear c2b0
        try clear c2b1
        try clear p2
        try clear c3
        try clear c3b0
        try clear c3b1
        obtain ⟨x3_1, d9, rfl, HA, HK1, HO_3, HB⟩ := hrel
        cases gk with
        | zero => exact absurd HA.out (by simp [eT.l0])
        | succ k1 =>
          have H := HA.out
          clear HA
          simp only [eT.l0] at H
          by_cases c6 : d9 < (l0.length : Int)
          · rw [if_pos c6] at H
            have c6b0 : decide (d9 < (l0.length : Int)) = true := decide_eq_true c6
            clear c6
            by_cases c7 : 0 ≤ d9
            · rw [if_pos c7] at H
              have c7b0 : decide (0 ≤ d9) = true := decide_eq_true c7
              clear c7
              by_cases c8 : d9 < (l0.length : Int)
              · rw [if_pos c8] at H
                have c8b0 : decide (d9 < (l0.length : Int)) = true := decide_eq_true c8
                clear c8
                by_cases c9 : d9 < (x3_1.length : Int)
                · rw [if_pos c9] at H
                  have c9b0 : decide (d9 < (x3_1.length : Int)) = true := decide_eq_true c9
                  clear c9
                  obtain ⟨y110, hy110⟩ : ∃ y_ : List Int, y_ = (x3_1.set (d9 : Int).toNat ((rd l0 d9) % 256)) := ⟨_, rfl⟩
                  replace H : (eT.l0 k1 y110 l0 (l0.length : Int) (wrap64 (d9 + 1))) = some r := by first | (rw [hy110]; with_reducible exact H) | (have H2_ := (Option.bind_some _ _).symm.trans H; rw [hy110]; with_reducible exact H2_) | (have H2_ := (Option.bind_some _ _).symm.trans H; with_reducible exact H2_) | with_reducible exact H | (rw [hy110]; exact H) | exact H
                  have Ny110 := aA.mk hy110
                  clear hy110
                  have H' := aA.mk H
                  clear H
                  have p109 : 0 ≤ (d9 : Int) := of_decide_eq_true (by first | (with_reducible assumption) | assumption)
                  have q109 : d9 < (l0.length : Int) := of_decide_eq_true (by first | (with_reducible assumption) | assumption)
                  obtain ⟨ad109, e109, hx109_0⟩ := Kd.dN HR0.out d9 p109 q109
                  cases e109
                  replace hx109_0 := (HB.out.cell (World.block_lt_of_cell? w _ hx109_0)).trans hx109_0
                  replace p109 := eq_true p109
                  replace q109 := eq_true q109
                  have p10 : 0 ≤ (d9 : Int) := of_decide_eq_true (by first | (with_reducible assumption) | assumption)
                  have q10 : (d9 : Int) < ((x3_1.length : Int) : Int) := of_decide_eq_true (by first | (with_reducible assumption) | assumption)
                  obtain ⟨go10, co10, eo10, gb10, gl10, cl10, HG10⟩ := Kd.R_form HO_3.out (by omega)
                  (first | cases eo10 | (injection eo10 with ea_ en_ ec_; (first | subst ea_ | (injection ea_ with ea_; subst ea_)); subst ec_; clear en_))
                  have GB10 := aA.mk gb10
                  have GG10 := aA.mk HG10
                  clear gb10 gl10 HG10
                  obtain ⟨hx10_0, hf10_0⟩ := Kd.R_celln 0 HO_3.out (d9 : Int) p10 q10
                  replace p10 := eq_true p10
                  replace q10 := eq_true q10
                  have HP11 := Kd.R_putg HO_3.out (d9 : Int) ((rd l0 d9) % 256)
                  go_wp2_with (first | ((with_reducible refine eF (t := 5) (p := 20) rfl ?_); refine store_event (t := 5) (p := 20) (v := ?vo_w12) (w1 := (wr.setCell ⟨go10, (d9 : Int).toNat, none⟩ (.int .u8 ((rd l0 d9) % 256)))) ?hg ?ho ?hn ?hr ?_; (case ho => rfl); (case hg => rfl); (case hn => rfl); (case hr => first | (go_simp; done) | (go_simp; rfl)); intro w12 hw; have hg : wr.grownBy w12 (some go10) := (by rw [hw]; exact HP11.2); have hp_ : Kd.R (Kd.int .u8) 5 w12 w.heap.size (fun _ => True) (.slice (some ⟨go10, 0, none⟩) x3_1.length co10) y110 := (by rw [hw, Ny110.out]; exact HP11.1); clear HP11; have n0_ := aA.mk (hp_); have n1_ := aA.mk ((by rw [hw]; exact aN (HB.out) GB10.out : Below w.heap.size w w12)); clear HO_3; clear HB; have HO_3 := n0_; have HB := n1_; clear n0_ n1_; clear hg hw hp_))
                  go_roundg k1
                  case measure => have := HK1.out; omega
                  case rel => exact ⟨(y110), (wrap64 (d9 + 1)), (by first | rfl | (simp; done) | (simp [*]; done)), H', ⟨by have := HK1.out; omega⟩, ⟨by (with_reducible repeat (first | apply Kd.ai | apply Kd.ah | apply Kd.ax)); exact HO_3.out⟩, ⟨by repeat (first | (with_reducible first | exact HB.out | apply aH | apply aG | apply aI) | exact HB.out)⟩⟩
                · rw [if_neg c9] at H
                  exact absurd H (by simp)
              · rw [if_neg c8] at H
                exact absurd H (by simp)
            · rw [if_neg c7] at H
              exact absurd H (by simp)
          · rw [if_neg c6] at H
            have c6b0 : decide (d9 < (l0.length : Int)) = false := decide_eq_false c6
            clear c6
            obtain rfl := Option.some.inj H
            have hcv13 := own_string (P := Try.prog) Try.underlying100 Try.underlying5 Try.underlying9 (Kd.own_of_R HO_3.out)
            go_wp2
            go_ret
            exact ⟨by first | rfl | (simp [ag, af] <;> rfl) | (simp [*, ag, af] <;> rfl), by repeat (first | (with_reducible first | exact HB.out | apply aH | apply aG | apply aI) | exact HB.out)⟩
    · rw [if_neg c3] at H
      exact absurd H (by simp)
  · rw [if_neg c2] at H
    exact absurd H (by simp)
end Go.Proofs.Ytocejofjmmoeaaa.X
end

section
namespace Go.Proofs.Ytocejofjmmoeaaa.X
open Go.RowKit Go.Proofs.YtocejofjmmoeaaaW.PrintWords Go.Proofs.YtocejofjmmoeaaaW.PrintLast Go.Proofs.YtocejofjmmoeaaaW.PrintMore
attribute [local go_sem] eZ eu fV fU eP eO fF fE   -- for this text's walks alone
set_option linter.unusedVariables false
set_option linter.unusedSimpArgs false
def iE.f (a0 : Int) : Option (Bool) := if a0 ≥ 1 then (some (decide (a0 ≤ 64))) else (some false)
set_option maxHeartbeats 8000000 in
set_option maxRecDepth 100000 in
theorem iE.calls (a0 : Int) (r : Bool) (w : World) (h : iE.f a0 = some r) :
    Calls Try.prog 56 #[.int .i64 a0] w fun e w' => e = .returned (.bool r) ∧ az w w' := by
  have H : (if a0 ≥ 1 then (some (decide (a0 ≤ 64))) else (some false)) = some r := h
  clear h
  by_cases c2 : a0 ≥ 1
  · rw [if_pos c2] at H
    have c2b0 : decide (1 ≤ a0) = true := decide_eq_true c2
    clear c2
    obtain rfl := Option.some.inj H
    go_enter Try.func56, Try.ntmps56
    go_wp2
    go_ret
    exact ⟨by first | rfl | (simp; done) | (simp [*]; done), by repeat (first | exact az.refl _ | apply az.step)⟩
  · rw [if_neg c2] at H
    have c2b0 : decide (1 ≤ a0) = false := decide_eq_false c2
    clear c2
    obtain rfl := Option.some.inj H
    go_enter Try.func56, Try.ntmps56
    go_wp2
    go_ret
    exact ⟨by first | rfl | (simp; done) | (simp [*]; done), by repeat (first | exact az.refl _ | apply az.step)⟩
end Go.Proofs.Ytocejofjmmoeaaa.X
end

section
namespace Go.Proofs.Ytocejofjmmoeaaa.X
open Go.RowKit Go.Proofs.YtocejofjmmoeaaaW.PrintWords Go.Proofs.YtocejofjmmoeaaaW.PrintLast Go.Proofs.YtocejofjmmoeaaaW.PrintMore
attribute [local go_sem] eZ eu fV fU eP eO fF fE   -- for this text's walks alone
set_option linter.unusedVariables false
set_option linter.unusedSimpArgs false
def bY.l0 : Nat → List Int → Int → Int → Int → Option (Int × Int)
  | 0, _, _, _, _ => none
  | k + 1, x0, x1, x16, x17 => if x17 < x16 then (if 0 ≤ x17 then (if x17 < (x0.length : Int) then (if (rd x0 x17) < 0 then (some (x17, 10)) else (if (rd x0 x17) ≥ x1 then (some (x17, 10)) else (bY.l0 k x0 x1 x16 (wrap64 (x17 + 1))))) else (none)) else (none)) else (some (0, 0))
def bY.f (k : Nat) (l0 : List Int) (a1 : Int) : Option (Int × Int) := (iE.f a1).bind fun t103 => (if t103 = true then (if (l0.length : Int) > 4096 then (some (0, 2)) else (bY.l0 k l0 a1 (l0.length : Int) 0)) else (some (0, 1)))
theorem bY.mono_l : ∀ k, (∀ y0 y1 y2 y3, LeO (bY.l0 k y0 y1 y2 y3) (bY.l0 (k + 1) y0 y1 y2 y3))
  | 0 => fun _ _ _ _ r h => by simp [bY.l0] at h
  | k + 1 => by
    have ih0 := bY.mono_l k
    · intro y0 y1 y2 y3
      unfold bY.l0
      repeat' first
      | (with_reducible exact ih0 _ _ _ _)
      | (with_reducible exact LeO.refl _)
      | (with_reducible exact LeO.none _)
      | (with_reducible refine LeO.ite ?_ ?_)
      | (with_reducible refine LeO.bind ?_ (fun _ => ?_))
      | exact ih0 _ _ _ _
      | exact LeO.none _
      | refine LeO.ite ?_ ?_
      | refine LeO.bind ?_ (fun _ => ?_)
theorem bY.mono : ∀ a0 a1 k, LeO (bY.f k a0 a1) (bY.f (k + 1) a0 a1) := by
  intro a0 a1 k
  have ih0 := bY.mono_l k
  unfold bY.f
  repeat' first
      | (with_reducible exact ih0 _ _ _ _)
      | (with_reducible exact LeO.refl _)
      | (with_reducible exact LeO.none _)
      | (with_reducible refine LeO.ite ?_ ?_)
      | (with_reducible refine LeO.bind ?_ (fun _ => ?_))
      | exact ih0 _ _ _ _
      | exact LeO.none _
      | refine LeO.ite ?_ ?_
      | refine LeO.bind ?_ (fun _ => ?_)
set_option maxHeartbeats 8000000 in
set_option maxRecDepth 100000 in
theorem bY.calls (k : Nat) (A0 : Option Addr) (c0 : Nat) (l0 : List Int) (a1 : Int) (r1 : Int) (r2 : Int) (w : World) (hr0 : Kd.C (Kd.int .i64) w A0 l0.length l0) (hc0 : l0.length ≤ c0) (h : bY.f k l0 a1 = some (r1, r2)) :
    Calls Try.prog 35 #[.slice A0 l0.length c0, .int .i64 a1] w fun e w' => e = .returned (.tuple #[.int .i64 r1, .int .i64 r2]) ∧ az w w' := by
  have HR0 := aA.mk hr0
  have HC0 := aA.mk hc0
  clear hr0 hc0
  have H : ((iE.f a1).bind fun t103 => (if t103 = true then (if (l0.length : Int) > 4096 then (some (0, 2)) else (bY.l0 k l0 a1 (l0.length : Int) 0)) else (some (0, 1)))) = some (r1, r2) := h
  clear h
  replace H := Option.bind_eq_some_iff.mp H
  obtain ⟨t103, A30, H⟩ := H
  replace H : (if t103 = true then (if (l0.length : Int) > 4096 then (some (0, 2)) else (bY.l0 k l0 a1 (l0.length : Int) 0)) else (some (0, 1))) = some (r1, r2) := H
  have A3 := aA.mk A30
  clear A30
  by_cases c4 : t103 = true
  · subst c4
    have H1 : (if (l0.length : Int) > 4096 then (some (0, 2)) else (bY.l0 k l0 a1 (l0.length : Int) 0)) = some (r1, r2) := by rw [if_pos rfl] at H; exact H
    clear H
    have H := H1
    clear H1
    by_cases c5 : (l0.length : Int) > 4096
    · rw [if_pos c5] at H
      have c5b0 : decide (4096 < (l0.length : Int)) = true := decide_eq_true c5
      have c5b1 : decide (4096 < l0.length) = true := decide_eq_true (by omega)
      clear c5
      simp only [Option.some.injEq, Prod.mk.injEq] at H
      obtain ⟨rfl, rfl⟩ := H
      go_enter Try.func35, Try.ntmps35
      go_wp2_with (first | ((with_reducible refine bC (f := 56) rfl ?_); refine dV (some 9) rfl rfl Try.func56 (by kernel_rfl) rfl #[.int .i64 a1] rfl (by (try simp only [List.map_toArray, List.map_cons, List.map_nil]); first | done | rfl | (simp only [List.length_drop, List.length_take]; rfl)) ?_; (with_reducible refine (iE.calls a1 true _ A3.out).mono ?_); rintro e w' ⟨rfl, ⟨nd, rfl⟩⟩; refine ⟨_, rfl, ?_⟩))
      go_ret2
      exact ⟨by first | rfl | (simp; done) | (simp [*]; done), by repeat (first | exact az.refl _ | apply az.step)⟩
    · rw [if_neg c5] at H
      have c5b0 : decide (4096 < (l0.length : Int)) = false := decide_eq_false c5
      have c5b1 : decide (4096 < l0.length) = false := decide_eq_false (by omega)
      clear c5
      have H' := aA.mk H
      clear H
      go_enter Try.func35, Try.ntmps35
      go_wp2_with (first | ((with_reducible refine bC (f := 56) rfl ?_); refine dV (some 9) rfl rfl Try.func56 (by kernel_rfl) rfl #[.int .i64 a1] rfl (by (try simp only [List.map_toArray, List.map_cons, List.map_nil]); first | done | rfl | (simp only [List.length_drop, List.length_take]; rfl)) ?_; (with_reducible refine (iE.calls a1 true _ A3.out).mono ?_); rintro e w' ⟨rfl, ⟨nd, rfl⟩⟩; refine ⟨_, rfl, ?_⟩))
      go_loopg [17] k (fun kq v17 w' => ∃ (eQ : Int), v17 = .int .i64 eQ ∧ aA (bY.l0 kq l0 a1 (l0.length : Int) eQ = some (r1, r2)) ∧ aA (kq ≤ k) ∧ az w w')
      case atStart => exact ⟨(0), (by first | rfl | (simp; done) | (simp [*]; done)), H', ⟨Nat.le_refl _⟩, by repeat (first | exact az.refl _ | apply az.step)⟩
      case round =>
        clear H'
        try clear p2
        try clear c3
        try clear c4
        try clear c5
        try clear c5b0
        try clear c5b1
        obtain ⟨eQ, rfl, HA, HK1, ⟨m1, rfl⟩⟩ := hrel
        cases gk with
        | zero => exact absurd HA.out (by simp [bY.l0])
        | succ k1 =>
          have H := HA.out
          clear HA
          simp only [bY.l0] at H
          by_cases c6 : eQ < (l0.length : Int)
          · rw [if_pos c6] at H
            have c6b0 : decide (eQ < (l0.length : Int)) = true := decide_eq_true c6
            clear c6
            by_cases c7 : 0 ≤ eQ
            · rw [if_pos c7] at H
              have c7b0 : decide (0 ≤ eQ) = true := decide_eq_true c7
              clear c7
              by_cases c8 : eQ < (l0.length : Int)
              · rw [if_pos c8] at H
                have c8b0 : decide (eQ < (l0.length : Int)) = true := decide_eq_true c8
                clear c8
                by_cases c9 : (rd l0 eQ) < 0
                · rw [if_pos c9] at H
                  have c9b0 : decide ((rd l0 eQ) < 0) = true := decide_eq_true c9
                  clear c9
                  simp only [Option.some.injEq, Prod.mk.injEq] at H
                  obtain ⟨rfl, rfl⟩ := H
                  have p104 : 0 ≤ (eQ : Int) := of_decide_eq_true (by first | (with_reducible assumption) | assumption)
                  have q104 : eQ < (l0.length : Int) := of_decide_eq_true (by first | (with_reducible assumption) | assumption)
                  obtain ⟨ad104, e104, hx104_0⟩ := Kd.dN HR0.out eQ p104 q104
                  cases e104
                  replace p104 := eq_true p104
                  replace q104 := eq_true q104
                  go_wp2
                  go_ret2
                  exact ⟨by first | rfl | (simp; done) | (simp [*]; done), by repeat (first | exact az.refl _ | apply az.step)⟩
                · rw [if_neg c9] at H
                  have c9b0 : decide ((rd l0 eQ) < 0) = false := decide_eq_false c9
                  clear c9
                  by_cases c10 : (rd l0 eQ) ≥ a1
                  · rw [if_pos c10] at H
                    have c10b0 : decide (a1 ≤ (rd l0 eQ)) = true := decide_eq_true c10
                    clear c10
                    simp only [Option.some.injEq, Prod.mk.injEq] at H
                    obtain ⟨rfl, rfl⟩ := H
                    have p104 : 0 ≤ (eQ : Int) := of_decide_eq_true (by first | (with_reducible assumption) | assumption)
                    have q104 : eQ < (l0.length : Int) := of_decide_eq_true (by first | (with_reducible assumption) | assumption)
                    obtain ⟨ad104, e104, hx104_0⟩ := Kd.dN HR0.out eQ p104 q104
                    cases e104
                    replace p104 := eq_true p104
                    replace q104 := eq_true q104
                    have p105 : 0 ≤ (eQ : Int) := of_decide_eq_true (by first | (with_reducible assumption) | assumption)
                    have q105 : eQ < (l0.length : Int) := of_decide_eq_true (by first | (with_reducible assumption) | assumption)
                    obtain ⟨ad105, e105, hx105_0⟩ := Kd.dN HR0.out eQ p105 q105
                    obtain rfl : ad104 = ad105 := (by injection e105)
                    replace p105 := eq_true p105
                    replace q105 := eq_true q105
                    go_wp2
                    go_ret2
                    exact ⟨by first | rfl | (simp; done) | (simp [*]; done), by repeat (first | exact az.refl _ | apply az.step)⟩
                  · rw [if_neg c10] at H
                    have c10b0 : decide (a1 ≤ (rd l0 eQ)) = false := decide_eq_false c10
                    clear c10
                    have H' := aA.mk H
                    clear H
                    have p104 : 0 ≤ (eQ : Int) := of_decide_eq_true (by first | (with_reducible assumption) | assumption)
                    have q104 : eQ < (l0.length : Int) := of_decide_eq_true (by first | (with_reducible assumption) | assumption)
                    obtain ⟨ad104, e104, hx104_0⟩ := Kd.dN HR0.out eQ p104 q104
                    cases e104
                    replace p104 := eq_true p104
                    replace q104 := eq_true q104
                    have p105 : 0 ≤ (eQ : Int) := of_decide_eq_true (by first | (with_reducible assumption) | assumption)
                    have q105 : eQ < (l0.length : Int) := of_decide_eq_true (by first | (with_reducible assumption) | assumption)
                    obtain ⟨ad105, e105, hx105_0⟩ := Kd.dN HR0.out eQ p105 q105
                    obtain rfl : ad104 = ad105 := (by injection e105)
                    replace p105 := eq_true p105
                    replace q105 := eq_true q105
                    go_wp2
                    go_roundg k1
                    case measure => have := HK1.out; omega
                    case rel => exact ⟨(wrap64 (eQ + 1)), (by first | rfl | (simp; done) | (simp [*]; done)), H', ⟨by have := HK1.out; omega⟩, by repeat (first | exact az.refl _ | apply az.step)⟩
              · rw [if_neg c8] at H
                exact absurd H (by simp)
            · rw [if_neg c7] at H
              exact absurd H (by simp)
          · rw [if_neg c6] at H
            have c6b0 : decide (eQ < (l0.length : Int)) = false := decide_eq_false c6
            clear c6
            simp only [Option.some.injEq, Prod.mk.injEq] at H
            obtain ⟨rfl, rfl⟩ := H
            go_wp2
            go_ret2
            exact ⟨by first | rfl | (simp; done) | (simp [*]; done), by repeat (first | exact az.refl _ | apply az.step)⟩
  · replace c4 := Bool.eq_false_iff.mpr c4
    subst c4
    have H1 : (some (0, 1)) = some (r1, r2) := by rw [if_neg (show ¬ (false = true) by decide)] at H; exact H
    clear H
    have H := H1
    clear H1
    simp only [Option.some.injEq, Prod.mk.injEq] at H
    obtain ⟨rfl, rfl⟩ := H
    go_enter Try.func35, Try.ntmps35
    go_wp2_with (first | ((with_reducible refine bC (f := 56) rfl ?_); refine dV (some 9) rfl rfl Try.func56 (by kernel_rfl) rfl #[.int .i64 a1] rfl (by (try simp only [List.map_toArray, List.map_cons, List.map_nil]); first | done | rfl | (simp only [List.length_drop, List.length_take]; rfl)) ?_; (with_reducible refine (iE.calls a1 false _ A3.out).mono ?_); rintro e w' ⟨rfl, ⟨nd, rfl⟩⟩; refine ⟨_, rfl, ?_⟩))
    go_ret2
    exact ⟨by first | rfl | (simp; done) | (simp [*]; done), by repeat (first | exact az.refl _ | apply az.step)⟩
end Go.Proofs.Ytocejofjmmoeaaa.X
end

section
namespace Go.Proofs.Ytocejofjmmoeaaa.X
open Go.RowKit Go.Proofs.YtocejofjmmoeaaaW.PrintWords Go.Proofs.YtocejofjmmoeaaaW.PrintLast Go.Proofs.YtocejofjmmoeaaaW.PrintMore
attribute [local go_sem] eZ eu fV fU eP eO fF fE   -- for this text's walks alone
set_option linter.unusedVariables false
set_option linter.unusedSimpArgs false
mutual
def aZ.j0 : Nat → List Int → Int → Bool → Option (Int × Int)
  | 0, _, _, _ => none
  | k + 1, x0, x1, x12 => if x12 = true then (some (0, 1)) else (if (x0.length : Int) > 4096 then (some (0, 2)) else (aZ.l0 k x0 x1 0))
def aZ.l0 : Nat → List Int → Int → Int → Option (Int × Int)
  | 0, _, _, _ => none
  | k + 1, x0, x1, x6 => if x6 < (x0.length : Int) then (if 0 ≤ x6 then (if (rd x0 x6) < 0 then (some (x6, 10)) else (if (rd x0 x6) ≥ x1 then (some (x6, 10)) else (aZ.l0 k x0 x1 (wrap64 (x6 + 1))))) else (none)) else (some (0, 0))
end
def aZ.f (k : Nat) (l0 : List Int) (a1 : Int) : Option (Int × Int) := if a1 < 1 then (aZ.j0 k l0 a1 true) else (aZ.j0 k l0 a1 (decide (a1 > 64)))
theorem aZ.mono_l : ∀ k, (∀ y0 y1 y2, LeO (aZ.j0 k y0 y1 y2) (aZ.j0 (k + 1) y0 y1 y2)) ∧ (∀ y0 y1 y2, LeO (aZ.l0 k y0 y1 y2) (aZ.l0 (k + 1) y0 y1 y2))
  | 0 => ⟨fun _ _ _ r h => by simp [aZ.j0] at h, fun _ _ _ r h => by simp [aZ.l0] at h⟩
  | k + 1 => by
    obtain ⟨ih0, ih1⟩ := aZ.mono_l k
    refine ⟨?_, ?_⟩
    · intro y0 y1 y2
      unfold aZ.j0
      repeat' first
      | (with_reducible exact ih0 _ _ _)
      | (with_reducible exact ih1 _ _ _)
      | (with_reducible exact LeO.refl _)
      | (with_reducible exact LeO.none _)
      | (with_reducible refine LeO.ite ?_ ?_)
      | (with_reducible refine LeO.bind ?_ (fun _ => ?_))
      | exact ih0 _ _ _
      | exact ih1 _ _ _
      | exact LeO.none _
      | refine LeO.ite ?_ ?_
      | refine LeO.bind ?_ (fun _ => ?_)
    · intro y0 y1 y2
      unfold aZ.l0
      repeat' first
      | (with_reducible exact ih0 _ _ _)
      | (with_reducible exact ih1 _ _ _)
      | (with_reducible exact LeO.refl _)
      | (with_reducible exact LeO.none _)
      | (with_reducible refine LeO.ite ?_ ?_)
      | (with_reducible refine LeO.bind ?_ (fun _ => ?_))
      | exact ih0 _ _ _
      | exact ih1 _ _ _
      | exact LeO.none _
      | refine LeO.ite ?_ ?_
      | refine LeO.bind ?_ (fun _ => ?_)
theorem aZ.mono : ∀ a0 a1 k, LeO (aZ.f k a0 a1) (aZ.f (k + 1) a0 a1) := by
  intro a0 a1 k
  obtain ⟨ih0, ih1⟩ := aZ.mono_l k
  unfold aZ.f
  repeat' first
      | (with_reducible exact ih0 _ _ _)
      | (with_reducible exact ih1 _ _ _)
      | (with_reducible exact LeO.refl _)
      | (with_reducible exact LeO.none _)
      | (with_reducible refine LeO.ite ?_ ?_)
      | (with_reducible refine LeO.bind ?_ (fun _ => ?_))
      | exact ih0 _ _ _
      | exact ih1 _ _ _
      | exact LeO.none _
      | refine LeO.ite ?_ ?_
      | refine LeO.bind ?_ (fun _ => ?_)
set_option maxHeartbeats 8000000 in
set_option maxRecDepth 100000 in
theorem aZ.calls (k : Nat) (A0 : Option Addr) (c0 : Nat) (l0 : List Int) (a1 : Int) (r1 : Int) (r2 : Int) (w : World) (hr0 : Kd.C (Kd.int .i64) w A0 l0.length l0) (hc0 : l0.length ≤ c0) (h : aZ.f k l0 a1 = some (r1, r2)) :
    Calls Try.prog 37 #[.slice A0 l0.length c0, .int .i64 a1] w fun e w' => e = .returned (.tuple #[.int .i64 r1, .int .i64 r2]) ∧ az w w' := by
  have HR0 := aA.mk hr0
  have HC0 := aA.mk hc0
  clear hr0 hc0
  have H : (if a1 < 1 then (aZ.j0 k l0 a1 true) else (aZ.j0 k l0 a1 (decide (a1 > 64)))) = some (r1, r2) := h
  clear h
  have HC3 := aA.mk H
  clear H
  go_enter Try.func37, Try.ntmps37
  go_upto_region 1 with (fail)
  go_cut [12] (fun v12 wc => ∃ (kq : Nat) (x12_2 : Bool), v12 = .bool x12_2 ∧ aA (aZ.j0 kq l0 a1 x12_2 = some (r1, r2)) ∧ aA (kq ≤ k) ∧ az w wc)
  case first =>
    have H := HC3.out
    clear HC3
    by_cases c4 : a1 < 1
    · rw [if_pos c4] at H
      have gz : decide (a1 < 1) = true := decide_eq_true c4
      clear c4
      (first | rw [gz] | (simp only [aj, av]; rw [gz]) | skip)
      have H' := aA.mk H
      clear H
      go_wp2
      go_meet
      case rel => exact ⟨_, (true), (by first | rfl | (simp; done) | (simp [*]; done)), H', ⟨by first | omega | exact Nat.le_refl _⟩, by repeat (first | exact az.refl _ | apply az.step)⟩
    · rw [if_neg c4] at H
      have gz : decide (a1 < 1) = false := decide_eq_false c4
      clear c4
      (first | rw [gz] | (simp only [aj, av]; rw [gz]) | skip)
      have H' := aA.mk H
      clear H
      go_wp2
      go_meet
      case rel => exact ⟨_, (decide (a1 > 64)), (by first | rfl | (simp; done) | (simp [*]; done)), H', ⟨by first | omega | exact Nat.le_refl _⟩, by repeat (first | exact az.refl _ | apply az.step)⟩
  case rest =>
    clear HC3
    try clear p2
    try clear c3
    try clear c4
    try clear gz
    obtain ⟨kq, x12_2, rfl, HA, HJ2, ⟨mc2, rfl⟩⟩ := hcut
    cases kq with
    | zero => exact absurd HA.out (by simp [aZ.j0])
    | succ kj2 =>
      have H := HA.out
      clear HA
      simp only [aZ.j0] at H
      by_cases c5 : x12_2 = true
      · subst c5
        have H1 : (some (0, 1)) = some (r1, r2) := by rw [if_pos rfl] at H; exact H
        clear H
        have H := H1
        clear H1
        simp only [Option.some.injEq, Prod.mk.injEq] at H
        obtain ⟨rfl, rfl⟩ := H
        go_wp2
        go_ret2
        exact ⟨by first | rfl | (simp; done) | (simp [*]; done), by repeat (first | exact az.refl _ | apply az.step)⟩
      · replace c5 := Bool.eq_false_iff.mpr c5
        subst c5
        have H1 : (if (l0.length : Int) > 4096 then (some (0, 2)) else (aZ.l0 kj2 l0 a1 0)) = some (r1, r2) := by rw [if_neg (show ¬ (false = true) by decide)] at H; exact H
        clear H
        have H := H1
        clear H1
        by_cases c6 : (l0.length : Int) > 4096
        · rw [if_pos c6] at H
          have c6b0 : decide (4096 < (l0.length : Int)) = true := decide_eq_true c6
          have c6b1 : decide (4096 < l0.length) = true := decide_eq_true (by omega)
          clear c6
          simp only [Option.some.injEq, Prod.mk.injEq] at H
          obtain ⟨rfl, rfl⟩ := H
          go_wp2
          go_ret2
          exact ⟨by first | rfl | (simp; done) | (simp [*]; done), by repeat (first | exact az.refl _ | apply az.step)⟩
        · rw [if_neg c6] at H
          have c6b0 : decide (4096 < (l0.length : Int)) = false := decide_eq_false c6
          have c6b1 : decide (4096 < l0.length) = false := decide_eq_false (by omega)
          clear c6
          have H' := aA.mk H
          clear H
          go_wp2
          go_loopg [6] kj2 (fun kq v6 w' => ∃ (lU : Int), v6 = .int .i64 lU ∧ aA (aZ.l0 kq l0 a1 lU = some (r1, r2)) ∧ aA (kq ≤ kj2) ∧ az w w')
          case atStart => exact ⟨(0), (by first | rfl | (simp; done) | (simp [*]; done)), H', ⟨Nat.le_refl _⟩, by repeat (first | exact az.refl _ | apply az.step)⟩
          case round =>
            clear H'
            try clear c2
            try clear p2
            try clear c3
            try clear c4
            try clear gz
            try clear c5
            try clear c6
            try clear c6b0
            try clear c6b1
            try clear p2
            obtain ⟨lU, rfl, HA, HK2, ⟨m2, rfl⟩⟩ := hrel
            cases gk with
            | zero => exact absurd HA.out (by simp [aZ.l0])
            | succ k2 =>
              have H := HA.out
              clear HA
              simp only [aZ.l0] at H
              by_cases c7 : lU < (l0.length : Int)
              · rw [if_pos c7] at H
                have c7b0 : decide (lU < (l0.length : Int)) = true := decide_eq_true c7
                clear c7
                by_cases c8 : 0 ≤ lU
                · rw [if_pos c8] at H
                  have c8b0 : decide (0 ≤ lU) = true := decide_eq_true c8
                  clear c8
                  by_cases c9 : (rd l0 lU) < 0
                  · rw [if_pos c9] at H
                    have c9b0 : decide ((rd l0 lU) < 0) = true := decide_eq_true c9
                    clear c9
                    simp only [Option.some.injEq, Prod.mk.injEq] at H
                    obtain ⟨rfl, rfl⟩ := H
                    have p235 : 0 ≤ (lU : Int) := of_decide_eq_true (by first | (with_reducible assumption) | assumption)
                    have q235 : lU < (l0.length : Int) := of_decide_eq_true (by first | (with_reducible assumption) | assumption)
                    obtain ⟨ad235, e235, hx235_0⟩ := Kd.dN HR0.out lU p235 q235
                    cases e235
                    replace p235 := eq_true p235
                    replace q235 := eq_true q235
                    go_wp2
                    go_ret2
                    exact ⟨by first | rfl | (simp; done) | (simp [*]; done), by repeat (first | exact az.refl _ | apply az.step)⟩
                  · rw [if_neg c9] at H
                    have c9b0 : decide ((rd l0 lU) < 0) = false := decide_eq_false c9
                    clear c9
                    by_cases c10 : (rd l0 lU) ≥ a1
                    · rw [if_pos c10] at H
                      have c10b0 : decide (a1 ≤ (rd l0 lU)) = true := decide_eq_true c10
                      clear c10
                      simp only [Option.some.injEq, Prod.mk.injEq] at H
                      obtain ⟨rfl, rfl⟩ := H
                      have p235 : 0 ≤ (lU : Int) := of_decide_eq_true (by first | (with_reducible assumption) | assumption)
                      have q235 : lU < (l0.length : Int) := of_decide_eq_true (by first | (with_reducible assumption) | assumption)
                      obtain ⟨ad235, e235, hx235_0⟩ := Kd.dN HR0.out lU p235 q235
                      cases e235
                      replace p235 := eq_true p235
                      replace q235 := eq_true q235
                      have p236 : 0 ≤ (lU : Int) := of_decide_eq_true (by first | (with_reducible assumption) | assumption)
                      have q236 : lU < (l0.length : Int) := of_decide_eq_true (by first | (with_reducible assumption) | assumption)
                      obtain ⟨ad236, e236, hx236_0⟩ := Kd.dN HR0.out lU p236 q236
                      obtain rfl : ad235 = ad236 := (by injection e236)
                      replace p236 := eq_true p236
                      replace q236 := eq_true q236
                      go_wp2
                      go_ret2
                      exact ⟨by first | rfl | (simp; done) | (simp [*]; done), by repeat (first | exact az.refl _ | apply az.step)⟩
                    · rw [if_neg c10] at H
                      have c10b0 : decide (a1 ≤ (rd l0 lU)) = false := decide_eq_false c10
                      clear c10
                      have H' := aA.mk H
                      clear H
                      have p235 : 0 ≤ (lU : Int) := of_decide_eq_true (by first | (with_reducible assumption) | assumption)
                      have q235 : lU < (l0.length : Int) := of_decide_eq_true (by first | (with_reducible assumption) | assumption)
                      obtain ⟨ad235, e235, hx235_0⟩ := Kd.dN HR0.out lU p235 q235
                      cases e235
                      replace p235 := eq_true p235
                      replace q235 := eq_true q235
                      have p236 : 0 ≤ (lU : Int) := of_decide_eq_true (by first | (with_reducible assumption) | assumption)
                      have q236 : lU < (l0.length : Int) := of_decide_eq_true (by first | (with_reducible assumption) | assumption)
                      obtain ⟨ad236, e236, hx236_0⟩ := Kd.dN HR0.out lU p236 q236
                      obtain rfl : ad235 = ad236 := (by injection e236)
                      replace p236 := eq_true p236
                      replace q236 := eq_true q236
                      go_wp2
                      go_roundg k2
                      case measure => have := HJ2.out; have := HK2.out; omega
                      case rel => exact ⟨(wrap64 (lU + 1)), (by first | rfl | (simp; done) | (simp [*]; done)), H', ⟨by have := HJ2.out; have := HK2.out; omega⟩, by repeat (first | exact az.refl _ | apply az.step)⟩
                · rw [if_neg c8] at H
                  exact absurd H (by simp)
              · rw [if_neg c7] at H
                have c7b0 : decide (lU < (l0.length : Int)) = false := decide_eq_false c7
                clear c7
                simp only [Option.some.injEq, Prod.mk.injEq] at H
                obtain ⟨rfl, rfl⟩ := H
                go_wp2
                go_ret2
                exact ⟨by first | rfl | (simp; done) | (simp [*]; done), by repeat (first | exact az.refl _ | apply az.step)⟩
end Go.Proofs.Ytocejofjmmoeaaa.X
end

section
namespace Go.Proofs.Ytocejofjmmoeaaa.X
open Go.RowKit Go.Proofs.YtocejofjmmoeaaaW.PrintWords Go.Proofs.YtocejofjmmoeaaaW.PrintLast Go.Proofs.YtocejofjmmoeaaaW.PrintMore
attribute [local go_sem] eZ eu fV fU eP eO fF fE   -- for this text's walks alone
set_option linter.unusedVariables false
set_option linter.unusedSimpArgs false
def cmp_isNaN_int.f (a0 : Int) : Option (Bool) := some (a0 != a0)
set_option maxHeartbeats 8000000 in
set_option maxRecDepth 100000 in
theorem cmp_isNaN_int.calls (a0 : Int) (r : Bool) (w : World) (h : cmp_isNaN_int.f a0 = some r) :
    Calls Try.prog 84 #[.int .i64 a0] w fun e w' => e = .returned (.bool r) ∧ az w w' := by
  have H : (some (a0 != a0)) = some r := h
  clear h
  obtain rfl := Option.some.inj H
  go_enter Try.func84, Try.ntmps84
  go_wp2
  go_ret
  exact ⟨by first | rfl | (simp; done) | (simp [*]; done), by repeat (first | exact az.refl _ | apply az.step)⟩
end Go.Proofs.Ytocejofjmmoeaaa.X
end

section
namespace Go.Proofs.Ytocejofjmmoeaaa.X
open Go.RowKit Go.Proofs.YtocejofjmmoeaaaW.PrintWords Go.Proofs.YtocejofjmmoeaaaW.PrintLast Go.Proofs.YtocejofjmmoeaaaW.PrintMore
attribute [local go_sem] eZ eu fV fU eP eO fF fE   -- for this text's walks alone
set_option linter.unusedVariables false
set_option linter.unusedSimpArgs false
def cmp_Compare_int.f (a0 : Int) (a1 : Int) : Option (Int) := (cmp_isNaN_int.f a0).bind fun t113 => ((cmp_isNaN_int.f a1).bind fun t114 => (if t113 = true then (if t114 = true then (some 0) else (some (-1))) else (if t114 = true then (some 1) else (if a0 < a1 then (some (-1)) else (if a0 > a1 then (some 1) else (some 0))))))
set_option maxHeartbeats 8000000 in
set_option maxRecDepth 100000 in
theorem cmp_Compare_int.calls (a0 : Int) (a1 : Int) (r : Int) (w : World) (h : cmp_Compare_int.f a0 a1 = some r) :
    Calls Try.prog 59 #[.int .i64 a0, .int .i64 a1] w fun e w' => e = .returned (.int .i64 r) ∧ az w w' := by
  have H : ((cmp_isNaN_int.f a0).bind fun t113 => ((cmp_isNaN_int.f a1).bind fun t114 => (if t113 = true then (if t114 = true then (some 0) else (some (-1))) else (if t114 = true then (some 1) else (if a0 < a1 then (some (-1)) else (if a0 > a1 then (some 1) else (some 0))))))) = some r := h
  clear h
  replace H := Option.bind_eq_some_iff.mp H
  obtain ⟨t113, A30, H⟩ := H
  replace H : ((cmp_isNaN_int.f a1).bind fun t114 => (if t113 = true then (if t114 = true then (some 0) else (some (-1))) else (if t114 = true then (some 1) else (if a0 < a1 then (some (-1)) else (if a0 > a1 then (some 1) else (some 0)))))) = some r := H
  have A3 := aA.mk A30
  clear A30
  replace H := Option.bind_eq_some_iff.mp H
  obtain ⟨t114, A40, H⟩ := H
  replace H : (if t113 = true then (if t114 = true then (some 0) else (some (-1))) else (if t114 = true then (some 1) else (if a0 < a1 then (some (-1)) else (if a0 > a1 then (some 1) else (some 0))))) = some r := H
  have A4 := aA.mk A40
  clear A40
  by_cases c5 : t113 = true
  · subst c5
    have H1 : (if t114 = true then (some 0) else (some (-1))) = some r := by rw [if_pos rfl] at H; exact H
    clear H
    have H := H1
    clear H1
    by_cases c6 : t114 = true
    · subst c6
      have H1 : (some 0) = some r := by rw [if_pos rfl] at H; exact H
      clear H
      have H := H1
      clear H1
      obtain rfl := Option.some.inj H
      go_enter Try.func59, Try.ntmps59
      go_wp2_with (first | ((with_reducible refine bC (f := 84) rfl ?_); refine dV (some 8) rfl rfl Try.func84 (by kernel_rfl) rfl #[.int .i64 a0] rfl (by (try simp only [List.map_toArray, List.map_cons, List.map_nil]); first | done | rfl | (simp only [List.length_drop, List.length_take]; rfl)) ?_; (with_reducible refine (cmp_isNaN_int.calls a0 true _ A3.out).mono ?_); rintro e w' ⟨rfl, ⟨nd, rfl⟩⟩; refine ⟨_, rfl, ?_⟩) | ((with_reducible refine bC (f := 84) rfl ?_); refine dV (some 10) rfl rfl Try.func84 (by kernel_rfl) rfl #[.int .i64 a1] rfl (by (try simp only [List.map_toArray, List.map_cons, List.map_nil]); first | done | rfl | (simp only [List.length_drop, List.length_take]; rfl)) ?_; (with_reducible refine (cmp_isNaN_int.calls a1 true _ A4.out).mono ?_); rintro e w' ⟨rfl, ⟨nd, rfl⟩⟩; refine ⟨_, rfl, ?_⟩))
      go_ret
      exact ⟨by first | rfl | (simp; done) | (simp [*]; done), by repeat (first | exact az.refl _ | apply az.step)⟩
    · replace c6 := Bool.eq_false_iff.mpr c6
      subst c6
      have H1 : (some (-1)) = some r := by rw [if_neg (show ¬ (false = true) by decide)] at H; exact H
      clear H
      have H := H1
      clear H1
      obtain rfl := Option.some.inj H
      go_enter Try.func59, Try.ntmps59
      go_wp2_with (first | ((with_reducible refine bC (f := 84) rfl ?_); refine dV (some 8) rfl rfl Try.func84 (by kernel_rfl) rfl #[.int .i64 a0] rfl (by (try simp only [List.map_toArray, List.map_cons, List.map_nil]); first | done | rfl | (simp only [List.length_drop, List.length_take]; rfl)) ?_; (with_reducible refine (cmp_isNaN_int.calls a0 true _ A3.out).mono ?_); rintro e w' ⟨rfl, ⟨nd, rfl⟩⟩; refine ⟨_, rfl, ?_⟩) | ((with_reducible refine bC (f := 84) rfl ?_); refine dV (some 10) rfl rfl Try.func84 (by kernel_rfl) rfl #[.int .i64 a1] rfl (by (try simp only [List.map_toArray, List.map_cons, List.map_nil]); first | done | rfl | (simp only [List.length_drop, List.length_take]; rfl)) ?_; (with_reducible refine (cmp_isNaN_int.calls a1 false _ A4.out).mono ?_); rintro e w' ⟨rfl, ⟨nd, rfl⟩⟩; refine ⟨_, rfl, ?_⟩))
      go_ret
      exact ⟨by first | rfl | (simp; done) | (simp [*]; done), by repeat (first | exact az.refl _ | apply az.step)⟩
  · replace c5 := Bool.eq_false_iff.mpr c5
    subst c5
    have H1 : (if t114 = true then (some 1) else (if a0 < a1 then (some (-1)) else (if a0 > a1 then (some 1) else (some 0)))) = some r := by rw [if_neg (show ¬ (false = true) by decide)] at H; exact H
    clear H
    have H := H1
    clear H1
    by_cases c7 : t114 = true
    · subst c7
      have H1 : (some 1) = some r := by rw [if_pos rfl] at H; exact H
      clear H
      have H := H1
      clear H1
      obtain rfl := Option.some.inj H
      go_enter Try.func59, Try.ntmps59
      go_wp2_with (first | ((with_reducible refine bC (f := 84) rfl ?_); refine dV (some 8) rfl rfl Try.func84 (by kernel_rfl) rfl #[.int .i64 a0] rfl (by (try simp only [List.map_toArray, List.map_cons, List.map_nil]); first | done | rfl | (simp only [List.length_drop, List.length_take]; rfl)) ?_; (with_reducible refine (cmp_isNaN_int.calls a0 false _ A3.out).mono ?_); rintro e w' ⟨rfl, ⟨nd, rfl⟩⟩; refine ⟨_, rfl, ?_⟩) | ((with_reducible refine bC (f := 84) rfl ?_); refine dV (some 10) rfl rfl Try.func84 (by kernel_rfl) rfl #[.int .i64 a1] rfl (by (try simp only [List.map_toArray, List.map_cons, List.map_nil]); first | done | rfl | (simp only [List.length_drop, List.length_take]; rfl)) ?_; (with_reducible refine (cmp_isNaN_int.calls a1 true _ A4.out).mono ?_); rintro e w' ⟨rfl, ⟨nd, rfl⟩⟩; refine ⟨_, rfl, ?_⟩))
      go_ret
      exact ⟨by first | rfl | (simp; done) | (simp [*]; done), by repeat (first | exact az.refl _ | apply az.step)⟩
    · replace c7 := Bool.eq_false_iff.mpr c7
      subst c7
      have H1 : (if a0 < a1 then (some (-1)) else (if a0 > a1 then (some 1) else (some 0))) = some r := by rw [if_neg (show ¬ (false = true) by decide)] at H; exact H
      clear H
      have H := H1
      clear H1
      by_cases c8 : a0 < a1
      · rw [if_pos c8] at H
        have c8b0 : decide (a0 < a1) = true := decide_eq_true c8
        clear c8
        obtain rfl := Option.some.inj H
        go_enter Try.func59, Try.ntmps59
        go_wp2_with (first | ((with_reducible refine bC (f := 84) rfl ?_); refine dV (some 8) rfl rfl Try.func84 (by kernel_rfl) rfl #[.int .i64 a0] rfl (by (try simp only [List.map_toArray, List.map_cons, List.map_nil]); first | done | rfl | (simp only [List.length_drop, List.length_take]; rfl)) ?_; (with_reducible refine (cmp_isNaN_int.calls a0 false _ A3.out).mono ?_); rintro e w' ⟨rfl, ⟨nd, rfl⟩⟩; refine ⟨_, rfl, ?_⟩) | ((with_reducible refine bC (f := 84) rfl ?_); refine dV (some 10) rfl rfl Try.func84 (by kernel_rfl) rfl #[.int .i64 a1] rfl (by (try simp only [List.map_toArray, List.map_cons, List.map_nil]); first | done | rfl | (simp only [List.length_drop, List.length_take]; rfl)) ?_; (with_reducible refine (cmp_isNaN_int.calls a1 false _ A4.out).mono ?_); rintro e w' ⟨rfl, ⟨nd, rfl⟩⟩; refine ⟨_, rfl, ?_⟩))
        go_ret
        exact ⟨by first | rfl | (simp; done) | (simp [*]; done), by repeat (first | exact az.refl _ | apply az.step)⟩
      · rw [if_neg c8] at H
        have c8b0 : decide (a0 < a1) = false := decide_eq_false c8
        clear c8
        by_cases c9 : a0 > a1
        · rw [if_pos c9] at H
          have c9b0 : decide (a1 < a0) = true := decide_eq_true c9
          clear c9
          obtain rfl := Option.some.inj H
          go_enter Try.func59, Try.ntmps59
          go_wp2_with (first | ((with_reducible refine bC (f := 84) rfl ?_); refine dV (some 8) rfl rfl Try.func84 (by kernel_rfl) rfl #[.int .i64 a0] rfl (by (try simp only [List.map_toArray, List.map_cons, List.map_nil]); first | done | rfl | (simp only [List.length_drop, List.length_take]; rfl)) ?_; (with_reducible refine (cmp_isNaN_int.calls a0 false _ A3.out).mono ?_); rintro e w' ⟨rfl, ⟨nd, rfl⟩⟩; refine ⟨_, rfl, ?_⟩) | ((with_reducible refine bC (f := 84) rfl ?_); refine dV (some 10) rfl rfl Try.func84 (by kernel_rfl) rfl #[.int .i64 a1] rfl (by (try simp only [List.map_toArray, List.map_cons, List.map_nil]); first | done | rfl | (simp only [List.length_drop, List.length_take]; rfl)) ?_; (with_reducible refine (cmp_isNaN_int.calls a1 false _ A4.out).mono ?_); rintro e w' ⟨rfl, ⟨nd, rfl⟩⟩; refine ⟨_, rfl, ?_⟩))
          go_ret
          exact ⟨by first | rfl | (simp; done) | (simp [*]; done), by repeat (first | exact az.refl _ | apply az.step)⟩
        · rw [if_neg c9] at H
          have c9b0 : decide (a1 < a0) = false := decide_eq_false c9
          clear c9
          obtain rfl := Option.some.inj H
          go_enter Try.func59, Try.ntmps59
          go_wp2_with (first | ((with_reducible refine bC (f := 84) rfl ?_); refine dV (some 8) rfl rfl Try.func84 (by kernel_rfl) rfl #[.int .i64 a0] rfl (by (try simp only [List.map_toArray, List.map_cons, List.map_nil]); first | done | rfl | (simp only [List.length_drop, List.length_take]; rfl)) ?_; (with_reducible refine (cmp_isNaN_int.calls a0 false _ A3.out).mono ?_); rintro e w' ⟨rfl, ⟨nd, rfl⟩⟩; refine ⟨_, rfl, ?_⟩) | ((with_reducible refine bC (f := 84) rfl ?_); refine dV (some 10) rfl rfl Try.func84 (by kernel_rfl) rfl #[.int .i64 a1] rfl (by (try simp only [List.map_toArray, List.map_cons, List.map_nil]); first | done | rfl | (simp only [List.length_drop, List.length_take]; rfl)) ?_; (with_reducible refine (cmp_isNaN_int.calls a1 false _ A4.out).mono ?_); rintro e w' ⟨rfl, ⟨nd, rfl⟩⟩; refine ⟨_, rfl, ?_⟩))
          go_ret
          exact ⟨by first | rfl | (simp; done) | (simp [*]; done), by repeat (first | exact az.refl _ | apply az.step)⟩
end Go.Proofs.Ytocejofjmmoeaaa.X
end

section
namespace Go.Proofs.Ytocejofjmmoeaaa.X
open Go.RowKit Go.Proofs.YtocejofjmmoeaaaW.PrintWords Go.Proofs.YtocejofjmmoeaaaW.PrintLast Go.Proofs.YtocejofjmmoeaaaW.PrintMore
attribute [local go_sem] eZ eu fV fU eP eO fF fE   -- for this text's walks alone
set_option linter.unusedVariables false
set_option linter.unusedSimpArgs false
def bP.l0 : Nat → List Int → List Int → List Int → Int → Int → Option (Int)
  | 0, _, _, _, _, _ => none
  | k + 1, x0, x1, x9, x10, x11 => if x11 < x10 then (if 0 ≤ x11 then (if x11 < (x9.length : Int) then (if x11 ≥ (x1.length : Int) then (some 1) else (if x11 < (x1.length : Int) then ((cmp_Compare_int.f (rd x9 x11) (rd x1 x11)).bind fun t117 => (if t117 = 0 then (bP.l0 k x0 x1 x9 x10 (wrap64 (x11 + 1))) else (some t117))) else (none))) else (none)) else (none)) else (if (x0.length : Int) < (x1.length : Int) then (some (-1)) else (some 0))
def bP.f (k : Nat) (l0 : List Int) (l1 : List Int) : Option (Int) := bP.l0 k l0 l1 l0 (l0.length : Int) 0
set_option maxHeartbeats 8000000 in
set_option maxRecDepth 100000 in
theorem bP.calls (k : Nat) (A0 : Option Addr) (c0 : Nat) (l0 : List Int) (A1 : Option Addr) (c1 : Nat) (l1 : List Int) (r : Int) (w : World) (hr0 : Kd.C (Kd.int .i64) w A0 l0.length l0) (hc0 : l0.length ≤ c0) (hr1 : Kd.C (Kd.int .i64) w A1 l1.length l1) (hc1 : l1.length ≤ c1) (h : bP.f k l0 l1 = some r) :
    Calls Try.prog 60 #[.slice A0 l0.length c0, .slice A1 l1.length c1] w fun e w' => e = .returned (.int .i64 r) ∧ az w w' := by
  have HR0 := aA.mk hr0
  have HC0 := aA.mk hc0
  clear hr0 hc0
  have HR1 := aA.mk hr1
  have HC1 := aA.mk hc1
  clear hr1 hc1
  have H : (bP.l0 k l0 l1 l0 (l0.length : Int) 0) = some r := h
  clear h
  have H' := aA.mk H
  clear H
  go_enter Try.func60, Try.ntmps60
  go_wp2
  go_loopg [11] k (fun kq v11 w' => ∃ (d9 : Int), v11 = .int .i64 d9 ∧ aA (bP.l0 kq l0 l1 l0 (l0.length : Int) d9 = some r) ∧ aA (kq ≤ k) ∧ az w w')
  case atStart => exact ⟨(0), (by first | rfl | (simp; done) | (simp [*]; done)), H', ⟨Nat.le_refl _⟩, by repeat (first | exact az.refl _ | apply az.step)⟩
  case round =>
    clear H'
    try clear c1
    try clear p2
    obtain ⟨d9, rfl, HA, HK1, ⟨m1, rfl⟩⟩ := hrel
    cases gk with
    | zero => exact absurd HA.out (by simp [bP.l0])
    | succ k1 =>
      have H := HA.out
      clear HA
      simp only [bP.l0] at H
      by_cases c3 : d9 < (l0.length : Int)
      · rw [if_pos c3] at H
        have c3b0 : decide (d9 < (l0.length : Int)) = true := decide_eq_true c3
        clear c3
        by_cases c4 : 0 ≤ d9
        · rw [if_pos c4] at H
          have gz : decide (0 ≤ d9) = true := decide_eq_true c4
          clear c4
          by_cases c5 : d9 < (l0.length : Int)
          · rw [if_pos c5] at H
            have c5b0 : decide (d9 < (l0.length : Int)) = true := decide_eq_true c5
            clear c5
            by_cases c6 : d9 ≥ (l1.length : Int)
            · rw [if_pos c6] at H
              have c6b0 : decide ((l1.length : Int) ≤ d9) = true := decide_eq_true c6
              clear c6
              obtain rfl := Option.some.inj H
              have p115 : 0 ≤ (d9 : Int) := of_decide_eq_true (by first | (with_reducible assumption) | assumption)
              have q115 : d9 < (l0.length : Int) := of_decide_eq_true (by first | (with_reducible assumption) | assumption)
              obtain ⟨ad115, e115, hx115_0⟩ := Kd.dN HR0.out d9 p115 q115
              cases e115
              replace p115 := eq_true p115
              replace q115 := eq_true q115
              go_wp2
              go_ret
              exact ⟨by first | rfl | (simp; done) | (simp [*]; done), by repeat (first | exact az.refl _ | apply az.step)⟩
            · rw [if_neg c6] at H
              have c6b0 : decide ((l1.length : Int) ≤ d9) = false := decide_eq_false c6
              clear c6
              by_cases c7 : d9 < (l1.length : Int)
              · rw [if_pos c7] at H
                have c7b0 : decide (d9 < (l1.length : Int)) = true := decide_eq_true c7
                clear c7
                replace H := Option.bind_eq_some_iff.mp H
                obtain ⟨t117, A80, H⟩ := H
                replace H : (if t117 = 0 then (bP.l0 k1 l0 l1 l0 (l0.length : Int) (wrap64 (d9 + 1))) else (some t117)) = some r := H
                have A8 := aA.mk A80
                clear A80
                by_cases c9 : t117 = 0
                · rw [if_pos c9] at H
                  have c9b0 : (t117 == 0) = true := beq_iff_eq.mpr c9
                  have c9b1 : (t117 != 0) = false := bne_eq_false_iff_eq.mpr c9
                  clear c9
                  have H' := aA.mk H
                  clear H
                  have p115 : 0 ≤ (d9 : Int) := of_decide_eq_true (by first | (with_reducible assumption) | assumption)
                  have q115 : d9 < (l0.length : Int) := of_decide_eq_true (by first | (with_reducible assumption) | assumption)
                  obtain ⟨ad115, e115, hx115_0⟩ := Kd.dN HR0.out d9 p115 q115
                  cases e115
                  replace p115 := eq_true p115
                  replace q115 := eq_true q115
                  have p116 : 0 ≤ (d9 : Int) := of_decide_eq_true (by first | (with_reducible assumption) | assumption)
                  have q116 : d9 < (l1.length : Int) := of_decide_eq_true (by first | (with_reducible assumption) | assumption)
                  obtain ⟨ad116, e116, hx116_0⟩ := Kd.dN HR1.out d9 p116 q116
                  cases e116
                  replace p116 := eq_true p116
                  replace q116 := eq_true q116
                  go_wp2_with (first | ((with_reducible refine bC (f := 59) rfl ?_); refine dV (some 26) rfl rfl Try.func59 (by kernel_rfl) rfl #[.int .i64 (rd l0 d9), .int .i64 (rd l1 d9)] rfl (by (try simp only [List.map_toArray, List.map_cons, List.map_nil]); first | done | rfl | (simp only [List.length_drop, List.length_take]; rfl)) ?_; (with_reducible refine (cmp_Compare_int.calls (rd l0 d9) (rd l1 d9) t117 _ A8.out).mono ?_); rintro e w' ⟨rfl, ⟨nd, rfl⟩⟩; refine ⟨_, rfl, ?_⟩))
                  go_roundg k1
                  case measure => have := HK1.out; omega
                  case rel => exact ⟨(wrap64 (d9 + 1)), (by first | rfl | (simp; done) | (simp [*]; done)), H', ⟨by have := HK1.out; omega⟩, by repeat (first | exact az.refl _ | apply az.step)⟩
                · rw [if_neg c9] at H
                  have c9b0 : (t117 == 0) = false := beq_eq_false_iff_ne.mpr c9
                  have c9b1 : (t117 != 0) = true := bne_iff_ne.mpr c9
                  obtain rfl := Option.some.inj H
                  have p115 : 0 ≤ (d9 : Int) := of_decide_eq_true (by first | (with_reducible assumption) | assumption)
                  have q115 : d9 < (l0.length : Int) := of_decide_eq_true (by first | (with_reducible assumption) | assumption)
                  obtain ⟨ad115, e115, hx115_0⟩ := Kd.dN HR0.out d9 p115 q115
                  cases e115
                  replace p115 := eq_true p115
                  replace q115 := eq_true q115
                  have p116 : 0 ≤ (d9 : Int) := of_decide_eq_true (by first | (with_reducible assumption) | assumption)
                  have q116 : d9 < (l1.length : Int) := of_decide_eq_true (by first | (with_reducible assumption) | assumption)
                  obtain ⟨ad116, e116, hx116_0⟩ := Kd.dN HR1.out d9 p116 q116
                  cases e116
                  replace p116 := eq_true p116
                  replace q116 := eq_true q116
                  go_wp2_with (first | ((with_reducible refine bC (f := 59) rfl ?_); refine dV (some 26) rfl rfl Try.func59 (by kernel_rfl) rfl #[.int .i64 (rd l0 d9), .int .i64 (rd l1 d9)] rfl (by (try simp only [List.map_toArray, List.map_cons, List.map_nil]); first | done | rfl | (simp only [List.length_drop, List.length_take]; rfl)) ?_; (with_reducible refine (cmp_Compare_int.calls (rd l0 d9) (rd l1 d9) t117 _ A8.out).mono ?_); rintro e w' ⟨rfl, ⟨nd, rfl⟩⟩; refine ⟨_, rfl, ?_⟩))
                  go_ret
                  exact ⟨by first | rfl | (simp; done) | (simp [*]; done), by repeat (first | exact az.refl _ | apply az.step)⟩
              · rw [if_neg c7] at H
                exact absurd H (by simp)
          · rw [if_neg c5] at H
            exact absurd H (by simp)
        · rw [if_neg c4] at H
          exact absurd H (by simp)
      · rw [if_neg c3] at H
        have c3b0 : decide (d9 < (l0.length : Int)) = false := decide_eq_false c3
        clear c3
        by_cases c10 : (l0.length : Int) < (l1.length : Int)
        · rw [if_pos c10] at H
          have c10b0 : decide ((l0.length : Int) < (l1.length : Int)) = true := decide_eq_true c10
          have c10b1 : decide (l0.length < l1.length) = true := decide_eq_true (Int.ofNat_lt.mp c10)
          clear c10
          obtain rfl := Option.some.inj H
          go_wp2
          go_ret
          exact ⟨by first | rfl | (simp; done) | (simp [*]; done), by repeat (first | exact az.refl _ | apply az.step)⟩
        · rw [if_neg c10] at H
          have c10b0 : decide ((l0.length : Int) < (l1.length : Int)) = false := decide_eq_false c10
          have c10b1 : decide (l0.length < l1.length) = false := decide_eq_false (fun h => c10 (Int.ofNat_lt.mpr h))
          clear c10
          obtain rfl := Option.some.inj H
          go_wp2
          go_ret
          exact ⟨by first | rfl | (simp; done) | (simp [*]; done), by repeat (first | exact az.refl _ | apply az.step)⟩
end Go.Proofs.Ytocejofjmmoeaaa.X
end

section
namespace Go.Proofs.Ytocejofjmmoeaaa.X
open Go.RowKit Go.Proofs.YtocejofjmmoeaaaW.PrintWords Go.Proofs.YtocejofjmmoeaaaW.PrintLast Go.Proofs.YtocejofjmmoeaaaW.PrintMore
attribute [local go_sem] eZ eu fV fU eP eO fF fE   -- for this text's walks alone
set_option linter.unusedVariables false
set_option linter.unusedSimpArgs false
def l6.f (k : Nat) (l0 : List Int) (l1 : List Int) : Option (Int) := (cmp_Compare_int.f (l0.length : Int) (l1.length : Int)).bind fun t118 => (if t118 = 0 then ((bP.f k l0 l1).bind fun t119 => (some t119)) else (some t118))
set_option maxHeartbeats 8000000 in
set_option maxRecDepth 100000 in
theorem l6.calls (k : Nat) (A0 : Option Addr) (c0 : Nat) (l0 : List Int) (A1 : Option Addr) (c1 : Nat) (l1 : List Int) (r : Int) (w : World) (hr0 : Kd.C (Kd.int .i64) w A0 l0.length l0) (hc0 : l0.length ≤ c0) (hr1 : Kd.C (Kd.int .i64) w A1 l1.length l1) (hc1 : l1.length ≤ c1) (h : l6.f k l0 l1 = some r) :
    Calls Try.prog 39 #[.slice A0 l0.length c0, .slice A1 l1.length c1] w fun e w' => e = .returned (.int .i64 r) ∧ az w w' := by
  have HR0 := aA.mk hr0
  have HC0 := aA.mk hc0
  clear hr0 hc0
  have HR1 := aA.mk hr1
  have HC1 := aA.mk hc1
  clear hr1 hc1
  have H : ((cmp_Compare_int.f (l0.length : Int) (l1.length : Int)).bind fun t118 => (if t118 = 0 then ((bP.f k l0 l1).bind fun t119 => (some t119)) else (some t118))) = some r := h
  clear h
  replace H := Option.bind_eq_some_iff.mp H
  obtain ⟨t118, A30, H⟩ := H
  replace H : (if t118 = 0 then ((bP.f k l0 l1).bind fun t119 => (some t119)) else (some t118)) = some r := H
  have A3 := aA.mk A30
  clear A30
  by_cases c4 : t118 = 0
  · rw [if_pos c4] at H
    have gz : (t118 == 0) = true := beq_iff_eq.mpr c4
    have c4b1 : (t118 != 0) = false := bne_eq_false_iff_eq.mpr c4
    clear c4
    replace H := Option.bind_eq_some_iff.mp H
    obtain ⟨t119, A50, H⟩ := H
    replace H : (some t119) = some r := H
    have A5 := aA.mk A50
    clear A50
    obtain rfl := Option.some.inj H
    go_enter Try.func39, Try.ntmps39
    go_wp2_with (first | ((with_reducible refine bC (f := 59) rfl ?_); refine dV (some 10) rfl rfl Try.func59 (by kernel_rfl) rfl #[.int .i64 (l0.length : Int), .int .i64 (l1.length : Int)] rfl (by (try simp only [List.map_toArray, List.map_cons, List.map_nil]); first | done | rfl | (simp only [List.length_drop, List.length_take]; rfl)) ?_; (with_reducible refine (cmp_Compare_int.calls (l0.length : Int) (l1.length : Int) t118 _ A3.out).mono ?_); rintro e w' ⟨rfl, ⟨nd, rfl⟩⟩; refine ⟨_, rfl, ?_⟩) | ((with_reducible refine bC (f := 60) rfl ?_); refine dV (some 16) rfl rfl Try.func60 (by kernel_rfl) rfl #[.slice A0 l0.length c0, .slice A1 l1.length c1] rfl (by (try simp only [List.map_toArray, List.map_cons, List.map_nil]); first | done | rfl | (simp only [List.length_drop, List.length_take]; rfl)) ?_; (with_reducible refine (bP.calls k _ _ l0 _ _ l1 t119 _ ?dB ?dA ?di ?dh A5.out).mono ?_); (case dB => repeat (first | exact HR0.out | (with_reducible refine Kd.bE ?_ _) | (with_reducible refine Kd.bD ?_ _) | (with_reducible refine Kd.bS ?_))); (case dA => exact HC0.out); (case di => repeat (first | exact HR1.out | (with_reducible refine Kd.bE ?_ _) | (with_reducible refine Kd.bD ?_ _) | (with_reducible refine Kd.bS ?_))); (case dh => exact HC1.out); rintro e w' ⟨rfl, ⟨nd, rfl⟩⟩; refine ⟨_, rfl, ?_⟩))
    go_ret
    exact ⟨by first | rfl | (simp; done) | (simp [*]; done), by repeat (first | exact az.refl _ | apply az.step)⟩
  · rw [if_neg c4] at H
    have gz : (t118 == 0) = false := beq_eq_false_iff_ne.mpr c4
    have c4b1 : (t118 != 0) = true := bne_iff_ne.mpr c4
    obtain rfl := Option.some.inj H
    go_enter Try.func39, Try.ntmps39
    go_wp2_with (first | ((with_reducible refine bC (f := 59) rfl ?_); refine dV (some 10) rfl rfl Try.func59 (by kernel_rfl) rfl #[.int .i64 (l0.length : Int), .int .i64 (l1.length : Int)] rfl (by (try simp only [List.map_toArray, List.map_cons, List.map_nil]); first | done | rfl | (simp only [List.length_drop, List.length_take]; rfl)) ?_; (with_reducible refine (cmp_Compare_int.calls (l0.length : Int) (l1.length : Int) t118 _ A3.out).mono ?_); rintro e w' ⟨rfl, ⟨nd, rfl⟩⟩; refine ⟨_, rfl, ?_⟩))
    go_ret
    exact ⟨by first | rfl | (simp; done) | (simp [*]; done), by repeat (first | exact az.refl _ | apply az.step)⟩
end Go.Proofs.Ytocejofjmmoeaaa.X
end

section
namespace Go.Proofs.Ytocejofjmmoeaaa.X
open Go.RowKit Go.Proofs.YtocejofjmmoeaaaW.PrintWords Go.Proofs.YtocejofjmmoeaaaW.PrintLast Go.Proofs.YtocejofjmmoeaaaW.PrintMore
attribute [local go_sem] eZ eu fV fU eP eO fF fE   -- for this text's walks alone
set_option linter.unusedVariables false
set_option linter.unusedSimpArgs false
def kF.f (aT : Int) (aU : Int) (bQ : Int) (bG : Int) (bN : List Int) (bI : List Int) : Option (Int) := if aT = 1 then (some bG) else (some (wrap64 (bG * aU)))
set_option maxHeartbeats 8000000 in
set_option maxRecDepth 100000 in
theorem kF.calls (aT : Int) (aU : Int) (bQ : Int) (bG : Int) (eD : Option Addr) (eB : Nat) (bN : List Int) (eH : Option Addr) (eG : Nat) (bI : List Int) (r : Int) (w : World) (hr0_4 : Kd.C (Kd.int .i64) w eD bN.length bN) (hc0_4 : bN.length ≤ eB) (hr0_5 : Kd.C (Kd.int .i64) w eH bI.length bI) (hc0_5 : bI.length ≤ eG) (h : kF.f aT aU bQ bG bN bI = some r) :
    Calls Try.prog 87 #[.agg #[.int .i64 aT, .int .i64 aU, .int .i64 bQ, .int .i64 bG, .slice eD bN.length eB, .slice eH bI.length eG]] w fun e w' => e = .returned (.int .i64 r) ∧ Below w.heap.size w w' := by
  have hu50 := Try.underlying50
  have HR0_4 := aA.mk hr0_4
  have HC0_4 := aA.mk hc0_4
  clear hr0_4 hc0_4
  have HR0_5 := aA.mk hr0_5
  have HC0_5 := aA.mk hc0_5
  clear hr0_5 hc0_5
  have HB := aA.mk (Below.refl w.heap.size w)
  have H : (if aT = 1 then (some bG) else (some (wrap64 (bG * aU)))) = some r := h
  clear h
  by_cases c2 : aT = 1
  · rw [if_pos c2] at H
    have c2b0 : (aT == 1) = true := beq_iff_eq.mpr c2
    have c2b1 : (aT != 1) = false := bne_eq_false_iff_eq.mpr c2
    clear c2
    obtain rfl := Option.some.inj H
    go_enter Try.func87, Try.ntmps87
    go_wp2_with (first | ((with_reducible refine bT (N := 1) rfl ?_); refine dD ?hg (N := 1) ?hd (cs := #[.int .i64 aT, .int .i64 aU, .int .i64 bQ, .int .i64 bG, .slice eD bN.length eB, .slice eH bI.length eG]) (t := 50) ?hr ?_; (case hd => rfl); (case hg => rfl); (case hr => first | (go_simp; done) | (go_simp; rfl)); intro gb124 hg w3 hbox hb; have n0_ := aA.mk (aW (by repeat (first | (with_reducible first | exact HB.out | apply aH | apply aG | apply aI) | exact HB.out)) hb); have n1_ := aA.mk (hbox); have n2_ := aA.mk ((by rw [hg]; exact (aY (by repeat (first | (with_reducible first | exact HB.out | apply aH | apply aG | apply aI) | exact HB.out))) : w.heap.size ≤ gb124)); have n3_ := aA.mk ((by rw [hg]; exact (aY (by repeat (first | (with_reducible first | exact HB.out | apply aH | apply aG | apply aI) | exact HB.out))) : w.heap.size ≤ gb124)); clear HB; have HB := n0_; have jW := n1_; have GW124 := n2_; have GE124 := n3_; clear n0_ n1_ n2_ n3_; clear hb hbox hg; have hcz4_0 : w3.cell? ⟨gb124, 0, none⟩ = some (.int .i64 aT) := (aD jW.out 0).trans rfl; have hcz4_1 : w3.cell? ⟨gb124, 1, none⟩ = some (.int .i64 aU) := (aD jW.out 1).trans rfl; have hcz4_2 : w3.cell? ⟨gb124, 2, none⟩ = some (.int .i64 bQ) := (aD jW.out 2).trans rfl; have hcz4_3 : w3.cell? ⟨gb124, 3, none⟩ = some (.int .i64 bG) := (aD jW.out 3).trans rfl; have hcz4_4 : w3.cell? ⟨gb124, 4, none⟩ = some (.slice eD bN.length eB) := (aD jW.out 4).trans rfl; have hcz4_5 : w3.cell? ⟨gb124, 5, none⟩ = some (.slice eH bI.length eG) := (aD jW.out 5).trans rfl; have hfz4_0 := aC jW.out 0; have hfz4_1 := aC jW.out 1; have hfz4_2 := aC jW.out 2; have hfz4_3 := aC jW.out 3; have hfz4_4 := aC jW.out 4; have hfz4_5 := aC jW.out 5))
    go_ret
    exact ⟨by first | rfl | (simp [ag, af] <;> rfl) | (simp [*, ag, af] <;> rfl), by repeat (first | (with_reducible first | exact HB.out | apply aH | apply aG | apply aI | refine aN ?_ GE124.out) | exact HB.out)⟩
  · rw [if_neg c2] at H
    have c2b0 : (aT == 1) = false := beq_eq_false_iff_ne.mpr c2
    have c2b1 : (aT != 1) = true := bne_iff_ne.mpr c2
    obtain rfl := Option.some.inj H
    go_enter Try.func87, Try.ntmps87
    go_wp2_with (first | ((with_reducible refine bT (N := 1) rfl ?_); refine dD ?hg (N := 1) ?hd (cs := #[.int .i64 aT, .int .i64 aU, .int .i64 bQ, .int .i64 bG, .slice eD bN.length eB, .slice eH bI.length eG]) (t := 50) ?hr ?_; (case hd => rfl); (case hg => rfl); (case hr => first | (go_simp; done) | (go_simp; rfl)); intro gb124 hg w5 hbox hb; have n0_ := aA.mk (aW (by repeat (first | (with_reducible first | exact HB.out | apply aH | apply aG | apply aI) | exact HB.out)) hb); have n1_ := aA.mk (hbox); have n2_ := aA.mk ((by rw [hg]; exact (aY (by repeat (first | (with_reducible first | exact HB.out | apply aH | apply aG | apply aI) | exact HB.out))) : w.heap.size ≤ gb124)); have n3_ := aA.mk ((by rw [hg]; exact (aY (by repeat (first | (with_reducible first | exact HB.out | apply aH | apply aG | apply aI) | exact HB.out))) : w.heap.size ≤ gb124)); clear HB; have HB := n0_; have jW := n1_; have GW124 := n2_; have GE124 := n3_; clear n0_ n1_ n2_ n3_; clear hb hbox hg; have hcz6_0 : w5.cell? ⟨gb124, 0, none⟩ = some (.int .i64 aT) := (aD jW.out 0).trans rfl; have hcz6_1 : w5.cell? ⟨gb124, 1, none⟩ = some (.int .i64 aU) := (aD jW.out 1).trans rfl; have hcz6_2 : w5.cell? ⟨gb124, 2, none⟩ = some (.int .i64 bQ) := (aD jW.out 2).trans rfl; have hcz6_3 : w5.cell? ⟨gb124, 3, none⟩ = some (.int .i64 bG) := (aD jW.out 3).trans rfl; have hcz6_4 : w5.cell? ⟨gb124, 4, none⟩ = some (.slice eD bN.length eB) := (aD jW.out 4).trans rfl; have hcz6_5 : w5.cell? ⟨gb124, 5, none⟩ = some (.slice eH bI.length eG) := (aD jW.out 5).trans rfl; have hfz6_0 := aC jW.out 0; have hfz6_1 := aC jW.out 1; have hfz6_2 := aC jW.out 2; have hfz6_3 := aC jW.out 3; have hfz6_4 := aC jW.out 4; have hfz6_5 := aC jW.out 5))
    go_ret
    exact ⟨by first | rfl | (simp [ag, af] <;> rfl) | (simp [*, ag, af] <;> rfl), by repeat (first | (with_reducible first | exact HB.out | apply aH | apply aG | apply aI | refine aN ?_ GE124.out) | exact HB.out)⟩
end Go.Proofs.Ytocejofjmmoeaaa.X
end

section
namespace Go.Proofs.Ytocejofjmmoeaaa.X
open Go.RowKit Go.Proofs.YtocejofjmmoeaaaW.PrintWords Go.Proofs.YtocejofjmmoeaaaW.PrintLast Go.Proofs.YtocejofjmmoeaaaW.PrintMore
attribute [local go_sem] eZ eu fV fU eP eO fF fE   -- for this text's walks alone
set_option linter.unusedVariables false
set_option linter.unusedSimpArgs false
mutual
def bB.j0 : Nat → Bool → Int → Int → Int → Int → List Int → List Int → Option (Int)
  | 0, _, _, _, _, _, _, _ => none
  | k + 1, x3, jc, iR, iQ, iP, jb, ja => if x3 = true then (some 30) else (if iR < 1 then (bB.j1 k (decide (iR < 1)) jc iR iQ iP jb ja) else (bB.j1 k (decide (iR > 64)) jc iR iQ iP jb ja))
def bB.j1 : Nat → Bool → Int → Int → Int → Int → List Int → List Int → Option (Int)
  | 0, _, _, _, _, _, _, _ => none
  | k + 1, x12, jc, iR, iQ, iP, jb, ja => if x12 = true then (some 1) else (if jc = 1 then (bB.j2 k (iQ != 2) jc iR iQ iP jb ja) else (bB.j2 k false jc iR iQ iP jb ja))
def bB.j2 : Nat → Bool → Int → Int → Int → Int → List Int → List Int → Option (Int)
  | 0, _, _, _, _, _, _, _ => none
  | k + 1, x19, jc, iR, iQ, iP, jb, ja => if x19 = true then (some 33) else (if iQ < 1 then (bB.j3 k (decide (iQ < 1)) jc iR iQ iP jb ja) else (bB.j3 k (decide (iQ > 64)) jc iR iQ iP jb ja))
def bB.j3 : Nat → Bool → Int → Int → Int → Int → List Int → List Int → Option (Int)
  | 0, _, _, _, _, _, _, _ => none
  | k + 1, x28, jc, iR, iQ, iP, jb, ja => if x28 = true then (some 33) else (if iP < 1 then (bB.j4 k (decide (iP < 1)) jc iR iQ iP jb ja) else (bB.j4 k (decide (iP > 1024)) jc iR iQ iP jb ja))
def bB.j4 : Nat → Bool → Int → Int → Int → Int → List Int → List Int → Option (Int)
  | 0, _, _, _, _, _, _, _ => none
  | k + 1, x35, jc, iR, iQ, iP, jb, ja => if x35 = true then (some 3) else (if (jb.length : Int) = (wrap64 (iP * iR)) then ((kF.f jc iR iQ iP jb ja).bind fun t126 => (if (ja.length : Int) = t126 then (some 0) else (some 31))) else (some 31))
end
def bB.f (k : Nat) (aT : Int) (aU : Int) (bQ : Int) (bG : Int) (bN : List Int) (bI : List Int) : Option (Int) := if aT = 1 then (bB.j0 k false aT aU bQ bG bN bI) else (bB.j0 k (aT != 2) aT aU bQ bG bN bI)
set_option maxHeartbeats 8000000 in
set_option maxRecDepth 100000 in
theorem bB.calls (k : Nat) (aT : Int) (aU : Int) (bQ : Int) (bG : Int) (eD : Option Addr) (eB : Nat) (bN : List Int) (eH : Option Addr) (eG : Nat) (bI : List Int) (r : Int) (w : World) (hr0_4 : Kd.C (Kd.int .i64) w eD bN.length bN) (hc0_4 : bN.length ≤ eB) (hr0_5 : Kd.C (Kd.int .i64) w eH bI.length bI) (hc0_5 : bI.length ≤ eG) (h : bB.f k aT aU bQ bG bN bI = some r) :
    Calls Try.prog 70 #[.agg #[.int .i64 aT, .int .i64 aU, .int .i64 bQ, .int .i64 bG, .slice eD bN.length eB, .slice eH bI.length eG]] w fun e w' => e = .returned (.int .i64 r) ∧ Below w.heap.size w w' := by
  have hu50 := Try.underlying50
  have HR0_4 := aA.mk hr0_4
  have HC0_4 := aA.mk hc0_4
  clear hr0_4 hc0_4
  have HR0_5 := aA.mk hr0_5
  have HC0_5 := aA.mk hc0_5
  clear hr0_5 hc0_5
  have HB := aA.mk (Below.refl w.heap.size w)
  have H : (if aT = 1 then (bB.j0 k false aT aU bQ bG bN bI) else (bB.j0 k (aT != 2) aT aU bQ bG bN bI)) = some r := h
  clear h
  have HC2 := aA.mk H
  clear H
  go_enter Try.func70, Try.ntmps70
  go_upto_region 1 with (first | ((with_reducible refine bT (N := 1) rfl ?_); refine dD ?hg (N := 1) ?hd (cs := #[.int .i64 aT, .int .i64 aU, .int .i64 bQ, .int .i64 bG, .slice eD bN.length eB, .slice eH bI.length eG]) (t := 50) ?hr ?_; (case hd => rfl); (case hg => rfl); (case hr => first | (go_simp; done) | (go_simp; rfl)); intro cZ hg w3 hbox hb; have n0_ := aA.mk (aW (by repeat (first | (with_reducible first | exact HB.out | apply aH | apply aG | apply aI) | exact HB.out)) hb); have n1_ := aA.mk (hbox); have n2_ := aA.mk ((by rw [hg]; exact (aY (by repeat (first | (with_reducible first | exact HB.out | apply aH | apply aG | apply aI) | exact HB.out))) : w.heap.size ≤ cZ)); have n3_ := aA.mk ((by rw [hg]; exact (aY (by repeat (first | (with_reducible first | exact HB.out | apply aH | apply aG | apply aI) | exact HB.out))) : w.heap.size ≤ cZ)); clear HB; have HB := n0_; have au := n1_; have GW125 := n2_; have lT := n3_; clear n0_ n1_ n2_ n3_; clear hb hbox hg))
  (try simp only [Act.put, List.setIfInBounds_toArray, List.set_cons_zero, List.set_cons_succ])
  go_cut [3] (fun v3 wc => ∃ (kq : Nat) (x3_1 : Bool), v3 = .bool x3_1 ∧ aA (bB.j0 kq x3_1 aT aU bQ bG bN bI = some r) ∧ aA (kq ≤ k) ∧ aA (wc.heap[cZ]? = some (.cells #[.int .i64 aT, .int .i64 aU, .int .i64 bQ, .int .i64 bG, (.slice eD bN.length eB), (.slice eH bI.length eG)] 50 (0, 0))) ∧ aA (Below w.heap.size w wc))
  case first =>
    have H := HC2.out
    clear HC2
    by_cases c4 : aT = 1
    · rw [if_pos c4] at H
      have gz : (aT == 1) = true := beq_iff_eq.mpr c4
      have c4b1 : (aT != 1) = false := bne_eq_false_iff_eq.mpr c4
      clear c4
      (first | rw [gz] | (simp only [aj, av]; rw [gz]) | skip)
      have H' := aA.mk H
      clear H
      have lI : w3.cell? ⟨cZ, 0, none⟩ = some (.int .i64 aT) := (aD au.out 0).trans rfl
      have lH : w3.cell? ⟨cZ, 1, none⟩ = some (.int .i64 aU) := (aD au.out 1).trans rfl
      have lG : w3.cell? ⟨cZ, 2, none⟩ = some (.int .i64 bQ) := (aD au.out 2).trans rfl
      have lF : w3.cell? ⟨cZ, 3, none⟩ = some (.int .i64 bG) := (aD au.out 3).trans rfl
      have hcz5_4 : w3.cell? ⟨cZ, 4, none⟩ = some (.slice eD bN.length eB) := (aD au.out 4).trans rfl
      have hcz5_5 : w3.cell? ⟨cZ, 5, none⟩ = some (.slice eH bI.length eG) := (aD au.out 5).trans rfl
      have lD := aC au.out 0
      have lC := aC au.out 1
      have kz := aC au.out 2
      have ky := aC au.out 3
      have hfz5_4 := aC au.out 4
      have hfz5_5 := aC au.out 5
      go_wp2
      go_meet
      case rel => exact ⟨_, (false), (by first | rfl | (simp; done) | (simp [*]; done)), H', ⟨by first | omega | exact Nat.le_refl _⟩, ⟨by (with_reducible repeat (first | refine aM ?_ _ | refine aQ ?_ | refine aJ ?_ _)); exact au.out⟩, ⟨by repeat (first | (with_reducible first | exact HB.out | apply aH | apply aG | apply aI | refine aN ?_ lT.out) | exact HB.out)⟩⟩
    · rw [if_neg c4] at H
      have gz : (aT == 1) = false := beq_eq_false_iff_ne.mpr c4
      have c4b1 : (aT != 1) = true := bne_iff_ne.mpr c4
      (first | rw [gz] | (simp only [aj, av]; rw [gz]) | skip)
      have H' := aA.mk H
      clear H
      have hcz6_0 : w3.cell? ⟨cZ, 0, none⟩ = some (.int .i64 aT) := (aD au.out 0).trans rfl
      have hcz6_1 : w3.cell? ⟨cZ, 1, none⟩ = some (.int .i64 aU) := (aD au.out 1).trans rfl
      have hcz6_2 : w3.cell? ⟨cZ, 2, none⟩ = some (.int .i64 bQ) := (aD au.out 2).trans rfl
      have hcz6_3 : w3.cell? ⟨cZ, 3, none⟩ = some (.int .i64 bG) := (aD au.out 3).trans rfl
      have hcz6_4 : w3.cell? ⟨cZ, 4, none⟩ = some (.slice eD bN.length eB) := (aD au.out 4).trans rfl
      have hcz6_5 : w3.cell? ⟨cZ, 5, none⟩ = some (.slice eH bI.length eG) := (aD au.out 5).trans rfl
      have hfz6_0 := aC au.out 0
      have hfz6_1 := aC au.out 1
      have hfz6_2 := aC au.out 2
      have hfz6_3 := aC au.out 3
      have hfz6_4 := aC au.out 4
      have hfz6_5 := aC au.out 5
      go_wp2
      go_meet
      case rel => exact ⟨_, ((aT != 2)), (by first | rfl | (simp; done) | (simp [*]; done)), H', ⟨by first | omega | exact Nat.le_refl _⟩, ⟨by (with_reducible repeat (first | refine aM ?_ _ | refine aQ ?_ | refine aJ ?_ _)); exact au.out⟩, ⟨by repeat (first | (with_reducible first | exact HB.out | apply aH | apply aG | apply aI | refine aN ?_ lT.out) | exact HB.out)⟩⟩
  case rest =>
    clear HC2
    try clear p2
    try clear c4
    try clear gz
    try clear c4b1
    try clear lI
    try clear lH
    try clear lG
    try clear lF
    try clear hcz5_4
    try clear hcz5_5
    try clear hcz6_0
    try clear hcz6_1
    try clear hcz6_2
    try clear hcz6_3
    try clear hcz6_4
    try clear hcz6_5
    try clear lD
    try clear lC
    try clear kz
    try clear ky
    try clear hfz5_4
    try clear hfz5_5
    try clear hfz6_0
    try clear hfz6_1
    try clear hfz6_2
    try clear hfz6_3
    try clear hfz6_4
    try clear hfz6_5
    obtain ⟨kq, x3_1, rfl, HA, HJ1, au, HB⟩ := hcut
    cases kq with
    | zero => exact absurd HA.out (by simp [bB.j0])
    | succ kj1 =>
      have H := HA.out
      clear HA
      simp only [bB.j0] at H
      by_cases c7 : x3_1 = true
      · subst c7
        have H1 : (some 30) = some r := by rw [if_pos rfl] at H; exact H
        clear H
        have H := H1
        clear H1
        obtain rfl := Option.some.inj H
        go_wp2
        go_ret
        exact ⟨by first | rfl | (simp [ag, af] <;> rfl) | (simp [*, ag, af] <;> rfl), by repeat (first | (with_reducible first | exact HB.out | apply aH | apply aG | apply aI | refine aN ?_ lT.out) | exact HB.out)⟩
      · replace c7 := Bool.eq_false_iff.mpr c7
        subst c7
        have H1 : (if aU < 1 then (bB.j1 kj1 (decide (aU < 1)) aT aU bQ bG bN bI) else (bB.j1 kj1 (decide (aU > 64)) aT aU bQ bG bN bI)) = some r := by rw [if_neg (show ¬ (false = true) by decide)] at H; exact H
        clear H
        have H := H1
        clear H1
        have HC8 := aA.mk H
        clear H
        have jF : wc.cell? ⟨cZ, 0, none⟩ = some (.int .i64 aT) := (aD au.out 0).trans rfl
        have jE : wc.cell? ⟨cZ, 1, none⟩ = some (.int .i64 aU) := (aD au.out 1).trans rfl
        have jD : wc.cell? ⟨cZ, 2, none⟩ = some (.int .i64 bQ) := (aD au.out 2).trans rfl
        have jC : wc.cell? ⟨cZ, 3, none⟩ = some (.int .i64 bG) := (aD au.out 3).trans rfl
        have hcz9_4 : wc.cell? ⟨cZ, 4, none⟩ = some (.slice eD bN.length eB) := (aD au.out 4).trans rfl
        have hcz9_5 : wc.cell? ⟨cZ, 5, none⟩ = some (.slice eH bI.length eG) := (aD au.out 5).trans rfl
        have jB := aC au.out 0
        have jA := aC au.out 1
        have iy := aC au.out 2
        have iw := aC au.out 3
        have hfz9_4 := aC au.out 4
        have hfz9_5 := aC au.out 5
        go_upto_if 12 with (fail)
        go_cut [12] (fun v12 wc => ∃ (kq : Nat) (x12_7 : Bool), v12 = .bool x12_7 ∧ aA (bB.j1 kq x12_7 aT aU bQ bG bN bI = some r) ∧ aA (kq ≤ kj1) ∧ aA (wc.heap[cZ]? = some (.cells #[.int .i64 aT, .int .i64 aU, .int .i64 bQ, .int .i64 bG, (.slice eD bN.length eB), (.slice eH bI.length eG)] 50 (0, 0))) ∧ aA (Below w.heap.size w wc))
        case first =>
          have H := HC8.out
          clear HC8
          by_cases c10 : aU < 1
          · rw [if_pos c10] at H
            have c10b0 : decide (aU < 1) = true := decide_eq_true c10
            clear c10
            (first | rw [c10b0] | (simp only [aj, av]; rw [c10b0]) | skip)
            have H' := aA.mk H
            clear H
            go_wp2
            go_meet
            case rel => exact ⟨_, (decide (aU < 1)), (by first | rfl | (simp; done) | (simp [*]; done)), H', ⟨by have := HJ1.out; first | omega | exact Nat.le_refl _⟩, ⟨by (with_reducible repeat (first | refine aM ?_ _ | refine aQ ?_ | refine aJ ?_ _)); exact au.out⟩, ⟨by repeat (first | (with_reducible first | exact HB.out | apply aH | apply aG | apply aI | refine aN ?_ lT.out) | exact HB.out)⟩⟩
          · rw [if_neg c10] at H
            have c10b0 : decide (aU < 1) = false := decide_eq_false c10
            clear c10
            (first | rw [c10b0] | (simp only [aj, av]; rw [c10b0]) | skip)
            have H' := aA.mk H
            clear H
            have kP : wc.cell? ⟨cZ, 0, none⟩ = some (.int .i64 aT) := (aD au.out 0).trans rfl
            have kN : wc.cell? ⟨cZ, 1, none⟩ = some (.int .i64 aU) := (aD au.out 1).trans rfl
            have kM : wc.cell? ⟨cZ, 2, none⟩ = some (.int .i64 bQ) := (aD au.out 2).trans rfl
            have kL : wc.cell? ⟨cZ, 3, none⟩ = some (.int .i64 bG) := (aD au.out 3).trans rfl
            have hcz11_4 : wc.cell? ⟨cZ, 4, none⟩ = some (.slice eD bN.length eB) := (aD au.out 4).trans rfl
            have hcz11_5 : wc.cell? ⟨cZ, 5, none⟩ = some (.slice eH bI.length eG) := (aD au.out 5).trans rfl
            have kK := aC au.out 0
            have kJ := aC au.out 1
            have kI := aC au.out 2
            have kG := aC au.out 3
            have hfz11_4 := aC au.out 4
            have hfz11_5 := aC au.out 5
            go_wp2
            go_meet
            case rel => exact ⟨_, (decide (aU > 64)), (by first | rfl | (simp; done) | (simp [*]; done)), H', ⟨by have := HJ1.out; first | omega | exact Nat.le_refl _⟩, ⟨by (with_reducible repeat (first | refine aM ?_ _ | refine aQ ?_ | refine aJ ?_ _)); exact au.out⟩, ⟨by repeat (first | (with_reducible first | exact HB.out | apply aH | apply aG | apply aI | refine aN ?_ lT.out) | exact HB.out)⟩⟩
        case rest =>
          clear HC8
          try clear c1
          try clear p2
          try clear c4
          try clear gz
          try clear c4b1
          try clear c7
          try clear c10
          try clear c10b0
          try clear kP
          try clear kN
          try clear kM
          try clear kL
          try clear hcz11_4
          try clear hcz11_5
          try clear lI
          try clear lH
          try clear lG
          try clear lF
          try clear hcz5_4
          try clear hcz5_5
          try clear hcz6_0
          try clear hcz6_1
          try clear hcz6_2
          try clear hcz6_3
          try clear hcz6_4
          try clear hcz6_5
          try clear jF
          try clear jE
          try clear jD
          try clear jC
          try clear hcz9_4
          try clear hcz9_5
          try clear kK
          try clear kJ
          try clear kI
          try clear kG
          try clear hfz11_4
          try clear hfz11_5
          try clear lD
          try clear lC
          try clear kz
          try clear ky
          try clear hfz5_4
          try clear hfz5_5
          try clear hfz6_0
          try clear hfz6_1
          try clear hfz6_2
          try clear hfz6_3
          try clear hfz6_4
          try clear hfz6_5
          try clear jB
          try clear jA
          try clear iy
          try clear iw
          try clear hfz9_4
          try clear hfz9_5
          try clear p2
          obtain ⟨kq, x12_7, rfl, HA, HJ7, au, HB⟩ := hcut
          cases kq with
          | zero => exact absurd HA.out (by simp [bB.j1])
          | succ kj7 =>
            have H := HA.out
            clear HA
            simp only [bB.j1] at H
            by_cases c12 : x12_7 = true
            · subst c12
              have H1 : (some 1) = some r := by rw [if_pos rfl] at H; exact H
              clear H
              have H := H1
              clear H1
              obtain rfl := Option.some.inj H
              go_wp2
              go_ret
              exact ⟨by first | rfl | (simp [ag, af] <;> rfl) | (simp [*, ag, af] <;> rfl), by repeat (first | (with_reducible first | exact HB.out | apply aH | apply aG | apply aI | refine aN ?_ lT.out) | exact HB.out)⟩
            · replace c12 := Bool.eq_false_iff.mpr c12
              subst c12
              have H1 : (if aT = 1 then (bB.j2 kj7 (bQ != 2) aT aU bQ bG bN bI) else (bB.j2 kj7 false aT aU bQ bG bN bI)) = some r := by rw [if_neg (show ¬ (false = true) by decide)] at H; exact H
              clear H
              have H := H1
              clear H1
              have HC13 := aA.mk H
              clear H
              go_upto_region 4 with (fail)
              go_cut [19] (fun v19 wc => ∃ (kq : Nat) (x19_12 : Bool), v19 = .bool x19_12 ∧ aA (bB.j2 kq x19_12 aT aU bQ bG bN bI = some r) ∧ aA (kq ≤ kj7) ∧ aA (wc.heap[cZ]? = some (.cells #[.int .i64 aT, .int .i64 aU, .int .i64 bQ, .int .i64 bG, (.slice eD bN.length eB), (.slice eH bI.length eG)] 50 (0, 0))) ∧ aA (Below w.heap.size w wc))
              case first =>
                have H := HC13.out
                clear HC13
                by_cases c14 : aT = 1
                · rw [if_pos c14] at H
                  have kW : (aT == 1) = true := beq_iff_eq.mpr c14
                  have c14b1 : (aT != 1) = false := bne_eq_false_iff_eq.mpr c14
                  clear c14
                  (first | rw [kW] | (simp only [aj, av]; rw [kW]) | skip)
                  have H' := aA.mk H
                  clear H
                  have hcz15_0 : wc.cell? ⟨cZ, 0, none⟩ = some (.int .i64 aT) := (aD au.out 0).trans rfl
                  have hcz15_1 : wc.cell? ⟨cZ, 1, none⟩ = some (.int .i64 aU) := (aD au.out 1).trans rfl
                  have hcz15_2 : wc.cell? ⟨cZ, 2, none⟩ = some (.int .i64 bQ) := (aD au.out 2).trans rfl
                  have hcz15_3 : wc.cell? ⟨cZ, 3, none⟩ = some (.int .i64 bG) := (aD au.out 3).trans rfl
                  have hcz15_4 : wc.cell? ⟨cZ, 4, none⟩ = some (.slice eD bN.length eB) := (aD au.out 4).trans rfl
                  have hcz15_5 : wc.cell? ⟨cZ, 5, none⟩ = some (.slice eH bI.length eG) := (aD au.out 5).trans rfl
                  have hfz15_0 := aC au.out 0
                  have hfz15_1 := aC au.out 1
                  have hfz15_2 := aC au.out 2
                  have hfz15_3 := aC au.out 3
                  have hfz15_4 := aC au.out 4
                  have hfz15_5 := aC au.out 5
                  go_wp2
                  go_meet
                  case rel => exact ⟨_, ((bQ != 2)), (by first | rfl | (simp; done) | (simp [*]; done)), H', ⟨by have := HJ1.out; have := HJ7.out; first | omega | exact Nat.le_refl _⟩, ⟨by (with_reducible repeat (first | refine aM ?_ _ | refine aQ ?_ | refine aJ ?_ _)); exact au.out⟩, ⟨by repeat (first | (with_reducible first | exact HB.out | apply aH | apply aG | apply aI | refine aN ?_ lT.out) | exact HB.out)⟩⟩
                · rw [if_neg c14] at H
                  have kW : (aT == 1) = false := beq_eq_false_iff_ne.mpr c14
                  have c14b1 : (aT != 1) = true := bne_iff_ne.mpr c14
                  (first | rw [kW] | (simp only [aj, av]; rw [kW]) | skip)
                  have H' := aA.mk H
                  clear H
                  have hcz16_0 : wc.cell? ⟨cZ, 0, none⟩ = some (.int .i64 aT) := (aD au.out 0).trans rfl
                  have hcz16_1 : wc.cell? ⟨cZ, 1, none⟩ = some (.int .i64 aU) := (aD au.out 1).trans rfl
                  have hcz16_2 : wc.cell? ⟨cZ, 2, none⟩ = some (.int .i64 bQ) := (aD au.out 2).trans rfl
                  have hcz16_3 : wc.cell? ⟨cZ, 3, none⟩ = some (.int .i64 bG) := (aD au.out 3).trans rfl
                  have hcz16_4 : wc.cell? ⟨cZ, 4, none⟩ = some (.slice eD bN.length eB) := (aD au.out 4).trans rfl
                  have hcz16_5 : wc.cell? ⟨cZ, 5, none⟩ = some (.slice eH bI.length eG) := (aD au.out 5).trans rfl
                  have hfz16_0 := aC au.out 0
                  have hfz16_1 := aC au.out 1
                  have hfz16_2 := aC au.out 2
                  have hfz16_3 := aC au.out 3
                  have hfz16_4 := aC au.out 4
                  have hfz16_5 := aC au.out 5
                  go_wp2
                  go_meet
                  case rel => exact ⟨_, (false), (by first | rfl | (simp; done) | (simp [*]; done)), H', ⟨by have := HJ1.out; have := HJ7.out; first | omega | exact Nat.le_refl _⟩, ⟨by (with_reducible repeat (first | refine aM ?_ _ | refine aQ ?_ | refine aJ ?_ _)); exact au.out⟩, ⟨by repeat (first | (with_reducible first | exact HB.out | apply aH | apply aG | apply aI | refine aN ?_ lT.out) | exact HB.out)⟩⟩
              case rest =>
                clear HC13
                try clear c1
                try clear p2
                try clear c4
                try clear gz
                try clear c4b1
                try clear c7
                try clear c10
                try clear c10b0
                try clear c12
                try clear c14
                try clear kW
                try clear c14b1
                try clear kP
                try clear kN
                try clear kM
                try clear kL
                try clear hcz11_4
                try clear hcz11_5
                try clear hcz15_0
                try clear hcz15_1
                try clear hcz15_2
                try clear hcz15_3
                try clear hcz15_4
                try clear hcz15_5
                try clear hcz16_0
                try clear hcz16_1
                try clear hcz16_2
                try clear hcz16_3
                try clear hcz16_4
                try clear hcz16_5
                try clear lI
                try clear lH
                try clear lG
                try clear lF
                try clear hcz5_4
                try clear hcz5_5
                try clear hcz6_0
                try clear hcz6_1
                try clear hcz6_2
                try clear hcz6_3
                try clear hcz6_4
                try clear hcz6_5
                try clear jF
                try clear jE
                try clear jD
                try clear jC
                try clear hcz9_4
                try clear hcz9_5
                try clear kK
                try clear kJ
                try clear kI
                try clear kG
                try clear hfz11_4
                try clear hfz11_5
                try clear hfz15_0
                try clear hfz15_1
                try clear hfz15_2
                try clear hfz15_3
                try clear hfz15_4
                try clear hfz15_5
                try clear hfz16_0
                try clear hfz16_1
                try clear hfz16_2
                try clear hfz16_3
                try clear hfz16_4
                try clear hfz16_5
                try clear lD
                try clear lC
                try clear kz
                try clear ky
                try clear hfz5_4
                try clear hfz5_5
                try clear hfz6_0
                try clear hfz6_1
                try clear hfz6_2
                try clear hfz6_3
                try clear hfz6_4
                try clear hfz6_5
                try clear jB
                try clear jA
                try clear iy
                try clear iw
                try clear hfz9_4
                try clear hfz9_5
                try clear p2
                obtain ⟨kq, x19_12, rfl, HA, HJ12, au, HB⟩ := hcut
                cases kq with
                | zero => exact absurd HA.out (by simp [bB.j2])
                | succ kj12 =>
                  have H := HA.out
                  clear HA
                  simp only [bB.j2] at H
                  by_cases c17 : x19_12 = true
                  · subst c17
                    have H1 : (some 33) = some r := by rw [if_pos rfl] at H; exact H
                    clear H
                    have H := H1
                    clear H1
                    obtain rfl := Option.some.inj H
                    go_wp2
                    go_ret
                    exact ⟨by first | rfl | (simp [ag, af] <;> rfl) | (simp [*, ag, af] <;> rfl), by repeat (first | (with_reducible first | exact HB.out | apply aH | apply aG | apply aI | refine aN ?_ lT.out) | exact HB.out)⟩
                  · replace c17 := Bool.eq_false_iff.mpr c17
                    subst c17
                    have H1 : (if bQ < 1 then (bB.j3 kj12 (decide (bQ < 1)) aT aU bQ bG bN bI) else (bB.j3 kj12 (decide (bQ > 64)) aT aU bQ bG bN bI)) = some r := by rw [if_neg (show ¬ (false = true) by decide)] at H; exact H
                    clear H
                    have H := H1
                    clear H1
                    have HC18 := aA.mk H
                    clear H
                    have hcz19_0 : wc.cell? ⟨cZ, 0, none⟩ = some (.int .i64 aT) := (aD au.out 0).trans rfl
                    have hcz19_1 : wc.cell? ⟨cZ, 1, none⟩ = some (.int .i64 aU) := (aD au.out 1).trans rfl
                    have hcz19_2 : wc.cell? ⟨cZ, 2, none⟩ = some (.int .i64 bQ) := (aD au.out 2).trans rfl
                    have hcz19_3 : wc.cell? ⟨cZ, 3, none⟩ = some (.int .i64 bG) := (aD au.out 3).trans rfl
                    have hcz19_4 : wc.cell? ⟨cZ, 4, none⟩ = some (.slice eD bN.length eB) := (aD au.out 4).trans rfl
                    have hcz19_5 : wc.cell? ⟨cZ, 5, none⟩ = some (.slice eH bI.length eG) := (aD au.out 5).trans rfl
                    have hfz19_0 := aC au.out 0
                    have hfz19_1 := aC au.out 1
                    have hfz19_2 := aC au.out 2
                    have hfz19_3 := aC au.out 3
                    have hfz19_4 := aC au.out 4
                    have hfz19_5 := aC au.out 5
                    go_upto_if 28 with (fail)
                    go_cut [28] (fun v28 wc => ∃ (kq : Nat) (x28_17 : Bool), v28 = .bool x28_17 ∧ aA (bB.j3 kq x28_17 aT aU bQ bG bN bI = some r) ∧ aA (kq ≤ kj12) ∧ aA (wc.heap[cZ]? = some (.cells #[.int .i64 aT, .int .i64 aU, .int .i64 bQ, .int .i64 bG, (.slice eD bN.length eB), (.slice eH bI.length eG)] 50 (0, 0))) ∧ aA (Below w.heap.size w wc))
                    case first =>
                      have H := HC18.out
                      clear HC18
                      by_cases c20 : bQ < 1
                      · rw [if_pos c20] at H
                        have c20b0 : decide (bQ < 1) = true := decide_eq_true c20
                        clear c20
                        (first | rw [c20b0] | (simp only [aj, av]; rw [c20b0]) | skip)
                        have H' := aA.mk H
                        clear H
                        go_wp2
                        go_meet
                        case rel => exact ⟨_, (decide (bQ < 1)), (by first | rfl | (simp; done) | (simp [*]; done)), H', ⟨by have := HJ1.out; have := HJ7.out; have := HJ12.out; first | omega | exact Nat.le_refl _⟩, ⟨by (with_reducible repeat (first | refine aM ?_ _ | refine aQ ?_ | refine aJ ?_ _)); exact au.out⟩, ⟨by repeat (first | (with_reducible first | exact HB.out | apply aH | apply aG | apply aI | refine aN ?_ lT.out) | exact HB.out)⟩⟩
                      · rw [if_neg c20] at H
                        have c20b0 : decide (bQ < 1) = false := decide_eq_false c20
                        clear c20
                        (first | rw [c20b0] | (simp only [aj, av]; rw [c20b0]) | skip)
                        have H' := aA.mk H
                        clear H
                        have hcz21_0 : wc.cell? ⟨cZ, 0, none⟩ = some (.int .i64 aT) := (aD au.out 0).trans rfl
                        have hcz21_1 : wc.cell? ⟨cZ, 1, none⟩ = some (.int .i64 aU) := (aD au.out 1).trans rfl
                        have hcz21_2 : wc.cell? ⟨cZ, 2, none⟩ = some (.int .i64 bQ) := (aD au.out 2).trans rfl
                        have hcz21_3 : wc.cell? ⟨cZ, 3, none⟩ = some (.int .i64 bG) := (aD au.out 3).trans rfl
                        have hcz21_4 : wc.cell? ⟨cZ, 4, none⟩ = some (.slice eD bN.length eB) := (aD au.out 4).trans rfl
                        have hcz21_5 : wc.cell? ⟨cZ, 5, none⟩ = some (.slice eH bI.length eG) := (aD au.out 5).trans rfl
                        have hfz21_0 := aC au.out 0
                        have hfz21_1 := aC au.out 1
                        have hfz21_2 := aC au.out 2
                        have hfz21_3 := aC au.out 3
                        have hfz21_4 := aC au.out 4
                        have hfz21_5 := aC au.out 5
                        go_wp2
                        go_meet
                        case rel => exact ⟨_, (decide (bQ > 64)), (by first | rfl | (simp; done) | (simp [*]; done)), H', ⟨by have := HJ1.out; have := HJ7.out; have := HJ12.out; first | omega | exact Nat.le_refl _⟩, ⟨by (with_reducible repeat (first | refine aM ?_ _ | refine aQ ?_ | refine aJ ?_ _)); exact au.out⟩, ⟨by repeat (first | (with_reducible first | exact HB.out | apply aH | apply aG | apply aI | refine aN ?_ lT.out) | exact HB.out)⟩⟩
                    case rest =>
                      clear HC18
                      try clear c1
                      try clear c2
                      try clear p2
                      try clear c4
                      try clear gz
                      try clear c4b1
                      try clear c7
                      try clear c10
                      try clear c10b0
                      try clear c12
                      try clear c14
                      try clear kW
                      try clear c14b1
                      try clear c17
                      try clear c20
                      try clear c20b0
                      try clear kP
                      try clear kN
                      try clear kM
                      try clear kL
                      try clear hcz11_4
                      try clear hcz11_5
                      try clear hcz15_0
                      try clear hcz15_1
                      try clear hcz15_2
                      try clear hcz15_3
                      try clear hcz15_4
                      try clear hcz15_5
                      try clear hcz16_0
                      try clear hcz16_1
                      try clear hcz16_2
                      try clear hcz16_3
                      try clear hcz16_4
                      try clear hcz16_5
                      try clear hcz19_0
                      try clear hcz19_1
                      try clear hcz19_2
                      try clear hcz19_3
                      try clear hcz19_4
                      try clear hcz19_5
                      try clear hcz21_0
                      try clear hcz21_1
                      try clear hcz21_2
                      try clear hcz21_3
                      try clear hcz21_4
                      try clear hcz21_5
                      try clear lI
                      try clear lH
                      try clear lG
                      try clear lF
                      try clear hcz5_4
                      try clear hcz5_5
                      try clear hcz6_0
                      try clear hcz6_1
                      try clear hcz6_2
                      try clear hcz6_3
                      try clear hcz6_4
                      try clear hcz6_5
                      try clear jF
                      try clear jE
                      try clear jD
                      try clear jC
                      try clear hcz9_4
                      try clear hcz9_5
                      try clear kK
                      try clear kJ
                      try clear kI
                      try clear kG
                      try clear hfz11_4
                      try clear hfz11_5
                      try clear hfz15_0
                      try clear hfz15_1
                      try clear hfz15_2
                      try clear hfz15_3
                      try clear hfz15_4
                      try clear hfz15_5
                      try clear hfz16_0
                      try clear hfz16_1
                      try clear hfz16_2
                      try clear hfz16_3
                      try clear hfz16_4
                      try clear hfz16_5
                      try clear hfz19_0
                      try clear hfz19_1
                      try clear hfz19_2
                      try clear hfz19_3
                      try clear hfz19_4
                      try clear hfz19_5
                      try clear hfz21_0
                      try clear hfz21_1
                      try clear hfz21_2
                      try clear hfz21_3
                      try clear hfz21_4
                      try clear hfz21_5
                      try clear lD
                      try clear lC
                      try clear kz
                      try clear ky
                      try clear hfz5_4
                      try clear hfz5_5
                      try clear hfz6_0
                      try clear hfz6_1
                      try clear hfz6_2
                      try clear hfz6_3
                      try clear hfz6_4
                      try clear hfz6_5
                      try clear jB
                      try clear jA
                      try clear iy
                      try clear iw
                      try clear hfz9_4
                      try clear hfz9_5
                      try clear p2
                      obtain ⟨kq, x28_17, rfl, HA, HJ17, au, HB⟩ := hcut
                      cases kq with
                      | zero => exact absurd HA.out (by simp [bB.j3])
                      | succ kj17 =>
                        have H := HA.out
                        clear HA
                        simp only [bB.j3] at H
                        by_cases c22 : x28_17 = true
                        · subst c22
                          have H1 : (some 33) = some r := by rw [if_pos rfl] at H; exact H
                          clear H
                          have H := H1
                          clear H1
                          obtain rfl := Option.some.inj H
                          go_wp2
                          go_ret
                          exact ⟨by first | rfl | (simp [ag, af] <;> rfl) | (simp [*, ag, af] <;> rfl), by repeat (first | (with_reducible first | exact HB.out | apply aH | apply aG | apply aI | refine aN ?_ lT.out) | exact HB.out)⟩
                        · replace c22 := Bool.eq_false_iff.mpr c22
                          subst c22
                          have H1 : (if bG < 1 then (bB.j4 kj17 (decide (bG < 1)) aT aU bQ bG bN bI) else (bB.j4 kj17 (decide (bG > 1024)) aT aU bQ bG bN bI)) = some r := by rw [if_neg (show ¬ (false = true) by decide)] at H; exact H
                          clear H
                          have H := H1
                          clear H1
                          have HC23 := aA.mk H
                          clear H
                          have hcz24_0 : wc.cell? ⟨cZ, 0, none⟩ = some (.int .i64 aT) := (aD au.out 0).trans rfl
                          have hcz24_1 : wc.cell? ⟨cZ, 1, none⟩ = some (.int .i64 aU) := (aD au.out 1).trans rfl
                          have hcz24_2 : wc.cell? ⟨cZ, 2, none⟩ = some (.int .i64 bQ) := (aD au.out 2).trans rfl
                          have hcz24_3 : wc.cell? ⟨cZ, 3, none⟩ = some (.int .i64 bG) := (aD au.out 3).trans rfl
                          have hcz24_4 : wc.cell? ⟨cZ, 4, none⟩ = some (.slice eD bN.length eB) := (aD au.out 4).trans rfl
                          have hcz24_5 : wc.cell? ⟨cZ, 5, none⟩ = some (.slice eH bI.length eG) := (aD au.out 5).trans rfl
                          have hfz24_0 := aC au.out 0
                          have hfz24_1 := aC au.out 1
                          have hfz24_2 := aC au.out 2
                          have hfz24_3 := aC au.out 3
                          have hfz24_4 := aC au.out 4
                          have hfz24_5 := aC au.out 5
                          go_upto_if 35 with (fail)
                          go_cut [35] (fun v35 wc => ∃ (kq : Nat) (x35_22 : Bool), v35 = .bool x35_22 ∧ aA (bB.j4 kq x35_22 aT aU bQ bG bN bI = some r) ∧ aA (kq ≤ kj17) ∧ aA (wc.heap[cZ]? = some (.cells #[.int .i64 aT, .int .i64 aU, .int .i64 bQ, .int .i64 bG, (.slice eD bN.length eB), (.slice eH bI.length eG)] 50 (0, 0))) ∧ aA (Below w.heap.size w wc))
                          case first =>
                            have H := HC23.out
                            clear HC23
                            by_cases c25 : bG < 1
                            · rw [if_pos c25] at H
                              have c25b0 : decide (bG < 1) = true := decide_eq_true c25
                              clear c25
                              (first | rw [c25b0] | (simp only [aj, av]; rw [c25b0]) | skip)
                              have H' := aA.mk H
                              clear H
                              go_wp2
                              go_meet
                              case rel => exact ⟨_, (decide (bG < 1)), (by first | rfl | (simp; done) | (simp [*]; done)), H', ⟨by have := HJ1.out; have := HJ7.out; have := HJ12.out; have := HJ17.out; first | omega | exact Nat.le_refl _⟩, ⟨by (with_reducible repeat (first | refine aM ?_ _ | refine aQ ?_ | refine aJ ?_ _)); exact au.out⟩, ⟨by repeat (first | (with_reducible first | exact HB.out | apply aH | apply aG | apply aI | refine aN ?_ lT.out) | exact HB.out)⟩⟩
                            · rw [if_neg c25] at H
                              have c25b0 : decide (bG < 1) = false := decide_eq_false c25
                              clear c25
                              (first | rw [c25b0] | (simp only [aj, av]; rw [c25b0]) | skip)
                              have H' := aA.mk H
                              clear H
                              have hcz26_0 : wc.cell? ⟨cZ, 0, none⟩ = some (.int .i64 aT) := (aD au.out 0).trans rfl
                              have hcz26_1 : wc.cell? ⟨cZ, 1, none⟩ = some (.int .i64 aU) := (aD au.out 1).trans rfl
                              have hcz26_2 : wc.cell? ⟨cZ, 2, none⟩ = some (.int .i64 bQ) := (aD au.out 2).trans rfl
                              have hcz26_3 : wc.cell? ⟨cZ, 3, none⟩ = some (.int .i64 bG) := (aD au.out 3).trans rfl
                              have hcz26_4 : wc.cell? ⟨cZ, 4, none⟩ = some (.slice eD bN.length eB) := (aD au.out 4).trans rfl
                              have hcz26_5 : wc.cell? ⟨cZ, 5, none⟩ = some (.slice eH bI.length eG) := (aD au.out 5).trans rfl
                              have hfz26_0 := aC au.out 0
                              have hfz26_1 := aC au.out 1
                              have hfz26_2 := aC au.out 2
                              have hfz26_3 := aC au.out 3
                              have hfz26_4 := aC au.out 4
                              have hfz26_5 := aC au.out 5
                              go_wp2
                              go_meet
                              case rel => exact ⟨_, (decide (bG > 1024)), (by first | rfl | (simp; done) | (simp [*]; done)), H', ⟨by have := HJ1.out; have := HJ7.out; have := HJ12.out; have := HJ17.out; first | omega | exact Nat.le_refl _⟩, ⟨by (with_reducible repeat (first | refine aM ?_ _ | refine aQ ?_ | refine aJ ?_ _)); exact au.out⟩, ⟨by repeat (first | (with_reducible first | exact HB.out | apply aH | apply aG | apply aI | refine aN ?_ lT.out) | exact HB.out)⟩⟩
                          case rest =>
                            clear HC23
                            try clear c1
                            try clear c2
                            try clear p2
                            try clear c4
                            try clear gz
                            try clear c4b1
                            try clear c7
                            try clear c10
                            try clear c10b0
                            try clear c12
                            try clear c14
                            try clear kW
                            try clear c14b1
                            try clear c17
                            try clear c20
                            try clear c20b0
                            try clear c22
                            try clear c25
                            try clear c25b0
                            try clear kP
                            try clear kN
                            try clear kM
                            try clear kL
                            try clear hcz11_4
                            try clear hcz11_5
                            try clear hcz15_0
                            try clear hcz15_1
                            try clear hcz15_2
                            try clear hcz15_3
                            try clear hcz15_4
                            try clear hcz15_5
                            try clear hcz16_0
                            try clear hcz16_1
                            try clear hcz16_2
                            try clear hcz16_3
                            try clear hcz16_4
                            try clear hcz16_5
                            try clear hcz19_0
                            try clear hcz19_1
                            try clear hcz19_2
                            try clear hcz19_3
                            try clear hcz19_4
                            try clear hcz19_5
                            try clear hcz21_0
                            try clear hcz21_1
                            try clear hcz21_2
                            try clear hcz21_3
                            try clear hcz21_4
                            try clear hcz21_5
                            try clear hcz24_0
                            try clear hcz24_1
                            try clear hcz24_2
                            try clear hcz24_3
                            try clear hcz24_4
                            try clear hcz24_5
                            try clear hcz26_0
                            try clear hcz26_1
                            try clear hcz26_2
                            try clear hcz26_3
                            try clear hcz26_4
                            try clear hcz26_5
                            try clear lI
                            try clear lH
                            try clear lG
                            try clear lF
                            try clear hcz5_4
                            try clear hcz5_5
                            try clear hcz6_0
                            try clear hcz6_1
                            try clear hcz6_2
                            try clear hcz6_3
                            try clear hcz6_4
                            try clear hcz6_5
                            try clear jF
                            try clear jE
                            try clear jD
                            try clear jC
                            try clear hcz9_4
                            try clear hcz9_5
                            try clear kK
                            try clear kJ
                            try clear kI
                            try clear kG
                            try clear hfz11_4
                            try clear hfz11_5
                            try clear hfz15_0
                            try clear hfz15_1
                            try clear hfz15_2
                            try clear hfz15_3
                            try clear hfz15_4
                            try clear hfz15_5
                            try clear hfz16_0
                            try clear hfz16_1
                            try clear hfz16_2
                            try clear hfz16_3
                            try clear hfz16_4
                            try clear hfz16_5
                            try clear hfz19_0
                            try clear hfz19_1
                            try clear hfz19_2
                            try clear hfz19_3
                            try clear hfz19_4
                            try clear hfz19_5
                            try clear hfz21_0
                            try clear hfz21_1
                            try clear hfz21_2
                            try clear hfz21_3
                            try clear hfz21_4
                            try clear hfz21_5
                            try clear hfz24_0
                            try clear hfz24_1
                            try clear hfz24_2
                            try clear hfz24_3
                            try clear hfz24_4
                            try clear hfz24_5
                            try clear hfz26_0
                            try clear hfz26_1
                            try clear hfz26_2
                            try clear hfz26_3
                            try clear hfz26_4
                            try clear hfz26_5
                            try clear lD
                            try clear lC
                            try clear kz
                            try clear ky
                            try clear hfz5_4
                            try clear hfz5_5
                            try clear hfz6_0
                            try clear hfz6_1
                            try clear hfz6_2
                            try clear hfz6_3
                            try clear hfz6_4
                            try clear hfz6_5
                            try clear jB
                            try clear jA
                            try clear iy
                            try clear iw
                            try clear hfz9_4
                            try clear hfz9_5
                            try clear p2
                            obtain ⟨kq, x35_22, rfl, HA, HJ22, au, HB⟩ := hcut
                            cases kq with
                            | zero => exact absurd HA.out (by simp [bB.j4])
                            | succ kj22 =>
                              have H := HA.out
                              clear HA
                              simp only [bB.j4] at H
                              by_cases c27 : x35_22 = true
                              · subst c27
                                have H1 : (some 3) = some r := by rw [if_pos rfl] at H; exact H
                                clear H
                                have H := H1
                                clear H1
                                obtain rfl := Option.some.inj H
                                go_wp2
                                go_ret
                                exact ⟨by first | rfl | (simp [ag, af] <;> rfl) | (simp [*, ag, af] <;> rfl), by repeat (first | (with_reducible first | exact HB.out | apply aH | apply aG | apply aI | refine aN ?_ lT.out) | exact HB.out)⟩
                              · replace c27 := Bool.eq_false_iff.mpr c27
                                subst c27
                                have H1 : (if (bN.length : Int) = (wrap64 (bG * aU)) then ((kF.f aT aU bQ bG bN bI).bind fun t126 => (if (bI.length : Int) = t126 then (some 0) else (some 31))) else (some 31)) = some r := by rw [if_neg (show ¬ (false = true) by decide)] at H; exact H
                                clear H
                                have H := H1
                                clear H1
                                by_cases c28 : (bN.length : Int) = (wrap64 (bG * aU))
                                · rw [if_pos c28] at H
                                  have c28b0 : ((bN.length : Int) == (wrap64 (bG * aU))) = true := beq_iff_eq.mpr c28
                                  have c28b1 : ((bN.length : Int) != (wrap64 (bG * aU))) = false := bne_eq_false_iff_eq.mpr c28
                                  clear c28
                                  replace H := Option.bind_eq_some_iff.mp H
                                  obtain ⟨t126, A290, H⟩ := H
                                  replace H : (if (bI.length : Int) = t126 then (some 0) else (some 31)) = some r := H
                                  have A29 := aA.mk A290
                                  clear A290
                                  by_cases c30 : (bI.length : Int) = t126
                                  · rw [if_pos c30] at H
                                    have c30b0 : ((bI.length : Int) == t126) = true := beq_iff_eq.mpr c30
                                    have c30b1 : ((bI.length : Int) != t126) = false := bne_eq_false_iff_eq.mpr c30
                                    clear c30
                                    obtain rfl := Option.some.inj H
                                    have hcz31_0 : wc.cell? ⟨cZ, 0, none⟩ = some (.int .i64 aT) := (aD au.out 0).trans rfl
                                    have hcz31_1 : wc.cell? ⟨cZ, 1, none⟩ = some (.int .i64 aU) := (aD au.out 1).trans rfl
                                    have hcz31_2 : wc.cell? ⟨cZ, 2, none⟩ = some (.int .i64 bQ) := (aD au.out 2).trans rfl
                                    have hcz31_3 : wc.cell? ⟨cZ, 3, none⟩ = some (.int .i64 bG) := (aD au.out 3).trans rfl
                                    have hcz31_4 : wc.cell? ⟨cZ, 4, none⟩ = some (.slice eD bN.length eB) := (aD au.out 4).trans rfl
                                    have hcz31_5 : wc.cell? ⟨cZ, 5, none⟩ = some (.slice eH bI.length eG) := (aD au.out 5).trans rfl
                                    have hfz31_0 := aC au.out 0
                                    have hfz31_1 := aC au.out 1
                                    have hfz31_2 := aC au.out 2
                                    have hfz31_3 := aC au.out 3
                                    have hfz31_4 := aC au.out 4
                                    have hfz31_5 := aC au.out 5
                                    try go_wp2
                                    have n0_ := aA.mk (aQ au.out)
                                    have n1_ := aA.mk (aI HB.out)
                                    clear au
                                    clear HB
                                    have au := n0_
                                    have HB := n1_
                                    clear n0_ n1_
                                    refine l7 (n := 7) (S := fun w' => w'.cell? ⟨cZ, 0, none⟩ = some (.int .i64 aT) ∧ w'.cell? ⟨cZ, 1, none⟩ = some (.int .i64 aU) ∧ w'.cell? ⟨cZ, 2, none⟩ = some (.int .i64 bQ) ∧ w'.cell? ⟨cZ, 3, none⟩ = some (.int .i64 bG) ∧ w'.cell? ⟨cZ, 4, none⟩ = some (.slice eD bN.length eB) ∧ w'.cell? ⟨cZ, 5, none⟩ = some (.slice eH bI.length eG)) (ds := []) #[false, false, false, false, false, false, false] (by kernel_rfl) rfl rfl ⟨(aD au.out 0).trans rfl, (aD au.out 1).trans rfl, (aD au.out 2).trans rfl, (aD au.out 3).trans rfl, (aD au.out 4).trans rfl, (aD au.out 5).trans rfl⟩ (fun hHeld => ?_)
                                    generalize wc.drew = w32 at au HB hHeld ⊢
                                    refine bR (i := 0) (N := some 52) (v := ?_) (a' := ?_) #[true, false, false, false, false, false, false] rfl rfl (by kernel_rfl) (fun _ _ _ h => h) (Or.inl ⟨by rfl, ?_⟩) ?_ ?_
                                    rotate_left
                                    · intro w'
                                      go_simp
                                      with_reducible rfl
                                    rotate_left
                                    · simp only [Act.put, List.setIfInBounds_toArray, List.set_cons_zero, List.set_cons_succ, aj, av]
                                      rfl
                                    refine gD (i := 1) (N := some 53) (v := ?_) (a' := ?_) #[true, true, false, false, false, false, false] rfl rfl (by kernel_rfl) (fun _ _ _ h => h) (Or.inl ⟨by rfl, ?_⟩) hHeld ?_ ?_
                                    rotate_left
                                    · rintro w' ⟨s0, s1, s2, s3, s4, s5⟩
                                      go_simp
                                      with_reducible rfl
                                    rotate_left
                                    · simp only [Act.put, List.setIfInBounds_toArray, List.set_cons_zero, List.set_cons_succ, aj, av]
                                      rfl
                                    refine bR (i := 2) (N := some 54) (v := ?_) (a' := ?_) #[true, true, true, false, false, false, false] rfl rfl (by kernel_rfl) (fun _ _ _ h => h) (Or.inl ⟨by rfl, ?_⟩) ?_ ?_
                                    rotate_left
                                    · intro w'
                                      go_simp
                                      with_reducible rfl
                                    rotate_left
                                    · simp only [Act.put, List.setIfInBounds_toArray, List.set_cons_zero, List.set_cons_succ, aj, av]
                                      rfl
                                    refine gD (i := 3) (N := some 55) (v := ?_) (a' := ?_) #[true, true, true, true, false, false, false] rfl rfl (by kernel_rfl) (fun _ _ _ h => h) (Or.inl ⟨by rfl, ?_⟩) hHeld ?_ ?_
                                    rotate_left
                                    · rintro w' ⟨s0, s1, s2, s3, s4, s5⟩
                                      go_simp
                                      with_reducible rfl
                                    rotate_left
                                    · simp only [Act.put, List.setIfInBounds_toArray, List.set_cons_zero, List.set_cons_succ, aj, av]
                                      rfl
                                    refine one_ (i := 4) (N := some 56) #[true, true, true, true, true, false, false] rfl rfl (by kernel_rfl) (by decide) (fun K hK => ?_)
                                    refine goes_ Try.func87 (by kernel_rfl) rfl #[.agg #[.int .i64 aT, .int .i64 aU, .int .i64 bQ, .int .i64 bG, .slice eD bN.length eB, .slice eH bI.length eG]] (by rfl) rfl rfl (by (try simp only [List.map_toArray, List.map_cons, List.map_nil]); first | done | rfl | (simp only [List.length_drop, List.length_take]; rfl)) ?_
                                    with_reducible refine (kF.calls aT aU bQ bG _ _ bN _ _ bI t126 _ ?dB ?dA ?di ?dh A29.out).mono ?_
                                    (case dB => repeat (first | exact (Kd.aX HR0_4.out HB.out) | (with_reducible refine Kd.bE ?_ _) | (with_reducible refine Kd.bD ?_ _) | (with_reducible refine Kd.bS ?_)))
                                    (case dA => exact HC0_4.out)
                                    (case di => repeat (first | exact (Kd.aX HR0_5.out HB.out) | (with_reducible refine Kd.bE ?_ _) | (with_reducible refine Kd.bD ?_ _) | (with_reducible refine Kd.bS ?_)))
                                    (case dh => exact HC0_5.out)
                                    rintro e w33 ⟨rfl, hb⟩
                                    refine ⟨_, rfl, ?_⟩
                                    have n0_ := aA.mk (bH (g := cZ) (o := .cells #[.int .i64 aT, .int .i64 aU, .int .i64 bQ, .int .i64 bG, .slice eD bN.length eB, .slice eH bI.length eG] 50 (0, 0)) (by (with_reducible repeat (first | refine aM ?_ _ | refine aQ ?_ | refine aJ ?_ _)); exact au.out) hb)
                                    have n1_ := aA.mk (aW (by repeat (first | (with_reducible first | exact HB.out | apply aH | apply aG | apply aI | refine aN ?_ lT.out) | exact HB.out)) hb)
                                    clear au
                                    clear HB
                                    have au := n0_
                                    have HB := n1_
                                    clear n0_ n1_
                                    (try clear hb)
                                    (try clear hb2)
                                    (try clear hk)
                                    (try clear hi)
                                    refine hK.out _ _ ⟨(aD au.out 0).trans rfl, (aD au.out 1).trans rfl, (aD au.out 2).trans rfl, (aD au.out 3).trans rfl, (aD au.out 4).trans rfl, (aD au.out 5).trans rfl⟩ (fun hHeld => ?_)
                                    clear hK K
                                    refine gB (a' := ?_) ?_ ?_
                                    rotate_left
                                    · show Act.put _ (some 56) _ = _
                                      simp only [Act.put, List.setIfInBounds_toArray, List.set_cons_zero, List.set_cons_succ, aj, av]
                                      rfl
                                    refine bR (i := 5) (N := some 57) (v := ?_) (a' := ?_) #[true, true, true, true, true, true, false] rfl rfl (by kernel_rfl) (fun _ _ _ h => h) (Or.inl ⟨by rfl, ?_⟩) ?_ ?_
                                    rotate_left
                                    · intro w'
                                      go_simp
                                      with_reducible rfl
                                    rotate_left
                                    · simp only [Act.put, List.setIfInBounds_toArray, List.set_cons_zero, List.set_cons_succ, aj, av]
                                      rfl
                                    refine bR (i := 6) (N := some 42) (v := ?_) (a' := ?_) #[true, true, true, true, true, true, true] rfl rfl (by kernel_rfl) (fun _ _ _ h => h) (Or.inl ⟨by rfl, ?_⟩) ?_ ?_
                                    rotate_left
                                    · intro w'
                                      go_simp
                                      with_reducible rfl
                                    rotate_left
                                    · simp only [Act.put, List.setIfInBounds_toArray, List.set_cons_zero, List.set_cons_succ, aj, av]
                                      rfl
                                    refine done_ (by kernel_rfl) ?_
                                    try go_wp2
                                    go_ret
                                    exact ⟨by first | rfl | (simp [ag, af] <;> rfl) | (simp [*, ag, af] <;> rfl), by repeat (first | (with_reducible first | exact HB.out | apply aH | apply aG | apply aI | refine aN ?_ lT.out) | exact HB.out)⟩
                                  · rw [if_neg c30] at H
                                    have c30b0 : ((bI.length : Int) == t126) = false := beq_eq_false_iff_ne.mpr c30
                                    have c30b1 : ((bI.length : Int) != t126) = true := bne_iff_ne.mpr c30
                                    obtain rfl := Option.some.inj H
                                    have hcz34_0 : wc.cell? ⟨cZ, 0, none⟩ = some (.int .i64 aT) := (aD au.out 0).trans rfl
                                    have hcz34_1 : wc.cell? ⟨cZ, 1, none⟩ = some (.int .i64 aU) := (aD au.out 1).trans rfl
                                    have hcz34_2 : wc.cell? ⟨cZ, 2, none⟩ = some (.int .i64 bQ) := (aD au.out 2).trans rfl
                                    have hcz34_3 : wc.cell? ⟨cZ, 3, none⟩ = some (.int .i64 bG) := (aD au.out 3).trans rfl
                                    have hcz34_4 : wc.cell? ⟨cZ, 4, none⟩ = some (.slice eD bN.length eB) := (aD au.out 4).trans rfl
                                    have hcz34_5 : wc.cell? ⟨cZ, 5, none⟩ = some (.slice eH bI.length eG) := (aD au.out 5).trans rfl
                                    have hfz34_0 := aC au.out 0
                                    have hfz34_1 := aC au.out 1
                                    have hfz34_2 := aC au.out 2
                                    have hfz34_3 := aC au.out 3
                                    have hfz34_4 := aC au.out 4
                                    have hfz34_5 := aC au.out 5
                                    try go_wp2
                                    have n0_ := aA.mk (aQ au.out)
                                    have n1_ := aA.mk (aI HB.out)
                                    clear au
                                    clear HB
                                    have au := n0_
                                    have HB := n1_
                                    clear n0_ n1_
                                    refine l7 (n := 7) (S := fun w' => w'.cell? ⟨cZ, 0, none⟩ = some (.int .i64 aT) ∧ w'.cell? ⟨cZ, 1, none⟩ = some (.int .i64 aU) ∧ w'.cell? ⟨cZ, 2, none⟩ = some (.int .i64 bQ) ∧ w'.cell? ⟨cZ, 3, none⟩ = some (.int .i64 bG) ∧ w'.cell? ⟨cZ, 4, none⟩ = some (.slice eD bN.length eB) ∧ w'.cell? ⟨cZ, 5, none⟩ = some (.slice eH bI.length eG)) (ds := []) #[false, false, false, false, false, false, false] (by kernel_rfl) rfl rfl ⟨(aD au.out 0).trans rfl, (aD au.out 1).trans rfl, (aD au.out 2).trans rfl, (aD au.out 3).trans rfl, (aD au.out 4).trans rfl, (aD au.out 5).trans rfl⟩ (fun hHeld => ?_)
                                    generalize wc.drew = w35 at au HB hHeld ⊢
                                    refine bR (i := 0) (N := some 52) (v := ?_) (a' := ?_) #[true, false, false, false, false, false, false] rfl rfl (by kernel_rfl) (fun _ _ _ h => h) (Or.inl ⟨by rfl, ?_⟩) ?_ ?_
                                    rotate_left
                                    · intro w'
                                      go_simp
                                      with_reducible rfl
                                    rotate_left
                                    · simp only [Act.put, List.setIfInBounds_toArray, List.set_cons_zero, List.set_cons_succ, aj, av]
                                      rfl
                                    refine gD (i := 1) (N := some 53) (v := ?_) (a' := ?_) #[true, true, false, false, false, false, false] rfl rfl (by kernel_rfl) (fun _ _ _ h => h) (Or.inl ⟨by rfl, ?_⟩) hHeld ?_ ?_
                                    rotate_left
                                    · rintro w' ⟨s0, s1, s2, s3, s4, s5⟩
                                      go_simp
                                      with_reducible rfl
                                    rotate_left
                                    · simp only [Act.put, List.setIfInBounds_toArray, List.set_cons_zero, List.set_cons_succ, aj, av]
                                      rfl
                                    refine bR (i := 2) (N := some 54) (v := ?_) (a' := ?_) #[true, true, true, false, false, false, false] rfl rfl (by kernel_rfl) (fun _ _ _ h => h) (Or.inl ⟨by rfl, ?_⟩) ?_ ?_
                                    rotate_left
                                    · intro w'
                                      go_simp
                                      with_reducible rfl
                                    rotate_left
                                    · simp only [Act.put, List.setIfInBounds_toArray, List.set_cons_zero, List.set_cons_succ, aj, av]
                                      rfl
                                    refine gD (i := 3) (N := some 55) (v := ?_) (a' := ?_) #[true, true, true, true, false, false, false] rfl rfl (by kernel_rfl) (fun _ _ _ h => h) (Or.inl ⟨by rfl, ?_⟩) hHeld ?_ ?_
                                    rotate_left
                                    · rintro w' ⟨s0, s1, s2, s3, s4, s5⟩
                                      go_simp
                                      with_reducible rfl
                                    rotate_left
                                    · simp only [Act.put, List.setIfInBounds_toArray, List.set_cons_zero, List.set_cons_succ, aj, av]
                                      rfl
                                    refine one_ (i := 4) (N := some 56) #[true, true, true, true, true, false, false] rfl rfl (by kernel_rfl) (by decide) (fun K hK => ?_)
                                    refine goes_ Try.func87 (by kernel_rfl) rfl #[.agg #[.int .i64 aT, .int .i64 aU, .int .i64 bQ, .int .i64 bG, .slice eD bN.length eB, .slice eH bI.length eG]] (by rfl) rfl rfl (by (try simp only [List.map_toArray, List.map_cons, List.map_nil]); first | done | rfl | (simp only [List.length_drop, List.length_take]; rfl)) ?_
                                    with_reducible refine (kF.calls aT aU bQ bG _ _ bN _ _ bI t126 _ ?dB ?dA ?di ?dh A29.out).mono ?_
                                    (case dB => repeat (first | exact (Kd.aX HR0_4.out HB.out) | (with_reducible refine Kd.bE ?_ _) | (with_reducible refine Kd.bD ?_ _) | (with_reducible refine Kd.bS ?_)))
                                    (case dA => exact HC0_4.out)
                                    (case di => repeat (first | exact (Kd.aX HR0_5.out HB.out) | (with_reducible refine Kd.bE ?_ _) | (with_reducible refine Kd.bD ?_ _) | (with_reducible refine Kd.bS ?_)))
                                    (case dh => exact HC0_5.out)
                                    rintro e w36 ⟨rfl, hb⟩
                                    refine ⟨_, rfl, ?_⟩
                                    have n0_ := aA.mk (bH (g := cZ) (o := .cells #[.int .i64 aT, .int .i64 aU, .int .i64 bQ, .int .i64 bG, .slice eD bN.length eB, .slice eH bI.length eG] 50 (0, 0)) (by (with_reducible repeat (first | refine aM ?_ _ | refine aQ ?_ | refine aJ ?_ _)); exact au.out) hb)
                                    have n1_ := aA.mk (aW (by repeat (first | (with_reducible first | exact HB.out | apply aH | apply aG | apply aI | refine aN ?_ lT.out) | exact HB.out)) hb)
                                    clear au
                                    clear HB
                                    have au := n0_
                                    have HB := n1_
                                    clear n0_ n1_
                                    (try clear hb)
                                    (try clear hb2)
                                    (try clear hk)
                                    (try clear hi)
                                    refine hK.out _ _ ⟨(aD au.out 0).trans rfl, (aD au.out 1).trans rfl, (aD au.out 2).trans rfl, (aD au.out 3).trans rfl, (aD au.out 4).trans rfl, (aD au.out 5).trans rfl⟩ (fun hHeld => ?_)
                                    clear hK K
                                    refine gB (a' := ?_) ?_ ?_
                                    rotate_left
                                    · show Act.put _ (some 56) _ = _
                                      simp only [Act.put, List.setIfInBounds_toArray, List.set_cons_zero, List.set_cons_succ, aj, av]
                                      rfl
                                    refine bR (i := 5) (N := some 57) (v := ?_) (a' := ?_) #[true, true, true, true, true, true, false] rfl rfl (by kernel_rfl) (fun _ _ _ h => h) (Or.inl ⟨by rfl, ?_⟩) ?_ ?_
                                    rotate_left
                                    · intro w'
                                      go_simp
                                      with_reducible rfl
                                    rotate_left
                                    · simp only [Act.put, List.setIfInBounds_toArray, List.set_cons_zero, List.set_cons_succ, aj, av]
                                      rfl
                                    refine bR (i := 6) (N := some 42) (v := ?_) (a' := ?_) #[true, true, true, true, true, true, true] rfl rfl (by kernel_rfl) (fun _ _ _ h => h) (Or.inl ⟨by rfl, ?_⟩) ?_ ?_
                                    rotate_left
                                    · intro w'
                                      go_simp
                                      with_reducible rfl
                                    rotate_left
                                    · simp only [Act.put, List.setIfInBounds_toArray, List.set_cons_zero, List.set_cons_succ, aj, av]
                                      rfl
                                    refine done_ (by kernel_rfl) ?_
                                    try go_wp2
                                    go_ret
                                    exact ⟨by first | rfl | (simp [ag, af] <;> rfl) | (simp [*, ag, af] <;> rfl), by repeat (first | (with_reducible first | exact HB.out | apply aH | apply aG | apply aI | refine aN ?_ lT.out) | exact HB.out)⟩
                                · rw [if_neg c28] at H
                                  have c28b0 : ((bN.length : Int) == (wrap64 (bG * aU))) = false := beq_eq_false_iff_ne.mpr c28
                                  have c28b1 : ((bN.length : Int) != (wrap64 (bG * aU))) = true := bne_iff_ne.mpr c28
                                  obtain rfl := Option.some.inj H
                                  have hcz37_0 : wc.cell? ⟨cZ, 0, none⟩ = some (.int .i64 aT) := (aD au.out 0).trans rfl
                                  have hcz37_1 : wc.cell? ⟨cZ, 1, none⟩ = some (.int .i64 aU) := (aD au.out 1).trans rfl
                                  have hcz37_2 : wc.cell? ⟨cZ, 2, none⟩ = some (.int .i64 bQ) := (aD au.out 2).trans rfl
                                  have hcz37_3 : wc.cell? ⟨cZ, 3, none⟩ = some (.int .i64 bG) := (aD au.out 3).trans rfl
                                  have hcz37_4 : wc.cell? ⟨cZ, 4, none⟩ = some (.slice eD bN.length eB) := (aD au.out 4).trans rfl
                                  have hcz37_5 : wc.cell? ⟨cZ, 5, none⟩ = some (.slice eH bI.length eG) := (aD au.out 5).trans rfl
                                  have hfz37_0 := aC au.out 0
                                  have hfz37_1 := aC au.out 1
                                  have hfz37_2 := aC au.out 2
                                  have hfz37_3 := aC au.out 3
                                  have hfz37_4 := aC au.out 4
                                  have hfz37_5 := aC au.out 5
                                  go_wp2
                                  go_ret
                                  exact ⟨by first | rfl | (simp [ag, af] <;> rfl) | (simp [*, ag, af] <;> rfl), by repeat (first | (with_reducible first | exact HB.out | apply aH | apply aG | apply aI | refine aN ?_ lT.out) | exact HB.out)⟩
end Go.Proofs.Ytocejofjmmoeaaa.X
end

section
namespace Go.Proofs.Ytocejofjmmoeaaa.X
open Go.RowKit Go.Proofs.YtocejofjmmoeaaaW.PrintWords Go.Proofs.YtocejofjmmoeaaaW.PrintLast Go.Proofs.YtocejofjmmoeaaaW.PrintMore
attribute [local go_sem] eZ eu fV fU eP eO fF fE   -- for this text's walks alone
set_option linter.unusedVariables false
set_option linter.unusedSimpArgs false
def dG.l0 : Nat → List Int → Int → Int → Int → Option (Int)
  | 0, _, _, _, _ => none
  | k + 1, x0, x1, x7, x8 => if x8 < x7 then (if 0 ≤ x8 then (if x8 < (x0.length : Int) then (if (IntKind.u64.wrap (rd x0 x8)) ≥ (IntKind.u64.wrap (x1)) then (some x8) else (dG.l0 k x0 x1 x7 (wrap64 (x8 + 1)))) else (none)) else (none)) else (some (-1))
def dG.f (k : Nat) (l0 : List Int) (a1 : Int) : Option (Int) := dG.l0 k l0 a1 (l0.length : Int) 0
set_option maxHeartbeats 8000000 in
set_option maxRecDepth 100000 in
theorem dG.calls (k : Nat) (A0 : Option Addr) (c0 : Nat) (l0 : List Int) (a1 : Int) (r : Int) (w : World) (hr0 : Kd.C (Kd.int .i64) w A0 l0.length l0) (hc0 : l0.length ≤ c0) (h : dG.f k l0 a1 = some r) :
    Calls Try.prog 71 #[.slice A0 l0.length c0, .int .i64 a1] w fun e w' => e = .returned (.int .i64 r) ∧ az w w' := by
  have HR0 := aA.mk hr0
  have HC0 := aA.mk hc0
  clear hr0 hc0
  have H : (dG.l0 k l0 a1 (l0.length : Int) 0) = some r := h
  clear h
  have H' := aA.mk H
  clear H
  go_enter Try.func71, Try.ntmps71
  go_wp2
  go_loopg [8] k (fun kq v8 w' => ∃ (fq : Int), v8 = .int .i64 fq ∧ aA (dG.l0 kq l0 a1 (l0.length : Int) fq = some r) ∧ aA (kq ≤ k) ∧ az w w')
  case atStart => exact ⟨(0), (by first | rfl | (simp; done) | (simp [*]; done)), H', ⟨Nat.le_refl _⟩, by repeat (first | exact az.refl _ | apply az.step)⟩
  case round =>
    clear H'
    try clear p2
    obtain ⟨fq, rfl, HA, HK1, ⟨m1, rfl⟩⟩ := hrel
    cases gk with
    | zero => exact absurd HA.out (by simp [dG.l0])
    | succ k1 =>
      have H := HA.out
      clear HA
      simp only [dG.l0] at H
      by_cases c3 : fq < (l0.length : Int)
      · rw [if_pos c3] at H
        have c3b0 : decide (fq < (l0.length : Int)) = true := decide_eq_true c3
        clear c3
        by_cases c4 : 0 ≤ fq
        · rw [if_pos c4] at H
          have gz : decide (0 ≤ fq) = true := decide_eq_true c4
          clear c4
          by_cases c5 : fq < (l0.length : Int)
          · rw [if_pos c5] at H
            have c5b0 : decide (fq < (l0.length : Int)) = true := decide_eq_true c5
            clear c5
            by_cases c6 : (IntKind.u64.wrap (rd l0 fq)) ≥ (IntKind.u64.wrap (a1))
            · rw [if_pos c6] at H
              have c6b0 : decide ((IntKind.u64.wrap (a1)) ≤ (IntKind.u64.wrap (rd l0 fq))) = true := decide_eq_true c6
              clear c6
              obtain rfl := Option.some.inj H
              have p127 : 0 ≤ (fq : Int) := of_decide_eq_true (by first | (with_reducible assumption) | assumption)
              have q127 : fq < (l0.length : Int) := of_decide_eq_true (by first | (with_reducible assumption) | assumption)
              obtain ⟨ad127, e127, hx127_0⟩ := Kd.dN HR0.out fq p127 q127
              cases e127
              replace p127 := eq_true p127
              replace q127 := eq_true q127
              go_wp2
              go_ret
              exact ⟨by first | rfl | (simp; done) | (simp [*]; done), by repeat (first | exact az.refl _ | apply az.step)⟩
            · rw [if_neg c6] at H
              have c6b0 : decide ((IntKind.u64.wrap (a1)) ≤ (IntKind.u64.wrap (rd l0 fq))) = false := decide_eq_false c6
              clear c6
              have H' := aA.mk H
              clear H
              have p127 : 0 ≤ (fq : Int) := of_decide_eq_true (by first | (with_reducible assumption) | assumption)
              have q127 : fq < (l0.length : Int) := of_decide_eq_true (by first | (with_reducible assumption) | assumption)
              obtain ⟨ad127, e127, hx127_0⟩ := Kd.dN HR0.out fq p127 q127
              cases e127
              replace p127 := eq_true p127
              replace q127 := eq_true q127
              go_wp2
              go_roundg k1
              case measure => have := HK1.out; omega
              case rel => exact ⟨(wrap64 (fq + 1)), (by first | rfl | (simp; done) | (simp [*]; done)), H', ⟨by have := HK1.out; omega⟩, by repeat (first | exact az.refl _ | apply az.step)⟩
          · rw [if_neg c5] at H
            exact absurd H (by simp)
        · rw [if_neg c4] at H
          exact absurd H (by simp)
      · rw [if_neg c3] at H
        have c3b0 : decide (fq < (l0.length : Int)) = false := decide_eq_false c3
        clear c3
        obtain rfl := Option.some.inj H
        go_wp2
        go_ret
        exact ⟨by first | rfl | (simp; done) | (simp [*]; done), by repeat (first | exact az.refl _ | apply az.step)⟩
end Go.Proofs.Ytocejofjmmoeaaa.X
end

section
namespace Go.Proofs.Ytocejofjmmoeaaa.X
open Go.RowKit Go.Proofs.YtocejofjmmoeaaaW.PrintWords Go.Proofs.YtocejofjmmoeaaaW.PrintLast Go.Proofs.YtocejofjmmoeaaaW.PrintMore
attribute [local go_sem] eZ eu fV fU eP eO fF fE   -- for this text's walks alone
set_option linter.unusedVariables false
set_option linter.unusedSimpArgs false
def jY.f (k : Nat) (aT : Int) (aU : Int) (bQ : Int) (bG : Int) (bN : List Int) (bI : List Int) : Option (Int × Int) := (bB.f k aT aU bQ bG bN bI).bind fun t129 => (if t129 = 0 then ((dG.f k bN bG).bind fun t130 => (if t130 ≥ 0 then (some (t130, 32)) else ((dG.f k bI bQ).bind fun t131 => (if t131 ≥ 0 then (some (t131, 33)) else (some (0, 0)))))) else (some (0, t129)))
set_option maxHeartbeats 8000000 in
set_option maxRecDepth 100000 in
theorem jY.calls (k : Nat) (aT : Int) (aU : Int) (bQ : Int) (bG : Int) (eD : Option Addr) (eB : Nat) (bN : List Int) (eH : Option Addr) (eG : Nat) (bI : List Int) (r1 : Int) (r2 : Int) (w : World) (hr0_4 : Kd.C (Kd.int .i64) w eD bN.length bN) (hc0_4 : bN.length ≤ eB) (hr0_5 : Kd.C (Kd.int .i64) w eH bI.length bI) (hc0_5 : bI.length ≤ eG) (h : jY.f k aT aU bQ bG bN bI = some (r1, r2)) :
    Calls Try.prog 52 #[.agg #[.int .i64 aT, .int .i64 aU, .int .i64 bQ, .int .i64 bG, .slice eD bN.length eB, .slice eH bI.length eG]] w fun e w' => e = .returned (.tuple #[.int .i64 r1, .int .i64 r2]) ∧ Below w.heap.size w w' := by
  have hu50 := Try.underlying50
  have HR0_4 := aA.mk hr0_4
  have HC0_4 := aA.mk hc0_4
  clear hr0_4 hc0_4
  have HR0_5 := aA.mk hr0_5
  have HC0_5 := aA.mk hc0_5
  clear hr0_5 hc0_5
  have HB := aA.mk (Below.refl w.heap.size w)
  have H : ((bB.f k aT aU bQ bG bN bI).bind fun t129 => (if t129 = 0 then ((dG.f k bN bG).bind fun t130 => (if t130 ≥ 0 then (some (t130, 32)) else ((dG.f k bI bQ).bind fun t131 => (if t131 ≥ 0 then (some (t131, 33)) else (some (0, 0)))))) else (some (0, t129)))) = some (r1, r2) := h
  clear h
  replace H := Option.bind_eq_some_iff.mp H
  obtain ⟨t129, A20, H⟩ := H
  replace H : (if t129 = 0 then ((dG.f k bN bG).bind fun t130 => (if t130 ≥ 0 then (some (t130, 32)) else ((dG.f k bI bQ).bind fun t131 => (if t131 ≥ 0 then (some (t131, 33)) else (some (0, 0)))))) else (some (0, t129))) = some (r1, r2) := H
  have A2 := aA.mk A20
  clear A20
  by_cases c3 : t129 = 0
  · rw [if_pos c3] at H
    have c3b0 : (t129 == 0) = true := beq_iff_eq.mpr c3
    have c3b1 : (t129 != 0) = false := bne_eq_false_iff_eq.mpr c3
    clear c3
    replace H := Option.bind_eq_some_iff.mp H
    obtain ⟨t130, A40, H⟩ := H
    replace H : (if t130 ≥ 0 then (some (t130, 32)) else ((dG.f k bI bQ).bind fun t131 => (if t131 ≥ 0 then (some (t131, 33)) else (some (0, 0))))) = some (r1, r2) := H
    have A4 := aA.mk A40
    clear A40
    by_cases c5 : t130 ≥ 0
    · rw [if_pos c5] at H
      have c5b0 : decide (0 ≤ t130) = true := decide_eq_true c5
      clear c5
      simp only [Option.some.injEq, Prod.mk.injEq] at H
      obtain ⟨rfl, rfl⟩ := H
      go_enter Try.func52, Try.ntmps52
      go_wp2_with (first | ((with_reducible refine bT (N := 1) rfl ?_); refine dD ?hg (N := 1) ?hd (cs := #[.int .i64 aT, .int .i64 aU, .int .i64 bQ, .int .i64 bG, .slice eD bN.length eB, .slice eH bI.length eG]) (t := 50) ?hr ?_; (case hd => rfl); (case hg => rfl); (case hr => first | (go_simp; done) | (go_simp; rfl)); intro ed hg w6 hbox hb; have n0_ := aA.mk (aW (by repeat (first | (with_reducible first | exact HB.out | apply aH | apply aG | apply aI) | exact HB.out)) hb); have n1_ := aA.mk (hbox); have n2_ := aA.mk ((by rw [hg]; exact (aY (by repeat (first | (with_reducible first | exact HB.out | apply aH | apply aG | apply aI) | exact HB.out))) : w.heap.size ≤ ed)); have n3_ := aA.mk ((by rw [hg]; exact (aY (by repeat (first | (with_reducible first | exact HB.out | apply aH | apply aG | apply aI) | exact HB.out))) : w.heap.size ≤ ed)); clear HB; have HB := n0_; have cu := n1_; have GW128 := n2_; have GE128 := n3_; clear n0_ n1_ n2_ n3_; clear hb hbox hg; have hcz7_0 : w6.cell? ⟨ed, 0, none⟩ = some (.int .i64 aT) := (aD cu.out 0).trans rfl; have hcz7_1 : w6.cell? ⟨ed, 1, none⟩ = some (.int .i64 aU) := (aD cu.out 1).trans rfl; have hcz7_2 : w6.cell? ⟨ed, 2, none⟩ = some (.int .i64 bQ) := (aD cu.out 2).trans rfl; have hcz7_3 : w6.cell? ⟨ed, 3, none⟩ = some (.int .i64 bG) := (aD cu.out 3).trans rfl; have hcz7_4 : w6.cell? ⟨ed, 4, none⟩ = some (.slice eD bN.length eB) := (aD cu.out 4).trans rfl; have hcz7_5 : w6.cell? ⟨ed, 5, none⟩ = some (.slice eH bI.length eG) := (aD cu.out 5).trans rfl; have hfz7_0 := aC cu.out 0; have hfz7_1 := aC cu.out 1; have hfz7_2 := aC cu.out 2; have hfz7_3 := aC cu.out 3; have hfz7_4 := aC cu.out 4; have hfz7_5 := aC cu.out 5) | ((with_reducible refine bC (f := 70) rfl ?_); refine dV (some 8) rfl rfl Try.func70 (by kernel_rfl) rfl #[.agg #[.int .i64 aT, .int .i64 aU, .int .i64 bQ, .int .i64 bG, .slice eD bN.length eB, .slice eH bI.length eG]] rfl (by (try simp only [List.map_toArray, List.map_cons, List.map_nil]); first | done | rfl | (simp only [List.length_drop, List.length_take]; rfl)) ?_; (with_reducible refine (bB.calls k aT aU bQ bG _ _ bN _ _ bI t129 _ ?dB ?dA ?di ?dh A2.out).mono ?_); (case dB => repeat (first | exact (Kd.aX HR0_4.out HB.out) | (with_reducible refine Kd.bE ?_ _) | (with_reducible refine Kd.bD ?_ _) | (with_reducible refine Kd.bS ?_))); (case dA => exact HC0_4.out); (case di => repeat (first | exact (Kd.aX HR0_5.out HB.out) | (with_reducible refine Kd.bE ?_ _) | (with_reducible refine Kd.bD ?_ _) | (with_reducible refine Kd.bS ?_))); (case dh => exact HC0_5.out); rintro e w8 ⟨rfl, hb⟩; refine ⟨_, rfl, ?_⟩; have n0_ := aA.mk (bH (g := ed) (o := .cells #[.int .i64 aT, .int .i64 aU, .int .i64 bQ, .int .i64 bG, .slice eD bN.length eB, .slice eH bI.length eG] 50 (0, 0)) (by (with_reducible repeat (first | refine aM ?_ _ | refine aQ ?_ | refine aJ ?_ _)); exact cu.out) hb); have n1_ := aA.mk (aW (by repeat (first | (with_reducible first | exact HB.out | apply aH | apply aG | apply aI | refine aN ?_ GE128.out) | exact HB.out)) hb); clear cu; clear HB; have cu := n0_; have HB := n1_; clear n0_ n1_; (try clear hb); (try clear hb2); (try clear hk); (try clear hi); have jF : w8.cell? ⟨ed, 0, none⟩ = some (.int .i64 aT) := (aD cu.out 0).trans rfl; have jE : w8.cell? ⟨ed, 1, none⟩ = some (.int .i64 aU) := (aD cu.out 1).trans rfl; have jD : w8.cell? ⟨ed, 2, none⟩ = some (.int .i64 bQ) := (aD cu.out 2).trans rfl; have jC : w8.cell? ⟨ed, 3, none⟩ = some (.int .i64 bG) := (aD cu.out 3).trans rfl; have hcz9_4 : w8.cell? ⟨ed, 4, none⟩ = some (.slice eD bN.length eB) := (aD cu.out 4).trans rfl; have hcz9_5 : w8.cell? ⟨ed, 5, none⟩ = some (.slice eH bI.length eG) := (aD cu.out 5).trans rfl; have jB := aC cu.out 0; have jA := aC cu.out 1; have iy := aC cu.out 2; have iw := aC cu.out 3; have hfz9_4 := aC cu.out 4; have hfz9_5 := aC cu.out 5) | ((with_reducible refine bC (f := 71) rfl ?_); refine dV (some 16) rfl rfl Try.func71 (by kernel_rfl) rfl #[.slice eD bN.length eB, .int .i64 bG] rfl (by (try simp only [List.map_toArray, List.map_cons, List.map_nil]); first | done | rfl | (simp only [List.length_drop, List.length_take]; rfl)) ?_; (with_reducible refine (dG.calls k _ _ bN bG t130 _ ?dB ?dA A4.out).mono ?_); (case dB => repeat (first | exact (Kd.aX HR0_4.out HB.out) | (with_reducible refine Kd.bE ?_ _) | (with_reducible refine Kd.bD ?_ _) | (with_reducible refine Kd.bS ?_))); (case dA => exact HC0_4.out); rintro e w' ⟨rfl, ⟨nd, rfl⟩⟩; refine ⟨_, rfl, ?_⟩))
      go_ret2
      exact ⟨by first | rfl | (simp [ag, af] <;> rfl) | (simp [*, ag, af] <;> rfl), by repeat (first | (with_reducible first | exact HB.out | apply aH | apply aG | apply aI | refine aN ?_ GE128.out) | exact HB.out)⟩
    · rw [if_neg c5] at H
      have c5b0 : decide (0 ≤ t130) = false := decide_eq_false c5
      clear c5
      replace H := Option.bind_eq_some_iff.mp H
      obtain ⟨t131, A100, H⟩ := H
      replace H : (if t131 ≥ 0 then (some (t131, 33)) else (some (0, 0))) = some (r1, r2) := H
      have A10 := aA.mk A100
      clear A100
      by_cases c11 : t131 ≥ 0
      · rw [if_pos c11] at H
        have c11b0 : decide (0 ≤ t131) = true := decide_eq_true c11
        clear c11
        simp only [Option.some.injEq, Prod.mk.injEq] at H
        obtain ⟨rfl, rfl⟩ := H
        go_enter Try.func52, Try.ntmps52
        go_wp2_with (first | ((with_reducible refine bT (N := 1) rfl ?_); refine dD ?hg (N := 1) ?hd (cs := #[.int .i64 aT, .int .i64 aU, .int .i64 bQ, .int .i64 bG, .slice eD bN.length eB, .slice eH bI.length eG]) (t := 50) ?hr ?_; (case hd => rfl); (case hg => rfl); (case hr => first | (go_simp; done) | (go_simp; rfl)); intro ed hg w12 hbox hb; have n0_ := aA.mk (aW (by repeat (first | (with_reducible first | exact HB.out | apply aH | apply aG | apply aI) | exact HB.out)) hb); have n1_ := aA.mk (hbox); have n2_ := aA.mk ((by rw [hg]; exact (aY (by repeat (first | (with_reducible first | exact HB.out | apply aH | apply aG | apply aI) | exact HB.out))) : w.heap.size ≤ ed)); have n3_ := aA.mk ((by rw [hg]; exact (aY (by repeat (first | (with_reducible first | exact HB.out | apply aH | apply aG | apply aI) | exact HB.out))) : w.heap.size ≤ ed)); clear HB; have HB := n0_; have cu := n1_; have GW128 := n2_; have GE128 := n3_; clear n0_ n1_ n2_ n3_; clear hb hbox hg; have hcz13_0 : w12.cell? ⟨ed, 0, none⟩ = some (.int .i64 aT) := (aD cu.out 0).trans rfl; have hcz13_1 : w12.cell? ⟨ed, 1, none⟩ = some (.int .i64 aU) := (aD cu.out 1).trans rfl; have hcz13_2 : w12.cell? ⟨ed, 2, none⟩ = some (.int .i64 bQ) := (aD cu.out 2).trans rfl; have hcz13_3 : w12.cell? ⟨ed, 3, none⟩ = some (.int .i64 bG) := (aD cu.out 3).trans rfl; have hcz13_4 : w12.cell? ⟨ed, 4, none⟩ = some (.slice eD bN.length eB) := (aD cu.out 4).trans rfl; have hcz13_5 : w12.cell? ⟨ed, 5, none⟩ = some (.slice eH bI.length eG) := (aD cu.out 5).trans rfl; have hfz13_0 := aC cu.out 0; have hfz13_1 := aC cu.out 1; have hfz13_2 := aC cu.out 2; have hfz13_3 := aC cu.out 3; have hfz13_4 := aC cu.out 4; have hfz13_5 := aC cu.out 5) | ((with_reducible refine bC (f := 70) rfl ?_); refine dV (some 8) rfl rfl Try.func70 (by kernel_rfl) rfl #[.agg #[.int .i64 aT, .int .i64 aU, .int .i64 bQ, .int .i64 bG, .slice eD bN.length eB, .slice eH bI.length eG]] rfl (by (try simp only [List.map_toArray, List.map_cons, List.map_nil]); first | done | rfl | (simp only [List.length_drop, List.length_take]; rfl)) ?_; (with_reducible refine (bB.calls k aT aU bQ bG _ _ bN _ _ bI t129 _ ?dB ?dA ?di ?dh A2.out).mono ?_); (case dB => repeat (first | exact (Kd.aX HR0_4.out HB.out) | (with_reducible refine Kd.bE ?_ _) | (with_reducible refine Kd.bD ?_ _) | (with_reducible refine Kd.bS ?_))); (case dA => exact HC0_4.out); (case di => repeat (first | exact (Kd.aX HR0_5.out HB.out) | (with_reducible refine Kd.bE ?_ _) | (with_reducible refine Kd.bD ?_ _) | (with_reducible refine Kd.bS ?_))); (case dh => exact HC0_5.out); rintro e w14 ⟨rfl, hb⟩; refine ⟨_, rfl, ?_⟩; have n0_ := aA.mk (bH (g := ed) (o := .cells #[.int .i64 aT, .int .i64 aU, .int .i64 bQ, .int .i64 bG, .slice eD bN.length eB, .slice eH bI.length eG] 50 (0, 0)) (by (with_reducible repeat (first | refine aM ?_ _ | refine aQ ?_ | refine aJ ?_ _)); exact cu.out) hb); have n1_ := aA.mk (aW (by repeat (first | (with_reducible first | exact HB.out | apply aH | apply aG | apply aI | refine aN ?_ GE128.out) | exact HB.out)) hb); clear cu; clear HB; have cu := n0_; have HB := n1_; clear n0_ n1_; (try clear hb); (try clear hb2); (try clear hk); (try clear hi); have hcz15_0 : w14.cell? ⟨ed, 0, none⟩ = some (.int .i64 aT) := (aD cu.out 0).trans rfl; have hcz15_1 : w14.cell? ⟨ed, 1, none⟩ = some (.int .i64 aU) := (aD cu.out 1).trans rfl; have hcz15_2 : w14.cell? ⟨ed, 2, none⟩ = some (.int .i64 bQ) := (aD cu.out 2).trans rfl; have hcz15_3 : w14.cell? ⟨ed, 3, none⟩ = some (.int .i64 bG) := (aD cu.out 3).trans rfl; have hcz15_4 : w14.cell? ⟨ed, 4, none⟩ = some (.slice eD bN.length eB) := (aD cu.out 4).trans rfl; have hcz15_5 : w14.cell? ⟨ed, 5, none⟩ = some (.slice eH bI.length eG) := (aD cu.out 5).trans rfl; have hfz15_0 := aC cu.out 0; have hfz15_1 := aC cu.out 1; have hfz15_2 := aC cu.out 2; have hfz15_3 := aC cu.out 3; have hfz15_4 := aC cu.out 4; have hfz15_5 := aC cu.out 5) | ((with_reducible refine bC (f := 71) rfl ?_); refine dV (some 16) rfl rfl Try.func71 (by kernel_rfl) rfl #[.slice eD bN.length eB, .int .i64 bG] rfl (by (try simp only [List.map_toArray, List.map_cons, List.map_nil]); first | done | rfl | (simp only [List.length_drop, List.length_take]; rfl)) ?_; (with_reducible refine (dG.calls k _ _ bN bG t130 _ ?dB ?dA A4.out).mono ?_); (case dB => repeat (first | exact (Kd.aX HR0_4.out HB.out) | (with_reducible refine Kd.bE ?_ _) | (with_reducible refine Kd.bD ?_ _) | (with_reducible refine Kd.bS ?_))); (case dA => exact HC0_4.out); rintro e w' ⟨rfl, ⟨nd, rfl⟩⟩; refine ⟨_, rfl, ?_⟩) | ((with_reducible refine bC (f := 71) rfl ?_); refine dV (some 24) rfl rfl Try.func71 (by kernel_rfl) rfl #[.slice eH bI.length eG, .int .i64 bQ] rfl (by (try simp only [List.map_toArray, List.map_cons, List.map_nil]); first | done | rfl | (simp only [List.length_drop, List.length_take]; rfl)) ?_; (with_reducible refine (dG.calls k _ _ bI bQ t131 _ ?dB ?dA A10.out).mono ?_); (case dB => repeat (first | exact (Kd.aX HR0_5.out (by repeat (first | (with_reducible first | exact HB.out | apply aH | apply aG | apply aI | refine aN ?_ GE128.out) | exact HB.out))) | (with_reducible refine Kd.bE ?_ _) | (with_reducible refine Kd.bD ?_ _) | (with_reducible refine Kd.bS ?_))); (case dA => exact HC0_5.out); rintro e w' ⟨rfl, ⟨nd, rfl⟩⟩; refine ⟨_, rfl, ?_⟩))
        go_ret2
        exact ⟨by first | rfl | (simp [ag, af] <;> rfl) | (simp [*, ag, af] <;> rfl), by repeat (first | (with_reducible first | exact HB.out | apply aH | apply aG | apply aI | refine aN ?_ GE128.out) | exact HB.out)⟩
      · rw [if_neg c11] at H
        have c11b0 : decide (0 ≤ t131) = false := decide_eq_false c11
        clear c11
        simp only [Option.some.injEq, Prod.mk.injEq] at H
        obtain ⟨rfl, rfl⟩ := H
        go_enter Try.func52, Try.ntmps52
        go_wp2_with (first | ((with_reducible refine bT (N := 1) rfl ?_); refine dD ?hg (N := 1) ?hd (cs := #[.int .i64 aT, .int .i64 aU, .int .i64 bQ, .int .i64 bG, .slice eD bN.length eB, .slice eH bI.length eG]) (t := 50) ?hr ?_; (case hd => rfl); (case hg => rfl); (case hr => first | (go_simp; done) | (go_simp; rfl)); intro ed hg w16 hbox hb; have n0_ := aA.mk (aW (by repeat (first | (with_reducible first | exact HB.out | apply aH | apply aG | apply aI) | exact HB.out)) hb); have n1_ := aA.mk (hbox); have n2_ := aA.mk ((by rw [hg]; exact (aY (by repeat (first | (with_reducible first | exact HB.out | apply aH | apply aG | apply aI) | exact HB.out))) : w.heap.size ≤ ed)); have n3_ := aA.mk ((by rw [hg]; exact (aY (by repeat (first | (with_reducible first | exact HB.out | apply aH | apply aG | apply aI) | exact HB.out))) : w.heap.size ≤ ed)); clear HB; have HB := n0_; have cu := n1_; have GW128 := n2_; have GE128 := n3_; clear n0_ n1_ n2_ n3_; clear hb hbox hg; have hcz17_0 : w16.cell? ⟨ed, 0, none⟩ = some (.int .i64 aT) := (aD cu.out 0).trans rfl; have hcz17_1 : w16.cell? ⟨ed, 1, none⟩ = some (.int .i64 aU) := (aD cu.out 1).trans rfl; have hcz17_2 : w16.cell? ⟨ed, 2, none⟩ = some (.int .i64 bQ) := (aD cu.out 2).trans rfl; have hcz17_3 : w16.cell? ⟨ed, 3, none⟩ = some (.int .i64 bG) := (aD cu.out 3).trans rfl; have hcz17_4 : w16.cell? ⟨ed, 4, none⟩ = some (.slice eD bN.length eB) := (aD cu.out 4).trans rfl; have hcz17_5 : w16.cell? ⟨ed, 5, none⟩ = some (.slice eH bI.length eG) := (aD cu.out 5).trans rfl; have hfz17_0 := aC cu.out 0; have hfz17_1 := aC cu.out 1; have hfz17_2 := aC cu.out 2; have hfz17_3 := aC cu.out 3; have hfz17_4 := aC cu.out 4; have hfz17_5 := aC cu.out 5) | ((with_reducible refine bC (f := 70) rfl ?_); refine dV (some 8) rfl rfl Try.func70 (by kernel_rfl) rfl #[.agg #[.int .i64 aT, .int .i64 aU, .int .i64 bQ, .int .i64 bG, .slice eD bN.length eB, .slice eH bI.length eG]] rfl (by (try simp only [List.map_toArray, List.map_cons, List.map_nil]); first | done | rfl | (simp only [List.length_drop, List.length_take]; rfl)) ?_; (with_reducible refine (bB.calls k aT aU bQ bG _ _ bN _ _ bI t129 _ ?dB ?dA ?di ?dh A2.out).mono ?_); (case dB => repeat (first | exact (Kd.aX HR0_4.out HB.out) | (with_reducible refine Kd.bE ?_ _) | (with_reducible refine Kd.bD ?_ _) | (with_reducible refine Kd.bS ?_))); (case dA => exact HC0_4.out); (case di => repeat (first | exact (Kd.aX HR0_5.out HB.out) | (with_reducible refine Kd.bE ?_ _) | (with_reducible refine Kd.bD ?_ _) | (with_reducible refine Kd.bS ?_))); (case dh => exact HC0_5.out); rintro e w18 ⟨rfl, hb⟩; refine ⟨_, rfl, ?_⟩; have n0_ := aA.mk (bH (g := ed) (o := .cells #[.int .i64 aT, .int .i64 aU, .int .i64 bQ, .int .i64 bG, .slice eD bN.length eB, .slice eH bI.length eG] 50 (0, 0)) (by (with_reducible repeat (first | refine aM ?_ _ | refine aQ ?_ | refine aJ ?_ _)); exact cu.out) hb); have n1_ := aA.mk (aW (by repeat (first | (with_reducible first | exact HB.out | apply aH | apply aG | apply aI | refine aN ?_ GE128.out) | exact HB.out)) hb); clear cu; clear HB; have cu := n0_; have HB := n1_; clear n0_ n1_; (try clear hb); (try clear hb2); (try clear hk); (try clear hi); have hcz19_0 : w18.cell? ⟨ed, 0, none⟩ = some (.int .i64 aT) := (aD cu.out 0).trans rfl; have hcz19_1 : w18.cell? ⟨ed, 1, none⟩ = some (.int .i64 aU) := (aD cu.out 1).trans rfl; have hcz19_2 : w18.cell? ⟨ed, 2, none⟩ = some (.int .i64 bQ) := (aD cu.out 2).trans rfl; have hcz19_3 : w18.cell? ⟨ed, 3, none⟩ = some (.int .i64 bG) := (aD cu.out 3).trans rfl; have hcz19_4 : w18.cell? ⟨ed, 4, none⟩ = some (.slice eD bN.length eB) := (aD cu.out 4).trans rfl; have hcz19_5 : w18.cell? ⟨ed, 5, none⟩ = some (.slice eH bI.length eG) := (aD cu.out 5).trans rfl; have hfz19_0 := aC cu.out 0; have hfz19_1 := aC cu.out 1; have hfz19_2 := aC cu.out 2; have hfz19_3 := aC cu.out 3; have hfz19_4 := aC cu.out 4; have hfz19_5 := aC cu.out 5) | ((with_reducible refine bC (f := 71) rfl ?_); refine dV (some 16) rfl rfl Try.func71 (by kernel_rfl) rfl #[.slice eD bN.length eB, .int .i64 bG] rfl (by (try simp only [List.map_toArray, List.map_cons, List.map_nil]); first | done | rfl | (simp only [List.length_drop, List.length_take]; rfl)) ?_; (with_reducible refine (dG.calls k _ _ bN bG t130 _ ?dB ?dA A4.out).mono ?_); (case dB => repeat (first | exact (Kd.aX HR0_4.out HB.out) | (with_reducible refine Kd.bE ?_ _) | (with_reducible refine Kd.bD ?_ _) | (with_reducible refine Kd.bS ?_))); (case dA => exact HC0_4.out); rintro e w' ⟨rfl, ⟨nd, rfl⟩⟩; refine ⟨_, rfl, ?_⟩) | ((with_reducible refine bC (f := 71) rfl ?_); refine dV (some 24) rfl rfl Try.func71 (by kernel_rfl) rfl #[.slice eH bI.length eG, .int .i64 bQ] rfl (by (try simp only [List.map_toArray, List.map_cons, List.map_nil]); first | done | rfl | (simp only [List.length_drop, List.length_take]; rfl)) ?_; (with_reducible refine (dG.calls k _ _ bI bQ t131 _ ?dB ?dA A10.out).mono ?_); (case dB => repeat (first | exact (Kd.aX HR0_5.out (by repeat (first | (with_reducible first | exact HB.out | apply aH | apply aG | apply aI | refine aN ?_ GE128.out) | exact HB.out))) | (with_reducible refine Kd.bE ?_ _) | (with_reducible refine Kd.bD ?_ _) | (with_reducible refine Kd.bS ?_))); (case dA => exact HC0_5.out); rintro e w' ⟨rfl, ⟨nd, rfl⟩⟩; refine ⟨_, rfl, ?_⟩))
        go_ret2
        exact ⟨by first | rfl | (simp [ag, af] <;> rfl) | (simp [*, ag, af] <;> rfl), by repeat (first | (with_reducible first | exact HB.out | apply aH | apply aG | apply aI | refine aN ?_ GE128.out) | exact HB.out)⟩
  · rw [if_neg c3] at H
    have c3b0 : (t129 == 0) = false := beq_eq_false_iff_ne.mpr c3
    have c3b1 : (t129 != 0) = true := bne_iff_ne.mpr c3
    simp only [Option.some.injEq, Prod.mk.injEq] at H
    obtain ⟨rfl, rfl⟩ := H
    go_enter Try.func52, Try.ntmps52
    go_wp2_with (first | ((with_reducible refine bT (N := 1) rfl ?_); refine dD ?hg (N := 1) ?hd (cs := #[.int .i64 aT, .int .i64 aU, .int .i64 bQ, .int .i64 bG, .slice eD bN.length eB, .slice eH bI.length eG]) (t := 50) ?hr ?_; (case hd => rfl); (case hg => rfl); (case hr => first | (go_simp; done) | (go_simp; rfl)); intro ed hg w20 hbox hb; have n0_ := aA.mk (aW (by repeat (first | (with_reducible first | exact HB.out | apply aH | apply aG | apply aI) | exact HB.out)) hb); have n1_ := aA.mk (hbox); have n2_ := aA.mk ((by rw [hg]; exact (aY (by repeat (first | (with_reducible first | exact HB.out | apply aH | apply aG | apply aI) | exact HB.out))) : w.heap.size ≤ ed)); have n3_ := aA.mk ((by rw [hg]; exact (aY (by repeat (first | (with_reducible first | exact HB.out | apply aH | apply aG | apply aI) | exact HB.out))) : w.heap.size ≤ ed)); clear HB; have HB := n0_; have cu := n1_; have GW128 := n2_; have GE128 := n3_; clear n0_ n1_ n2_ n3_; clear hb hbox hg; have hcz21_0 : w20.cell? ⟨ed, 0, none⟩ = some (.int .i64 aT) := (aD cu.out 0).trans rfl; have hcz21_1 : w20.cell? ⟨ed, 1, none⟩ = some (.int .i64 aU) := (aD cu.out 1).trans rfl; have hcz21_2 : w20.cell? ⟨ed, 2, none⟩ = some (.int .i64 bQ) := (aD cu.out 2).trans rfl; have hcz21_3 : w20.cell? ⟨ed, 3, none⟩ = some (.int .i64 bG) := (aD cu.out 3).trans rfl; have hcz21_4 : w20.cell? ⟨ed, 4, none⟩ = some (.slice eD bN.length eB) := (aD cu.out 4).trans rfl; have hcz21_5 : w20.cell? ⟨ed, 5, none⟩ = some (.slice eH bI.length eG) := (aD cu.out 5).trans rfl; have hfz21_0 := aC cu.out 0; have hfz21_1 := aC cu.out 1; have hfz21_2 := aC cu.out 2; have hfz21_3 := aC cu.out 3; have hfz21_4 := aC cu.out 4; have hfz21_5 := aC cu.out 5) | ((with_reducible refine bC (f := 70) rfl ?_); refine dV (some 8) rfl rfl Try.func70 (by kernel_rfl) rfl #[.agg #[.int .i64 aT, .int .i64 aU, .int .i64 bQ, .int .i64 bG, .slice eD bN.length eB, .slice eH bI.length eG]] rfl (by (try simp only [List.map_toArray, List.map_cons, List.map_nil]); first | done | rfl | (simp only [List.length_drop, List.length_take]; rfl)) ?_; (with_reducible refine (bB.calls k aT aU bQ bG _ _ bN _ _ bI t129 _ ?dB ?dA ?di ?dh A2.out).mono ?_); (case dB => repeat (first | exact (Kd.aX HR0_4.out HB.out) | (with_reducible refine Kd.bE ?_ _) | (with_reducible refine Kd.bD ?_ _) | (with_reducible refine Kd.bS ?_))); (case dA => exact HC0_4.out); (case di => repeat (first | exact (Kd.aX HR0_5.out HB.out) | (with_reducible refine Kd.bE ?_ _) | (with_reducible refine Kd.bD ?_ _) | (with_reducible refine Kd.bS ?_))); (case dh => exact HC0_5.out); rintro e w22 ⟨rfl, hb⟩; refine ⟨_, rfl, ?_⟩; have n0_ := aA.mk (bH (g := ed) (o := .cells #[.int .i64 aT, .int .i64 aU, .int .i64 bQ, .int .i64 bG, .slice eD bN.length eB, .slice eH bI.length eG] 50 (0, 0)) (by (with_reducible repeat (first | refine aM ?_ _ | refine aQ ?_ | refine aJ ?_ _)); exact cu.out) hb); have n1_ := aA.mk (aW (by repeat (first | (with_reducible first | exact HB.out | apply aH | apply aG | apply aI | refine aN ?_ GE128.out) | exact HB.out)) hb); clear cu; clear HB; have cu := n0_; have HB := n1_; clear n0_ n1_; (try clear hb); (try clear hb2); (try clear hk); (try clear hi)))
    go_ret2
    exact ⟨by first | rfl | (simp [ag, af] <;> rfl) | (simp [*, ag, af] <;> rfl), by repeat (first | (with_reducible first | exact HB.out | apply aH | apply aG | apply aI | refine aN ?_ GE128.out) | exact HB.out)⟩
end Go.Proofs.Ytocejofjmmoeaaa.X
end

section
namespace Go.Proofs.Ytocejofjmmoeaaa.X
open Go.RowKit Go.Proofs.YtocejofjmmoeaaaW.PrintWords Go.Proofs.YtocejofjmmoeaaaW.PrintLast Go.Proofs.YtocejofjmmoeaaaW.PrintMore
attribute [local go_sem] eZ eu fV fU eP eO fF fE   -- for this text's walks alone
set_option linter.unusedVariables false
set_option linter.unusedSimpArgs false
def fM.f (a0 : Int) : Option (Int) := some a0
set_option maxHeartbeats 8000000 in
set_option maxRecDepth 100000 in
theorem fM.calls (a0 : Int) (r : Int) (w : World) (h : fM.f a0 = some r) :
    Calls Try.prog 16 #[.int .i64 a0] w fun e w' => e = .returned (.int .i64 r) ∧ az w w' := by
  have H : (some a0) = some r := h
  clear h
  obtain rfl := Option.some.inj H
  go_enter Try.func16, Try.ntmps16
  go_wp2
  go_ret
  exact ⟨by first | rfl | (simp; done) | (simp [*]; done), by repeat (first | exact az.refl _ | apply az.step)⟩
end Go.Proofs.Ytocejofjmmoeaaa.X
end

section
namespace Go.Proofs.Ytocejofjmmoeaaa.X
open Go.RowKit Go.Proofs.YtocejofjmmoeaaaW.PrintWords Go.Proofs.YtocejofjmmoeaaaW.PrintLast Go.Proofs.YtocejofjmmoeaaaW.PrintMore
attribute [local go_sem] eZ eu fV fU eP eO fF fE   -- for this text's walks alone
set_option linter.unusedVariables false
set_option linter.unusedSimpArgs false
mutual
def aV.j0 : Nat → Bool → Int → Int → List Int → List Int → Option (Int)
  | 0, _, _, _, _, _ => none
  | k + 1, x12, jw, iO, iZ, iY => if x12 = true then (some 1) else (if iO < 1 then (aV.j1 k true jw iO iZ iY) else (aV.j1 k (decide (iO > 65536)) jw iO iZ iY))
def aV.j1 : Nat → Bool → Int → Int → List Int → List Int → Option (Int)
  | 0, _, _, _, _, _ => none
  | k + 1, x20, jw, iO, iZ, iY => if x20 = true then (some 3) else (if (iZ.length : Int) = (wrap64 (iO * jw)) then (aV.j2 k ((iY.length : Int) != iO) jw iO iZ iY) else (aV.j2 k true jw iO iZ iY))
def aV.j2 : Nat → Bool → Int → Int → List Int → List Int → Option (Int)
  | 0, _, _, _, _, _ => none
  | k + 1, x37, jw, iO, iZ, iY => if x37 = true then (some 31) else (aV.l0 k 0 jw iO iZ iY)
def aV.l0 : Nat → Int → Int → Int → List Int → List Int → Option (Int)
  | 0, _, _, _, _, _ => none
  | k + 1, x3, jw, iO, iZ, iY => if x3 < (iZ.length : Int) then (if 0 ≤ x3 then (if (rd iZ x3) < (-1) then (some 32) else (if (rd iZ x3) ≥ iO then (some 32) else (aV.l0 k (wrap64 (x3 + 1)) jw iO iZ iY))) else (none)) else (aV.l1 k 0 jw iO iZ iY)
def aV.l1 : Nat → Int → Int → Int → List Int → List Int → Option (Int)
  | 0, _, _, _, _, _ => none
  | k + 1, x4, jw, iO, iZ, iY => if x4 < (iY.length : Int) then (if 0 ≤ x4 then (if (rd iY x4) < (-1) then (some 33) else (if (rd iY x4) > 1 then (some 33) else (aV.l1 k (wrap64 (x4 + 1)) jw iO iZ iY))) else (none)) else (some 0)
end
def aV.f (k : Nat) (aT : Int) (aU : Int) (aa : List Int) (ak : List Int) : Option (Int) := if aT < 1 then (aV.j0 k true aT aU aa ak) else (aV.j0 k (decide (aT > 64)) aT aU aa ak)
set_option maxHeartbeats 8000000 in
set_option maxRecDepth 100000 in
theorem aV.calls (k : Nat) (aT : Int) (aU : Int) (bv : Option Addr) (bq : Nat) (aa : List Int) (bu : Option Addr) (bn : Nat) (ak : List Int) (r : Int) (w : World) (jv : Kd.C (Kd.int .i64) w bv aa.length aa) (kU : aa.length ≤ bq) (jr : Kd.C (Kd.int .i64) w bu ak.length ak) (kT : ak.length ≤ bn) (h : aV.f k aT aU aa ak = some r) :
    Calls Try.prog 48 #[.agg #[.int .i64 aT, .int .i64 aU, .slice bv aa.length bq, .slice bu ak.length bn]] w fun e w' => e = .returned (.int .i64 r) ∧ Below w.heap.size w w' := by
  have hu34 := Try.underlying34
  have gX := aA.mk jv
  have jV := aA.mk kU
  clear jv kU
  have gu := aA.mk jr
  have jU := aA.mk kT
  clear jr kT
  have HB := aA.mk (Below.refl w.heap.size w)
  have H : (if aT < 1 then (aV.j0 k true aT aU aa ak) else (aV.j0 k (decide (aT > 64)) aT aU aa ak)) = some r := h
  clear h
  have HC2 := aA.mk H
  clear H
  go_enter Try.func48, Try.ntmps48
  go_upto_region 1 with (first | ((with_reducible refine bT (N := 1) rfl ?_); (try (refine lJ (by rfl) ?_; dsimp only)); refine dD ?hg (N := 1) ?hd (cs := #[.int .i64 aT, .int .i64 aU, .slice bv aa.length bq, .slice bu ak.length bn]) (t := 34) ?hr ?_; (case hd => rfl); (case hg => rfl); (case hr => first | (go_simp; done) | (go_simp; rfl)); intro dX hg w3 hbox hb; have n0_ := aA.mk (aW (by repeat (first | (with_reducible first | exact HB.out | apply aH | apply aG | apply aI) | exact HB.out)) hb); have n1_ := aA.mk (hbox); have n2_ := aA.mk ((by rw [hg]; exact (aY (by repeat (first | (with_reducible first | exact HB.out | apply aH | apply aG | apply aI) | exact HB.out))) : w.heap.size ≤ dX)); have n3_ := aA.mk ((by rw [hg]; exact (aY (by repeat (first | (with_reducible first | exact HB.out | apply aH | apply aG | apply aI) | exact HB.out))) : w.heap.size ≤ dX)); clear HB; have HB := n0_; have bO := n1_; have GW344 := n2_; have lS := n3_; clear n0_ n1_ n2_ n3_; clear hb hbox hg))
  repeat (go_quiet (first | ((with_reducible refine bT (N := 1) rfl ?_); (try (refine lJ (by rfl) ?_; dsimp only)); refine dD ?hg (N := 1) ?hd (cs := #[.int .i64 aT, .int .i64 aU, .slice bv aa.length bq, .slice bu ak.length bn]) (t := 34) ?hr ?_; (case hd => rfl); (case hg => rfl); (case hr => first | (go_simp; done) | (go_simp; rfl)); intro dX hg w3 hbox hb; have n0_ := aA.mk (aW (by repeat (first | (with_reducible first | exact HB.out | apply aH | apply aG | apply aI) | exact HB.out)) hb); have n1_ := aA.mk (hbox); have n2_ := aA.mk ((by rw [hg]; exact (aY (by repeat (first | (with_reducible first | exact HB.out | apply aH | apply aG | apply aI) | exact HB.out))) : w.heap.size ≤ dX)); have n3_ := aA.mk ((by rw [hg]; exact (aY (by repeat (first | (with_reducible first | exact HB.out | apply aH | apply aG | apply aI) | exact HB.out))) : w.heap.size ≤ dX)); clear HB; have HB := n0_; have bO := n1_; have GW344 := n2_; have lS := n3_; clear n0_ n1_ n2_ n3_; clear hb hbox hg)); go_upto_region 1 with (first | ((with_reducible refine bT (N := 1) rfl ?_); (try (refine lJ (by rfl) ?_; dsimp only)); refine dD ?hg (N := 1) ?hd (cs := #[.int .i64 aT, .int .i64 aU, .slice bv aa.length bq, .slice bu ak.length bn]) (t := 34) ?hr ?_; (case hd => rfl); (case hg => rfl); (case hr => first | (go_simp; done) | (go_simp; rfl)); intro dX hg w3 hbox hb; have n0_ := aA.mk (aW (by repeat (first | (with_reducible first | exact HB.out | apply aH | apply aG | apply aI) | exact HB.out)) hb); have n1_ := aA.mk (hbox); have n2_ := aA.mk ((by rw [hg]; exact (aY (by repeat (first | (with_reducible first | exact HB.out | apply aH | apply aG | apply aI) | exact HB.out))) : w.heap.size ≤ dX)); have n3_ := aA.mk ((by rw [hg]; exact (aY (by repeat (first | (with_reducible first | exact HB.out | apply aH | apply aG | apply aI) | exact HB.out))) : w.heap.size ≤ dX)); clear HB; have HB := n0_; have bO := n1_; have GW344 := n2_; have lS := n3_; clear n0_ n1_ n2_ n3_; clear hb hbox hg)))
  (try simp only [Act.put, List.setIfInBounds_toArray, List.set_cons_zero, List.set_cons_succ])
  go_cut [12] (fun v12 wc => ∃ (kq : Nat) (x12_1 : Bool), v12 = .bool x12_1 ∧ aA (aV.j0 kq x12_1 aT aU aa ak = some r) ∧ aA (kq ≤ k) ∧ aA (wc.heap[dX]? = some (.cells #[.int .i64 aT, .int .i64 aU, (.slice bv aa.length bq), (.slice bu ak.length bn)] 34 (0, 0))) ∧ aA (Below w.heap.size w wc))
  case first =>
    have H := HC2.out
    clear HC2
    by_cases c4 : aT < 1
    · rw [if_pos c4] at H
      have gz : decide (aT < 1) = true := decide_eq_true c4
      clear c4
      (first | rw [gz] | (simp only [aj, av]; rw [gz]) | skip)
      have H' := aA.mk H
      clear H
      have lI : w3.cell? ⟨dX, 0, none⟩ = some (.int .i64 aT) := (aD bO.out 0).trans rfl
      have lH : w3.cell? ⟨dX, 1, none⟩ = some (.int .i64 aU) := (aD bO.out 1).trans rfl
      have lG : w3.cell? ⟨dX, 2, none⟩ = some (.slice bv aa.length bq) := (aD bO.out 2).trans rfl
      have lF : w3.cell? ⟨dX, 3, none⟩ = some (.slice bu ak.length bn) := (aD bO.out 3).trans rfl
      have lD := aC bO.out 0
      have lC := aC bO.out 1
      have kz := aC bO.out 2
      have ky := aC bO.out 3
      go_wp2
      repeat (go_quiet (fail); try go_wp2)
      go_meet
      case rel => exact ⟨_, (true), (by first | rfl | (simp; done) | (simp [*]; done)), H', ⟨by first | omega | exact Nat.le_refl _⟩, ⟨by (with_reducible repeat (first | refine aM ?_ _ | refine aQ ?_ | refine aJ ?_ _)); exact bO.out⟩, ⟨by repeat (first | (with_reducible first | exact HB.out | apply aH | apply aG | apply aI | refine aN ?_ lS.out) | exact HB.out)⟩⟩
    · rw [if_neg c4] at H
      have gz : decide (aT < 1) = false := decide_eq_false c4
      clear c4
      (first | rw [gz] | (simp only [aj, av]; rw [gz]) | skip)
      have H' := aA.mk H
      clear H
      have hcz6_0 : w3.cell? ⟨dX, 0, none⟩ = some (.int .i64 aT) := (aD bO.out 0).trans rfl
      have hcz6_1 : w3.cell? ⟨dX, 1, none⟩ = some (.int .i64 aU) := (aD bO.out 1).trans rfl
      have hcz6_2 : w3.cell? ⟨dX, 2, none⟩ = some (.slice bv aa.length bq) := (aD bO.out 2).trans rfl
      have hcz6_3 : w3.cell? ⟨dX, 3, none⟩ = some (.slice bu ak.length bn) := (aD bO.out 3).trans rfl
      have hfz6_0 := aC bO.out 0
      have hfz6_1 := aC bO.out 1
      have hfz6_2 := aC bO.out 2
      have hfz6_3 := aC bO.out 3
      go_wp2
      repeat (go_quiet (fail); try go_wp2)
      go_meet
      case rel => exact ⟨_, (decide (aT > 64)), (by first | rfl | (simp; done) | (simp [*]; done)), H', ⟨by first | omega | exact Nat.le_refl _⟩, ⟨by (with_reducible repeat (first | refine aM ?_ _ | refine aQ ?_ | refine aJ ?_ _)); exact bO.out⟩, ⟨by repeat (first | (with_reducible first | exact HB.out | apply aH | apply aG | apply aI | refine aN ?_ lS.out) | exact HB.out)⟩⟩
  case rest =>
    clear HC2
    try clear p2
    try clear c4
    try clear gz
    try clear lI
    try clear lH
    try clear lG
    try clear lF
    try clear hcz6_0
    try clear hcz6_1
    try clear hcz6_2
    try clear hcz6_3
    try clear lD
    try clear lC
    try clear kz
    try clear ky
    try clear hfz6_0
    try clear hfz6_1
    try clear hfz6_2
    try clear hfz6_3
    obtain ⟨kq, x12_1, rfl, HA, HJ1, bO, HB⟩ := hcut
    cases kq with
    | zero => exact absurd HA.out (by simp [aV.j0])
    | succ kj1 =>
      have H := HA.out
      clear HA
      simp only [aV.j0] at H
      by_cases c7 : x12_1 = true
      · subst c7
        have H1 : (some 1) = some r := by rw [if_pos rfl] at H; exact H
        clear H
        have H := H1
        clear H1
        obtain rfl := Option.some.inj H
        go_wp2
        repeat (go_quiet (fail); try go_wp2)
        go_ret
        exact ⟨by first | rfl | (simp [ag, af] <;> rfl) | (simp [*, ag, af] <;> rfl), by repeat (first | (with_reducible first | exact HB.out | apply aH | apply aG | apply aI | refine aN ?_ lS.out) | exact HB.out)⟩
      · replace c7 := Bool.eq_false_iff.mpr c7
        subst c7
        have H1 : (if aU < 1 then (aV.j1 kj1 true aT aU aa ak) else (aV.j1 kj1 (decide (aU > 65536)) aT aU aa ak)) = some r := by rw [if_neg (show ¬ (false = true) by decide)] at H; exact H
        clear H
        have H := H1
        clear H1
        have HC8 := aA.mk H
        clear H
        go_upto_region 3 with (fail)
        repeat (go_quiet (fail); go_upto_region 3 with (fail))
        go_cut [20] (fun v20 wc => ∃ (kq : Nat) (x20_7 : Bool), v20 = .bool x20_7 ∧ aA (aV.j1 kq x20_7 aT aU aa ak = some r) ∧ aA (kq ≤ kj1) ∧ aA (wc.heap[dX]? = some (.cells #[.int .i64 aT, .int .i64 aU, (.slice bv aa.length bq), (.slice bu ak.length bn)] 34 (0, 0))) ∧ aA (Below w.heap.size w wc))
        case first =>
          have H := HC8.out
          clear HC8
          by_cases c9 : aU < 1
          · rw [if_pos c9] at H
            have c9b0 : decide (aU < 1) = true := decide_eq_true c9
            clear c9
            (first | rw [c9b0] | (simp only [aj, av]; rw [c9b0]) | skip)
            have H' := aA.mk H
            clear H
            have jl : wc.cell? ⟨dX, 0, none⟩ = some (.int .i64 aT) := (aD bO.out 0).trans rfl
            have jk : wc.cell? ⟨dX, 1, none⟩ = some (.int .i64 aU) := (aD bO.out 1).trans rfl
            have ji : wc.cell? ⟨dX, 2, none⟩ = some (.slice bv aa.length bq) := (aD bO.out 2).trans rfl
            have jh : wc.cell? ⟨dX, 3, none⟩ = some (.slice bu ak.length bn) := (aD bO.out 3).trans rfl
            have jg := aC bO.out 0
            have jf := aC bO.out 1
            have je := aC bO.out 2
            have jd := aC bO.out 3
            go_wp2
            repeat (go_quiet (fail); try go_wp2)
            go_meet
            case rel => exact ⟨_, (true), (by first | rfl | (simp; done) | (simp [*]; done)), H', ⟨by have := HJ1.out; first | omega | exact Nat.le_refl _⟩, ⟨by (with_reducible repeat (first | refine aM ?_ _ | refine aQ ?_ | refine aJ ?_ _)); exact bO.out⟩, ⟨by repeat (first | (with_reducible first | exact HB.out | apply aH | apply aG | apply aI | refine aN ?_ lS.out) | exact HB.out)⟩⟩
          · rw [if_neg c9] at H
            have c9b0 : decide (aU < 1) = false := decide_eq_false c9
            clear c9
            (first | rw [c9b0] | (simp only [aj, av]; rw [c9b0]) | skip)
            have H' := aA.mk H
            clear H
            have kP : wc.cell? ⟨dX, 0, none⟩ = some (.int .i64 aT) := (aD bO.out 0).trans rfl
            have kN : wc.cell? ⟨dX, 1, none⟩ = some (.int .i64 aU) := (aD bO.out 1).trans rfl
            have kM : wc.cell? ⟨dX, 2, none⟩ = some (.slice bv aa.length bq) := (aD bO.out 2).trans rfl
            have kL : wc.cell? ⟨dX, 3, none⟩ = some (.slice bu ak.length bn) := (aD bO.out 3).trans rfl
            have kK := aC bO.out 0
            have kJ := aC bO.out 1
            have kI := aC bO.out 2
            have kG := aC bO.out 3
            go_wp2
            repeat (go_quiet (fail); try go_wp2)
            go_meet
            case rel => exact ⟨_, (decide (aU > 65536)), (by first | rfl | (simp; done) | (simp [*]; done)), H', ⟨by have := HJ1.out; first | omega | exact Nat.le_refl _⟩, ⟨by (with_reducible repeat (first | refine aM ?_ _ | refine aQ ?_ | refine aJ ?_ _)); exact bO.out⟩, ⟨by repeat (first | (with_reducible first | exact HB.out | apply aH | apply aG | apply aI | refine aN ?_ lS.out) | exact HB.out)⟩⟩
        case rest =>
          clear HC8
          try clear p2
          try clear c4
          try clear gz
          try clear c7
          try clear c9
          try clear c9b0
          try clear jl
          try clear jk
          try clear ji
          try clear jh
          try clear kP
          try clear kN
          try clear kM
          try clear kL
          try clear lI
          try clear lH
          try clear lG
          try clear lF
          try clear hcz6_0
          try clear hcz6_1
          try clear hcz6_2
          try clear hcz6_3
          try clear jg
          try clear jf
          try clear je
          try clear jd
          try clear kK
          try clear kJ
          try clear kI
          try clear kG
          try clear lD
          try clear lC
          try clear kz
          try clear ky
          try clear hfz6_0
          try clear hfz6_1
          try clear hfz6_2
          try clear hfz6_3
          try clear p2
          obtain ⟨kq, x20_7, rfl, HA, HJ7, bO, HB⟩ := hcut
          cases kq with
          | zero => exact absurd HA.out (by simp [aV.j1])
          | succ kj7 =>
            have H := HA.out
            clear HA
            simp only [aV.j1] at H
            by_cases c12 : x20_7 = true
            · subst c12
              have H1 : (some 3) = some r := by rw [if_pos rfl] at H; exact H
              clear H
              have H := H1
              clear H1
              obtain rfl := Option.some.inj H
              go_wp2
              repeat (go_quiet (fail); try go_wp2)
              go_ret
              exact ⟨by first | rfl | (simp [ag, af] <;> rfl) | (simp [*, ag, af] <;> rfl), by repeat (first | (with_reducible first | exact HB.out | apply aH | apply aG | apply aI | refine aN ?_ lS.out) | exact HB.out)⟩
            · replace c12 := Bool.eq_false_iff.mpr c12
              subst c12
              have H1 : (if (aa.length : Int) = (wrap64 (aU * aT)) then (aV.j2 kj7 ((ak.length : Int) != aU) aT aU aa ak) else (aV.j2 kj7 true aT aU aa ak)) = some r := by rw [if_neg (show ¬ (false = true) by decide)] at H; exact H
              clear H
              have H := H1
              clear H1
              have HC13 := aA.mk H
              clear H
              go_upto_region 5 with (fail)
              repeat (go_quiet (fail); go_upto_region 5 with (fail))
              go_cut [37] (fun v37 wc => ∃ (kq : Nat) (x37_12 : Bool), v37 = .bool x37_12 ∧ aA (aV.j2 kq x37_12 aT aU aa ak = some r) ∧ aA (kq ≤ kj7) ∧ aA (wc.heap[dX]? = some (.cells #[.int .i64 aT, .int .i64 aU, (.slice bv aa.length bq), (.slice bu ak.length bn)] 34 (0, 0))) ∧ aA (Below w.heap.size w wc))
              case first =>
                have H := HC13.out
                clear HC13
                by_cases c14 : (aa.length : Int) = (wrap64 (aU * aT))
                · rw [if_pos c14] at H
                  have kW : ((aa.length : Int) == (wrap64 (aU * aT))) = true := beq_iff_eq.mpr c14
                  have c14b1 : ((aa.length : Int) != (wrap64 (aU * aT))) = false := bne_eq_false_iff_eq.mpr c14
                  clear c14
                  (first | rw [kW] | (simp only [aj, av]; rw [kW]) | skip)
                  have H' := aA.mk H
                  clear H
                  have hcz15_0 : wc.cell? ⟨dX, 0, none⟩ = some (.int .i64 aT) := (aD bO.out 0).trans rfl
                  have hcz15_1 : wc.cell? ⟨dX, 1, none⟩ = some (.int .i64 aU) := (aD bO.out 1).trans rfl
                  have hcz15_2 : wc.cell? ⟨dX, 2, none⟩ = some (.slice bv aa.length bq) := (aD bO.out 2).trans rfl
                  have hcz15_3 : wc.cell? ⟨dX, 3, none⟩ = some (.slice bu ak.length bn) := (aD bO.out 3).trans rfl
                  have hfz15_0 := aC bO.out 0
                  have hfz15_1 := aC bO.out 1
                  have hfz15_2 := aC bO.out 2
                  have hfz15_3 := aC bO.out 3
                  go_wp2
                  repeat (go_quiet (fail); try go_wp2)
                  go_meet
                  case rel => exact ⟨_, (((ak.length : Int) != aU)), (by first | rfl | (simp; done) | (simp [*]; done)), H', ⟨by have := HJ1.out; have := HJ7.out; first | omega | exact Nat.le_refl _⟩, ⟨by (with_reducible repeat (first | refine aM ?_ _ | refine aQ ?_ | refine aJ ?_ _)); exact bO.out⟩, ⟨by repeat (first | (with_reducible first | exact HB.out | apply aH | apply aG | apply aI | refine aN ?_ lS.out) | exact HB.out)⟩⟩
                · rw [if_neg c14] at H
                  have kW : ((aa.length : Int) == (wrap64 (aU * aT))) = false := beq_eq_false_iff_ne.mpr c14
                  have c14b1 : ((aa.length : Int) != (wrap64 (aU * aT))) = true := bne_iff_ne.mpr c14
                  (first | rw [kW] | (simp only [aj, av]; rw [kW]) | skip)
                  have H' := aA.mk H
                  clear H
                  have hcz16_0 : wc.cell? ⟨dX, 0, none⟩ = some (.int .i64 aT) := (aD bO.out 0).trans rfl
                  have hcz16_1 : wc.cell? ⟨dX, 1, none⟩ = some (.int .i64 aU) := (aD bO.out 1).trans rfl
                  have hcz16_2 : wc.cell? ⟨dX, 2, none⟩ = some (.slice bv aa.length bq) := (aD bO.out 2).trans rfl
                  have hcz16_3 : wc.cell? ⟨dX, 3, none⟩ = some (.slice bu ak.length bn) := (aD bO.out 3).trans rfl
                  have hfz16_0 := aC bO.out 0
                  have hfz16_1 := aC bO.out 1
                  have hfz16_2 := aC bO.out 2
                  have hfz16_3 := aC bO.out 3
                  go_wp2
                  repeat (go_quiet (fail); try go_wp2)
                  go_meet
                  case rel => exact ⟨_, (true), (by first | rfl | (simp; done) | (simp [*]; done)), H', ⟨by have := HJ1.out; have := HJ7.out; first | omega | exact Nat.le_refl _⟩, ⟨by (with_reducible repeat (first | refine aM ?_ _ | refine aQ ?_ | refine aJ ?_ _)); exact bO.out⟩, ⟨by repeat (first | (with_reducible first | exact HB.out | apply aH | apply aG | apply aI | refine aN ?_ lS.out) | exact HB.out)⟩⟩
              case rest =>
                clear HC13
                try clear c1
                try clear p2
                try clear c4
                try clear gz
                try clear p6
                try clear c7
                try clear c9
                try clear c9b0
                try clear c12
                try clear c14
                try clear kW
                try clear c14b1
                try clear jl
                try clear jk
                try clear ji
                try clear jh
                try clear kP
                try clear kN
                try clear kM
                try clear kL
                try clear hcz15_0
                try clear hcz15_1
                try clear hcz15_2
                try clear hcz15_3
                try clear hcz16_0
                try clear hcz16_1
                try clear hcz16_2
                try clear hcz16_3
                try clear lI
                try clear lH
                try clear lG
                try clear lF
                try clear hcz6_0
                try clear hcz6_1
                try clear hcz6_2
                try clear hcz6_3
                try clear jg
                try clear jf
                try clear je
                try clear jd
                try clear kK
                try clear kJ
                try clear kI
                try clear kG
                try clear hfz15_0
                try clear hfz15_1
                try clear hfz15_2
                try clear hfz15_3
                try clear hfz16_0
                try clear hfz16_1
                try clear hfz16_2
                try clear hfz16_3
                try clear lD
                try clear lC
                try clear kz
                try clear ky
                try clear hfz6_0
                try clear hfz6_1
                try clear hfz6_2
                try clear hfz6_3
                try clear p2
                obtain ⟨kq, x37_12, rfl, HA, HJ12, bO, HB⟩ := hcut
                cases kq with
                | zero => exact absurd HA.out (by simp [aV.j2])
                | succ kj12 =>
                  have H := HA.out
                  clear HA
                  simp only [aV.j2] at H
                  by_cases c17 : x37_12 = true
                  · subst c17
                    have H1 : (some 31) = some r := by rw [if_pos rfl] at H; exact H
                    clear H
                    have H := H1
                    clear H1
                    obtain rfl := Option.some.inj H
                    go_wp2
                    repeat (go_quiet (fail); try go_wp2)
                    go_ret
                    exact ⟨by first | rfl | (simp [ag, af] <;> rfl) | (simp [*, ag, af] <;> rfl), by repeat (first | (with_reducible first | exact HB.out | apply aH | apply aG | apply aI | refine aN ?_ lS.out) | exact HB.out)⟩
                  · replace c17 := Bool.eq_false_iff.mpr c17
                    subst c17
                    have H1 : (aV.l0 kj12 0 aT aU aa ak) = some r := by rw [if_neg (show ¬ (false = true) by decide)] at H; exact H
                    clear H
                    have H := H1
                    clear H1
                    have H' := aA.mk H
                    clear H
                    go_wp2
                    repeat (go_quiet (fail); try go_wp2)
                    go_loopg [3] kj12 (fun kq v3 w' => ∃ (lW : Int), v3 = .int .i64 lW ∧ aA (aV.l0 kq lW aT aU aa ak = some r) ∧ aA (kq ≤ kj12) ∧ aA (w'.heap[dX]? = some (.cells #[.int .i64 aT, .int .i64 aU, (.slice bv aa.length bq), (.slice bu ak.length bn)] 34 (0, 0))) ∧ aA (Below w.heap.size w w'))
                    case atStart => exact ⟨(0), (by first | rfl | (simp; done) | (simp [*]; done)), H', ⟨Nat.le_refl _⟩, ⟨by (with_reducible repeat (first | refine aM ?_ _ | refine aQ ?_ | refine aJ ?_ _)); exact bO.out⟩, ⟨by repeat (first | (with_reducible first | exact HB.out | apply aH | apply aG | apply aI | refine aN ?_ lS.out) | exact HB.out)⟩⟩
                    case round =>
                      clear H'
                      try clear c1
                      try clear p2
                      try clear c4
                      try clear gz
                      try clear p6
                      try clear c7
                      try clear c9
                      try clear c9b0
                      try clear c12
                      try clear c14
                      try clear kW
                      try clear c14b1
                      try clear c17
                      try clear jl
                      try clear jk
                      try clear ji
                      try clear jh
                      try clear kP
                      try clear kN
                      try clear kM
                      try clear kL
                      try clear hcz15_0
                      try clear hcz15_1
                      try clear hcz15_2
                      try clear hcz15_3
                      try clear hcz16_0
                      try clear hcz16_1
                      try clear hcz16_2
                      try clear hcz16_3
                      try clear lI
                      try clear lH
                      try clear lG
                      try clear lF
                      try clear hcz6_0
                      try clear hcz6_1
                      try clear hcz6_2
                      try clear hcz6_3
                      try clear jg
                      try clear jf
                      try clear je
                      try clear jd
                      try clear kK
                      try clear kJ
                      try clear kI
                      try clear kG
                      try clear hfz15_0
                      try clear hfz15_1
                      try clear hfz15_2
                      try clear hfz15_3
                      try clear hfz16_0
                      try clear hfz16_1
                      try clear hfz16_2
                      try clear hfz16_3
                      try clear lD
                      try clear lC
                      try clear kz
                      try clear ky
                      try clear hfz6_0
                      try clear hfz6_1
                      try clear hfz6_2
                      try clear hfz6_3
                      try clear p2
                      try clear p6
                      obtain ⟨lW, rfl, HA, HK4, bO, HB⟩ := hrel
                      cases gk with
                      | zero => exact absurd HA.out (by simp [aV.l0])
                      | succ k4 =>
                        have H := HA.out
                        clear HA
                        simp only [aV.l0] at H
                        by_cases c18 : lW < (aa.length : Int)
                        · rw [if_pos c18] at H
                          have c18b0 : decide (lW < (aa.length : Int)) = true := decide_eq_true c18
                          clear c18
                          by_cases c19 : 0 ≤ lW
                          · rw [if_pos c19] at H
                            have c19b0 : decide (0 ≤ lW) = true := decide_eq_true c19
                            clear c19
                            by_cases c20 : (rd aa lW) < (-1)
                            · rw [if_pos c20] at H
                              have c20b0 : decide ((rd aa lW) < (-1)) = true := decide_eq_true c20
                              clear c20
                              obtain rfl := Option.some.inj H
                              have hcz21_0 : wr.cell? ⟨dX, 0, none⟩ = some (.int .i64 aT) := (aD bO.out 0).trans rfl
                              have hcz21_1 : wr.cell? ⟨dX, 1, none⟩ = some (.int .i64 aU) := (aD bO.out 1).trans rfl
                              have hcz21_2 : wr.cell? ⟨dX, 2, none⟩ = some (.slice bv aa.length bq) := (aD bO.out 2).trans rfl
                              have hcz21_3 : wr.cell? ⟨dX, 3, none⟩ = some (.slice bu ak.length bn) := (aD bO.out 3).trans rfl
                              have hfz21_0 := aC bO.out 0
                              have hfz21_1 := aC bO.out 1
                              have hfz21_2 := aC bO.out 2
                              have hfz21_3 := aC bO.out 3
                              have p345 : 0 ≤ (lW : Int) := of_decide_eq_true (by first | (with_reducible assumption) | assumption)
                              have q345 : lW < (aa.length : Int) := of_decide_eq_true (by first | (with_reducible assumption) | assumption)
                              obtain ⟨ad345, e345, kr⟩ := Kd.dN gX.out lW p345 q345
                              cases e345
                              replace kr := (HB.out.cell (World.block_lt_of_cell? w _ kr)).trans kr
                              replace p345 := eq_true p345
                              replace q345 := eq_true q345
                              go_wp2
                              repeat (go_quiet (fail); try go_wp2)
                              go_ret
                              exact ⟨by first | rfl | (simp [ag, af] <;> rfl) | (simp [*, ag, af] <;> rfl), by repeat (first | (with_reducible first | exact HB.out | apply aH | apply aG | apply aI | refine aN ?_ lS.out) | exact HB.out)⟩
                            · rw [if_neg c20] at H
                              have c20b0 : decide ((rd aa lW) < (-1)) = false := decide_eq_false c20
                              clear c20
                              by_cases c22 : (rd aa lW) ≥ aU
                              · rw [if_pos c22] at H
                                have c22b0 : decide (aU ≤ (rd aa lW)) = true := decide_eq_true c22
                                clear c22
                                obtain rfl := Option.some.inj H
                                have hcz23_0 : wr.cell? ⟨dX, 0, none⟩ = some (.int .i64 aT) := (aD bO.out 0).trans rfl
                                have hcz23_1 : wr.cell? ⟨dX, 1, none⟩ = some (.int .i64 aU) := (aD bO.out 1).trans rfl
                                have hcz23_2 : wr.cell? ⟨dX, 2, none⟩ = some (.slice bv aa.length bq) := (aD bO.out 2).trans rfl
                                have hcz23_3 : wr.cell? ⟨dX, 3, none⟩ = some (.slice bu ak.length bn) := (aD bO.out 3).trans rfl
                                have hfz23_0 := aC bO.out 0
                                have hfz23_1 := aC bO.out 1
                                have hfz23_2 := aC bO.out 2
                                have hfz23_3 := aC bO.out 3
                                have p345 : 0 ≤ (lW : Int) := of_decide_eq_true (by first | (with_reducible assumption) | assumption)
                                have q345 : lW < (aa.length : Int) := of_decide_eq_true (by first | (with_reducible assumption) | assumption)
                                obtain ⟨ad345, e345, kr⟩ := Kd.dN gX.out lW p345 q345
                                cases e345
                                replace kr := (HB.out.cell (World.block_lt_of_cell? w _ kr)).trans kr
                                replace p345 := eq_true p345
                                replace q345 := eq_true q345
                                have p346 : 0 ≤ (lW : Int) := of_decide_eq_true (by first | (with_reducible assumption) | assumption)
                                have q346 : lW < (aa.length : Int) := of_decide_eq_true (by first | (with_reducible assumption) | assumption)
                                obtain ⟨ad346, e346, hx346_0⟩ := Kd.dN gX.out lW p346 q346
                                obtain rfl : ad345 = ad346 := (by injection e346)
                                replace hx346_0 := (HB.out.cell (World.block_lt_of_cell? w _ hx346_0)).trans hx346_0
                                replace p346 := eq_true p346
                                replace q346 := eq_true q346
                                go_wp2
                                repeat (go_quiet (fail); try go_wp2)
                                go_ret
                                exact ⟨by first | rfl | (simp [ag, af] <;> rfl) | (simp [*, ag, af] <;> rfl), by repeat (first | (with_reducible first | exact HB.out | apply aH | apply aG | apply aI | refine aN ?_ lS.out) | exact HB.out)⟩
                              · rw [if_neg c22] at H
                                have c22b0 : decide (aU ≤ (rd aa lW)) = false := decide_eq_false c22
                                clear c22
                                have H' := aA.mk H
                                clear H
                                have hcz24_0 : wr.cell? ⟨dX, 0, none⟩ = some (.int .i64 aT) := (aD bO.out 0).trans rfl
                                have hcz24_1 : wr.cell? ⟨dX, 1, none⟩ = some (.int .i64 aU) := (aD bO.out 1).trans rfl
                                have hcz24_2 : wr.cell? ⟨dX, 2, none⟩ = some (.slice bv aa.length bq) := (aD bO.out 2).trans rfl
                                have hcz24_3 : wr.cell? ⟨dX, 3, none⟩ = some (.slice bu ak.length bn) := (aD bO.out 3).trans rfl
                                have hfz24_0 := aC bO.out 0
                                have hfz24_1 := aC bO.out 1
                                have hfz24_2 := aC bO.out 2
                                have hfz24_3 := aC bO.out 3
                                have p345 : 0 ≤ (lW : Int) := of_decide_eq_true (by first | (with_reducible assumption) | assumption)
                                have q345 : lW < (aa.length : Int) := of_decide_eq_true (by first | (with_reducible assumption) | assumption)
                                obtain ⟨ad345, e345, kr⟩ := Kd.dN gX.out lW p345 q345
                                cases e345
                                replace kr := (HB.out.cell (World.block_lt_of_cell? w _ kr)).trans kr
                                replace p345 := eq_true p345
                                replace q345 := eq_true q345
                                have p346 : 0 ≤ (lW : Int) := of_decide_eq_true (by first | (with_reducible assumption) | assumption)
                                have q346 : lW < (aa.length : Int) := of_decide_eq_true (by first | (with_reducible assumption) | assumption)
                                obtain ⟨ad346, e346, hx346_0⟩ := Kd.dN gX.out lW p346 q346
                                obtain rfl : ad345 = ad346 := (by injection e346)
                                replace hx346_0 := (HB.out.cell (World.block_lt_of_cell? w _ hx346_0)).trans hx346_0
                                replace p346 := eq_true p346
                                replace q346 := eq_true q346
                                go_wp2
                                repeat (go_quiet (fail); try go_wp2)
                                go_roundg k4
                                case measure => have := HJ1.out; have := HJ7.out; have := HJ12.out; have := HK4.out; omega
                                case rel => exact ⟨(wrap64 (lW + 1)), (by first | rfl | (simp; done) | (simp [*]; done)), H', ⟨by have := HJ1.out; have := HJ7.out; have := HJ12.out; have := HK4.out; omega⟩, ⟨by (with_reducible repeat (first | refine aM ?_ _ | refine aQ ?_ | refine aJ ?_ _)); exact bO.out⟩, ⟨by repeat (first | (with_reducible first | exact HB.out | apply aH | apply aG | apply aI | refine aN ?_ lS.out) | exact HB.out)⟩⟩
                          · rw [if_neg c19] at H
                            exact absurd H (by simp)
                        · rw [if_neg c18] at H
                          have c18b0 : decide (lW < (aa.length : Int)) = false := decide_eq_false c18
                          clear c18
                          have H' := aA.mk H
                          clear H
                          have hcz25_0 : wr.cell? ⟨dX, 0, none⟩ = some (.int .i64 aT) := (aD bO.out 0).trans rfl
                          have hcz25_1 : wr.cell? ⟨dX, 1, none⟩ = some (.int .i64 aU) := (aD bO.out 1).trans rfl
                          have hcz25_2 : wr.cell? ⟨dX, 2, none⟩ = some (.slice bv aa.length bq) := (aD bO.out 2).trans rfl
                          have hcz25_3 : wr.cell? ⟨dX, 3, none⟩ = some (.slice bu ak.length bn) := (aD bO.out 3).trans rfl
                          have hfz25_0 := aC bO.out 0
                          have hfz25_1 := aC bO.out 1
                          have hfz25_2 := aC bO.out 2
                          have hfz25_3 := aC bO.out 3
                          go_wp2
                          repeat (go_quiet (fail); try go_wp2)
                          go_loopg [4] k4 (fun kq v4 w' => ∃ (lV : Int), v4 = .int .i64 lV ∧ aA (aV.l1 kq lV aT aU aa ak = some r) ∧ aA (kq ≤ k4) ∧ aA (w'.heap[dX]? = some (.cells #[.int .i64 aT, .int .i64 aU, (.slice bv aa.length bq), (.slice bu ak.length bn)] 34 (0, 0))) ∧ aA (Below w.heap.size w w'))
                          case atStart => exact ⟨(0), (by first | rfl | (simp; done) | (simp [*]; done)), H', ⟨Nat.le_refl _⟩, ⟨by (with_reducible repeat (first | refine aM ?_ _ | refine aQ ?_ | refine aJ ?_ _)); exact bO.out⟩, ⟨by repeat (first | (with_reducible first | exact HB.out | apply aH | apply aG | apply aI | refine aN ?_ lS.out) | exact HB.out)⟩⟩
                          case round =>
                            clear H'
                            try clear c1
                            try clear c2
                            try clear p2
                            try clear p3
                            try clear q3
                            try clear hx3
                            try clear c4
                            try clear gz
                            try clear p6
                            try clear c7
                            try clear c9
                            try clear c9b0
                            try clear c12
                            try clear c14
                            try clear kW
                            try clear c14b1
                            try clear c17
                            try clear c18
                            try clear c18b0
                            try clear c19
                            try clear c19b0
                            try clear c20
                            try clear c20b0
                            try clear c22
                            try clear c22b0
                            try clear jl
                            try clear jk
                            try clear ji
                            try clear jh
                            try clear kP
                            try clear kN
                            try clear kM
                            try clear kL
                            try clear hcz15_0
                            try clear hcz15_1
                            try clear hcz15_2
                            try clear hcz15_3
                            try clear hcz16_0
                            try clear hcz16_1
                            try clear hcz16_2
                            try clear hcz16_3
                            try clear hcz21_0
                            try clear hcz21_1
                            try clear hcz21_2
                            try clear hcz21_3
                            try clear hcz23_0
                            try clear hcz23_1
                            try clear hcz23_2
                            try clear hcz23_3
                            try clear hcz24_0
                            try clear hcz24_1
                            try clear hcz24_2
                            try clear hcz24_3
                            try clear hcz25_0
                            try clear hcz25_1
                            try clear hcz25_2
                            try clear hcz25_3
                            try clear lI
                            try clear lH
                            try clear lG
                            try clear lF
                            try clear hcz6_0
                            try clear hcz6_1
                            try clear hcz6_2
                            try clear hcz6_3
                            try clear jg
                            try clear jf
                            try clear je
                            try clear jd
                            try clear kK
                            try clear kJ
                            try clear kI
                            try clear kG
                            try clear hfz15_0
                            try clear hfz15_1
                            try clear hfz15_2
                            try clear hfz15_3
                            try clear hfz16_0
                            try clear hfz16_1
                            try clear hfz16_2
                            try clear hfz16_3
                            try clear hfz21_0
                            try clear hfz21_1
                            try clear hfz21_2
                            try clear hfz21_3
                            try clear hfz23_0
                            try clear hfz23_1
                            try clear hfz23_2
                            try clear hfz23_3
                            try clear hfz24_0
                            try clear hfz24_1
                            try clear hfz24_2
                            try clear hfz24_3
                            try clear hfz25_0
                            try clear hfz25_1
                            try clear hfz25_2
                            try clear hfz25_3
                            try clear lD
                            try clear lC
                            try clear kz
                            try clear ky
                            try clear hfz6_0
                            try clear hfz6_1
                            try clear hfz6_2
                            try clear hfz6_3
                            try clear kr
                            try clear hx346_0
                            try clear p2
                            try clear p345
                            try clear p346
                            try clear p6
                            try clear q345
                            try clear q346
                            obtain ⟨lV, rfl, HA, HK5, bO, HB⟩ := hrel
                            cases gk with
                            | zero => exact absurd HA.out (by simp [aV.l1])
                            | succ k5 =>
                              have H := HA.out
                              clear HA
                              simp only [aV.l1] at H
                              by_cases c26 : lV < (ak.length : Int)
                              · rw [if_pos c26] at H
                                have c26b0 : decide (lV < (ak.length : Int)) = true := decide_eq_true c26
                                clear c26
                                by_cases c27 : 0 ≤ lV
                                · rw [if_pos c27] at H
                                  have c27b0 : decide (0 ≤ lV) = true := decide_eq_true c27
                                  clear c27
                                  by_cases c28 : (rd ak lV) < (-1)
                                  · rw [if_pos c28] at H
                                    have c28b0 : decide ((rd ak lV) < (-1)) = true := decide_eq_true c28
                                    clear c28
                                    obtain rfl := Option.some.inj H
                                    have hcz29_0 : wr.cell? ⟨dX, 0, none⟩ = some (.int .i64 aT) := (aD bO.out 0).trans rfl
                                    have hcz29_1 : wr.cell? ⟨dX, 1, none⟩ = some (.int .i64 aU) := (aD bO.out 1).trans rfl
                                    have hcz29_2 : wr.cell? ⟨dX, 2, none⟩ = some (.slice bv aa.length bq) := (aD bO.out 2).trans rfl
                                    have hcz29_3 : wr.cell? ⟨dX, 3, none⟩ = some (.slice bu ak.length bn) := (aD bO.out 3).trans rfl
                                    have hfz29_0 := aC bO.out 0
                                    have hfz29_1 := aC bO.out 1
                                    have hfz29_2 := aC bO.out 2
                                    have hfz29_3 := aC bO.out 3
                                    have p347 : 0 ≤ (lV : Int) := of_decide_eq_true (by first | (with_reducible assumption) | assumption)
                                    have q347 : lV < (ak.length : Int) := of_decide_eq_true (by first | (with_reducible assumption) | assumption)
                                    obtain ⟨ad347, e347, l9⟩ := Kd.dN gu.out lV p347 q347
                                    cases e347
                                    replace l9 := (HB.out.cell (World.block_lt_of_cell? w _ l9)).trans l9
                                    replace p347 := eq_true p347
                                    replace q347 := eq_true q347
                                    go_wp2
                                    repeat (go_quiet (fail); try go_wp2)
                                    go_ret
                                    exact ⟨by first | rfl | (simp [ag, af] <;> rfl) | (simp [*, ag, af] <;> rfl), by repeat (first | (with_reducible first | exact HB.out | apply aH | apply aG | apply aI | refine aN ?_ lS.out) | exact HB.out)⟩
                                  · rw [if_neg c28] at H
                                    have c28b0 : decide ((rd ak lV) < (-1)) = false := decide_eq_false c28
                                    clear c28
                                    by_cases c30 : (rd ak lV) > 1
                                    · rw [if_pos c30] at H
                                      have c30b0 : decide (1 < (rd ak lV)) = true := decide_eq_true c30
                                      clear c30
                                      obtain rfl := Option.some.inj H
                                      have hcz31_0 : wr.cell? ⟨dX, 0, none⟩ = some (.int .i64 aT) := (aD bO.out 0).trans rfl
                                      have hcz31_1 : wr.cell? ⟨dX, 1, none⟩ = some (.int .i64 aU) := (aD bO.out 1).trans rfl
                                      have hcz31_2 : wr.cell? ⟨dX, 2, none⟩ = some (.slice bv aa.length bq) := (aD bO.out 2).trans rfl
                                      have hcz31_3 : wr.cell? ⟨dX, 3, none⟩ = some (.slice bu ak.length bn) := (aD bO.out 3).trans rfl
                                      have hfz31_0 := aC bO.out 0
                                      have hfz31_1 := aC bO.out 1
                                      have hfz31_2 := aC bO.out 2
                                      have hfz31_3 := aC bO.out 3
                                      have p347 : 0 ≤ (lV : Int) := of_decide_eq_true (by first | (with_reducible assumption) | assumption)
                                      have q347 : lV < (ak.length : Int) := of_decide_eq_true (by first | (with_reducible assumption) | assumption)
                                      obtain ⟨ad347, e347, l9⟩ := Kd.dN gu.out lV p347 q347
                                      cases e347
                                      replace l9 := (HB.out.cell (World.block_lt_of_cell? w _ l9)).trans l9
                                      replace p347 := eq_true p347
                                      replace q347 := eq_true q347
                                      have p348 : 0 ≤ (lV : Int) := of_decide_eq_true (by first | (with_reducible assumption) | assumption)
                                      have q348 : lV < (ak.length : Int) := of_decide_eq_true (by first | (with_reducible assumption) | assumption)
                                      obtain ⟨ad348, e348, hx348_0⟩ := Kd.dN gu.out lV p348 q348
                                      obtain rfl : ad347 = ad348 := (by injection e348)
                                      replace hx348_0 := (HB.out.cell (World.block_lt_of_cell? w _ hx348_0)).trans hx348_0
                                      replace p348 := eq_true p348
                                      replace q348 := eq_true q348
                                      go_wp2
                                      repeat (go_quiet (fail); try go_wp2)
                                      go_ret
                                      exact ⟨by first | rfl | (simp [ag, af] <;> rfl) | (simp [*, ag, af] <;> rfl), by repeat (first | (with_reducible first | exact HB.out | apply aH | apply aG | apply aI | refine aN ?_ lS.out) | exact HB.out)⟩
                                    · rw [if_neg c30] at H
                                      have c30b0 : decide (1 < (rd ak lV)) = false := decide_eq_false c30
                                      clear c30
                                      have H' := aA.mk H
                                      clear H
                                      have hcz32_0 : wr.cell? ⟨dX, 0, none⟩ = some (.int .i64 aT) := (aD bO.out 0).trans rfl
                                      have hcz32_1 : wr.cell? ⟨dX, 1, none⟩ = some (.int .i64 aU) := (aD bO.out 1).trans rfl
                                      have hcz32_2 : wr.cell? ⟨dX, 2, none⟩ = some (.slice bv aa.length bq) := (aD bO.out 2).trans rfl
                                      have hcz32_3 : wr.cell? ⟨dX, 3, none⟩ = some (.slice bu ak.length bn) := (aD bO.out 3).trans rfl
                                      have hfz32_0 := aC bO.out 0
                                      have hfz32_1 := aC bO.out 1
                                      have hfz32_2 := aC bO.out 2
                                      have hfz32_3 := aC bO.out 3
                                      have p347 : 0 ≤ (lV : Int) := of_decide_eq_true (by first | (with_reducible assumption) | assumption)
                                      have q347 : lV < (ak.length : Int) := of_decide_eq_true (by first | (with_reducible assumption) | assumption)
                                      obtain ⟨ad347, e347, l9⟩ := Kd.dN gu.out lV p347 q347
                                      cases e347
                                      replace l9 := (HB.out.cell (World.block_lt_of_cell? w _ l9)).trans l9
                                      replace p347 := eq_true p347
                                      replace q347 := eq_true q347
                                      have p348 : 0 ≤ (lV : Int) := of_decide_eq_true (by first | (with_reducible assumption) | assumption)
                                      have q348 : lV < (ak.length : Int) := of_decide_eq_true (by first | (with_reducible assumption) | assumption)
                                      obtain ⟨ad348, e348, hx348_0⟩ := Kd.dN gu.out lV p348 q348
                                      obtain rfl : ad347 = ad348 := (by injection e348)
                                      replace hx348_0 := (HB.out.cell (World.block_lt_of_cell? w _ hx348_0)).trans hx348_0
                                      replace p348 := eq_true p348
                                      replace q348 := eq_true q348
                                      go_wp2
                                      repeat (go_quiet (fail); try go_wp2)
                                      go_roundg k5
                                      case measure => have := HJ1.out; have := HJ7.out; have := HJ12.out; have := HK4.out; have := HK5.out; omega
                                      case rel => exact ⟨(wrap64 (lV + 1)), (by first | rfl | (simp; done) | (simp [*]; done)), H', ⟨by have := HJ1.out; have := HJ7.out; have := HJ12.out; have := HK4.out; have := HK5.out; omega⟩, ⟨by (with_reducible repeat (first | refine aM ?_ _ | refine aQ ?_ | refine aJ ?_ _)); exact bO.out⟩, ⟨by repeat (first | (with_reducible first | exact HB.out | apply aH | apply aG | apply aI | refine aN ?_ lS.out) | exact HB.out)⟩⟩
                                · rw [if_neg c27] at H
                                  exact absurd H (by simp)
                              · rw [if_neg c26] at H
                                have c26b0 : decide (lV < (ak.length : Int)) = false := decide_eq_false c26
                                clear c26
                                obtain rfl := Option.some.inj H
                                have hcz33_0 : wr.cell? ⟨dX, 0, none⟩ = some (.int .i64 aT) := (aD bO.out 0).trans rfl
                                have hcz33_1 : wr.cell? ⟨dX, 1, none⟩ = some (.int .i64 aU) := (aD bO.out 1).trans rfl
                                have hcz33_2 : wr.cell? ⟨dX, 2, none⟩ = some (.slice bv aa.length bq) := (aD bO.out 2).trans rfl
                                have hcz33_3 : wr.cell? ⟨dX, 3, none⟩ = some (.slice bu ak.length bn) := (aD bO.out 3).trans rfl
                                have hfz33_0 := aC bO.out 0
                                have hfz33_1 := aC bO.out 1
                                have hfz33_2 := aC bO.out 2
                                have hfz33_3 := aC bO.out 3
                                go_wp2
                                repeat (go_quiet (fail); try go_wp2)
                                go_ret
                                exact ⟨by first | rfl | (simp [ag, af] <;> rfl) | (simp [*, ag, af] <;> rfl), by repeat (first | (with_reducible first | exact HB.out | apply aH | apply aG | apply aI | refine aN ?_ lS.out) | exact HB.out)⟩
end Go.Proofs.Ytocejofjmmoeaaa.X
end
