/- Texts of the statement NfaCounts, one behind the other: Go functions as Lean functions, the machine's calls, the plain law. -/
import Derived.Test.YtkaefgmgcghhiaaMNfaCounts0
import Derived.Test.YtkaefgmgcghhiaaMNfaCounts1
import Derived.Test.YtkaefgmgcghhiaaMNfaCounts2
import Derived.Test.YtkaefgmgcghhiaaMNfaCounts3
import Derived.Test.YtkaefgmgcghhiaaProg
set_option linter.unusedVariables false
set_option linter.unusedSimpArgs false
section
namespace Go.Proofs.Ytkaefgmgcghhiaa.X
open Go.RowKit Go.Proofs.YtkaefgmgcghhiaaW.PrintWords Go.Proofs.YtkaefgmgcghhiaaW.PrintLast Go.Proofs.YtkaefgmgcghhiaaW.PrintMore
attribute [local go_sem] eP eH fQ fP d9 dZ eO eG   -- for this text's walks alone
set_option linter.unusedVariables false
set_option linter.unusedSimpArgs false
def errW : Option Int → Value
  | none => .nilIface
  | some c => .iface 0 (.int .i64 c)
theorem az : errW none = .nilIface := rfl
theorem ay (c : Int) : errW (some c) = .iface 0 (.int .i64 c) := rfl
theorem info3 : (Try.prog.info? 3).map (fun i => (i.zero, i.size, i.bytes)) = some (some (.int .i64 0), 1, 8) := by kernel_rfl
theorem info4 : (Try.prog.info? 4).map (fun i => (i.zero, i.size, i.bytes)) = some (some (.bool false), 1, 1) := by kernel_rfl
theorem info22 : (Try.prog.info? 22).map (fun i => (i.zero, i.size, i.bytes)) = some (some (.slice none 0 0), 1, 24) := by kernel_rfl
theorem info23 : (Try.prog.info? 23).map (fun i => (i.zero, i.size, i.bytes)) = some (some (.slice none 0 0), 1, 24) := by kernel_rfl
theorem info80 : (Try.prog.info? 80).map (fun i => (i.zero, i.size, i.bytes)) = some (some (.agg #[(.int .i64 0), (.int .i64 0), (.int .i64 0)]), 3, 24) := by kernel_rfl
def jX (xs : List (List Int)) (i : Int) : (List Int) := xs.getD i.toNat ([] : List Int)
theorem at_L1 {w : World} {A : Option Addr} {n : Nat} {xs : List (List Int)} (h : Kd.C (Kd.slice 3 (Kd.int .i64)) w A n xs) (i : Int) (h0 : 0 ≤ i) (h1 : i < n) : ∃ ad A0 c0, A = some ad ∧ w.cell? (ad.add i.toNat) = some (.slice A0 (jX xs i).length c0) ∧ (jX xs i).length ≤ c0 ∧ (Kd.int .i64).C w A0 (jX xs i).length (jX xs i) := by
  obtain ⟨ad, c, e, _, hK, hc0⟩ := Kd.C_get h ([] : List Int) i h0 h1
  have hc : ∀ j u, c[j]? = some u → w.cell? (ad.add (i.toNat * 1 + j)) = some u := hc0
  obtain ⟨A0, c0, rfl, l0, g0⟩ := hK
  exact ⟨ad, A0, c0, e, by have hq := hc 0 _ rfl; rwa [Nat.mul_one, Nat.add_zero] at hq, l0, g0⟩
structure S80 where
  f0 : Int
  f1 : Int
  f2 : Int
def z80 : S80 := ⟨(0 : Int), (0 : Int), (0 : Int)⟩
def k80 : Kd S80 := Kd.iso (Kd.pair (Kd.int .i64) (Kd.pair (Kd.int .i64) (Kd.int .i64))) (fun x : S80 => (x.f0, x.f1, x.f2))
theorem k80_open {w : World} {x : S80} {cs : List Value} (h : k80.K w x cs) : cs = [.int .i64 x.f0, .int .i64 x.f1, .int .i64 x.f2] := by
  obtain ⟨_, _, rfl, rfl, ⟨_, _, rfl, rfl, rfl⟩⟩ := h
  exact rfl
theorem k80_openM {w : World} {base : Nat} {ok : Nat → Prop} {x : S80} {cs : List Value} (h : k80.M w base ok x cs) : cs = [.int .i64 x.f0, .int .i64 x.f1, .int .i64 x.f2] := by
  obtain ⟨_, _, rfl, rfl, ⟨_, _, rfl, rfl, rfl⟩⟩ := h
  exact rfl
theorem k80_mk (w : World) (x : S80)  : k80.K w x [.int .i64 x.f0, .int .i64 x.f1, .int .i64 x.f2] := ⟨[.int .i64 x.f0], [.int .i64 x.f1, .int .i64 x.f2], rfl, rfl, ⟨[.int .i64 x.f1], [.int .i64 x.f2], rfl, rfl, rfl⟩⟩
theorem k80_mkM (w : World) (base : Nat) (ok : Nat → Prop) (x : S80)  : k80.M w base ok x [.int .i64 x.f0, .int .i64 x.f1, .int .i64 x.f2] := ⟨[.int .i64 x.f0], [.int .i64 x.f1, .int .i64 x.f2], rfl, rfl, ⟨[.int .i64 x.f1], [.int .i64 x.f2], rfl, rfl, rfl⟩⟩
def ig (xs : List S80) (i : Int) : S80 := xs.getD i.toNat z80
theorem at_T80 {w : World} {A : Option Addr} {n : Nat} {xs : List S80} (h : Kd.C k80 w A n xs) (i : Int) (h0 : 0 ≤ i) (h1 : i < n) : ∃ ad , A = some ad ∧ w.cell? (ad.add (i.toNat * 3)) = some (.int .i64 (ig xs i).f0) ∧ w.cell? ⟨(ad.add (i.toNat * 3)).block, (ad.add (i.toNat * 3)).off + 1, none⟩ = some (.int .i64 (ig xs i).f1) ∧ w.cell? ⟨(ad.add (i.toNat * 3)).block, (ad.add (i.toNat * 3)).off + 2, none⟩ = some (.int .i64 (ig xs i).f2) := by
  obtain ⟨ad, c, e, _, hK, hc0⟩ := Kd.C_get h z80 i h0 h1
  have hc : ∀ j u, c[j]? = some u → w.cell? (ad.add (i.toNat * 3 + j)) = some u := hc0
  obtain rfl := k80_open hK
  exact ⟨ad, e, hc 0 _ rfl, by rw [← add_field _ _ 1 (by omega)]; exact hc 1 _ rfl, by rw [← add_field _ _ 2 (by omega)]; exact hc 2 _ rfl⟩
structure S25 where
  f0 : Int
  f1 : Int
  f2 : (List Int)
  f3 : (List Int)
  f4 : (List S80)
structure S43 where
  f0 : Int
  f1 : Int
  f2 : Int
  f3 : Int
  f4 : (List Int)
  f5 : (List Int)
def z43 : S43 := ⟨(0 : Int), (0 : Int), (0 : Int), (0 : Int), ([] : List Int), ([] : List Int)⟩
end Go.Proofs.Ytkaefgmgcghhiaa.X
end

section
namespace Go.Proofs.Ytkaefgmgcghhiaa.X
open Go.RowKit Go.Proofs.YtkaefgmgcghhiaaW.PrintWords Go.Proofs.YtkaefgmgcghhiaaW.PrintLast Go.Proofs.YtkaefgmgcghhiaaW.PrintMore
attribute [local go_sem] eP eH fQ fP d9 dZ eO eG   -- for this text's walks alone
set_option linter.unusedVariables false
set_option linter.unusedSimpArgs false
def jI.f (aX : Int) (aY : Int) (ae : Int) (aT : Int) (aM : List Int) (aU : List Int) : Option (Int) := if aX = 1 then (some aT) else (some (wrap64 (aT * aY)))
set_option maxHeartbeats 8000000 in
set_option maxRecDepth 100000 in
theorem jI.calls (aX : Int) (aY : Int) (ae : Int) (aT : Int) (bH : Option Addr) (bC : Nat) (aM : List Int) (bE : Option Addr) (bD : Nat) (aU : List Int) (r : Int) (w : World) (eQ : Kd.C (Kd.int .i64) w bH aM.length aM) (eu : aM.length ≤ bC) (fD : Kd.C (Kd.int .i64) w bE aU.length aU) (fG : aU.length ≤ bD) (h : jI.f aX aY ae aT aM aU = some r) :
    Calls Try.prog 106 #[.agg #[.int .i64 aX, .int .i64 aY, .int .i64 ae, .int .i64 aT, .slice bH aM.length bC, .slice bE aU.length bD]] w fun e w' => e = .returned (.int .i64 r) ∧ Below w.heap.size w w' := by
  have hu43 := Try.underlying43
  have dY := aC.mk eQ
  have eX := aC.mk eu
  clear eQ eu
  have dV := aC.mk fD
  have fA := aC.mk fG
  clear fD fG
  have HB := aC.mk (Below.refl w.heap.size w)
  have H : (if aX = 1 then (some aT) else (some (wrap64 (aT * aY)))) = some r := h
  clear h
  by_cases c2 : aX = 1
  · rw [if_pos c2] at H
    have c2b0 : (aX == 1) = true := beq_iff_eq.mpr c2
    have c2b1 : (aX != 1) = false := bne_eq_false_iff_eq.mpr c2
    clear c2
    obtain rfl := Option.some.inj H
    go_enter Try.func106, Try.ntmps106
    go_wp2_with (first | ((with_reducible refine bK (N := 1) rfl ?_); refine dA ?hg (N := 1) ?hd (cs := #[.int .i64 aX, .int .i64 aY, .int .i64 ae, .int .i64 aT, .slice bH aM.length bC, .slice bE aU.length bD]) (t := 43) ?hr ?_; (case hd => rfl); (case hg => rfl); (case hr => first | (go_simp; done) | (go_simp; rfl)); intro gb116 hg w3 hbox hb; have n0_ := aC.mk (ah (by repeat (first | (with_reducible first | exact HB.out | apply aH | apply aG | apply aI) | exact HB.out)) hb); have n1_ := aC.mk (hbox); have n2_ := aC.mk ((by rw [hg]; exact (aZ (by repeat (first | (with_reducible first | exact HB.out | apply aH | apply aG | apply aI) | exact HB.out))) : w.heap.size ≤ gb116)); have n3_ := aC.mk ((by rw [hg]; exact (aZ (by repeat (first | (with_reducible first | exact HB.out | apply aH | apply aG | apply aI) | exact HB.out))) : w.heap.size ≤ gb116)); clear HB; have HB := n0_; have jP := n1_; have GW116 := n2_; have GE116 := n3_; clear n0_ n1_ n2_ n3_; clear hb hbox hg; have hcz4_0 : w3.cell? ⟨gb116, 0, none⟩ = some (.int .i64 aX) := (aD jP.out 0).trans rfl; have hcz4_1 : w3.cell? ⟨gb116, 1, none⟩ = some (.int .i64 aY) := (aD jP.out 1).trans rfl; have hcz4_2 : w3.cell? ⟨gb116, 2, none⟩ = some (.int .i64 ae) := (aD jP.out 2).trans rfl; have hcz4_3 : w3.cell? ⟨gb116, 3, none⟩ = some (.int .i64 aT) := (aD jP.out 3).trans rfl; have hcz4_4 : w3.cell? ⟨gb116, 4, none⟩ = some (.slice bH aM.length bC) := (aD jP.out 4).trans rfl; have hcz4_5 : w3.cell? ⟨gb116, 5, none⟩ = some (.slice bE aU.length bD) := (aD jP.out 5).trans rfl; have hfz4_0 := aA jP.out 0; have hfz4_1 := aA jP.out 1; have hfz4_2 := aA jP.out 2; have hfz4_3 := aA jP.out 3; have hfz4_4 := aA jP.out 4; have hfz4_5 := aA jP.out 5))
    go_ret
    exact ⟨by first | rfl | (simp [az, ay] <;> rfl) | (simp [*, az, ay] <;> rfl), by repeat (first | (with_reducible first | exact HB.out | apply aH | apply aG | apply aI | refine aJ ?_ GE116.out) | exact HB.out)⟩
  · rw [if_neg c2] at H
    have c2b0 : (aX == 1) = false := beq_eq_false_iff_ne.mpr c2
    have c2b1 : (aX != 1) = true := bne_iff_ne.mpr c2
    obtain rfl := Option.some.inj H
    go_enter Try.func106, Try.ntmps106
    go_wp2_with (first | ((with_reducible refine bK (N := 1) rfl ?_); refine dA ?hg (N := 1) ?hd (cs := #[.int .i64 aX, .int .i64 aY, .int .i64 ae, .int .i64 aT, .slice bH aM.length bC, .slice bE aU.length bD]) (t := 43) ?hr ?_; (case hd => rfl); (case hg => rfl); (case hr => first | (go_simp; done) | (go_simp; rfl)); intro gb116 hg w5 hbox hb; have n0_ := aC.mk (ah (by repeat (first | (with_reducible first | exact HB.out | apply aH | apply aG | apply aI) | exact HB.out)) hb); have n1_ := aC.mk (hbox); have n2_ := aC.mk ((by rw [hg]; exact (aZ (by repeat (first | (with_reducible first | exact HB.out | apply aH | apply aG | apply aI) | exact HB.out))) : w.heap.size ≤ gb116)); have n3_ := aC.mk ((by rw [hg]; exact (aZ (by repeat (first | (with_reducible first | exact HB.out | apply aH | apply aG | apply aI) | exact HB.out))) : w.heap.size ≤ gb116)); clear HB; have HB := n0_; have jP := n1_; have GW116 := n2_; have GE116 := n3_; clear n0_ n1_ n2_ n3_; clear hb hbox hg; have iO : w5.cell? ⟨gb116, 0, none⟩ = some (.int .i64 aX) := (aD jP.out 0).trans rfl; have iN : w5.cell? ⟨gb116, 1, none⟩ = some (.int .i64 aY) := (aD jP.out 1).trans rfl; have iM : w5.cell? ⟨gb116, 2, none⟩ = some (.int .i64 ae) := (aD jP.out 2).trans rfl; have iL : w5.cell? ⟨gb116, 3, none⟩ = some (.int .i64 aT) := (aD jP.out 3).trans rfl; have iK : w5.cell? ⟨gb116, 4, none⟩ = some (.slice bH aM.length bC) := (aD jP.out 4).trans rfl; have iJ : w5.cell? ⟨gb116, 5, none⟩ = some (.slice bE aU.length bD) := (aD jP.out 5).trans rfl; have iI := aA jP.out 0; have iH := aA jP.out 1; have iG := aA jP.out 2; have iF := aA jP.out 3; have iE := aA jP.out 4; have iD := aA jP.out 5))
    go_ret
    exact ⟨by first | rfl | (simp [az, ay] <;> rfl) | (simp [*, az, ay] <;> rfl), by repeat (first | (with_reducible first | exact HB.out | apply aH | apply aG | apply aI | refine aJ ?_ GE116.out) | exact HB.out)⟩
end Go.Proofs.Ytkaefgmgcghhiaa.X
end

section
namespace Go.Proofs.Ytkaefgmgcghhiaa.X
open Go.RowKit Go.Proofs.YtkaefgmgcghhiaaW.PrintWords Go.Proofs.YtkaefgmgcghhiaaW.PrintLast Go.Proofs.YtkaefgmgcghhiaaW.PrintMore
attribute [local go_sem] eP eH fQ fP d9 dZ eO eG   -- for this text's walks alone
set_option linter.unusedVariables false
set_option linter.unusedSimpArgs false
mutual
def bL.j0 : Nat → Bool → Int → Int → Int → Int → List Int → List Int → Option (Int)
  | 0, _, _, _, _, _, _, _ => none
  | k + 1, x3, jW, ib, iZ, iY, jV, jU => if x3 = true then (some 30) else (if ib < 1 then (bL.j1 k (decide (ib < 1)) jW ib iZ iY jV jU) else (bL.j1 k (decide (ib > 64)) jW ib iZ iY jV jU))
def bL.j1 : Nat → Bool → Int → Int → Int → Int → List Int → List Int → Option (Int)
  | 0, _, _, _, _, _, _, _ => none
  | k + 1, x12, jW, ib, iZ, iY, jV, jU => if x12 = true then (some 1) else (if jW = 1 then (bL.j2 k (iZ != 2) jW ib iZ iY jV jU) else (bL.j2 k false jW ib iZ iY jV jU))
def bL.j2 : Nat → Bool → Int → Int → Int → Int → List Int → List Int → Option (Int)
  | 0, _, _, _, _, _, _, _ => none
  | k + 1, x19, jW, ib, iZ, iY, jV, jU => if x19 = true then (some 33) else (if iZ < 1 then (bL.j3 k (decide (iZ < 1)) jW ib iZ iY jV jU) else (bL.j3 k (decide (iZ > 64)) jW ib iZ iY jV jU))
def bL.j3 : Nat → Bool → Int → Int → Int → Int → List Int → List Int → Option (Int)
  | 0, _, _, _, _, _, _, _ => none
  | k + 1, x28, jW, ib, iZ, iY, jV, jU => if x28 = true then (some 33) else (if iY < 1 then (bL.j4 k (decide (iY < 1)) jW ib iZ iY jV jU) else (bL.j4 k (decide (iY > 1024)) jW ib iZ iY jV jU))
def bL.j4 : Nat → Bool → Int → Int → Int → Int → List Int → List Int → Option (Int)
  | 0, _, _, _, _, _, _, _ => none
  | k + 1, x35, jW, ib, iZ, iY, jV, jU => if x35 = true then (some 3) else (if (jV.length : Int) = (wrap64 (iY * ib)) then ((jI.f jW ib iZ iY jV jU).bind fun t118 => (if (jU.length : Int) = t118 then (some 0) else (some 31))) else (some 31))
end
def bL.f (k : Nat) (aX : Int) (aY : Int) (ae : Int) (aT : Int) (aM : List Int) (aU : List Int) : Option (Int) := if aX = 1 then (bL.j0 k false aX aY ae aT aM aU) else (bL.j0 k (aX != 2) aX aY ae aT aM aU)
set_option maxHeartbeats 8000000 in
set_option maxRecDepth 100000 in
theorem bL.calls (k : Nat) (aX : Int) (aY : Int) (ae : Int) (aT : Int) (bH : Option Addr) (bC : Nat) (aM : List Int) (bE : Option Addr) (bD : Nat) (aU : List Int) (r : Int) (w : World) (eQ : Kd.C (Kd.int .i64) w bH aM.length aM) (eu : aM.length ≤ bC) (fD : Kd.C (Kd.int .i64) w bE aU.length aU) (fG : aU.length ≤ bD) (h : bL.f k aX aY ae aT aM aU = some r) :
    Calls Try.prog 93 #[.agg #[.int .i64 aX, .int .i64 aY, .int .i64 ae, .int .i64 aT, .slice bH aM.length bC, .slice bE aU.length bD]] w fun e w' => e = .returned (.int .i64 r) ∧ Below w.heap.size w w' := by
  have hu43 := Try.underlying43
  have dY := aC.mk eQ
  have eX := aC.mk eu
  clear eQ eu
  have dV := aC.mk fD
  have fA := aC.mk fG
  clear fD fG
  have HB := aC.mk (Below.refl w.heap.size w)
  have H : (if aX = 1 then (bL.j0 k false aX aY ae aT aM aU) else (bL.j0 k (aX != 2) aX aY ae aT aM aU)) = some r := h
  clear h
  have HC2 := aC.mk H
  clear H
  go_enter Try.func93, Try.ntmps93
  go_upto_region 1 with (first | ((with_reducible refine bK (N := 1) rfl ?_); refine dA ?hg (N := 1) ?hd (cs := #[.int .i64 aX, .int .i64 aY, .int .i64 ae, .int .i64 aT, .slice bH aM.length bC, .slice bE aU.length bD]) (t := 43) ?hr ?_; (case hd => rfl); (case hg => rfl); (case hr => first | (go_simp; done) | (go_simp; rfl)); intro bq hg w3 hbox hb; have n0_ := aC.mk (ah (by repeat (first | (with_reducible first | exact HB.out | apply aH | apply aG | apply aI) | exact HB.out)) hb); have n1_ := aC.mk (hbox); have n2_ := aC.mk ((by rw [hg]; exact (aZ (by repeat (first | (with_reducible first | exact HB.out | apply aH | apply aG | apply aI) | exact HB.out))) : w.heap.size ≤ bq)); have n3_ := aC.mk ((by rw [hg]; exact (aZ (by repeat (first | (with_reducible first | exact HB.out | apply aH | apply aG | apply aI) | exact HB.out))) : w.heap.size ≤ bq)); clear HB; have HB := n0_; have bI := n1_; have GW117 := n2_; have lT := n3_; clear n0_ n1_ n2_ n3_; clear hb hbox hg))
  (try simp only [Act.put, List.setIfInBounds_toArray, List.set_cons_zero, List.set_cons_succ])
  go_cut [3] (fun v3 wc => ∃ (kq : Nat) (x3_1 : Bool), v3 = .bool x3_1 ∧ aC (bL.j0 kq x3_1 aX aY ae aT aM aU = some r) ∧ aC (kq ≤ k) ∧ aC (wc.heap[bq]? = some (.cells #[.int .i64 aX, .int .i64 aY, .int .i64 ae, .int .i64 aT, (.slice bH aM.length bC), (.slice bE aU.length bD)] 43 (0, 0))) ∧ aC (Below w.heap.size w wc))
  case first =>
    have H := HC2.out
    clear HC2
    by_cases c4 : aX = 1
    · rw [if_pos c4] at H
      have iB : (aX == 1) = true := beq_iff_eq.mpr c4
      have ja : (aX != 1) = false := bne_eq_false_iff_eq.mpr c4
      clear c4
      (first | rw [iB] | (simp only [bT, bU]; rw [iB]) | skip)
      have H' := aC.mk H
      clear H
      have lJ : w3.cell? ⟨bq, 0, none⟩ = some (.int .i64 aX) := (aD bI.out 0).trans rfl
      have lI : w3.cell? ⟨bq, 1, none⟩ = some (.int .i64 aY) := (aD bI.out 1).trans rfl
      have lH : w3.cell? ⟨bq, 2, none⟩ = some (.int .i64 ae) := (aD bI.out 2).trans rfl
      have lG : w3.cell? ⟨bq, 3, none⟩ = some (.int .i64 aT) := (aD bI.out 3).trans rfl
      have lF : w3.cell? ⟨bq, 4, none⟩ = some (.slice bH aM.length bC) := (aD bI.out 4).trans rfl
      have lD : w3.cell? ⟨bq, 5, none⟩ = some (.slice bE aU.length bD) := (aD bI.out 5).trans rfl
      have lC := aA bI.out 0
      have kz := aA bI.out 1
      have ky := aA bI.out 2
      have kw := aA bI.out 3
      have kv := aA bI.out 4
      have ku := aA bI.out 5
      go_wp2
      go_meet
      case rel => exact ⟨_, (false), (by first | rfl | (simp; done) | (simp [*]; done)), H', ⟨by first | omega | exact Nat.le_refl _⟩, ⟨by (with_reducible repeat (first | refine ag ?_ _ | refine af ?_ | refine aW ?_ _)); exact bI.out⟩, ⟨by repeat (first | (with_reducible first | exact HB.out | apply aH | apply aG | apply aI | refine aJ ?_ lT.out) | exact HB.out)⟩⟩
    · rw [if_neg c4] at H
      have iB : (aX == 1) = false := beq_eq_false_iff_ne.mpr c4
      have ja : (aX != 1) = true := bne_iff_ne.mpr c4
      (first | rw [iB] | (simp only [bT, bU]; rw [iB]) | skip)
      have H' := aC.mk H
      clear H
      have iO : w3.cell? ⟨bq, 0, none⟩ = some (.int .i64 aX) := (aD bI.out 0).trans rfl
      have iN : w3.cell? ⟨bq, 1, none⟩ = some (.int .i64 aY) := (aD bI.out 1).trans rfl
      have iM : w3.cell? ⟨bq, 2, none⟩ = some (.int .i64 ae) := (aD bI.out 2).trans rfl
      have iL : w3.cell? ⟨bq, 3, none⟩ = some (.int .i64 aT) := (aD bI.out 3).trans rfl
      have iK : w3.cell? ⟨bq, 4, none⟩ = some (.slice bH aM.length bC) := (aD bI.out 4).trans rfl
      have iJ : w3.cell? ⟨bq, 5, none⟩ = some (.slice bE aU.length bD) := (aD bI.out 5).trans rfl
      have iI := aA bI.out 0
      have iH := aA bI.out 1
      have iG := aA bI.out 2
      have iF := aA bI.out 3
      have iE := aA bI.out 4
      have iD := aA bI.out 5
      go_wp2
      go_meet
      case rel => exact ⟨_, ((aX != 2)), (by first | rfl | (simp; done) | (simp [*]; done)), H', ⟨by first | omega | exact Nat.le_refl _⟩, ⟨by (with_reducible repeat (first | refine ag ?_ _ | refine af ?_ | refine aW ?_ _)); exact bI.out⟩, ⟨by repeat (first | (with_reducible first | exact HB.out | apply aH | apply aG | apply aI | refine aJ ?_ lT.out) | exact HB.out)⟩⟩
  case rest =>
    clear HC2
    try clear p2
    try clear c4
    try clear iB
    try clear ja
    try clear lJ
    try clear lI
    try clear lH
    try clear lG
    try clear lF
    try clear lD
    try clear iO
    try clear iN
    try clear iM
    try clear iL
    try clear iK
    try clear iJ
    try clear lC
    try clear kz
    try clear ky
    try clear kw
    try clear kv
    try clear ku
    try clear iI
    try clear iH
    try clear iG
    try clear iF
    try clear iE
    try clear iD
    obtain ⟨kq, x3_1, rfl, HA, HJ1, bI, HB⟩ := hcut
    cases kq with
    | zero => exact absurd HA.out (by simp [bL.j0])
    | succ kj1 =>
      have H := HA.out
      clear HA
      simp only [bL.j0] at H
      by_cases c7 : x3_1 = true
      · subst c7
        have H1 : (some 30) = some r := by rw [if_pos rfl] at H; exact H
        clear H
        have H := H1
        clear H1
        obtain rfl := Option.some.inj H
        go_wp2
        go_ret
        exact ⟨by first | rfl | (simp [az, ay] <;> rfl) | (simp [*, az, ay] <;> rfl), by repeat (first | (with_reducible first | exact HB.out | apply aH | apply aG | apply aI | refine aJ ?_ lT.out) | exact HB.out)⟩
      · replace c7 := Bool.eq_false_iff.mpr c7
        subst c7
        have H1 : (if aY < 1 then (bL.j1 kj1 (decide (aY < 1)) aX aY ae aT aM aU) else (bL.j1 kj1 (decide (aY > 64)) aX aY ae aT aM aU)) = some r := by rw [if_neg (show ¬ (false = true) by decide)] at H; exact H
        clear H
        have H := H1
        clear H1
        have HC8 := aC.mk H
        clear H
        have kJ : wc.cell? ⟨bq, 0, none⟩ = some (.int .i64 aX) := (aD bI.out 0).trans rfl
        have kI : wc.cell? ⟨bq, 1, none⟩ = some (.int .i64 aY) := (aD bI.out 1).trans rfl
        have kH : wc.cell? ⟨bq, 2, none⟩ = some (.int .i64 ae) := (aD bI.out 2).trans rfl
        have kG : wc.cell? ⟨bq, 3, none⟩ = some (.int .i64 aT) := (aD bI.out 3).trans rfl
        have kF : wc.cell? ⟨bq, 4, none⟩ = some (.slice bH aM.length bC) := (aD bI.out 4).trans rfl
        have kE : wc.cell? ⟨bq, 5, none⟩ = some (.slice bE aU.length bD) := (aD bI.out 5).trans rfl
        have kD := aA bI.out 0
        have kC := aA bI.out 1
        have jy := aA bI.out 2
        have jw := aA bI.out 3
        have jv := aA bI.out 4
        have jr := aA bI.out 5
        go_upto_if 12 with (fail)
        go_cut [12] (fun v12 wc => ∃ (kq : Nat) (x12_7 : Bool), v12 = .bool x12_7 ∧ aC (bL.j1 kq x12_7 aX aY ae aT aM aU = some r) ∧ aC (kq ≤ kj1) ∧ aC (wc.heap[bq]? = some (.cells #[.int .i64 aX, .int .i64 aY, .int .i64 ae, .int .i64 aT, (.slice bH aM.length bC), (.slice bE aU.length bD)] 43 (0, 0))) ∧ aC (Below w.heap.size w wc))
        case first =>
          have H := HC8.out
          clear HC8
          by_cases c10 : aY < 1
          · rw [if_pos c10] at H
            have c10b0 : decide (aY < 1) = true := decide_eq_true c10
            clear c10
            (first | rw [c10b0] | (simp only [bT, bU]; rw [c10b0]) | skip)
            have H' := aC.mk H
            clear H
            go_wp2
            go_meet
            case rel => exact ⟨_, (decide (aY < 1)), (by first | rfl | (simp; done) | (simp [*]; done)), H', ⟨by have := HJ1.out; first | omega | exact Nat.le_refl _⟩, ⟨by (with_reducible repeat (first | refine ag ?_ _ | refine af ?_ | refine aW ?_ _)); exact bI.out⟩, ⟨by repeat (first | (with_reducible first | exact HB.out | apply aH | apply aG | apply aI | refine aJ ?_ lT.out) | exact HB.out)⟩⟩
          · rw [if_neg c10] at H
            have c10b0 : decide (aY < 1) = false := decide_eq_false c10
            clear c10
            (first | rw [c10b0] | (simp only [bT, bU]; rw [c10b0]) | skip)
            have H' := aC.mk H
            clear H
            have gL : wc.cell? ⟨bq, 0, none⟩ = some (.int .i64 aX) := (aD bI.out 0).trans rfl
            have gK : wc.cell? ⟨bq, 1, none⟩ = some (.int .i64 aY) := (aD bI.out 1).trans rfl
            have gJ : wc.cell? ⟨bq, 2, none⟩ = some (.int .i64 ae) := (aD bI.out 2).trans rfl
            have gI : wc.cell? ⟨bq, 3, none⟩ = some (.int .i64 aT) := (aD bI.out 3).trans rfl
            have gH : wc.cell? ⟨bq, 4, none⟩ = some (.slice bH aM.length bC) := (aD bI.out 4).trans rfl
            have gG : wc.cell? ⟨bq, 5, none⟩ = some (.slice bE aU.length bD) := (aD bI.out 5).trans rfl
            have gF := aA bI.out 0
            have gD := aA bI.out 1
            have gB := aA bI.out 2
            have fu := aA bI.out 3
            have fq := aA bI.out 4
            have fo := aA bI.out 5
            go_wp2
            go_meet
            case rel => exact ⟨_, (decide (aY > 64)), (by first | rfl | (simp; done) | (simp [*]; done)), H', ⟨by have := HJ1.out; first | omega | exact Nat.le_refl _⟩, ⟨by (with_reducible repeat (first | refine ag ?_ _ | refine af ?_ | refine aW ?_ _)); exact bI.out⟩, ⟨by repeat (first | (with_reducible first | exact HB.out | apply aH | apply aG | apply aI | refine aJ ?_ lT.out) | exact HB.out)⟩⟩
        case rest =>
          clear HC8
          try clear c1
          try clear p2
          try clear c4
          try clear iB
          try clear ja
          try clear c7
          try clear c9
          try clear c10
          try clear c10b0
          try clear gL
          try clear gK
          try clear gJ
          try clear gI
          try clear gH
          try clear gG
          try clear lJ
          try clear lI
          try clear lH
          try clear lG
          try clear lF
          try clear lD
          try clear iO
          try clear iN
          try clear iM
          try clear iL
          try clear iK
          try clear iJ
          try clear kJ
          try clear kI
          try clear kH
          try clear kG
          try clear kF
          try clear kE
          try clear gF
          try clear gD
          try clear gB
          try clear fu
          try clear fq
          try clear fo
          try clear lC
          try clear kz
          try clear ky
          try clear kw
          try clear kv
          try clear ku
          try clear iI
          try clear iH
          try clear iG
          try clear iF
          try clear iE
          try clear iD
          try clear kD
          try clear kC
          try clear jy
          try clear jw
          try clear jv
          try clear jr
          try clear p2
          obtain ⟨kq, x12_7, rfl, HA, HJ7, bI, HB⟩ := hcut
          cases kq with
          | zero => exact absurd HA.out (by simp [bL.j1])
          | succ kj7 =>
            have H := HA.out
            clear HA
            simp only [bL.j1] at H
            by_cases c12 : x12_7 = true
            · subst c12
              have H1 : (some 1) = some r := by rw [if_pos rfl] at H; exact H
              clear H
              have H := H1
              clear H1
              obtain rfl := Option.some.inj H
              go_wp2
              go_ret
              exact ⟨by first | rfl | (simp [az, ay] <;> rfl) | (simp [*, az, ay] <;> rfl), by repeat (first | (with_reducible first | exact HB.out | apply aH | apply aG | apply aI | refine aJ ?_ lT.out) | exact HB.out)⟩
            · replace c12 := Bool.eq_false_iff.mpr c12
              subst c12
              have H1 : (if aX = 1 then (bL.j2 kj7 (ae != 2) aX aY ae aT aM aU) else (bL.j2 kj7 false aX aY ae aT aM aU)) = some r := by rw [if_neg (show ¬ (false = true) by decide)] at H; exact H
              clear H
              have H := H1
              clear H1
              have HC13 := aC.mk H
              clear H
              go_upto_region 4 with (fail)
              go_cut [19] (fun v19 wc => ∃ (kq : Nat) (x19_12 : Bool), v19 = .bool x19_12 ∧ aC (bL.j2 kq x19_12 aX aY ae aT aM aU = some r) ∧ aC (kq ≤ kj7) ∧ aC (wc.heap[bq]? = some (.cells #[.int .i64 aX, .int .i64 aY, .int .i64 ae, .int .i64 aT, (.slice bH aM.length bC), (.slice bE aU.length bD)] 43 (0, 0))) ∧ aC (Below w.heap.size w wc))
              case first =>
                have H := HC13.out
                clear HC13
                by_cases c14 : aX = 1
                · rw [if_pos c14] at H
                  have jg : (aX == 1) = true := beq_iff_eq.mpr c14
                  have c14b1 : (aX != 1) = false := bne_eq_false_iff_eq.mpr c14
                  clear c14
                  (first | rw [jg] | (simp only [bT, bU]; rw [jg]) | skip)
                  have H' := aC.mk H
                  clear H
                  have hcz15_0 : wc.cell? ⟨bq, 0, none⟩ = some (.int .i64 aX) := (aD bI.out 0).trans rfl
                  have hcz15_1 : wc.cell? ⟨bq, 1, none⟩ = some (.int .i64 aY) := (aD bI.out 1).trans rfl
                  have hcz15_2 : wc.cell? ⟨bq, 2, none⟩ = some (.int .i64 ae) := (aD bI.out 2).trans rfl
                  have hcz15_3 : wc.cell? ⟨bq, 3, none⟩ = some (.int .i64 aT) := (aD bI.out 3).trans rfl
                  have hcz15_4 : wc.cell? ⟨bq, 4, none⟩ = some (.slice bH aM.length bC) := (aD bI.out 4).trans rfl
                  have hcz15_5 : wc.cell? ⟨bq, 5, none⟩ = some (.slice bE aU.length bD) := (aD bI.out 5).trans rfl
                  have hfz15_0 := aA bI.out 0
                  have hfz15_1 := aA bI.out 1
                  have hfz15_2 := aA bI.out 2
                  have hfz15_3 := aA bI.out 3
                  have hfz15_4 := aA bI.out 4
                  have hfz15_5 := aA bI.out 5
                  go_wp2
                  go_meet
                  case rel => exact ⟨_, ((ae != 2)), (by first | rfl | (simp; done) | (simp [*]; done)), H', ⟨by have := HJ1.out; have := HJ7.out; first | omega | exact Nat.le_refl _⟩, ⟨by (with_reducible repeat (first | refine ag ?_ _ | refine af ?_ | refine aW ?_ _)); exact bI.out⟩, ⟨by repeat (first | (with_reducible first | exact HB.out | apply aH | apply aG | apply aI | refine aJ ?_ lT.out) | exact HB.out)⟩⟩
                · rw [if_neg c14] at H
                  have jg : (aX == 1) = false := beq_eq_false_iff_ne.mpr c14
                  have c14b1 : (aX != 1) = true := bne_iff_ne.mpr c14
                  (first | rw [jg] | (simp only [bT, bU]; rw [jg]) | skip)
                  have H' := aC.mk H
                  clear H
                  have hcz16_0 : wc.cell? ⟨bq, 0, none⟩ = some (.int .i64 aX) := (aD bI.out 0).trans rfl
                  have hcz16_1 : wc.cell? ⟨bq, 1, none⟩ = some (.int .i64 aY) := (aD bI.out 1).trans rfl
                  have hcz16_2 : wc.cell? ⟨bq, 2, none⟩ = some (.int .i64 ae) := (aD bI.out 2).trans rfl
                  have hcz16_3 : wc.cell? ⟨bq, 3, none⟩ = some (.int .i64 aT) := (aD bI.out 3).trans rfl
                  have hcz16_4 : wc.cell? ⟨bq, 4, none⟩ = some (.slice bH aM.length bC) := (aD bI.out 4).trans rfl
                  have hcz16_5 : wc.cell? ⟨bq, 5, none⟩ = some (.slice bE aU.length bD) := (aD bI.out 5).trans rfl
                  have hfz16_0 := aA bI.out 0
                  have hfz16_1 := aA bI.out 1
                  have hfz16_2 := aA bI.out 2
                  have hfz16_3 := aA bI.out 3
                  have hfz16_4 := aA bI.out 4
                  have hfz16_5 := aA bI.out 5
                  go_wp2
                  go_meet
                  case rel => exact ⟨_, (false), (by first | rfl | (simp; done) | (simp [*]; done)), H', ⟨by have := HJ1.out; have := HJ7.out; first | omega | exact Nat.le_refl _⟩, ⟨by (with_reducible repeat (first | refine ag ?_ _ | refine af ?_ | refine aW ?_ _)); exact bI.out⟩, ⟨by repeat (first | (with_reducible first | exact HB.out | apply aH | apply aG | apply aI | refine aJ ?_ lT.out) | exact HB.out)⟩⟩
              case rest =>
                clear HC13
                try clear c1
                try clear p2
                try clear c4
                try clear iB
                try clear ja
                try clear c7
                try clear c9
                try clear c10
                try clear c10b0
                try clear c12
                try clear c14
                try clear jg
                try clear c14b1
                try clear gL
                try clear gK
                try clear gJ
                try clear gI
                try clear gH
                try clear gG
                try clear hcz15_0
                try clear hcz15_1
                try clear hcz15_2
                try clear hcz15_3
                try clear hcz15_4
                try clear hcz15_5
                try clear hcz16_0
                try clear hcz16_1
                try clear hcz16_2
                try clear hcz16_3
                try clear hcz16_4
                try clear hcz16_5
                try clear lJ
                try clear lI
                try clear lH
                try clear lG
                try clear lF
                try clear lD
                try clear iO
                try clear iN
                try clear iM
                try clear iL
                try clear iK
                try clear iJ
                try clear kJ
                try clear kI
                try clear kH
                try clear kG
                try clear kF
                try clear kE
                try clear gF
                try clear gD
                try clear gB
                try clear fu
                try clear fq
                try clear fo
                try clear hfz15_0
                try clear hfz15_1
                try clear hfz15_2
                try clear hfz15_3
                try clear hfz15_4
                try clear hfz15_5
                try clear hfz16_0
                try clear hfz16_1
                try clear hfz16_2
                try clear hfz16_3
                try clear hfz16_4
                try clear hfz16_5
                try clear lC
                try clear kz
                try clear ky
                try clear kw
                try clear kv
                try clear ku
                try clear iI
                try clear iH
                try clear iG
                try clear iF
                try clear iE
                try clear iD
                try clear kD
                try clear kC
                try clear jy
                try clear jw
                try clear jv
                try clear jr
                try clear p2
                obtain ⟨kq, x19_12, rfl, HA, HJ12, bI, HB⟩ := hcut
                cases kq with
                | zero => exact absurd HA.out (by simp [bL.j2])
                | succ kj12 =>
                  have H := HA.out
                  clear HA
                  simp only [bL.j2] at H
                  by_cases c17 : x19_12 = true
                  · subst c17
                    have H1 : (some 33) = some r := by rw [if_pos rfl] at H; exact H
                    clear H
                    have H := H1
                    clear H1
                    obtain rfl := Option.some.inj H
                    go_wp2
                    go_ret
                    exact ⟨by first | rfl | (simp [az, ay] <;> rfl) | (simp [*, az, ay] <;> rfl), by repeat (first | (with_reducible first | exact HB.out | apply aH | apply aG | apply aI | refine aJ ?_ lT.out) | exact HB.out)⟩
                  · replace c17 := Bool.eq_false_iff.mpr c17
                    subst c17
                    have H1 : (if ae < 1 then (bL.j3 kj12 (decide (ae < 1)) aX aY ae aT aM aU) else (bL.j3 kj12 (decide (ae > 64)) aX aY ae aT aM aU)) = some r := by rw [if_neg (show ¬ (false = true) by decide)] at H; exact H
                    clear H
                    have H := H1
                    clear H1
                    have HC18 := aC.mk H
                    clear H
                    have hcz19_0 : wc.cell? ⟨bq, 0, none⟩ = some (.int .i64 aX) := (aD bI.out 0).trans rfl
                    have hcz19_1 : wc.cell? ⟨bq, 1, none⟩ = some (.int .i64 aY) := (aD bI.out 1).trans rfl
                    have hcz19_2 : wc.cell? ⟨bq, 2, none⟩ = some (.int .i64 ae) := (aD bI.out 2).trans rfl
                    have hcz19_3 : wc.cell? ⟨bq, 3, none⟩ = some (.int .i64 aT) := (aD bI.out 3).trans rfl
                    have hcz19_4 : wc.cell? ⟨bq, 4, none⟩ = some (.slice bH aM.length bC) := (aD bI.out 4).trans rfl
                    have hcz19_5 : wc.cell? ⟨bq, 5, none⟩ = some (.slice bE aU.length bD) := (aD bI.out 5).trans rfl
                    have hfz19_0 := aA bI.out 0
                    have hfz19_1 := aA bI.out 1
                    have hfz19_2 := aA bI.out 2
                    have hfz19_3 := aA bI.out 3
                    have hfz19_4 := aA bI.out 4
                    have hfz19_5 := aA bI.out 5
                    go_upto_if 28 with (fail)
                    go_cut [28] (fun v28 wc => ∃ (kq : Nat) (x28_17 : Bool), v28 = .bool x28_17 ∧ aC (bL.j3 kq x28_17 aX aY ae aT aM aU = some r) ∧ aC (kq ≤ kj12) ∧ aC (wc.heap[bq]? = some (.cells #[.int .i64 aX, .int .i64 aY, .int .i64 ae, .int .i64 aT, (.slice bH aM.length bC), (.slice bE aU.length bD)] 43 (0, 0))) ∧ aC (Below w.heap.size w wc))
                    case first =>
                      have H := HC18.out
                      clear HC18
                      by_cases c20 : ae < 1
                      · rw [if_pos c20] at H
                        have jf : decide (ae < 1) = true := decide_eq_true c20
                        clear c20
                        (first | rw [jf] | (simp only [bT, bU]; rw [jf]) | skip)
                        have H' := aC.mk H
                        clear H
                        go_wp2
                        go_meet
                        case rel => exact ⟨_, (decide (ae < 1)), (by first | rfl | (simp; done) | (simp [*]; done)), H', ⟨by have := HJ1.out; have := HJ7.out; have := HJ12.out; first | omega | exact Nat.le_refl _⟩, ⟨by (with_reducible repeat (first | refine ag ?_ _ | refine af ?_ | refine aW ?_ _)); exact bI.out⟩, ⟨by repeat (first | (with_reducible first | exact HB.out | apply aH | apply aG | apply aI | refine aJ ?_ lT.out) | exact HB.out)⟩⟩
                      · rw [if_neg c20] at H
                        have jf : decide (ae < 1) = false := decide_eq_false c20
                        clear c20
                        (first | rw [jf] | (simp only [bT, bU]; rw [jf]) | skip)
                        have H' := aC.mk H
                        clear H
                        have hcz21_0 : wc.cell? ⟨bq, 0, none⟩ = some (.int .i64 aX) := (aD bI.out 0).trans rfl
                        have hcz21_1 : wc.cell? ⟨bq, 1, none⟩ = some (.int .i64 aY) := (aD bI.out 1).trans rfl
                        have hcz21_2 : wc.cell? ⟨bq, 2, none⟩ = some (.int .i64 ae) := (aD bI.out 2).trans rfl
                        have hcz21_3 : wc.cell? ⟨bq, 3, none⟩ = some (.int .i64 aT) := (aD bI.out 3).trans rfl
                        have hcz21_4 : wc.cell? ⟨bq, 4, none⟩ = some (.slice bH aM.length bC) := (aD bI.out 4).trans rfl
                        have hcz21_5 : wc.cell? ⟨bq, 5, none⟩ = some (.slice bE aU.length bD) := (aD bI.out 5).trans rfl
                        have hfz21_0 := aA bI.out 0
                        have hfz21_1 := aA bI.out 1
                        have hfz21_2 := aA bI.out 2
                        have hfz21_3 := aA bI.out 3
                        have hfz21_4 := aA bI.out 4
                        have hfz21_5 := aA bI.out 5
                        go_wp2
                        go_meet
                        case rel => exact ⟨_, (decide (ae > 64)), (by first | rfl | (simp; done) | (simp [*]; done)), H', ⟨by have := HJ1.out; have := HJ7.out; have := HJ12.out; first | omega | exact Nat.le_refl _⟩, ⟨by (with_reducible repeat (first | refine ag ?_ _ | refine af ?_ | refine aW ?_ _)); exact bI.out⟩, ⟨by repeat (first | (with_reducible first | exact HB.out | apply aH | apply aG | apply aI | refine aJ ?_ lT.out) | exact HB.out)⟩⟩
                    case rest =>
                      clear HC18
                      try clear c1
                      try clear c2
                      try clear p2
                      try clear c4
                      try clear iB
                      try clear ja
                      try clear c7
                      try clear c9
                      try clear c10
                      try clear c10b0
                      try clear c12
                      try clear c14
                      try clear jg
                      try clear c14b1
                      try clear c17
                      try clear c20
                      try clear jf
                      try clear gL
                      try clear gK
                      try clear gJ
                      try clear gI
                      try clear gH
                      try clear gG
                      try clear hcz15_0
                      try clear hcz15_1
                      try clear hcz15_2
                      try clear hcz15_3
                      try clear hcz15_4
                      try clear hcz15_5
                      try clear hcz16_0
                      try clear hcz16_1
                      try clear hcz16_2
                      try clear hcz16_3
                      try clear hcz16_4
                      try clear hcz16_5
                      try clear hcz19_0
                      try clear hcz19_1
                      try clear hcz19_2
                      try clear hcz19_3
                      try clear hcz19_4
                      try clear hcz19_5
                      try clear hcz21_0
                      try clear hcz21_1
                      try clear hcz21_2
                      try clear hcz21_3
                      try clear hcz21_4
                      try clear hcz21_5
                      try clear lJ
                      try clear lI
                      try clear lH
                      try clear lG
                      try clear lF
                      try clear lD
                      try clear iO
                      try clear iN
                      try clear iM
                      try clear iL
                      try clear iK
                      try clear iJ
                      try clear kJ
                      try clear kI
                      try clear kH
                      try clear kG
                      try clear kF
                      try clear kE
                      try clear gF
                      try clear gD
                      try clear gB
                      try clear fu
                      try clear fq
                      try clear fo
                      try clear hfz15_0
                      try clear hfz15_1
                      try clear hfz15_2
                      try clear hfz15_3
                      try clear hfz15_4
                      try clear hfz15_5
                      try clear hfz16_0
                      try clear hfz16_1
                      try clear hfz16_2
                      try clear hfz16_3
                      try clear hfz16_4
                      try clear hfz16_5
                      try clear hfz19_0
                      try clear hfz19_1
                      try clear hfz19_2
                      try clear hfz19_3
                      try clear hfz19_4
                      try clear hfz19_5
                      try clear hfz21_0
                      try clear hfz21_1
                      try clear hfz21_2
                      try clear hfz21_3
                      try clear hfz21_4
                      try clear hfz21_5
                      try clear lC
                      try clear kz
                      try clear ky
                      try clear kw
                      try clear kv
                      try clear ku
                      try clear iI
                      try clear iH
                      try clear iG
                      try clear iF
                      try clear iE
                      try clear iD
                      try clear kD
                      try clear kC
                      try clear jy
                      try clear jw
                      try clear jv
                      try clear jr
                      try clear p2
                      obtain ⟨kq, x28_17, rfl, HA, HJ17, bI, HB⟩ := hcut
                      cases kq with
                      | zero => exact absurd HA.out (by simp [bL.j3])
                      | succ kj17 =>
                        have H := HA.out
                        clear HA
                        simp only [bL.j3] at H
                        by_cases c22 : x28_17 = true
                        · subst c22
                          have H1 : (some 33) = some r := by rw [if_pos rfl] at H; exact H
                          clear H
                          have H := H1
                          clear H1
                          obtain rfl := Option.some.inj H
                          go_wp2
                          go_ret
                          exact ⟨by first | rfl | (simp [az, ay] <;> rfl) | (simp [*, az, ay] <;> rfl), by repeat (first | (with_reducible first | exact HB.out | apply aH | apply aG | apply aI | refine aJ ?_ lT.out) | exact HB.out)⟩
                        · replace c22 := Bool.eq_false_iff.mpr c22
                          subst c22
                          have H1 : (if aT < 1 then (bL.j4 kj17 (decide (aT < 1)) aX aY ae aT aM aU) else (bL.j4 kj17 (decide (aT > 1024)) aX aY ae aT aM aU)) = some r := by rw [if_neg (show ¬ (false = true) by decide)] at H; exact H
                          clear H
                          have H := H1
                          clear H1
                          have HC23 := aC.mk H
                          clear H
                          have hcz24_0 : wc.cell? ⟨bq, 0, none⟩ = some (.int .i64 aX) := (aD bI.out 0).trans rfl
                          have hcz24_1 : wc.cell? ⟨bq, 1, none⟩ = some (.int .i64 aY) := (aD bI.out 1).trans rfl
                          have hcz24_2 : wc.cell? ⟨bq, 2, none⟩ = some (.int .i64 ae) := (aD bI.out 2).trans rfl
                          have hcz24_3 : wc.cell? ⟨bq, 3, none⟩ = some (.int .i64 aT) := (aD bI.out 3).trans rfl
                          have hcz24_4 : wc.cell? ⟨bq, 4, none⟩ = some (.slice bH aM.length bC) := (aD bI.out 4).trans rfl
                          have hcz24_5 : wc.cell? ⟨bq, 5, none⟩ = some (.slice bE aU.length bD) := (aD bI.out 5).trans rfl
                          have hfz24_0 := aA bI.out 0
                          have hfz24_1 := aA bI.out 1
                          have hfz24_2 := aA bI.out 2
                          have hfz24_3 := aA bI.out 3
                          have hfz24_4 := aA bI.out 4
                          have hfz24_5 := aA bI.out 5
                          go_upto_if 35 with (fail)
                          go_cut [35] (fun v35 wc => ∃ (kq : Nat) (x35_22 : Bool), v35 = .bool x35_22 ∧ aC (bL.j4 kq x35_22 aX aY ae aT aM aU = some r) ∧ aC (kq ≤ kj17) ∧ aC (wc.heap[bq]? = some (.cells #[.int .i64 aX, .int .i64 aY, .int .i64 ae, .int .i64 aT, (.slice bH aM.length bC), (.slice bE aU.length bD)] 43 (0, 0))) ∧ aC (Below w.heap.size w wc))
                          case first =>
                            have H := HC23.out
                            clear HC23
                            by_cases c25 : aT < 1
                            · rw [if_pos c25] at H
                              have jZ : decide (aT < 1) = true := decide_eq_true c25
                              clear c25
                              (first | rw [jZ] | (simp only [bT, bU]; rw [jZ]) | skip)
                              have H' := aC.mk H
                              clear H
                              go_wp2
                              go_meet
                              case rel => exact ⟨_, (decide (aT < 1)), (by first | rfl | (simp; done) | (simp [*]; done)), H', ⟨by have := HJ1.out; have := HJ7.out; have := HJ12.out; have := HJ17.out; first | omega | exact Nat.le_refl _⟩, ⟨by (with_reducible repeat (first | refine ag ?_ _ | refine af ?_ | refine aW ?_ _)); exact bI.out⟩, ⟨by repeat (first | (with_reducible first | exact HB.out | apply aH | apply aG | apply aI | refine aJ ?_ lT.out) | exact HB.out)⟩⟩
                            · rw [if_neg c25] at H
                              have jZ : decide (aT < 1) = false := decide_eq_false c25
                              clear c25
                              (first | rw [jZ] | (simp only [bT, bU]; rw [jZ]) | skip)
                              have H' := aC.mk H
                              clear H
                              have hcz26_0 : wc.cell? ⟨bq, 0, none⟩ = some (.int .i64 aX) := (aD bI.out 0).trans rfl
                              have hcz26_1 : wc.cell? ⟨bq, 1, none⟩ = some (.int .i64 aY) := (aD bI.out 1).trans rfl
                              have hcz26_2 : wc.cell? ⟨bq, 2, none⟩ = some (.int .i64 ae) := (aD bI.out 2).trans rfl
                              have hcz26_3 : wc.cell? ⟨bq, 3, none⟩ = some (.int .i64 aT) := (aD bI.out 3).trans rfl
                              have hcz26_4 : wc.cell? ⟨bq, 4, none⟩ = some (.slice bH aM.length bC) := (aD bI.out 4).trans rfl
                              have hcz26_5 : wc.cell? ⟨bq, 5, none⟩ = some (.slice bE aU.length bD) := (aD bI.out 5).trans rfl
                              have hfz26_0 := aA bI.out 0
                              have hfz26_1 := aA bI.out 1
                              have hfz26_2 := aA bI.out 2
                              have hfz26_3 := aA bI.out 3
                              have hfz26_4 := aA bI.out 4
                              have hfz26_5 := aA bI.out 5
                              go_wp2
                              go_meet
                              case rel => exact ⟨_, (decide (aT > 1024)), (by first | rfl | (simp; done) | (simp [*]; done)), H', ⟨by have := HJ1.out; have := HJ7.out; have := HJ12.out; have := HJ17.out; first | omega | exact Nat.le_refl _⟩, ⟨by (with_reducible repeat (first | refine ag ?_ _ | refine af ?_ | refine aW ?_ _)); exact bI.out⟩, ⟨by repeat (first | (with_reducible first | exact HB.out | apply aH | apply aG | apply aI | refine aJ ?_ lT.out) | exact HB.out)⟩⟩
                          case rest =>
                            clear HC23
                            try clear c1
                            try clear c2
                            try clear p2
                            try clear c4
                            try clear iB
                            try clear ja
                            try clear c7
                            try clear c9
                            try clear c10
                            try clear c10b0
                            try clear c12
                            try clear c14
                            try clear jg
                            try clear c14b1
                            try clear c17
                            try clear c20
                            try clear jf
                            try clear c22
                            try clear c25
                            try clear jZ
                            try clear gL
                            try clear gK
                            try clear gJ
                            try clear gI
                            try clear gH
                            try clear gG
                            try clear hcz15_0
                            try clear hcz15_1
                            try clear hcz15_2
                            try clear hcz15_3
                            try clear hcz15_4
                            try clear hcz15_5
                            try clear hcz16_0
                            try clear hcz16_1
                            try clear hcz16_2
                            try clear hcz16_3
                            try clear hcz16_4
                            try clear hcz16_5
                            try clear hcz19_0
                            try clear hcz19_1
                            try clear hcz19_2
                            try clear hcz19_3
                            try clear hcz19_4
                            try clear hcz19_5
                            try clear hcz21_0
                            try clear hcz21_1
                            try clear hcz21_2
                            try clear hcz21_3
                            try clear hcz21_4
                            try clear hcz21_5
                            try clear hcz24_0
                            try clear hcz24_1
                            try clear hcz24_2
                            try clear hcz24_3
                            try clear hcz24_4
                            try clear hcz24_5
                            try clear hcz26_0
                            try clear hcz26_1
                            try clear hcz26_2
                            try clear hcz26_3
                            try clear hcz26_4
                            try clear hcz26_5
                            try clear lJ
                            try clear lI
                            try clear lH
                            try clear lG
                            try clear lF
                            try clear lD
                            try clear iO
                            try clear iN
                            try clear iM
                            try clear iL
                            try clear iK
                            try clear iJ
                            try clear kJ
                            try clear kI
                            try clear kH
                            try clear kG
                            try clear kF
                            try clear kE
                            try clear gF
                            try clear gD
                            try clear gB
                            try clear fu
                            try clear fq
                            try clear fo
                            try clear hfz15_0
                            try clear hfz15_1
                            try clear hfz15_2
                            try clear hfz15_3
                            try clear hfz15_4
                            try clear hfz15_5
                            try clear hfz16_0
                            try clear hfz16_1
                            try clear hfz16_2
                            try clear hfz16_3
                            try clear hfz16_4
                            try clear hfz16_5
                            try clear hfz19_0
                            try clear hfz19_1
                            try clear hfz19_2
                            try clear hfz19_3
                            try clear hfz19_4
                            try clear hfz19_5
                            try clear hfz21_0
                            try clear hfz21_1
                            try clear hfz21_2
                            try clear hfz21_3
                            try clear hfz21_4
                            try clear hfz21_5
                            try clear hfz24_0
                            try clear hfz24_1
                            try clear hfz24_2
                            try clear hfz24_3
                            try clear hfz24_4
                            try clear hfz24_5
                            try clear hfz26_0
                            try clear hfz26_1
                            try clear hfz26_2
                            try clear hfz26_3
                            try clear hfz26_4
                            try clear hfz26_5
                            try clear lC
                            try clear kz
                            try clear ky
                            try clear kw
                            try clear kv
                            try clear ku
                            try clear iI
                            try clear iH
                            try clear iG
                            try clear iF
                            try clear iE
                            try clear iD
                            try clear kD
                            try clear kC
                            try clear jy
                            try clear jw
                            try clear jv
                            try clear jr
                            try clear p2
                            obtain ⟨kq, x35_22, rfl, HA, HJ22, bI, HB⟩ := hcut
                            cases kq with
                            | zero => exact absurd HA.out (by simp [bL.j4])
                            | succ kj22 =>
                              have H := HA.out
                              clear HA
                              simp only [bL.j4] at H
                              by_cases c27 : x35_22 = true
                              · subst c27
                                have H1 : (some 3) = some r := by rw [if_pos rfl] at H; exact H
                                clear H
                                have H := H1
                                clear H1
                                obtain rfl := Option.some.inj H
                                go_wp2
                                go_ret
                                exact ⟨by first | rfl | (simp [az, ay] <;> rfl) | (simp [*, az, ay] <;> rfl), by repeat (first | (with_reducible first | exact HB.out | apply aH | apply aG | apply aI | refine aJ ?_ lT.out) | exact HB.out)⟩
                              · replace c27 := Bool.eq_false_iff.mpr c27
                                subst c27
                                have H1 : (if (aM.length : Int) = (wrap64 (aT * aY)) then ((jI.f aX aY ae aT aM aU).bind fun t118 => (if (aU.length : Int) = t118 then (some 0) else (some 31))) else (some 31)) = some r := by rw [if_neg (show ¬ (false = true) by decide)] at H; exact H
                                clear H
                                have H := H1
                                clear H1
                                by_cases c28 : (aM.length : Int) = (wrap64 (aT * aY))
                                · rw [if_pos c28] at H
                                  have c28b0 : ((aM.length : Int) == (wrap64 (aT * aY))) = true := beq_iff_eq.mpr c28
                                  have c28b1 : ((aM.length : Int) != (wrap64 (aT * aY))) = false := bne_eq_false_iff_eq.mpr c28
                                  clear c28
                                  replace H := Option.bind_eq_some_iff.mp H
                                  obtain ⟨t118, A290, H⟩ := H
                                  replace H : (if (aU.length : Int) = t118 then (some 0) else (some 31)) = some r := H
                                  have A29 := aC.mk A290
                                  clear A290
                                  by_cases c30 : (aU.length : Int) = t118
                                  · rw [if_pos c30] at H
                                    have c30b0 : ((aU.length : Int) == t118) = true := beq_iff_eq.mpr c30
                                    have c30b1 : ((aU.length : Int) != t118) = false := bne_eq_false_iff_eq.mpr c30
                                    clear c30
                                    obtain rfl := Option.some.inj H
                                    have hcz31_0 : wc.cell? ⟨bq, 0, none⟩ = some (.int .i64 aX) := (aD bI.out 0).trans rfl
                                    have hcz31_1 : wc.cell? ⟨bq, 1, none⟩ = some (.int .i64 aY) := (aD bI.out 1).trans rfl
                                    have hcz31_2 : wc.cell? ⟨bq, 2, none⟩ = some (.int .i64 ae) := (aD bI.out 2).trans rfl
                                    have hcz31_3 : wc.cell? ⟨bq, 3, none⟩ = some (.int .i64 aT) := (aD bI.out 3).trans rfl
                                    have hcz31_4 : wc.cell? ⟨bq, 4, none⟩ = some (.slice bH aM.length bC) := (aD bI.out 4).trans rfl
                                    have hcz31_5 : wc.cell? ⟨bq, 5, none⟩ = some (.slice bE aU.length bD) := (aD bI.out 5).trans rfl
                                    have hfz31_0 := aA bI.out 0
                                    have hfz31_1 := aA bI.out 1
                                    have hfz31_2 := aA bI.out 2
                                    have hfz31_3 := aA bI.out 3
                                    have hfz31_4 := aA bI.out 4
                                    have hfz31_5 := aA bI.out 5
                                    try go_wp2
                                    have n0_ := aC.mk (af bI.out)
                                    have n1_ := aC.mk (aI HB.out)
                                    clear bI
                                    clear HB
                                    have bI := n0_
                                    have HB := n1_
                                    clear n0_ n1_
                                    refine start_ (n := 7) (S := fun w' => w'.cell? ⟨bq, 0, none⟩ = some (.int .i64 aX) ∧ w'.cell? ⟨bq, 1, none⟩ = some (.int .i64 aY) ∧ w'.cell? ⟨bq, 2, none⟩ = some (.int .i64 ae) ∧ w'.cell? ⟨bq, 3, none⟩ = some (.int .i64 aT) ∧ w'.cell? ⟨bq, 4, none⟩ = some (.slice bH aM.length bC) ∧ w'.cell? ⟨bq, 5, none⟩ = some (.slice bE aU.length bD)) (ds := []) #[false, false, false, false, false, false, false] (by kernel_rfl) rfl rfl ⟨(aD bI.out 0).trans rfl, (aD bI.out 1).trans rfl, (aD bI.out 2).trans rfl, (aD bI.out 3).trans rfl, (aD bI.out 4).trans rfl, (aD bI.out 5).trans rfl⟩ (fun hHeld => ?_)
                                    generalize wc.drew = w32 at bI HB hHeld ⊢
                                    refine dM (i := 0) (N := some 52) (v := ?_) (a' := ?_) #[true, false, false, false, false, false, false] rfl rfl (by kernel_rfl) (fun _ _ _ h => h) (Or.inl ⟨by rfl, ?_⟩) ?_ ?_
                                    rotate_left
                                    · intro w'
                                      go_simp
                                      with_reducible rfl
                                    rotate_left
                                    · simp only [Act.put, List.setIfInBounds_toArray, List.set_cons_zero, List.set_cons_succ, bT, bU]
                                      rfl
                                    refine jB (i := 1) (N := some 53) (v := ?_) (a' := ?_) #[true, true, false, false, false, false, false] rfl rfl (by kernel_rfl) (fun _ _ _ h => h) (Or.inl ⟨by rfl, ?_⟩) hHeld ?_ ?_
                                    rotate_left
                                    · rintro w' ⟨s0, s1, s2, s3, s4, s5⟩
                                      go_simp
                                      with_reducible rfl
                                    rotate_left
                                    · simp only [Act.put, List.setIfInBounds_toArray, List.set_cons_zero, List.set_cons_succ, bT, bU]
                                      rfl
                                    refine dM (i := 2) (N := some 54) (v := ?_) (a' := ?_) #[true, true, true, false, false, false, false] rfl rfl (by kernel_rfl) (fun _ _ _ h => h) (Or.inl ⟨by rfl, ?_⟩) ?_ ?_
                                    rotate_left
                                    · intro w'
                                      go_simp
                                      with_reducible rfl
                                    rotate_left
                                    · simp only [Act.put, List.setIfInBounds_toArray, List.set_cons_zero, List.set_cons_succ, bT, bU]
                                      rfl
                                    refine jB (i := 3) (N := some 55) (v := ?_) (a' := ?_) #[true, true, true, true, false, false, false] rfl rfl (by kernel_rfl) (fun _ _ _ h => h) (Or.inl ⟨by rfl, ?_⟩) hHeld ?_ ?_
                                    rotate_left
                                    · rintro w' ⟨s0, s1, s2, s3, s4, s5⟩
                                      go_simp
                                      with_reducible rfl
                                    rotate_left
                                    · simp only [Act.put, List.setIfInBounds_toArray, List.set_cons_zero, List.set_cons_succ, bT, bU]
                                      rfl
                                    refine one_ (i := 4) (N := some 56) #[true, true, true, true, true, false, false] rfl rfl (by kernel_rfl) (by decide) (fun K hK => ?_)
                                    refine goes_ Try.func106 (by kernel_rfl) rfl #[.agg #[.int .i64 aX, .int .i64 aY, .int .i64 ae, .int .i64 aT, .slice bH aM.length bC, .slice bE aU.length bD]] (by rfl) rfl rfl (by (try simp only [List.map_toArray, List.map_cons, List.map_nil]); first | done | rfl | (simp only [List.length_drop, List.length_take]; rfl)) ?_
                                    with_reducible refine (jI.calls aX aY ae aT _ _ aM _ _ aU t118 _ ?dD ?dC ?dJ ?dI A29.out).mono ?_
                                    (case dD => repeat (first | exact (Kd.ak dY.out HB.out) | (with_reducible refine Kd.bS ?_ _) | (with_reducible refine Kd.bR ?_ _) | (with_reducible refine Kd.bW ?_)))
                                    (case dC => exact eX.out)
                                    (case dJ => repeat (first | exact (Kd.ak dV.out HB.out) | (with_reducible refine Kd.bS ?_ _) | (with_reducible refine Kd.bR ?_ _) | (with_reducible refine Kd.bW ?_)))
                                    (case dI => exact fA.out)
                                    rintro e w33 ⟨rfl, hb⟩
                                    refine ⟨_, rfl, ?_⟩
                                    have n0_ := aC.mk (av (g := bq) (o := .cells #[.int .i64 aX, .int .i64 aY, .int .i64 ae, .int .i64 aT, .slice bH aM.length bC, .slice bE aU.length bD] 43 (0, 0)) (by (with_reducible repeat (first | refine ag ?_ _ | refine af ?_ | refine aW ?_ _)); exact bI.out) hb)
                                    have n1_ := aC.mk (ah (by repeat (first | (with_reducible first | exact HB.out | apply aH | apply aG | apply aI | refine aJ ?_ lT.out) | exact HB.out)) hb)
                                    clear bI
                                    clear HB
                                    have bI := n0_
                                    have HB := n1_
                                    clear n0_ n1_
                                    (try clear hb)
                                    (try clear hb2)
                                    (try clear hk)
                                    (try clear hi)
                                    refine hK.out _ _ ⟨(aD bI.out 0).trans rfl, (aD bI.out 1).trans rfl, (aD bI.out 2).trans rfl, (aD bI.out 3).trans rfl, (aD bI.out 4).trans rfl, (aD bI.out 5).trans rfl⟩ (fun hHeld => ?_)
                                    clear hK K
                                    refine norm_ (a' := ?_) ?_ ?_
                                    rotate_left
                                    · show Act.put _ (some 56) _ = _
                                      simp only [Act.put, List.setIfInBounds_toArray, List.set_cons_zero, List.set_cons_succ, bT, bU]
                                      rfl
                                    refine dM (i := 5) (N := some 57) (v := ?_) (a' := ?_) #[true, true, true, true, true, true, false] rfl rfl (by kernel_rfl) (fun _ _ _ h => h) (Or.inl ⟨by rfl, ?_⟩) ?_ ?_
                                    rotate_left
                                    · intro w'
                                      go_simp
                                      with_reducible rfl
                                    rotate_left
                                    · simp only [Act.put, List.setIfInBounds_toArray, List.set_cons_zero, List.set_cons_succ, bT, bU]
                                      rfl
                                    refine dM (i := 6) (N := some 42) (v := ?_) (a' := ?_) #[true, true, true, true, true, true, true] rfl rfl (by kernel_rfl) (fun _ _ _ h => h) (Or.inl ⟨by rfl, ?_⟩) ?_ ?_
                                    rotate_left
                                    · intro w'
                                      go_simp
                                      with_reducible rfl
                                    rotate_left
                                    · simp only [Act.put, List.setIfInBounds_toArray, List.set_cons_zero, List.set_cons_succ, bT, bU]
                                      rfl
                                    refine done_ (by kernel_rfl) ?_
                                    try go_wp2
                                    go_ret
                                    exact ⟨by first | rfl | (simp [az, ay] <;> rfl) | (simp [*, az, ay] <;> rfl), by repeat (first | (with_reducible first | exact HB.out | apply aH | apply aG | apply aI | refine aJ ?_ lT.out) | exact HB.out)⟩
                                  · rw [if_neg c30] at H
                                    have c30b0 : ((aU.length : Int) == t118) = false := beq_eq_false_iff_ne.mpr c30
                                    have c30b1 : ((aU.length : Int) != t118) = true := bne_iff_ne.mpr c30
                                    obtain rfl := Option.some.inj H
                                    have hcz34_0 : wc.cell? ⟨bq, 0, none⟩ = some (.int .i64 aX) := (aD bI.out 0).trans rfl
                                    have hcz34_1 : wc.cell? ⟨bq, 1, none⟩ = some (.int .i64 aY) := (aD bI.out 1).trans rfl
                                    have hcz34_2 : wc.cell? ⟨bq, 2, none⟩ = some (.int .i64 ae) := (aD bI.out 2).trans rfl
                                    have hcz34_3 : wc.cell? ⟨bq, 3, none⟩ = some (.int .i64 aT) := (aD bI.out 3).trans rfl
                                    have hcz34_4 : wc.cell? ⟨bq, 4, none⟩ = some (.slice bH aM.length bC) := (aD bI.out 4).trans rfl
                                    have hcz34_5 : wc.cell? ⟨bq, 5, none⟩ = some (.slice bE aU.length bD) := (aD bI.out 5).trans rfl
                                    have hfz34_0 := aA bI.out 0
                                    have hfz34_1 := aA bI.out 1
                                    have hfz34_2 := aA bI.out 2
                                    have hfz34_3 := aA bI.out 3
                                    have hfz34_4 := aA bI.out 4
                                    have hfz34_5 := aA bI.out 5
                                    try go_wp2
                                    have n0_ := aC.mk (af bI.out)
                                    have n1_ := aC.mk (aI HB.out)
                                    clear bI
                                    clear HB
                                    have bI := n0_
                                    have HB := n1_
                                    clear n0_ n1_
                                    refine start_ (n := 7) (S := fun w' => w'.cell? ⟨bq, 0, none⟩ = some (.int .i64 aX) ∧ w'.cell? ⟨bq, 1, none⟩ = some (.int .i64 aY) ∧ w'.cell? ⟨bq, 2, none⟩ = some (.int .i64 ae) ∧ w'.cell? ⟨bq, 3, none⟩ = some (.int .i64 aT) ∧ w'.cell? ⟨bq, 4, none⟩ = some (.slice bH aM.length bC) ∧ w'.cell? ⟨bq, 5, none⟩ = some (.slice bE aU.length bD)) (ds := []) #[false, false, false, false, false, false, false] (by kernel_rfl) rfl rfl ⟨(aD bI.out 0).trans rfl, (aD bI.out 1).trans rfl, (aD bI.out 2).trans rfl, (aD bI.out 3).trans rfl, (aD bI.out 4).trans rfl, (aD bI.out 5).trans rfl⟩ (fun hHeld => ?_)
                                    generalize wc.drew = w35 at bI HB hHeld ⊢
                                    refine dM (i := 0) (N := some 52) (v := ?_) (a' := ?_) #[true, false, false, false, false, false, false] rfl rfl (by kernel_rfl) (fun _ _ _ h => h) (Or.inl ⟨by rfl, ?_⟩) ?_ ?_
                                    rotate_left
                                    · intro w'
                                      go_simp
                                      with_reducible rfl
                                    rotate_left
                                    · simp only [Act.put, List.setIfInBounds_toArray, List.set_cons_zero, List.set_cons_succ, bT, bU]
                                      rfl
                                    refine jB (i := 1) (N := some 53) (v := ?_) (a' := ?_) #[true, true, false, false, false, false, false] rfl rfl (by kernel_rfl) (fun _ _ _ h => h) (Or.inl ⟨by rfl, ?_⟩) hHeld ?_ ?_
                                    rotate_left
                                    · rintro w' ⟨s0, s1, s2, s3, s4, s5⟩
                                      go_simp
                                      with_reducible rfl
                                    rotate_left
                                    · simp only [Act.put, List.setIfInBounds_toArray, List.set_cons_zero, List.set_cons_succ, bT, bU]
                                      rfl
                                    refine dM (i := 2) (N := some 54) (v := ?_) (a' := ?_) #[true, true, true, false, false, false, false] rfl rfl (by kernel_rfl) (fun _ _ _ h => h) (Or.inl ⟨by rfl, ?_⟩) ?_ ?_
                                    rotate_left
                                    · intro w'
                                      go_simp
                                      with_reducible rfl
                                    rotate_left
                                    · simp only [Act.put, List.setIfInBounds_toArray, List.set_cons_zero, List.set_cons_succ, bT, bU]
                                      rfl
                                    refine jB (i := 3) (N := some 55) (v := ?_) (a' := ?_) #[true, true, true, true, false, false, false] rfl rfl (by kernel_rfl) (fun _ _ _ h => h) (Or.inl ⟨by rfl, ?_⟩) hHeld ?_ ?_
                                    rotate_left
                                    · rintro w' ⟨s0, s1, s2, s3, s4, s5⟩
                                      go_simp
                                      with_reducible rfl
                                    rotate_left
                                    · simp only [Act.put, List.setIfInBounds_toArray, List.set_cons_zero, List.set_cons_succ, bT, bU]
                                      rfl
                                    refine one_ (i := 4) (N := some 56) #[true, true, true, true, true, false, false] rfl rfl (by kernel_rfl) (by decide) (fun K hK => ?_)
                                    refine goes_ Try.func106 (by kernel_rfl) rfl #[.agg #[.int .i64 aX, .int .i64 aY, .int .i64 ae, .int .i64 aT, .slice bH aM.length bC, .slice bE aU.length bD]] (by rfl) rfl rfl (by (try simp only [List.map_toArray, List.map_cons, List.map_nil]); first | done | rfl | (simp only [List.length_drop, List.length_take]; rfl)) ?_
                                    with_reducible refine (jI.calls aX aY ae aT _ _ aM _ _ aU t118 _ ?dD ?dC ?dJ ?dI A29.out).mono ?_
                                    (case dD => repeat (first | exact (Kd.ak dY.out HB.out) | (with_reducible refine Kd.bS ?_ _) | (with_reducible refine Kd.bR ?_ _) | (with_reducible refine Kd.bW ?_)))
                                    (case dC => exact eX.out)
                                    (case dJ => repeat (first | exact (Kd.ak dV.out HB.out) | (with_reducible refine Kd.bS ?_ _) | (with_reducible refine Kd.bR ?_ _) | (with_reducible refine Kd.bW ?_)))
                                    (case dI => exact fA.out)
                                    rintro e w36 ⟨rfl, hb⟩
                                    refine ⟨_, rfl, ?_⟩
                                    have n0_ := aC.mk (av (g := bq) (o := .cells #[.int .i64 aX, .int .i64 aY, .int .i64 ae, .int .i64 aT, .slice bH aM.length bC, .slice bE aU.length bD] 43 (0, 0)) (by (with_reducible repeat (first | refine ag ?_ _ | refine af ?_ | refine aW ?_ _)); exact bI.out) hb)
                                    have n1_ := aC.mk (ah (by repeat (first | (with_reducible first | exact HB.out | apply aH | apply aG | apply aI | refine aJ ?_ lT.out) | exact HB.out)) hb)
                                    clear bI
                                    clear HB
                                    have bI := n0_
                                    have HB := n1_
                                    clear n0_ n1_
                                    (try clear hb)
                                    (try clear hb2)
                                    (try clear hk)
                                    (try clear hi)
                                    refine hK.out _ _ ⟨(aD bI.out 0).trans rfl, (aD bI.out 1).trans rfl, (aD bI.out 2).trans rfl, (aD bI.out 3).trans rfl, (aD bI.out 4).trans rfl, (aD bI.out 5).trans rfl⟩ (fun hHeld => ?_)
                                    clear hK K
                                    refine norm_ (a' := ?_) ?_ ?_
                                    rotate_left
                                    · show Act.put _ (some 56) _ = _
                                      simp only [Act.put, List.setIfInBounds_toArray, List.set_cons_zero, List.set_cons_succ, bT, bU]
                                      rfl
                                    refine dM (i := 5) (N := some 57) (v := ?_) (a' := ?_) #[true, true, true, true, true, true, false] rfl rfl (by kernel_rfl) (fun _ _ _ h => h) (Or.inl ⟨by rfl, ?_⟩) ?_ ?_
                                    rotate_left
                                    · intro w'
                                      go_simp
                                      with_reducible rfl
                                    rotate_left
                                    · simp only [Act.put, List.setIfInBounds_toArray, List.set_cons_zero, List.set_cons_succ, bT, bU]
                                      rfl
                                    refine dM (i := 6) (N := some 42) (v := ?_) (a' := ?_) #[true, true, true, true, true, true, true] rfl rfl (by kernel_rfl) (fun _ _ _ h => h) (Or.inl ⟨by rfl, ?_⟩) ?_ ?_
                                    rotate_left
                                    · intro w'
                                      go_simp
                                      with_reducible rfl
                                    rotate_left
                                    · simp only [Act.put, List.setIfInBounds_toArray, List.set_cons_zero, List.set_cons_succ, bT, bU]
                                      rfl
                                    refine done_ (by kernel_rfl) ?_
                                    try go_wp2
                                    go_ret
                                    exact ⟨by first | rfl | (simp [az, ay] <;> rfl) | (simp [*, az, ay] <;> rfl), by repeat (first | (with_reducible first | exact HB.out | apply aH | apply aG | apply aI | refine aJ ?_ lT.out) | exact HB.out)⟩
                                · rw [if_neg c28] at H
                                  have c28b0 : ((aM.length : Int) == (wrap64 (aT * aY))) = false := beq_eq_false_iff_ne.mpr c28
                                  have c28b1 : ((aM.length : Int) != (wrap64 (aT * aY))) = true := bne_iff_ne.mpr c28
                                  obtain rfl := Option.some.inj H
                                  have hcz37_0 : wc.cell? ⟨bq, 0, none⟩ = some (.int .i64 aX) := (aD bI.out 0).trans rfl
                                  have hcz37_1 : wc.cell? ⟨bq, 1, none⟩ = some (.int .i64 aY) := (aD bI.out 1).trans rfl
                                  have hcz37_2 : wc.cell? ⟨bq, 2, none⟩ = some (.int .i64 ae) := (aD bI.out 2).trans rfl
                                  have hcz37_3 : wc.cell? ⟨bq, 3, none⟩ = some (.int .i64 aT) := (aD bI.out 3).trans rfl
                                  have hcz37_4 : wc.cell? ⟨bq, 4, none⟩ = some (.slice bH aM.length bC) := (aD bI.out 4).trans rfl
                                  have hcz37_5 : wc.cell? ⟨bq, 5, none⟩ = some (.slice bE aU.length bD) := (aD bI.out 5).trans rfl
                                  have hfz37_0 := aA bI.out 0
                                  have hfz37_1 := aA bI.out 1
                                  have hfz37_2 := aA bI.out 2
                                  have hfz37_3 := aA bI.out 3
                                  have hfz37_4 := aA bI.out 4
                                  have hfz37_5 := aA bI.out 5
                                  go_wp2
                                  go_ret
                                  exact ⟨by first | rfl | (simp [az, ay] <;> rfl) | (simp [*, az, ay] <;> rfl), by repeat (first | (with_reducible first | exact HB.out | apply aH | apply aG | apply aI | refine aJ ?_ lT.out) | exact HB.out)⟩
end Go.Proofs.Ytkaefgmgcghhiaa.X
end

section
namespace Go.Proofs.Ytkaefgmgcghhiaa.X
open Go.RowKit Go.Proofs.YtkaefgmgcghhiaaW.PrintWords Go.Proofs.YtkaefgmgcghhiaaW.PrintLast Go.Proofs.YtkaefgmgcghhiaaW.PrintMore
attribute [local go_sem] eP eH fQ fP d9 dZ eO eG   -- for this text's walks alone
set_option linter.unusedVariables false
set_option linter.unusedSimpArgs false
def bZ.l0 : Nat → List Int → Int → Int → Int → Option (Int)
  | 0, _, _, _, _ => none
  | k + 1, x0, x1, x7, x8 => if x8 < x7 then (if 0 ≤ x8 then (if x8 < (x0.length : Int) then (if (IntKind.u64.wrap (rd x0 x8)) ≥ (IntKind.u64.wrap (x1)) then (some x8) else (bZ.l0 k x0 x1 x7 (wrap64 (x8 + 1)))) else (none)) else (none)) else (some (-1))
def bZ.f (k : Nat) (l0 : List Int) (a1 : Int) : Option (Int) := bZ.l0 k l0 a1 (l0.length : Int) 0
set_option maxHeartbeats 8000000 in
set_option maxRecDepth 100000 in
theorem bZ.calls (k : Nat) (A0 : Option Addr) (c0 : Nat) (l0 : List Int) (a1 : Int) (r : Int) (w : World) (hr0 : Kd.C (Kd.int .i64) w A0 l0.length l0) (hc0 : l0.length ≤ c0) (h : bZ.f k l0 a1 = some r) :
    Calls Try.prog 94 #[.slice A0 l0.length c0, .int .i64 a1] w fun e w' => e = .returned (.int .i64 r) ∧ bY w w' := by
  have HR0 := aC.mk hr0
  have HC0 := aC.mk hc0
  clear hr0 hc0
  have H : (bZ.l0 k l0 a1 (l0.length : Int) 0) = some r := h
  clear h
  have H' := aC.mk H
  clear H
  go_enter Try.func94, Try.ntmps94
  go_wp2
  go_loopg [8] k (fun kq v8 w' => ∃ (fC : Int), v8 = .int .i64 fC ∧ aC (bZ.l0 kq l0 a1 (l0.length : Int) fC = some r) ∧ aC (kq ≤ k) ∧ bY w w')
  case atStart => exact ⟨(0), (by first | rfl | (simp; done) | (simp [*]; done)), H', ⟨Nat.le_refl _⟩, by repeat (first | exact bY.refl _ | apply bY.step)⟩
  case round =>
    clear H'
    try clear p2
    obtain ⟨fC, rfl, HA, HK1, ⟨m1, rfl⟩⟩ := hrel
    cases gk with
    | zero => exact absurd HA.out (by simp [bZ.l0])
    | succ k1 =>
      have H := HA.out
      clear HA
      simp only [bZ.l0] at H
      by_cases c3 : fC < (l0.length : Int)
      · rw [if_pos c3] at H
        have lL : decide (fC < (l0.length : Int)) = true := decide_eq_true c3
        clear c3
        by_cases c4 : 0 ≤ fC
        · rw [if_pos c4] at H
          have iB : decide (0 ≤ fC) = true := decide_eq_true c4
          clear c4
          by_cases c5 : fC < (l0.length : Int)
          · rw [if_pos c5] at H
            have c5b0 : decide (fC < (l0.length : Int)) = true := decide_eq_true c5
            clear c5
            by_cases c6 : (IntKind.u64.wrap (rd l0 fC)) ≥ (IntKind.u64.wrap (a1))
            · rw [if_pos c6] at H
              have c6b0 : decide ((IntKind.u64.wrap (a1)) ≤ (IntKind.u64.wrap (rd l0 fC))) = true := decide_eq_true c6
              clear c6
              obtain rfl := Option.some.inj H
              have p119 : 0 ≤ (fC : Int) := of_decide_eq_true (by first | (with_reducible assumption) | assumption)
              have q119 : fC < (l0.length : Int) := of_decide_eq_true (by first | (with_reducible assumption) | assumption)
              obtain ⟨ad119, e119, hx119_0⟩ := Kd.cz HR0.out fC p119 q119
              cases e119
              replace p119 := eq_true p119
              replace q119 := eq_true q119
              go_wp2
              go_ret
              exact ⟨by first | rfl | (simp; done) | (simp [*]; done), by repeat (first | exact bY.refl _ | apply bY.step)⟩
            · rw [if_neg c6] at H
              have c6b0 : decide ((IntKind.u64.wrap (a1)) ≤ (IntKind.u64.wrap (rd l0 fC))) = false := decide_eq_false c6
              clear c6
              have H' := aC.mk H
              clear H
              have p119 : 0 ≤ (fC : Int) := of_decide_eq_true (by first | (with_reducible assumption) | assumption)
              have q119 : fC < (l0.length : Int) := of_decide_eq_true (by first | (with_reducible assumption) | assumption)
              obtain ⟨ad119, e119, hx119_0⟩ := Kd.cz HR0.out fC p119 q119
              cases e119
              replace p119 := eq_true p119
              replace q119 := eq_true q119
              go_wp2
              go_roundg k1
              case measure => have := HK1.out; omega
              case rel => exact ⟨(wrap64 (fC + 1)), (by first | rfl | (simp; done) | (simp [*]; done)), H', ⟨by have := HK1.out; omega⟩, by repeat (first | exact bY.refl _ | apply bY.step)⟩
          · rw [if_neg c5] at H
            exact absurd H (by simp)
        · rw [if_neg c4] at H
          exact absurd H (by simp)
      · rw [if_neg c3] at H
        have lL : decide (fC < (l0.length : Int)) = false := decide_eq_false c3
        clear c3
        obtain rfl := Option.some.inj H
        go_wp2
        go_ret
        exact ⟨by first | rfl | (simp; done) | (simp [*]; done), by repeat (first | exact bY.refl _ | apply bY.step)⟩
end Go.Proofs.Ytkaefgmgcghhiaa.X
end

section
namespace Go.Proofs.Ytkaefgmgcghhiaa.X
open Go.RowKit Go.Proofs.YtkaefgmgcghhiaaW.PrintWords Go.Proofs.YtkaefgmgcghhiaaW.PrintLast Go.Proofs.YtkaefgmgcghhiaaW.PrintMore
attribute [local go_sem] eP eH fQ fP d9 dZ eO eG   -- for this text's walks alone
set_option linter.unusedVariables false
set_option linter.unusedSimpArgs false
def dm.f (k : Nat) (aX : Int) (aY : Int) (ae : Int) (aT : Int) (aM : List Int) (aU : List Int) : Option (Int × Int) := (bL.f k aX aY ae aT aM aU).bind fun t121 => (if t121 = 0 then ((bZ.f k aM aT).bind fun t122 => (if t122 ≥ 0 then (some (t122, 32)) else ((bZ.f k aU ae).bind fun t123 => (if t123 ≥ 0 then (some (t123, 33)) else (some (0, 0)))))) else (some (0, t121)))
set_option maxHeartbeats 8000000 in
set_option maxRecDepth 100000 in
theorem dm.calls (k : Nat) (aX : Int) (aY : Int) (ae : Int) (aT : Int) (bH : Option Addr) (bC : Nat) (aM : List Int) (bE : Option Addr) (bD : Nat) (aU : List Int) (r1 : Int) (r2 : Int) (w : World) (eQ : Kd.C (Kd.int .i64) w bH aM.length aM) (eu : aM.length ≤ bC) (fD : Kd.C (Kd.int .i64) w bE aU.length aU) (fG : aU.length ≤ bD) (h : dm.f k aX aY ae aT aM aU = some (r1, r2)) :
    Calls Try.prog 67 #[.agg #[.int .i64 aX, .int .i64 aY, .int .i64 ae, .int .i64 aT, .slice bH aM.length bC, .slice bE aU.length bD]] w fun e w' => e = .returned (.tuple #[.int .i64 r1, .int .i64 r2]) ∧ Below w.heap.size w w' := by
  have hu43 := Try.underlying43
  have dY := aC.mk eQ
  have eX := aC.mk eu
  clear eQ eu
  have dV := aC.mk fD
  have fA := aC.mk fG
  clear fD fG
  have HB := aC.mk (Below.refl w.heap.size w)
  have H : ((bL.f k aX aY ae aT aM aU).bind fun t121 => (if t121 = 0 then ((bZ.f k aM aT).bind fun t122 => (if t122 ≥ 0 then (some (t122, 32)) else ((bZ.f k aU ae).bind fun t123 => (if t123 ≥ 0 then (some (t123, 33)) else (some (0, 0)))))) else (some (0, t121)))) = some (r1, r2) := h
  clear h
  replace H := Option.bind_eq_some_iff.mp H
  obtain ⟨t121, A20, H⟩ := H
  replace H : (if t121 = 0 then ((bZ.f k aM aT).bind fun t122 => (if t122 ≥ 0 then (some (t122, 32)) else ((bZ.f k aU ae).bind fun t123 => (if t123 ≥ 0 then (some (t123, 33)) else (some (0, 0)))))) else (some (0, t121))) = some (r1, r2) := H
  have A2 := aC.mk A20
  clear A20
  by_cases c3 : t121 = 0
  · rw [if_pos c3] at H
    have lL : (t121 == 0) = true := beq_iff_eq.mpr c3
    have c3b1 : (t121 != 0) = false := bne_eq_false_iff_eq.mpr c3
    clear c3
    replace H := Option.bind_eq_some_iff.mp H
    obtain ⟨t122, A40, H⟩ := H
    replace H : (if t122 ≥ 0 then (some (t122, 32)) else ((bZ.f k aU ae).bind fun t123 => (if t123 ≥ 0 then (some (t123, 33)) else (some (0, 0))))) = some (r1, r2) := H
    have A4 := aC.mk A40
    clear A40
    by_cases c5 : t122 ≥ 0
    · rw [if_pos c5] at H
      have c5b0 : decide (0 ≤ t122) = true := decide_eq_true c5
      clear c5
      simp only [Option.some.injEq, Prod.mk.injEq] at H
      obtain ⟨rfl, rfl⟩ := H
      go_enter Try.func67, Try.ntmps67
      go_wp2_with (first | ((with_reducible refine bK (N := 1) rfl ?_); refine dA ?hg (N := 1) ?hd (cs := #[.int .i64 aX, .int .i64 aY, .int .i64 ae, .int .i64 aT, .slice bH aM.length bC, .slice bE aU.length bD]) (t := 43) ?hr ?_; (case hd => rfl); (case hg => rfl); (case hr => first | (go_simp; done) | (go_simp; rfl)); intro dh hg w6 hbox hb; have n0_ := aC.mk (ah (by repeat (first | (with_reducible first | exact HB.out | apply aH | apply aG | apply aI) | exact HB.out)) hb); have n1_ := aC.mk (hbox); have n2_ := aC.mk ((by rw [hg]; exact (aZ (by repeat (first | (with_reducible first | exact HB.out | apply aH | apply aG | apply aI) | exact HB.out))) : w.heap.size ≤ dh)); have n3_ := aC.mk ((by rw [hg]; exact (aZ (by repeat (first | (with_reducible first | exact HB.out | apply aH | apply aG | apply aI) | exact HB.out))) : w.heap.size ≤ dh)); clear HB; have HB := n0_; have bv := n1_; have GW120 := n2_; have GE120 := n3_; clear n0_ n1_ n2_ n3_; clear hb hbox hg; have hcz7_0 : w6.cell? ⟨dh, 0, none⟩ = some (.int .i64 aX) := (aD bv.out 0).trans rfl; have hcz7_1 : w6.cell? ⟨dh, 1, none⟩ = some (.int .i64 aY) := (aD bv.out 1).trans rfl; have hcz7_2 : w6.cell? ⟨dh, 2, none⟩ = some (.int .i64 ae) := (aD bv.out 2).trans rfl; have hcz7_3 : w6.cell? ⟨dh, 3, none⟩ = some (.int .i64 aT) := (aD bv.out 3).trans rfl; have hcz7_4 : w6.cell? ⟨dh, 4, none⟩ = some (.slice bH aM.length bC) := (aD bv.out 4).trans rfl; have hcz7_5 : w6.cell? ⟨dh, 5, none⟩ = some (.slice bE aU.length bD) := (aD bv.out 5).trans rfl; have hfz7_0 := aA bv.out 0; have hfz7_1 := aA bv.out 1; have hfz7_2 := aA bv.out 2; have hfz7_3 := aA bv.out 3; have hfz7_4 := aA bv.out 4; have hfz7_5 := aA bv.out 5) | ((with_reducible refine dG (f := 93) rfl ?_); refine gW (some 8) rfl rfl Try.func93 (by kernel_rfl) rfl #[.agg #[.int .i64 aX, .int .i64 aY, .int .i64 ae, .int .i64 aT, .slice bH aM.length bC, .slice bE aU.length bD]] rfl (by (try simp only [List.map_toArray, List.map_cons, List.map_nil]); first | done | rfl | (simp only [List.length_drop, List.length_take]; rfl)) ?_; (with_reducible refine (bL.calls k aX aY ae aT _ _ aM _ _ aU t121 _ ?dD ?dC ?dJ ?dI A2.out).mono ?_); (case dD => repeat (first | exact (Kd.ak dY.out HB.out) | (with_reducible refine Kd.bS ?_ _) | (with_reducible refine Kd.bR ?_ _) | (with_reducible refine Kd.bW ?_))); (case dC => exact eX.out); (case dJ => repeat (first | exact (Kd.ak dV.out HB.out) | (with_reducible refine Kd.bS ?_ _) | (with_reducible refine Kd.bR ?_ _) | (with_reducible refine Kd.bW ?_))); (case dI => exact fA.out); rintro e w8 ⟨rfl, hb⟩; refine ⟨_, rfl, ?_⟩; have n0_ := aC.mk (av (g := dh) (o := .cells #[.int .i64 aX, .int .i64 aY, .int .i64 ae, .int .i64 aT, .slice bH aM.length bC, .slice bE aU.length bD] 43 (0, 0)) (by (with_reducible repeat (first | refine ag ?_ _ | refine af ?_ | refine aW ?_ _)); exact bv.out) hb); have n1_ := aC.mk (ah (by repeat (first | (with_reducible first | exact HB.out | apply aH | apply aG | apply aI | refine aJ ?_ GE120.out) | exact HB.out)) hb); clear bv; clear HB; have bv := n0_; have HB := n1_; clear n0_ n1_; (try clear hb); (try clear hb2); (try clear hk); (try clear hi); have kJ : w8.cell? ⟨dh, 0, none⟩ = some (.int .i64 aX) := (aD bv.out 0).trans rfl; have kI : w8.cell? ⟨dh, 1, none⟩ = some (.int .i64 aY) := (aD bv.out 1).trans rfl; have kH : w8.cell? ⟨dh, 2, none⟩ = some (.int .i64 ae) := (aD bv.out 2).trans rfl; have kG : w8.cell? ⟨dh, 3, none⟩ = some (.int .i64 aT) := (aD bv.out 3).trans rfl; have kF : w8.cell? ⟨dh, 4, none⟩ = some (.slice bH aM.length bC) := (aD bv.out 4).trans rfl; have kE : w8.cell? ⟨dh, 5, none⟩ = some (.slice bE aU.length bD) := (aD bv.out 5).trans rfl; have kD := aA bv.out 0; have kC := aA bv.out 1; have jy := aA bv.out 2; have jw := aA bv.out 3; have jv := aA bv.out 4; have jr := aA bv.out 5) | ((with_reducible refine dG (f := 94) rfl ?_); refine gW (some 16) rfl rfl Try.func94 (by kernel_rfl) rfl #[.slice bH aM.length bC, .int .i64 aT] rfl (by (try simp only [List.map_toArray, List.map_cons, List.map_nil]); first | done | rfl | (simp only [List.length_drop, List.length_take]; rfl)) ?_; (with_reducible refine (bZ.calls k _ _ aM aT t122 _ ?dD ?dC A4.out).mono ?_); (case dD => repeat (first | exact (Kd.ak dY.out HB.out) | (with_reducible refine Kd.bS ?_ _) | (with_reducible refine Kd.bR ?_ _) | (with_reducible refine Kd.bW ?_))); (case dC => exact eX.out); rintro e w' ⟨rfl, ⟨nd, rfl⟩⟩; refine ⟨_, rfl, ?_⟩))
      go_ret2
      exact ⟨by first | rfl | (simp [az, ay] <;> rfl) | (simp [*, az, ay] <;> rfl), by repeat (first | (with_reducible first | exact HB.out | apply aH | apply aG | apply aI | refine aJ ?_ GE120.out) | exact HB.out)⟩
    · rw [if_neg c5] at H
      have c5b0 : decide (0 ≤ t122) = false := decide_eq_false c5
      clear c5
      replace H := Option.bind_eq_some_iff.mp H
      obtain ⟨t123, A100, H⟩ := H
      replace H : (if t123 ≥ 0 then (some (t123, 33)) else (some (0, 0))) = some (r1, r2) := H
      have A10 := aC.mk A100
      clear A100
      by_cases c11 : t123 ≥ 0
      · rw [if_pos c11] at H
        have c11b0 : decide (0 ≤ t123) = true := decide_eq_true c11
        clear c11
        simp only [Option.some.injEq, Prod.mk.injEq] at H
        obtain ⟨rfl, rfl⟩ := H
        go_enter Try.func67, Try.ntmps67
        go_wp2_with (first | ((with_reducible refine bK (N := 1) rfl ?_); refine dA ?hg (N := 1) ?hd (cs := #[.int .i64 aX, .int .i64 aY, .int .i64 ae, .int .i64 aT, .slice bH aM.length bC, .slice bE aU.length bD]) (t := 43) ?hr ?_; (case hd => rfl); (case hg => rfl); (case hr => first | (go_simp; done) | (go_simp; rfl)); intro dh hg w12 hbox hb; have n0_ := aC.mk (ah (by repeat (first | (with_reducible first | exact HB.out | apply aH | apply aG | apply aI) | exact HB.out)) hb); have n1_ := aC.mk (hbox); have n2_ := aC.mk ((by rw [hg]; exact (aZ (by repeat (first | (with_reducible first | exact HB.out | apply aH | apply aG | apply aI) | exact HB.out))) : w.heap.size ≤ dh)); have n3_ := aC.mk ((by rw [hg]; exact (aZ (by repeat (first | (with_reducible first | exact HB.out | apply aH | apply aG | apply aI) | exact HB.out))) : w.heap.size ≤ dh)); clear HB; have HB := n0_; have bv := n1_; have GW120 := n2_; have GE120 := n3_; clear n0_ n1_ n2_ n3_; clear hb hbox hg; have hcz13_0 : w12.cell? ⟨dh, 0, none⟩ = some (.int .i64 aX) := (aD bv.out 0).trans rfl; have hcz13_1 : w12.cell? ⟨dh, 1, none⟩ = some (.int .i64 aY) := (aD bv.out 1).trans rfl; have hcz13_2 : w12.cell? ⟨dh, 2, none⟩ = some (.int .i64 ae) := (aD bv.out 2).trans rfl; have hcz13_3 : w12.cell? ⟨dh, 3, none⟩ = some (.int .i64 aT) := (aD bv.out 3).trans rfl; have hcz13_4 : w12.cell? ⟨dh, 4, none⟩ = some (.slice bH aM.length bC) := (aD bv.out 4).trans rfl; have hcz13_5 : w12.cell? ⟨dh, 5, none⟩ = some (.slice bE aU.length bD) := (aD bv.out 5).trans rfl; have hfz13_0 := aA bv.out 0; have hfz13_1 := aA bv.out 1; have hfz13_2 := aA bv.out 2; have hfz13_3 := aA bv.out 3; have hfz13_4 := aA bv.out 4; have hfz13_5 := aA bv.out 5) | ((with_reducible refine dG (f := 93) rfl ?_); refine gW (some 8) rfl rfl Try.func93 (by kernel_rfl) rfl #[.agg #[.int .i64 aX, .int .i64 aY, .int .i64 ae, .int .i64 aT, .slice bH aM.length bC, .slice bE aU.length bD]] rfl (by (try simp only [List.map_toArray, List.map_cons, List.map_nil]); first | done | rfl | (simp only [List.length_drop, List.length_take]; rfl)) ?_; (with_reducible refine (bL.calls k aX aY ae aT _ _ aM _ _ aU t121 _ ?dD ?dC ?dJ ?dI A2.out).mono ?_); (case dD => repeat (first | exact (Kd.ak dY.out HB.out) | (with_reducible refine Kd.bS ?_ _) | (with_reducible refine Kd.bR ?_ _) | (with_reducible refine Kd.bW ?_))); (case dC => exact eX.out); (case dJ => repeat (first | exact (Kd.ak dV.out HB.out) | (with_reducible refine Kd.bS ?_ _) | (with_reducible refine Kd.bR ?_ _) | (with_reducible refine Kd.bW ?_))); (case dI => exact fA.out); rintro e w14 ⟨rfl, hb⟩; refine ⟨_, rfl, ?_⟩; have n0_ := aC.mk (av (g := dh) (o := .cells #[.int .i64 aX, .int .i64 aY, .int .i64 ae, .int .i64 aT, .slice bH aM.length bC, .slice bE aU.length bD] 43 (0, 0)) (by (with_reducible repeat (first | refine ag ?_ _ | refine af ?_ | refine aW ?_ _)); exact bv.out) hb); have n1_ := aC.mk (ah (by repeat (first | (with_reducible first | exact HB.out | apply aH | apply aG | apply aI | refine aJ ?_ GE120.out) | exact HB.out)) hb); clear bv; clear HB; have bv := n0_; have HB := n1_; clear n0_ n1_; (try clear hb); (try clear hb2); (try clear hk); (try clear hi); have hcz15_0 : w14.cell? ⟨dh, 0, none⟩ = some (.int .i64 aX) := (aD bv.out 0).trans rfl; have hcz15_1 : w14.cell? ⟨dh, 1, none⟩ = some (.int .i64 aY) := (aD bv.out 1).trans rfl; have hcz15_2 : w14.cell? ⟨dh, 2, none⟩ = some (.int .i64 ae) := (aD bv.out 2).trans rfl; have hcz15_3 : w14.cell? ⟨dh, 3, none⟩ = some (.int .i64 aT) := (aD bv.out 3).trans rfl; have hcz15_4 : w14.cell? ⟨dh, 4, none⟩ = some (.slice bH aM.length bC) := (aD bv.out 4).trans rfl; have hcz15_5 : w14.cell? ⟨dh, 5, none⟩ = some (.slice bE aU.length bD) := (aD bv.out 5).trans rfl; have hfz15_0 := aA bv.out 0; have hfz15_1 := aA bv.out 1; have hfz15_2 := aA bv.out 2; have hfz15_3 := aA bv.out 3; have hfz15_4 := aA bv.out 4; have hfz15_5 := aA bv.out 5) | ((with_reducible refine dG (f := 94) rfl ?_); refine gW (some 16) rfl rfl Try.func94 (by kernel_rfl) rfl #[.slice bH aM.length bC, .int .i64 aT] rfl (by (try simp only [List.map_toArray, List.map_cons, List.map_nil]); first | done | rfl | (simp only [List.length_drop, List.length_take]; rfl)) ?_; (with_reducible refine (bZ.calls k _ _ aM aT t122 _ ?dD ?dC A4.out).mono ?_); (case dD => repeat (first | exact (Kd.ak dY.out HB.out) | (with_reducible refine Kd.bS ?_ _) | (with_reducible refine Kd.bR ?_ _) | (with_reducible refine Kd.bW ?_))); (case dC => exact eX.out); rintro e w' ⟨rfl, ⟨nd, rfl⟩⟩; refine ⟨_, rfl, ?_⟩) | ((with_reducible refine dG (f := 94) rfl ?_); refine gW (some 24) rfl rfl Try.func94 (by kernel_rfl) rfl #[.slice bE aU.length bD, .int .i64 ae] rfl (by (try simp only [List.map_toArray, List.map_cons, List.map_nil]); first | done | rfl | (simp only [List.length_drop, List.length_take]; rfl)) ?_; (with_reducible refine (bZ.calls k _ _ aU ae t123 _ ?dD ?dC A10.out).mono ?_); (case dD => repeat (first | exact (Kd.ak dV.out (by repeat (first | (with_reducible first | exact HB.out | apply aH | apply aG | apply aI | refine aJ ?_ GE120.out) | exact HB.out))) | (with_reducible refine Kd.bS ?_ _) | (with_reducible refine Kd.bR ?_ _) | (with_reducible refine Kd.bW ?_))); (case dC => exact fA.out); rintro e w' ⟨rfl, ⟨nd, rfl⟩⟩; refine ⟨_, rfl, ?_⟩))
        go_ret2
        exact ⟨by first | rfl | (simp [az, ay] <;> rfl) | (simp [*, az, ay] <;> rfl), by repeat (first | (with_reducible first | exact HB.out | apply aH | apply aG | apply aI | refine aJ ?_ GE120.out) | exact HB.out)⟩
      · rw [if_neg c11] at H
        have c11b0 : decide (0 ≤ t123) = false := decide_eq_false c11
        clear c11
        simp only [Option.some.injEq, Prod.mk.injEq] at H
        obtain ⟨rfl, rfl⟩ := H
        go_enter Try.func67, Try.ntmps67
        go_wp2_with (first | ((with_reducible refine bK (N := 1) rfl ?_); refine dA ?hg (N := 1) ?hd (cs := #[.int .i64 aX, .int .i64 aY, .int .i64 ae, .int .i64 aT, .slice bH aM.length bC, .slice bE aU.length bD]) (t := 43) ?hr ?_; (case hd => rfl); (case hg => rfl); (case hr => first | (go_simp; done) | (go_simp; rfl)); intro dh hg w16 hbox hb; have n0_ := aC.mk (ah (by repeat (first | (with_reducible first | exact HB.out | apply aH | apply aG | apply aI) | exact HB.out)) hb); have n1_ := aC.mk (hbox); have n2_ := aC.mk ((by rw [hg]; exact (aZ (by repeat (first | (with_reducible first | exact HB.out | apply aH | apply aG | apply aI) | exact HB.out))) : w.heap.size ≤ dh)); have n3_ := aC.mk ((by rw [hg]; exact (aZ (by repeat (first | (with_reducible first | exact HB.out | apply aH | apply aG | apply aI) | exact HB.out))) : w.heap.size ≤ dh)); clear HB; have HB := n0_; have bv := n1_; have GW120 := n2_; have GE120 := n3_; clear n0_ n1_ n2_ n3_; clear hb hbox hg; have kZ : w16.cell? ⟨dh, 0, none⟩ = some (.int .i64 aX) := (aD bv.out 0).trans rfl; have kY : w16.cell? ⟨dh, 1, none⟩ = some (.int .i64 aY) := (aD bv.out 1).trans rfl; have kX : w16.cell? ⟨dh, 2, none⟩ = some (.int .i64 ae) := (aD bv.out 2).trans rfl; have kW : w16.cell? ⟨dh, 3, none⟩ = some (.int .i64 aT) := (aD bv.out 3).trans rfl; have kV : w16.cell? ⟨dh, 4, none⟩ = some (.slice bH aM.length bC) := (aD bv.out 4).trans rfl; have kU : w16.cell? ⟨dh, 5, none⟩ = some (.slice bE aU.length bD) := (aD bv.out 5).trans rfl; have kT := aA bv.out 0; have kS := aA bv.out 1; have kR := aA bv.out 2; have kQ := aA bv.out 3; have kP := aA bv.out 4; have kN := aA bv.out 5) | ((with_reducible refine dG (f := 93) rfl ?_); refine gW (some 8) rfl rfl Try.func93 (by kernel_rfl) rfl #[.agg #[.int .i64 aX, .int .i64 aY, .int .i64 ae, .int .i64 aT, .slice bH aM.length bC, .slice bE aU.length bD]] rfl (by (try simp only [List.map_toArray, List.map_cons, List.map_nil]); first | done | rfl | (simp only [List.length_drop, List.length_take]; rfl)) ?_; (with_reducible refine (bL.calls k aX aY ae aT _ _ aM _ _ aU t121 _ ?dD ?dC ?dJ ?dI A2.out).mono ?_); (case dD => repeat (first | exact (Kd.ak dY.out HB.out) | (with_reducible refine Kd.bS ?_ _) | (with_reducible refine Kd.bR ?_ _) | (with_reducible refine Kd.bW ?_))); (case dC => exact eX.out); (case dJ => repeat (first | exact (Kd.ak dV.out HB.out) | (with_reducible refine Kd.bS ?_ _) | (with_reducible refine Kd.bR ?_ _) | (with_reducible refine Kd.bW ?_))); (case dI => exact fA.out); rintro e w18 ⟨rfl, hb⟩; refine ⟨_, rfl, ?_⟩; have n0_ := aC.mk (av (g := dh) (o := .cells #[.int .i64 aX, .int .i64 aY, .int .i64 ae, .int .i64 aT, .slice bH aM.length bC, .slice bE aU.length bD] 43 (0, 0)) (by (with_reducible repeat (first | refine ag ?_ _ | refine af ?_ | refine aW ?_ _)); exact bv.out) hb); have n1_ := aC.mk (ah (by repeat (first | (with_reducible first | exact HB.out | apply aH | apply aG | apply aI | refine aJ ?_ GE120.out) | exact HB.out)) hb); clear bv; clear HB; have bv := n0_; have HB := n1_; clear n0_ n1_; (try clear hb); (try clear hb2); (try clear hk); (try clear hi); have hcz19_0 : w18.cell? ⟨dh, 0, none⟩ = some (.int .i64 aX) := (aD bv.out 0).trans rfl; have hcz19_1 : w18.cell? ⟨dh, 1, none⟩ = some (.int .i64 aY) := (aD bv.out 1).trans rfl; have hcz19_2 : w18.cell? ⟨dh, 2, none⟩ = some (.int .i64 ae) := (aD bv.out 2).trans rfl; have hcz19_3 : w18.cell? ⟨dh, 3, none⟩ = some (.int .i64 aT) := (aD bv.out 3).trans rfl; have hcz19_4 : w18.cell? ⟨dh, 4, none⟩ = some (.slice bH aM.length bC) := (aD bv.out 4).trans rfl; have hcz19_5 : w18.cell? ⟨dh, 5, none⟩ = some (.slice bE aU.length bD) := (aD bv.out 5).trans rfl; have hfz19_0 := aA bv.out 0; have hfz19_1 := aA bv.out 1; have hfz19_2 := aA bv.out 2; have hfz19_3 := aA bv.out 3; have hfz19_4 := aA bv.out 4; have hfz19_5 := aA bv.out 5) | ((with_reducible refine dG (f := 94) rfl ?_); refine gW (some 16) rfl rfl Try.func94 (by kernel_rfl) rfl #[.slice bH aM.length bC, .int .i64 aT] rfl (by (try simp only [List.map_toArray, List.map_cons, List.map_nil]); first | done | rfl | (simp only [List.length_drop, List.length_take]; rfl)) ?_; (with_reducible refine (bZ.calls k _ _ aM aT t122 _ ?dD ?dC A4.out).mono ?_); (case dD => repeat (first | exact (Kd.ak dY.out HB.out) | (with_reducible refine Kd.bS ?_ _) | (with_reducible refine Kd.bR ?_ _) | (with_reducible refine Kd.bW ?_))); (case dC => exact eX.out); rintro e w' ⟨rfl, ⟨nd, rfl⟩⟩; refine ⟨_, rfl, ?_⟩) | ((with_reducible refine dG (f := 94) rfl ?_); refine gW (some 24) rfl rfl Try.func94 (by kernel_rfl) rfl #[.slice bE aU.length bD, .int .i64 ae] rfl (by (try simp only [List.map_toArray, List.map_cons, List.map_nil]); first | done | rfl | (simp only [List.length_drop, List.length_take]; rfl)) ?_; (with_reducible refine (bZ.calls k _ _ aU ae t123 _ ?dD ?dC A10.out).mono ?_); (case dD => repeat (first | exact (Kd.ak dV.out (by repeat (first | (with_reducible first | exact HB.out | apply aH | apply aG | apply aI | refine aJ ?_ GE120.out) | exact HB.out))) | (with_reducible refine Kd.bS ?_ _) | (with_reducible refine Kd.bR ?_ _) | (with_reducible refine Kd.bW ?_))); (case dC => exact fA.out); rintro e w' ⟨rfl, ⟨nd, rfl⟩⟩; refine ⟨_, rfl, ?_⟩))
        go_ret2
        exact ⟨by first | rfl | (simp [az, ay] <;> rfl) | (simp [*, az, ay] <;> rfl), by repeat (first | (with_reducible first | exact HB.out | apply aH | apply aG | apply aI | refine aJ ?_ GE120.out) | exact HB.out)⟩
  · rw [if_neg c3] at H
    have lL : (t121 == 0) = false := beq_eq_false_iff_ne.mpr c3
    have c3b1 : (t121 != 0) = true := bne_iff_ne.mpr c3
    simp only [Option.some.injEq, Prod.mk.injEq] at H
    obtain ⟨rfl, rfl⟩ := H
    go_enter Try.func67, Try.ntmps67
    go_wp2_with (first | ((with_reducible refine bK (N := 1) rfl ?_); refine dA ?hg (N := 1) ?hd (cs := #[.int .i64 aX, .int .i64 aY, .int .i64 ae, .int .i64 aT, .slice bH aM.length bC, .slice bE aU.length bD]) (t := 43) ?hr ?_; (case hd => rfl); (case hg => rfl); (case hr => first | (go_simp; done) | (go_simp; rfl)); intro dh hg w20 hbox hb; have n0_ := aC.mk (ah (by repeat (first | (with_reducible first | exact HB.out | apply aH | apply aG | apply aI) | exact HB.out)) hb); have n1_ := aC.mk (hbox); have n2_ := aC.mk ((by rw [hg]; exact (aZ (by repeat (first | (with_reducible first | exact HB.out | apply aH | apply aG | apply aI) | exact HB.out))) : w.heap.size ≤ dh)); have n3_ := aC.mk ((by rw [hg]; exact (aZ (by repeat (first | (with_reducible first | exact HB.out | apply aH | apply aG | apply aI) | exact HB.out))) : w.heap.size ≤ dh)); clear HB; have HB := n0_; have bv := n1_; have GW120 := n2_; have GE120 := n3_; clear n0_ n1_ n2_ n3_; clear hb hbox hg; have hcz21_0 : w20.cell? ⟨dh, 0, none⟩ = some (.int .i64 aX) := (aD bv.out 0).trans rfl; have hcz21_1 : w20.cell? ⟨dh, 1, none⟩ = some (.int .i64 aY) := (aD bv.out 1).trans rfl; have hcz21_2 : w20.cell? ⟨dh, 2, none⟩ = some (.int .i64 ae) := (aD bv.out 2).trans rfl; have hcz21_3 : w20.cell? ⟨dh, 3, none⟩ = some (.int .i64 aT) := (aD bv.out 3).trans rfl; have hcz21_4 : w20.cell? ⟨dh, 4, none⟩ = some (.slice bH aM.length bC) := (aD bv.out 4).trans rfl; have hcz21_5 : w20.cell? ⟨dh, 5, none⟩ = some (.slice bE aU.length bD) := (aD bv.out 5).trans rfl; have hfz21_0 := aA bv.out 0; have hfz21_1 := aA bv.out 1; have hfz21_2 := aA bv.out 2; have hfz21_3 := aA bv.out 3; have hfz21_4 := aA bv.out 4; have hfz21_5 := aA bv.out 5) | ((with_reducible refine dG (f := 93) rfl ?_); refine gW (some 8) rfl rfl Try.func93 (by kernel_rfl) rfl #[.agg #[.int .i64 aX, .int .i64 aY, .int .i64 ae, .int .i64 aT, .slice bH aM.length bC, .slice bE aU.length bD]] rfl (by (try simp only [List.map_toArray, List.map_cons, List.map_nil]); first | done | rfl | (simp only [List.length_drop, List.length_take]; rfl)) ?_; (with_reducible refine (bL.calls k aX aY ae aT _ _ aM _ _ aU t121 _ ?dD ?dC ?dJ ?dI A2.out).mono ?_); (case dD => repeat (first | exact (Kd.ak dY.out HB.out) | (with_reducible refine Kd.bS ?_ _) | (with_reducible refine Kd.bR ?_ _) | (with_reducible refine Kd.bW ?_))); (case dC => exact eX.out); (case dJ => repeat (first | exact (Kd.ak dV.out HB.out) | (with_reducible refine Kd.bS ?_ _) | (with_reducible refine Kd.bR ?_ _) | (with_reducible refine Kd.bW ?_))); (case dI => exact fA.out); rintro e w22 ⟨rfl, hb⟩; refine ⟨_, rfl, ?_⟩; have n0_ := aC.mk (av (g := dh) (o := .cells #[.int .i64 aX, .int .i64 aY, .int .i64 ae, .int .i64 aT, .slice bH aM.length bC, .slice bE aU.length bD] 43 (0, 0)) (by (with_reducible repeat (first | refine ag ?_ _ | refine af ?_ | refine aW ?_ _)); exact bv.out) hb); have n1_ := aC.mk (ah (by repeat (first | (with_reducible first | exact HB.out | apply aH | apply aG | apply aI | refine aJ ?_ GE120.out) | exact HB.out)) hb); clear bv; clear HB; have bv := n0_; have HB := n1_; clear n0_ n1_; (try clear hb); (try clear hb2); (try clear hk); (try clear hi)))
    go_ret2
    exact ⟨by first | rfl | (simp [az, ay] <;> rfl) | (simp [*, az, ay] <;> rfl), by repeat (first | (with_reducible first | exact HB.out | apply aH | apply aG | apply aI | refine aJ ?_ GE120.out) | exact HB.out)⟩
end Go.Proofs.Ytkaefgmgcghhiaa.X
end

section
namespace Go.Proofs.Ytkaefgmgcghhiaa.X
open Go.RowKit Go.Proofs.YtkaefgmgcghhiaaW.PrintWords Go.Proofs.YtkaefgmgcghhiaaW.PrintLast Go.Proofs.YtkaefgmgcghhiaaW.PrintMore
attribute [local go_sem] eP eH fQ fP d9 dZ eO eG   -- for this text's walks alone
set_option linter.unusedVariables false
set_option linter.unusedSimpArgs false
mutual
def aQ.j0 : Nat → Bool → Int → Int → Int → Int → List Int → List Int → Option (Int × Int)
  | 0, _, _, _, _, _, _, _ => none
  | k + 1, x14, fF, ed, eF, eD, eZ, eY => if x14 = true then (some (0, 30)) else (if ed < 1 then (aQ.j1 k true fF ed eF eD eZ eY) else (aQ.j1 k (decide (ed > 64)) fF ed eF eD eZ eY))
def aQ.j1 : Nat → Bool → Int → Int → Int → Int → List Int → List Int → Option (Int × Int)
  | 0, _, _, _, _, _, _, _ => none
  | k + 1, x22, fF, ed, eF, eD, eZ, eY => if x22 = true then (some (0, 1)) else (if fF = 1 then (if eF = 2 then (if eF < 1 then (aQ.j2 k true fF ed eF eD eZ eY) else (aQ.j2 k (decide (eF > 64)) fF ed eF eD eZ eY)) else (aQ.j2 k true fF ed eF eD eZ eY)) else (if eF < 1 then (aQ.j2 k true fF ed eF eD eZ eY) else (aQ.j2 k (decide (eF > 64)) fF ed eF eD eZ eY)))
def aQ.j2 : Nat → Bool → Int → Int → Int → Int → List Int → List Int → Option (Int × Int)
  | 0, _, _, _, _, _, _, _ => none
  | k + 1, x40, fF, ed, eF, eD, eZ, eY => if x40 = true then (some (0, 33)) else (if eD < 1 then (aQ.j3 k true fF ed eF eD eZ eY) else (aQ.j3 k (decide (eD > 1024)) fF ed eF eD eZ eY))
def aQ.j3 : Nat → Bool → Int → Int → Int → Int → List Int → List Int → Option (Int × Int)
  | 0, _, _, _, _, _, _, _ => none
  | k + 1, x48, fF, ed, eF, eD, eZ, eY => if x48 = true then (some (0, 3)) else (if fF = 2 then (aQ.j4 k (wrap64 (eD * ed)) fF ed eF eD eZ eY) else (aQ.j4 k eD fF ed eF eD eZ eY))
def aQ.j4 : Nat → Int → Int → Int → Int → Int → List Int → List Int → Option (Int × Int)
  | 0, _, _, _, _, _, _, _ => none
  | k + 1, x4, fF, ed, eF, eD, eZ, eY => if (eZ.length : Int) = (wrap64 (eD * ed)) then (aQ.j5 k ((eY.length : Int) != x4) fF ed eF eD eZ eY) else (aQ.j5 k true fF ed eF eD eZ eY)
def aQ.j5 : Nat → Bool → Int → Int → Int → Int → List Int → List Int → Option (Int × Int)
  | 0, _, _, _, _, _, _, _ => none
  | k + 1, x74, fF, ed, eF, eD, eZ, eY => if x74 = true then (some (0, 31)) else (aQ.l0 k 0 fF ed eF eD eZ eY)
def aQ.l0 : Nat → Int → Int → Int → Int → Int → List Int → List Int → Option (Int × Int)
  | 0, _, _, _, _, _, _, _ => none
  | k + 1, x5, fF, ed, eF, eD, eZ, eY => if x5 < (eZ.length : Int) then (if 0 ≤ x5 then (if (rd eZ x5) < 0 then (some (x5, 32)) else (if (rd eZ x5) ≥ eD then (some (x5, 32)) else (aQ.l0 k (wrap64 (x5 + 1)) fF ed eF eD eZ eY))) else (none)) else (aQ.l1 k 0 fF ed eF eD eZ eY)
def aQ.l1 : Nat → Int → Int → Int → Int → Int → List Int → List Int → Option (Int × Int)
  | 0, _, _, _, _, _, _, _ => none
  | k + 1, x6, fF, ed, eF, eD, eZ, eY => if x6 < (eY.length : Int) then (if 0 ≤ x6 then (if (rd eY x6) < 0 then (some (x6, 33)) else (if (rd eY x6) ≥ eF then (some (x6, 33)) else (aQ.l1 k (wrap64 (x6 + 1)) fF ed eF eD eZ eY))) else (none)) else (some (0, 0))
end
def aQ.f (k : Nat) (aX : Int) (aY : Int) (ae : Int) (aT : Int) (aM : List Int) (aU : List Int) : Option (Int × Int) := if aX = 1 then (aQ.j0 k false aX aY ae aT aM aU) else (aQ.j0 k (aX != 2) aX aY ae aT aM aU)
set_option maxHeartbeats 8000000 in
set_option maxRecDepth 100000 in
theorem aQ.calls (k : Nat) (aX : Int) (aY : Int) (ae : Int) (aT : Int) (bH : Option Addr) (bC : Nat) (aM : List Int) (bE : Option Addr) (bD : Nat) (aU : List Int) (r1 : Int) (r2 : Int) (w : World) (eQ : Kd.C (Kd.int .i64) w bH aM.length aM) (eu : aM.length ≤ bC) (fD : Kd.C (Kd.int .i64) w bE aU.length aU) (fG : aU.length ≤ bD) (h : aQ.f k aX aY ae aT aM aU = some (r1, r2)) :
    Calls Try.prog 66 #[.agg #[.int .i64 aX, .int .i64 aY, .int .i64 ae, .int .i64 aT, .slice bH aM.length bC, .slice bE aU.length bD]] w fun e w' => e = .returned (.tuple #[.int .i64 r1, .int .i64 r2]) ∧ Below w.heap.size w w' := by
  have hu43 := Try.underlying43
  have dY := aC.mk eQ
  have eX := aC.mk eu
  clear eQ eu
  have dV := aC.mk fD
  have fA := aC.mk fG
  clear fD fG
  have HB := aC.mk (Below.refl w.heap.size w)
  have H : (if aX = 1 then (aQ.j0 k false aX aY ae aT aM aU) else (aQ.j0 k (aX != 2) aX aY ae aT aM aU)) = some (r1, r2) := h
  clear h
  have HC2 := aC.mk H
  clear H
  go_enter Try.func66, Try.ntmps66
  go_upto_region 1 with (first | ((with_reducible refine bK (N := 1) rfl ?_); (try (refine gate_guard (by rfl) ?_; dsimp only)); refine dA ?hg (N := 1) ?hd (cs := #[.int .i64 aX, .int .i64 aY, .int .i64 ae, .int .i64 aT, .slice bH aM.length bC, .slice bE aU.length bD]) (t := 43) ?hr ?_; (case hd => rfl); (case hg => rfl); (case hr => first | (go_simp; done) | (go_simp; rfl)); intro bQ hg w3 hbox hb; have n0_ := aC.mk (ah (by repeat (first | (with_reducible first | exact HB.out | apply aH | apply aG | apply aI) | exact HB.out)) hb); have n1_ := aC.mk (hbox); have n2_ := aC.mk ((by rw [hg]; exact (aZ (by repeat (first | (with_reducible first | exact HB.out | apply aH | apply aG | apply aI) | exact HB.out))) : w.heap.size ≤ bQ)); have n3_ := aC.mk ((by rw [hg]; exact (aZ (by repeat (first | (with_reducible first | exact HB.out | apply aH | apply aG | apply aI) | exact HB.out))) : w.heap.size ≤ bQ)); clear HB; have HB := n0_; have aj := n1_; have GW325 := n2_; have iR := n3_; clear n0_ n1_ n2_ n3_; clear hb hbox hg))
  repeat (go_quiet (first | ((with_reducible refine bK (N := 1) rfl ?_); (try (refine gate_guard (by rfl) ?_; dsimp only)); refine dA ?hg (N := 1) ?hd (cs := #[.int .i64 aX, .int .i64 aY, .int .i64 ae, .int .i64 aT, .slice bH aM.length bC, .slice bE aU.length bD]) (t := 43) ?hr ?_; (case hd => rfl); (case hg => rfl); (case hr => first | (go_simp; done) | (go_simp; rfl)); intro bQ hg w3 hbox hb; have n0_ := aC.mk (ah (by repeat (first | (with_reducible first | exact HB.out | apply aH | apply aG | apply aI) | exact HB.out)) hb); have n1_ := aC.mk (hbox); have n2_ := aC.mk ((by rw [hg]; exact (aZ (by repeat (first | (with_reducible first | exact HB.out | apply aH | apply aG | apply aI) | exact HB.out))) : w.heap.size ≤ bQ)); have n3_ := aC.mk ((by rw [hg]; exact (aZ (by repeat (first | (with_reducible first | exact HB.out | apply aH | apply aG | apply aI) | exact HB.out))) : w.heap.size ≤ bQ)); clear HB; have HB := n0_; have aj := n1_; have GW325 := n2_; have iR := n3_; clear n0_ n1_ n2_ n3_; clear hb hbox hg)); go_upto_region 1 with (first | ((with_reducible refine bK (N := 1) rfl ?_); (try (refine gate_guard (by rfl) ?_; dsimp only)); refine dA ?hg (N := 1) ?hd (cs := #[.int .i64 aX, .int .i64 aY, .int .i64 ae, .int .i64 aT, .slice bH aM.length bC, .slice bE aU.length bD]) (t := 43) ?hr ?_; (case hd => rfl); (case hg => rfl); (case hr => first | (go_simp; done) | (go_simp; rfl)); intro bQ hg w3 hbox hb; have n0_ := aC.mk (ah (by repeat (first | (with_reducible first | exact HB.out | apply aH | apply aG | apply aI) | exact HB.out)) hb); have n1_ := aC.mk (hbox); have n2_ := aC.mk ((by rw [hg]; exact (aZ (by repeat (first | (with_reducible first | exact HB.out | apply aH | apply aG | apply aI) | exact HB.out))) : w.heap.size ≤ bQ)); have n3_ := aC.mk ((by rw [hg]; exact (aZ (by repeat (first | (with_reducible first | exact HB.out | apply aH | apply aG | apply aI) | exact HB.out))) : w.heap.size ≤ bQ)); clear HB; have HB := n0_; have aj := n1_; have GW325 := n2_; have iR := n3_; clear n0_ n1_ n2_ n3_; clear hb hbox hg)))
  (try simp only [Act.put, List.setIfInBounds_toArray, List.set_cons_zero, List.set_cons_succ])
  go_cut [14] (fun v14 wc => ∃ (kq : Nat) (x14_1 : Bool), v14 = .bool x14_1 ∧ aC (aQ.j0 kq x14_1 aX aY ae aT aM aU = some (r1, r2)) ∧ aC (kq ≤ k) ∧ aC (wc.heap[bQ]? = some (.cells #[.int .i64 aX, .int .i64 aY, .int .i64 ae, .int .i64 aT, (.slice bH aM.length bC), (.slice bE aU.length bD)] 43 (0, 0))) ∧ aC (Below w.heap.size w wc))
  case first =>
    have H := HC2.out
    clear HC2
    by_cases c4 : aX = 1
    · rw [if_pos c4] at H
      have iB : (aX == 1) = true := beq_iff_eq.mpr c4
      have ja : (aX != 1) = false := bne_eq_false_iff_eq.mpr c4
      clear c4
      (first | rw [iB] | (simp only [bT, bU]; rw [iB]) | skip)
      have H' := aC.mk H
      clear H
      have lJ : w3.cell? ⟨bQ, 0, none⟩ = some (.int .i64 aX) := (aD aj.out 0).trans rfl
      have lI : w3.cell? ⟨bQ, 1, none⟩ = some (.int .i64 aY) := (aD aj.out 1).trans rfl
      have lH : w3.cell? ⟨bQ, 2, none⟩ = some (.int .i64 ae) := (aD aj.out 2).trans rfl
      have lG : w3.cell? ⟨bQ, 3, none⟩ = some (.int .i64 aT) := (aD aj.out 3).trans rfl
      have lF : w3.cell? ⟨bQ, 4, none⟩ = some (.slice bH aM.length bC) := (aD aj.out 4).trans rfl
      have lD : w3.cell? ⟨bQ, 5, none⟩ = some (.slice bE aU.length bD) := (aD aj.out 5).trans rfl
      have lC := aA aj.out 0
      have kz := aA aj.out 1
      have ky := aA aj.out 2
      have kw := aA aj.out 3
      have kv := aA aj.out 4
      have ku := aA aj.out 5
      go_wp2
      repeat (go_quiet (fail); try go_wp2)
      go_meet
      case rel => exact ⟨_, (false), (by first | rfl | (simp; done) | (simp [*]; done)), H', ⟨by first | omega | exact Nat.le_refl _⟩, ⟨by (with_reducible repeat (first | refine ag ?_ _ | refine af ?_ | refine aW ?_ _)); exact aj.out⟩, ⟨by repeat (first | (with_reducible first | exact HB.out | apply aH | apply aG | apply aI | refine aJ ?_ iR.out) | exact HB.out)⟩⟩
    · rw [if_neg c4] at H
      have iB : (aX == 1) = false := beq_eq_false_iff_ne.mpr c4
      have ja : (aX != 1) = true := bne_iff_ne.mpr c4
      (first | rw [iB] | (simp only [bT, bU]; rw [iB]) | skip)
      have H' := aC.mk H
      clear H
      have iO : w3.cell? ⟨bQ, 0, none⟩ = some (.int .i64 aX) := (aD aj.out 0).trans rfl
      have iN : w3.cell? ⟨bQ, 1, none⟩ = some (.int .i64 aY) := (aD aj.out 1).trans rfl
      have iM : w3.cell? ⟨bQ, 2, none⟩ = some (.int .i64 ae) := (aD aj.out 2).trans rfl
      have iL : w3.cell? ⟨bQ, 3, none⟩ = some (.int .i64 aT) := (aD aj.out 3).trans rfl
      have iK : w3.cell? ⟨bQ, 4, none⟩ = some (.slice bH aM.length bC) := (aD aj.out 4).trans rfl
      have iJ : w3.cell? ⟨bQ, 5, none⟩ = some (.slice bE aU.length bD) := (aD aj.out 5).trans rfl
      have iI := aA aj.out 0
      have iH := aA aj.out 1
      have iG := aA aj.out 2
      have iF := aA aj.out 3
      have iE := aA aj.out 4
      have iD := aA aj.out 5
      go_wp2
      repeat (go_quiet (fail); try go_wp2)
      go_meet
      case rel => exact ⟨_, ((aX != 2)), (by first | rfl | (simp; done) | (simp [*]; done)), H', ⟨by first | omega | exact Nat.le_refl _⟩, ⟨by (with_reducible repeat (first | refine ag ?_ _ | refine af ?_ | refine aW ?_ _)); exact aj.out⟩, ⟨by repeat (first | (with_reducible first | exact HB.out | apply aH | apply aG | apply aI | refine aJ ?_ iR.out) | exact HB.out)⟩⟩
  case rest =>
    clear HC2
    try clear p2
    try clear c4
    try clear iB
    try clear ja
    try clear c6
    try clear lJ
    try clear lI
    try clear lH
    try clear lG
    try clear lF
    try clear lD
    try clear iO
    try clear iN
    try clear iM
    try clear iL
    try clear iK
    try clear iJ
    try clear lC
    try clear kz
    try clear ky
    try clear kw
    try clear kv
    try clear ku
    try clear iI
    try clear iH
    try clear iG
    try clear iF
    try clear iE
    try clear iD
    obtain ⟨kq, x14_1, rfl, HA, HJ1, aj, HB⟩ := hcut
    cases kq with
    | zero => exact absurd HA.out (by simp [aQ.j0])
    | succ kj1 =>
      have H := HA.out
      clear HA
      simp only [aQ.j0] at H
      by_cases c7 : x14_1 = true
      · subst c7
        have H1 : (some (0, 30)) = some (r1, r2) := by rw [if_pos rfl] at H; exact H
        clear H
        have H := H1
        clear H1
        simp only [Option.some.injEq, Prod.mk.injEq] at H
        obtain ⟨rfl, rfl⟩ := H
        go_wp2
        repeat (go_quiet (fail); try go_wp2)
        go_ret2
        exact ⟨by first | rfl | (simp [az, ay] <;> rfl) | (simp [*, az, ay] <;> rfl), by repeat (first | (with_reducible first | exact HB.out | apply aH | apply aG | apply aI | refine aJ ?_ iR.out) | exact HB.out)⟩
      · replace c7 := Bool.eq_false_iff.mpr c7
        subst c7
        have H1 : (if aY < 1 then (aQ.j1 kj1 true aX aY ae aT aM aU) else (aQ.j1 kj1 (decide (aY > 64)) aX aY ae aT aM aU)) = some (r1, r2) := by rw [if_neg (show ¬ (false = true) by decide)] at H; exact H
        clear H
        have H := H1
        clear H1
        have HC8 := aC.mk H
        clear H
        go_upto_region 3 with (fail)
        repeat (go_quiet (fail); go_upto_region 3 with (fail))
        go_cut [22] (fun v22 wc => ∃ (kq : Nat) (x22_7 : Bool), v22 = .bool x22_7 ∧ aC (aQ.j1 kq x22_7 aX aY ae aT aM aU = some (r1, r2)) ∧ aC (kq ≤ kj1) ∧ aC (wc.heap[bQ]? = some (.cells #[.int .i64 aX, .int .i64 aY, .int .i64 ae, .int .i64 aT, (.slice bH aM.length bC), (.slice bE aU.length bD)] 43 (0, 0))) ∧ aC (Below w.heap.size w wc))
        case first =>
          have H := HC8.out
          clear HC8
          by_cases c9 : aY < 1
          · rw [if_pos c9] at H
            have c9b0 : decide (aY < 1) = true := decide_eq_true c9
            clear c9
            (first | rw [c9b0] | (simp only [bT, bU]; rw [c9b0]) | skip)
            have H' := aC.mk H
            clear H
            have hcz10_0 : wc.cell? ⟨bQ, 0, none⟩ = some (.int .i64 aX) := (aD aj.out 0).trans rfl
            have hcz10_1 : wc.cell? ⟨bQ, 1, none⟩ = some (.int .i64 aY) := (aD aj.out 1).trans rfl
            have hcz10_2 : wc.cell? ⟨bQ, 2, none⟩ = some (.int .i64 ae) := (aD aj.out 2).trans rfl
            have hcz10_3 : wc.cell? ⟨bQ, 3, none⟩ = some (.int .i64 aT) := (aD aj.out 3).trans rfl
            have hcz10_4 : wc.cell? ⟨bQ, 4, none⟩ = some (.slice bH aM.length bC) := (aD aj.out 4).trans rfl
            have hcz10_5 : wc.cell? ⟨bQ, 5, none⟩ = some (.slice bE aU.length bD) := (aD aj.out 5).trans rfl
            have hfz10_0 := aA aj.out 0
            have hfz10_1 := aA aj.out 1
            have hfz10_2 := aA aj.out 2
            have hfz10_3 := aA aj.out 3
            have hfz10_4 := aA aj.out 4
            have hfz10_5 := aA aj.out 5
            go_wp2
            repeat (go_quiet (fail); try go_wp2)
            go_meet
            case rel => exact ⟨_, (true), (by first | rfl | (simp; done) | (simp [*]; done)), H', ⟨by have := HJ1.out; first | omega | exact Nat.le_refl _⟩, ⟨by (with_reducible repeat (first | refine ag ?_ _ | refine af ?_ | refine aW ?_ _)); exact aj.out⟩, ⟨by repeat (first | (with_reducible first | exact HB.out | apply aH | apply aG | apply aI | refine aJ ?_ iR.out) | exact HB.out)⟩⟩
          · rw [if_neg c9] at H
            have c9b0 : decide (aY < 1) = false := decide_eq_false c9
            clear c9
            (first | rw [c9b0] | (simp only [bT, bU]; rw [c9b0]) | skip)
            have H' := aC.mk H
            clear H
            have gL : wc.cell? ⟨bQ, 0, none⟩ = some (.int .i64 aX) := (aD aj.out 0).trans rfl
            have gK : wc.cell? ⟨bQ, 1, none⟩ = some (.int .i64 aY) := (aD aj.out 1).trans rfl
            have gJ : wc.cell? ⟨bQ, 2, none⟩ = some (.int .i64 ae) := (aD aj.out 2).trans rfl
            have gI : wc.cell? ⟨bQ, 3, none⟩ = some (.int .i64 aT) := (aD aj.out 3).trans rfl
            have gH : wc.cell? ⟨bQ, 4, none⟩ = some (.slice bH aM.length bC) := (aD aj.out 4).trans rfl
            have gG : wc.cell? ⟨bQ, 5, none⟩ = some (.slice bE aU.length bD) := (aD aj.out 5).trans rfl
            have gF := aA aj.out 0
            have gD := aA aj.out 1
            have gB := aA aj.out 2
            have fu := aA aj.out 3
            have fq := aA aj.out 4
            have fo := aA aj.out 5
            go_wp2
            repeat (go_quiet (fail); try go_wp2)
            go_meet
            case rel => exact ⟨_, (decide (aY > 64)), (by first | rfl | (simp; done) | (simp [*]; done)), H', ⟨by have := HJ1.out; first | omega | exact Nat.le_refl _⟩, ⟨by (with_reducible repeat (first | refine ag ?_ _ | refine af ?_ | refine aW ?_ _)); exact aj.out⟩, ⟨by repeat (first | (with_reducible first | exact HB.out | apply aH | apply aG | apply aI | refine aJ ?_ iR.out) | exact HB.out)⟩⟩
        case rest =>
          clear HC8
          try clear p2
          try clear c4
          try clear iB
          try clear ja
          try clear c6
          try clear c7
          try clear c9
          try clear c9b0
          try clear hcz10_0
          try clear hcz10_1
          try clear hcz10_2
          try clear hcz10_3
          try clear hcz10_4
          try clear hcz10_5
          try clear gL
          try clear gK
          try clear gJ
          try clear gI
          try clear gH
          try clear gG
          try clear lJ
          try clear lI
          try clear lH
          try clear lG
          try clear lF
          try clear lD
          try clear iO
          try clear iN
          try clear iM
          try clear iL
          try clear iK
          try clear iJ
          try clear hfz10_0
          try clear hfz10_1
          try clear hfz10_2
          try clear hfz10_3
          try clear hfz10_4
          try clear hfz10_5
          try clear gF
          try clear gD
          try clear gB
          try clear fu
          try clear fq
          try clear fo
          try clear lC
          try clear kz
          try clear ky
          try clear kw
          try clear kv
          try clear ku
          try clear iI
          try clear iH
          try clear iG
          try clear iF
          try clear iE
          try clear iD
          try clear p2
          obtain ⟨kq, x22_7, rfl, HA, HJ7, aj, HB⟩ := hcut
          cases kq with
          | zero => exact absurd HA.out (by simp [aQ.j1])
          | succ kj7 =>
            have H := HA.out
            clear HA
            simp only [aQ.j1] at H
            by_cases c12 : x22_7 = true
            · subst c12
              have H1 : (some (0, 1)) = some (r1, r2) := by rw [if_pos rfl] at H; exact H
              clear H
              have H := H1
              clear H1
              simp only [Option.some.injEq, Prod.mk.injEq] at H
              obtain ⟨rfl, rfl⟩ := H
              go_wp2
              repeat (go_quiet (fail); try go_wp2)
              go_ret2
              exact ⟨by first | rfl | (simp [az, ay] <;> rfl) | (simp [*, az, ay] <;> rfl), by repeat (first | (with_reducible first | exact HB.out | apply aH | apply aG | apply aI | refine aJ ?_ iR.out) | exact HB.out)⟩
            · replace c12 := Bool.eq_false_iff.mpr c12
              subst c12
              have H1 : (if aX = 1 then (if ae = 2 then (if ae < 1 then (aQ.j2 kj7 true aX aY ae aT aM aU) else (aQ.j2 kj7 (decide (ae > 64)) aX aY ae aT aM aU)) else (aQ.j2 kj7 true aX aY ae aT aM aU)) else (if ae < 1 then (aQ.j2 kj7 true aX aY ae aT aM aU) else (aQ.j2 kj7 (decide (ae > 64)) aX aY ae aT aM aU))) = some (r1, r2) := by rw [if_neg (show ¬ (false = true) by decide)] at H; exact H
              clear H
              have H := H1
              clear H1
              have HC13 := aC.mk H
              clear H
              go_upto_region 5 with (fail)
              repeat (go_quiet (fail); go_upto_region 5 with (fail))
              go_cut [40] (fun v40 wc => ∃ (kq : Nat) (x40_12 : Bool), v40 = .bool x40_12 ∧ aC (aQ.j2 kq x40_12 aX aY ae aT aM aU = some (r1, r2)) ∧ aC (kq ≤ kj7) ∧ aC (wc.heap[bQ]? = some (.cells #[.int .i64 aX, .int .i64 aY, .int .i64 ae, .int .i64 aT, (.slice bH aM.length bC), (.slice bE aU.length bD)] 43 (0, 0))) ∧ aC (Below w.heap.size w wc))
              case first =>
                have H := HC13.out
                clear HC13
                by_cases c14 : aX = 1
                · rw [if_pos c14] at H
                  have jg : (aX == 1) = true := beq_iff_eq.mpr c14
                  have c14b1 : (aX != 1) = false := bne_eq_false_iff_eq.mpr c14
                  clear c14
                  (first | rw [jg] | (simp only [bT, bU]; rw [jg]) | skip)
                  by_cases c15 : ae = 2
                  · rw [if_pos c15] at H
                    have c15b0 : (ae == 2) = true := beq_iff_eq.mpr c15
                    have c15b1 : (ae != 2) = false := bne_eq_false_iff_eq.mpr c15
                    clear c15
                    by_cases c16 : ae < 1
                    · rw [if_pos c16] at H
                      have c16b0 : decide (ae < 1) = true := decide_eq_true c16
                      clear c16
                      have H' := aC.mk H
                      clear H
                      have kZ : wc.cell? ⟨bQ, 0, none⟩ = some (.int .i64 aX) := (aD aj.out 0).trans rfl
                      have kY : wc.cell? ⟨bQ, 1, none⟩ = some (.int .i64 aY) := (aD aj.out 1).trans rfl
                      have kX : wc.cell? ⟨bQ, 2, none⟩ = some (.int .i64 ae) := (aD aj.out 2).trans rfl
                      have kW : wc.cell? ⟨bQ, 3, none⟩ = some (.int .i64 aT) := (aD aj.out 3).trans rfl
                      have kV : wc.cell? ⟨bQ, 4, none⟩ = some (.slice bH aM.length bC) := (aD aj.out 4).trans rfl
                      have kU : wc.cell? ⟨bQ, 5, none⟩ = some (.slice bE aU.length bD) := (aD aj.out 5).trans rfl
                      have kT := aA aj.out 0
                      have kS := aA aj.out 1
                      have kR := aA aj.out 2
                      have kQ := aA aj.out 3
                      have kP := aA aj.out 4
                      have kN := aA aj.out 5
                      go_wp2
                      repeat (go_quiet (fail); try go_wp2)
                      go_meet
                      case rel => exact ⟨_, (true), (by first | rfl | (simp; done) | (simp [*]; done)), H', ⟨by have := HJ1.out; have := HJ7.out; first | omega | exact Nat.le_refl _⟩, ⟨by (with_reducible repeat (first | refine ag ?_ _ | refine af ?_ | refine aW ?_ _)); exact aj.out⟩, ⟨by repeat (first | (with_reducible first | exact HB.out | apply aH | apply aG | apply aI | refine aJ ?_ iR.out) | exact HB.out)⟩⟩
                    · rw [if_neg c16] at H
                      have c16b0 : decide (ae < 1) = false := decide_eq_false c16
                      clear c16
                      have H' := aC.mk H
                      clear H
                      have hcz18_0 : wc.cell? ⟨bQ, 0, none⟩ = some (.int .i64 aX) := (aD aj.out 0).trans rfl
                      have hcz18_1 : wc.cell? ⟨bQ, 1, none⟩ = some (.int .i64 aY) := (aD aj.out 1).trans rfl
                      have hcz18_2 : wc.cell? ⟨bQ, 2, none⟩ = some (.int .i64 ae) := (aD aj.out 2).trans rfl
                      have hcz18_3 : wc.cell? ⟨bQ, 3, none⟩ = some (.int .i64 aT) := (aD aj.out 3).trans rfl
                      have hcz18_4 : wc.cell? ⟨bQ, 4, none⟩ = some (.slice bH aM.length bC) := (aD aj.out 4).trans rfl
                      have hcz18_5 : wc.cell? ⟨bQ, 5, none⟩ = some (.slice bE aU.length bD) := (aD aj.out 5).trans rfl
                      have hfz18_0 := aA aj.out 0
                      have hfz18_1 := aA aj.out 1
                      have hfz18_2 := aA aj.out 2
                      have hfz18_3 := aA aj.out 3
                      have hfz18_4 := aA aj.out 4
                      have hfz18_5 := aA aj.out 5
                      go_wp2
                      repeat (go_quiet (fail); try go_wp2)
                      go_meet
                      case rel => exact ⟨_, (decide (ae > 64)), (by first | rfl | (simp; done) | (simp [*]; done)), H', ⟨by have := HJ1.out; have := HJ7.out; first | omega | exact Nat.le_refl _⟩, ⟨by (with_reducible repeat (first | refine ag ?_ _ | refine af ?_ | refine aW ?_ _)); exact aj.out⟩, ⟨by repeat (first | (with_reducible first | exact HB.out | apply aH | apply aG | apply aI | refine aJ ?_ iR.out) | exact HB.out)⟩⟩
                  · rw [if_neg c15] at H
                    have c15b0 : (ae == 2) = false := beq_eq_false_iff_ne.mpr c15
                    have c15b1 : (ae != 2) = true := bne_iff_ne.mpr c15
                    have H' := aC.mk H
                    clear H
                    have hcz19_0 : wc.cell? ⟨bQ, 0, none⟩ = some (.int .i64 aX) := (aD aj.out 0).trans rfl
                    have hcz19_1 : wc.cell? ⟨bQ, 1, none⟩ = some (.int .i64 aY) := (aD aj.out 1).trans rfl
                    have hcz19_2 : wc.cell? ⟨bQ, 2, none⟩ = some (.int .i64 ae) := (aD aj.out 2).trans rfl
                    have hcz19_3 : wc.cell? ⟨bQ, 3, none⟩ = some (.int .i64 aT) := (aD aj.out 3).trans rfl
                    have hcz19_4 : wc.cell? ⟨bQ, 4, none⟩ = some (.slice bH aM.length bC) := (aD aj.out 4).trans rfl
                    have hcz19_5 : wc.cell? ⟨bQ, 5, none⟩ = some (.slice bE aU.length bD) := (aD aj.out 5).trans rfl
                    have hfz19_0 := aA aj.out 0
                    have hfz19_1 := aA aj.out 1
                    have hfz19_2 := aA aj.out 2
                    have hfz19_3 := aA aj.out 3
                    have hfz19_4 := aA aj.out 4
                    have hfz19_5 := aA aj.out 5
                    go_wp2
                    repeat (go_quiet (fail); try go_wp2)
                    go_meet
                    case rel => exact ⟨_, (true), (by first | rfl | (simp; done) | (simp [*]; done)), H', ⟨by have := HJ1.out; have := HJ7.out; first | omega | exact Nat.le_refl _⟩, ⟨by (with_reducible repeat (first | refine ag ?_ _ | refine af ?_ | refine aW ?_ _)); exact aj.out⟩, ⟨by repeat (first | (with_reducible first | exact HB.out | apply aH | apply aG | apply aI | refine aJ ?_ iR.out) | exact HB.out)⟩⟩
                · rw [if_neg c14] at H
                  have jg : (aX == 1) = false := beq_eq_false_iff_ne.mpr c14
                  have c14b1 : (aX != 1) = true := bne_iff_ne.mpr c14
                  (first | rw [jg] | (simp only [bT, bU]; rw [jg]) | skip)
                  by_cases c20 : ae < 1
                  · rw [if_pos c20] at H
                    have jf : decide (ae < 1) = true := decide_eq_true c20
                    clear c20
                    have H' := aC.mk H
                    clear H
                    have hcz21_0 : wc.cell? ⟨bQ, 0, none⟩ = some (.int .i64 aX) := (aD aj.out 0).trans rfl
                    have hcz21_1 : wc.cell? ⟨bQ, 1, none⟩ = some (.int .i64 aY) := (aD aj.out 1).trans rfl
                    have hcz21_2 : wc.cell? ⟨bQ, 2, none⟩ = some (.int .i64 ae) := (aD aj.out 2).trans rfl
                    have hcz21_3 : wc.cell? ⟨bQ, 3, none⟩ = some (.int .i64 aT) := (aD aj.out 3).trans rfl
                    have hcz21_4 : wc.cell? ⟨bQ, 4, none⟩ = some (.slice bH aM.length bC) := (aD aj.out 4).trans rfl
                    have hcz21_5 : wc.cell? ⟨bQ, 5, none⟩ = some (.slice bE aU.length bD) := (aD aj.out 5).trans rfl
                    have hfz21_0 := aA aj.out 0
                    have hfz21_1 := aA aj.out 1
                    have hfz21_2 := aA aj.out 2
                    have hfz21_3 := aA aj.out 3
                    have hfz21_4 := aA aj.out 4
                    have hfz21_5 := aA aj.out 5
                    go_wp2
                    repeat (go_quiet (fail); try go_wp2)
                    go_meet
                    case rel => exact ⟨_, (true), (by first | rfl | (simp; done) | (simp [*]; done)), H', ⟨by have := HJ1.out; have := HJ7.out; first | omega | exact Nat.le_refl _⟩, ⟨by (with_reducible repeat (first | refine ag ?_ _ | refine af ?_ | refine aW ?_ _)); exact aj.out⟩, ⟨by repeat (first | (with_reducible first | exact HB.out | apply aH | apply aG | apply aI | refine aJ ?_ iR.out) | exact HB.out)⟩⟩
                  · rw [if_neg c20] at H
                    have jf : decide (ae < 1) = false := decide_eq_false c20
                    clear c20
                    have H' := aC.mk H
                    clear H
                    have hcz22_0 : wc.cell? ⟨bQ, 0, none⟩ = some (.int .i64 aX) := (aD aj.out 0).trans rfl
                    have hcz22_1 : wc.cell? ⟨bQ, 1, none⟩ = some (.int .i64 aY) := (aD aj.out 1).trans rfl
                    have hcz22_2 : wc.cell? ⟨bQ, 2, none⟩ = some (.int .i64 ae) := (aD aj.out 2).trans rfl
                    have hcz22_3 : wc.cell? ⟨bQ, 3, none⟩ = some (.int .i64 aT) := (aD aj.out 3).trans rfl
                    have hcz22_4 : wc.cell? ⟨bQ, 4, none⟩ = some (.slice bH aM.length bC) := (aD aj.out 4).trans rfl
                    have hcz22_5 : wc.cell? ⟨bQ, 5, none⟩ = some (.slice bE aU.length bD) := (aD aj.out 5).trans rfl
                    have hfz22_0 := aA aj.out 0
                    have hfz22_1 := aA aj.out 1
                    have hfz22_2 := aA aj.out 2
                    have hfz22_3 := aA aj.out 3
                    have hfz22_4 := aA aj.out 4
                    have hfz22_5 := aA aj.out 5
                    go_wp2
                    repeat (go_quiet (fail); try go_wp2)
                    go_meet
                    case rel => exact ⟨_, (decide (ae > 64)), (by first | rfl | (simp; done) | (simp [*]; done)), H', ⟨by have := HJ1.out; have := HJ7.out; first | omega | exact Nat.le_refl _⟩, ⟨by (with_reducible repeat (first | refine ag ?_ _ | refine af ?_ | refine aW ?_ _)); exact aj.out⟩, ⟨by repeat (first | (with_reducible first | exact HB.out | apply aH | apply aG | apply aI | refine aJ ?_ iR.out) | exact HB.out)⟩⟩
              case rest =>
                clear HC13
                try clear c1
                try clear c2
                try clear p2
                try clear c4
                try clear iB
                try clear ja
                try clear c6
                try clear c7
                try clear c9
                try clear c9b0
                try clear c12
                try clear c14
                try clear jg
                try clear c14b1
                try clear c15
                try clear c15b0
                try clear c15b1
                try clear c16
                try clear c16b0
                try clear c20
                try clear jf
                try clear hcz10_0
                try clear hcz10_1
                try clear hcz10_2
                try clear hcz10_3
                try clear hcz10_4
                try clear hcz10_5
                try clear gL
                try clear gK
                try clear gJ
                try clear gI
                try clear gH
                try clear gG
                try clear kZ
                try clear kY
                try clear kX
                try clear kW
                try clear kV
                try clear kU
                try clear hcz18_0
                try clear hcz18_1
                try clear hcz18_2
                try clear hcz18_3
                try clear hcz18_4
                try clear hcz18_5
                try clear hcz19_0
                try clear hcz19_1
                try clear hcz19_2
                try clear hcz19_3
                try clear hcz19_4
                try clear hcz19_5
                try clear hcz21_0
                try clear hcz21_1
                try clear hcz21_2
                try clear hcz21_3
                try clear hcz21_4
                try clear hcz21_5
                try clear hcz22_0
                try clear hcz22_1
                try clear hcz22_2
                try clear hcz22_3
                try clear hcz22_4
                try clear hcz22_5
                try clear lJ
                try clear lI
                try clear lH
                try clear lG
                try clear lF
                try clear lD
                try clear iO
                try clear iN
                try clear iM
                try clear iL
                try clear iK
                try clear iJ
                try clear hfz10_0
                try clear hfz10_1
                try clear hfz10_2
                try clear hfz10_3
                try clear hfz10_4
                try clear hfz10_5
                try clear gF
                try clear gD
                try clear gB
                try clear fu
                try clear fq
                try clear fo
                try clear kT
                try clear kS
                try clear kR
                try clear kQ
                try clear kP
                try clear kN
                try clear hfz18_0
                try clear hfz18_1
                try clear hfz18_2
                try clear hfz18_3
                try clear hfz18_4
                try clear hfz18_5
                try clear hfz19_0
                try clear hfz19_1
                try clear hfz19_2
                try clear hfz19_3
                try clear hfz19_4
                try clear hfz19_5
                try clear hfz21_0
                try clear hfz21_1
                try clear hfz21_2
                try clear hfz21_3
                try clear hfz21_4
                try clear hfz21_5
                try clear hfz22_0
                try clear hfz22_1
                try clear hfz22_2
                try clear hfz22_3
                try clear hfz22_4
                try clear hfz22_5
                try clear lC
                try clear kz
                try clear ky
                try clear kw
                try clear kv
                try clear ku
                try clear iI
                try clear iH
                try clear iG
                try clear iF
                try clear iE
                try clear iD
                try clear p2
                obtain ⟨kq, x40_12, rfl, HA, HJ12, aj, HB⟩ := hcut
                cases kq with
                | zero => exact absurd HA.out (by simp [aQ.j2])
                | succ kj12 =>
                  have H := HA.out
                  clear HA
                  simp only [aQ.j2] at H
                  by_cases c23 : x40_12 = true
                  · subst c23
                    have H1 : (some (0, 33)) = some (r1, r2) := by rw [if_pos rfl] at H; exact H
                    clear H
                    have H := H1
                    clear H1
                    simp only [Option.some.injEq, Prod.mk.injEq] at H
                    obtain ⟨rfl, rfl⟩ := H
                    go_wp2
                    repeat (go_quiet (fail); try go_wp2)
                    go_ret2
                    exact ⟨by first | rfl | (simp [az, ay] <;> rfl) | (simp [*, az, ay] <;> rfl), by repeat (first | (with_reducible first | exact HB.out | apply aH | apply aG | apply aI | refine aJ ?_ iR.out) | exact HB.out)⟩
                  · replace c23 := Bool.eq_false_iff.mpr c23
                    subst c23
                    have H1 : (if aT < 1 then (aQ.j3 kj12 true aX aY ae aT aM aU) else (aQ.j3 kj12 (decide (aT > 1024)) aX aY ae aT aM aU)) = some (r1, r2) := by rw [if_neg (show ¬ (false = true) by decide)] at H; exact H
                    clear H
                    have H := H1
                    clear H1
                    have HC24 := aC.mk H
                    clear H
                    go_upto_region 7 with (fail)
                    repeat (go_quiet (fail); go_upto_region 7 with (fail))
                    go_cut [48] (fun v48 wc => ∃ (kq : Nat) (x48_23 : Bool), v48 = .bool x48_23 ∧ aC (aQ.j3 kq x48_23 aX aY ae aT aM aU = some (r1, r2)) ∧ aC (kq ≤ kj12) ∧ aC (wc.heap[bQ]? = some (.cells #[.int .i64 aX, .int .i64 aY, .int .i64 ae, .int .i64 aT, (.slice bH aM.length bC), (.slice bE aU.length bD)] 43 (0, 0))) ∧ aC (Below w.heap.size w wc))
                    case first =>
                      have H := HC24.out
                      clear HC24
                      by_cases c25 : aT < 1
                      · rw [if_pos c25] at H
                        have jZ : decide (aT < 1) = true := decide_eq_true c25
                        clear c25
                        (first | rw [jZ] | (simp only [bT, bU]; rw [jZ]) | skip)
                        have H' := aC.mk H
                        clear H
                        have hcz26_0 : wc.cell? ⟨bQ, 0, none⟩ = some (.int .i64 aX) := (aD aj.out 0).trans rfl
                        have hcz26_1 : wc.cell? ⟨bQ, 1, none⟩ = some (.int .i64 aY) := (aD aj.out 1).trans rfl
                        have hcz26_2 : wc.cell? ⟨bQ, 2, none⟩ = some (.int .i64 ae) := (aD aj.out 2).trans rfl
                        have hcz26_3 : wc.cell? ⟨bQ, 3, none⟩ = some (.int .i64 aT) := (aD aj.out 3).trans rfl
                        have hcz26_4 : wc.cell? ⟨bQ, 4, none⟩ = some (.slice bH aM.length bC) := (aD aj.out 4).trans rfl
                        have hcz26_5 : wc.cell? ⟨bQ, 5, none⟩ = some (.slice bE aU.length bD) := (aD aj.out 5).trans rfl
                        have hfz26_0 := aA aj.out 0
                        have hfz26_1 := aA aj.out 1
                        have hfz26_2 := aA aj.out 2
                        have hfz26_3 := aA aj.out 3
                        have hfz26_4 := aA aj.out 4
                        have hfz26_5 := aA aj.out 5
                        go_wp2
                        repeat (go_quiet (fail); try go_wp2)
                        go_meet
                        case rel => exact ⟨_, (true), (by first | rfl | (simp; done) | (simp [*]; done)), H', ⟨by have := HJ1.out; have := HJ7.out; have := HJ12.out; first | omega | exact Nat.le_refl _⟩, ⟨by (with_reducible repeat (first | refine ag ?_ _ | refine af ?_ | refine aW ?_ _)); exact aj.out⟩, ⟨by repeat (first | (with_reducible first | exact HB.out | apply aH | apply aG | apply aI | refine aJ ?_ iR.out) | exact HB.out)⟩⟩
                      · rw [if_neg c25] at H
                        have jZ : decide (aT < 1) = false := decide_eq_false c25
                        clear c25
                        (first | rw [jZ] | (simp only [bT, bU]; rw [jZ]) | skip)
                        have H' := aC.mk H
                        clear H
                        have hcz27_0 : wc.cell? ⟨bQ, 0, none⟩ = some (.int .i64 aX) := (aD aj.out 0).trans rfl
                        have hcz27_1 : wc.cell? ⟨bQ, 1, none⟩ = some (.int .i64 aY) := (aD aj.out 1).trans rfl
                        have hcz27_2 : wc.cell? ⟨bQ, 2, none⟩ = some (.int .i64 ae) := (aD aj.out 2).trans rfl
                        have hcz27_3 : wc.cell? ⟨bQ, 3, none⟩ = some (.int .i64 aT) := (aD aj.out 3).trans rfl
                        have hcz27_4 : wc.cell? ⟨bQ, 4, none⟩ = some (.slice bH aM.length bC) := (aD aj.out 4).trans rfl
                        have hcz27_5 : wc.cell? ⟨bQ, 5, none⟩ = some (.slice bE aU.length bD) := (aD aj.out 5).trans rfl
                        have hfz27_0 := aA aj.out 0
                        have hfz27_1 := aA aj.out 1
                        have hfz27_2 := aA aj.out 2
                        have hfz27_3 := aA aj.out 3
                        have hfz27_4 := aA aj.out 4
                        have hfz27_5 := aA aj.out 5
                        go_wp2
                        repeat (go_quiet (fail); try go_wp2)
                        go_meet
                        case rel => exact ⟨_, (decide (aT > 1024)), (by first | rfl | (simp; done) | (simp [*]; done)), H', ⟨by have := HJ1.out; have := HJ7.out; have := HJ12.out; first | omega | exact Nat.le_refl _⟩, ⟨by (with_reducible repeat (first | refine ag ?_ _ | refine af ?_ | refine aW ?_ _)); exact aj.out⟩, ⟨by repeat (first | (with_reducible first | exact HB.out | apply aH | apply aG | apply aI | refine aJ ?_ iR.out) | exact HB.out)⟩⟩
                    case rest =>
                      clear HC24
                      try clear c1
                      try clear c2
                      try clear p2
                      try clear c4
                      try clear iB
                      try clear ja
                      try clear c6
                      try clear c7
                      try clear c9
                      try clear c9b0
                      try clear c12
                      try clear c14
                      try clear jg
                      try clear c14b1
                      try clear c15
                      try clear c15b0
                      try clear c15b1
                      try clear c16
                      try clear c16b0
                      try clear c20
                      try clear jf
                      try clear c23
                      try clear c25
                      try clear jZ
                      try clear hcz10_0
                      try clear hcz10_1
                      try clear hcz10_2
                      try clear hcz10_3
                      try clear hcz10_4
                      try clear hcz10_5
                      try clear gL
                      try clear gK
                      try clear gJ
                      try clear gI
                      try clear gH
                      try clear gG
                      try clear kZ
                      try clear kY
                      try clear kX
                      try clear kW
                      try clear kV
                      try clear kU
                      try clear hcz18_0
                      try clear hcz18_1
                      try clear hcz18_2
                      try clear hcz18_3
                      try clear hcz18_4
                      try clear hcz18_5
                      try clear hcz19_0
                      try clear hcz19_1
                      try clear hcz19_2
                      try clear hcz19_3
                      try clear hcz19_4
                      try clear hcz19_5
                      try clear hcz21_0
                      try clear hcz21_1
                      try clear hcz21_2
                      try clear hcz21_3
                      try clear hcz21_4
                      try clear hcz21_5
                      try clear hcz22_0
                      try clear hcz22_1
                      try clear hcz22_2
                      try clear hcz22_3
                      try clear hcz22_4
                      try clear hcz22_5
                      try clear hcz26_0
                      try clear hcz26_1
                      try clear hcz26_2
                      try clear hcz26_3
                      try clear hcz26_4
                      try clear hcz26_5
                      try clear hcz27_0
                      try clear hcz27_1
                      try clear hcz27_2
                      try clear hcz27_3
                      try clear hcz27_4
                      try clear hcz27_5
                      try clear lJ
                      try clear lI
                      try clear lH
                      try clear lG
                      try clear lF
                      try clear lD
                      try clear iO
                      try clear iN
                      try clear iM
                      try clear iL
                      try clear iK
                      try clear iJ
                      try clear hfz10_0
                      try clear hfz10_1
                      try clear hfz10_2
                      try clear hfz10_3
                      try clear hfz10_4
                      try clear hfz10_5
                      try clear gF
                      try clear gD
                      try clear gB
                      try clear fu
                      try clear fq
                      try clear fo
                      try clear kT
                      try clear kS
                      try clear kR
                      try clear kQ
                      try clear kP
                      try clear kN
                      try clear hfz18_0
                      try clear hfz18_1
                      try clear hfz18_2
                      try clear hfz18_3
                      try clear hfz18_4
                      try clear hfz18_5
                      try clear hfz19_0
                      try clear hfz19_1
                      try clear hfz19_2
                      try clear hfz19_3
                      try clear hfz19_4
                      try clear hfz19_5
                      try clear hfz21_0
                      try clear hfz21_1
                      try clear hfz21_2
                      try clear hfz21_3
                      try clear hfz21_4
                      try clear hfz21_5
                      try clear hfz22_0
                      try clear hfz22_1
                      try clear hfz22_2
                      try clear hfz22_3
                      try clear hfz22_4
                      try clear hfz22_5
                      try clear hfz26_0
                      try clear hfz26_1
                      try clear hfz26_2
                      try clear hfz26_3
                      try clear hfz26_4
                      try clear hfz26_5
                      try clear hfz27_0
                      try clear hfz27_1
                      try clear hfz27_2
                      try clear hfz27_3
                      try clear hfz27_4
                      try clear hfz27_5
                      try clear lC
                      try clear kz
                      try clear ky
                      try clear kw
                      try clear kv
                      try clear ku
                      try clear iI
                      try clear iH
                      try clear iG
                      try clear iF
                      try clear iE
                      try clear iD
                      try clear p2
                      obtain ⟨kq, x48_23, rfl, HA, HJ23, aj, HB⟩ := hcut
                      cases kq with
                      | zero => exact absurd HA.out (by simp [aQ.j3])
                      | succ kj23 =>
                        have H := HA.out
                        clear HA
                        simp only [aQ.j3] at H
                        by_cases c28 : x48_23 = true
                        · subst c28
                          have H1 : (some (0, 3)) = some (r1, r2) := by rw [if_pos rfl] at H; exact H
                          clear H
                          have H := H1
                          clear H1
                          simp only [Option.some.injEq, Prod.mk.injEq] at H
                          obtain ⟨rfl, rfl⟩ := H
                          go_wp2
                          repeat (go_quiet (fail); try go_wp2)
                          go_ret2
                          exact ⟨by first | rfl | (simp [az, ay] <;> rfl) | (simp [*, az, ay] <;> rfl), by repeat (first | (with_reducible first | exact HB.out | apply aH | apply aG | apply aI | refine aJ ?_ iR.out) | exact HB.out)⟩
                        · replace c28 := Bool.eq_false_iff.mpr c28
                          subst c28
                          have H1 : (if aX = 2 then (aQ.j4 kj23 (wrap64 (aT * aY)) aX aY ae aT aM aU) else (aQ.j4 kj23 aT aX aY ae aT aM aU)) = some (r1, r2) := by rw [if_neg (show ¬ (false = true) by decide)] at H; exact H
                          clear H
                          have H := H1
                          clear H1
                          have HC29 := aC.mk H
                          clear H
                          have hcz30_0 : wc.cell? ⟨bQ, 0, none⟩ = some (.int .i64 aX) := (aD aj.out 0).trans rfl
                          have hcz30_1 : wc.cell? ⟨bQ, 1, none⟩ = some (.int .i64 aY) := (aD aj.out 1).trans rfl
                          have hcz30_2 : wc.cell? ⟨bQ, 2, none⟩ = some (.int .i64 ae) := (aD aj.out 2).trans rfl
                          have hcz30_3 : wc.cell? ⟨bQ, 3, none⟩ = some (.int .i64 aT) := (aD aj.out 3).trans rfl
                          have hcz30_4 : wc.cell? ⟨bQ, 4, none⟩ = some (.slice bH aM.length bC) := (aD aj.out 4).trans rfl
                          have hcz30_5 : wc.cell? ⟨bQ, 5, none⟩ = some (.slice bE aU.length bD) := (aD aj.out 5).trans rfl
                          have hfz30_0 := aA aj.out 0
                          have hfz30_1 := aA aj.out 1
                          have hfz30_2 := aA aj.out 2
                          have hfz30_3 := aA aj.out 3
                          have hfz30_4 := aA aj.out 4
                          have hfz30_5 := aA aj.out 5
                          go_upto_if 53 with (fail)
                          repeat (go_quiet (fail); go_upto_if 53 with (fail))
                          go_cut [4] (fun v4 wc => ∃ (kq : Nat) (x4_28 : Int), v4 = .int .i64 x4_28 ∧ aC (aQ.j4 kq x4_28 aX aY ae aT aM aU = some (r1, r2)) ∧ aC (kq ≤ kj23) ∧ aC (wc.heap[bQ]? = some (.cells #[.int .i64 aX, .int .i64 aY, .int .i64 ae, .int .i64 aT, (.slice bH aM.length bC), (.slice bE aU.length bD)] 43 (0, 0))) ∧ aC (Below w.heap.size w wc))
                          case first =>
                            have H := HC29.out
                            clear HC29
                            by_cases c31 : aX = 2
                            · rw [if_pos c31] at H
                              have c31b0 : (aX == 2) = true := beq_iff_eq.mpr c31
                              have c31b1 : (aX != 2) = false := bne_eq_false_iff_eq.mpr c31
                              clear c31
                              (first | rw [c31b0] | (simp only [bT, bU]; rw [c31b0]) | skip)
                              have H' := aC.mk H
                              clear H
                              have hcz32_0 : wc.cell? ⟨bQ, 0, none⟩ = some (.int .i64 aX) := (aD aj.out 0).trans rfl
                              have hcz32_1 : wc.cell? ⟨bQ, 1, none⟩ = some (.int .i64 aY) := (aD aj.out 1).trans rfl
                              have hcz32_2 : wc.cell? ⟨bQ, 2, none⟩ = some (.int .i64 ae) := (aD aj.out 2).trans rfl
                              have hcz32_3 : wc.cell? ⟨bQ, 3, none⟩ = some (.int .i64 aT) := (aD aj.out 3).trans rfl
                              have hcz32_4 : wc.cell? ⟨bQ, 4, none⟩ = some (.slice bH aM.length bC) := (aD aj.out 4).trans rfl
                              have hcz32_5 : wc.cell? ⟨bQ, 5, none⟩ = some (.slice bE aU.length bD) := (aD aj.out 5).trans rfl
                              have hfz32_0 := aA aj.out 0
                              have hfz32_1 := aA aj.out 1
                              have hfz32_2 := aA aj.out 2
                              have hfz32_3 := aA aj.out 3
                              have hfz32_4 := aA aj.out 4
                              have hfz32_5 := aA aj.out 5
                              go_wp2
                              repeat (go_quiet (fail); try go_wp2)
                              go_meet
                              case rel => exact ⟨_, (wrap64 (aT * aY)), (by first | rfl | (simp; done) | (simp [*]; done)), H', ⟨by have := HJ1.out; have := HJ7.out; have := HJ12.out; have := HJ23.out; first | omega | exact Nat.le_refl _⟩, ⟨by (with_reducible repeat (first | refine ag ?_ _ | refine af ?_ | refine aW ?_ _)); exact aj.out⟩, ⟨by repeat (first | (with_reducible first | exact HB.out | apply aH | apply aG | apply aI | refine aJ ?_ iR.out) | exact HB.out)⟩⟩
                            · rw [if_neg c31] at H
                              have c31b0 : (aX == 2) = false := beq_eq_false_iff_ne.mpr c31
                              have c31b1 : (aX != 2) = true := bne_iff_ne.mpr c31
                              (first | rw [c31b0] | (simp only [bT, bU]; rw [c31b0]) | skip)
                              have H' := aC.mk H
                              clear H
                              go_wp2
                              repeat (go_quiet (fail); try go_wp2)
                              go_meet
                              case rel => exact ⟨_, (aT), (by first | rfl | (simp; done) | (simp [*]; done)), H', ⟨by have := HJ1.out; have := HJ7.out; have := HJ12.out; have := HJ23.out; first | omega | exact Nat.le_refl _⟩, ⟨by (with_reducible repeat (first | refine ag ?_ _ | refine af ?_ | refine aW ?_ _)); exact aj.out⟩, ⟨by repeat (first | (with_reducible first | exact HB.out | apply aH | apply aG | apply aI | refine aJ ?_ iR.out) | exact HB.out)⟩⟩
                          case rest =>
                            clear HC29
                            try clear c1
                            try clear c2
                            try clear p2
                            try clear c3
                            try clear c4
                            try clear iB
                            try clear ja
                            try clear c6
                            try clear p6
                            try clear c7
                            try clear c9
                            try clear c9b0
                            try clear c12
                            try clear c14
                            try clear jg
                            try clear c14b1
                            try clear c15
                            try clear c15b0
                            try clear c15b1
                            try clear c16
                            try clear c16b0
                            try clear c20
                            try clear jf
                            try clear c23
                            try clear c25
                            try clear jZ
                            try clear c28
                            try clear c31
                            try clear c31b0
                            try clear c31b1
                            try clear hcz10_0
                            try clear hcz10_1
                            try clear hcz10_2
                            try clear hcz10_3
                            try clear hcz10_4
                            try clear hcz10_5
                            try clear gL
                            try clear gK
                            try clear gJ
                            try clear gI
                            try clear gH
                            try clear gG
                            try clear kZ
                            try clear kY
                            try clear kX
                            try clear kW
                            try clear kV
                            try clear kU
                            try clear hcz18_0
                            try clear hcz18_1
                            try clear hcz18_2
                            try clear hcz18_3
                            try clear hcz18_4
                            try clear hcz18_5
                            try clear hcz19_0
                            try clear hcz19_1
                            try clear hcz19_2
                            try clear hcz19_3
                            try clear hcz19_4
                            try clear hcz19_5
                            try clear hcz21_0
                            try clear hcz21_1
                            try clear hcz21_2
                            try clear hcz21_3
                            try clear hcz21_4
                            try clear hcz21_5
                            try clear hcz22_0
                            try clear hcz22_1
                            try clear hcz22_2
                            try clear hcz22_3
                            try clear hcz22_4
                            try clear hcz22_5
                            try clear hcz26_0
                            try clear hcz26_1
                            try clear hcz26_2
                            try clear hcz26_3
                            try clear hcz26_4
                            try clear hcz26_5
                            try clear hcz27_0
                            try clear hcz27_1
                            try clear hcz27_2
                            try clear hcz27_3
                            try clear hcz27_4
                            try clear hcz27_5
                            try clear hcz30_0
                            try clear hcz30_1
                            try clear hcz30_2
                            try clear hcz30_3
                            try clear hcz30_4
                            try clear hcz30_5
                            try clear hcz32_0
                            try clear hcz32_1
                            try clear hcz32_2
                            try clear hcz32_3
                            try clear hcz32_4
                            try clear hcz32_5
                            try clear lJ
                            try clear lI
                            try clear lH
                            try clear lG
                            try clear lF
                            try clear lD
                            try clear iO
                            try clear iN
                            try clear iM
                            try clear iL
                            try clear iK
                            try clear iJ
                            try clear hfz10_0
                            try clear hfz10_1
                            try clear hfz10_2
                            try clear hfz10_3
                            try clear hfz10_4
                            try clear hfz10_5
                            try clear gF
                            try clear gD
                            try clear gB
                            try clear fu
                            try clear fq
                            try clear fo
                            try clear kT
                            try clear kS
                            try clear kR
                            try clear kQ
                            try clear kP
                            try clear kN
                            try clear hfz18_0
                            try clear hfz18_1
                            try clear hfz18_2
                            try clear hfz18_3
                            try clear hfz18_4
                            try clear hfz18_5
                            try clear hfz19_0
                            try clear hfz19_1
                            try clear hfz19_2
                            try clear hfz19_3
                            try clear hfz19_4
                            try clear hfz19_5
                            try clear hfz21_0
                            try clear hfz21_1
                            try clear hfz21_2
                            try clear hfz21_3
                            try clear hfz21_4
                            try clear hfz21_5
                            try clear hfz22_0
                            try clear hfz22_1
                            try clear hfz22_2
                            try clear hfz22_3
                            try clear hfz22_4
                            try clear hfz22_5
                            try clear hfz26_0
                            try clear hfz26_1
                            try clear hfz26_2
                            try clear hfz26_3
                            try clear hfz26_4
                            try clear hfz26_5
                            try clear hfz27_0
                            try clear hfz27_1
                            try clear hfz27_2
                            try clear hfz27_3
                            try clear hfz27_4
                            try clear hfz27_5
                            try clear hfz30_0
                            try clear hfz30_1
                            try clear hfz30_2
                            try clear hfz30_3
                            try clear hfz30_4
                            try clear hfz30_5
                            try clear hfz32_0
                            try clear hfz32_1
                            try clear hfz32_2
                            try clear hfz32_3
                            try clear hfz32_4
                            try clear hfz32_5
                            try clear lC
                            try clear kz
                            try clear ky
                            try clear kw
                            try clear kv
                            try clear ku
                            try clear iI
                            try clear iH
                            try clear iG
                            try clear iF
                            try clear iE
                            try clear iD
                            try clear p2
                            obtain ⟨kq, x4_28, rfl, HA, HJ28, aj, HB⟩ := hcut
                            cases kq with
                            | zero => exact absurd HA.out (by simp [aQ.j4])
                            | succ kj28 =>
                              have H := HA.out
                              clear HA
                              simp only [aQ.j4] at H
                              have HC33 := aC.mk H
                              clear H
                              go_upto_region 12 with (fail)
                              repeat (go_quiet (fail); go_upto_region 12 with (fail))
                              go_cut [74] (fun v74 wc => ∃ (kq : Nat) (x74_32 : Bool), v74 = .bool x74_32 ∧ aC (aQ.j5 kq x74_32 aX aY ae aT aM aU = some (r1, r2)) ∧ aC (kq ≤ kj28) ∧ aC (wc.heap[bQ]? = some (.cells #[.int .i64 aX, .int .i64 aY, .int .i64 ae, .int .i64 aT, (.slice bH aM.length bC), (.slice bE aU.length bD)] 43 (0, 0))) ∧ aC (Below w.heap.size w wc))
                              case first =>
                                have H := HC33.out
                                clear HC33
                                by_cases c34 : (aM.length : Int) = (wrap64 (aT * aY))
                                · rw [if_pos c34] at H
                                  have c34b0 : ((aM.length : Int) == (wrap64 (aT * aY))) = true := beq_iff_eq.mpr c34
                                  have c34b1 : ((aM.length : Int) != (wrap64 (aT * aY))) = false := bne_eq_false_iff_eq.mpr c34
                                  clear c34
                                  (first | rw [c34b0] | (simp only [bT, bU]; rw [c34b0]) | skip)
                                  have H' := aC.mk H
                                  clear H
                                  have hcz35_0 : wc.cell? ⟨bQ, 0, none⟩ = some (.int .i64 aX) := (aD aj.out 0).trans rfl
                                  have hcz35_1 : wc.cell? ⟨bQ, 1, none⟩ = some (.int .i64 aY) := (aD aj.out 1).trans rfl
                                  have hcz35_2 : wc.cell? ⟨bQ, 2, none⟩ = some (.int .i64 ae) := (aD aj.out 2).trans rfl
                                  have hcz35_3 : wc.cell? ⟨bQ, 3, none⟩ = some (.int .i64 aT) := (aD aj.out 3).trans rfl
                                  have hcz35_4 : wc.cell? ⟨bQ, 4, none⟩ = some (.slice bH aM.length bC) := (aD aj.out 4).trans rfl
                                  have hcz35_5 : wc.cell? ⟨bQ, 5, none⟩ = some (.slice bE aU.length bD) := (aD aj.out 5).trans rfl
                                  have hfz35_0 := aA aj.out 0
                                  have hfz35_1 := aA aj.out 1
                                  have hfz35_2 := aA aj.out 2
                                  have hfz35_3 := aA aj.out 3
                                  have hfz35_4 := aA aj.out 4
                                  have hfz35_5 := aA aj.out 5
                                  go_wp2
                                  repeat (go_quiet (fail); try go_wp2)
                                  go_meet
                                  case rel => exact ⟨_, (((aU.length : Int) != x4_28)), (by first | rfl | (simp; done) | (simp [*]; done)), H', ⟨by have := HJ1.out; have := HJ7.out; have := HJ12.out; have := HJ23.out; have := HJ28.out; first | omega | exact Nat.le_refl _⟩, ⟨by (with_reducible repeat (first | refine ag ?_ _ | refine af ?_ | refine aW ?_ _)); exact aj.out⟩, ⟨by repeat (first | (with_reducible first | exact HB.out | apply aH | apply aG | apply aI | refine aJ ?_ iR.out) | exact HB.out)⟩⟩
                                · rw [if_neg c34] at H
                                  have c34b0 : ((aM.length : Int) == (wrap64 (aT * aY))) = false := beq_eq_false_iff_ne.mpr c34
                                  have c34b1 : ((aM.length : Int) != (wrap64 (aT * aY))) = true := bne_iff_ne.mpr c34
                                  (first | rw [c34b0] | (simp only [bT, bU]; rw [c34b0]) | skip)
                                  have H' := aC.mk H
                                  clear H
                                  have hcz36_0 : wc.cell? ⟨bQ, 0, none⟩ = some (.int .i64 aX) := (aD aj.out 0).trans rfl
                                  have hcz36_1 : wc.cell? ⟨bQ, 1, none⟩ = some (.int .i64 aY) := (aD aj.out 1).trans rfl
                                  have hcz36_2 : wc.cell? ⟨bQ, 2, none⟩ = some (.int .i64 ae) := (aD aj.out 2).trans rfl
                                  have hcz36_3 : wc.cell? ⟨bQ, 3, none⟩ = some (.int .i64 aT) := (aD aj.out 3).trans rfl
                                  have hcz36_4 : wc.cell? ⟨bQ, 4, none⟩ = some (.slice bH aM.length bC) := (aD aj.out 4).trans rfl
                                  have hcz36_5 : wc.cell? ⟨bQ, 5, none⟩ = some (.slice bE aU.length bD) := (aD aj.out 5).trans rfl
                                  have hfz36_0 := aA aj.out 0
                                  have hfz36_1 := aA aj.out 1
                                  have hfz36_2 := aA aj.out 2
                                  have hfz36_3 := aA aj.out 3
                                  have hfz36_4 := aA aj.out 4
                                  have hfz36_5 := aA aj.out 5
                                  go_wp2
                                  repeat (go_quiet (fail); try go_wp2)
                                  go_meet
                                  case rel => exact ⟨_, (true), (by first | rfl | (simp; done) | (simp [*]; done)), H', ⟨by have := HJ1.out; have := HJ7.out; have := HJ12.out; have := HJ23.out; have := HJ28.out; first | omega | exact Nat.le_refl _⟩, ⟨by (with_reducible repeat (first | refine ag ?_ _ | refine af ?_ | refine aW ?_ _)); exact aj.out⟩, ⟨by repeat (first | (with_reducible first | exact HB.out | apply aH | apply aG | apply aI | refine aJ ?_ iR.out) | exact HB.out)⟩⟩
                              case rest =>
                                clear HC33
                                try clear c1
                                try clear c2
                                try clear p2
                                try clear c3
                                try clear c4
                                try clear iB
                                try clear ja
                                try clear c6
                                try clear p6
                                try clear c7
                                try clear c9
                                try clear c9b0
                                try clear c12
                                try clear c14
                                try clear jg
                                try clear c14b1
                                try clear c15
                                try clear c15b0
                                try clear c15b1
                                try clear c16
                                try clear c16b0
                                try clear c20
                                try clear jf
                                try clear c23
                                try clear c25
                                try clear jZ
                                try clear c28
                                try clear c31
                                try clear c31b0
                                try clear c31b1
                                try clear c34
                                try clear c34b0
                                try clear c34b1
                                try clear hcz10_0
                                try clear hcz10_1
                                try clear hcz10_2
                                try clear hcz10_3
                                try clear hcz10_4
                                try clear hcz10_5
                                try clear gL
                                try clear gK
                                try clear gJ
                                try clear gI
                                try clear gH
                                try clear gG
                                try clear kZ
                                try clear kY
                                try clear kX
                                try clear kW
                                try clear kV
                                try clear kU
                                try clear hcz18_0
                                try clear hcz18_1
                                try clear hcz18_2
                                try clear hcz18_3
                                try clear hcz18_4
                                try clear hcz18_5
                                try clear hcz19_0
                                try clear hcz19_1
                                try clear hcz19_2
                                try clear hcz19_3
                                try clear hcz19_4
                                try clear hcz19_5
                                try clear hcz21_0
                                try clear hcz21_1
                                try clear hcz21_2
                                try clear hcz21_3
                                try clear hcz21_4
                                try clear hcz21_5
                                try clear hcz22_0
                                try clear hcz22_1
                                try clear hcz22_2
                                try clear hcz22_3
                                try clear hcz22_4
                                try clear hcz22_5
                                try clear hcz26_0
                                try clear hcz26_1
                                try clear hcz26_2
                                try clear hcz26_3
                                try clear hcz26_4
                                try clear hcz26_5
                                try clear hcz27_0
                                try clear hcz27_1
                                try clear hcz27_2
                                try clear hcz27_3
                                try clear hcz27_4
                                try clear hcz27_5
                                try clear hcz30_0
                                try clear hcz30_1
                                try clear hcz30_2
                                try clear hcz30_3
                                try clear hcz30_4
                                try clear hcz30_5
                                try clear hcz32_0
                                try clear hcz32_1
                                try clear hcz32_2
                                try clear hcz32_3
                                try clear hcz32_4
                                try clear hcz32_5
                                try clear hcz35_0
                                try clear hcz35_1
                                try clear hcz35_2
                                try clear hcz35_3
                                try clear hcz35_4
                                try clear hcz35_5
                                try clear hcz36_0
                                try clear hcz36_1
                                try clear hcz36_2
                                try clear hcz36_3
                                try clear hcz36_4
                                try clear hcz36_5
                                try clear lJ
                                try clear lI
                                try clear lH
                                try clear lG
                                try clear lF
                                try clear lD
                                try clear iO
                                try clear iN
                                try clear iM
                                try clear iL
                                try clear iK
                                try clear iJ
                                try clear hfz10_0
                                try clear hfz10_1
                                try clear hfz10_2
                                try clear hfz10_3
                                try clear hfz10_4
                                try clear hfz10_5
                                try clear gF
                                try clear gD
                                try clear gB
                                try clear fu
                                try clear fq
                                try clear fo
                                try clear kT
                                try clear kS
                                try clear kR
                                try clear kQ
                                try clear kP
                                try clear kN
                                try clear hfz18_0
                                try clear hfz18_1
                                try clear hfz18_2
                                try clear hfz18_3
                                try clear hfz18_4
                                try clear hfz18_5
                                try clear hfz19_0
                                try clear hfz19_1
                                try clear hfz19_2
                                try clear hfz19_3
                                try clear hfz19_4
                                try clear hfz19_5
                                try clear hfz21_0
                                try clear hfz21_1
                                try clear hfz21_2
                                try clear hfz21_3
                                try clear hfz21_4
                                try clear hfz21_5
                                try clear hfz22_0
                                try clear hfz22_1
                                try clear hfz22_2
                                try clear hfz22_3
                                try clear hfz22_4
                                try clear hfz22_5
                                try clear hfz26_0
                                try clear hfz26_1
                                try clear hfz26_2
                                try clear hfz26_3
                                try clear hfz26_4
                                try clear hfz26_5
                                try clear hfz27_0
                                try clear hfz27_1
                                try clear hfz27_2
                                try clear hfz27_3
                                try clear hfz27_4
                                try clear hfz27_5
                                try clear hfz30_0
                                try clear hfz30_1
                                try clear hfz30_2
                                try clear hfz30_3
                                try clear hfz30_4
                                try clear hfz30_5
                                try clear hfz32_0
                                try clear hfz32_1
                                try clear hfz32_2
                                try clear hfz32_3
                                try clear hfz32_4
                                try clear hfz32_5
                                try clear hfz35_0
                                try clear hfz35_1
                                try clear hfz35_2
                                try clear hfz35_3
                                try clear hfz35_4
                                try clear hfz35_5
                                try clear hfz36_0
                                try clear hfz36_1
                                try clear hfz36_2
                                try clear hfz36_3
                                try clear hfz36_4
                                try clear hfz36_5
                                try clear lC
                                try clear kz
                                try clear ky
                                try clear kw
                                try clear kv
                                try clear ku
                                try clear iI
                                try clear iH
                                try clear iG
                                try clear iF
                                try clear iE
                                try clear iD
                                try clear p2
                                try clear p6
                                obtain ⟨kq, x74_32, rfl, HA, HJ32, aj, HB⟩ := hcut
                                cases kq with
                                | zero => exact absurd HA.out (by simp [aQ.j5])
                                | succ kj32 =>
                                  have H := HA.out
                                  clear HA
                                  simp only [aQ.j5] at H
                                  by_cases c37 : x74_32 = true
                                  · subst c37
                                    have H1 : (some (0, 31)) = some (r1, r2) := by rw [if_pos rfl] at H; exact H
                                    clear H
                                    have H := H1
                                    clear H1
                                    simp only [Option.some.injEq, Prod.mk.injEq] at H
                                    obtain ⟨rfl, rfl⟩ := H
                                    go_wp2
                                    repeat (go_quiet (fail); try go_wp2)
                                    go_ret2
                                    exact ⟨by first | rfl | (simp [az, ay] <;> rfl) | (simp [*, az, ay] <;> rfl), by repeat (first | (with_reducible first | exact HB.out | apply aH | apply aG | apply aI | refine aJ ?_ iR.out) | exact HB.out)⟩
                                  · replace c37 := Bool.eq_false_iff.mpr c37
                                    subst c37
                                    have H1 : (aQ.l0 kj32 0 aX aY ae aT aM aU) = some (r1, r2) := by rw [if_neg (show ¬ (false = true) by decide)] at H; exact H
                                    clear H
                                    have H := H1
                                    clear H1
                                    have H' := aC.mk H
                                    clear H
                                    go_wp2
                                    repeat (go_quiet (fail); try go_wp2)
                                    go_loopg [5] kj32 (fun kq v5 w' => ∃ (lW : Int), v5 = .int .i64 lW ∧ aC (aQ.l0 kq lW aX aY ae aT aM aU = some (r1, r2)) ∧ aC (kq ≤ kj32) ∧ aC (w'.heap[bQ]? = some (.cells #[.int .i64 aX, .int .i64 aY, .int .i64 ae, .int .i64 aT, (.slice bH aM.length bC), (.slice bE aU.length bD)] 43 (0, 0))) ∧ aC (Below w.heap.size w w'))
                                    case atStart => exact ⟨(0), (by first | rfl | (simp; done) | (simp [*]; done)), H', ⟨Nat.le_refl _⟩, ⟨by (with_reducible repeat (first | refine ag ?_ _ | refine af ?_ | refine aW ?_ _)); exact aj.out⟩, ⟨by repeat (first | (with_reducible first | exact HB.out | apply aH | apply aG | apply aI | refine aJ ?_ iR.out) | exact HB.out)⟩⟩
                                    case round =>
                                      clear H'
                                      try clear c1
                                      try clear c2
                                      try clear p2
                                      try clear c3
                                      try clear c4
                                      try clear iB
                                      try clear ja
                                      try clear c6
                                      try clear p6
                                      try clear c7
                                      try clear c9
                                      try clear c9b0
                                      try clear c12
                                      try clear c14
                                      try clear jg
                                      try clear c14b1
                                      try clear c15
                                      try clear c15b0
                                      try clear c15b1
                                      try clear c16
                                      try clear c16b0
                                      try clear c20
                                      try clear jf
                                      try clear c23
                                      try clear c25
                                      try clear jZ
                                      try clear c28
                                      try clear c31
                                      try clear c31b0
                                      try clear c31b1
                                      try clear c34
                                      try clear c34b0
                                      try clear c34b1
                                      try clear c37
                                      try clear hcz10_0
                                      try clear hcz10_1
                                      try clear hcz10_2
                                      try clear hcz10_3
                                      try clear hcz10_4
                                      try clear hcz10_5
                                      try clear gL
                                      try clear gK
                                      try clear gJ
                                      try clear gI
                                      try clear gH
                                      try clear gG
                                      try clear kZ
                                      try clear kY
                                      try clear kX
                                      try clear kW
                                      try clear kV
                                      try clear kU
                                      try clear hcz18_0
                                      try clear hcz18_1
                                      try clear hcz18_2
                                      try clear hcz18_3
                                      try clear hcz18_4
                                      try clear hcz18_5
                                      try clear hcz19_0
                                      try clear hcz19_1
                                      try clear hcz19_2
                                      try clear hcz19_3
                                      try clear hcz19_4
                                      try clear hcz19_5
                                      try clear hcz21_0
                                      try clear hcz21_1
                                      try clear hcz21_2
                                      try clear hcz21_3
                                      try clear hcz21_4
                                      try clear hcz21_5
                                      try clear hcz22_0
                                      try clear hcz22_1
                                      try clear hcz22_2
                                      try clear hcz22_3
                                      try clear hcz22_4
                                      try clear hcz22_5
                                      try clear hcz26_0
                                      try clear hcz26_1
                                      try clear hcz26_2
                                      try clear hcz26_3
                                      try clear hcz26_4
                                      try clear hcz26_5
                                      try clear hcz27_0
                                      try clear hcz27_1
                                      try clear hcz27_2
                                      try clear hcz27_3
                                      try clear hcz27_4
                                      try clear hcz27_5
                                      try clear hcz30_0
                                      try clear hcz30_1
                                      try clear hcz30_2
                                      try clear hcz30_3
                                      try clear hcz30_4
                                      try clear hcz30_5
                                      try clear hcz32_0
                                      try clear hcz32_1
                                      try clear hcz32_2
                                      try clear hcz32_3
                                      try clear hcz32_4
                                      try clear hcz32_5
                                      try clear hcz35_0
                                      try clear hcz35_1
                                      try clear hcz35_2
                                      try clear hcz35_3
                                      try clear hcz35_4
                                      try clear hcz35_5
                                      try clear hcz36_0
                                      try clear hcz36_1
                                      try clear hcz36_2
                                      try clear hcz36_3
                                      try clear hcz36_4
                                      try clear hcz36_5
                                      try clear lJ
                                      try clear lI
                                      try clear lH
                                      try clear lG
                                      try clear lF
                                      try clear lD
                                      try clear iO
                                      try clear iN
                                      try clear iM
                                      try clear iL
                                      try clear iK
                                      try clear iJ
                                      try clear hfz10_0
                                      try clear hfz10_1
                                      try clear hfz10_2
                                      try clear hfz10_3
                                      try clear hfz10_4
                                      try clear hfz10_5
                                      try clear gF
                                      try clear gD
                                      try clear gB
                                      try clear fu
                                      try clear fq
                                      try clear fo
                                      try clear kT
                                      try clear kS
                                      try clear kR
                                      try clear kQ
                                      try clear kP
                                      try clear kN
                                      try clear hfz18_0
                                      try clear hfz18_1
                                      try clear hfz18_2
                                      try clear hfz18_3
                                      try clear hfz18_4
                                      try clear hfz18_5
                                      try clear hfz19_0
                                      try clear hfz19_1
                                      try clear hfz19_2
                                      try clear hfz19_3
                                      try clear hfz19_4
                                      try clear hfz19_5
                                      try clear hfz21_0
                                      try clear hfz21_1
                                      try clear hfz21_2
                                      try clear hfz21_3
                                      try clear hfz21_4
                                      try clear hfz21_5
                                      try clear hfz22_0
                                      try clear hfz22_1
                                      try clear hfz22_2
                                      try clear hfz22_3
                                      try clear hfz22_4
                                      try clear hfz22_5
                                      try clear hfz26_0
                                      try clear hfz26_1
                                      try clear hfz26_2
                                      try clear hfz26_3
                                      try clear hfz26_4
                                      try clear hfz26_5
                                      try clear hfz27_0
                                      try clear hfz27_1
                                      try clear hfz27_2
                                      try clear hfz27_3
                                      try clear hfz27_4
                                      try clear hfz27_5
                                      try clear hfz30_0
                                      try clear hfz30_1
                                      try clear hfz30_2
                                      try clear hfz30_3
                                      try clear hfz30_4
                                      try clear hfz30_5
                                      try clear hfz32_0
                                      try clear hfz32_1
                                      try clear hfz32_2
                                      try clear hfz32_3
                                      try clear hfz32_4
                                      try clear hfz32_5
                                      try clear hfz35_0
                                      try clear hfz35_1
                                      try clear hfz35_2
                                      try clear hfz35_3
                                      try clear hfz35_4
                                      try clear hfz35_5
                                      try clear hfz36_0
                                      try clear hfz36_1
                                      try clear hfz36_2
                                      try clear hfz36_3
                                      try clear hfz36_4
                                      try clear hfz36_5
                                      try clear lC
                                      try clear kz
                                      try clear ky
                                      try clear kw
                                      try clear kv
                                      try clear ku
                                      try clear iI
                                      try clear iH
                                      try clear iG
                                      try clear iF
                                      try clear iE
                                      try clear iD
                                      try clear p2
                                      try clear p6
                                      obtain ⟨lW, rfl, HA, HK7, aj, HB⟩ := hrel
                                      cases gk with
                                      | zero => exact absurd HA.out (by simp [aQ.l0])
                                      | succ k7 =>
                                        have H := HA.out
                                        clear HA
                                        simp only [aQ.l0] at H
                                        by_cases c38 : lW < (aM.length : Int)
                                        · rw [if_pos c38] at H
                                          have c38b0 : decide (lW < (aM.length : Int)) = true := decide_eq_true c38
                                          clear c38
                                          by_cases c39 : 0 ≤ lW
                                          · rw [if_pos c39] at H
                                            have c39b0 : decide (0 ≤ lW) = true := decide_eq_true c39
                                            clear c39
                                            by_cases c40 : (rd aM lW) < 0
                                            · rw [if_pos c40] at H
                                              have c40b0 : decide ((rd aM lW) < 0) = true := decide_eq_true c40
                                              clear c40
                                              simp only [Option.some.injEq, Prod.mk.injEq] at H
                                              obtain ⟨rfl, rfl⟩ := H
                                              have hcz41_0 : wr.cell? ⟨bQ, 0, none⟩ = some (.int .i64 aX) := (aD aj.out 0).trans rfl
                                              have hcz41_1 : wr.cell? ⟨bQ, 1, none⟩ = some (.int .i64 aY) := (aD aj.out 1).trans rfl
                                              have hcz41_2 : wr.cell? ⟨bQ, 2, none⟩ = some (.int .i64 ae) := (aD aj.out 2).trans rfl
                                              have hcz41_3 : wr.cell? ⟨bQ, 3, none⟩ = some (.int .i64 aT) := (aD aj.out 3).trans rfl
                                              have hcz41_4 : wr.cell? ⟨bQ, 4, none⟩ = some (.slice bH aM.length bC) := (aD aj.out 4).trans rfl
                                              have hcz41_5 : wr.cell? ⟨bQ, 5, none⟩ = some (.slice bE aU.length bD) := (aD aj.out 5).trans rfl
                                              have hfz41_0 := aA aj.out 0
                                              have hfz41_1 := aA aj.out 1
                                              have hfz41_2 := aA aj.out 2
                                              have hfz41_3 := aA aj.out 3
                                              have hfz41_4 := aA aj.out 4
                                              have hfz41_5 := aA aj.out 5
                                              have p326 : 0 ≤ (lW : Int) := of_decide_eq_true (by first | (with_reducible assumption) | assumption)
                                              have q326 : lW < (aM.length : Int) := of_decide_eq_true (by first | (with_reducible assumption) | assumption)
                                              obtain ⟨ad326, e326, kM⟩ := Kd.cz dY.out lW p326 q326
                                              cases e326
                                              replace kM := (HB.out.cell (World.block_lt_of_cell? w _ kM)).trans kM
                                              replace p326 := eq_true p326
                                              replace q326 := eq_true q326
                                              go_wp2
                                              repeat (go_quiet (fail); try go_wp2)
                                              go_ret2
                                              exact ⟨by first | rfl | (simp [az, ay] <;> rfl) | (simp [*, az, ay] <;> rfl), by repeat (first | (with_reducible first | exact HB.out | apply aH | apply aG | apply aI | refine aJ ?_ iR.out) | exact HB.out)⟩
                                            · rw [if_neg c40] at H
                                              have c40b0 : decide ((rd aM lW) < 0) = false := decide_eq_false c40
                                              clear c40
                                              by_cases c42 : (rd aM lW) ≥ aT
                                              · rw [if_pos c42] at H
                                                have c42b0 : decide (aT ≤ (rd aM lW)) = true := decide_eq_true c42
                                                clear c42
                                                simp only [Option.some.injEq, Prod.mk.injEq] at H
                                                obtain ⟨rfl, rfl⟩ := H
                                                have hcz43_0 : wr.cell? ⟨bQ, 0, none⟩ = some (.int .i64 aX) := (aD aj.out 0).trans rfl
                                                have hcz43_1 : wr.cell? ⟨bQ, 1, none⟩ = some (.int .i64 aY) := (aD aj.out 1).trans rfl
                                                have hcz43_2 : wr.cell? ⟨bQ, 2, none⟩ = some (.int .i64 ae) := (aD aj.out 2).trans rfl
                                                have hcz43_3 : wr.cell? ⟨bQ, 3, none⟩ = some (.int .i64 aT) := (aD aj.out 3).trans rfl
                                                have hcz43_4 : wr.cell? ⟨bQ, 4, none⟩ = some (.slice bH aM.length bC) := (aD aj.out 4).trans rfl
                                                have hcz43_5 : wr.cell? ⟨bQ, 5, none⟩ = some (.slice bE aU.length bD) := (aD aj.out 5).trans rfl
                                                have hfz43_0 := aA aj.out 0
                                                have hfz43_1 := aA aj.out 1
                                                have hfz43_2 := aA aj.out 2
                                                have hfz43_3 := aA aj.out 3
                                                have hfz43_4 := aA aj.out 4
                                                have hfz43_5 := aA aj.out 5
                                                have p326 : 0 ≤ (lW : Int) := of_decide_eq_true (by first | (with_reducible assumption) | assumption)
                                                have q326 : lW < (aM.length : Int) := of_decide_eq_true (by first | (with_reducible assumption) | assumption)
                                                obtain ⟨ad326, e326, kM⟩ := Kd.cz dY.out lW p326 q326
                                                cases e326
                                                replace kM := (HB.out.cell (World.block_lt_of_cell? w _ kM)).trans kM
                                                replace p326 := eq_true p326
                                                replace q326 := eq_true q326
                                                have p327 : 0 ≤ (lW : Int) := of_decide_eq_true (by first | (with_reducible assumption) | assumption)
                                                have q327 : lW < (aM.length : Int) := of_decide_eq_true (by first | (with_reducible assumption) | assumption)
                                                obtain ⟨ad327, e327, hx327_0⟩ := Kd.cz dY.out lW p327 q327
                                                obtain rfl : ad326 = ad327 := (by injection e327)
                                                replace hx327_0 := (HB.out.cell (World.block_lt_of_cell? w _ hx327_0)).trans hx327_0
                                                replace p327 := eq_true p327
                                                replace q327 := eq_true q327
                                                go_wp2
                                                repeat (go_quiet (fail); try go_wp2)
                                                go_ret2
                                                exact ⟨by first | rfl | (simp [az, ay] <;> rfl) | (simp [*, az, ay] <;> rfl), by repeat (first | (with_reducible first | exact HB.out | apply aH | apply aG | apply aI | refine aJ ?_ iR.out) | exact HB.out)⟩
                                              · rw [if_neg c42] at H
                                                have c42b0 : decide (aT ≤ (rd aM lW)) = false := decide_eq_false c42
                                                clear c42
                                                have H' := aC.mk H
                                                clear H
                                                have hcz44_0 : wr.cell? ⟨bQ, 0, none⟩ = some (.int .i64 aX) := (aD aj.out 0).trans rfl
                                                have hcz44_1 : wr.cell? ⟨bQ, 1, none⟩ = some (.int .i64 aY) := (aD aj.out 1).trans rfl
                                                have hcz44_2 : wr.cell? ⟨bQ, 2, none⟩ = some (.int .i64 ae) := (aD aj.out 2).trans rfl
                                                have hcz44_3 : wr.cell? ⟨bQ, 3, none⟩ = some (.int .i64 aT) := (aD aj.out 3).trans rfl
                                                have hcz44_4 : wr.cell? ⟨bQ, 4, none⟩ = some (.slice bH aM.length bC) := (aD aj.out 4).trans rfl
                                                have hcz44_5 : wr.cell? ⟨bQ, 5, none⟩ = some (.slice bE aU.length bD) := (aD aj.out 5).trans rfl
                                                have hfz44_0 := aA aj.out 0
                                                have hfz44_1 := aA aj.out 1
                                                have hfz44_2 := aA aj.out 2
                                                have hfz44_3 := aA aj.out 3
                                                have hfz44_4 := aA aj.out 4
                                                have hfz44_5 := aA aj.out 5
                                                have p326 : 0 ≤ (lW : Int) := of_decide_eq_true (by first | (with_reducible assumption) | assumption)
                                                have q326 : lW < (aM.length : Int) := of_decide_eq_true (by first | (with_reducible assumption) | assumption)
                                                obtain ⟨ad326, e326, kM⟩ := Kd.cz dY.out lW p326 q326
                                                cases e326
                                                replace kM := (HB.out.cell (World.block_lt_of_cell? w _ kM)).trans kM
                                                replace p326 := eq_true p326
                                                replace q326 := eq_true q326
                                                have p327 : 0 ≤ (lW : Int) := of_decide_eq_true (by first | (with_reducible assumption) | assumption)
                                                have q327 : lW < (aM.length : Int) := of_decide_eq_true (by first | (with_reducible assumption) | assumption)
                                                obtain ⟨ad327, e327, hx327_0⟩ := Kd.cz dY.out lW p327 q327
                                                obtain rfl : ad326 = ad327 := (by injection e327)
                                                replace hx327_0 := (HB.out.cell (World.block_lt_of_cell? w _ hx327_0)).trans hx327_0
                                                replace p327 := eq_true p327
                                                replace q327 := eq_true q327
                                                go_wp2
                                                repeat (go_quiet (fail); try go_wp2)
                                                go_roundg k7
                                                case measure => have := HJ1.out; have := HJ7.out; have := HJ12.out; have := HJ23.out; have := HJ28.out; have := HJ32.out; have := HK7.out; omega
                                                case rel => exact ⟨(wrap64 (lW + 1)), (by first | rfl | (simp; done) | (simp [*]; done)), H', ⟨by have := HJ1.out; have := HJ7.out; have := HJ12.out; have := HJ23.out; have := HJ28.out; have := HJ32.out; have := HK7.out; omega⟩, ⟨by (with_reducible repeat (first | refine ag ?_ _ | refine af ?_ | refine aW ?_ _)); exact aj.out⟩, ⟨by repeat (first | (with_reducible first | exact HB.out | apply aH | apply aG | apply aI | refine aJ ?_ iR.out) | exact HB.out)⟩⟩
                                          · rw [if_neg c39] at H
                                            exact absurd H (by simp)
                                        · rw [if_neg c38] at H
                                          have c38b0 : decide (lW < (aM.length : Int)) = false := decide_eq_false c38
                                          clear c38
                                          have H' := aC.mk H
                                          clear H
                                          have hcz45_0 : wr.cell? ⟨bQ, 0, none⟩ = some (.int .i64 aX) := (aD aj.out 0).trans rfl
                                          have hcz45_1 : wr.cell? ⟨bQ, 1, none⟩ = some (.int .i64 aY) := (aD aj.out 1).trans rfl
                                          have hcz45_2 : wr.cell? ⟨bQ, 2, none⟩ = some (.int .i64 ae) := (aD aj.out 2).trans rfl
                                          have hcz45_3 : wr.cell? ⟨bQ, 3, none⟩ = some (.int .i64 aT) := (aD aj.out 3).trans rfl
                                          have hcz45_4 : wr.cell? ⟨bQ, 4, none⟩ = some (.slice bH aM.length bC) := (aD aj.out 4).trans rfl
                                          have hcz45_5 : wr.cell? ⟨bQ, 5, none⟩ = some (.slice bE aU.length bD) := (aD aj.out 5).trans rfl
                                          have hfz45_0 := aA aj.out 0
                                          have hfz45_1 := aA aj.out 1
                                          have hfz45_2 := aA aj.out 2
                                          have hfz45_3 := aA aj.out 3
                                          have hfz45_4 := aA aj.out 4
                                          have hfz45_5 := aA aj.out 5
                                          go_wp2
                                          repeat (go_quiet (fail); try go_wp2)
                                          go_loopg [6] k7 (fun kq v6 w' => ∃ (lV : Int), v6 = .int .i64 lV ∧ aC (aQ.l1 kq lV aX aY ae aT aM aU = some (r1, r2)) ∧ aC (kq ≤ k7) ∧ aC (w'.heap[bQ]? = some (.cells #[.int .i64 aX, .int .i64 aY, .int .i64 ae, .int .i64 aT, (.slice bH aM.length bC), (.slice bE aU.length bD)] 43 (0, 0))) ∧ aC (Below w.heap.size w w'))
                                          case atStart => exact ⟨(0), (by first | rfl | (simp; done) | (simp [*]; done)), H', ⟨Nat.le_refl _⟩, ⟨by (with_reducible repeat (first | refine ag ?_ _ | refine af ?_ | refine aW ?_ _)); exact aj.out⟩, ⟨by repeat (first | (with_reducible first | exact HB.out | apply aH | apply aG | apply aI | refine aJ ?_ iR.out) | exact HB.out)⟩⟩
                                          case round =>
                                            clear H'
                                            try clear c1
                                            try clear c2
                                            try clear p2
                                            try clear c3
                                            try clear p3
                                            try clear q3
                                            try clear hx3
                                            try clear c4
                                            try clear iB
                                            try clear ja
                                            try clear c6
                                            try clear p6
                                            try clear c7
                                            try clear c9
                                            try clear c9b0
                                            try clear c12
                                            try clear c14
                                            try clear jg
                                            try clear c14b1
                                            try clear c15
                                            try clear c15b0
                                            try clear c15b1
                                            try clear c16
                                            try clear c16b0
                                            try clear c20
                                            try clear jf
                                            try clear c23
                                            try clear c25
                                            try clear jZ
                                            try clear c28
                                            try clear c31
                                            try clear c31b0
                                            try clear c31b1
                                            try clear p32
                                            try clear q32
                                            try clear hx32
                                            try clear c34
                                            try clear c34b0
                                            try clear c34b1
                                            try clear c37
                                            try clear c38
                                            try clear c38b0
                                            try clear c39
                                            try clear c39b0
                                            try clear c40
                                            try clear c40b0
                                            try clear c42
                                            try clear c42b0
                                            try clear hcz10_0
                                            try clear hcz10_1
                                            try clear hcz10_2
                                            try clear hcz10_3
                                            try clear hcz10_4
                                            try clear hcz10_5
                                            try clear gL
                                            try clear gK
                                            try clear gJ
                                            try clear gI
                                            try clear gH
                                            try clear gG
                                            try clear kZ
                                            try clear kY
                                            try clear kX
                                            try clear kW
                                            try clear kV
                                            try clear kU
                                            try clear hcz18_0
                                            try clear hcz18_1
                                            try clear hcz18_2
                                            try clear hcz18_3
                                            try clear hcz18_4
                                            try clear hcz18_5
                                            try clear hcz19_0
                                            try clear hcz19_1
                                            try clear hcz19_2
                                            try clear hcz19_3
                                            try clear hcz19_4
                                            try clear hcz19_5
                                            try clear hcz21_0
                                            try clear hcz21_1
                                            try clear hcz21_2
                                            try clear hcz21_3
                                            try clear hcz21_4
                                            try clear hcz21_5
                                            try clear hcz22_0
                                            try clear hcz22_1
                                            try clear hcz22_2
                                            try clear hcz22_3
                                            try clear hcz22_4
                                            try clear hcz22_5
                                            try clear hcz26_0
                                            try clear hcz26_1
                                            try clear hcz26_2
                                            try clear hcz26_3
                                            try clear hcz26_4
                                            try clear hcz26_5
                                            try clear hcz27_0
                                            try clear hcz27_1
                                            try clear hcz27_2
                                            try clear hcz27_3
                                            try clear hcz27_4
                                            try clear hcz27_5
                                            try clear hcz30_0
                                            try clear hcz30_1
                                            try clear hcz30_2
                                            try clear hcz30_3
                                            try clear hcz30_4
                                            try clear hcz30_5
                                            try clear hcz32_0
                                            try clear hcz32_1
                                            try clear hcz32_2
                                            try clear hcz32_3
                                            try clear hcz32_4
                                            try clear hcz32_5
                                            try clear hcz35_0
                                            try clear hcz35_1
                                            try clear hcz35_2
                                            try clear hcz35_3
                                            try clear hcz35_4
                                            try clear hcz35_5
                                            try clear hcz36_0
                                            try clear hcz36_1
                                            try clear hcz36_2
                                            try clear hcz36_3
                                            try clear hcz36_4
                                            try clear hcz36_5
                                            try clear hcz41_0
                                            try clear hcz41_1
                                            try clear hcz41_2
                                            try clear hcz41_3
                                            try clear hcz41_4
                                            try clear hcz41_5
                                            try clear hcz43_0
                                            try clear hcz43_1
                                            try clear hcz43_2
                                            try clear hcz43_3
                                            try clear hcz43_4
                                            try clear hcz43_5
                                            try clear hcz44_0
                                            try clear hcz44_1
                                            try clear hcz44_2
                                            try clear hcz44_3
                                            try clear hcz44_4
                                            try clear hcz44_5
                                            try clear hcz45_0
                                            try clear hcz45_1
                                            try clear hcz45_2
                                            try clear hcz45_3
                                            try clear hcz45_4
                                            try clear hcz45_5
                                            try clear lJ
                                            try clear lI
                                            try clear lH
                                            try clear lG
                                            try clear lF
                                            try clear lD
                                            try clear iO
                                            try clear iN
                                            try clear iM
                                            try clear iL
                                            try clear iK
                                            try clear iJ
                                            try clear hfz10_0
                                            try clear hfz10_1
                                            try clear hfz10_2
                                            try clear hfz10_3
                                            try clear hfz10_4
                                            try clear hfz10_5
                                            try clear gF
                                            try clear gD
                                            try clear gB
                                            try clear fu
                                            try clear fq
                                            try clear fo
                                            try clear kT
                                            try clear kS
                                            try clear kR
                                            try clear kQ
                                            try clear kP
                                            try clear kN
                                            try clear hfz18_0
                                            try clear hfz18_1
                                            try clear hfz18_2
                                            try clear hfz18_3
                                            try clear hfz18_4
                                            try clear hfz18_5
                                            try clear hfz19_0
                                            try clear hfz19_1
                                            try clear hfz19_2
                                            try clear hfz19_3
                                            try clear hfz19_4
                                            try clear hfz19_5
                                            try clear hfz21_0
                                            try clear hfz21_1
                                            try clear hfz21_2
                                            try clear hfz21_3
                                            try clear hfz21_4
                                            try clear hfz21_5
                                            try clear hfz22_0
                                            try clear hfz22_1
                                            try clear hfz22_2
                                            try clear hfz22_3
                                            try clear hfz22_4
                                            try clear hfz22_5
                                            try clear hfz26_0
                                            try clear hfz26_1
                                            try clear hfz26_2
                                            try clear hfz26_3
                                            try clear hfz26_4
                                            try clear hfz26_5
                                            try clear hfz27_0
                                            try clear hfz27_1
                                            try clear hfz27_2
                                            try clear hfz27_3
                                            try clear hfz27_4
                                            try clear hfz27_5
                                            try clear hfz30_0
                                            try clear hfz30_1
                                            try clear hfz30_2
                                            try clear hfz30_3
                                            try clear hfz30_4
                                            try clear hfz30_5
                                            try clear hfz32_0
                                            try clear hfz32_1
                                            try clear hfz32_2
                                            try clear hfz32_3
                                            try clear hfz32_4
                                            try clear hfz32_5
                                            try clear hfz35_0
                                            try clear hfz35_1
                                            try clear hfz35_2
                                            try clear hfz35_3
                                            try clear hfz35_4
                                            try clear hfz35_5
                                            try clear hfz36_0
                                            try clear hfz36_1
                                            try clear hfz36_2
                                            try clear hfz36_3
                                            try clear hfz36_4
                                            try clear hfz36_5
                                            try clear hfz41_0
                                            try clear hfz41_1
                                            try clear hfz41_2
                                            try clear hfz41_3
                                            try clear hfz41_4
                                            try clear hfz41_5
                                            try clear hfz43_0
                                            try clear hfz43_1
                                            try clear hfz43_2
                                            try clear hfz43_3
                                            try clear hfz43_4
                                            try clear hfz43_5
                                            try clear hfz44_0
                                            try clear hfz44_1
                                            try clear hfz44_2
                                            try clear hfz44_3
                                            try clear hfz44_4
                                            try clear hfz44_5
                                            try clear hfz45_0
                                            try clear hfz45_1
                                            try clear hfz45_2
                                            try clear hfz45_3
                                            try clear hfz45_4
                                            try clear hfz45_5
                                            try clear lC
                                            try clear kz
                                            try clear ky
                                            try clear kw
                                            try clear kv
                                            try clear ku
                                            try clear iI
                                            try clear iH
                                            try clear iG
                                            try clear iF
                                            try clear iE
                                            try clear iD
                                            try clear kM
                                            try clear hx327_0
                                            try clear p2
                                            try clear p326
                                            try clear p327
                                            try clear p6
                                            try clear q326
                                            try clear q327
                                            obtain ⟨lV, rfl, HA, HK8, aj, HB⟩ := hrel
                                            cases gk with
                                            | zero => exact absurd HA.out (by simp [aQ.l1])
                                            | succ k8 =>
                                              have H := HA.out
                                              clear HA
                                              simp only [aQ.l1] at H
                                              by_cases c46 : lV < (aU.length : Int)
                                              · rw [if_pos c46] at H
                                                have c46b0 : decide (lV < (aU.length : Int)) = true := decide_eq_true c46
                                                clear c46
                                                by_cases c47 : 0 ≤ lV
                                                · rw [if_pos c47] at H
                                                  have c47b0 : decide (0 ≤ lV) = true := decide_eq_true c47
                                                  clear c47
                                                  by_cases c48 : (rd aU lV) < 0
                                                  · rw [if_pos c48] at H
                                                    have c48b0 : decide ((rd aU lV) < 0) = true := decide_eq_true c48
                                                    clear c48
                                                    simp only [Option.some.injEq, Prod.mk.injEq] at H
                                                    obtain ⟨rfl, rfl⟩ := H
                                                    have hcz49_0 : wr.cell? ⟨bQ, 0, none⟩ = some (.int .i64 aX) := (aD aj.out 0).trans rfl
                                                    have hcz49_1 : wr.cell? ⟨bQ, 1, none⟩ = some (.int .i64 aY) := (aD aj.out 1).trans rfl
                                                    have hcz49_2 : wr.cell? ⟨bQ, 2, none⟩ = some (.int .i64 ae) := (aD aj.out 2).trans rfl
                                                    have hcz49_3 : wr.cell? ⟨bQ, 3, none⟩ = some (.int .i64 aT) := (aD aj.out 3).trans rfl
                                                    have hcz49_4 : wr.cell? ⟨bQ, 4, none⟩ = some (.slice bH aM.length bC) := (aD aj.out 4).trans rfl
                                                    have hcz49_5 : wr.cell? ⟨bQ, 5, none⟩ = some (.slice bE aU.length bD) := (aD aj.out 5).trans rfl
                                                    have hfz49_0 := aA aj.out 0
                                                    have hfz49_1 := aA aj.out 1
                                                    have hfz49_2 := aA aj.out 2
                                                    have hfz49_3 := aA aj.out 3
                                                    have hfz49_4 := aA aj.out 4
                                                    have hfz49_5 := aA aj.out 5
                                                    have p328 : 0 ≤ (lV : Int) := of_decide_eq_true (by first | (with_reducible assumption) | assumption)
                                                    have q328 : lV < (aU.length : Int) := of_decide_eq_true (by first | (with_reducible assumption) | assumption)
                                                    obtain ⟨ad328, e328, l5⟩ := Kd.cz dV.out lV p328 q328
                                                    cases e328
                                                    replace l5 := (HB.out.cell (World.block_lt_of_cell? w _ l5)).trans l5
                                                    replace p328 := eq_true p328
                                                    replace q328 := eq_true q328
                                                    go_wp2
                                                    repeat (go_quiet (fail); try go_wp2)
                                                    go_ret2
                                                    exact ⟨by first | rfl | (simp [az, ay] <;> rfl) | (simp [*, az, ay] <;> rfl), by repeat (first | (with_reducible first | exact HB.out | apply aH | apply aG | apply aI | refine aJ ?_ iR.out) | exact HB.out)⟩
                                                  · rw [if_neg c48] at H
                                                    have c48b0 : decide ((rd aU lV) < 0) = false := decide_eq_false c48
                                                    clear c48
                                                    by_cases c50 : (rd aU lV) ≥ ae
                                                    · rw [if_pos c50] at H
                                                      have c50b0 : decide (ae ≤ (rd aU lV)) = true := decide_eq_true c50
                                                      clear c50
                                                      simp only [Option.some.injEq, Prod.mk.injEq] at H
                                                      obtain ⟨rfl, rfl⟩ := H
                                                      have hcz51_0 : wr.cell? ⟨bQ, 0, none⟩ = some (.int .i64 aX) := (aD aj.out 0).trans rfl
                                                      have hcz51_1 : wr.cell? ⟨bQ, 1, none⟩ = some (.int .i64 aY) := (aD aj.out 1).trans rfl
                                                      have hcz51_2 : wr.cell? ⟨bQ, 2, none⟩ = some (.int .i64 ae) := (aD aj.out 2).trans rfl
                                                      have hcz51_3 : wr.cell? ⟨bQ, 3, none⟩ = some (.int .i64 aT) := (aD aj.out 3).trans rfl
                                                      have hcz51_4 : wr.cell? ⟨bQ, 4, none⟩ = some (.slice bH aM.length bC) := (aD aj.out 4).trans rfl
                                                      have hcz51_5 : wr.cell? ⟨bQ, 5, none⟩ = some (.slice bE aU.length bD) := (aD aj.out 5).trans rfl
                                                      have hfz51_0 := aA aj.out 0
                                                      have hfz51_1 := aA aj.out 1
                                                      have hfz51_2 := aA aj.out 2
                                                      have hfz51_3 := aA aj.out 3
                                                      have hfz51_4 := aA aj.out 4
                                                      have hfz51_5 := aA aj.out 5
                                                      have p328 : 0 ≤ (lV : Int) := of_decide_eq_true (by first | (with_reducible assumption) | assumption)
                                                      have q328 : lV < (aU.length : Int) := of_decide_eq_true (by first | (with_reducible assumption) | assumption)
                                                      obtain ⟨ad328, e328, l5⟩ := Kd.cz dV.out lV p328 q328
                                                      cases e328
                                                      replace l5 := (HB.out.cell (World.block_lt_of_cell? w _ l5)).trans l5
                                                      replace p328 := eq_true p328
                                                      replace q328 := eq_true q328
                                                      have p329 : 0 ≤ (lV : Int) := of_decide_eq_true (by first | (with_reducible assumption) | assumption)
                                                      have q329 : lV < (aU.length : Int) := of_decide_eq_true (by first | (with_reducible assumption) | assumption)
                                                      obtain ⟨ad329, e329, hx329_0⟩ := Kd.cz dV.out lV p329 q329
                                                      obtain rfl : ad328 = ad329 := (by injection e329)
                                                      replace hx329_0 := (HB.out.cell (World.block_lt_of_cell? w _ hx329_0)).trans hx329_0
                                                      replace p329 := eq_true p329
                                                      replace q329 := eq_true q329
                                                      go_wp2
                                                      repeat (go_quiet (fail); try go_wp2)
                                                      go_ret2
                                                      exact ⟨by first | rfl | (simp [az, ay] <;> rfl) | (simp [*, az, ay] <;> rfl), by repeat (first | (with_reducible first | exact HB.out | apply aH | apply aG | apply aI | refine aJ ?_ iR.out) | exact HB.out)⟩
                                                    · rw [if_neg c50] at H
                                                      have c50b0 : decide (ae ≤ (rd aU lV)) = false := decide_eq_false c50
                                                      clear c50
                                                      have H' := aC.mk H
                                                      clear H
                                                      have hcz52_0 : wr.cell? ⟨bQ, 0, none⟩ = some (.int .i64 aX) := (aD aj.out 0).trans rfl
                                                      have hcz52_1 : wr.cell? ⟨bQ, 1, none⟩ = some (.int .i64 aY) := (aD aj.out 1).trans rfl
                                                      have hcz52_2 : wr.cell? ⟨bQ, 2, none⟩ = some (.int .i64 ae) := (aD aj.out 2).trans rfl
                                                      have hcz52_3 : wr.cell? ⟨bQ, 3, none⟩ = some (.int .i64 aT) := (aD aj.out 3).trans rfl
                                                      have hcz52_4 : wr.cell? ⟨bQ, 4, none⟩ = some (.slice bH aM.length bC) := (aD aj.out 4).trans rfl
                                                      have hcz52_5 : wr.cell? ⟨bQ, 5, none⟩ = some (.slice bE aU.length bD) := (aD aj.out 5).trans rfl
                                                      have hfz52_0 := aA aj.out 0
                                                      have hfz52_1 := aA aj.out 1
                                                      have hfz52_2 := aA aj.out 2
                                                      have hfz52_3 := aA aj.out 3
                                                      have hfz52_4 := aA aj.out 4
                                                      have hfz52_5 := aA aj.out 5
                                                      have p328 : 0 ≤ (lV : Int) := of_decide_eq_true (by first | (with_reducible assumption) | assumption)
                                                      have q328 : lV < (aU.length : Int) := of_decide_eq_true (by first | (with_reducible assumption) | assumption)
                                                      obtain ⟨ad328, e328, l5⟩ := Kd.cz dV.out lV p328 q328
                                                      cases e328
                                                      replace l5 := (HB.out.cell (World.block_lt_of_cell? w _ l5)).trans l5
                                                      replace p328 := eq_true p328
                                                      replace q328 := eq_true q328
                                                      have p329 : 0 ≤ (lV : Int) := of_decide_eq_true (by first | (with_reducible assumption) | assumption)
                                                      have q329 : lV < (aU.length : Int) := of_decide_eq_true (by first | (with_reducible assumption) | assumption)
                                                      obtain ⟨ad329, e329, hx329_0⟩ := Kd.cz dV.out lV p329 q329
                                                      obtain rfl : ad328 = ad329 := (by injection e329)
                                                      replace hx329_0 := (HB.out.cell (World.block_lt_of_cell? w _ hx329_0)).trans hx329_0
                                                      replace p329 := eq_true p329
                                                      replace q329 := eq_true q329
                                                      go_wp2
                                                      repeat (go_quiet (fail); try go_wp2)
                                                      go_roundg k8
                                                      case measure => have := HJ1.out; have := HJ7.out; have := HJ12.out; have := HJ23.out; have := HJ28.out; have := HJ32.out; have := HK7.out; have := HK8.out; omega
                                                      case rel => exact ⟨(wrap64 (lV + 1)), (by first | rfl | (simp; done) | (simp [*]; done)), H', ⟨by have := HJ1.out; have := HJ7.out; have := HJ12.out; have := HJ23.out; have := HJ28.out; have := HJ32.out; have := HK7.out; have := HK8.out; omega⟩, ⟨by (with_reducible repeat (first | refine ag ?_ _ | refine af ?_ | refine aW ?_ _)); exact aj.out⟩, ⟨by repeat (first | (with_reducible first | exact HB.out | apply aH | apply aG | apply aI | refine aJ ?_ iR.out) | exact HB.out)⟩⟩
                                                · rw [if_neg c47] at H
                                                  exact absurd H (by simp)
                                              · rw [if_neg c46] at H
                                                have c46b0 : decide (lV < (aU.length : Int)) = false := decide_eq_false c46
                                                clear c46
                                                simp only [Option.some.injEq, Prod.mk.injEq] at H
                                                obtain ⟨rfl, rfl⟩ := H
                                                have hcz53_0 : wr.cell? ⟨bQ, 0, none⟩ = some (.int .i64 aX) := (aD aj.out 0).trans rfl
                                                have hcz53_1 : wr.cell? ⟨bQ, 1, none⟩ = some (.int .i64 aY) := (aD aj.out 1).trans rfl
                                                have hcz53_2 : wr.cell? ⟨bQ, 2, none⟩ = some (.int .i64 ae) := (aD aj.out 2).trans rfl
                                                have hcz53_3 : wr.cell? ⟨bQ, 3, none⟩ = some (.int .i64 aT) := (aD aj.out 3).trans rfl
                                                have hcz53_4 : wr.cell? ⟨bQ, 4, none⟩ = some (.slice bH aM.length bC) := (aD aj.out 4).trans rfl
                                                have hcz53_5 : wr.cell? ⟨bQ, 5, none⟩ = some (.slice bE aU.length bD) := (aD aj.out 5).trans rfl
                                                have hfz53_0 := aA aj.out 0
                                                have hfz53_1 := aA aj.out 1
                                                have hfz53_2 := aA aj.out 2
                                                have hfz53_3 := aA aj.out 3
                                                have hfz53_4 := aA aj.out 4
                                                have hfz53_5 := aA aj.out 5
                                                go_wp2
                                                repeat (go_quiet (fail); try go_wp2)
                                                go_ret2
                                                exact ⟨by first | rfl | (simp [az, ay] <;> rfl) | (simp [*, az, ay] <;> rfl), by repeat (first | (with_reducible first | exact HB.out | apply aH | apply aG | apply aI | refine aJ ?_ iR.out) | exact HB.out)⟩
end Go.Proofs.Ytkaefgmgcghhiaa.X
end

section
namespace Go.Proofs.Ytkaefgmgcghhiaa.X
open Go.RowKit Go.Proofs.YtkaefgmgcghhiaaW.PrintWords Go.Proofs.YtkaefgmgcghhiaaW.PrintLast Go.Proofs.YtkaefgmgcghhiaaW.PrintMore
def In64 (x : Int) : Prop := -9223372036854775808 ≤ x ∧ x ≤ 9223372036854775807
theorem wf64 {x : Int} (h : (Lit.int .i64 x).wf = true) : In64 x := by
  simp [Lit.wf, IntKind.min, IntKind.max, IntKind.signed, IntKind.bits] at h
  unfold In64
  omega
theorem wfs {l : List Int} (h : ∀ x ∈ l, (Lit.int .i64 x).wf = true) : ∀ x ∈ l, In64 x := fun x hx => wf64 (h x hx)
theorem w64i {i : Int} (h0 : -9223372036854775808 ≤ i) (h : i ≤ 9223372036854775807) : wrap64 i = i := by unfold wrap64; omega
theorem w64j {i : Nat} (h : i < 4611686018427387904) : wrap64 ((i : Int) + 1) = ((i + 1 : Nat) : Int) := by unfold wrap64; omega
theorem rdj {xs : List Int} {i : Nat} (h : i < xs.length) : rd xs (i : Int) = xs[i] := by simp [rd, List.getD_eq_getElem?_getD, List.getElem?_eq_getElem h]
/-- Where the first number stands that is not below a bound. -/
def firstBad (hi : Int) : List Int → Int → Int
  | [], _ => -1
  | x :: r, i => if x < 0 ∨ x ≥ hi then i else firstBad hi r (i + 1)
theorem u64_ge {x hi : Int} (hx : In64 x) (h : In64 hi) (h0 : 0 ≤ hi) : (IntKind.u64.wrap x ≥ IntKind.u64.wrap hi) ↔ (x < 0 ∨ x ≥ hi) := by
  unfold In64 at *
  have e1 : IntKind.u64.wrap hi = hi := IntWalk.u64_in _ ⟨h0, by omega⟩
  rw [e1]
  by_cases hn : 0 ≤ x
  · rw [IntWalk.u64_in x ⟨hn, by omega⟩]
    omega
  · have e2 : IntKind.u64.wrap x = x + 18446744073709551616 := by
      simp only [IntKind.wrap, IntKind.signed, IntKind.bits]
      simp
      omega
    rw [e2]
    omega
theorem bey_l0 (l : List Int) (hi : Int) (hb : l.length ≤ 4611686018427387903) (hl : ∀ x ∈ l, In64 x) (hh : In64 hi) (h0 : 0 ≤ hi) : ∀ (d k i : Nat), i + d = l.length → d < k → bZ.l0 k l hi (l.length : Int) (i : Int) = some (firstBad hi (l.drop i) i) := by
  intro d
  induction d with
  | zero =>
    intro k i h hk
    obtain ⟨k, rfl⟩ : ∃ m, k = m + 1 := ⟨k - 1, by omega⟩
    rw [bZ.l0, if_neg (by omega), List.drop_of_length_le (by omega)]
    rfl
  | succ d ih =>
    intro k i h hk
    obtain ⟨k, rfl⟩ : ∃ m, k = m + 1 := ⟨k - 1, by omega⟩
    have hi' : i < l.length := by omega
    rw [bZ.l0, if_pos (by omega), if_pos (by omega), if_pos (by omega), rdj hi', List.drop_eq_getElem_cons hi', firstBad]
    have hx := u64_ge (hl l[i] (List.getElem_mem hi')) hh h0
    by_cases hc : l[i] < 0 ∨ l[i] ≥ hi
    · rw [if_pos (hx.2 hc), if_pos hc]
    · rw [if_neg (fun h => hc (hx.1 h)), if_neg hc, w64j (by omega), ih k (i + 1) (by omega) (by omega)]
      rfl
theorem bey_f {l : List Int} {hi : Int} {k : Nat} (hb : l.length ≤ 100000) (hl : ∀ x ∈ l, In64 x) (hh : In64 hi) (h0 : 0 ≤ hi) (hk : 100000 < k) : bZ.f k l hi = some (firstBad hi l 0) := by
  unfold bZ.f
  exact bey_l0 l hi (by omega) hl hh h0 l.length k 0 (by omega) (by omega)
def headErr (kd K O N : Int) (nx out : List Int) : Int :=
  if kd ≠ 1 ∧ kd ≠ 2 then 30 else if K < 1 ∨ K > 64 then 1 else if (kd = 1 ∧ O ≠ 2) ∨ O < 1 ∨ O > 64 then 33 else if N < 1 ∨ N > 1024 then 3
  else if (nx.length : Int) ≠ N * K ∨ (out.length : Int) ≠ (if kd = 1 then N else N * K) then 31 else 0
theorem head_prog (kd K O N : Int) (nx out : List Int) {k : Nat} (hk : 10 ≤ k) : bL.f k kd K O N nx out = some (headErr kd K O N nx out) := by
  obtain ⟨k, rfl⟩ : ∃ m, k = m + 6 := ⟨k - 6, by omega⟩
  have hw : 1 ≤ K → K ≤ 64 → 1 ≤ N → N ≤ 1024 → wrap64 (N * K) = N * K := fun h1 h2 h3 h4 => by
    have : N * K ≤ 1024 * 64 := Int.mul_le_mul h4 h2 (by omega) (by omega)
    have : 0 ≤ N * K := Int.mul_nonneg (by omega) (by omega)
    exact w64i (by omega) (by omega)
  unfold headErr
  grind [bL.f, bL.j0, bL.j1, bL.j2, bL.j3, bL.j4, jI.f]
/-- Which machines are right, and where the first fault is. -/
def mcheck (kd K O N : Int) (nx out : List Int) : Int × Int :=
  if headErr kd K O N nx out ≠ 0 then (0, headErr kd K O N nx out) else if firstBad N nx 0 ≥ 0 then (firstBad N nx 0, 32) else if firstBad O out 0 ≥ 0 then (firstBad O out 0, 33) else (0, 0)
theorem head_size {kd K O N : Int} {nx out : List Int} (h : headErr kd K O N nx out = 0) : nx.length ≤ 65536 ∧ out.length ≤ 65536 := by
  unfold headErr at h
  have hw : 1 ≤ K → K ≤ 64 → 1 ≤ N → N ≤ 1024 → N * K ≤ 1024 * 64 := fun h1 h2 h3 h4 => Int.mul_le_mul h4 h2 (by omega) (by omega)
  grind
theorem head_bounds {kd K O N : Int} {nx out : List Int} (h : headErr kd K O N nx out = 0) : (kd = 1 ∨ kd = 2) ∧ (1 ≤ K ∧ K ≤ 64) ∧ (1 ≤ O ∧ O ≤ 64) ∧ (1 ≤ N ∧ N ≤ 1024) ∧ (kd = 1 → O = 2) ∧ (nx.length : Int) = N * K ∧ (out.length : Int) = (if kd = 1 then N else N * K) := by
  unfold headErr at h
  grind (splits := 30)
theorem mach_prog {kd K O N : Int} {nx out : List Int} (hn : ∀ x ∈ nx, In64 x) (ho : ∀ x ∈ out, In64 x) {k : Nat} (hk : 200000 ≤ k) : dm.f k kd K O N nx out = some (mcheck kd K O N nx out) := by
  unfold dm.f mcheck
  rw [head_prog kd K O N nx out (by omega), Option.bind_some]
  by_cases h : headErr kd K O N nx out = 0
  · have hs := head_size h
    have hb := head_bounds h
    rw [if_pos h, if_neg (by simpa using h), bey_f (by omega) hn (by unfold In64; omega) (by omega) (by omega), Option.bind_some, bey_f (by omega) ho (by unfold In64; omega) (by omega) (by omega), Option.bind_some]
    grind
  · rw [if_neg h, if_pos h]
theorem ref_m1 (kd K O N : Int) (nx out : List Int) (hb : out.length ≤ 100000) : ∀ (d k i : Nat), i + d = out.length → d < k → aQ.l1 k (i : Int) kd K O N nx out = some (if firstBad O (out.drop i) i ≥ 0 then (firstBad O (out.drop i) i, 33) else (0, 0)) := by
  intro d
  induction d with
  | zero =>
    intro k i h hk
    obtain ⟨k, rfl⟩ : ∃ m, k = m + 1 := ⟨k - 1, by omega⟩
    rw [aQ.l1, if_neg (by omega), List.drop_of_length_le (by omega)]
    rfl
  | succ d ih =>
    intro k i h hk
    obtain ⟨k, rfl⟩ : ∃ m, k = m + 1 := ⟨k - 1, by omega⟩
    have hi' : i < out.length := by omega
    rw [aQ.l1, if_pos (by omega), if_pos (by omega), rdj hi', List.drop_eq_getElem_cons hi', firstBad, w64j (by omega), ih k (i + 1) (by omega) (by omega)]
    grind
theorem ref_m0 (kd K O N : Int) (nx out : List Int) (hb : out.length ≤ 100000) (hb2 : nx.length ≤ 100000) : ∀ (d k i : Nat), i + d = nx.length → d + 100001 < k → aQ.l0 k (i : Int) kd K O N nx out = some (if firstBad N (nx.drop i) i ≥ 0 then (firstBad N (nx.drop i) i, 32) else if firstBad O out 0 ≥ 0 then (firstBad O out 0, 33) else (0, 0)) := by
  intro d
  induction d with
  | zero =>
    intro k i h hk
    obtain ⟨k, rfl⟩ : ∃ m, k = m + 1 := ⟨k - 1, by omega⟩
    have h1 := ref_m1 kd K O N nx out hb out.length k 0 (by omega) (by omega)
    rw [aQ.l0, if_neg (by omega), List.drop_of_length_le (by omega)]
    rw [List.drop_zero] at h1
    exact h1
  | succ d ih =>
    intro k i h hk
    obtain ⟨k, rfl⟩ : ∃ m, k = m + 1 := ⟨k - 1, by omega⟩
    have hi' : i < nx.length := by omega
    rw [aQ.l0, if_pos (by omega), if_pos (by omega), rdj hi', List.drop_eq_getElem_cons hi', firstBad, w64j (by omega), ih k (i + 1) (by omega) (by omega)]
    grind
theorem mach_ref {kd K O N : Int} {nx out : List Int} {k : Nat} (hk : 300000 ≤ k) : aQ.f k kd K O N nx out = some (mcheck kd K O N nx out) := by
  obtain ⟨k, rfl⟩ : ∃ m, k = m + 6 := ⟨k - 6, by omega⟩
  have hw : 1 ≤ K → K ≤ 64 → 1 ≤ N → N ≤ 1024 → wrap64 (N * K) = N * K ∧ N * K ≤ 65536 := fun h1 h2 h3 h4 => by
    have h5 : N * K ≤ 1024 * 64 := Int.mul_le_mul h4 h2 (by omega) (by omega)
    have : 0 ≤ N * K := Int.mul_nonneg (by omega) (by omega)
    exact ⟨w64i (by omega) (by omega), by omega⟩
  have hl := fun (h1 : out.length ≤ 100000) (h2 : nx.length ≤ 100000) => ref_m0 kd K O N nx out h1 h2 nx.length k 0 (by omega) (by omega)
  rw [List.drop_zero] at hl
  unfold mcheck headErr
  grind (splits := 40) [aQ.f, aQ.j0, aQ.j1, aQ.j2, aQ.j3, aQ.j4, aQ.j5]
theorem firstBad_none {hi : Int} : ∀ (l : List Int) (i : Int), 0 ≤ i → (firstBad hi l i < 0 ↔ ∀ x ∈ l, 0 ≤ x ∧ x < hi)
  | [], i, _ => by simp [firstBad]
  | x :: r, i, h => by
    have := firstBad_none (hi := hi) r (i + 1) (by omega)
    rw [List.forall_mem_cons, ← this, firstBad]
    split
    · exact ⟨fun _ => by omega, fun h => by omega⟩
    · exact ⟨fun h => ⟨by omega, h⟩, fun h => h.2⟩
theorem mcheck_ok {kd K O N : Int} {nx out : List Int} (h : (mcheck kd K O N nx out).2 = 0) : headErr kd K O N nx out = 0 ∧ (∀ x ∈ nx, 0 ≤ x ∧ x < N) ∧ (∀ x ∈ out, 0 ≤ x ∧ x < O) := by
  have h1 := firstBad_none (hi := N) nx 0 (by omega)
  have h2 := firstBad_none (hi := O) out 0 (by omega)
  unfold mcheck at h
  grind
end Go.Proofs.Ytkaefgmgcghhiaa.X
end
