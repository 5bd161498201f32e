/- Contract of glyph.Show: the bytes of the names of a word's symbols. -/
import Derived.Test.YtfoakihlbeoebaaDoorGd
import Derived.Test.YtfoakihlbeoebaaDoorXf25
namespace Go.Proofs.YtfoakihlbeoebaaDoor.X
open Go.RowKit Go.Proofs.YtfoakihlbeoebaaDoorW.PrintWords Go.Proofs.YtfoakihlbeoebaaDoorW.PrintLast Go.Proofs.YtfoakihlbeoebaaDoorW.PrintMore
/-- The bytes of the rest of the word, behind those that stand already. -/
def glyph_Show.go (l0 : List Int) : List Int → List Int → ByteArray × Int
  | [], a => (strOfNums a, 0)
  | x :: r, a => if x < 0 then (⟨#[]⟩, 10) else if x ≥ (l0.length : Int) then (⟨#[]⟩, 10) else if Lib.validRune (rd l0 x) then glyph_Show.go l0 r (a ++ Lib.encodeRuneZ (rd l0 x)) else (⟨#[]⟩, 1)
def glyph_Show.f (l0 l1 : List Int) : Option (ByteArray × Int) := if l1.length ≤ 17592186043904 then some (glyph_Show.go l0 l1 []) else none
theorem cells_nums (r : Int) : Lib.runeCells r = nums .u8 (Lib.encodeRuneZ r) := rfl
theorem valid_range {r : Int} (h : Lib.validRune r = true) : 0 ≤ r ∧ r ≤ 2147483647 := by
  unfold Lib.validRune at h
  have := of_decide_eq_true h
  omega
theorem encode_len (r : Int) : (Lib.encodeRuneZ r).length ≤ 4 := by
  unfold Lib.encodeRuneZ
  repeat' split
  all_goals simp
set_option maxHeartbeats 1600000 in
set_option maxRecDepth 100000 in
theorem glyph_Show.calls (A0 : Option Addr) (c0 : Nat) (l0 : List Int) (A1 : Option Addr) (c1 : Nat) (l1 : List Int) (r1 : ByteArray) (r2 : Int) (w : World) (hr0 : Kd.C (Kd.int .i32) w A0 l0.length l0) (hc0 : l0.length ≤ c0) (hr1 : Kd.C (Kd.int .i64) w A1 l1.length l1) (hc1 : l1.length ≤ c1) (h : glyph_Show.f l0 l1 = some (r1, r2)) :
    Calls Tryd.prog 14 #[.slice A0 l0.length c0, .slice A1 l1.length c1] w fun e w' => e = .returned (.tuple #[.string r1, .int .i64 r2]) ∧ Below w.heap.size w w' := by
  unfold glyph_Show.f at h
  by_cases hlen : l1.length ≤ 17592186043904
  · rw [if_pos hlen] at h
    have HA := Aside0.mk (Option.some.inj h)
    have HR0 := Aside0.mk hr0
    have HR1 := Aside0.mk hr1
    have HC0 := Aside0.mk hc0
    have HC1 := Aside0.mk hc1
    clear h hr0 hc0 hr1 hc1
    go_enter Tryd.func14, Tryd.ntmps14
    go_wp2
    go_loopw [6, 11] (fun v6 v11 wr => ∃ (i : Nat) (acc : List Int), v11 = .int .i64 (i : Int) ∧ Aside0 (i ≤ l1.length) ∧ Aside0 (wr.ownsRow w.heap.size 5 1 v6 acc.length (nums .u8 acc)) ∧ Aside0 (Below w.heap.size w wr) ∧ Aside0 (glyph_Show.go l0 (l1.drop i) acc = (r1, r2)) ∧ Aside0 (acc.length ≤ 4 * i)) (fun _ v11 _ => l1.length - (intOf v11).toNat)
    case atStart =>
      exact ⟨0, [], rfl, ⟨by omega⟩, ⟨own_nil _ _ _ _⟩, ⟨Below.refl _ _⟩, ⟨HA.out⟩, ⟨by simp⟩⟩
    case round =>
      clear HA
      obtain ⟨i, acc, rfl, HI, HO, HB, HA, HL⟩ := hrel
      have hi := HI.out
      by_cases hlt : i < l1.length
      · have H := HA.out
        have hd : l1.drop i = rd l1 i :: l1.drop (i + 1) := by
          rw [List.drop_eq_getElem_cons hlt]
          simp [rd, List.getD_eq_getElem?_getD, List.getElem?_eq_getElem hlt]
        rw [hd] at H
        simp only [glyph_Show.go] at H
        have HCB := Aside0.mk (Kd.C_below HR1.out HB.out)
        have HCA := Aside0.mk (Kd.C_below HR0.out HB.out)
        obtain ⟨ad, ead, hx⟩ := Kd.at_int HCB.out (i : Int) (by omega) (by omega)
        cases ead
        rw [Int.toNat_natCast] at hx
        clear HA hd hi
        generalize rd l1 i = x at H hx
        by_cases c1' : x < 0
        · rw [if_pos c1'] at H
          simp only [Prod.mk.injEq] at H
          obtain ⟨rfl, rfl⟩ := H
          go_wp2
          go_ret2
          exact ⟨rfl, HB.out⟩
        · rw [if_neg c1'] at H
          by_cases c2' : x ≥ (l0.length : Int)
          · rw [if_pos c2'] at H
            simp only [Prod.mk.injEq] at H
            obtain ⟨rfl, rfl⟩ := H
            go_wp2
            go_ret2
            exact ⟨rfl, HB.out⟩
          · rw [if_neg c2'] at H
            obtain ⟨ad0, ead0, hx0⟩ := Kd.at_int HCA.out x (by omega) (by omega)
            cases ead0
            have hx0n : x.toNat < l0.length := by omega
            have cV := Tryd.utf8_ValidRune (rd l0 x) wr
            have hvr := @valid_range (rd l0 x)
            generalize rd l0 x = c at H hx0 cV hvr
            cases hv : Lib.validRune c with
            | false =>
              rw [hv] at H cV
              clear hv hvr
              rw [if_neg (by simp)] at H
              simp only [Prod.mk.injEq] at H
              obtain ⟨rfl, rfl⟩ := H
              go_wp2_with (go_at_call 25; refine cV.mono ?_; rintro e w' ⟨rfl, rfl⟩)
              go_ret2
              exact ⟨rfl, HB.out⟩
            | true =>
              have hrg := hvr hv
              rw [hv] at H cV
              rw [if_pos rfl] at H
              clear hv hvr
              have hen := encode_len c
              go_wp2_with (first | (go_at_call 25; refine cV.mono ?_; rintro e w' ⟨rfl, rfl⟩) | (go_at_call 26; refine (Tryd.utf8_AppendRune_plain w.heap.size _ acc.length (nums .u8 acc) c (by omega) (by omega) _ HO.out (by have := HL.out; omega) HB.out.size).mono ?_; rintro e w' ⟨v', rfl, ho, o, hg⟩; have n1_ := Aside0.mk ho; have n2_ := Aside0.mk (Below.grown (HB.out.alloc HB.out.size o) hg (by have := HB.out.size; simp; omega) (own_base HO.out)); clear ho hg))
              go_roundw
              case rel => exact ⟨i + 1, acc ++ Lib.encodeRuneZ c, by go_num, ⟨by omega⟩, ⟨by rw [nums_append, List.length_append, ← cells_nums]; have := n1_.out; rwa [cells_nums, nums_length] at this⟩, n2_, ⟨H⟩, ⟨by have := HL.out; simp; omega⟩⟩
              case measure => simp [intOf]; omega
      · have hie : i = l1.length := by omega
        have H := HA.out
        rw [hie, List.drop_length] at H
        simp only [glyph_Show.go, Prod.mk.injEq] at H
        obtain ⟨rfl, rfl⟩ := H
        clear hie
        have hcv := own_string Tryd.underlying51 Tryd.underlying5 Tryd.underlying9 HO.out
        go_wp2
        go_ret2
        exact ⟨rfl, HB.out⟩
  · rw [if_neg hlen] at h
    cases h
end Go.Proofs.YtfoakihlbeoebaaDoor.X
