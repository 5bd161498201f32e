/- Contract of glyph.Read: what the loop over the runes of a text tells, by names. -/
import Derived.Test.YtfoakihlbeoebaaDoorGc
namespace Go.Proofs.YtfoakihlbeoebaaDoor.X
open Go.RowKit Go.Proofs.YtfoakihlbeoebaaDoorW.PrintWords Go.Proofs.YtfoakihlbeoebaaDoorW.PrintLast Go.Proofs.YtfoakihlbeoebaaDoorW.PrintMore
def idxOf (l : List Int) (c : Int) : Int := (l.findIdx? (· == c)).elim (-1) (fun j => (j : Int))
def glyph_Read.go (l : List Int) (s : ByteArray) : Nat → Nat → List Int → Option (List Int × Int × Int)
  | 0, _, _ => none
  | k + 1, p, a => if p < s.size then
      (if a.length = 4096 then some ([], 2, (p : Int)) else if idxOf l (runeAt s p) < 0 then some ([], 20, (p : Int)) else if brokenAt s p then some ([], 20, (p : Int))
       else glyph_Read.go l s k (p + wideAt s p) (a ++ [idxOf l (runeAt s p)]))
    else some (a, 0, (s.size : Int))
def glyph_Read.g (l : List Int) (s : ByteArray) : Option (List Int × Int × Int) := glyph_Read.go l s (s.size + 1) 0 []
theorem slices_Index_all (l : List Int) (c : Int) (hl : l.length ≤ 9223372036854775806) : slices_Index_rune_rune.f (l.length + 1) l c = some (idxOf l c) := by
  unfold slices_Index_rune_rune.f
  have h := slices_Index_ev l c hl l.length 0 (by omega) (l.length + 1) (by omega)
  rw [show ((0 : Nat) : Int) = 0 from rfl] at h
  rw [h]
  simp only [List.drop_zero, Nat.zero_add]
  rfl
theorem R_iterN {w : World} {base IT : Nat} {v : Value} {xs : List Int} {s : ByteArray} {p' : Nat} (h : Kd.R (Kd.int .i64) 3 w base (fun k => k ≠ IT) v xs) : Kd.R (Kd.int .i64) 3 (w.iterAt IT s p') base (fun k => k ≠ IT) v xs :=
  Kd.R_step h (fun k hk _ => Lib.iterAt_other _ _ _ _ _ hk)
theorem idx_range (l : List Int) (c : Int) : -1 ≤ idxOf l c ∧ idxOf l c < l.length ∨ idxOf l c = -1 := by
  unfold idxOf
  cases h : l.findIdx? (· == c) with
  | none => exact .inr rfl
  | some j =>
    obtain ⟨hlt, _⟩ := List.findIdx?_eq_some_iff_getElem.1 h
    simp only [Option.elim_some]
    omega
set_option maxHeartbeats 1600000 in
set_option maxRecDepth 100000 in
theorem Read_walk (A0 : Option Addr) (c0 : Nat) (l0 : List Int) (s : ByteArray) (r1 : List Int) (r2 r3 : Int) (w : World) (hr0 : Kd.C (Kd.int .i32) w A0 l0.length l0) (hc0 : l0.length ≤ c0) (hs : s.size ≤ 140737488351232) (hl : l0.length ≤ 140737488351232) (h : glyph_Read.g l0 s = some (r1, r2, r3)) (hT : TabsOr s w) :
    Calls Tryd.prog 19 #[.slice A0 l0.length c0, .string s] w fun e w' => ∃ v0_ : Value, e = .returned (.tuple #[v0_, .int .i64 r2, .int .i64 r3]) ∧ Kd.R (Kd.int .i64) 3 w' w.heap.size (fun _ => True) v0_ r1 ∧ Below w.heap.size w w' := by
  unfold glyph_Read.g at h
  have HA := Aside0.mk h
  have HR0 := Aside0.mk hr0
  have HC0 := Aside0.mk hc0
  clear h hr0 hc0
  go_enter Tryd.func19, Tryd.ntmps19
  go_wp2
  go_loopw [4] (fun v2 wr => ∃ (pos : Nat) (acc : List Int) (kq : Nat), Aside0 (Kd.R (Kd.int .i64) 3 wr w.heap.size (fun k => k ≠ w.heap.size) v2 acc) ∧ wr.heap[w.heap.size]? = some (.stringIter s pos) ∧ Aside0 (Below w.heap.size w wr) ∧ Aside0 (glyph_Read.go l0 s kq pos acc = some (r1, r2, r3)) ∧ Aside0 (acc.length ≤ 4096)) (fun _ wr => s.size - wr.iterPos w.heap.size)
  case atStart =>
    refine ⟨0, [], _, ⟨Kd.R_nil _ _ _ _ _⟩, ?_, ⟨?_⟩, HA, ⟨by simp⟩⟩
    · exact World.iter_heap w s 0
    · exact (Below.refl _ w).alloc (Nat.le_refl _) _
  case round =>
    clear HA
    obtain ⟨pos, acc, kq, HR, hit, HB, HA, HL⟩ := hrel
    have hsz : w.heap.size < wr.heap.size := (Array.getElem?_eq_some_iff.1 hit).1
    cases kq with
    | zero => exact absurd HA.out (by simp [glyph_Read.go])
    | succ kq =>
    have H := HA.out
    clear HA
    simp only [glyph_Read.go] at H
    by_cases hp : pos < s.size
    · rw [if_pos hp] at H
      have hnx : ∀ ty, (Instr.next (.pointer (some ⟨w.heap.size, 0, none⟩)) true ty).run Tryd.prog wr = .ok (.tuple #[.bool true, .int .i64 pos, .int .i32 (runeAt s pos)]) (wr.iterAt w.heap.size s (pos + wideAt s pos)) := fun ty => Lib.run_next_any_at wr w.heap.size s pos ty hit hp
      have hw1 := width_pos s pos hp
      have hit2 := Lib.iterAt_heap wr w.heap.size s pos (pos + wideAt s pos) hit
      have HB2 := Aside0.mk (Lib.below_iterAt HB.out (k := w.heap.size) (by omega) s (pos + wideAt s pos))
      have HR2 := Aside0.mk (R_iterN (s := s) (p' := pos + wideAt s pos) HR.out)
      have hT2 : TabsOr s (wr.iterAt w.heap.size s (pos + wideAt s pos)) := hT.below HB2.out
      have HC2 := Aside0.mk (Kd.C_below HR0.out HB2.out)
      have hsz2 : w.heap.size < (wr.iterAt w.heap.size s (pos + wideAt s pos)).heap.size := by rw [Lib.iterAt_size]; exact hsz
      generalize wr.iterAt w.heap.size s (pos + wideAt s pos) = W1 at hnx hit2 HB2 HR2 hT2 hsz2 HC2
      clear HR HB
      have cB := fun n => broken_at s pos (W1.drewN n) hp (by omega) (hT2.below (pw_below_drewN (Below.refl _ _) n))
      have hix := slices_Index_all l0 (runeAt s pos) (by omega)
      have hir := idx_range l0 (runeAt s pos)
      generalize idxOf l0 (runeAt s pos) = ix at H hix hir
      generalize brokenAt s pos = B at H cB
      generalize hr0 : runeAt s pos = c at H hnx cB hix
      have hc1 : -2147483648 ≤ c := by rw [← hr0]; unfold runeAt; omega
      have hc2 : c ≤ 2147483647 := by rw [← hr0]; have := decode_le s pos; unfold runeAt; omega
      clear hr0
      have HIX := Aside0.mk hix
      clear hix
      obtain ⟨A2, c2, rfl, hle2, _⟩ := Kd.R_reads HR2.out
      by_cases c1 : acc.length = 4096
      · rw [if_pos c1] at H
        simp only [Option.some.injEq, Prod.mk.injEq] at H
        obtain ⟨rfl, rfl, rfl⟩ := H
        have c1b : ((acc.length : Int) == 4096) = true := by simp [c1]
        clear c1
        go_wp2
        go_ret3
        exact ⟨_, rfl, Kd.R_nil _ _ _ _ _, HB2.out⟩
      · rw [if_neg c1] at H
        have c1b : ((acc.length : Int) == 4096) = false := by simp; omega
        have hla := HL.out
        have HLT := Aside0.mk (show acc.length < 4096 by omega)
        clear c1 hla
        by_cases c2' : ix < 0
        · rw [if_pos c2'] at H
          simp only [Option.some.injEq, Prod.mk.injEq] at H
          obtain ⟨rfl, rfl, rfl⟩ := H
          go_wp2_with (go_at_call 28; refine (slices_Index_rune_rune.calls _ A0 c0 l0 c ix _ HC2.out HC0.out HIX.out).mono ?_; rintro e w2 ⟨rfl, ⟨nd, rfl⟩⟩)
          go_ret3
          exact ⟨_, rfl, Kd.R_nil _ _ _ _ _, pw_below_drewN HB2.out _⟩
        · rw [if_neg c2'] at H
          cases B with
          | true =>
            rw [if_pos rfl] at H
            simp only [Option.some.injEq, Prod.mk.injEq] at H
            obtain ⟨rfl, rfl, rfl⟩ := H
            go_wp2_with (first | (go_at_call 28; refine (slices_Index_rune_rune.calls _ A0 c0 l0 c ix _ HC2.out HC0.out HIX.out).mono ?_; rintro e w2 ⟨rfl, ⟨nd, rfl⟩⟩) | (go_at_call 21; refine (cB _).mono ?_; rintro e w' ⟨rfl, hb⟩))
            go_ret3
            exact ⟨_, rfl, Kd.R_nil _ _ _ _ _, below_then (pw_below_drewN HB2.out nd) (by show w.heap.size ≤ W1.heap.size; omega) hb⟩
          | false =>
            rw [if_neg (by simp)] at H
            go_wp2_with (first | (go_at_call 28; refine (slices_Index_rune_rune.calls _ A0 c0 l0 c ix _ HC2.out HC0.out HIX.out).mono ?_; rintro e w2 ⟨rfl, ⟨nd, rfl⟩⟩) | (go_at_call 21; refine (cB _).mono ?_; rintro e w' ⟨rfl, hb⟩; have HRb := Aside0.mk (Kd.R_below (Kd.R_drewN HR2.out nd) hb); have HBb := Aside0.mk (below_then (pw_below_drewN HB2.out nd) (by show w.heap.size ≤ W1.heap.size; omega) hb); have hitb : w'.heap[w.heap.size]? = some (.stringIter s (pos + wideAt s pos)) := (hb.block w.heap.size hsz2).trans hit2; have hszb : W1.heap.size ≤ w'.heap.size := hb.size; clear hb) | ((with_reducible refine gate_builtin (b := .append) (xs := #[.tmp 32, .tmp 34]) rfl ?_); at_builtin; go_must (refine Kd.R_append (Kd.int .i64) (w0 := w) w.heap.size rfl (.tmp 32) (.tmp 34) 32 3 (.int .i64 0) 8 rfl Tryd.underlying32 info3 rfl (by decide) (by omega) (.slice A2 acc.length c2) acc ix [.int .i64 ix] (fun k => k ≠ w.heap.size) (fun _ => False) rfl rfl ?aP (fun _ hk => hk.elim) ?aF ?aO ?aB ?aS ?aL ?_; (case aP => exact rfl); (case aB => exact HBb.out); (case aF => exact (fun k hk => by show k ≠ w.heap.size; omega)); (case aO => exact HRb.out); (case aS => omega); (case aL => have := HLT.out; omega); intro v166 w16 ho hb1 hg hat; have n0_ := Aside0.mk hb1; have n1_ := Aside0.mk ho; have n2_ := Aside0.mk ((hg.block w.heap.size (by omega) (fun he => HR2.out.1 w.heap.size he.symm rfl)).trans hitb); clear hb1 ho hg hat)))
            go_roundw
            case rel => exact ⟨pos + wideAt s pos, acc ++ [ix], kq, n1_, n2_.out, n0_, ⟨H⟩, ⟨by have := HLT.out; simp; omega⟩⟩
            case measure =>
              rw [iterPos_of n2_.out, iterPos_of hit]
              omega
    · rw [if_neg hp] at H
      have hnx : ∀ ty, (Instr.next (.pointer (some ⟨w.heap.size, 0, none⟩)) true ty).run Tryd.prog wr = .ok (.tuple #[.bool false]) wr := fun ty => Lib.run_next_end_at wr w.heap.size s pos ty hit hp
      simp only [Option.some.injEq, Prod.mk.injEq] at H
      obtain ⟨rfl, rfl, rfl⟩ := H
      go_wp2
      go_ret3
      exact ⟨_, rfl, Kd.R_mono HR.out (fun _ _ => trivial), HB.out⟩
end Go.Proofs.YtfoakihlbeoebaaDoor.X
