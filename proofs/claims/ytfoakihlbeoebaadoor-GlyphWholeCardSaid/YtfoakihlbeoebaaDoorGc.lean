/- Contract of glyph.Parse: what the loop over the runes of a text tells. -/
import Derived.Test.YtfoakihlbeoebaaDoorGb
import Derived.WalkSpells
namespace Go.Proofs.YtfoakihlbeoebaaDoor.X
open Go.RowKit Go.Proofs.YtfoakihlbeoebaaDoorW.PrintWords Go.Proofs.YtfoakihlbeoebaaDoorW.PrintLast Go.Proofs.YtfoakihlbeoebaaDoorW.PrintMore
theorem R_iter {w : World} {base IT : Nat} {v : Value} {xs : List Int} {s : ByteArray} {p p' : Nat} (h : Kd.R (Kd.int .i32) 21 w base (fun k => k ≠ IT) v xs) : Kd.R (Kd.int .i32) 21 (w.iterAt IT s p') base (fun k => k ≠ IT) v xs :=
  Kd.R_step h (fun k hk _ => Lib.iterAt_other _ _ _ _ _ hk)
set_option maxHeartbeats 1600000 in
set_option maxRecDepth 100000 in
theorem Parse_walk (s : ByteArray) (r1 : List Int) (r2 r3 : Int) (w : World) (hs : s.size ≤ 140737488351232) (h : glyph_Parse.g s = some (r1, r2, r3)) (hT : TabsOr s w) :
    Calls Tryd.prog 9 #[.string s] w fun e w' => ∃ v0_ : Value, e = .returned (.tuple #[v0_, .int .i64 r2, .int .i64 r3]) ∧ Kd.R (Kd.int .i32) 21 w' w.heap.size (fun _ => True) v0_ r1 ∧ Below w.heap.size w w' := by
  unfold glyph_Parse.g at h
  by_cases h0 : s.size = 0
  · rw [if_pos h0] at h
    have he : s.toList = [] := by
      rw [Lib.toList_data]
      exact List.eq_nil_of_length_eq_zero (by rw [← Lib.size_eq]; exact h0)
    have he2 : s.toList.isEmpty = true := by rw [he]; rfl
    simp only [Option.some.injEq, Prod.mk.injEq] at h
    obtain ⟨rfl, rfl, rfl⟩ := h
    go_enter Tryd.func9, Tryd.ntmps9
    go_wp2
    go_ret3
    exact ⟨_, rfl, Kd.R_nil _ _ _ _ _, Below.refl _ _⟩
  · rw [if_neg h0] at h
    have he2 : s.toList.isEmpty = false := by
      rw [Lib.toList_data]
      cases h : s.data.toList with
      | nil => exact absurd (by rw [Lib.size_eq, h]; rfl) h0
      | cons _ _ => rfl
    have HA := Aside0.mk h
    clear h h0
    go_enter Tryd.func9, Tryd.ntmps9
    go_wp2
    go_loopw [2] (fun v2 wr => ∃ (pos : Nat) (acc : List Int) (kq : Nat), Aside0 (Kd.R (Kd.int .i32) 21 wr w.heap.size (fun k => k ≠ w.heap.size) v2 acc) ∧ wr.heap[w.heap.size]? = some (.stringIter s pos) ∧ Aside0 (Below w.heap.size w wr) ∧ Aside0 (glyph_Parse.go s kq pos acc = some (r1, r2, r3)) ∧ Aside0 (acc.length ≤ 64)) (fun _ wr => s.size - wr.iterPos w.heap.size)
    case atStart =>
      refine ⟨0, [], _, ⟨Kd.R_nil _ _ _ _ _⟩, ?_, ⟨?_⟩, HA, ⟨by simp⟩⟩
      · exact World.iter_heap w s 0
      · exact (Below.refl _ w).alloc (Nat.le_refl _) _
    case round =>
      clear HA
      obtain ⟨pos, acc, kq, HR, hit, HB, HA, HL⟩ := hrel
      have hsz : w.heap.size < wr.heap.size := (Array.getElem?_eq_some_iff.1 hit).1
      cases kq with
      | zero => exact absurd HA.out (by simp [glyph_Parse.go])
      | succ kq =>
      have H := HA.out
      clear HA
      simp only [glyph_Parse.go] at H
      by_cases hp : pos < s.size
      · rw [if_pos hp] at H
        have hnx : ∀ ty, (Instr.next (.pointer (some ⟨w.heap.size, 0, none⟩)) true ty).run Tryd.prog wr = .ok (.tuple #[.bool true, .int .i64 pos, .int .i32 (runeAt s pos)]) (wr.iterAt w.heap.size s (pos + wideAt s pos)) := fun ty => Lib.run_next_any_at wr w.heap.size s pos ty hit hp
        have hw1 := width_pos s pos hp
        have hit2 := Lib.iterAt_heap wr w.heap.size s pos (pos + wideAt s pos) hit
        have HB2 := Aside0.mk (Lib.below_iterAt HB.out (k := w.heap.size) (by omega) s (pos + wideAt s pos))
        have HR2 := Aside0.mk (R_iter (s := s) (p' := pos + wideAt s pos) (p := pos) HR.out)
        have hpos : (wr.iterAt w.heap.size s (pos + wideAt s pos)).iterPos w.heap.size = pos + wideAt s pos := iterPos_of hit2
        have hT2 : TabsOr s (wr.iterAt w.heap.size s (pos + wideAt s pos)) := hT.below HB2.out
        have hsz2 : w.heap.size < (wr.iterAt w.heap.size s (pos + wideAt s pos)).heap.size := by rw [Lib.iterAt_size]; exact hsz
        have hpo := iterPos_of hit
        generalize wr.iterAt w.heap.size s (pos + wideAt s pos) = W1 at hnx hit2 HB2 HR2 hpos hT2 hsz2
        clear HR HB
        have cB := broken_at s pos W1 hp (by omega) hT2
        generalize brokenAt s pos = B at H cB
        generalize hr0 : runeAt s pos = c at H hnx cB
        have hc1 : -2147483648 ≤ c := by rw [← hr0]; unfold runeAt; omega
        have hc2 : c ≤ 2147483647 := by rw [← hr0]; have := decode_le s pos; unfold runeAt; omega
        clear hr0
        by_cases c1 : c < 33
        · rw [if_pos c1] at H
          simp only [Option.some.injEq, Prod.mk.injEq] at H
          obtain ⟨rfl, rfl, rfl⟩ := H
          go_wp2
          go_ret3
          exact ⟨_, rfl, Kd.R_nil _ _ _ _ _, HB2.out⟩
        · rw [if_neg c1] at H
          by_cases c2 : c = 127
          · rw [if_pos c2] at H
            simp only [Option.some.injEq, Prod.mk.injEq] at H
            obtain ⟨rfl, rfl, rfl⟩ := H
            have c2b : (c == 127) = true := by simp [c2]
            clear c2
            go_wp2
            go_ret3
            exact ⟨_, rfl, Kd.R_nil _ _ _ _ _, HB2.out⟩
          · rw [if_neg c2] at H
            have c2b : (c == 127) = false := by simp [c2]
            clear c2
            cases B with
            | true =>
              rw [if_pos rfl] at H
              simp only [Option.some.injEq, Prod.mk.injEq] at H
              obtain ⟨rfl, rfl, rfl⟩ := H
              go_wp2_with (go_at_call 21; refine cB.mono ?_; rintro e w' ⟨rfl, hb⟩)
              go_ret3
              exact ⟨_, rfl, Kd.R_nil _ _ _ _ _, below_then HB2.out (by omega) hb⟩
            | false =>
              rw [if_neg (by simp)] at H
              obtain ⟨A2, c2, rfl, hle2, _⟩ := Kd.R_reads HR2.out
              have hla := HL.out
              have hcon := slices_Contains_ev acc c (by omega)
              generalize hB2 : acc.contains c = B2 at H hcon
              clear hB2
              have HLE := Aside0.mk hle2
              have HCN := Aside0.mk hcon
              clear hcon hle2
              cases B2 with
              | true =>
                rw [if_pos rfl] at H
                simp only [Option.some.injEq, Prod.mk.injEq] at H
                obtain ⟨rfl, rfl, rfl⟩ := H
                go_wp2_with (first | (go_at_call 21; refine cB.mono ?_; rintro e w' ⟨rfl, hb⟩) | (go_at_call 22; refine (slices_Contains_rune_rune.calls _ A2 c2 acc c true _ ((Kd.R_reads' (Kd.R_below HR2.out hb)).2.2) HLE.out HCN.out).mono ?_; rintro e w2 ⟨rfl, ⟨nd, rfl⟩⟩))
                go_ret3
                exact ⟨_, rfl, Kd.R_nil _ _ _ _ _, pw_below_drewN (below_then HB2.out (by omega) hb) _⟩
              | false =>
                rw [if_neg (by simp)] at H
                by_cases c3 : acc.length = 64
                · rw [if_pos c3] at H
                  simp only [Option.some.injEq, Prod.mk.injEq] at H
                  obtain ⟨rfl, rfl, rfl⟩ := H
                  have c3b : ((acc.length : Int) == 64) = true := by simp [c3]
                  clear c3
                  go_wp2_with (first | (go_at_call 21; refine cB.mono ?_; rintro e w' ⟨rfl, hb⟩) | (go_at_call 22; refine (slices_Contains_rune_rune.calls _ A2 c2 acc c false _ ((Kd.R_reads' (Kd.R_below HR2.out hb)).2.2) HLE.out HCN.out).mono ?_; rintro e w2 ⟨rfl, ⟨nd, rfl⟩⟩))
                  go_ret3
                  exact ⟨_, rfl, Kd.R_nil _ _ _ _ _, pw_below_drewN (below_then HB2.out (by omega) hb) _⟩
                · rw [if_neg c3] at H
                  have c3b : ((acc.length : Int) == 64) = false := by simp; omega
                  have hlt64 : acc.length < 64 := by omega
                  clear c3
                  have HLT := Aside0.mk hlt64
                  clear hlt64 hla
                  go_wp2_with (first | (go_at_call 21; refine cB.mono ?_; rintro e w' ⟨rfl, hb⟩) | (go_at_call 22; refine (slices_Contains_rune_rune.calls _ A2 c2 acc c false _ ((Kd.R_reads' (Kd.R_below HR2.out hb)).2.2) HLE.out HCN.out).mono ?_; rintro e w2 ⟨rfl, ⟨nd, rfl⟩⟩) | ((with_reducible refine gate_builtin (b := .append) (xs := #[.tmp 39, .tmp 41]) rfl ?_); at_builtin; go_must (refine Kd.R_append (Kd.int .i32) (w0 := w) w.heap.size rfl (.tmp 39) (.tmp 41) 23 21 (.int .i32 0) 4 rfl Tryd.underlying23 info21 rfl (by decide) (by omega) (.slice A2 acc.length c2) acc c [.int .i32 c] (fun k => k ≠ w.heap.size) (fun _ => False) rfl rfl ?aP (fun _ hk => hk.elim) ?aF ?aO ?aB ?aS ?aL ?_; (case aP => exact rfl); (case aB => exact pw_below_drewN (below_then HB2.out (by omega) hb) _); (case aF => exact (fun k hk => by have := hb.size; have hk' : w'.heap.size ≤ k := hk; show k ≠ w.heap.size; omega)); (case aO => exact Kd.R_drewN (Kd.R_below HR2.out hb) _); (case aS => have := hb.size; show w.heap.size ≤ w'.heap.size; omega); (case aL => have := HLT.out; omega); intro v166 w16 ho hb1 hg hat; have n0_ := Aside0.mk hb1; have n1_ := Aside0.mk ho; have n2_ := Aside0.mk ((hg.block w.heap.size (by have := hb.size; show w.heap.size < w'.heap.size; omega) (fun he => HR2.out.1 w.heap.size he.symm rfl)).trans ((hb.block w.heap.size (by omega)).trans hit2)); clear hb1 ho hg hat)))
                  go_roundw
                  case rel => exact ⟨pos + wideAt s pos, acc ++ [c], kq, n1_, n2_.out, n0_, ⟨H⟩, ⟨by have := HLT.out; simp; omega⟩⟩
                  case measure =>
                    rw [iterPos_of n2_.out, iterPos_of hit]
                    omega
      · rw [if_neg hp] at H
        have hnx : ∀ ty, (Instr.next (.pointer (some ⟨w.heap.size, 0, none⟩)) true ty).run Tryd.prog wr = .ok (.tuple #[.bool false]) wr := fun ty => Lib.run_next_end_at wr w.heap.size s pos ty hit hp
        simp only [Option.some.injEq, Prod.mk.injEq] at H
        obtain ⟨rfl, rfl, rfl⟩ := H
        go_wp2
        go_ret3
        exact ⟨_, rfl, Kd.R_mono HR.out (fun _ _ => trivial), HB.out⟩
end Go.Proofs.YtfoakihlbeoebaaDoor.X
