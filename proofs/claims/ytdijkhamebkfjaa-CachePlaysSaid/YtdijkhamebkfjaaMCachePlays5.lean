/- Texts of the statement CachePlays, one behind the other: Go functions as Lean functions, the machine's calls, the plain law. -/
import Derived.Test.YtdijkhamebkfjaaMCachePlays4
set_option linter.unusedVariables false
set_option linter.unusedSimpArgs false
section
namespace Go.Proofs.Ytdijkhamebkfjaa.X
open Go.RowKit Go.Proofs.YtdijkhamebkfjaaW.PrintWords Go.Proofs.YtdijkhamebkfjaaW.PrintLast Go.Proofs.YtdijkhamebkfjaaW.PrintMore
theorem cut_cap {P : Program} (t e : TypeId) (kh : IntKind) {i : TypeInfo} (ht : P.underlying t = some (.slice e)) (hi : P.info? e = some i) (A : Option Addr) (n c : Nat) (j : Int) (h0 : 0 ≤ j) (hm : j ≤ c) :
    ∀ W : World, (Instr.slice t (.slice A n c) none (some (.int kh j)) none).run P W = .ok (.slice A j.toNat c) W := by
  intro W
  have hel : P.elem t = e := by simp [Program.elem, ht]
  have hu : P.underlying t = some (.slice (P.elem t)) := by rw [hel]; exact ht
  have ha : (A.map fun x => x.add 0) = A := by cases A <;> simp [Addr.add]
  rw [run_slice_h W t A n c hu kh j h0 hm, hel]
  simp [sizeOf, typeInfo, hi, sliced, Result.andThen, ha]
set_option maxHeartbeats 1600000 in
set_option maxRecDepth 100000 in
theorem Lent_calls (A0 : Option Addr) (c0 : Nat) (l0 : List Int) (w : World) (hr0 : Kd.C (Kd.int .i64) w A0 l0.length l0) (hl : l0.length ≤ 17592186044000) :
    Calls Try.prog 24 #[.slice A0 l0.length c0] w fun e w' => ∃ g cap, e = .returned (.slice (some ⟨g, 0, none⟩) l0.length cap) ∧ Kd.R (Kd.int .i64) 3 w' w.heap.size (fun _ => True) (.slice (some ⟨g, 0, none⟩) (l0 ++ [-771, -772]).length cap) (l0 ++ [-771, -772]) ∧ Below w.heap.size w w' := by
  have HR0 := Aside0.mk hr0
  have HB := Aside0.mk (Below.refl w.heap.size w)
  have HL := Aside0.mk hl
  obtain ⟨L, hL⟩ : ∃ L, L = l0 ++ [(-771 : Int), -772] := ⟨_, rfl⟩
  have hLl : l0.length + 2 = L.length := by rw [hL]; simp
  have HLL := Aside0.mk hL
  have HLE := Aside0.mk hLl
  clear hr0 hl hL hLl
  go_enter Try.func24, Try.ntmps24
  go_wp2_with (first | ((with_reducible refine gate_dst (N := 4) rfl ?_); refine Kd.R_lit (Kd.int .i64) _ 3 ?hg (N := 4) ?hd (xs := ([] : List Int)) (inner := []) (ok := fun _ => True) (okp := fun _ => True) ?hr ?hp (fun _ hk => hk) trivial (Below.refl _ _) (Nat.le_refl _) (by simp) ?_; (case hd => rfl); (case hg => rfl); (case hr => first | (go_simp; done) | (go_simp; rfl)); (case hp => exact (Reps.none _ _)); intro v203 w6 ho7 hb hg_ hnew_; clear hg_ hnew_; have n0_ := Aside0.mk (Kd.R_lower ho7 (below_size (by repeat (first | (with_reducible first | exact HB.out | apply below_alloc | apply pw_below_drewN | apply below_drew1) | exact HB.out)))); have n1_ := Aside0.mk (below_step (by repeat (first | (with_reducible first | exact HB.out | apply below_alloc | apply pw_below_drewN | apply below_drew1) | exact HB.out)) hb); clear HB; have HO204 := n0_; have HB := n1_; clear n0_ n1_; clear hb ho7) | ((with_reducible refine gate_builtin (b := .append) (xs := #[.tmp 4, .tmp 5]) rfl ?_); at_builtin; refine Kd.R_append_rows (Kd.int .i64) (w0 := w) w.heap.size rfl (.tmp 4) (.tmp 5) 22 3 (.int .i64 0) 8 rfl Try.underlying22 info3 rfl (by decide) (by omega) v203 [] l0 _ _ _ (fun _ => True) (fun _ => False) rfl rfl ?aO ?aR (fun _ _ h => h) (fun _ h => h.elim) ?aF ?aB ?aS ?aL ?_; (case aR => exact (Kd.C_below HR0.out HB.out)); (case aB => exact (by repeat (first | (with_reducible first | exact HB.out | apply below_alloc | apply pw_below_drewN | apply below_drew1) | exact HB.out))); (case aF => exact (fun _ _ => trivial)); (case aO => exact HO204.out); (case aS => exact (below_size (by repeat (first | (with_reducible first | exact HB.out | apply below_alloc | apply pw_below_drewN | apply below_drew1) | exact HB.out)))); (case aL => have := HL.out; simp only [List.length_nil]; omega); intro v206 w8 ho hb hg hat; rw [List.nil_append] at ho; have n0_ := Aside0.mk (hb); have n1_ := Aside0.mk (ho); clear HB; clear HO204; have HB := n0_; have HO207 := n1_; clear n0_ n1_; clear ho hb hg hat) | ((with_reducible refine gate_dst (N := 7) rfl ?_); refine Kd.R_lit (Kd.int .i64) _ 3 ?hg (N := 7) ?hd (xs := ([(-771), (-772)] : List Int)) (inner := [.int .i64 (-771), .int .i64 (-772)]) (ok := fun _ => True) (okp := fun _ => True) ?hr ?hp (fun _ hk => hk) trivial (Below.refl _ _) (Nat.le_refl _) (by simp) ?_; (case hd => rfl); (case hg => rfl); (case hr => first | (go_simp; done) | (go_simp; rfl)); (case hp => exact (Reps.one (show Kd.M (Kd.int .i64) _ _ _ (-771) [.int .i64 (-771)] from rfl) (Reps.one (show Kd.M (Kd.int .i64) _ _ _ (-772) [.int .i64 (-772)] from rfl) (Reps.none _ _)))); intro v209 w9 ho10 hb hg_ hnew_; clear hg_ hnew_; have n0_ := Aside0.mk (Kd.R_elder' HO207.out (Kd.R_base ho10) hb); have n1_ := Aside0.mk (Kd.R_lower (Kd.R_new' ho10 (Kd.R_lt HO207.out)) (below_size (by repeat (first | (with_reducible first | exact HB.out | apply below_alloc | apply pw_below_drewN | apply below_drew1) | exact HB.out)))); have n2_ := Aside0.mk (below_step (by repeat (first | (with_reducible first | exact HB.out | apply below_alloc | apply pw_below_drewN | apply below_drew1) | exact HB.out)) hb); clear HO207; clear HB; have HO207 := n0_; have HO210 := n1_; have HB := n2_; clear n0_ n1_ n2_; clear hb ho10; obtain ⟨Ao12, co12, eo12⟩ := Kd.R_slice HO210.out; subst eo12) | ((with_reducible refine gate_builtin (b := .append) (xs := #[.tmp 6, .tmp 7]) rfl ?_); at_builtin; refine Kd.R_append_rows (Kd.int .i64) (w0 := w) w.heap.size rfl (.tmp 6) (.tmp 7) 22 3 (.int .i64 0) 8 rfl Try.underlying22 info3 rfl (by decide) (by omega) v206 l0 [(-771), (-772)] _ _ _ (fun k_ => some k_ ≠ (.slice Ao12 [(-771 : Int), (-772)].length co12 : Value).ownBlock) (fun _ => False) rfl rfl ?aO ?aR (fun _ _ h => h) (fun _ h => h.elim) ?aF ?aB ?aS ?aL ?_; (case aR => exact (Kd.R_reads' HO210.out).2.2); (case aB => exact (by repeat (first | (with_reducible first | exact HB.out | apply below_alloc | apply pw_below_drewN | apply below_drew1) | exact HB.out))); (case aF => exact (fun k_ hk => Kd.fresh' (Kd.R_lt HO210.out) k_ hk)); (case aO => exact Kd.R_mono HO207.out (fun _ hk => hk.2)); (case aS => exact (below_size (by repeat (first | (with_reducible first | exact HB.out | apply below_alloc | apply pw_below_drewN | apply below_drew1) | exact HB.out)))); (case aL => have := HL.out; simp only [List.length_cons, List.length_nil]; omega); intro v212 w11 ho hb hg hat; rw [← HLL.out] at ho; have n1_ := Aside0.mk (hb); have n2_ := Aside0.mk (Kd.R_mono (ok' := fun _ => True) ho (fun _ _ => trivial)); clear HO210; clear HB; clear HO207; have HB := n1_; have HO213 := n2_; clear n1_ n2_; clear ho hb hg hat; obtain ⟨g, cap, rfl, _, _⟩ := (Kd.R_own HO213.out).choose_spec.form (by have := HLE.out; omega); obtain ⟨i014, hi014, _, _, _⟩ := info_parts info3; have hcut14 := cut_cap (P := Try.prog) 22 3 .i64 Try.underlying22 hi014 (some ⟨g, 0, none⟩) L.length cap (l0.length : Int) (by omega) (by have := (Kd.R_reads' HO213.out).2.1; have := HLE.out; omega); rw [Int.toNat_natCast] at hcut14; clear hi014))
  go_ret
  exact ⟨g, cap, rfl, by rw [← HLL.out]; exact HO213.out, HB.out⟩
set_option maxHeartbeats 1600000 in
set_option maxRecDepth 100000 in
theorem Kept_calls (k : Nat) (ad : Addr) (cap : Nat) (l0 : List Int) (A1 : Option Addr) (c1 : Nat) (l1 : List Int) (r : Bool) (w : World) (hr0 : Kd.C (Kd.int .i64) w (some ad) (l0 ++ [-771, -772]).length (l0 ++ [-771, -772])) (hcap : (l0 ++ [-771, -772]).length ≤ cap) (hl : l0.length ≤ 17592186044000) (hr1 : Kd.C (Kd.int .i64) w A1 l1.length l1) (hc1 : l1.length ≤ c1)
    (h : tutorref01_Same.f k l0 l1 = some r) :
    Calls Try.prog 30 #[.slice (some ad) l0.length cap, .slice A1 l1.length c1] w fun e w' => e = .returned (.bool r) ∧ Drawn0 w w' := by
  have hlen : (l0 ++ [-771, -772]).length = l0.length + 2 := by simp
  rw [hlen] at hr0 hcap
  have hcut : ∀ W : World, (Instr.slice 22 (.slice (some ad) l0.length cap) none (some (.int .i64 ((l0.length : Int) + 2))) none).run Try.prog W = .ok (.slice (some ad) (l0.length + 2) cap) W := by
    obtain ⟨i014, hi014, _, _, _⟩ := info_parts info3
    have hc := cut_cap (P := Try.prog) 22 3 .i64 Try.underlying22 hi014 (some ad) l0.length cap ((l0.length : Int) + 2) (by omega) (by omega)
    rw [show ((l0.length : Int) + 2).toNat = l0.length + 2 by omega] at hc
    exact hc
  have hrs : Kd.C (Kd.int .i64) w (some ad) l0.length l0 := by
    have hr0' : Kd.C (Kd.int .i64) w (some ad) (l0 ++ [-771, -772]).length (l0 ++ [-771, -772]) := by rw [hlen]; exact hr0
    have h1 := Kd.C_take (m := l0.length) hr0' (by simp)
    rw [List.take_left' rfl] at h1
    exact h1
  obtain ⟨ad1, e1, hx1⟩ := Kd.at_int hr0 (l0.length : Int) (by omega) (by omega)
  obtain ⟨ad2, e2, hx2⟩ := Kd.at_int hr0 ((l0.length : Int) + 1) (by omega) (by omega)
  obtain rfl := Option.some.inj e1
  obtain rfl := Option.some.inj e2
  have m1 : rd (l0 ++ [-771, -772]) (l0.length : Int) = -771 := by simp [rd]
  have m2 : rd (l0 ++ [-771, -772]) ((l0.length : Int) + 1) = -772 := by
    rw [show (l0.length : Int) + 1 = ((l0.length + 1 : Nat) : Int) by omega]
    simp [rd]
  rw [m1, Int.toNat_natCast] at hx1
  rw [m2, show ((l0.length : Int) + 1).toNat = l0.length + 1 by omega] at hx2
  have hx3 : w.cell? ⟨ad.block, ad.off + (l0.length + 1), none⟩ = some (.int .i64 (-772)) := by
    have h1 := hx2
    unfold Addr.add at h1
    rwa [if_neg (by omega)] at h1
  have HRS := Aside0.mk hrs
  have HR1 := Aside0.mk hr1
  have HC1 := Aside0.mk hc1
  have HF := Aside0.mk h
  have HCP := Aside0.mk hcap
  clear e1 e2 m1 m2 hlen hr0 hcap hrs hr1 hc1 h
  cases r
  all_goals
    go_enter Try.func30, Try.ntmps30
    go_wp2_with (go_at_call 17; refine (tutorref01_Same.calls k _ _ l0 _ _ l1 _ _ HRS.out (by have := HCP.out; omega) HR1.out HC1.out HF.out).mono ?_; rintro e w' ⟨rfl, ⟨nd, rfl⟩⟩)
    go_ret
    exact ⟨rfl, ⟨⟨nd, rfl⟩⟩⟩
end Go.Proofs.Ytdijkhamebkfjaa.X
end
