/- Texts of the statement BlockHopcrofts, one behind the other: Go functions as Lean functions, the machine's calls, the plain law. -/
import Derived.Test.YtdalpaobkmoomaaMBlockHopcrofts10
import Derived.Carry
import Derived.Deep.WholeRow
set_option linter.unusedVariables false
set_option linter.unusedSimpArgs false
section
namespace Go.Proofs.Ytdalpaobkmoomaa.X
open Go.RowKit Go.Proofs.YtdalpaobkmoomaaW.PrintWords Go.Proofs.YtdalpaobkmoomaaW.PrintLast Go.Proofs.YtdalpaobkmoomaaW.PrintMore
open Go.Proofs.Ytdalpaobkmoomaa Go.Proofs.Ytdalpaobkmoomaa.Sp
theorem w64s {a : Nat} (h : a ≤ 1000000000) : wrap64 ((a : Int) + 1) = ((a + 1 : Nat) : Int) := by
  unfold wrap64
  omega
theorem w64p {a b : Nat} (ha : a ≤ 1000000000) (hb : b ≤ 1000000000) : wrap64 ((a : Int) + (b : Int)) = ((a + b : Nat) : Int) := by
  unfold wrap64
  omega
def tl (T : List Nat) : List Int := T.map fun (c : Nat) => (c : Int)
theorem tl_len (T : List Nat) : (tl T).length = T.length := by simp [tl]
theorem rd_tl {T : List Nat} {j : Nat} (h : j < T.length) : rd (tl T) (j : Int) = (T[j] : Int) := by
  simp [rd, tl, List.getD_eq_getElem?_getD, List.getElem?_eq_getElem h]
theorem tl_snoc (T : List Nat) (c : Nat) : tl (T ++ [c]) = tl T ++ [(c : Int)] := by simp [tl]
theorem tl_toNat (l : List Int) (h : ∀ x ∈ l, 0 ≤ x) : tl (l.map Int.toNat) = l := by
  induction l with
  | nil => rfl
  | cons a l ih =>
    have h1 := h a List.mem_cons_self
    have h2 := ih (fun x hx => h x (List.mem_cons_of_mem _ hx))
    simp only [tl, List.map_cons, List.map_map] at h2 ⊢
    rw [h2, Int.toNat_of_nonneg h1]
theorem toNat_tl (T : List Nat) : (tl T).map Int.toNat = T := by
  induction T with
  | nil => rfl
  | cons a l ih =>
    simp only [tl, List.map_cons, Int.toNat_natCast] at ih ⊢
    rw [ih]
structure MapIs (N : Nat) (es : List (Int × Int)) (M : Nat → Nat) : Prop where
  val : ∀ c, c < N → (Vm.getK es (c : Int)).getD 0 = (M c : Int)
  key : ∀ p ∈ es, (Lit.int .i64 p.1).wf = true
theorem wf_nat {c : Nat} (h : c < 1099511627776) : (Lit.int .i64 (c : Int)).wf = true := by
  simp [Lit.wf, IntKind.min, IntKind.max, IntKind.signed, IntKind.bits]
  omega
theorem mapIs_nil (N : Nat) : MapIs N [] (fun _ => 0) := ⟨fun _ _ => rfl, fun p hp => by cases hp⟩
theorem MapIs.put {N : Nat} {es : List (Int × Int)} {M : Nat → Nat} (h : MapIs N es M) {c : Nat} (hc : c < 1099511627776) (v : Nat) : MapIs N (Vm.putK es (c : Int) (v : Int)) (upd M c v) := by
  refine ⟨fun x hx => ?_, fun p hp => ?_⟩
  · rw [Vm.getK_putK]
    by_cases e : x = c
    · subst e
      rw [if_pos rfl, upd_at]
      rfl
    · rw [if_neg (by omega), upd_ne _ _ e]
      exact h.val x hx
  · rcases Vm.mem_keys_putK (List.mem_map_of_mem (f := (·.1)) hp) with h1 | h1
    · rw [h1]
      exact wf_nat hc
    · obtain ⟨q, hq, e⟩ := List.mem_map.1 h1
      rw [← e]
      exact h.key q hq
theorem zeroI (w : World) : (zeroValue 3).run Try.prog w = .ok (.int .i64 0) w := (zero_of_info (show (Try.prog.info? 3).map (fun i => (i.zero, i.size)) = some (some (.int .i64 0), 1) by kernel_rfl)).1 w
theorem MapIs.look {N : Nat} {es : List (Int × Int)} {M : Nat → Nat} (h : MapIs N es M) {w : World} {b : Nat} (hm : Vm.MapAt w b (Value.int .i64) (Value.int .i64) es) {c : Nat} (hc : c < N) (hN : N ≤ 1099511627776) : (Instr.lookup 65 (.map (some b)) (.int .i64 (c : Int)) false).run Try.prog w = .ok (.int .i64 (M c : Int)) w := by
  have hl := Vm.map_lookup (Vm.int_keys Try.underlying3) Try.underlying65 zeroI hm h.key (k := (c : Int)) (wf_nat (by omega)) false
  have hv := h.val c hc
  rw [hl]
  cases hg : Vm.getK es (c : Int) with
  | none =>
    rw [hg] at hv
    simp at hv ⊢
    exact hv
  | some y =>
    rw [hg] at hv
    simp at hv ⊢
    exact hv
theorem sort_nat (T : List Nat) : ∃ T', tl T' = (tl T).mergeSort (fun x y => decide (x ≤ y)) ∧ T'.Perm T ∧ T'.Pairwise (· ≤ ·) := by
  have hp := List.mergeSort_perm (tl T) (fun x y => decide (x ≤ y))
  have hs := List.pairwise_mergeSort (le := fun (x y : Int) => decide (x ≤ y)) (fun a b c h1 h2 => by simp at h1 h2 ⊢; omega) (fun a b => by simp; omega) (tl T)
  have hnn : ∀ x ∈ (tl T).mergeSort (fun x y => decide (x ≤ y)), 0 ≤ x := fun x hx => by
    obtain ⟨c, _, rfl⟩ := List.mem_map.1 (hp.subset hx)
    omega
  refine ⟨((tl T).mergeSort (fun x y => decide (x ≤ y))).map Int.toNat, tl_toNat _ hnn, ?_, ?_⟩
  · have := hp.map Int.toNat
    rwa [toNat_tl] at this
  · rw [List.pairwise_map]
    refine hs.imp_of_mem (fun {a b} ha hb h => ?_)
    have h1 := hnn a ha
    have h2 := hnn b hb
    simp at h
    omega
theorem same_sorted : ∀ {a b : List Nat}, a.Pairwise (· < ·) → b.Pairwise (· < ·) → (∀ x, x ∈ a ↔ x ∈ b) → a = b
  | [], [], _, _, _ => rfl
  | [], y :: b, _, _, h => absurd ((h y).2 List.mem_cons_self) (by simp)
  | x :: a, [], _, _, h => absurd ((h x).1 List.mem_cons_self) (by simp)
  | x :: a, y :: b, ha, hb, h => by
    have ha' := List.pairwise_cons.1 ha
    have hb' := List.pairwise_cons.1 hb
    have e : x = y := by
      rcases List.mem_cons.1 ((h x).1 List.mem_cons_self) with h1 | h1
      · exact h1
      · rcases List.mem_cons.1 ((h y).2 List.mem_cons_self) with h2 | h2
        · exact h2.symm
        · have := hb'.1 x h1
          have := ha'.1 y h2
          omega
    subst e
    rw [same_sorted ha'.2 hb'.2 (fun z => by
      have hz := h z
      simp only [List.mem_cons] at hz
      constructor
      · intro hm
        rcases hz.1 (.inr hm) with h1 | h1
        · have := ha'.1 z hm; omega
        · exact h1
      · intro hm
        rcases hz.2 (.inr hm) with h1 | h1
        · have := hb'.1 z hm; omega
        · exact h1)]
theorem cuts_filter (n : Nat) (C0 : Nat → Nat) (D : Nat → Bool) (q : Nat → Bool) (hq : ∀ c, q c = false → ∀ s, cutOf n C0 D c s = s) : ∀ (l : List Nat) (s : St), cuts n C0 D (l.filter q) s = cuts n C0 D l s
  | [], _ => rfl
  | c :: l, s => by
    cases h : q c with
    | true =>
      rw [List.filter_cons_of_pos h]
      exact cuts_filter n C0 D q hq l _
    | false =>
      rw [List.filter_cons_of_neg (by simp [h]), cuts, hq c h s]
      exact cuts_filter n C0 D q hq l s
theorem cutOf_congr {n : Nat} {C0 : Nat → Nat} {D E : Nat → Bool} (h : ∀ i, i < n → D i = E i) (c : Nat) {s s' : St} (hN : s.N = s'.N) (hm : s.made = s'.made) (hC : ∀ i, i < n → s.C i = s'.C i) :
    (cutOf n C0 D c s).N = (cutOf n C0 E c s').N ∧ (cutOf n C0 D c s).made = (cutOf n C0 E c s').made ∧ ∀ i, i < n → (cutOf n C0 D c s).C i = (cutOf n C0 E c s').C i := by
  have e : ((∃ i, i < n ∧ C0 i = c ∧ D i = true) ∧ (∃ i, i < n ∧ C0 i = c ∧ D i = false)) ↔ ((∃ i, i < n ∧ C0 i = c ∧ E i = true) ∧ (∃ i, i < n ∧ C0 i = c ∧ E i = false)) := by
    constructor
    · rintro ⟨⟨i, h1, h2, h3⟩, ⟨j, g1, g2, g3⟩⟩
      exact ⟨⟨i, h1, h2, (h i h1) ▸ h3⟩, ⟨j, g1, g2, (h j g1) ▸ g3⟩⟩
    · rintro ⟨⟨i, h1, h2, h3⟩, ⟨j, g1, g2, g3⟩⟩
      exact ⟨⟨i, h1, h2, (h i h1).symm ▸ h3⟩, ⟨j, g1, g2, (h j g1).symm ▸ g3⟩⟩
  unfold cutOf
  by_cases hc : (∃ i, i < n ∧ C0 i = c ∧ D i = true) ∧ (∃ i, i < n ∧ C0 i = c ∧ D i = false)
  · rw [if_pos hc, if_pos (e.1 hc)]
    refine ⟨by simp [hN], by simp [hN, hm], fun i hi => ?_⟩
    simp only [h i hi, hN, hC i hi]
  · rw [if_neg hc, if_neg (fun hh => hc (e.2 hh))]
    exact ⟨hN, hm, hC⟩
theorem cuts_congr {n : Nat} {C0 : Nat → Nat} {D E : Nat → Bool} (h : ∀ i, i < n → D i = E i) : ∀ (l : List Nat) (s s' : St), s.N = s'.N → s.made = s'.made → (∀ i, i < n → s.C i = s'.C i) →
    (cuts n C0 D l s).N = (cuts n C0 E l s').N ∧ (cuts n C0 D l s).made = (cuts n C0 E l s').made ∧ ∀ i, i < n → (cuts n C0 D l s).C i = (cuts n C0 E l s').C i
  | [], _, _, h1, h2, h3 => ⟨h1, h2, h3⟩
  | c :: l, s, s', h1, h2, h3 => by
    obtain ⟨g1, g2, g3⟩ := cutOf_congr (C0 := C0) h c h1 h2 h3
    exact cuts_congr h l _ _ g1 g2 g3
/-- What Split answers: the classes cut in their order. -/
def splitOf (n : Nat) (C : Nat → Nat) (N : Nat) (l : List Nat) : St := cuts n C (fun i => decide (i ∈ l)) (List.range N) ⟨C, N, []⟩
theorem Mark.answers {n N : Nat} {C A B : Nat → Nat} {l : List Nat} {D : Nat → Bool} {M : Nat → Nat} {T : List Nat} {R P : Nat → Nat} (h : Mark n N C A B l D M T R P) {T' : List Nat} (hp : T'.Perm T) (hs : T'.Pairwise (· ≤ ·)) :
    (cuts n C D T' ⟨C, N, []⟩).N = (splitOf n C N l).N ∧ (cuts n C D T' ⟨C, N, []⟩).made = (splitOf n C N l).made ∧ ∀ i, i < n → (cuts n C D T' ⟨C, N, []⟩).C i = (splitOf n C N l).C i := by
  have hT : T' = (List.range N).filter (fun c => decide (0 < M c)) := by
    refine same_sorted ?_ ((List.pairwise_lt_range).filter _) (fun x => ?_)
    · have hnd : T'.Nodup := hp.nodup_iff.2 h.nd
      rw [List.nodup_iff_pairwise_ne] at hnd
      exact (hs.and hnd).imp (fun {a b} hh => by omega)
    · rw [List.mem_filter, List.mem_range, hp.mem_iff, h.tm]
      simp
  have h1 := cuts_filter n C D (fun c => decide (0 < M c)) (fun c hc s => by
    have hc0 : M c = 0 := by simpa using hc
    unfold cutOf
    rw [if_neg]
    rintro ⟨⟨i, hi, e, hd⟩, _⟩
    have h2 := (h.dn i hi).1 hd
    have h3 := h.inv.at' i hi
    rw [e, hc0] at h2
    rw [e] at h3
    omega) (List.range N) ⟨C, N, []⟩
  rw [hT, h1]
  unfold splitOf
  exact cuts_congr (fun i hi => by
    have := h.dl i hi
    cases hd : D i with
    | true => simp [this.1 hd]
    | false =>
      have : ¬ i ∈ l := fun hm => by rw [this.2 hm] at hd; cases hd
      simp [this]) _ _ _ rfl rfl (fun _ _ => rfl)
def spl (base g n N : Nat) (C R P A B : Nat → Nat) (gr cr gp cp gc gs cs : Nat) (mv tv : Value) (made T : List Int) (gd : Nat) (D : Nat → Bool) (gm : Nat) (es : List (Int × Int)) : List Res :=
  [ints base mv made, ints base tv T, blk gd (boolsA n D) 4, mp gm (Value.int .i64) (Value.int .i64) es,
   blk g #[.slice (some ⟨gr, 0, none⟩) n cr, .slice (some ⟨gp, 0, none⟩) n cp, .slice (some ⟨gc, 0, none⟩) n n, .slice (some ⟨gs, 0, none⟩) N cs] 64,
   ints base (.slice (some ⟨gr, 0, none⟩) n cr) (lst n R), ints base (.slice (some ⟨gp, 0, none⟩) n cp) (lst n P), blk gc (numsA (lst n C)) 3, pairs base (.slice (some ⟨gs, 0, none⟩) N cs) (slst N A B)]
/-- Pieces of a Part, as one. -/
theorem Hold.pack {base : Nat} {own : Nat → Prop} {w0 w : World} {ms : List Res} {g n N : Nat} {C R P A B : Nat → Nat} {gr cr gp cp gc gs cs : Nat} (h : Hold base own w0 (ms ++ pcs base g n N C R P A B gr cr gp cp gc gs cs) w) (hi : Inv n N C R P A B) :
    Hold base own w0 (ms ++ [part base (fun k => ∃ r ∈ pcs base g n N C R P A B gr cr gp cp gc gs cs, r.own k) g n N C]) w := by
  have hp := List.pairwise_append.1 h.sep.2
  have hs2 : Sep base (pcs base g n N C R P A B gr cr gp cp gc gs cs) w := h.sep.sub (List.sublist_append_right _ _)
  refine ⟨⟨fun r hr => ?_, List.pairwise_append.2 ⟨hp.1, List.pairwise_singleton _ _, fun a ha b hb k hk hk' => ?_⟩⟩, fun r hr k hk => ?_, h.kept, h.below, h.hb⟩
  · rcases List.mem_append.1 hr with hr | hr
    · exact h.sep.1 r (List.mem_append_left _ hr)
    · rw [List.mem_singleton] at hr
      subst hr
      refine ⟨⟨R, P, A, B, gr, cr, gp, cp, gc, gs, cs, hi, hs2, fun r hr k hk => ⟨r, hr, hk⟩⟩, fun k hk => ?_⟩
      obtain ⟨q, hq, hqk⟩ := hk
      exact (hs2.1 q hq).2 k hqk
  · rw [List.mem_singleton] at hb
    subst hb
    obtain ⟨q, hq, hqk⟩ := hk'
    exact hp.2.2 a ha q hq k hk hqk
  · rcases List.mem_append.1 hr with hr | hr
    · exact h.mine r (List.mem_append_left _ hr) k hk
    · rw [List.mem_singleton] at hr
      subst hr
      obtain ⟨q, hq, hqk⟩ := hk
      exact h.mine q (List.mem_append_right _ hq) k hqk
theorem Hold.sub {base : Nat} {own : Nat → Prop} {w0 w : World} {rs rs' : List Res} (h : Hold base own w0 rs w) (hs : rs'.Sublist rs) : Hold base own w0 rs' w := ⟨h.sep.sub hs, fun r hr => h.mine r (hs.subset hr), h.kept, h.below, h.hb⟩
/-- A Part right behind a split: what it was is known. -/
def partM (base : Nat) (own : Nat → Prop) (g n N : Nat) (C : Nat → Nat) (N0 : Nat) (C0 : Nat → Nat) : Res where
  own := own
  at_ := fun w => ∃ (R P A B : Nat → Nat) (gr cr gp cp gc gs cs : Nat), (Inv n N C R P A B ∧ Beh n N C R B N0 C0) ∧ Sep base (pcs base g n N C R P A B gr cr gp cp gc gs cs) w ∧ ∀ r ∈ pcs base g n N C R P A B gr cr gp cp gc gs cs, ∀ k, r.own k → own k
  step := fun {w w1} h hk => by
    obtain ⟨R, P, A, B, gr, cr, gp, cp, gc, gs, cs, h1, h2, h3⟩ := h
    exact ⟨R, P, A, B, gr, cr, gp, cp, gc, gs, cs, h1, Sep.step h2 (fun r hr k hrk hlt => hk k (h3 r hr k hrk) hlt), h3⟩
theorem partM_part {base : Nat} {own : Nat → Prop} {g n N : Nat} {C : Nat → Nat} {N0 : Nat} {C0 : Nat → Nat} {w : World} (h : (partM base own g n N C N0 C0).at_ w) : (part base own g n N C).at_ w := by
  obtain ⟨R, P, A, B, gr, cr, gp, cp, gc, gs, cs, h1, h2, h3⟩ := h
  exact ⟨R, P, A, B, gr, cr, gp, cp, gc, gs, cs, h1.1, h2, h3⟩
theorem partM_congr {base : Nat} {own : Nat → Prop} {g n N : Nat} {C C' : Nat → Nat} {N0 : Nat} {C0 : Nat → Nat} (hc : ∀ i, i < n → C i = C' i) {w : World} (h : (partM base own g n N C N0 C0).at_ w) : (partM base own g n N C' N0 C0).at_ w := by
  obtain ⟨R, P, A, B, gr, cr, gp, cp, gc, gs, cs, h1, h2, h3⟩ := h
  have e : lst n C = lst n C' := lst_congr hc
  refine ⟨R, P, A, B, gr, cr, gp, cp, gc, gs, cs, ⟨⟨h1.1.ip, h1.1.pi, fun i hi => hc i hi ▸ h1.1.cn i hi, h1.1.sp, fun i hi => hc i hi ▸ h1.1.at' i hi, fun i hi => hc i hi ▸ h1.1.only i hi⟩, fun f f1 f2 => ?_⟩, ?_, ?_⟩
  · obtain ⟨b1, b2⟩ := h1.2 f f1 f2
    refine ⟨b1, fun i hi hf => ?_⟩
    rw [← hc _ (h1.1.pi _ b1).1]
    exact b2 i hi (by rw [hc i hi]; exact hf)
  · unfold pcs at h2 ⊢
    rw [← e]
    exact h2
  · unfold pcs at h3 ⊢
    rw [← e]
    exact h3
end Go.Proofs.Ytdalpaobkmoomaa.X
end

section
namespace Go.Proofs.Ytdalpaobkmoomaa.X
open Go.RowKit Go.Proofs.YtdalpaobkmoomaaW.PrintWords Go.Proofs.YtdalpaobkmoomaaW.PrintLast Go.Proofs.YtdalpaobkmoomaaW.PrintMore
open Go.Proofs.Ytdalpaobkmoomaa Go.Proofs.Ytdalpaobkmoomaa.Sp
def sp20.T20 : Bool × List (List Nat × List Nat) := (true, [([], []), ([], []), ([], []), ([2], [2]), ([3], [3]), ([4], [4]), ([], []), ([5, 6], [5, 6]), ([7], [7]), ([8], [8]), ([], []), ([], []), ([10, 11], [10, 11]), ([9, 12], [9, 12]), ([0, 1, 13], [0, 1, 13])])
def sp20.B20 : List Nat := [0, 0, 0, 4, 12, 28, 0, 124, 252, 508, 0, 0, 3072, 8188, 16383]
theorem sp20.tab20 : rtab .any (opsOf Try.f12 20) = sp20.T20 := by kernel_rfl
theorem sp20.bits20 : waitsOk sp20.T20.2 sp20.B20 = true := by kernel_rfl
def sp27.T27 : Bool × List (List Nat × List Nat) := (true, [([], []), ([0], [0]), ([1], [1]), ([2], [2]), ([], []), ([3, 4], [3, 4]), ([5], [5]), ([6], [6]), ([], []), ([8], [8]), ([9], [9]), ([10], [10]), ([], []), ([11, 12], [11, 12]), ([13], [13]), ([14], [14]), ([7, 0, 1, 2, 3, 4, 5, 6, 7], [7]), ([15, 16, 0, 1, 2, 3, 4, 5, 6, 7, 8, 9, 10, 11, 12, 13, 14, 15, 16], [15])])
def sp27.B27 : List Nat := [0, 1, 3, 7, 0, 31, 63, 127, 0, 256, 768, 1792, 0, 7936, 16128, 32512, 255, 131071]
theorem sp27.tab27 : rtab .any (opsOf Try.f12 27) = sp27.T27 := by kernel_rfl
theorem sp27.bits27 : waitsOk sp27.T27.2 sp27.B27 = true := by kernel_rfl
theorem info61 : (Try.prog.info? 61).map (fun i => (i.zero, i.size)) = some (some (.agg #[.int .i64 0, .int .i64 0]), 2) := by kernel_rfl
theorem info61b : (Try.prog.info? 61).map (fun i => (i.zero, i.size, i.bytes)) = some (some (.agg #[.int .i64 0, .int .i64 0]), kpair.sz, 16) := by kernel_rfl
theorem run_one_pair (W : World) (p : Int × Int) : (Instr.buildSlice 62 1 #[(0, .agg (pairC p).toArray)]).run Try.prog W = .ok (.slice (some ⟨W.heap.size, 0, none⟩) 1 1) (W.alloc (.cells (pairC p).toArray 61)) := by
  cases hi : Try.prog.info? 61 with
  | none => have := info61; rw [hi] at this; cases this
  | some ie =>
    have h88 := info61
    rw [hi] at h88
    simp only [Option.map_some, Option.some.injEq, Prod.mk.injEq] at h88
    refine run_buildSlice W 62 61 1 _ _ ie _ Try.underlying62 hi h88.1 (by rw [h88.2]; decide) (by rw [h88.2]; decide) ?_
    rw [h88.2]
    have h := Great.fill_whole (s := 2) (by decide) [.agg (pairC p).toArray] ((Array.range (1 * 2)).map ((Value.agg #[.int .i64 0, .int .i64 0]).cells[· % (Value.agg #[.int .i64 0, .int .i64 0]).cells.size]!)) (by
      intro v hv
      simp only [List.mem_singleton] at hv
      subst hv
      rfl) (by simp)
    simpa [Value.cells] using h
theorem exec_one_pair {a : Act} {o : Oper} {x : Operand} {p : Int × Int} (ho : o.op = .buildSlice 62 1 #[(0, x)]) (hx : a.eval x = .agg (pairC p).toArray) (W : World) :
    (execOp a.eval o).run Try.prog W = .ok (.value (.slice (some ⟨W.heap.size, 0, none⟩) 1 1)) (W.alloc (.cells (pairC p).toArray 61)) := by
  unfold execOp
  simp [ho, hx, run_one_pair W p, Result.andThen]
/-- slices.Sort of a row of the call's own. -/
theorem sort_calls {base : Nat} {own : Nat → Prop} {w0 w : World} {rs : List Res} {v : Value} {xs : List Int} (h : Hold base own w0 rs w) (i : Nat) (hi : rs[i]? = some (ints base v xs)) (hl : xs.length < 4611686018427387904) :
    Calls Try.prog 30 #[v] w fun e w' => e = .returned (.tuple #[]) ∧ Hold base own w0 (rs.set i (ints base v (xs.mergeSort fun x y => decide (x ≤ y)))) w' := by
  have hR := h.get i hi
  rcases (Kd.own_of_R hR).2 with ⟨rfl, h0⟩ | ⟨g, cap, cur, rfl, hb, hc, _⟩
  · have hx : xs = [] := List.eq_nil_of_length_eq_zero h0
    subst hx
    refine (Any.slices_Sort_int_none Try.lays189 none 0 w).mono ?_
    rintro e w' ⟨rfl, rfl⟩
    refine ⟨rfl, ?_⟩
    have hs : ([] : List Int).mergeSort (fun x y => decide (x ≤ y)) = [] := by simp
    rw [hs]
    exact h.upd i hi hR (fun _ _ _ => rfl) (fun k hk => ⟨.inl hk, (h.sep.bound i hi hk).2⟩) (Nat.le_refl _) h.below
  · have hH : Go.Sort.Holds (Value.int .i64) w g 0 xs.toArray := fun j hj => by
      have hj' : j < xs.length := by simpa using hj
      obtain ⟨ad, e, hcl⟩ := Kd.at_int (Kd.R_reads' hR).2.2 (j : Int) (by omega) (by omega)
      injection e with e
      subst e
      rw [Int.toNat_natCast, Addr.add_mid, Nat.zero_add] at hcl
      rw [Nat.zero_add]
      refine ⟨?_, row_frozen hR j⟩
      rw [hcl]
      simp [rd, List.getD_eq_getElem?_getD, hj']
    refine (Any.slices_Sort_int Try.lays189 g 0 cap xs w hH (blk_lt hc) hl).mono ?_
    rintro e w' ⟨rfl, m, os, rfl⟩
    exact ⟨rfl, h.sorted i hi (List.mergeSort_perm _ _).length_eq⟩
theorem pair_some {w : World} {base : Nat} {ok : Nat → Prop} {v : Value} {row : List (Int × Int)} (h : Kd.R kpair 61 w base ok v row) (hn : row ≠ []) : ∃ g c, v = .slice (some ⟨g, 0, none⟩) row.length c := by
  obtain ⟨_, inner, ho, hr⟩ := h
  rcases ho.2 with ⟨rfl, h0⟩ | ⟨g, cap, cur, rfl, _⟩
  · exact absurd (List.eq_nil_of_length_eq_zero h0) hn
  · exact ⟨g, cap, rfl⟩
theorem cell_grown {w w1 : World} {g j : Nat} {v : Value} {row : Option Nat} (h : w.cell? ⟨g, j, none⟩ = some v) (hg : w.grownBy w1 row) (hne : some g ≠ row) : w1.cell? ⟨g, j, none⟩ = some v := by
  have hlt : g < w.heap.size := World.block_lt_of_cell? w ⟨g, j, none⟩ h
  have hb := hg.block g hlt hne
  rw [← h]
  simp only [World.cell?, hb]
attribute [local go_sem] max2_int min2_int max_two min_two max_three min_three max_four min_four
set_option maxHeartbeats 16000000 in
set_option maxRecDepth 100000 in
theorem Split_walk (base : Nat) (own : Nat → Prop) (w : World) (g n N : Nat) (C R0 P0 A B : Nat → Nat) (gr cr gp cp gc gs cs : Nat) (l : List Nat) (Al : Option Addr) (cl : Nat)
    (H : Hold base own w (pcs base g n N C R0 P0 A B gr cr gp cp gc gs cs) w) (hinv : Inv n N C R0 P0 A B) (hn0 : 0 < n) (hn : n ≤ 65536) (hl : ∀ i ∈ l, i < n) (hll : l.length ≤ 1000000)
    (hrd : ∀ w1, (∀ k, k < w.heap.size → ¬ own k → w1.heap[k]? = w.heap[k]?) → Kd.C (Kd.int .i64) w1 Al l.length (tl l)) :
    Calls Try.prog 12 #[.pointer (some ⟨g, 0, none⟩), .slice Al l.length cl] w fun e w' => ∃ (mv : Value) (own' : Nat → Prop), e = .returned (.tuple #[mv, .int .i64 0]) ∧ Hold base own w [ints base mv (tl (splitOf n C N l).made), partM base own' g n (splitOf n C N l).N (splitOf n C N l).C N C] w' := by
  have hu64 := Try.underlying64
  have hu22 := Try.underlying22
  have hu61 := Try.underlying61
  have hu62 := Try.underlying62
  have hu65 := Try.underlying65
  have hu66 := Try.underlying66
  have hmm := @run_makeMap Try.prog
  have HRD := Aside0.mk hrd
  have HL := Aside0.mk hl
  have HINV := Aside0.mk hinv
  have HH := Aside0.mk H.free.free.free.free
  have hN := hinv.few
  have HSZ : Aside0 (n ≤ 65536 ∧ N ≤ n ∧ l.length ≤ 1000000) := ⟨hn, hN, hll⟩
  clear hrd hl hinv H hll
  have hx0 : w.cell? ⟨g, 0, none⟩ = some (.slice (some ⟨gr, 0, none⟩) n cr) := (blk_cell (HH.out.get 4 rfl) 0).trans rfl
  have HM := Aside0.mk (HH.out.fillMap 3 rfl (Value.int .i64) (Value.int .i64))
  have hx0b : (w.alloc (.map #[] 0)).cell? ⟨g, 0, none⟩ = some (.slice (some ⟨gr, 0, none⟩) n cr) := (blk_cell (HM.out.get 4 rfl) 0).trans rfl
  go_enter Try.func12, Try.ntmps12
  go_wp2_with ((with_reducible refine gate_dst (N := 30) rfl ?_); (refine fresh_make Try.underlying66 info4 rfl (by decide) (by decide) rfl rfl rfl (by omega) (by omega) ?_; intro w1 hg1 hb1 hz1; rw [made_bools, Int.toNat_natCast] at hg1; have HF := Aside0.mk ((HM.out.fillBlk 2 rfl rfl hg1 hb1).fillNil 1 rfl (Kd.int .i64) 3 |>.fillNil 0 rfl (Kd.int .i64) 3); clear hg1 hb1 hz1))
  have hsz : (w.alloc (.map #[] 0)).heap.size = w.heap.size + 1 := by simp
  rw [hsz] at HF
  generalize hgd : w.heap.size + 1 = gd at HF ⊢
  generalize hgm : w.heap.size = gm at HF ⊢
  have HF2 : Aside0 (Hold base own w (spl base g n N C R0 P0 A B gr cr gp cp gc gs cs (.slice none 0 0) (.slice none 0 0) [] [] gd (fun _ => false) gm []) w1) := ⟨HF.out⟩
  clear hgd hgm HF HM HH hx0 hx0b hsz
  have hlm := HSZ.out.2.2
  go_loopw [33, 4] (fun v33 v4 wr => ∃ (j : Nat), v33 = .int .i64 (j : Int) ∧ v4 = .slice none 0 0 ∧ Aside0 (j ≤ l.length) ∧ Aside0 (wr = w1)) (fun v33 _ _ => l.length - (intOf v33).toNat)
  case atStart => exact ⟨0, rfl, rfl, ⟨by omega⟩, ⟨by first | rfl | trivial⟩⟩
  case round =>
    obtain ⟨j, rfl, rfl, HJI, HWR⟩ := hrel
    have hwr := HWR.out
    subst hwr
    clear HWR
    by_cases hj : j < l.length
    · have HJ := Aside0.mk hj
      have hj' : (j : Int) < (l.length : Int) := by omega
      obtain ⟨i, hli⟩ : ∃ i, l[j] = i := ⟨_, rfl⟩
      have hin : i < n := by have := HL.out l[j] (List.getElem_mem hj); omega
      obtain ⟨adl, el, hxl⟩ := Kd.at_int (HRD.out wr HF2.out.kept) (j : Int) (by omega) hj'
      cases el
      rw [rd_tl hj, hli, Int.toNat_natCast] at hxl
      have hx0 : wr.cell? ⟨g, 0, none⟩ = some (.slice (some ⟨gr, 0, none⟩) n cr) := (blk_cell (HF2.out.get 4 rfl) 0).trans rfl
      have hi1 : (i : Int) < (n : Int) := by omega
      have hi2 : 0 ≤ (i : Int) := by omega
      clear hj hli hin
      go_wp2
      go_roundw
      case rel => exact ⟨j + 1, by go_num, rfl, ⟨by have := HJ.out; omega⟩, ⟨by first | rfl | trivial⟩⟩
      case measure => have := HJ.out; simp [intOf]; omega
    · have hj' : ¬ ((j : Int) < (l.length : Int)) := by omega
      clear hj
      go_wp2
      have HW1 := Aside0.mk HF2.out
      clear HF2 HJI
      go_loopw [51, 10] (fun v51 v10 wr => ∃ (j : Nat) (D : Nat → Bool) (M R P : Nat → Nat) (T : List Nat) (es : List (Int × Int)) (tv : Value), v51 = .int .i64 (j : Int) ∧ tv = v10 ∧ Aside0 (j ≤ l.length) ∧ Aside0 (Mark n N C A B (l.take j) D M T R P) ∧ Aside0 (MapIs N es M) ∧ Aside0 (T.length ≤ j) ∧ Aside0 (Hold base own w (spl base g n N C R P A B gr cr gp cp gc gs cs (.slice none 0 0) tv [] (tl T) gd D gm es) wr)) (fun v51 _ _ => l.length - (intOf v51).toNat)
      case atStart => exact ⟨0, fun _ => false, fun _ => 0, R0, P0, [], [], _, rfl, rfl, ⟨by omega⟩, ⟨by rw [List.take_zero]; exact mark_start HINV.out⟩, ⟨mapIs_nil N⟩, ⟨Nat.le_refl _⟩, HW1⟩
      case round =>
        clear HW1
        obtain ⟨j, D, M, R, P, T, es, tv, rfl, htv, HJI, HMK, HMS, HTJ, HO⟩ := hrel
        subst htv
        by_cases hj : j < l.length
        · have HJ := Aside0.mk hj
          have hj' : (j : Int) < (l.length : Int) := by omega
          obtain ⟨i, hli⟩ : ∃ i, l[j] = i := ⟨_, rfl⟩
          have hin : i < n := by have := HL.out l[j] (List.getElem_mem hj); omega
          have htk : l.take (j + 1) = l.take j ++ [i] := by rw [List.take_succ_eq_append_getElem hj, hli]
          obtain ⟨adl, el, hxl⟩ := Kd.at_int (HRD.out wr HO.out.kept) (j : Int) (by omega) hj'
          cases el
          rw [rd_tl hj, hli, Int.toNat_natCast] at hxl
          have hi1 : (i : Int) < (n : Int) := by omega
          have hi2 : 0 ≤ (i : Int) := by omega
          have hcd := bools_cell (HO.out.get 2 rfl) hin
          have hfd := blk_frozen (HO.out.get 2 rfl) i
          have HI := Aside0.mk hin
          have HTK := Aside0.mk htk
          clear hj hli hin htk
          cases hd : D i with
          | true =>
            rw [hd] at hcd
            have HSK := Aside0.mk (HMK.out.skip HI.out hd)
            clear hd
            go_wp2
            go_roundw
            case rel => exact ⟨j + 1, D, M, R, P, T, es, _, by go_num, rfl, ⟨by have := HJ.out; omega⟩, ⟨by rw [HTK.out]; exact HSK.out⟩, HMS, ⟨by have := HTJ.out; omega⟩, HO⟩
            case measure => have := HJ.out; simp [intOf]; omega
          | false =>
            rw [hd] at hcd
            have HSTEP := Aside0.mk (fun T' hT => HMK.out.step (T' := T') HI.out hd hT)
            have HROOM := Aside0.mk (HMK.out.room HI.out hd)
            clear hd
            obtain ⟨c, hc⟩ : ∃ c, C i = c := ⟨_, rfl⟩
            rw [hc] at HSTEP HROOM
            obtain ⟨q, hq⟩ : ∃ q, A c + M c = q := ⟨_, rfl⟩
            rw [hq] at HSTEP HROOM
            obtain ⟨r1, r2, r3, r4, r5, r6, r7⟩ := HROOM.out
            have HCN := Aside0.mk r1
            have HPI : Aside0 (P i < n) := ⟨by omega⟩
            have HQ1 : Aside0 (q < n) := ⟨by omega⟩
            have HQ2 := HPI
            have HQ3 := Aside0.mk r5
            have HQW : Aside0 (IntKind.i64.wrap ((A c : Int) + (M c : Int)) = (q : Int)) := ⟨by rw [i64_w, w64p (by have := HSZ.out; omega) (by have := HSZ.out; omega), hq]⟩
            have hcN : (c : Int) < (N : Int) := by omega
            have HMW : Aside0 (IntKind.i64.wrap ((M c : Int) + 1) = ((M c + 1 : Nat) : Int)) := ⟨by rw [i64_w, w64s (by have := HSZ.out; omega)]⟩
            have HO2 := Aside0.mk (HO.out.cell 2 rfl i (.bool true) (boolsA_set D true))
            have HO3 : Aside0 (Hold base own w (spl base g n N C R P A B gr cr gp cp gc gs cs (.slice none 0 0) tv [] (tl T) gd (upd D i true) gm es) (wr.setCell ⟨gd, i, none⟩ (.bool true))) := ⟨HO2.out⟩
            have HCM := Aside0.mk hc
            clear r1 r2 r3 r4 r5 r6 r7 HO2 HO HROOM hc
            have hx2 : (wr.setCell ⟨gd, i, none⟩ (.bool true)).cell? ⟨g, 2, none⟩ = some (.slice (some ⟨gc, 0, none⟩) n n) := (blk_cell (HO3.out.get 4 rfl) 2).trans rfl
            have hxc : (wr.setCell ⟨gd, i, none⟩ (.bool true)).cell? ⟨gc, i, none⟩ = some (.int .i64 (c : Int)) := by have := lst_cell (HO3.out.get 7 rfl) HI.out; rw [HCM.out] at this; exact this
            have hlk := HMS.out.look (HO3.out.get 3 rfl) HCN.out (by have := HSZ.out; omega)
            clear HCM hq
            by_cases hm0 : M c = 0
            · have HST2 := Aside0.mk (HSTEP.out (T ++ [c]) (by rw [if_pos hm0]))
              have hm0i : (M c : Int) = 0 := by rw [hm0]; rfl
              have HTB : Aside0 (((tl T).length + 1) * 8 ≤ 140737488355328) := ⟨by have h1 := HSZ.out; have h2 := HTJ.out; have h3 := HJ.out; rw [tl_len]; omega⟩
              have hlk9 := hlk
              rw [hm0i] at hlk
              clear HSTEP hm0 hlk9
              go_wp2_with (first
              | ((with_reducible refine gate_builtin (b := .append) (xs := #[.tmp 73, .tmp 75]) rfl ?_)
                 at_builtin
                 refine Kd.R_append (Kd.int .i64) (w0 := w) base rfl (.tmp 73) (.tmp 75) 22 3 (.int .i64 0) 8 rfl Try.underlying22 info3 rfl (by decide) (by omega) tv (tl T) (c : Int) [.int .i64 (c : Int)] (fun _ => True) (fun _ => False) rfl (by simp [Act.eval]) rfl (fun _ hk => hk.elim) (fun _ _ => trivial) (Kd.R_mono (HO3.out.get 1 rfl) (fun _ _ => trivial)) HO3.out.below HO3.out.bsize HTB.out ?_
                 intro v8 wr9 ho hb hg hat
                 have HO9 : Aside0 (Hold base own w (spl base g n N C R P A B gr cr gp cp gc gs cs (.slice none 0 0) v8 [] (tl (T ++ [c])) gd (upd D i true) gm es) wr9) := ⟨by rw [tl_snoc]; exact HO3.out.app 1 rfl rfl ho hg hat⟩
                 clear ho hb hg hat hlk hx2 hxc hm0i))
              have hqw2 := HQW.out
              have HE := Aside0.mk (HO9.out.low (below_drew1 (Below.refl wr9.heap.size wr9)))
              clear HO9
              refine start_ (n := 15) (S := fun w' => w'.cell? ⟨g, 3, none⟩ = some (.slice (some ⟨gs, 0, none⟩) N cs) ∧ w'.cell? ⟨gs, c * 2, none⟩ = some (.int .i64 (A c : Int)) ∧ (Instr.lookup 65 (.map (some gm)) (.int .i64 (c : Int)) false).run Try.prog w' = .ok (.int .i64 (M c : Int)) w') (ds := [14]) #[false, false, false, false, false, false, false, false, false, false, false, false, false, false, false] (by kernel_rfl) rfl rfl ⟨(blk_cell (HE.out.get 4 rfl) 3).trans rfl, (pair_cells (HE.out.get 8 rfl) c _ (slst_get A B HCN.out)).1, HMS.out.look (HE.out.get 3 rfl) HCN.out (by have := HSZ.out; omega)⟩ (fun hHeld => ?_)
              refine with_tabW sp20.tab20 sp20.bits20 (fun HT_ HW_ => ?_)
              have HE2 := HE
              clear HE
              generalize wr9.drew = wd at HE2 hHeld ⊢
              refine pure_ (i := 0) (N := (some 77)) (v := ?_) (a' := ?_) #[true, false, false, false, false, false, false, false, false, false, false, false, false, false, false] rfl rfl (any_of HT_.out (by kernel_rfl)) (fun _ _ _ h => h) (Or.inl ⟨by rfl, ?_⟩) ?_ ?_
              rotate_left
              · intro w'
                go_simp
                with_reducible rfl
              rotate_left
              · simp only [Act.put, List.setIfInBounds_toArray, List.set_cons_zero, List.set_cons_succ, i64_w, i32_w]
                rfl
              refine pure_ (i := 1) (N := (some 78)) (v := ?_) (a' := ?_) #[true, true, false, false, false, false, false, false, false, false, false, false, false, false, false] rfl rfl (any_of HT_.out (by kernel_rfl)) (fun _ _ _ h => h) (Or.inl ⟨by rfl, ?_⟩) ?_ ?_
              rotate_left
              · intro w'
                go_simp
                with_reducible rfl
              rotate_left
              · simp only [Act.put, List.setIfInBounds_toArray, List.set_cons_zero, List.set_cons_succ, i64_w, i32_w]
                rfl
              refine pure_ (i := 2) (N := (some 79)) (v := ?_) (a' := ?_) #[true, true, true, false, false, false, false, false, false, false, false, false, false, false, false] rfl rfl (any_of HT_.out (by kernel_rfl)) (fun _ _ _ h => h) (Or.inl ⟨by rfl, ?_⟩) ?_ ?_
              rotate_left
              · intro w'
                go_simp
                with_reducible rfl
              rotate_left
              · simp only [Act.put, List.setIfInBounds_toArray, List.set_cons_zero, List.set_cons_succ, i64_w, i32_w]
                rfl
              refine pure_ (i := 3) (N := (some 80)) (v := ?_) (a' := ?_) #[true, true, true, true, false, false, false, false, false, false, false, false, false, false, false] rfl rfl (any_of HT_.out (by kernel_rfl)) (fun _ _ _ h => h) (Or.inl ⟨by rfl, ?_⟩) ?_ ?_
              rotate_left
              · intro w'
                go_simp
                with_reducible rfl
              rotate_left
              · simp only [Act.put, List.setIfInBounds_toArray, List.set_cons_zero, List.set_cons_succ, i64_w, i32_w]
                rfl
              refine pure_ (i := 4) (N := (some 81)) (v := ?_) (a' := ?_) #[true, true, true, true, true, false, false, false, false, false, false, false, false, false, false] rfl rfl (any_of HT_.out (by kernel_rfl)) (fun _ _ _ h => h) (Or.inl ⟨by rfl, ?_⟩) ?_ ?_
              rotate_left
              · intro w'
                go_simp
                with_reducible rfl
              rotate_left
              · simp only [Act.put, List.setIfInBounds_toArray, List.set_cons_zero, List.set_cons_succ, i64_w, i32_w]
                rfl
              refine pure_ (i := 6) (N := (some 83)) (v := ?_) (a' := ?_) #[true, true, true, true, true, false, true, false, false, false, false, false, false, false, false] rfl rfl (any_of HT_.out (by kernel_rfl)) (fun _ _ _ h => h) (Or.inl ⟨by rfl, ?_⟩) ?_ ?_
              rotate_left
              · intro w'
                go_simp
                with_reducible rfl
              rotate_left
              · simp only [Act.put, List.setIfInBounds_toArray, List.set_cons_zero, List.set_cons_succ, i64_w, i32_w]
                rfl
              refine pure_ (i := 10) (N := (some 87)) (v := ?_) (a' := ?_) #[true, true, true, true, true, false, true, false, false, false, true, false, false, false, false] rfl rfl (any_of HT_.out (by kernel_rfl)) (fun _ _ _ h => h) (Or.inl ⟨by rfl, ?_⟩) ?_ ?_
              rotate_left
              · intro w'
                go_simp
                with_reducible rfl
              rotate_left
              · simp only [Act.put, List.setIfInBounds_toArray, List.set_cons_zero, List.set_cons_succ, i64_w, i32_w]
                rfl
              refine pure_ (i := 11) (N := (some 88)) (v := ?_) (a' := ?_) #[true, true, true, true, true, false, true, false, false, false, true, true, false, false, false] rfl rfl (any_of HT_.out (by kernel_rfl)) (fun _ _ _ h => h) (Or.inl ⟨by rfl, ?_⟩) ?_ ?_
              rotate_left
              · intro w'
                go_simp
                with_reducible rfl
              rotate_left
              · simp only [Act.put, List.setIfInBounds_toArray, List.set_cons_zero, List.set_cons_succ, i64_w, i32_w]
                rfl
              refine take_ (i := 5) (N := (some 82)) (v := ?_) (a' := ?_) #[true, true, true, true, true, true, true, false, false, false, true, true, false, false, false] rfl rfl (take_ofW HT_.out HW_.out (by kernel_rfl)) (fun _ _ _ h => h) (Or.inl ⟨by rfl, ?_⟩) hHeld ?_ ?_
              rotate_left
              · rintro w' ⟨s0, s1, s2⟩
                go_simp
                with_reducible rfl
              rotate_left
              · simp only [Act.put, List.setIfInBounds_toArray, List.set_cons_zero, List.set_cons_succ, i64_w, i32_w]
                rfl
              refine pure_ (i := 7) (N := (some 84)) (v := ?_) (a' := ?_) #[true, true, true, true, true, true, true, true, false, false, true, true, false, false, false] rfl rfl (any_of HT_.out (by kernel_rfl)) (fun _ _ _ h => h) (Or.inl ⟨by rfl, ?_⟩) ?_ ?_
              rotate_left
              · intro w'
                go_simp
                with_reducible rfl
              rotate_left
              · simp only [Act.put, List.setIfInBounds_toArray, List.set_cons_zero, List.set_cons_succ, i64_w, i32_w]
                rfl
              refine pure_ (i := 8) (N := (some 85)) (v := ?_) (a' := ?_) #[true, true, true, true, true, true, true, true, true, false, true, true, false, false, false] rfl rfl (any_of HT_.out (by kernel_rfl)) (fun _ _ _ h => h) (Or.inl ⟨by rfl, ?_⟩) ?_ ?_
              rotate_left
              · intro w'
                go_simp
                with_reducible rfl
              rotate_left
              · simp only [Act.put, List.setIfInBounds_toArray, List.set_cons_zero, List.set_cons_succ, i64_w, i32_w]
                rfl
              refine take_ (i := 9) (N := (some 86)) (v := ?_) (a' := ?_) #[true, true, true, true, true, true, true, true, true, true, true, true, false, false, false] rfl rfl (take_ofW HT_.out HW_.out (by kernel_rfl)) (fun _ _ _ h => h) (Or.inl ⟨by rfl, ?_⟩) hHeld ?_ ?_
              rotate_left
              · rintro w' ⟨s0, s1, s2⟩
                go_simp
                with_reducible rfl
              rotate_left
              · simp only [Act.put, List.setIfInBounds_toArray, List.set_cons_zero, List.set_cons_succ, i64_w, i32_w]
                rfl
              refine take_ (i := 12) (N := (some 89)) (v := ?_) (a' := ?_) #[true, true, true, true, true, true, true, true, true, true, true, true, true, false, false] rfl rfl (take_ofW HT_.out HW_.out (by kernel_rfl)) (fun _ _ _ h => h) (Or.inl ⟨by rfl, ?_⟩) hHeld ?_ ?_
              rotate_left
              · rintro w' ⟨s0, s1, s2⟩
                go_simp
                with_reducible rfl
              rotate_left
              · simp only [Act.put, List.setIfInBounds_toArray, List.set_cons_zero, List.set_cons_succ, i64_w, i32_w]
                rfl
              refine pure_ (i := 13) (N := (some 90)) (v := ?_) (a' := ?_) #[true, true, true, true, true, true, true, true, true, true, true, true, true, true, false] rfl rfl (any_of HT_.out (by kernel_rfl)) (fun _ _ _ h => h) (Or.inl ⟨by rfl, ?_⟩) ?_ ?_
              rotate_left
              · intro w'
                go_simp
                with_reducible rfl
              rotate_left
              · simp only [Act.put, List.setIfInBounds_toArray, List.set_cons_zero, List.set_cons_succ, i64_w, i32_w]
                rfl
              refine last_ (i := 14) (N := (some 91)) #[true, true, true, true, true, true, true, true, true, true, true, true, true, true, true] rfl rfl (one_of HT_.out (by kernel_rfl)) (by decide) (fun K hK => ?_)
              refine goes_ Try.func29 (by kernel_rfl) rfl #[.pointer (some ⟨g, 0, none⟩), .int .i64 (i : Int), .int .i64 (q : Int)] (by rfl) rfl rfl (by simp [Act.eval]) ?_
              refine (swap_walk base own w _ wd g n _ _ R P gr cr gp cp 4 5 6 i q HE2.out rfl rfl rfl (by decide) (by decide) (by decide) HI.out HQ1.out HQ2.out HQ3.out).mono ?_
              rintro e w8 ⟨rfl, hsw⟩
              refine ⟨_, rfl, ?_⟩
              have HSW := Aside0.mk hsw
              clear hsw
              refine hK.out _ _ ?_; clear hK K
              refine norm_ (a' := ?_) ?_ ?_
              rotate_left
              · show Act.put _ (some 91) _ = _
                simp only [Act.put, List.setIfInBounds_toArray, List.set_cons_zero, List.set_cons_succ, i64_w, i32_w]
                rfl
              refine done_ (done_of HT_.out (by kernel_rfl)) ?_
              clear hqw2 hHeld HE2
              have hlk := HMS.out.look (HSW.out.get 3 rfl) HCN.out (by have := HSZ.out; omega)
              have hmw2 := HMW.out
              go_wp2_with ((with_reducible refine Sp.gate_update rfl ?_); (refine Vm.wpList_map_put (Vm.int_keys Try.underlying3) Try.underlying65 rfl (.tmp 92) (.tmp 93) (.tmp 95) (.inr rfl) (c : Int) ((M c + 1 : Nat) : Int) rfl rfl rfl rfl (HSW.out.get 3 rfl) HMS.out.key (wf_nat (by have := HSZ.out; have := HCN.out; omega)) ?_; intro w11 hm11 hg11; have HP := Aside0.mk (HSW.out.putMap 3 rfl hm11 hg11); clear hm11 hg11 hlk hmw2))
              go_roundw
              case rel => exact ⟨j + 1, upd D i true, upd M c (M c + 1), _, _, T ++ [c], _, _, by go_num, rfl, ⟨by have := HJ.out; omega⟩, ⟨by rw [HTK.out]; exact HST2.out⟩, ⟨HMS.out.put (by have := HSZ.out; have := HCN.out; omega) (M c + 1)⟩, ⟨by have := HTJ.out; simp; omega⟩, ⟨HP.out⟩⟩
              case measure => have := HJ.out; simp [intOf]; omega
            · have HST2 := Aside0.mk (HSTEP.out T (by rw [if_neg hm0]))
              have hm0i : ¬ (M c : Int) = 0 := fun h => hm0 (by injection h)
              have hm0b : ((M c : Int) == 0) = false := by simpa using hm0i
              clear HSTEP hm0
              go_wp2
              have HO9 := HO3
              generalize wr.setCell ⟨gd, i, none⟩ (.bool true) = wr9 at HO9 ⊢
              clear hlk hx2 hxc hm0i hm0b
              have hqw2 := HQW.out
              have HE := Aside0.mk (HO9.out.low (below_drew1 (Below.refl wr9.heap.size wr9)))
              clear HO9
              refine start_ (n := 15) (S := fun w' => w'.cell? ⟨g, 3, none⟩ = some (.slice (some ⟨gs, 0, none⟩) N cs) ∧ w'.cell? ⟨gs, c * 2, none⟩ = some (.int .i64 (A c : Int)) ∧ (Instr.lookup 65 (.map (some gm)) (.int .i64 (c : Int)) false).run Try.prog w' = .ok (.int .i64 (M c : Int)) w') (ds := [14]) #[false, false, false, false, false, false, false, false, false, false, false, false, false, false, false] (by kernel_rfl) rfl rfl ⟨(blk_cell (HE.out.get 4 rfl) 3).trans rfl, (pair_cells (HE.out.get 8 rfl) c _ (slst_get A B HCN.out)).1, HMS.out.look (HE.out.get 3 rfl) HCN.out (by have := HSZ.out; omega)⟩ (fun hHeld => ?_)
              refine with_tabW sp20.tab20 sp20.bits20 (fun HT_ HW_ => ?_)
              have HE2 := HE
              clear HE
              generalize wr9.drew = wd at HE2 hHeld ⊢
              refine pure_ (i := 0) (N := (some 77)) (v := ?_) (a' := ?_) #[true, false, false, false, false, false, false, false, false, false, false, false, false, false, false] rfl rfl (any_of HT_.out (by kernel_rfl)) (fun _ _ _ h => h) (Or.inl ⟨by rfl, ?_⟩) ?_ ?_
              rotate_left
              · intro w'
                go_simp
                with_reducible rfl
              rotate_left
              · simp only [Act.put, List.setIfInBounds_toArray, List.set_cons_zero, List.set_cons_succ, i64_w, i32_w]
                rfl
              refine pure_ (i := 1) (N := (some 78)) (v := ?_) (a' := ?_) #[true, true, false, false, false, false, false, false, false, false, false, false, false, false, false] rfl rfl (any_of HT_.out (by kernel_rfl)) (fun _ _ _ h => h) (Or.inl ⟨by rfl, ?_⟩) ?_ ?_
              rotate_left
              · intro w'
                go_simp
                with_reducible rfl
              rotate_left
              · simp only [Act.put, List.setIfInBounds_toArray, List.set_cons_zero, List.set_cons_succ, i64_w, i32_w]
                rfl
              refine pure_ (i := 2) (N := (some 79)) (v := ?_) (a' := ?_) #[true, true, true, false, false, false, false, false, false, false, false, false, false, false, false] rfl rfl (any_of HT_.out (by kernel_rfl)) (fun _ _ _ h => h) (Or.inl ⟨by rfl, ?_⟩) ?_ ?_
              rotate_left
              · intro w'
                go_simp
                with_reducible rfl
              rotate_left
              · simp only [Act.put, List.setIfInBounds_toArray, List.set_cons_zero, List.set_cons_succ, i64_w, i32_w]
                rfl
              refine pure_ (i := 3) (N := (some 80)) (v := ?_) (a' := ?_) #[true, true, true, true, false, false, false, false, false, false, false, false, false, false, false] rfl rfl (any_of HT_.out (by kernel_rfl)) (fun _ _ _ h => h) (Or.inl ⟨by rfl, ?_⟩) ?_ ?_
              rotate_left
              · intro w'
                go_simp
                with_reducible rfl
              rotate_left
              · simp only [Act.put, List.setIfInBounds_toArray, List.set_cons_zero, List.set_cons_succ, i64_w, i32_w]
                rfl
              refine pure_ (i := 4) (N := (some 81)) (v := ?_) (a' := ?_) #[true, true, true, true, true, false, false, false, false, false, false, false, false, false, false] rfl rfl (any_of HT_.out (by kernel_rfl)) (fun _ _ _ h => h) (Or.inl ⟨by rfl, ?_⟩) ?_ ?_
              rotate_left
              · intro w'
                go_simp
                with_reducible rfl
              rotate_left
              · simp only [Act.put, List.setIfInBounds_toArray, List.set_cons_zero, List.set_cons_succ, i64_w, i32_w]
                rfl
              refine pure_ (i := 6) (N := (some 83)) (v := ?_) (a' := ?_) #[true, true, true, true, true, false, true, false, false, false, false, false, false, false, false] rfl rfl (any_of HT_.out (by kernel_rfl)) (fun _ _ _ h => h) (Or.inl ⟨by rfl, ?_⟩) ?_ ?_
              rotate_left
              · intro w'
                go_simp
                with_reducible rfl
              rotate_left
              · simp only [Act.put, List.setIfInBounds_toArray, List.set_cons_zero, List.set_cons_succ, i64_w, i32_w]
                rfl
              refine pure_ (i := 10) (N := (some 87)) (v := ?_) (a' := ?_) #[true, true, true, true, true, false, true, false, false, false, true, false, false, false, false] rfl rfl (any_of HT_.out (by kernel_rfl)) (fun _ _ _ h => h) (Or.inl ⟨by rfl, ?_⟩) ?_ ?_
              rotate_left
              · intro w'
                go_simp
                with_reducible rfl
              rotate_left
              · simp only [Act.put, List.setIfInBounds_toArray, List.set_cons_zero, List.set_cons_succ, i64_w, i32_w]
                rfl
              refine pure_ (i := 11) (N := (some 88)) (v := ?_) (a' := ?_) #[true, true, true, true, true, false, true, false, false, false, true, true, false, false, false] rfl rfl (any_of HT_.out (by kernel_rfl)) (fun _ _ _ h => h) (Or.inl ⟨by rfl, ?_⟩) ?_ ?_
              rotate_left
              · intro w'
                go_simp
                with_reducible rfl
              rotate_left
              · simp only [Act.put, List.setIfInBounds_toArray, List.set_cons_zero, List.set_cons_succ, i64_w, i32_w]
                rfl
              refine take_ (i := 5) (N := (some 82)) (v := ?_) (a' := ?_) #[true, true, true, true, true, true, true, false, false, false, true, true, false, false, false] rfl rfl (take_ofW HT_.out HW_.out (by kernel_rfl)) (fun _ _ _ h => h) (Or.inl ⟨by rfl, ?_⟩) hHeld ?_ ?_
              rotate_left
              · rintro w' ⟨s0, s1, s2⟩
                go_simp
                with_reducible rfl
              rotate_left
              · simp only [Act.put, List.setIfInBounds_toArray, List.set_cons_zero, List.set_cons_succ, i64_w, i32_w]
                rfl
              refine pure_ (i := 7) (N := (some 84)) (v := ?_) (a' := ?_) #[true, true, true, true, true, true, true, true, false, false, true, true, false, false, false] rfl rfl (any_of HT_.out (by kernel_rfl)) (fun _ _ _ h => h) (Or.inl ⟨by rfl, ?_⟩) ?_ ?_
              rotate_left
              · intro w'
                go_simp
                with_reducible rfl
              rotate_left
              · simp only [Act.put, List.setIfInBounds_toArray, List.set_cons_zero, List.set_cons_succ, i64_w, i32_w]
                rfl
              refine pure_ (i := 8) (N := (some 85)) (v := ?_) (a' := ?_) #[true, true, true, true, true, true, true, true, true, false, true, true, false, false, false] rfl rfl (any_of HT_.out (by kernel_rfl)) (fun _ _ _ h => h) (Or.inl ⟨by rfl, ?_⟩) ?_ ?_
              rotate_left
              · intro w'
                go_simp
                with_reducible rfl
              rotate_left
              · simp only [Act.put, List.setIfInBounds_toArray, List.set_cons_zero, List.set_cons_succ, i64_w, i32_w]
                rfl
              refine take_ (i := 9) (N := (some 86)) (v := ?_) (a' := ?_) #[true, true, true, true, true, true, true, true, true, true, true, true, false, false, false] rfl rfl (take_ofW HT_.out HW_.out (by kernel_rfl)) (fun _ _ _ h => h) (Or.inl ⟨by rfl, ?_⟩) hHeld ?_ ?_
              rotate_left
              · rintro w' ⟨s0, s1, s2⟩
                go_simp
                with_reducible rfl
              rotate_left
              · simp only [Act.put, List.setIfInBounds_toArray, List.set_cons_zero, List.set_cons_succ, i64_w, i32_w]
                rfl
              refine take_ (i := 12) (N := (some 89)) (v := ?_) (a' := ?_) #[true, true, true, true, true, true, true, true, true, true, true, true, true, false, false] rfl rfl (take_ofW HT_.out HW_.out (by kernel_rfl)) (fun _ _ _ h => h) (Or.inl ⟨by rfl, ?_⟩) hHeld ?_ ?_
              rotate_left
              · rintro w' ⟨s0, s1, s2⟩
                go_simp
                with_reducible rfl
              rotate_left
              · simp only [Act.put, List.setIfInBounds_toArray, List.set_cons_zero, List.set_cons_succ, i64_w, i32_w]
                rfl
              refine pure_ (i := 13) (N := (some 90)) (v := ?_) (a' := ?_) #[true, true, true, true, true, true, true, true, true, true, true, true, true, true, false] rfl rfl (any_of HT_.out (by kernel_rfl)) (fun _ _ _ h => h) (Or.inl ⟨by rfl, ?_⟩) ?_ ?_
              rotate_left
              · intro w'
                go_simp
                with_reducible rfl
              rotate_left
              · simp only [Act.put, List.setIfInBounds_toArray, List.set_cons_zero, List.set_cons_succ, i64_w, i32_w]
                rfl
              refine last_ (i := 14) (N := (some 91)) #[true, true, true, true, true, true, true, true, true, true, true, true, true, true, true] rfl rfl (one_of HT_.out (by kernel_rfl)) (by decide) (fun K hK => ?_)
              refine goes_ Try.func29 (by kernel_rfl) rfl #[.pointer (some ⟨g, 0, none⟩), .int .i64 (i : Int), .int .i64 (q : Int)] (by rfl) rfl rfl (by simp [Act.eval]) ?_
              refine (swap_walk base own w _ wd g n _ _ R P gr cr gp cp 4 5 6 i q HE2.out rfl rfl rfl (by decide) (by decide) (by decide) HI.out HQ1.out HQ2.out HQ3.out).mono ?_
              rintro e w8 ⟨rfl, hsw⟩
              refine ⟨_, rfl, ?_⟩
              have HSW := Aside0.mk hsw
              clear hsw
              refine hK.out _ _ ?_; clear hK K
              refine norm_ (a' := ?_) ?_ ?_
              rotate_left
              · show Act.put _ (some 91) _ = _
                simp only [Act.put, List.setIfInBounds_toArray, List.set_cons_zero, List.set_cons_succ, i64_w, i32_w]
                rfl
              refine done_ (done_of HT_.out (by kernel_rfl)) ?_
              clear hqw2 hHeld HE2
              have hlk := HMS.out.look (HSW.out.get 3 rfl) HCN.out (by have := HSZ.out; omega)
              have hmw2 := HMW.out
              go_wp2_with ((with_reducible refine Sp.gate_update rfl ?_); (refine Vm.wpList_map_put (Vm.int_keys Try.underlying3) Try.underlying65 rfl (.tmp 92) (.tmp 93) (.tmp 95) (.inr rfl) (c : Int) ((M c + 1 : Nat) : Int) rfl rfl rfl rfl (HSW.out.get 3 rfl) HMS.out.key (wf_nat (by have := HSZ.out; have := HCN.out; omega)) ?_; intro w11 hm11 hg11; have HP := Aside0.mk (HSW.out.putMap 3 rfl hm11 hg11); clear hm11 hg11 hlk hmw2))
              go_roundw
              case rel => exact ⟨j + 1, upd D i true, upd M c (M c + 1), _, _, T, _, _, by go_num, rfl, ⟨by have := HJ.out; omega⟩, ⟨by rw [HTK.out]; exact HST2.out⟩, ⟨HMS.out.put (by have := HSZ.out; have := HCN.out; omega) (M c + 1)⟩, ⟨by have := HTJ.out; simp; omega⟩, ⟨HP.out⟩⟩
              case measure => have := HJ.out; simp [intOf]; omega
        · have hj' : ¬ ((j : Int) < (l.length : Int)) := by omega
          have hje : j = l.length := by have := HJI.out; omega
          have HMK2 : Aside0 (Mark n N C A B l D M T R P) := ⟨by have h := HMK.out; rw [hje, List.take_length] at h; exact h⟩
          obtain ⟨T', hT1, hT2, hT3⟩ := sort_nat T
          have hTl : T'.length = T.length := hT2.length_eq
          have HTP := Aside0.mk hT2
          have HTS := Aside0.mk hT3
          have HT1 := Aside0.mk hT1
          have HTL := Aside0.mk hTl
          have HTN := Aside0.mk HMK2.out.few
          have htm : T.length ≤ 65536 := by have := HTN.out; omega
          obtain ⟨At, ct, htv⟩ := Kd.R_slice (HO.out.get 1 rfl)
          subst htv
          rw [tl_len] at HO ⊢
          have hts : (tl T).length < 4611686018427387904 := by rw [tl_len]; omega
          clear hj hje HMK hT1 hT2 hT3 hTl HJI HTJ
          go_wp2_with (go_at_call 30; refine (sort_calls HO.out 1 rfl hts).mono ?_; rintro e w12 ⟨rfl, hso⟩; rw [← HT1.out] at hso; have HSO : Aside0 (Hold base own w (spl base g n N C R P A B gr cr gp cp gc gs cs (.slice none 0 0) (.slice At T.length ct) [] (tl T') gd D gm es) w12) := ⟨hso⟩; clear hso)
          clear HO hts hj'
          go_loopw [101, 4] (fun v101 v4 wr => ∃ (j : Nat) (s : St) (A' B' : Nat → Nat) (gs' cs' : Nat) (mv : Value), v101 = .int .i64 (j : Int) ∧ mv = v4 ∧ Aside0 (j ≤ T.length) ∧ Aside0 (Cut n N C A B D M R P (T'.drop j) s A' B') ∧ Aside0 (cuts n C D (T'.drop j) s = cuts n C D T' ⟨C, N, []⟩) ∧ Aside0 (Hold base own w (spl base g n s.N s.C R P A' B' gr cr gp cp gc gs' cs' mv (.slice At T.length ct) (tl s.made) (tl T') gd D gm es) wr)) (fun v101 _ _ => T.length - (intOf v101).toNat)
          case atStart => exact ⟨0, ⟨C, N, []⟩, A, B, gs, cs, _, rfl, rfl, ⟨by omega⟩, ⟨by rw [List.drop_zero]; exact HMK2.out.cut HTP.out HTN.out⟩, ⟨by rw [List.drop_zero]⟩, ⟨HSO.out⟩⟩
          case round =>
            clear HSO
            obtain ⟨j, s, A', B', gs', cs', mv, rfl, hmv, HJI, HCU, HEQ, HO⟩ := hrel
            subst hmv
            by_cases hj : j < T.length
            · have HJ := Aside0.mk hj
              have hj' : (j : Int) < (T.length : Int) := by omega
              have hjT : j < T'.length := by rw [HTL.out]; exact hj
              obtain ⟨c, hc⟩ : ∃ c, T'[j] = c := ⟨_, rfl⟩
              have hdr : T'.drop j = c :: T'.drop (j + 1) := by rw [List.drop_eq_getElem_cons hjT, hc]
              rw [hdr] at HCU HEQ
              obtain ⟨adt, et, hxt⟩ := Kd.at_int (Kd.R_reads' (HO.out.get 1 rfl)).2.2 (j : Int) (by omega) (by rw [tl_len]; omega)
              cases et
              rw [rd_tl hjT, hc, Int.toNat_natCast] at hxt
              have HHE := Aside0.mk HCU.out.here
              have HCN := Aside0.mk HHE.out.1
              have hcN : (c : Int) < (s.N : Int) := by have := HCN.out; omega
              clear hj hjT hc hdr
              go_wp2
              have HE := Aside0.mk (HO.out.low (below_drew1 (Below.refl wr.heap.size wr)))
              clear HO hxt
              refine start_ (n := 18) (S := fun w' => w'.cell? ⟨g, 3, none⟩ = some (.slice (some ⟨gs', 0, none⟩) s.N cs') ∧ w'.cell? ⟨gs', c * 2, none⟩ = some (.int .i64 (A' c : Int)) ∧ w'.cell? ⟨gs', c * 2 + 1, none⟩ = some (.int .i64 (B' c : Int))) (ds := []) #[false, false, false, false, false, false, false, false, false, false, false, false, false, false, false, false, false, false] (by kernel_rfl) rfl rfl ⟨(blk_cell (HE.out.get 4 rfl) 3).trans rfl, (pair_cells (HE.out.get 8 rfl) c _ (slst_get A' B' HCN.out)).1, (pair_cells (HE.out.get 8 rfl) c _ (slst_get A' B' HCN.out)).2.1⟩ (fun hHeld => ?_)
              refine with_tabW sp27.tab27 sp27.bits27 (fun HT_ HW_ => ?_)
              have HE2 := HE
              clear HE
              generalize wr.drew = wd at HE2 hHeld ⊢
              refine pure_ (i := 0) (N := (some 105)) (v := ?_) (a' := ?_) #[true, false, false, false, false, false, false, false, false, false, false, false, false, false, false, false, false, false] rfl rfl (any_of HT_.out (by kernel_rfl)) (fun _ _ _ h => h) (Or.inl ⟨by rfl, ?_⟩) ?_ ?_
              rotate_left
              · intro w'
                go_simp
                with_reducible rfl
              rotate_left
              · simp only [Act.put, List.setIfInBounds_toArray, List.set_cons_zero, List.set_cons_succ, i64_w, i32_w]
                rfl
              refine pure_ (i := 1) (N := (some 106)) (v := ?_) (a' := ?_) #[true, true, false, false, false, false, false, false, false, false, false, false, false, false, false, false, false, false] rfl rfl (any_of HT_.out (by kernel_rfl)) (fun _ _ _ h => h) (Or.inl ⟨by rfl, ?_⟩) ?_ ?_
              rotate_left
              · intro w'
                go_simp
                with_reducible rfl
              rotate_left
              · simp only [Act.put, List.setIfInBounds_toArray, List.set_cons_zero, List.set_cons_succ, i64_w, i32_w]
                rfl
              refine pure_ (i := 2) (N := (some 107)) (v := ?_) (a' := ?_) #[true, true, true, false, false, false, false, false, false, false, false, false, false, false, false, false, false, false] rfl rfl (any_of HT_.out (by kernel_rfl)) (fun _ _ _ h => h) (Or.inl ⟨by rfl, ?_⟩) ?_ ?_
              rotate_left
              · intro w'
                go_simp
                with_reducible rfl
              rotate_left
              · simp only [Act.put, List.setIfInBounds_toArray, List.set_cons_zero, List.set_cons_succ, i64_w, i32_w]
                rfl
              refine pure_ (i := 4) (N := (some 109)) (v := ?_) (a' := ?_) #[true, true, true, false, true, false, false, false, false, false, false, false, false, false, false, false, false, false] rfl rfl (any_of HT_.out (by kernel_rfl)) (fun _ _ _ h => h) (Or.inl ⟨by rfl, ?_⟩) ?_ ?_
              rotate_left
              · intro w'
                go_simp
                with_reducible rfl
              rotate_left
              · simp only [Act.put, List.setIfInBounds_toArray, List.set_cons_zero, List.set_cons_succ, i64_w, i32_w]
                rfl
              refine pure_ (i := 8) (N := (some 113)) (v := ?_) (a' := ?_) #[true, true, true, false, true, false, false, false, true, false, false, false, false, false, false, false, false, false] rfl rfl (any_of HT_.out (by kernel_rfl)) (fun _ _ _ h => h) (Or.inl ⟨by rfl, ?_⟩) ?_ ?_
              rotate_left
              · intro w'
                go_simp
                with_reducible rfl
              rotate_left
              · simp only [Act.put, List.setIfInBounds_toArray, List.set_cons_zero, List.set_cons_succ, i64_w, i32_w]
                rfl
              refine pure_ (i := 9) (N := (some 114)) (v := ?_) (a' := ?_) #[true, true, true, false, true, false, false, false, true, true, false, false, false, false, false, false, false, false] rfl rfl (any_of HT_.out (by kernel_rfl)) (fun _ _ _ h => h) (Or.inl ⟨by rfl, ?_⟩) ?_ ?_
              rotate_left
              · intro w'
                go_simp
                with_reducible rfl
              rotate_left
              · simp only [Act.put, List.setIfInBounds_toArray, List.set_cons_zero, List.set_cons_succ, i64_w, i32_w]
                rfl
              refine pure_ (i := 10) (N := (some 115)) (v := ?_) (a' := ?_) #[true, true, true, false, true, false, false, false, true, true, true, false, false, false, false, false, false, false] rfl rfl (any_of HT_.out (by kernel_rfl)) (fun _ _ _ h => h) (Or.inl ⟨by rfl, ?_⟩) ?_ ?_
              rotate_left
              · intro w'
                go_simp
                with_reducible rfl
              rotate_left
              · simp only [Act.put, List.setIfInBounds_toArray, List.set_cons_zero, List.set_cons_succ, i64_w, i32_w]
                rfl
              refine pure_ (i := 12) (N := (some 117)) (v := ?_) (a' := ?_) #[true, true, true, false, true, false, false, false, true, true, true, false, true, false, false, false, false, false] rfl rfl (any_of HT_.out (by kernel_rfl)) (fun _ _ _ h => h) (Or.inl ⟨by rfl, ?_⟩) ?_ ?_
              rotate_left
              · intro w'
                go_simp
                with_reducible rfl
              rotate_left
              · simp only [Act.put, List.setIfInBounds_toArray, List.set_cons_zero, List.set_cons_succ, i64_w, i32_w]
                rfl
              refine take_ (i := 3) (N := (some 108)) (v := ?_) (a' := ?_) #[true, true, true, true, true, false, false, false, true, true, true, false, true, false, false, false, false, false] rfl rfl (take_ofW HT_.out HW_.out (by kernel_rfl)) (fun _ _ _ h => h) (Or.inl ⟨by rfl, ?_⟩) hHeld ?_ ?_
              rotate_left
              · rintro w' ⟨s0, s1, s2⟩
                go_simp
                with_reducible rfl
              rotate_left
              · simp only [Act.put, List.setIfInBounds_toArray, List.set_cons_zero, List.set_cons_succ, i64_w, i32_w]
                rfl
              refine pure_ (i := 5) (N := (some 110)) (v := ?_) (a' := ?_) #[true, true, true, true, true, true, false, false, true, true, true, false, true, false, false, false, false, false] rfl rfl (any_of HT_.out (by kernel_rfl)) (fun _ _ _ h => h) (Or.inl ⟨by rfl, ?_⟩) ?_ ?_
              rotate_left
              · intro w'
                go_simp
                with_reducible rfl
              rotate_left
              · simp only [Act.put, List.setIfInBounds_toArray, List.set_cons_zero, List.set_cons_succ, i64_w, i32_w]
                rfl
              refine pure_ (i := 6) (N := (some 111)) (v := ?_) (a' := ?_) #[true, true, true, true, true, true, true, false, true, true, true, false, true, false, false, false, false, false] rfl rfl (any_of HT_.out (by kernel_rfl)) (fun _ _ _ h => h) (Or.inl ⟨by rfl, ?_⟩) ?_ ?_
              rotate_left
              · intro w'
                go_simp
                with_reducible rfl
              rotate_left
              · simp only [Act.put, List.setIfInBounds_toArray, List.set_cons_zero, List.set_cons_succ, i64_w, i32_w]
                rfl
              refine take_ (i := 7) (N := (some 112)) (v := ?_) (a' := ?_) #[true, true, true, true, true, true, true, true, true, true, true, false, true, false, false, false, false, false] rfl rfl (take_ofW HT_.out HW_.out (by kernel_rfl)) (fun _ _ _ h => h) (Or.inl ⟨by rfl, ?_⟩) hHeld ?_ ?_
              rotate_left
              · rintro w' ⟨s0, s1, s2⟩
                go_simp
                with_reducible rfl
              rotate_left
              · simp only [Act.put, List.setIfInBounds_toArray, List.set_cons_zero, List.set_cons_succ, i64_w, i32_w]
                rfl
              refine pure_ (i := 16) (N := (some 16)) (v := ?_) (a' := ?_) #[true, true, true, true, true, true, true, true, true, true, true, false, true, false, false, false, true, false] rfl rfl (any_of HT_.out (by kernel_rfl)) (fun _ _ _ h => h) (Or.inl ⟨by rfl, ?_⟩) ?_ ?_
              rotate_left
              · intro w'
                go_simp
                with_reducible rfl
              rotate_left
              · simp only [Act.put, List.setIfInBounds_toArray, List.set_cons_zero, List.set_cons_succ, i64_w, i32_w]
                rfl
              refine take_ (i := 11) (N := (some 116)) (v := ?_) (a' := ?_) #[true, true, true, true, true, true, true, true, true, true, true, true, true, false, false, false, true, false] rfl rfl (take_ofW HT_.out HW_.out (by kernel_rfl)) (fun _ _ _ h => h) (Or.inl ⟨by rfl, ?_⟩) hHeld ?_ ?_
              rotate_left
              · rintro w' ⟨s0, s1, s2⟩
                go_simp
                with_reducible rfl
              rotate_left
              · simp only [Act.put, List.setIfInBounds_toArray, List.set_cons_zero, List.set_cons_succ, i64_w, i32_w]
                rfl
              refine pure_ (i := 13) (N := (some 118)) (v := ?_) (a' := ?_) #[true, true, true, true, true, true, true, true, true, true, true, true, true, true, false, false, true, false] rfl rfl (any_of HT_.out (by kernel_rfl)) (fun _ _ _ h => h) (Or.inl ⟨by rfl, ?_⟩) ?_ ?_
              rotate_left
              · intro w'
                go_simp
                with_reducible rfl
              rotate_left
              · simp only [Act.put, List.setIfInBounds_toArray, List.set_cons_zero, List.set_cons_succ, i64_w, i32_w]
                rfl
              refine pure_ (i := 14) (N := (some 119)) (v := ?_) (a' := ?_) #[true, true, true, true, true, true, true, true, true, true, true, true, true, true, true, false, true, false] rfl rfl (any_of HT_.out (by kernel_rfl)) (fun _ _ _ h => h) (Or.inl ⟨by rfl, ?_⟩) ?_ ?_
              rotate_left
              · intro w'
                go_simp
                with_reducible rfl
              rotate_left
              · simp only [Act.put, List.setIfInBounds_toArray, List.set_cons_zero, List.set_cons_succ, i64_w, i32_w]
                rfl
              refine take_ (i := 15) (N := (some 120)) (v := ?_) (a' := ?_) #[true, true, true, true, true, true, true, true, true, true, true, true, true, true, true, true, true, false] rfl rfl (take_ofW HT_.out HW_.out (by kernel_rfl)) (fun _ _ _ h => h) (Or.inl ⟨by rfl, ?_⟩) hHeld ?_ ?_
              rotate_left
              · rintro w' ⟨s0, s1, s2⟩
                go_simp
                with_reducible rfl
              rotate_left
              · simp only [Act.put, List.setIfInBounds_toArray, List.set_cons_zero, List.set_cons_succ, i64_w, i32_w]
                rfl
              refine pure_ (i := 17) (N := (some 17)) (v := ?_) (a' := ?_) #[true, true, true, true, true, true, true, true, true, true, true, true, true, true, true, true, true, true] rfl rfl (any_of HT_.out (by kernel_rfl)) (fun _ _ _ h => h) (Or.inl ⟨by rfl, ?_⟩) ?_ ?_
              rotate_left
              · intro w'
                go_simp
                with_reducible rfl
              rotate_left
              · simp only [Act.put, List.setIfInBounds_toArray, List.set_cons_zero, List.set_cons_succ, i64_w, i32_w]
                rfl
              refine done_ (done_of HT_.out (by kernel_rfl)) ?_
              have HE : Aside0 (Hold base own w (spl base g n s.N s.C R P A' B' gr cr gp cp gc gs' cs' mv (.slice (some adt) T.length ct) (tl s.made) (tl T') gd D gm es) wd) := ⟨HE2.out⟩
              clear hHeld HE2
              obtain ⟨q, hq⟩ : ∃ q, A' c + M c = q := ⟨_, rfl⟩
              have HQ := Aside0.mk hq
              have HQB : Aside0 (A' c < q ∧ q ≤ B' c ∧ B' c ≤ n) := ⟨by have := HHE.out; omega⟩
              have hlk := HMS.out.look (HE.out.get 3 rfl) HHE.out.2.1 (by have := HSZ.out; omega)
              have HQW : Aside0 (IntKind.i64.wrap ((A' c : Int) + (M c : Int)) = (q : Int)) := ⟨by rw [i64_w, w64p (by have := HQB.out; omega) (by have := HQB.out; omega), hq]⟩
              by_cases hm : q = B' c
              · have hmb : ((q : Int) == (B' c : Int)) = true := by rw [hm]; simp
                have HWH := Aside0.mk (HCU.out.whole (by rw [hq]; exact hm))
                have HEQ2 : Aside0 (cuts n C D (T'.drop (j + 1)) s = cuts n C D T' ⟨C, N, []⟩) := ⟨by have h := HEQ.out; rw [cuts, HWH.out.2] at h; exact h⟩
                have hqw2 := HQW.out
                clear hq
                go_wp2
                go_roundw
                case rel => exact ⟨j + 1, s, A', B', gs', cs', _, by go_num, rfl, ⟨by have := HJ.out; omega⟩, ⟨HWH.out.1⟩, HEQ2, HE⟩
                case measure => have := HJ.out; simp [intOf]; omega
              · have hmb : ((q : Int) == (B' c : Int)) = false := by simp; omega
                have HPT := Aside0.mk (HCU.out.part (by rw [hq]; exact hm))
                have hcr : n ≤ cr := (Kd.R_reads' (HE.out.get 5 rfl)).2.1
                have hx3 : wd.cell? ⟨g, 3, none⟩ = some (.slice (some ⟨gs', 0, none⟩) s.N cs') := (blk_cell (HE.out.get 4 rfl) 3).trans rfl
                have hqw2 := HQW.out
                have hq1 : (q : Int) ≤ (cr : Int) := by have := HQB.out; omega
                have hcne : ¬ cr = A' c := by have := HQB.out; omega
                have hq2 : (A' c : Int) ≤ (q : Int) := by have := HQB.out; omega
                have HSB : Aside0 (s.N ≤ 200000) := ⟨by have := HCU.out.le.2; have := HSZ.out; omega⟩
                clear hq hm
                have hap : ((slst s.N A' B').length + 1) * 16 ≤ 140737488355328 := by have := HSB.out; rw [slst_len]; omega
                have HW13 : ∀ (w13 : World) (v13 : Value) (g2 c2 : Nat), v13 = .slice (some ⟨g2, 0, none⟩) (s.N + 1) c2 → Hold base own w ((spl base g n s.N s.C R P A' B' gr cr gp cp gc gs' cs' mv (.slice (some adt) T.length ct) (tl s.made) (tl T') gd D gm es).set 8 (pairs base v13 (slst (s.N + 1) (upd A' s.N (A' c)) (upd B' s.N q)))) w13 → Aside0 (Hold base own w (spl base g n (s.N + 1) s.C R P (upd (upd A' s.N (A' c)) c q) (upd B' s.N q) gr cr gp cp gc g2 c2 mv (.slice (some adt) T.length ct) (tl s.made) (tl T') gd D gm es) ((w13.setCell ⟨g, 3, none⟩ v13).setCell ⟨g2, c * 2, none⟩ (.int .i64 (q : Int)))) ∧ Aside0 (Hold base own w (spl base g n (s.N + 1) s.C R P (upd A' s.N (A' c)) (upd B' s.N q) gr cr gp cp gc g2 c2 mv (.slice (some adt) T.length ct) (tl s.made) (tl T') gd D gm es) (w13.setCell ⟨g, 3, none⟩ v13)) := by
                  intro w13 v13 g2 c2 hv h
                  subst hv
                  have h1 := h.cell 4 rfl 3 (.slice (some ⟨g2, 0, none⟩) (s.N + 1) c2) rfl
                  have hcl : c < s.N + 1 := by have := HCN.out; omega
                  have h2 := h1.putPair 8 rfl c _ (slst_get _ _ hcl) (q : Int)
                  rw [slst_set _ _ hcl q] at h2
                  exact ⟨⟨h2⟩, ⟨h1⟩⟩
                go_wp2_with (first
                | ((with_reducible refine gate_dst (N := 142) rfl ?_)
                   refine Kd.event_run rfl (exec_one_pair (p := ((A' c : Int), (q : Int))) rfl rfl _) ?_)
                | ((with_reducible refine gate_builtin (b := .append) (xs := #[.tmp 138, .tmp 142]) rfl ?_)
                   at_builtin
                   refine Kd.R_append kpair (w0 := w) base rfl (.tmp 138) (.tmp 142) 62 61 (.agg #[.int .i64 0, .int .i64 0]) 16 rfl Try.underlying62 info61b rfl (by decide) (by omega) (.slice (some ⟨gs', 0, none⟩) s.N cs') (slst s.N A' B') ((A' c : Int), (q : Int)) (pairC ((A' c : Int), (q : Int))) (fun _ => True) (fun _ => False) rfl rfl rfl (fun _ hk => hk.elim) (fun _ _ => trivial) (Kd.R_mono (HE.out.get 8 rfl) (fun _ _ => trivial)) HE.out.below HE.out.bsize hap ?_
                   intro v13 w13 ho hb hg hat
                   obtain ⟨g2, c2, hv13⟩ := pair_some ho (by simp)
                   rw [List.length_append, slst_len] at hv13
                   rw [← slst_snoc] at ho
                   have hv13' : v13 = .slice (some ⟨g2, 0, none⟩) (s.N + 1) c2 := hv13
                   obtain ⟨HF2, HF1⟩ := HW13 w13 v13 g2 c2 hv13' (HE.out.app 8 rfl rfl ho hg hat)
                   subst hv13'
                   have hy3 : (w13.setCell ⟨g, 3, none⟩ (.slice (some ⟨g2, 0, none⟩) (s.N + 1) c2)).cell? ⟨g, 3, none⟩ = some (.slice (some ⟨g2, 0, none⟩) (s.N + 1) c2) := (blk_cell (HF1.out.get 4 rfl) 3).trans rfl
                   have hyg : w13.cell? ⟨g, 3, none⟩ = some (.slice (some ⟨gs', 0, none⟩) s.N cs') := cell_grown hx3 hg (fun e => by injection e with e; exact HE.out.sep.apart (i := 4) (j := 8) rfl rfl (by decide) (k := g) rfl (by rw [e]; rfl))
                   have hyf : w13.frozen? ⟨g, 3, none⟩ = false := by have := blk_frozen (HF1.out.get 4 rfl) 3; simpa using this
                   have hzc : (w13.setCell ⟨g, 3, none⟩ (.slice (some ⟨g2, 0, none⟩) (s.N + 1) c2)).cell? ⟨g2, c * 2, none⟩ = some (.int .i64 ((upd A' s.N (A' c)) c : Nat)) := (pair_cells (HF1.out.get 8 rfl) c _ (slst_get _ _ (by have := HCN.out; omega))).1
                   have hzf : w13.frozen? ⟨g2, c * 2, none⟩ = false := by have := (pair_cells (HF1.out.get 8 rfl) c _ (slst_get _ _ (by have := HCN.out; omega))).2.2; simpa using this
                   have hrw : ((w13.setCell ⟨g, 3, none⟩ (.slice (some ⟨g2, 0, none⟩) (s.N + 1) c2)).setCell ⟨g2, c * 2, none⟩ (.int .i64 (q : Int))).cell? ⟨g, 0, none⟩ = some (.slice (some ⟨gr, 0, none⟩) n cr) := (blk_cell (HF2.out.get 4 rfl) 0).trans rfl
                   clear ho hb hg hat hv13 hx3 HW13 hap))
                clear hy3 hyg hyf hzc hzf hrw HF1 hlk
                generalize World.setCell (World.setCell w13 _ _) _ _ = w15 at HF2 ⊢
                go_loopw [162] (fun v162 wr => ∃ (x : Nat) (Cx : Nat → Nat), v162 = .int .i64 (x : Int) ∧ Aside0 (x ≤ q - A' c) ∧ Aside0 (∀ i, i < n → Cx i = if A' c ≤ P i ∧ P i < A' c + x then s.N else s.C i) ∧ Aside0 (Hold base own w (spl base g n (s.N + 1) Cx R P (upd (upd A' s.N (A' c)) c q) (upd B' s.N q) gr cr gp cp gc g2 c2 mv (.slice (some adt) T.length ct) (tl s.made) (tl T') gd D gm es) wr)) (fun v162 _ => (q - A' c) - (intOf v162).toNat)
                case atStart => exact ⟨0, s.C, rfl, ⟨Nat.zero_le _⟩, ⟨fun i hi => by rw [if_neg (by omega)]⟩, HF2⟩
                case round =>
                  clear HF2
                  obtain ⟨x, Cx, rfl, HXI, HCX, HO⟩ := hrel
                  by_cases hx : x < q - A' c
                  · have HX := Aside0.mk hx
                    have hx' : (x : Int) < ((q - A' c : Nat) : Int) := by omega
                    have hqn : q ≤ 65536 := by have := HQB.out; omega
                    have hpn : A' c + x < n := by have := HQB.out; omega
                    have hpi := HPT.out.1.inv.pi (A' c + x) hpn
                    have HIP := Aside0.mk HPT.out.1.inv.ip
                    have hxr := row_cell (HO.out.get 5 rfl) hpn
                    generalize hRi : R (A' c + x) = i at hpi hxr
                    have HRI := Aside0.mk hRi
                    have HPI := Aside0.mk hpi
                    have hi1 : (i : Int) < (n : Int) := by omega
                    have hi2 : 0 ≤ (i : Int) := by omega
                    have hx2 : wr.cell? ⟨g, 2, none⟩ = some (.slice (some ⟨gc, 0, none⟩) n n) := (blk_cell (HO.out.get 4 rfl) 2).trans rfl
                    have hcc := lst_cell (HO.out.get 7 rfl) hpi.1
                    have hfz := blk_frozen (HO.out.get 7 rfl) i
                    clear hx hpn hpi hRi
                    go_wp2
                    go_roundw
                    case rel =>
                      refine ⟨x + 1, upd Cx i s.N, by go_num, ⟨by have := HX.out; have := HQB.out; omega⟩, ⟨fun k hk => ?_⟩, ⟨HO.out.cell 7 rfl i _ (lstA_set Cx HPI.out.1 s.N)⟩⟩
                      have h1 := HPI.out.2
                      by_cases e : k = i
                      · rw [e, upd_at, if_pos (by omega)]
                      · have h2 : P k ≠ A' c + x := fun h => e (by rw [← (HIP.out k hk).2, h, HRI.out])
                        rw [upd_ne _ _ e, HCX.out k hk]
                        by_cases h3 : A' c ≤ P k ∧ P k < A' c + x
                        · rw [if_pos h3, if_pos (by omega)]
                        · rw [if_neg h3, if_neg (by omega)]
                    case measure => have := HX.out; have := HQB.out; simp [intOf]; omega
                  · have hx' : ¬ ((x : Int) < ((q - A' c : Nat) : Int)) := by omega
                    have hxe : A' c + x = q := by have := HXI.out; have := HQB.out; omega
                    have hC : lst n Cx = lst n (cutOf n C D c s).C := lst_congr (fun k hk => by
                      rw [HCX.out k hk, HPT.out.2.1, hxe]
                      have h3 := HPT.out.2.2 k hk
                      rw [HQ.out] at h3
                      show _ = if C k = c ∧ D k = true then s.N else s.C k
                      by_cases h4 : A' c ≤ P k ∧ P k < q
                      · rw [if_pos h4, if_pos (h3.2 h4)]
                      · rw [if_neg h4, if_neg (fun h => h4 (h3.1 h))])
                    have HO2 : Aside0 (Hold base own w (spl base g n (s.N + 1) (cutOf n C D c s).C R P (upd (upd A' s.N (A' c)) c q) (upd B' s.N q) gr cr gp cp gc g2 c2 mv (.slice (some adt) T.length ct) (tl s.made) (tl T') gd D gm es) wr) := ⟨by have h := HO.out; unfold spl at h ⊢; rw [← hC]; exact h⟩
                    have HMB : Aside0 (((tl s.made).length + 1) * 8 ≤ 140737488355328) := ⟨by have h1 := HCU.out.ml; have h2 := HSB.out; rw [tl_len]; omega⟩
                    clear HO hx hxe hC HXI HCX
                    go_wp2_with (first
                    | ((with_reducible refine gate_builtin (b := .append) (xs := #[.tmp 174, .tmp 176]) rfl ?_)
                       at_builtin
                       refine Kd.R_append (Kd.int .i64) (w0 := w) base rfl (.tmp 174) (.tmp 176) 22 3 (.int .i64 0) 8 rfl Try.underlying22 info3 rfl (by decide) (by omega) mv (tl s.made) (s.N : Int) [.int .i64 (s.N : Int)] (fun _ => True) (fun _ => False) rfl rfl rfl (fun _ hk => hk.elim) (fun _ _ => trivial) (Kd.R_mono (HO2.out.get 0 rfl) (fun _ _ => trivial)) HO2.out.below HO2.out.bsize HMB.out ?_
                       intro v8 w8 ho hb hg hat
                       have HO9 : Aside0 (Hold base own w (spl base g n (s.N + 1) (cutOf n C D c s).C R P (upd (upd A' s.N (A' c)) c q) (upd B' s.N q) gr cr gp cp gc g2 c2 v8 (.slice (some adt) T.length ct) (tl (s.made ++ [s.N])) (tl T') gd D gm es) w8) := ⟨by rw [tl_snoc]; exact HO2.out.app 0 rfl rfl ho hg hat⟩
                       clear ho hb hg hat))
                    have HEQ2 : Aside0 (cuts n C D (T'.drop (j + 1)) (cutOf n C D c s) = cuts n C D T' ⟨C, N, []⟩) := ⟨HEQ.out⟩
                    go_roundw
                    case rel =>
                      refine ⟨j + 1, cutOf n C D c s, (upd (upd A' s.N (A' c)) c q), (upd B' s.N q), g2, c2, _, by go_num, rfl, ⟨by have := HJ.out; omega⟩, ⟨by have h := HPT.out.1; rw [HQ.out] at h; exact h⟩, HEQ2, ⟨?_⟩⟩
                      have h := HO9.out
                      have e1 : (cutOf n C D c s).N = s.N + 1 := by rw [HPT.out.2.1]
                      have e2 : (cutOf n C D c s).made = s.made ++ [s.N] := by rw [HPT.out.2.1]
                      rw [e1, e2]
                      exact h
                    case measure => have := HJ.out; simp [intOf]; omega
            · have hj' : ¬ ((j : Int) < (T.length : Int)) := by omega
              have hje : j = T.length := by have := HJI.out; omega
              have HS : Aside0 (s = cuts n C D T' ⟨C, N, []⟩) := ⟨by have h := HEQ.out; rw [List.drop_of_length_le (by rw [HTL.out]; omega)] at h; exact h⟩
              have HAN := Aside0.mk (HMK2.out.answers HTP.out HTS.out)
              have HFIN : Aside0 (∃ own' : Nat → Prop, Hold base own w [ints base mv (tl (splitOf n C N l).made), partM base own' g n (splitOf n C N l).N (splitOf n C N l).C N C] wr) := ⟨by
                have h0 := (HO.out.sub (rs' := [ints base mv (tl s.made)] ++ pcs base g n s.N s.C R P A' B' gr cr gp cp gc gs' cs') (.cons_cons _ (.cons _ (.cons _ (.cons _ (List.Sublist.refl _))))))
                have h1 := h0.pack HCU.out.inv
                have hM : (partM base (fun k => ∃ r ∈ pcs base g n s.N s.C R P A' B' gr cr gp cp gc gs' cs', r.own k) g n s.N s.C N C).at_ wr := ⟨R, P, A', B', gr, cr, gp, cp, gc, gs', cs', ⟨HCU.out.inv, HCU.out.beh⟩, h0.sep.sub (List.sublist_append_right _ _), fun r hr k hk => ⟨r, hr, hk⟩⟩
                have hs := HS.out
                have h2 := HAN.out
                rw [← hs] at h2
                rw [h2.2.1] at h1
                have hM2 := partM_congr h2.2.2 hM
                generalize (fun k => ∃ r ∈ pcs base g n s.N s.C R P A' B' gr cr gp cp gc gs' cs', r.own k) = own2 at h1 hM2
                rw [h2.1] at h1 hM2
                refine ⟨_, h1.upd 1 rfl hM2 (fun _ _ _ => rfl) (fun k hk => ⟨.inl hk, (h1.sep.bound 1 rfl hk).2⟩) (Nat.le_refl _) h1.below⟩⟩
              clear HO HEQ HCU hj
              go_wp2
              go_ret2
              obtain ⟨own', hfin⟩ := HFIN.out
              exact ⟨mv, rfl, own', hfin⟩
end Go.Proofs.Ytdalpaobkmoomaa.X
end

section
namespace Go.Proofs.Ytdalpaobkmoomaa.X
open Go.RowKit Go.Proofs.YtdalpaobkmoomaaW.PrintWords Go.Proofs.YtdalpaobkmoomaaW.PrintLast Go.Proofs.YtdalpaobkmoomaaW.PrintMore
open Go.Proofs.Ytdalpaobkmoomaa Go.Proofs.Ytdalpaobkmoomaa.Sp
theorem ints_some {w : World} {base : Nat} {ok : Nat → Prop} {v : Value} {xs : List Int} (h : Kd.R (Kd.int .i64) 3 w base ok v xs) (hn : xs ≠ []) : ∃ g c, v = .slice (some ⟨g, 0, none⟩) xs.length c := by
  rcases (Kd.own_of_R h).2 with ⟨rfl, h0⟩ | ⟨g, cap, cur, rfl, _⟩
  · exact absurd (List.eq_nil_of_length_eq_zero h0) hn
  · exact ⟨g, cap, rfl⟩
theorem reps_one_pair {w : World} {base : Nat} {ok : Nat → Prop} (p : Int × Int) : Reps (kpair.M w base ok) kpair.sz [p] (pairC p) := by
  refine ⟨rfl, fun j q hj => ?_⟩
  cases j with
  | zero =>
    simp only [List.getElem?_cons_zero, Option.some.injEq] at hj
    subst hj
    show List.take 2 (List.drop (0 * 2) (pairC p)) = pairC p
    rfl
  | succ j => simp at hj
def npl (base g n i : Nat) (vr vp vs : Value) (gc : Nat) : List Res :=
  [blk g #[vr, vp, .slice (some ⟨gc, 0, none⟩) n n, vs] 64, ints base vr (lst i fun i => i), ints base vp (lst i fun i => i), blk gc (numsA (lst n fun _ => 0)) 3, pairs base vs (slst 1 (fun _ => 0) (fun _ => n))]
theorem New_many (n : Int) (w : World) (h : n > 65536) : Calls Try.prog 10 #[.int .i64 n] w fun e w' => e = .returned (.tuple #[.pointer none, .int .i64 3]) ∧ Below w.heap.size w w' := by
  have h1 : ¬ n < 1 := by omega
  go_enter Try.func10, Try.ntmps10
  go_wp2
  try rw [Exit.noGoto_ret]
  go_ret2
  exact ⟨rfl, Below.refl _ _⟩
attribute [local go_sem] max2_int min2_int max_two min_two max_three min_three max_four min_four
set_option maxHeartbeats 16000000 in
set_option maxRecDepth 100000 in
theorem New_walk (n : Nat) (w : World) (hn0 : 0 < n) (hn : n ≤ 65536) :
    Calls Try.prog 10 #[.int .i64 (n : Int)] w fun e w' => ∃ (g : Nat) (own : Nat → Prop), e = .returned (.tuple #[.pointer (some ⟨g, 0, none⟩), .int .i64 0]) ∧ Sep w.heap.size [part w.heap.size own g n 1 (fun _ => 0)] w' ∧ Below w.heap.size w w' := by
  have hu64 := Try.underlying64
  have hu22 := Try.underlying22
  have hu61 := Try.underlying61
  have hu62 := Try.underlying62
  have h1 : ¬ (n : Int) < 1 := by omega
  have h2 : ¬ (n : Int) > 65536 := by omega
  have hni : ((n : Int)).toNat = n := Int.toNat_natCast n
  have H0 : Aside0 (Hold w.heap.size (fun _ => False) w [none_, none_, none_, none_, none_] w) := ⟨Hold.start (Sep.start w.heap.size 5 w) (fun r hr k hk => by have e : r = none_ := List.eq_of_mem_replicate (n := 5) hr; rw [e] at hk; exact hk.elim) (Nat.le_refl _)⟩
  go_enter Try.func10, Try.ntmps10
  go_wp2_with (first
  | ((with_reducible refine gate_dst (N := 13) rfl ?_)
     refine fresh_make Try.underlying22 info3 rfl (by decide) (by decide) rfl rfl rfl (by omega) (by omega) ?_
     intro w1 hg1 hb1 hz1
     rw [made_nums, Int.toNat_natCast] at hg1
     have H1 := Aside0.mk (H0.out.fillBlk 3 rfl rfl hg1 hb1)
     clear hg1 hb1 hz1)
  | ((with_reducible refine gate_dst (N := 16) rfl ?_)
     refine Kd.R_lit kpair (w0 := w1) w1.heap.size 61 rfl (N := 16) rfl (xs := [((0 : Int), (n : Int))]) (inner := pairC (0, (n : Int))) (ok := fun _ => True) (okp := fun _ => True) ?hr ?hp (fun _ hk => hk) trivial (Below.refl _ _) (Nat.le_refl _) (by simp) ?_
     (case hr => exact exec_one_pair rfl rfl _)
     (case hp => exact reps_one_pair _)
     intro v7 w7 ho7 hb7 hg7 hnew7
     obtain ⟨gs, cs, hv7⟩ := pair_some ho7 (by simp)
     have hv7' : v7 = .slice (some ⟨gs, 0, none⟩) 1 cs := hv7
     subst hv7'
     clear hv7
     have H2 := Aside0.mk (H1.out.fillRow 4 rfl rfl ho7 hb7)
     clear ho7 hb7 hg7 hnew7))
  have H3 := Aside0.mk ((H2.out.fillBlk 0 rfl rfl (blk_new w7 (.cells #[.slice none 0 0, .slice none 0 0, .slice (some ⟨w.heap.size, 0, none⟩) n n, .slice (some ⟨gs, 0, none⟩) 1 cs] 64)) (below_alloc (Below.refl _ _) _)).fillNil 1 rfl (Kd.int .i64) 3 |>.fillNil 2 rfl (Kd.int .i64) 3)
  generalize hgq : w7.heap.size = g at H3 ⊢
  generalize hwq : w7.alloc (.cells #[.slice none 0 0, .slice none 0 0, .slice (some ⟨w.heap.size, 0, none⟩) n n, .slice (some ⟨gs, 0, none⟩) 1 cs] 64) = w9 at H3 ⊢
  clear hgq hwq H0 H1 H2
  generalize hgc : w.heap.size = gc at H3 ⊢
  go_loopw [20] (fun v20 wr => ∃ (i : Nat) (vr vp : Value), v20 = .int .i64 (i : Int) ∧ Aside0 (i ≤ n) ∧ Aside0 (Hold gc (fun _ => False) w (npl gc g n i vr vp (.slice (some ⟨gs, 0, none⟩) 1 cs) gc) wr)) (fun v20 _ => n - (intOf v20).toNat)
  case atStart => exact ⟨0, .slice none 0 0, .slice none 0 0, rfl, ⟨by omega⟩, ⟨H3.out⟩⟩
  case round =>
    clear H3
    obtain ⟨i, vr, vp, rfl, HI, HO⟩ := hrel
    by_cases hi : i < n
    · have HIN := Aside0.mk hi
      have hi' : (i : Int) < (n : Int) := by omega
      have hx0 : wr.cell? ⟨g, 0, none⟩ = some vr := (blk_cell (HO.out.get 0 rfl) 0).trans rfl
      have hlb : ((lst i fun i => i).length + 1) * 8 ≤ 140737488355328 := by rw [lst_len]; omega
      clear hi
      go_wp2_with (first
      | ((with_reducible refine gate_builtin (b := .append) (xs := #[.tmp 37, .tmp 39]) rfl ?_)
         at_builtin
         refine Kd.R_append (Kd.int .i64) (w0 := w) gc rfl (.tmp 37) (.tmp 39) 22 3 (.int .i64 0) 8 rfl Try.underlying22 info3 rfl (by decide) (by omega) vp (lst i fun i => i) (i : Int) [.int .i64 (i : Int)] (fun _ => True) (fun _ => False) rfl (by simp [Act.eval]) rfl (fun _ hk => hk.elim) (fun _ _ => trivial) (Kd.R_mono (HA2.out.get 2 rfl) (fun _ _ => trivial)) HA2.out.below HA2.out.bsize hlb ?_
         intro v9 w9 ho hb hg hat
         obtain ⟨A9, c9, hv⟩ := Kd.R_slice ho
         rw [List.length_append, lst_len] at hv
         have hv' : v9 = .slice A9 (i + 1) c9 := hv
         subst hv'
         clear hv
         have HC := Aside0.mk (HA2.out.app 2 rfl rfl ho hg hat)
         have hyg : w9.cell? ⟨g, 1, none⟩ = some vp := (blk_cell (HC.out.get 0 rfl) 1).trans rfl
         have hyf := blk_frozen (HC.out.get 0 rfl) 1
         have HC2 := Aside0.mk (HC.out.cell 0 rfl 1 (.slice A9 (i + 1) c9) rfl)
         clear ho hb hg hat)
      | ((with_reducible refine gate_builtin (b := .append) (xs := #[.tmp 27, .tmp 29]) rfl ?_)
         at_builtin
         refine Kd.R_append (Kd.int .i64) (w0 := w) gc rfl (.tmp 27) (.tmp 29) 22 3 (.int .i64 0) 8 rfl Try.underlying22 info3 rfl (by decide) (by omega) vr (lst i fun i => i) (i : Int) [.int .i64 (i : Int)] (fun _ => True) (fun _ => False) rfl (by simp [Act.eval]) rfl (fun _ hk => hk.elim) (fun _ _ => trivial) (Kd.R_mono (HO.out.get 1 rfl) (fun _ _ => trivial)) HO.out.below HO.out.bsize hlb ?_
         intro v8 w8 ho hb hg hat
         obtain ⟨A8, c8, hv⟩ := Kd.R_slice ho
         rw [List.length_append, lst_len] at hv
         have hv' : v8 = .slice A8 (i + 1) c8 := hv
         subst hv'
         clear hv
         have HA := Aside0.mk (HO.out.app 1 rfl rfl ho hg hat)
         have hyg : w8.cell? ⟨g, 0, none⟩ = some vr := (blk_cell (HA.out.get 0 rfl) 0).trans rfl
         have hyf := blk_frozen (HA.out.get 0 rfl) 0
         have HA2 := Aside0.mk (HA.out.cell 0 rfl 0 (.slice A8 (i + 1) c8) rfl)
         have hx1 : (w8.setCell ⟨g, 0, none⟩ (.slice A8 (i + 1) c8)).cell? ⟨g, 1, none⟩ = some vp := (blk_cell (HA2.out.get 0 rfl) 1).trans rfl
         clear ho hb hg hat hx0))
      go_roundw
      case rel =>
        refine ⟨i + 1, .slice A8 (i + 1) c8, .slice A9 (i + 1) c9, by go_num, ⟨by have := HIN.out; omega⟩, ⟨?_⟩⟩
        have h := HC2.out
        unfold npl
        rw [lst_succ]
        exact h
      case measure => have := HIN.out; simp [intOf]; omega
    · have hi' : ¬ ((i : Int) < (n : Int)) := by omega
      have hie : i = n := by have := HI.out; omega
      subst hie
      obtain ⟨gr, cr, hvr⟩ := ints_some (HO.out.get 1 rfl) (by intro h; have h2 := lst_len i fun i => i; rw [h] at h2; simp at h2; omega)
      obtain ⟨gp, cp, hvp⟩ := ints_some (HO.out.get 2 rfl) (by intro h; have h2 := lst_len i fun i => i; rw [h] at h2; simp at h2; omega)
      rw [lst_len] at hvr hvp
      have HFIN : Aside0 (∃ own : Nat → Prop, Sep gc [part gc own g i 1 (fun _ => 0)] wr ∧ Below gc w wr) := ⟨by
        have h1 := HO.out
        unfold npl at h1
        rw [hvr, hvp] at h1
        have h2 := (Hold.pack (ms := []) h1 (inv_new (by omega))).sep
        exact ⟨_, h2, HO.out.below⟩⟩
      clear hi HO hvr hvp
      go_wp2
      go_ret2
      obtain ⟨own, hfin⟩ := HFIN.out
      exact ⟨g, rfl, ⟨own, hfin.1⟩, hfin.2⟩
end Go.Proofs.Ytdalpaobkmoomaa.X
end
