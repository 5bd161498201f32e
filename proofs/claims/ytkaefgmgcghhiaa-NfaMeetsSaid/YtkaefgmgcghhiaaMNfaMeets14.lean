/- Texts of the statement NfaMeets, one behind the other: Go functions as Lean functions, the machine's calls, the plain law. -/
import Derived.Test.YtkaefgmgcghhiaaMNfaMeets4
import Derived.Test.YtkaefgmgcghhiaaMNfaMeets5
import Derived.Test.YtkaefgmgcghhiaaMNfaMeets6
import Derived.Test.YtkaefgmgcghhiaaMNfaMeets9
import Derived.Test.YtkaefgmgcghhiaaMNfaMeets13
import Derived.Carry
set_option linter.unusedVariables false
set_option linter.unusedSimpArgs false
section
namespace Go.Proofs.Ytkaefgmgcghhiaa.X
open Go.RowKit Go.Proofs.YtkaefgmgcghhiaaW.PrintWords Go.Proofs.YtkaefgmgcghhiaaW.PrintLast Go.Proofs.YtkaefgmgcghhiaaW.PrintMore
def detIn (k : Nat) (N : Int) (fr : List (List S80)) (s : List Nat) : List Nat → List (List Nat) → List Int → Option (Option (List (List Nat) × List Int))
  | [], row, nx => some (some (row, nx))
  | x :: r, row, nx => match stepF k N fr s (x : Int) with
    | none => none
    | some t => if nx.length < 1099511627776 then (match row.findIdx? (· == t) with
      | some j => detIn k N fr s r row (nx ++ [(j : Int)])
      | none => if row.length = 1024 then some none else detIn k N fr s r (row ++ [t]) (nx ++ [(row.length : Int)])) else none
def detF (k : Nat) (K N : Int) (F : List Int) (fr : List (List S80)) : Nat → Nat → List (List Nat) → List Int → List Int → Option (Option (List (List Nat) × List Int × List Int))
  | 0, _, _, _, _ => none
  | q + 1, i, row, nx, out => if i < row.length then (if out.length < 1099511627776 then (match detIn k N fr (row.getD i []) (List.range K.toNat) row nx with
    | none => none
    | some none => some none
    | some (some (row1, nx1)) => detF k K N F fr q (i + 1) row1 nx1 (out ++ [fiRow (row.getD i []) F 0])) else none) else some (some (row, nx, out))
def detG (k : Nat) (K N : Int) (S F : List Int) (E : List S80) : Option (Int × Int × Int × Int × List Int × List Int × Int) :=
  if (nfa_Check.g K N S F E).2 ≠ 0 then some (0, 0, 0, 0, [], [], (nfa_Check.g K N S F E).2) else
  match startF k N (rowsOf N.toNat E) S with
  | none => none
  | some s => match detF k K N F (rowsOf N.toNat E) k 0 [s] [] [] with
    | none => none
    | some none => some (0, 0, 0, 0, [], [], 3)
    | some (some (row, nx, out)) => some (1, K, 2, (row.length : Int), nx, out, 0)
theorem look_some {row : List (List Nat)} (hrow : ∀ s ∈ row, IsSet s) (hnd : row.Nodup) {t : List Nat} (ht : IsSet t) {j : Nat} (hj : row.findIdx? (· == t) = some j) {w : World} {b : Nat} (hp : PlaceAt w b row) :
    (Instr.lookup 92 (.map (some b)) (.agg (wordsOf t).toArray) true).run Try.prog w = .ok (.tuple #[.int .i64 (j : Int), .bool true]) w := by
  obtain ⟨hjl, hjt, _⟩ := List.findIdx?_eq_some_iff_getElem.1 hj
  have hjt' : row[j] = t := by simpa using hjt
  rcases place_lookup hrow ht hp with ⟨_, h2⟩ | ⟨i, h1, h2⟩
  · exact absurd (hjt' ▸ List.getElem_mem hjl) h2
  · obtain ⟨hil, hit⟩ := List.getElem?_eq_some_iff.1 h2
    have : i = j := (List.getElem_inj hnd).1 (hit.trans hjt'.symm)
    rw [h1, this]
theorem look_none {row : List (List Nat)} (hrow : ∀ s ∈ row, IsSet s) {t : List Nat} (ht : IsSet t) (hj : row.findIdx? (· == t) = none) {w : World} {b : Nat} (hp : PlaceAt w b row) :
    (Instr.lookup 92 (.map (some b)) (.agg (wordsOf t).toArray) true).run Try.prog w = .ok (.tuple #[.int .i64 0, .bool false]) w := by
  rcases place_lookup hrow ht hp with ⟨h1, _⟩ | ⟨i, _, h2⟩
  · exact h1
  · have := List.findIdx?_eq_none_iff.1 hj t (List.mem_of_getElem? h2)
    simp at this
theorem not_mem_of_none {row : List (List Nat)} {t : List Nat} (hj : row.findIdx? (· == t) = none) : t ∉ row := fun hm => by
  have := List.findIdx?_eq_none_iff.1 hj t hm
  simp at this
/-- A store into that map, at the operation. -/
theorem wpList_place_put {w : World} {ops : Array Oper} {rest : List Oper} {o : Oper} {a : Act} {Q : Exit → Act → World → Prop} {row : List (List Nat)} {t : List Nat} {b : Nat} (hg : o.guard = none) (m x v : Operand)
    (hop : o.op = .insert 92 m x v ∨ o.op = .mapUpdate 92 m x v) (hm : a.eval m = .map (some b)) (hx : a.eval x = .agg (wordsOf t).toArray) (hv : a.eval v = .int .i64 (row.length : Int)) (hd : o.dst = none)
    (hrow : ∀ s ∈ row, IsSet s) (ht : IsSet t) (hnew : t ∉ row) (hp : PlaceAt w b row)
    (h : ∀ w', PlaceAt w' b (row ++ [t]) → w.grownBy w' (some b) → wpList Try.prog ops Q rest a w') : wpList Try.prog ops Q (o :: rest) a w := by
  obtain ⟨w', h1, h2, h3⟩ := place_put hrow ht hnew hp
  refine wpList_plain hg fun K hK => ?_
  have hrun : (execOp a.eval o).run Try.prog w = .ok .skip w' := by
    unfold execOp
    rcases hop with hop | hop
    · simp [hop, hm, hx, hv, h1, Result.andThen]
    · simp [hop, hm, hx, hv, h1, Result.andThen]
  unfold Oper.wp
  rw [hrun]
  show K (a.put o.dst undef) w'
  rw [hd]
  exact hK _ _ (h w' h2 h3)
/-- A literal of one set. -/
theorem run_one_set (W : World) {s : List Nat} (hs : IsSet s) : (Instr.buildSlice 93 1 #[(0, .agg (wordsOf s).toArray)]).run Try.prog W = .ok (.slice (some ⟨W.heap.size, 0, none⟩) 1 1) (W.alloc (.cells (wordsOf s).toArray 88)) := by
  cases hi : Try.prog.info? 88 with
  | none => have := info88; rw [hi] at this; cases this
  | some ie =>
    have h88 := info88
    rw [hi] at h88
    simp only [Option.map_some, Option.some.injEq, Prod.mk.injEq] at h88
    refine run_buildSlice W 93 88 1 _ _ ie _ Try.underlying93 hi h88.1 (by rw [h88.2]; decide) (by rw [h88.2]; decide) ?_
    rw [h88.2]
    have h := Great.fill_whole (s := 16) (by decide) [.agg (wordsOf s).toArray] ((Array.range (1 * 16)).map ((Value.agg (Array.replicate 16 (.int .u64 0))).cells[· % (Value.agg (Array.replicate 16 (.int .u64 0))).cells.size]!)) (by
      intro v hv
      simp only [List.mem_singleton] at hv
      subst hv
      exact set_len hs) (by simp)
    simpa [Value.cells] using h
theorem exec_one_set {a : Act} {o : Oper} {x : Operand} {s : List Nat} (ho : o.op = .buildSlice 93 1 #[(0, x)]) (hx : a.eval x = .agg (wordsOf s).toArray) (hs : IsSet s) (W : World) :
    (execOp a.eval o).run Try.prog W = .ok (.value (.slice (some ⟨W.heap.size, 0, none⟩) 1 1)) (W.alloc (.cells (wordsOf s).toArray 88)) := by
  unfold execOp
  simp [ho, hx, run_one_set W hs, Result.andThen]
theorem reps_one_set {w : World} {base : Nat} {ok : Nat → Prop} {s : List Nat} (hs : IsSet s) : Reps (kset.M w base ok) kset.sz [s] (wordsOf s) := by
  have hl : (wordsOf s).length = 16 := by simp [wordsOf, hs.1]
  refine ⟨by rw [hl]; rfl, fun j p hj => ?_⟩
  cases j with
  | zero =>
    simp only [List.getElem?_cons_zero, Option.some.injEq] at hj
    subst hj
    refine ⟨hs, ?_⟩
    show List.take 16 (List.drop (0 * 16) (wordsOf s)) = wordsOf s
    rw [Nat.zero_mul, List.drop_zero, List.take_of_length_le (by omega)]
  | succ j => simp at hj
end Go.Proofs.Ytkaefgmgcghhiaa.X
end

section
namespace Go.Proofs.Ytkaefgmgcghhiaa.X
open Go.RowKit Go.Proofs.YtkaefgmgcghhiaaW.PrintWords Go.Proofs.YtkaefgmgcghhiaaW.PrintLast Go.Proofs.YtkaefgmgcghhiaaW.PrintMore
structure DetAt (w0 : World) (mb M : Nat) (K : Int) (pr row : List (List Nat)) (rv : Value) (nx : List Int) (nxv : Value) (out : List Int) (outv : Value) (w : World) : Prop where
  place : PlaceAt w mb pr
  row : Kd.R kset 88 w w0.heap.size (fun _ => True) rv row
  m : w.heap[M]? = some (.cells #[.int .i64 1, .int .i64 K, .int .i64 2, .int .i64 0, nxv, outv] 43 (0, 0))
  nx : Kd.R (Kd.int .i64) 3 w w0.heap.size (fun _ => True) nxv nx
  out : Kd.R (Kd.int .i64) 3 w w0.heap.size (fun _ => True) outv out
  apart : ∀ k, nxv.ownBlock = some k → outv.ownBlock ≠ some k
  below : Below w0.heap.size w0 w
  hmb : w0.heap.size ≤ mb
  hM : w0.heap.size ≤ M
theorem R_typed {α : Type} {d : Kd α} {e : Nat} {w : World} {base : Nat} {ok : Nat → Prop} {v : Value} {xs : List α} (h : d.R e w base ok v xs) (k : Nat) (hk : v.ownBlock = some k) : ∃ cells, w.heap[k]? = some (.cells cells e (0, 0)) := by
  obtain ⟨inner, ho⟩ := Kd.R_own h
  exact own_typed ho k hk
theorem R_R_ne {α β : Type} {d : Kd α} {d' : Kd β} {e e' : Nat} {w : World} {base base' : Nat} {ok ok' : Nat → Prop} {v v' : Value} {xs : List α} {ys : List β} (h : d.R e w base ok v xs) (h' : d'.R e' w base' ok' v' ys) (hne : e ≠ e') (k : Nat) (hk : v.ownBlock = some k) : some k ≠ v'.ownBlock := by
  intro he
  obtain ⟨c, h1⟩ := R_typed h k hk
  obtain ⟨c', h2⟩ := R_typed h' k he.symm
  rw [h1] at h2
  simp only [Option.some.injEq, Obj.cells.injEq] at h2
  exact hne h2.2.1
theorem place_R_ne {α : Type} {d : Kd α} {e : Nat} {w : World} {base : Nat} {ok : Nat → Prop} {v : Value} {xs : List α} {b : Nat} {row : List (List Nat)} (hp : PlaceAt w b row) (h : d.R e w base ok v xs) : some b ≠ v.ownBlock := by
  intro he
  obtain ⟨c, h1⟩ := R_typed h b he.symm
  unfold PlaceAt at hp
  rw [hp] at h1
  cases h1
theorem place_blk_ne {w : World} {b g t : Nat} {cs : Array Value} {row : List (List Nat)} (hp : PlaceAt w b row) (h : w.heap[g]? = some (.cells cs t (0, 0))) : b ≠ g := by
  rintro rfl
  unfold PlaceAt at hp
  rw [hp] at h
  cases h
theorem PlaceAt.grown {w w1 : World} {b : Nat} {row : List (List Nat)} {r : Option Nat} (hp : PlaceAt w b row) (hg : w.grownBy w1 r) (hne : some b ≠ r) : PlaceAt w1 b row := blk_grown hp hg hne
theorem PlaceAt.far {w : World} {b : Nat} {row : List (List Nat)} (hp : PlaceAt w b row) {p : Addr} (hne : b ≠ p.block) (u : Value) : PlaceAt (w.setCell p u) b row := (Below.heap_setCell w p u b hne).trans hp
theorem DetAt.low {w0 w w1 : World} {mb M : Nat} {K : Int} {pr row : List (List Nat)} {rv nxv outv : Value} {nx out : List Int} (h : DetAt w0 mb M K pr row rv nx nxv out outv w) (hb : Below w.heap.size w w1) : DetAt w0 mb M K pr row rv nx nxv out outv w1 :=
  ⟨blk_below h.place hb, Kd.R_below h.row hb, blk_below h.m hb, Kd.R_below h.nx hb, Kd.R_below h.out hb, h.apart, below_then h.below h.below.size hb, h.hmb, h.hM⟩
theorem R_after {α : Type} {d : Kd α} {e : Nat} {w w1 : World} {base M j : Nat} {v v1 : Value} {xs : List α} (h : d.R e w base (fun _ => True) v xs) (hE : d.E = []) {row : Option Nat} (hg : w.grownBy w1 row) (hne : ∀ k, row = some k → some k ≠ v.ownBlock) (hM : some M ≠ v.ownBlock) : d.R e (w1.setCell ⟨M, j, none⟩ v1) base (fun _ => True) v xs := by
  have h1 := Kd.R_grown2 h hE hg hne
  exact Kd.R_mono (Kd.R_far (Kd.R_tight hE h1) (p := ⟨M, j, none⟩) (fun k hk he => hM (by rw [← hk]; show some M = some k; rw [he])) v1) (fun _ _ => trivial)
theorem DetAt.outAp {w0 w w1 : World} {mb M : Nat} {K : Int} {pr row : List (List Nat)} {rv nxv outv v1 : Value} {nx out out1 : List Int} (h : DetAt w0 mb M K pr row rv nx nxv out outv w)
    (hr : Kd.R (Kd.int .i64) 3 w1 w0.heap.size (fun _ => True) v1 out1) (hb : Below w0.heap.size w0 w1) (hg : w.grownBy w1 outv.ownBlock) (hat : v1.ownBlock = outv.ownBlock ∨ ∃ b, v1.ownBlock = some b ∧ w.heap.size ≤ b) :
    DetAt w0 mb M K pr row rv nx nxv out1 v1 (w1.setCell ⟨M, 5, none⟩ v1) := by
  have hMo : some M ≠ outv.ownBlock := Kd.R_ne h.out h.m (by decide)
  have hm1 := blk_grown h.m hg hMo
  refine ⟨(h.place.grown hg (place_R_ne h.place h.out)).far (place_blk_ne h.place h.m) _, R_after h.row rfl hg (fun k hk => R_R_ne h.out h.row (by decide) k hk) (Kd.R_ne h.row h.m (by decide)), blk_put hm1 5 v1 rfl,
    R_after h.nx rfl hg (fun k hk he => h.apart k he.symm hk) (Kd.R_ne h.nx h.m (by decide)), ?_, ?_, below_set hb h.hM, h.hmb, h.hM⟩
  · exact Kd.R_mono (Kd.R_far (Kd.R_tight rfl hr) (p := ⟨M, 5, none⟩) (fun k hk he => Kd.R_ne hr hm1 (by decide) (by rw [← hk]; show some M = some k; rw [he])) v1) (fun _ _ => trivial)
  · intro k hk he
    rcases hat with h1 | ⟨b, h1, h2⟩
    · rw [h1] at he; exact h.apart k hk he
    · rw [h1] at he
      have := Kd.R_lt h.nx k hk
      have hbk : b = k := by injection he
      omega
theorem DetAt.nextAp {w0 w w1 : World} {mb M : Nat} {K : Int} {pr row : List (List Nat)} {rv nxv outv v1 : Value} {nx out nx1 : List Int} (h : DetAt w0 mb M K pr row rv nx nxv out outv w)
    (hr : Kd.R (Kd.int .i64) 3 w1 w0.heap.size (fun _ => True) v1 nx1) (hb : Below w0.heap.size w0 w1) (hg : w.grownBy w1 nxv.ownBlock) (hat : v1.ownBlock = nxv.ownBlock ∨ ∃ b, v1.ownBlock = some b ∧ w.heap.size ≤ b) :
    DetAt w0 mb M K pr row rv nx1 v1 out outv (w1.setCell ⟨M, 4, none⟩ v1) := by
  have hMo : some M ≠ nxv.ownBlock := Kd.R_ne h.nx h.m (by decide)
  have hm1 := blk_grown h.m hg hMo
  refine ⟨(h.place.grown hg (place_R_ne h.place h.nx)).far (place_blk_ne h.place h.m) _, R_after h.row rfl hg (fun k hk => R_R_ne h.nx h.row (by decide) k hk) (Kd.R_ne h.row h.m (by decide)), blk_put hm1 4 v1 rfl,
    ?_, R_after h.out rfl hg (fun k hk he => h.apart k hk he.symm) (Kd.R_ne h.out h.m (by decide)), ?_, below_set hb h.hM, h.hmb, h.hM⟩
  · exact Kd.R_mono (Kd.R_far (Kd.R_tight rfl hr) (p := ⟨M, 4, none⟩) (fun k hk he => Kd.R_ne hr hm1 (by decide) (by rw [← hk]; show some M = some k; rw [he])) v1) (fun _ _ => trivial)
  · intro k hk he
    rcases hat with h1 | ⟨b, h1, h2⟩
    · rw [h1] at hk; exact h.apart k hk he
    · rw [h1] at hk
      have := Kd.R_lt h.out k he
      have hbk : b = k := by injection hk
      omega
theorem DetAt.placed {w0 w w1 : World} {mb M : Nat} {K : Int} {pr pr1 row : List (List Nat)} {rv nxv outv : Value} {nx out : List Int} (h : DetAt w0 mb M K pr row rv nx nxv out outv w) (hp : PlaceAt w1 mb pr1) (hg : w.grownBy w1 (some mb)) :
    DetAt w0 mb M K pr1 row rv nx nxv out outv w1 :=
  ⟨hp, Kd.R_grown2 h.row rfl hg (fun k hk => by injection hk with hk; rw [← hk]; exact place_R_ne h.place h.row), blk_grown h.m hg (fun he => place_blk_ne h.place h.m (by injection he with he; exact he.symm)),
    Kd.R_grown2 h.nx rfl hg (fun k hk => by injection hk with hk; rw [← hk]; exact place_R_ne h.place h.nx), Kd.R_grown2 h.out rfl hg (fun k hk => by injection hk with hk; rw [← hk]; exact place_R_ne h.place h.out),
    h.apart, pw_below_grown h.below (some mb) h.below.size hg (fun k hk => by injection hk with hk; rw [← hk]; exact h.hmb), h.hmb, h.hM⟩
theorem DetAt.rowAp {w0 w w1 : World} {mb M : Nat} {K : Int} {pr row row1 : List (List Nat)} {rv rv1 nxv outv : Value} {nx out : List Int} (h : DetAt w0 mb M K pr row rv nx nxv out outv w)
    (hr : Kd.R kset 88 w1 w0.heap.size (fun _ => True) rv1 row1) (hb : Below w0.heap.size w0 w1) (hg : w.grownBy w1 rv.ownBlock) : DetAt w0 mb M K pr row1 rv1 nx nxv out outv w1 :=
  ⟨h.place.grown hg (place_R_ne h.place h.row), hr, blk_grown h.m hg (Kd.R_ne h.row h.m (by decide)), Kd.R_grown2 h.nx rfl hg (fun k hk => R_R_ne h.row h.nx (by decide) k hk), Kd.R_grown2 h.out rfl hg (fun k hk => R_R_ne h.row h.out (by decide) k hk), h.apart, hb, h.hmb, h.hM⟩
end Go.Proofs.Ytkaefgmgcghhiaa.X
end

section
namespace Go.Proofs.Ytkaefgmgcghhiaa.X
open Go.RowKit Go.Proofs.YtkaefgmgcghhiaaW.PrintWords Go.Proofs.YtkaefgmgcghhiaaW.PrintLast Go.Proofs.YtkaefgmgcghhiaaW.PrintMore
open Go.Proofs.Ytkaefgmgcghhiaa
def pairC (p : Int × Int) : List Value := [.int .i64 p.1, .int .i64 p.2]
def penc (p : Int × Int) : Value := .agg #[.int .i64 p.1, .int .i64 p.2]
def IsPair (p : Int × Int) : Prop := (0 ≤ p.1 ∧ p.1 < 1099511627776) ∧ (0 ≤ p.2 ∧ p.2 < 1099511627776)
theorem penc_cells (p : Int × Int) : penc p = .agg (pairC p).toArray := rfl
theorem row107 : (107 : TypeId) < Try.prog.types.size := of_decide_eq_true (by kernel_rfl)
theorem wide107 : (match Try.prog.underlying 107 with | some (.array _ _) | some (.struct _) => true | _ => false) = true := by rw [Try.underlying107]
set_option maxRecDepth 100000 in
theorem law107 : WideMaps.KeyLaw Try.prog 107 := deep_law_laid laidOut (m := 2) (by omega) row107 (by kernel_rfl) wide107
theorem cells107 : Try.prog.cellsOf 107 = 2 := by kernel_rfl
theorem cells3 : Try.prog.cellsOf 3 = 1 := by kernel_rfl
theorem keyType107 : Try.prog.keyType 107 = true := by kernel_rfl
theorem lit_int {n : Int} (h : 0 ≤ n ∧ n < 1099511627776) (k : Nat) : Try.prog.keyLits (k + 1) 3 [.int .i64 n] = some [.int .i64 n] := by
  unfold Program.keyLits
  rw [Try.underlying3]
  refine if_pos ⟨rfl, ?_⟩
  simp [Lit.wf, IntKind.min, IntKind.max, IntKind.signed, IntKind.bits]
  omega
theorem pair_key {p : Int × Int} (h : IsPair p) : ∃ l, keyOf Try.prog 107 (penc p) = some l := by
  unfold keyOf
  rw [Try.underlying107]
  have hf : (penc p).formed Try.prog 107 = true := by
    simp [Value.formed, Try.underlying107, cells107, penc]
  simp only [keyType107, hf, Bool.and_self, if_true]
  have hk : Try.prog.keyLits (Try.prog.types.size + 1) 107 (penc p).cells.toList = some [.int .i64 p.1, .int .i64 p.2] := by
    unfold Program.keyLits
    rw [Try.underlying107]
    have hc : (penc p).cells.toList = pairC p := rfl
    rw [hc]
    simp only [cells107, cells3]
    rw [if_pos (by simp [pairC])]
    obtain ⟨n, hn⟩ : ∃ n, Try.prog.types.size = n + 1 := ⟨Try.prog.types.size - 1, by kernel_rfl⟩
    rw [hn]
    have hr : List.range 2 = [0, 1] := rfl
    rw [hr]
    simp [pairC, lit_int h.1, lit_int h.2]
  rw [hk]
  exact ⟨_, rfl⟩
theorem pair_keys : Vm.KeyOk Try.prog 107 penc IsPair where
  keyed := Go.Maps.Keyed.of_law law107
  key := pair_key
  inj := fun {a b} h => by
    simp only [penc, Value.agg.injEq, Array.mk.injEq, List.cons.injEq, Value.int.injEq, true_and, and_true] at h
    exact Prod.ext h.1 h.2
def kpair : Kd (Int × Int) where
  sz := 2
  E := []
  K := fun _ s cs => cs = pairC s
  M := fun _ _ _ s cs => cs = pairC s
  K_len := fun h => by rw [h]; rfl
  K_one := fun h v hv => by
    rw [h] at hv
    simp only [pairC, List.mem_cons, List.not_mem_nil, or_false] at hv
    rcases hv with rfl | rfl <;> rfl
  K_below := fun _ h => h
  K_of_M := fun h => h
  M_mono := fun _ h => h
  M_bound := fun h => h
  M_move := fun _ h => h
  M_lower := fun _ h => h
/-- Element i of a row of pairs lies there. -/
theorem prow_at {w : World} {base : Nat} {ok : Nat → Prop} {v : Value} {row : List (Int × Int)} (h : Kd.R kpair 107 w base ok v row) (i : Nat) (p : Int × Int) (hp : row[i]? = some p) :
    ∃ g c, v = .slice (some ⟨g, 0, none⟩) row.length c ∧ w.cell? ⟨g, i * 2, none⟩ = some (.int .i64 p.1) ∧ w.cell? ⟨g, i * 2 + 1, none⟩ = some (.int .i64 p.2) := by
  obtain ⟨_, inner, ho, hr⟩ := h
  have hi := (List.getElem?_eq_some_iff.1 hp).1
  rcases ho.2 with ⟨rfl, h0⟩ | ⟨g, cap, cur, rfl, hb, hc, hle, hcap, hsz, htk⟩
  · omega
  · refine ⟨g, cap, rfl, ?_⟩
    have hw := hr.2 i p hp
    change List.take 2 (List.drop (i * 2) inner) = pairC p at hw
    change List.take (row.length * 2) cur.toList = inner at htk
    have hj : ∀ j, j < 2 → w.cell? ⟨g, i * 2 + j, none⟩ = (pairC p)[j]? := by
      intro j hj
      rw [cell_of_row w g _ cur 107 (0, 0) hc, ← hw, List.getElem?_take, if_pos hj, List.getElem?_drop, ← htk, List.getElem?_take, if_pos (by omega)]
      simp
    exact ⟨hj 0 (by omega), hj 1 (by omega)⟩
theorem mp_R_ne {α : Type} {d : Kd α} {e : Nat} {w : World} {base : Nat} {ok : Nat → Prop} {v : Value} {xs : List α} {b : Nat} {pr : List ((Int × Int) × Int)} (hp : Vm.MapAt w b penc (Value.int .i64) pr) (h : d.R e w base ok v xs) : some b ≠ v.ownBlock := by
  intro he
  obtain ⟨c, h1⟩ := R_typed h b he.symm
  exact hp.ne_cells h1 rfl
theorem mp_blk_ne {w : World} {b g t : Nat} {cs : Array Value} {pr : List ((Int × Int) × Int)} (hp : Vm.MapAt w b penc (Value.int .i64) pr) (h : w.heap[g]? = some (.cells cs t (0, 0))) : b ≠ g := hp.ne_cells h
theorem _root_.Go.Proofs.Ytkaefgmgcghhiaa.Vm.MapAt.far {α β : Type} {enc : α → Value} {venc : β → Value} {w : World} {b : Nat} {es : List (α × β)} (hp : Vm.MapAt w b enc venc es) {p : Addr} (hne : b ≠ p.block) (u : Value) : Vm.MapAt (w.setCell p u) b enc venc es := hp.block (Below.heap_setCell w p u b hne)
structure MeetAt (w0 : World) (mb M : Nat) (K : Int) (pr : List ((Int × Int) × Int)) (row : List (Int × Int)) (rv : Value) (nx : List Int) (nxv : Value) (out : List Int) (outv : Value) (w : World) : Prop where
  place : Vm.MapAt w mb penc (Value.int .i64) pr
  row : Kd.R kpair 107 w w0.heap.size (fun _ => True) rv row
  m : w.heap[M]? = some (.cells #[.int .i64 1, .int .i64 K, .int .i64 2, .int .i64 0, nxv, outv] 43 (0, 0))
  nx : Kd.R (Kd.int .i64) 3 w w0.heap.size (fun _ => True) nxv nx
  out : Kd.R (Kd.int .i64) 3 w w0.heap.size (fun _ => True) outv out
  apart : ∀ k, nxv.ownBlock = some k → outv.ownBlock ≠ some k
  below : Below w0.heap.size w0 w
  hmb : w0.heap.size ≤ mb
  hM : w0.heap.size ≤ M
theorem MeetAt.low {w0 w w1 : World} {mb M : Nat} {K : Int} {pr : List ((Int × Int) × Int)} {row : List (Int × Int)} {rv nxv outv : Value} {nx out : List Int} (h : MeetAt w0 mb M K pr row rv nx nxv out outv w) (hb : Below w.heap.size w w1) : MeetAt w0 mb M K pr row rv nx nxv out outv w1 :=
  ⟨h.place.below hb, Kd.R_below h.row hb, blk_below h.m hb, Kd.R_below h.nx hb, Kd.R_below h.out hb, h.apart, below_then h.below h.below.size hb, h.hmb, h.hM⟩
theorem MeetAt.outAp {w0 w w1 : World} {mb M : Nat} {K : Int} {pr : List ((Int × Int) × Int)} {row : List (Int × Int)} {rv nxv outv v1 : Value} {nx out out1 : List Int} (h : MeetAt w0 mb M K pr row rv nx nxv out outv w)
    (hr : Kd.R (Kd.int .i64) 3 w1 w0.heap.size (fun _ => True) v1 out1) (hb : Below w0.heap.size w0 w1) (hg : w.grownBy w1 outv.ownBlock) (hat : v1.ownBlock = outv.ownBlock ∨ ∃ b, v1.ownBlock = some b ∧ w.heap.size ≤ b) :
    MeetAt w0 mb M K pr row rv nx nxv out1 v1 (w1.setCell ⟨M, 5, none⟩ v1) := by
  have hMo : some M ≠ outv.ownBlock := Kd.R_ne h.out h.m (by decide)
  have hm1 := blk_grown h.m hg hMo
  refine ⟨(h.place.grown hg (mp_R_ne h.place h.out)).far (mp_blk_ne h.place h.m) _, R_after h.row rfl hg (fun k hk => R_R_ne h.out h.row (by decide) k hk) (Kd.R_ne h.row h.m (by decide)), blk_put hm1 5 v1 rfl,
    R_after h.nx rfl hg (fun k hk he => h.apart k he.symm hk) (Kd.R_ne h.nx h.m (by decide)), ?_, ?_, below_set hb h.hM, h.hmb, h.hM⟩
  · exact Kd.R_mono (Kd.R_far (Kd.R_tight rfl hr) (p := ⟨M, 5, none⟩) (fun k hk he => Kd.R_ne hr hm1 (by decide) (by rw [← hk]; show some M = some k; rw [he])) v1) (fun _ _ => trivial)
  · intro k hk he
    rcases hat with h1 | ⟨b, h1, h2⟩
    · rw [h1] at he; exact h.apart k hk he
    · rw [h1] at he
      have := Kd.R_lt h.nx k hk
      have hbk : b = k := by injection he
      omega
theorem MeetAt.nextAp {w0 w w1 : World} {mb M : Nat} {K : Int} {pr : List ((Int × Int) × Int)} {row : List (Int × Int)} {rv nxv outv v1 : Value} {nx out nx1 : List Int} (h : MeetAt w0 mb M K pr row rv nx nxv out outv w)
    (hr : Kd.R (Kd.int .i64) 3 w1 w0.heap.size (fun _ => True) v1 nx1) (hb : Below w0.heap.size w0 w1) (hg : w.grownBy w1 nxv.ownBlock) (hat : v1.ownBlock = nxv.ownBlock ∨ ∃ b, v1.ownBlock = some b ∧ w.heap.size ≤ b) :
    MeetAt w0 mb M K pr row rv nx1 v1 out outv (w1.setCell ⟨M, 4, none⟩ v1) := by
  have hMo : some M ≠ nxv.ownBlock := Kd.R_ne h.nx h.m (by decide)
  have hm1 := blk_grown h.m hg hMo
  refine ⟨(h.place.grown hg (mp_R_ne h.place h.nx)).far (mp_blk_ne h.place h.m) _, R_after h.row rfl hg (fun k hk => R_R_ne h.nx h.row (by decide) k hk) (Kd.R_ne h.row h.m (by decide)), blk_put hm1 4 v1 rfl,
    ?_, R_after h.out rfl hg (fun k hk he => h.apart k hk he.symm) (Kd.R_ne h.out h.m (by decide)), ?_, below_set hb h.hM, h.hmb, h.hM⟩
  · exact Kd.R_mono (Kd.R_far (Kd.R_tight rfl hr) (p := ⟨M, 4, none⟩) (fun k hk he => Kd.R_ne hr hm1 (by decide) (by rw [← hk]; show some M = some k; rw [he])) v1) (fun _ _ => trivial)
  · intro k hk he
    rcases hat with h1 | ⟨b, h1, h2⟩
    · rw [h1] at hk; exact h.apart k hk he
    · rw [h1] at hk
      have := Kd.R_lt h.out k he
      have hbk : b = k := by injection hk
      omega
theorem MeetAt.placed {w0 w w1 : World} {mb M : Nat} {K : Int} {pr pr1 : List ((Int × Int) × Int)} {row : List (Int × Int)} {rv nxv outv : Value} {nx out : List Int} (h : MeetAt w0 mb M K pr row rv nx nxv out outv w) (hp : Vm.MapAt w1 mb penc (Value.int .i64) pr1) (hg : w.grownBy w1 (some mb)) :
    MeetAt w0 mb M K pr1 row rv nx nxv out outv w1 :=
  ⟨hp, Kd.R_grown2 h.row rfl hg (fun k hk => by injection hk with hk; rw [← hk]; exact mp_R_ne h.place h.row), blk_grown h.m hg (fun he => mp_blk_ne h.place h.m (by injection he with he; exact he.symm)),
    Kd.R_grown2 h.nx rfl hg (fun k hk => by injection hk with hk; rw [← hk]; exact mp_R_ne h.place h.nx), Kd.R_grown2 h.out rfl hg (fun k hk => by injection hk with hk; rw [← hk]; exact mp_R_ne h.place h.out),
    h.apart, pw_below_grown h.below (some mb) h.below.size hg (fun k hk => by injection hk with hk; rw [← hk]; exact h.hmb), h.hmb, h.hM⟩
theorem MeetAt.rowAp {w0 w w1 : World} {mb M : Nat} {K : Int} {pr : List ((Int × Int) × Int)} {row row1 : List (Int × Int)} {rv rv1 nxv outv : Value} {nx out : List Int} (h : MeetAt w0 mb M K pr row rv nx nxv out outv w)
    (hr : Kd.R kpair 107 w1 w0.heap.size (fun _ => True) rv1 row1) (hb : Below w0.heap.size w0 w1) (hg : w.grownBy w1 rv.ownBlock) : MeetAt w0 mb M K pr row1 rv1 nx nxv out outv w1 :=
  ⟨h.place.grown hg (mp_R_ne h.place h.row), hr, blk_grown h.m hg (Kd.R_ne h.row h.m (by decide)), Kd.R_grown2 h.nx rfl hg (fun k hk => R_R_ne h.row h.nx (by decide) k hk), Kd.R_grown2 h.out rfl hg (fun k hk => R_R_ne h.row h.out (by decide) k hk), h.apart, hb, h.hmb, h.hM⟩
end Go.Proofs.Ytkaefgmgcghhiaa.X
end

section
namespace Go.Proofs.Ytkaefgmgcghhiaa.X
open Go.RowKit Go.Proofs.YtkaefgmgcghhiaaW.PrintWords Go.Proofs.YtkaefgmgcghhiaaW.PrintLast Go.Proofs.YtkaefgmgcghhiaaW.PrintMore
open Go.Proofs.Ytkaefgmgcghhiaa
theorem info107 : (Try.prog.info? 107).map (fun i => (i.zero, i.size)) = some (some (.agg #[.int .i64 0, .int .i64 0]), 2) := by kernel_rfl
theorem info107b : (Try.prog.info? 107).map (fun i => (i.zero, i.size, i.bytes)) = some (some (.agg #[.int .i64 0, .int .i64 0]), kpair.sz, 16) := by kernel_rfl
theorem run_one_pair (W : World) (p : Int × Int) : (Instr.buildSlice 109 1 #[(0, .agg (pairC p).toArray)]).run Try.prog W = .ok (.slice (some ⟨W.heap.size, 0, none⟩) 1 1) (W.alloc (.cells (pairC p).toArray 107)) := by
  cases hi : Try.prog.info? 107 with
  | none => have := info107; rw [hi] at this; cases this
  | some ie =>
    have h88 := info107
    rw [hi] at h88
    simp only [Option.map_some, Option.some.injEq, Prod.mk.injEq] at h88
    refine run_buildSlice W 109 107 1 _ _ ie _ Try.underlying109 hi h88.1 (by rw [h88.2]; decide) (by rw [h88.2]; decide) ?_
    rw [h88.2]
    have h := Great.fill_whole (s := 2) (by decide) [.agg (pairC p).toArray] ((Array.range (1 * 2)).map ((Value.agg #[.int .i64 0, .int .i64 0]).cells[· % (Value.agg #[.int .i64 0, .int .i64 0]).cells.size]!)) (by
      intro v hv
      simp only [List.mem_singleton] at hv
      subst hv
      rfl) (by simp)
    simpa [Value.cells] using h
theorem exec_one_pair {a : Act} {o : Oper} {x : Operand} {p : Int × Int} (ho : o.op = .buildSlice 109 1 #[(0, x)]) (hx : a.eval x = .agg (pairC p).toArray) (W : World) :
    (execOp a.eval o).run Try.prog W = .ok (.value (.slice (some ⟨W.heap.size, 0, none⟩) 1 1)) (W.alloc (.cells (pairC p).toArray 107)) := by
  unfold execOp
  simp [ho, hx, run_one_pair W p, Result.andThen]
theorem reps_one_pair {w : World} {base : Nat} {ok : Nat → Prop} (p : Int × Int) : Reps (kpair.M w base ok) kpair.sz [p] (pairC p) := by
  refine ⟨rfl, fun j q hj => ?_⟩
  cases j with
  | zero =>
    simp only [List.getElem?_cons_zero, Option.some.injEq] at hj
    subst hj
    show List.take 2 (List.drop (0 * 2) (pairC p)) = pairC p
    rfl
  | succ j => simp at hj
def prN (n : Nat) : List (Int × Int) → List ((Int × Int) × Int)
  | [] => []
  | p :: r => (p, (n : Int)) :: prN (n + 1) r
def prOf (row : List (Int × Int)) : List ((Int × Int) × Int) := prN 0 row
theorem prN_key {n : Nat} {row : List (Int × Int)} {q : (Int × Int) × Int} (h : q ∈ prN n row) : q.1 ∈ row := by
  induction row generalizing n with
  | nil => simp [prN] at h
  | cons p r ih =>
    simp only [prN, List.mem_cons] at h
    rcases h with rfl | h
    · simp
    · exact List.mem_cons_of_mem _ (ih h)
theorem prN_get (n : Nat) (row : List (Int × Int)) (p : Int × Int) : Vm.getK (prN n row) p = (row.findIdx? (· == p)).map (fun j => ((n + j : Nat) : Int)) := by
  induction row generalizing n with
  | nil => rfl
  | cons q r ih =>
    rw [prN, Vm.getK, List.findIdx?_cons]
    by_cases hq : q = p
    · rw [if_pos hq]
      simp [hq]
    · rw [if_neg hq, ih]
      have : (q == p) = false := by simpa using hq
      simp only [this]
      cases r.findIdx? (· == p) with
      | none => rfl
      | some j => simp; omega
theorem prN_snoc (n : Nat) (row : List (Int × Int)) (p : Int × Int) : prN n row ++ [(p, ((n + row.length : Nat) : Int))] = prN n (row ++ [p]) := by
  induction row generalizing n with
  | nil => simp [prN]
  | cons q r ih =>
    rw [List.cons_append, prN, prN, List.cons_append, ← ih (n + 1)]
    simp only [List.length_cons]
    congr 4
    omega
theorem pair_ok {row : List (Int × Int)} (hrow : ∀ q ∈ row, IsPair q) : ∀ q ∈ prOf row, IsPair q.1 := fun q hq => hrow _ (prN_key hq)
theorem pair_put {row : List (Int × Int)} {p : Int × Int} (h : row.findIdx? (· == p) = none) : Vm.putK (prOf row) p (row.length : Int) = prOf (row ++ [p]) := by
  rw [Vm.putK_new (fun q hq he => by
    have h1 := List.findIdx?_eq_none_iff.1 h p (he ▸ prN_key hq)
    simp at h1)]
  have := prN_snoc 0 row p
  simpa [prOf] using this
theorem info3p : (Try.prog.info? 3).map (fun i => (i.zero, i.size)) = some (some (.int .i64 0), 1) := by kernel_rfl
theorem zero3 (w : World) : (zeroValue 3).run Try.prog w = .ok (.int .i64 0) w := (zero_of_info info3p).1 w
theorem pair_some {row : List (Int × Int)} (hrow : ∀ q ∈ row, IsPair q) {p : Int × Int} (hp : IsPair p) {j : Nat} (hj : row.findIdx? (· == p) = some j) {w : World} {b : Nat} (hm : Vm.MapAt w b penc (Value.int .i64) (prOf row)) :
    (Instr.lookup 108 (.map (some b)) (.agg (pairC p).toArray) true).run Try.prog w = .ok (.tuple #[.int .i64 (j : Int), .bool true]) w := by
  have h := Vm.map_lookup pair_keys Try.underlying108 (zv := .int .i64 0) zero3 hm (pair_ok hrow) hp true
  rw [penc_cells, prOf, prN_get, hj] at h
  simpa using h
theorem pair_none {row : List (Int × Int)} (hrow : ∀ q ∈ row, IsPair q) {p : Int × Int} (hp : IsPair p) (hj : row.findIdx? (· == p) = none) {w : World} {b : Nat} (hm : Vm.MapAt w b penc (Value.int .i64) (prOf row)) :
    (Instr.lookup 108 (.map (some b)) (.agg (pairC p).toArray) true).run Try.prog w = .ok (.tuple #[.int .i64 0, .bool false]) w := by
  have h := Vm.map_lookup pair_keys Try.underlying108 (zv := .int .i64 0) zero3 hm (pair_ok hrow) hp true
  rw [penc_cells, prOf, prN_get, hj] at h
  simpa using h
def DM18.T18 : Bool × List (List Nat × List Nat) := (true, [([], []), ([], []), ([0, 1], [0, 1]), ([2], [2]), ([3], [3]), ([], []), ([], []), ([5, 6], [5, 6]), ([7], [7]), ([8], [8]), ([4, 0, 1, 2, 3, 4], [4]), ([9, 10, 0, 1, 2, 3, 4, 5, 6, 7, 8, 9, 10], [9])])
def DM18.B18 : List Nat := [0, 0, 3, 7, 15, 0, 0, 96, 224, 480, 31, 2047]
theorem DM18.tab18 : rtab .any (opsOf Try.f30 18) = DM18.T18 := by kernel_rfl
theorem DM18.bits18 : waitsOk DM18.T18.2 DM18.B18 = true := by kernel_rfl
def DM19.T19 : Bool × List (List Nat × List Nat) := (true, [([], []), ([0], [0]), ([], []), ([], []), ([3], [3]), ([], []), ([4, 5], [4, 5]), ([6], [6]), ([7], [7]), ([], []), ([9], [9]), ([], []), ([10, 11], [10, 11]), ([12], [12]), ([8, 13], [8, 13]), ([2, 14], [2, 14]), ([15], [15]), ([16], [16]), ([1, 17], [1, 17]), ([0, 1, 2, 3, 4, 5, 6, 7, 8, 9, 10, 11, 12, 13, 14, 15, 16, 17, 18], []), ([19, 18, 18, 0, 1, 2, 3, 4, 5, 6, 7, 8, 9, 10, 11, 12, 13, 14, 15, 16, 17, 18], [18, 19])])
def DM19.B19 : List Nat := [0, 1, 0, 0, 8, 0, 56, 120, 248, 0, 512, 0, 3584, 7680, 16376, 32764, 65532, 131068, 262143, 524287, 1048575]
theorem DM19.tab19 : rtab .any (opsOf Try.f30 19) = DM19.T19 := by kernel_rfl
theorem DM19.bits19 : waitsOk DM19.T19.2 DM19.B19 = true := by kernel_rfl
def DM23.T23 : Bool × List (List Nat × List Nat) := (true, [([], []), ([0], [0]), ([], []), ([], []), ([3], [3]), ([2, 4], [2, 4]), ([], []), ([5, 6], [5, 6]), ([1, 7], [1, 7]), ([8], [8]), ([], []), ([10], [10]), ([], []), ([], []), ([13], [13]), ([12, 14], [12, 14]), ([], []), ([15, 16], [15, 16]), ([11, 17], [11, 17]), ([18], [18]), ([9, 19], [9, 19]), ([], []), ([21, 20, 0, 1, 2, 3, 4, 5, 6, 7, 8, 9, 10, 11, 12, 13, 14, 15, 16, 17, 18, 19, 20, 21], [20, 21])])
def DM23.B23 : List Nat := [0, 1, 0, 0, 8, 28, 0, 124, 255, 511, 0, 1024, 0, 0, 8192, 28672, 0, 126976, 261120, 523264, 1048575, 0, 4194303]
theorem DM23.tab23 : rtab .any (opsOf Try.f30 23) = DM23.T23 := by kernel_rfl
theorem DM23.bits23 : waitsOk DM23.T23.2 DM23.B23 = true := by kernel_rfl
end Go.Proofs.Ytkaefgmgcghhiaa.X
end

section
namespace Go.Proofs.Ytkaefgmgcghhiaa.X
open Go.RowKit Go.Proofs.YtkaefgmgcghhiaaW.PrintWords Go.Proofs.YtkaefgmgcghhiaaW.PrintLast Go.Proofs.YtkaefgmgcghhiaaW.PrintMore
theorem gate_insert {P : Program} {ops : Array Oper} {rest : List Oper} {o : Oper} {a : Act} {Q : Exit → Act → World → Prop} {W : World} {t : TypeId} {m x v : Operand} (_ho : o.op = .insert t m x v) (h : wpList P ops Q (o :: rest) a W) : wpList P ops Q (o :: rest) a W := h
theorem gate_update {P : Program} {ops : Array Oper} {rest : List Oper} {o : Oper} {a : Act} {Q : Exit → Act → World → Prop} {W : World} {t : TypeId} {m x v : Operand} (_ho : o.op = .mapUpdate t m x v) (h : wpList P ops Q (o :: rest) a W) : wpList P ops Q (o :: rest) a W := h
theorem info43 : (Try.prog.info? 43).map (fun i => (i.zero, i.size)) = some (some (.agg #[.int .i64 0, .int .i64 0, .int .i64 0, .int .i64 0, .slice none 0 0, .slice none 0 0]), 6) := by kernel_rfl
theorem info88b : (Try.prog.info? 88).map (fun i => (i.zero, i.size, i.bytes)) = some (some (.agg (Array.replicate 16 (.int .u64 0))), kset.sz, 128) := by kernel_rfl
def DT12.T12 : Bool × List (List Nat × List Nat) := (true, [([], []), ([0], [0]), ([], []), ([], []), ([], []), ([3, 4], [3, 4]), ([5], [5]), ([2, 6], [2, 6]), ([7], [7]), ([1, 8, 7], [1, 8]), ([0, 1, 2, 3, 4, 5, 6, 7, 8, 9], []), ([10, 9, 9, 0, 1, 2, 3, 4, 5, 6, 7, 8, 9], [9, 10])])
def DT12.B12 : List Nat := [0, 1, 0, 0, 0, 24, 56, 124, 252, 511, 1023, 2047]
theorem DT12.tab12 : rtab .any (opsOf Try.f22 12) = DT12.T12 := by kernel_rfl
theorem DT12.bits12 : waitsOk DT12.T12.2 DT12.B12 = true := by kernel_rfl
theorem grown_setRow (w : World) (g : Nat) (cs : Array Value) : w.grownBy (w.setRow g cs) (some g) := ⟨rfl, rfl, rfl, by simp, fun i _ hi => setRow_other w g i cs (fun e => hi (by rw [e]))⟩
def zero43 : Array Value := #[.int .i64 0, .int .i64 0, .int .i64 0, .int .i64 0, .slice none 0 0, .slice none 0 0]
theorem zero43_one : zero43.all (·.oneCell') = true := by simp [zero43, Value.oneCell']
set_option maxHeartbeats 8000000 in
set_option maxRecDepth 100000 in
theorem Determine_walk (k : Nat) (K N : Int) (A2 : Option Addr) (c2 : Nat) (S : List Int) (A3 : Option Addr) (c3 : Nat) (F : List Int) (A4 : Option Addr) (c4 : Nat) (E : List S80) (r1 r2 r3 r4 : Int) (r5 r6 : List Int) (r7 : Int) (w : World)
    (hr2 : Kd.C (Kd.int .i64) w A2 S.length S) (hr3 : Kd.C (Kd.int .i64) w A3 F.length F) (hr4 : Kd.C k80 w A4 E.length E) (h : detG k K N S F E = some (r1, r2, r3, r4, r5, r6, r7)) :
    Calls Try.prog 22 #[.agg #[.int .i64 K, .int .i64 N, .slice A2 S.length c2, .slice A3 F.length c3, .slice A4 E.length c4]] w fun e w' => ∃ v4_ v5_ : Value, e = .returned (.tuple #[.agg #[.int .i64 r1, .int .i64 r2, .int .i64 r3, .int .i64 r4, v4_, v5_], .int .i64 r7]) ∧ Kd.R (Kd.int .i64) 3 w' w.heap.size (fun k_ => some k_ ≠ (v5_ : Value).ownBlock) v4_ r5 ∧ Kd.R (Kd.int .i64) 3 w' w.heap.size (fun k_ => some k_ ≠ (v4_ : Value).ownBlock) v5_ r6 ∧ Below w.heap.size w w' := by
  have hu25 := Try.underlying25
  have hu43 := Try.underlying43
  have hu80 := Try.underlying80
  have hu92 := Try.underlying92
  have hu93 := Try.underlying93
  unfold detG at h
  obtain ⟨p0, p1, hp⟩ : ∃ p0 p1, nfa_Check.g K N S F E = (p0, p1) := ⟨_, _, rfl⟩
  have hchk := fun (W : World) (hb : Below w.heap.size w W) => Check_walk K N A2 c2 S A3 c3 F A4 c4 E p0 p1 W (Kd.C_below hr2 hb) (Kd.C_below hr3 hb) (Kd.C_below hr4 hb) hp
  have hok : p1 = 0 → RightN K N S F E := fun he => check_ok (by rw [hp]; exact he)
  rw [hp] at h
  simp only [] at h
  have H2 := Aside0.mk hr2
  have H3 := Aside0.mk hr3
  have H4 := Aside0.mk hr4
  clear hr2 hr3 hr4 hp
  obtain ⟨z43, i43⟩ := zero_of_info info43
  have hZ : ∀ w1, Below ((w.alloc (.cells #[.int .i64 K, .int .i64 N, .slice A2 S.length c2, .slice A3 F.length c3, .slice A4 E.length c4] 25)).alloc (.cells zero43 43)).heap.size ((w.alloc (.cells #[.int .i64 K, .int .i64 N, .slice A2 S.length c2, .slice A3 F.length c3, .slice A4 E.length c4] 25)).alloc (.cells zero43 43)) w1 → w1.heap[w.heap.size + 1]? = some (.cells zero43 43 (0, 0)) := by
    intro w1 hb
    refine blk_below ?_ hb
    have h := blk_new (w.alloc (.cells #[.int .i64 K, .int .i64 N, .slice A2 S.length c2, .slice A3 F.length c3, .slice A4 E.length c4] 25)) (.cells zero43 43)
    simpa using h
  have HZ := Aside0.mk hZ
  clear hZ
  by_cases q1 : p1 ≠ 0
  · rw [if_pos q1] at h
    simp only [Option.some.injEq, Prod.mk.injEq] at h
    obtain ⟨rfl, rfl, rfl, rfl, rfl, rfl, rfl⟩ := h
    have q1b : (p1 != 0) = true := by simpa using q1
    clear hok q1
    go_enter Try.func22, Try.ntmps22
    go_wp2_with (first | (go_at_call 15; refine (hchk _ (below_alloc (below_alloc (Below.refl _ _) _) _)).mono ?_; rintro e w1 ⟨rfl, hb1⟩) | ((with_reducible refine gate_store (t := 43) (p := 2) rfl ?_); (refine wpList_store_rowTo rfl 43 (.tmp 2) (.tmp 23) rfl rfl (w.heap.size + 1) zero43 rfl rfl 43 _ (HZ.out _ hb1) ?_ rfl zero43_one ?_; (focus (rw [i43]; rfl)))))
    have hblk := setRow_heap w1 (w.heap.size + 1) _ zero43 43 (0, 0) (HZ.out _ hb1)
    try simp only [Exit.inBlock, Exit.then]
    refine bodyPost_ret (results_ct rfl _ _ (w.heap.size + 1) 43 zero43 (0, 0) _ rfl hblk Try.underlying43 rfl (by rw [i43]; rfl)) rfl ?_
    exact ⟨_, _, rfl, Kd.R_nil _ _ _ _ _, Kd.R_nil _ _ _ _ _, below_setRow (below_step (below_alloc (below_alloc (Below.refl _ _) _) _) hb1) (by omega) _⟩
  · rw [if_neg q1] at h
    have q0 : p1 = 0 := by omega
    subst q0
    have HOK := Aside0.mk (hok rfl)
    clear q1 hok
    have hfr : ((rowsOf N.toNat E).length : Int) = N := by rw [rows_length]; have := HOK.out.n; omega
    have hfl : ∀ j, ((rowsOf N.toNat E).getD j []).length ≤ 65536 := fun j => Nat.le_trans (rows_short _ _ _) HOK.out.el
    have hnr := fun (W : World) (hb : Below w.heap.size w W) => newRunner_walk K N A2 c2 S A3 c3 F A4 c4 E W (Kd.C_below H4.out hb) HOK.out.n HOK.out.el (fun x hx => ⟨(HOK.out.e x hx).1, (HOK.out.e x hx).2.1⟩)
    generalize rowsOf N.toNat E = fr at h hfr hfl hnr
    have HFR := Aside0.mk hfr
    have HFL := Aside0.mk hfl
    clear hfr hfl
    cases hs : startF k N fr S with
    | none => rw [hs] at h; exact absurd h (by simp)
    | some s =>
      rw [hs] at h
      simp only [] at h
      have HSF := Aside0.mk hs
      cases hd : detF k K N F fr k 0 [s] [] [] with
      | none => rw [hd] at h; exact absurd h (by simp)
      | some res =>
      rw [hd] at h
      have HD0 := Aside0.mk hd
      have HRES := Aside0.mk h
      clear hs h hd
      obtain ⟨z88, i88⟩ := zero_of_info info88
      have hmm := @run_makeMap Try.prog
      go_enter Try.func22, Try.ntmps22
      go_wp2_with (first | (go_at_call 15; refine (hchk _ (below_alloc (below_alloc (Below.refl _ _) _) _)).mono ?_; rintro e w1 ⟨rfl, hb1⟩; have HB1 := Aside0.mk (below_step (below_alloc (below_alloc (Below.refl w.heap.size w) (.cells #[.int .i64 K, .int .i64 N, .slice A2 S.length c2, .slice A3 F.length c3, .slice A4 E.length c4] 25)) (.cells zero43 43)) hb1); have HZ1 := Aside0.mk (HZ.out _ hb1); have hbx := blk_below (blk_alloc (blk_new w (.cells #[.int .i64 K, .int .i64 N, .slice A2 S.length c2, .slice A3 F.length c3, .slice A4 E.length c4] 25)) (.cells zero43 43)) hb1; have HBX := Aside0.mk hbx; have hx0 : w1.cell? ⟨w.heap.size, 0, none⟩ = some (.int .i64 K) := (blk_cell hbx 0).trans rfl; have hx1 : w1.cell? ⟨w.heap.size, 1, none⟩ = some (.int .i64 N) := (blk_cell hbx 1).trans rfl; have hx2 : w1.cell? ⟨w.heap.size, 2, none⟩ = some (.slice A2 S.length c2) := (blk_cell hbx 2).trans rfl; have hx3 : w1.cell? ⟨w.heap.size, 3, none⟩ = some (.slice A3 F.length c3) := (blk_cell hbx 3).trans rfl; have hx4 : w1.cell? ⟨w.heap.size, 4, none⟩ = some (.slice A4 E.length c4) := (blk_cell hbx 4).trans rfl; clear hb1 hbx) | (go_at_call 57; refine (hnr _ HB1.out).mono ?_; rintro e w3 ⟨rb, rfl, hR3, hb3⟩; have HR3 := Aside0.mk hR3; have HB3 := Aside0.mk (below_step HB1.out hb3); have HZ3 := Aside0.mk (blk_below HZ1.out hb3); have HBX3 := Aside0.mk (blk_below HBX.out hb3); clear hR3 hb3 hx0 hx1 hx2 hx3 hx4) | (go_at_call 58; refine (start_walk k rb K N A2 c2 S _ _ fr s w3 _ HOK.out.n HFR.out HFL.out HR3.out (Kd.C_below H2.out HB3.out) HOK.out.sl HSF.out).mono ?_; rintro e w4 ⟨rfl, hs4, hb4⟩; have HS4 := Aside0.mk hs4; have HR4 := Aside0.mk (HR3.out.below hb4); have HB4 := Aside0.mk (below_step HB3.out hb4); have HZ4 := Aside0.mk (blk_below HZ3.out hb4); have HBX4 := Aside0.mk (blk_below HBX3.out hb4); have hlit := fun (W : World) => run_one_set W hs4; have hpl0 : PlaceAt ((w4.alloc (.cells (wordsOf s).toArray 88)).alloc (.map #[] 0)) (w4.heap.size + 1) [] := (by have h := blk_new (w4.alloc (.cells (wordsOf s).toArray 88)) (.map #[] 0); simpa [PlaceAt] using h); clear hs4 hb4) | ((with_reducible refine gate_store (t := 88) (p := 7) rfl ?_); refine wpList_store_rowTo rfl 88 (.tmp 7) (.tmp 28) rfl rfl w4.heap.size (wordsOf s).toArray rfl rfl 88 _ (blk_new w4 _) ?_ ?_ (set_one s) ?_; (focus (rw [i88, set_len HS4.out])); (focus (rw [set_len HS4.out]; simp)); rw [World.setRow_alloc_new]) | ((with_reducible refine gate_dst (N := 30) rfl ?_); refine wpList_load_row rfl 88 (.tmp 7) rfl w4.heap.size rfl 88 (wordsOf s).toArray (0, 0) _ (blk_alloc (blk_new w4 _) _) Try.underlying88 rfl ?_ ?_; (focus (rw [i88, set_len HS4.out]))) | ((with_reducible refine gate_insert rfl ?_); (refine wpList_place_put (row := []) (t := s) (b := w4.heap.size + 1) rfl (.tmp 29) (.tmp 30) (.const (.int .i64 0)) (.inl rfl) rfl rfl rfl rfl (by simp) HS4.out (by simp) hpl0 ?_; intro w6 hp6 hg6; have HP6 := Aside0.mk hp6; have HF6 := Aside0.mk (blk_grown (blk_alloc (blk_new w4 (.cells (wordsOf s).toArray 88)) (.map #[] 0)) hg6 (fun he => by injection he with he; omega)); have HB6 := Aside0.mk ((below_alloc (Below.refl (w4.alloc (.cells (wordsOf s).toArray 88)).heap.size (w4.alloc (.cells (wordsOf s).toArray 88))) (.map #[] 0)).grown hg6 (by simp) (fun k hk => by injection hk with hk; rw [← hk]; simp)); clear hp6 hg6 hpl0)) | ((with_reducible refine gate_dst (N := 32) rfl ?_); refine wpList_load_row rfl 88 (.tmp 7) rfl w4.heap.size rfl 88 (wordsOf s).toArray (0, 0) _ HF6.out Try.underlying88 rfl ?_ ?_; (focus (rw [i88, set_len HS4.out]))) | ((with_reducible refine gate_dst (N := 33) rfl ?_); (refine Kd.R_lit kset (w0 := w4.alloc (.cells (wordsOf s).toArray 88)) (w4.alloc (.cells (wordsOf s).toArray 88)).heap.size 88 rfl (N := 33) rfl (xs := [s]) (inner := wordsOf s) (ok := fun _ => True) (okp := fun _ => True) ?hr ?hp (fun _ hk => hk) trivial HB6.out HB6.out.size (by simp) ?_; (case hr => exact exec_one_set rfl rfl HS4.out _); (case hp => exact reps_one_set HS4.out); intro v7 w7 ho7 hb7 hg7 hnew7; have HO7 := Aside0.mk ho7; have HB7 := Aside0.mk hb7; have HP7 := Aside0.mk (HP6.out.grown hg7 (by simp)); have hx0 : w7.cell? ⟨w.heap.size, 0, none⟩ = some (.int .i64 K) := (blk_cell ((hb7.block w.heap.size (by have := blk_lt HBX4.out; simp; omega)).trans (blk_alloc HBX4.out _)) 0).trans rfl; clear ho7 hb7 hg7 hnew7 hlit)))
      have hD0 : DetAt (w4.alloc (.cells (wordsOf s).toArray 88)) (w4.heap.size + 1) w7.heap.size K [s] [s] v7 [] (.slice none 0 0) [] (.slice none 0 0) (w7.alloc (.cells #[.int .i64 1, .int .i64 K, .int .i64 2, .int .i64 0, .slice none 0 0, .slice none 0 0] 43)) := by
        have hb := below_alloc (Below.refl w7.heap.size w7) (.cells #[.int .i64 1, .int .i64 K, .int .i64 2, .int .i64 0, .slice none 0 0, .slice none 0 0] 43)
        exact ⟨blk_below HP7.out hb, Kd.R_below HO7.out hb, blk_new w7 _, Kd.R_nil _ _ _ _ _, Kd.R_nil _ _ _ _ _, fun k hk => by simp [Value.ownBlock] at hk, below_then HB7.out HB7.out.size hb, by simp, HB7.out.size⟩
      have hb5 := below_alloc (Below.refl w4.heap.size w4) (.cells (wordsOf s).toArray 88)
      have HR5 := Aside0.mk (HR4.out.below hb5)
      have HB5 := Aside0.mk (below_step HB4.out hb5)
      have HZ5 := Aside0.mk (blk_below HZ4.out hb5)
      have HBX5 := Aside0.mk (blk_below HBX4.out hb5)
      have HSS0 : Aside0 (∀ q ∈ [s], IsSet q) := ⟨fun q hq => by simp only [List.mem_singleton] at hq; rw [hq]; exact HS4.out⟩
      have HN0 : Aside0 ([s].Nodup) := ⟨by simp⟩
      generalize hmbq : w4.heap.size + 1 = mb at hD0 ⊢
      generalize hW5q : w4.alloc (.cells (wordsOf s).toArray 88) = W5 at hD0 HR5 HB5 HZ5 HBX5
      clear hb5 HP7 HO7 HB7 HR4 HB4 HZ4 HBX4 HZ3 HBX3 HP6 HF6 HB6 hx0 hmm hchk hnr hW5q hmbq HR3 HB3 HZ1 HBX HB1 HZ HSF
      generalize w7.heap.size = M at hD0 ⊢
      go_loopg [9, 11] k (fun kq v9 v11 wr => ∃ (i : Nat) (row : List (List Nat)) (nx : List Int) (nxv : Value) (out : List Int) (outv : Value), v11 = .int .i64 (i : Int) ∧ Aside0 (detF k K N F fr kq i row nx out = some res) ∧ Aside0 (kq ≤ k) ∧ Aside0 (DetAt W5 mb M K row row v9 nx nxv out outv wr) ∧ Aside0 (∀ q ∈ row, IsSet q) ∧ Aside0 row.Nodup ∧ Aside0 (row.length ≤ 1024))
      case atStart => exact ⟨0, [s], [], _, [], _, rfl, HD0, ⟨Nat.le_refl _⟩, ⟨hD0⟩, HSS0, HN0, ⟨by simp⟩⟩
      case round =>
        clear hD0 HD0 HSS0 HN0
        obtain ⟨i, row, nx, nxv, out, outv, rfl, HF, HK1, HD, HSS, HND, HRL⟩ := hrel
        have hrl := HRL.out
        cases gk with
        | zero => exact absurd HF.out (by simp [detF])
        | succ k1 =>
          have H := HF.out
          clear HF
          simp only [detF] at H
          by_cases e1 : i < row.length
          · rw [if_pos e1] at H
            by_cases e2 : out.length < 1099511627776
            · rw [if_pos e2] at H
              obtain ⟨gr, cr, rfl, hrg, hsi⟩ := row_at HD.out.row i e1
              generalize hsiq : row.getD i [] = si at H hrg hsi
              cases hin : detIn k N fr si (List.range K.toNat) row nx with
              | none => rw [hin] at H; exact absurd H (by simp)
              | some ires =>
                rw [hin] at H
                have HIN := Aside0.mk hin
                have HNX := Aside0.mk H
                have HSI := Aside0.mk hsiq
                have HI1 := Aside0.mk e1
                have HSET := Aside0.mk hsi
                obtain ⟨Ao, co, rfl⟩ := Kd.R_slice HD.out.out
                clear hin H hsiq hsi
                have HOL := Aside0.mk e2
                go_wp2
                have HDD := Aside0.mk (HD.out.low (below_drew1 (Below.refl _ _)))
                have hrl2 : (row.length : Int) ≤ 1024 := by omega
                refine start_ (n := 12) (S := fun w' => w'.cell? ⟨M, 5, none⟩ = some (.slice Ao out.length co) ∧ w'.rangeAt gr (i * 16) (wordsOf si)) (ds := [9, 11]) #[false, false, false, false, false, false, false, false, false, false, false, false] (by kernel_rfl) rfl rfl ⟨(blk_cell (blk_drew HD.out.m) 5).trans rfl, hrg⟩ (fun hHeld => ?_)
                refine with_tabW DT12.tab12 DT12.bits12 (fun HT_ HW_ => ?_)
                generalize wr.drew = wd at HDD hHeld ⊢
                refine pure_ (i := 0) (N := (some 43)) (v := ?_) (a' := ?_) #[true, false, false, false, false, false, false, false, false, false, false, false] rfl rfl (any_of HT_.out (by kernel_rfl)) (fun _ _ _ h => h) (Or.inl ⟨by rfl, ?_⟩) ?_ ?_
                rotate_left
                · intro w'
                  go_simp
                  with_reducible rfl
                rotate_left
                · simp only [Act.put, List.setIfInBounds_toArray, List.set_cons_zero, List.set_cons_succ, i64_w, i32_w]
                  rfl
                refine pure_ (i := 2) (N := (some 45)) (v := ?_) (a' := ?_) #[true, false, true, false, false, false, false, false, false, false, false, false] rfl rfl (any_of HT_.out (by kernel_rfl)) (fun _ _ _ h => h) (Or.inl ⟨by rfl, ?_⟩) ?_ ?_
                rotate_left
                · intro w'
                  go_simp
                  with_reducible rfl
                rotate_left
                · simp only [Act.put, List.setIfInBounds_toArray, List.set_cons_zero, List.set_cons_succ, i64_w, i32_w]
                  rfl
                refine pure_ (i := 3) (N := (some 46)) (v := ?_) (a' := ?_) #[true, false, true, true, false, false, false, false, false, false, false, false] rfl rfl (any_of HT_.out (by kernel_rfl)) (fun _ _ _ h => h) (Or.inl ⟨by rfl, ?_⟩) ?_ ?_
                rotate_left
                · intro w'
                  go_simp
                  with_reducible rfl
                rotate_left
                · simp only [Act.put, List.setIfInBounds_toArray, List.set_cons_zero, List.set_cons_succ, i64_w, i32_w]
                  rfl
                refine pure_ (i := 4) (N := (some 47)) (v := ?_) (a' := ?_) #[true, false, true, true, true, false, false, false, false, false, false, false] rfl rfl (any_of HT_.out (by kernel_rfl)) (fun _ _ _ h => h) (Or.inl ⟨by rfl, ?_⟩) ?_ ?_
                rotate_left
                · intro w'
                  go_simp
                  with_reducible rfl
                rotate_left
                · simp only [Act.put, List.setIfInBounds_toArray, List.set_cons_zero, List.set_cons_succ, i64_w, i32_w]
                  rfl
                refine pure_ (i := 5) (N := (some 48)) (v := ?_) (a' := ?_) #[true, false, true, true, true, true, false, false, false, false, false, false] rfl rfl (any_of HT_.out (by kernel_rfl)) (fun _ _ _ h => h) (Or.inl ⟨by rfl, ?_⟩) ?_ ?_
                rotate_left
                · intro w'
                  go_simp
                  with_reducible rfl
                rotate_left
                · simp only [Act.put, List.setIfInBounds_toArray, List.set_cons_zero, List.set_cons_succ, i64_w, i32_w]
                  rfl
                refine take_ (i := 1) (N := (some 44)) (v := ?_) (a' := ?_) #[true, true, true, true, true, true, false, false, false, false, false, false] rfl rfl (take_ofW HT_.out HW_.out (by kernel_rfl)) (fun _ _ _ h => h) (Or.inl ⟨by rfl, ?_⟩) hHeld ?_ ?_
                rotate_left
                · rintro w' ⟨s0, s1⟩
                  go_simp
                  with_reducible rfl
                rotate_left
                · simp only [Act.put, List.setIfInBounds_toArray, List.set_cons_zero, List.set_cons_succ, i64_w, i32_w]
                  rfl
                refine take_ (i := 6) (N := (some 49)) (v := (.agg (wordsOf si).toArray)) (a' := ?_) #[true, true, true, true, true, true, true, false, false, false, false, false] rfl rfl (take_ofW HT_.out HW_.out (by kernel_rfl)) (fun _ _ _ h => h) (yieldsIf_load_mid (by rfl) 88 _ rfl gr (i * 16) rfl (wordsOf si) _ (fun w' h => h.2) Try.underlying88 rfl (by rw [i88]; simp [wordsOf, HSET.out.1])) hHeld ?_ ?_
                rotate_left
                · simp only [Act.put, List.setIfInBounds_toArray, List.set_cons_zero, List.set_cons_succ, i64_w, i32_w]
                  rfl
                refine one_ (i := 7) (N := (some 50)) #[true, true, true, true, true, true, true, true, false, false, false, false] rfl rfl (one_of HT_.out (by kernel_rfl)) (by decide) (fun K_ hK => ?_)
                have hrgd := hHeld.2
                refine goes_ Try.func60 (by kernel_rfl) rfl #[.pointer (some ⟨rb, 0, none⟩), .agg (wordsOf si).toArray] (by rfl) rfl rfl (by simp [Act.eval]) ?_
                refine (final_walk rb K N A3 c3 F _ _ fr si wd _ (by have h1 := HOK.out.fl; have h2 := HOK.out.n; omega) (HR5.out.below HDD.out.below) (Kd.C_below (Kd.C_below H3.out HB5.out) HDD.out.below) HSET.out).mono ?_
                rintro e w8 ⟨rfl, hb8⟩
                refine ⟨_, rfl, ?_⟩
                have HDE := Aside0.mk (HDD.out.low hb8)
                have hrg8 : w8.rangeAt gr (i * 16) (wordsOf si) := fun j v hv => (hb8.cell (p := ⟨gr, i * 16 + j, none⟩) (World.block_lt_of_cell? wd _ (hrgd j v hv))).trans (hrgd j v hv)
                refine hK.out _ _ ⟨(blk_cell HDE.out.m 5).trans rfl, hrg8⟩ (fun hHeld => ?_); clear hK K_ hrg hb8
                refine norm_ (a' := ?_) ?_ ?_
                rotate_left
                · show Act.put _ (some 50) _ = _
                  simp only [Act.put, List.setIfInBounds_toArray, List.set_cons_zero, List.set_cons_succ, i64_w, i32_w]
                  rfl
                refine one_ (i := 8) (N := (some 51)) #[true, true, true, true, true, true, true, true, true, false, false, false] rfl rfl (one_of HT_.out (by kernel_rfl)) (by decide) (fun K_ hK => ?_)
                refine value_ (w1 := ?_) (v := ?_) (by rfl) rfl ?_ ?_
                rotate_left 2
                · go_simp
                  constructor
                  · rfl
                  · rfl
                refine hK.out _ _ ⟨(blk_cell (blk_alloc HDE.out.m _) 5).trans rfl, fun j v hv => (World.cell?_alloc_lt _ _ _ (World.block_lt_of_cell? _ _ (hrg8 j v hv))).trans (hrg8 j v hv)⟩ (fun hHeld => ?_); clear hK K_
                refine norm_ (a' := ?_) ?_ ?_
                rotate_left
                · show Act.put _ (some 51) _ = _
                  simp only [Act.put, List.setIfInBounds_toArray, List.set_cons_zero, List.set_cons_succ, i64_w, i32_w]
                  rfl
                refine last_ (i := 9) (N := (some 52)) #[true, true, true, true, true, true, true, true, true, true, false, false] rfl rfl (one_of HT_.out (by kernel_rfl)) (by decide) (fun K_ hK => ?_)
                refine Kd.R_append_step (Kd.int .i64) (w0 := W5) W5.heap.size (by rfl) (.tmp 44) (.tmp 51) 22 3 (.int .i64 0) 8 rfl Try.underlying22 info3 rfl (by decide) (by omega) (.slice Ao out.length co) out (fiRow si F 0) [.int .i64 (fiRow si F 0)] (fun _ => True) (fun _ => False) rfl rfl rfl (fun _ hk => hk.elim) (fun _ _ => trivial) HDE.out.out HDE.out.below HDE.out.below.size (by have := HOL.out; omega) ?_
                intro v1 w1 ho hb hg hat
                obtain ⟨A9, c9, rfl⟩ := Kd.R_slice ho
                have hM1 := blk_grown HDE.out.m hg (Kd.R_ne HDE.out.out HDE.out.m (by decide))
                have hfz := blk_frozen hM1 5
                have hcl : w1.cell? ⟨M, 5, none⟩ = some (.slice Ao out.length co) := (blk_cell hM1 5).trans rfl
                refine hK.out _ _ ?_; clear hK K_
                refine norm_ (a' := ?_) ?_ ?_
                rotate_left
                · show Act.put _ (some 52) _ = _
                  simp only [Act.put, List.setIfInBounds_toArray, List.set_cons_zero, List.set_cons_succ, i64_w, i32_w]
                  rfl
                refine pure_ (i := 10) (N := (some 53)) (v := ?_) (a' := ?_) #[true, true, true, true, true, true, true, true, true, true, true, false] rfl rfl (any_of HT_.out (by kernel_rfl)) (fun _ _ _ h => h) (Or.inl ⟨by rfl, ?_⟩) ?_ ?_
                rotate_left
                · intro w'
                  go_simp
                  with_reducible rfl
                rotate_left
                · simp only [Act.put, List.setIfInBounds_toArray, List.set_cons_zero, List.set_cons_succ, i64_w, i32_w]
                  rfl
                refine last_ (i := 11) (N := none) #[true, true, true, true, true, true, true, true, true, true, true, true] rfl rfl (one_of HT_.out (by kernel_rfl)) (by decide) (fun K_ hK => ?_)
                refine skip_ (w1 := ?_) (by rfl) rfl ?_ ?_
                rotate_left
                · go_simp
                  rfl
                refine hK.out _ _ ?_; clear hK K_
                refine done_ (done_of HT_.out (by kernel_rfl)) ?_
                have HD2 := DetAt.outAp HDE.out ho hb hg hat
                simp only [List.length_append, List.length_singleton] at HD2
                clear ho hb hg hat hM1 hfz hcl
                generalize w1.setCell ⟨M, 5, none⟩ (.slice A9 (out.length + 1) c9) = w2 at HD2 ⊢
                generalize Value.slice A9 (out.length + 1) c9 = ov2 at HD2
                generalize hout2 : out ++ [fiRow si F 0] = out2 at HD2 HNX
                have hx0 : w2.cell? ⟨w.heap.size, 0, none⟩ = some (.int .i64 K) := (blk_cell (blk_below HBX5.out HD2.below) 0).trans rfl
                have HD3 := Aside0.mk HD2
                clear HD2 HDE HDD HD hHeld hrgd hrg8 hout2
                go_wp2
                clear hx0
                have hKb : K ≤ 64 := HOK.out.k.2
                have hKa : 1 ≤ K := HOK.out.k.1
                go_loopw [56, 9] (fun v56 v9 wr2 => ∃ (x : Nat) (row1 : List (List Nat)) (nx1 : List Int) (nxv1 : Value), v56 = .int .i64 (x : Int) ∧ Aside0 (x ≤ K.toNat) ∧ Aside0 (detIn k N fr si ((List.range K.toNat).drop x) row1 nx1 = some ires) ∧ Aside0 (DetAt W5 mb M K row1 row1 v9 nx1 nxv1 out2 ov2 wr2) ∧ Aside0 (∀ q ∈ row1, IsSet q) ∧ Aside0 row1.Nodup ∧ Aside0 (row1.length ≤ 1024) ∧ Aside0 (i < row1.length ∧ row1.getD i [] = si)) (fun v56 _ _ => K.toNat - (intOf v56).toNat)
                case atStart => exact ⟨0, row, nx, nxv, rfl, ⟨by omega⟩, HIN, HD3, HSS, HND, HRL, ⟨HI1.out, HSI.out⟩⟩
                case round =>
                  clear HIN HD3 HSS HND HRL HI1 HSI hrl hrl2
                  obtain ⟨x, row1, nx1, nxv1, rfl, HX, HIN, HD, HSS, HND, HRL, HRI⟩ := hrel
                  obtain ⟨gr2, cr2, rfl, hrg2, _⟩ := row_at HD.out.row i HRI.out.1
                  rw [HRI.out.2] at hrg2
                  obtain ⟨An, cn, rfl⟩ := Kd.R_slice HD.out.nx
                  have hrl := HRL.out
                  have hri := HRI.out.1
                  by_cases hlt : x < K.toNat
                  · have H := HIN.out
                    have hd : (List.range K.toNat).drop x = x :: (List.range K.toNat).drop (x + 1) := by
                      rw [List.drop_eq_getElem_cons (by simpa using hlt)]
                      simp
                    rw [hd] at H
                    clear HIN hd
                    simp only [detIn] at H
                    have hlt' : (x : Int) < K := by omega
                    have HLT := Aside0.mk hlt
                    cases hstp : stepF k N fr si (x : Int) with
                    | none => rw [hstp] at H; exact absurd H (by simp)
                    | some t =>
                      rw [hstp] at H
                      simp only [] at H
                      have hst := step_walk k rb K N _ _ _ fr si t (x : Int) wr _ HOK.out.n HFR.out HFL.out (HR5.out.below HD.out.below) HSET.out hstp
                      clear hstp
                      by_cases e3 : nx1.length < 1099511627776
                      · rw [if_pos e3] at H
                        cases hfi : row1.findIdx? (· == t) with
                        | some j =>
                          rw [hfi] at H
                          simp only [] at H
                          have HH2 := Aside0.mk H
                          clear H
                          go_wp2_with (first | ((with_reducible refine gate_dst (N := 63) rfl ?_); refine wpList_load_mid rfl 88 (.tmp 62) rfl gr2 (i * 16) rfl (wordsOf si) _ hrg2 Try.underlying88 rfl ?_ ?_; (focus (rw [i88]; simp [wordsOf, HSET.out.1]))) | (go_at_call 59; refine hst.mono ?_; rintro e w8 ⟨rfl, ht8, hb8⟩; have HT8 := Aside0.mk ht8; have HD9 := Aside0.mk ((HD.out.low hb8).low (below_alloc (Below.refl _ _) (.cells (wordsOf t).toArray 88))); have hlk := look_some HSS.out HND.out HT8.out hfi HD9.out.place; have hm4 : (w8.alloc (.cells (wordsOf t).toArray 88)).cell? ⟨M, 4, none⟩ = some (.slice An nx1.length cn) := (blk_cell HD9.out.m 4).trans rfl; clear ht8 hb8) | ((with_reducible refine gate_store (t := 88) (p := 13) rfl ?_); refine wpList_store_rowTo rfl 88 (.tmp 13) (.tmp 65) rfl rfl w8.heap.size (wordsOf t).toArray rfl rfl 88 _ (blk_new w8 _) ?_ ?_ (set_one t) ?_; (focus (rw [i88, set_len HT8.out])); (focus (rw [set_len HT8.out]; simp)); rw [World.setRow_alloc_new]; have hB9 := blk_new w8 (.cells (wordsOf t).toArray 88); generalize w8.alloc (.cells (wordsOf t).toArray 88) = w9 at HD9 hlk hm4 hB9 ⊢) | ((with_reducible refine gate_dst (N := 68) rfl ?_); refine wpList_load_row rfl 88 (.tmp 13) rfl w8.heap.size rfl 88 (wordsOf t).toArray (0, 0) _ hB9 Try.underlying88 rfl ?_ ?_; (focus (rw [i88, set_len HT8.out]))) | ((with_reducible refine gate_builtin (b := .append) (xs := #[.tmp 88, .tmp 90]) rfl ?_); at_builtin; (refine Kd.R_append (Kd.int .i64) (w0 := W5) W5.heap.size rfl (.tmp 88) (.tmp 90) 22 3 (.int .i64 0) 8 rfl Try.underlying22 info3 rfl (by decide) (by omega) (.slice An nx1.length cn) nx1 (j : Int) [.int .i64 (j : Int)] (fun _ => True) (fun _ => False) rfl rfl ?aP (fun _ hk => hk.elim) ?aF ?aO ?aB ?aS ?aL ?_; (case aP => exact rfl); (case aB => exact HD9.out.below); (case aF => exact (fun _ _ => trivial)); (case aO => exact HD9.out.nx); (case aS => exact HD9.out.below.size); (case aL => omega); intro v12 w12 ho hb hg hat; obtain ⟨A9, c9, rfl⟩ := Kd.R_slice ho; have hM1 := blk_grown HD9.out.m hg (Kd.R_ne HD9.out.nx HD9.out.m (by decide)); have hfz := blk_frozen hM1 4; have hcl : w12.cell? ⟨M, 4, none⟩ = some (.slice An nx1.length cn) := (blk_cell hM1 4).trans rfl; have HD12 := Aside0.mk (DetAt.nextAp HD9.out ho hb hg hat); clear ho hb hg hat hM1)))
                          clear hm4 hlk hcl hfz
                          go_roundw
                          case rel => exact ⟨x + 1, row1, nx1 ++ [(j : Int)], _, by go_num, ⟨by have := HLT.out; omega⟩, HH2, by simpa using HD12, HSS, HND, HRL, HRI⟩
                          case measure => have := HLT.out; simp [intOf]; omega
                        | none =>
                          rw [hfi] at H
                          simp only [] at H
                          by_cases e4 : row1.length = 1024
                          · rw [if_pos e4] at H
                            simp only [Option.some.injEq] at H
                            subst H
                            have hr0 := HNX.out
                            simp only [Option.some.injEq] at hr0
                            subst hr0
                            have hr := HRES.out
                            simp only [Option.some.injEq, Prod.mk.injEq] at hr
                            obtain ⟨rfl, rfl, rfl, rfl, rfl, rfl, rfl⟩ := hr
                            have e4b : (row1.length == 1024) = true := by simpa using e4
                            have e4c : ((row1.length : Int) == 1024) = true := by simp [e4]
                            go_wp2_with (first | ((with_reducible refine gate_dst (N := 63) rfl ?_); refine wpList_load_mid rfl 88 (.tmp 62) rfl gr2 (i * 16) rfl (wordsOf si) _ hrg2 Try.underlying88 rfl ?_ ?_; (focus (rw [i88]; simp [wordsOf, HSET.out.1]))) | (go_at_call 59; refine hst.mono ?_; rintro e w8 ⟨rfl, ht8, hb8⟩; have HT8 := Aside0.mk ht8; have HD9 := Aside0.mk ((HD.out.low hb8).low (below_alloc (Below.refl _ _) (.cells (wordsOf t).toArray 88))); have hlk := look_none HSS.out HT8.out hfi HD9.out.place; have hm4 : (w8.alloc (.cells (wordsOf t).toArray 88)).cell? ⟨M, 4, none⟩ = some (.slice An nx1.length cn) := (blk_cell HD9.out.m 4).trans rfl; clear ht8 hb8) | ((with_reducible refine gate_store (t := 88) (p := 13) rfl ?_); refine wpList_store_rowTo rfl 88 (.tmp 13) (.tmp 65) rfl rfl w8.heap.size (wordsOf t).toArray rfl rfl 88 _ (blk_new w8 _) ?_ ?_ (set_one t) ?_; (focus (rw [i88, set_len HT8.out])); (focus (rw [set_len HT8.out]; simp)); rw [World.setRow_alloc_new]; have hB9 := blk_new w8 (.cells (wordsOf t).toArray 88); generalize w8.alloc (.cells (wordsOf t).toArray 88) = w9 at HD9 hlk hm4 hB9 ⊢) | ((with_reducible refine gate_dst (N := 68) rfl ?_); refine wpList_load_row rfl 88 (.tmp 13) rfl w8.heap.size rfl 88 (wordsOf t).toArray (0, 0) _ hB9 Try.underlying88 rfl ?_ ?_; (focus (rw [i88, set_len HT8.out]))) | ((with_reducible refine gate_store (t := 43) (p := 2) rfl ?_); (refine wpList_store_rowTo rfl 43 (.tmp 2) (.tmp 77) rfl rfl (w.heap.size + 1) zero43 rfl rfl 43 _ (blk_below HZ5.out HD9.out.below) ?_ rfl zero43_one ?_; (focus (rw [i43]; rfl)))))
                            try simp only [Exit.inBlock, Exit.then]
                            refine bodyPost_ret (results_ct rfl _ _ (w.heap.size + 1) 43 zero43 (0, 0) _ rfl (setRow_heap _ (w.heap.size + 1) _ zero43 43 (0, 0) (blk_below HZ5.out HD9.out.below)) Try.underlying43 rfl (by rw [i43]; rfl)) rfl ?_
                            exact ⟨_, _, rfl, Kd.R_nil _ _ _ _ _, Kd.R_nil _ _ _ _ _, below_setRow (below_then HB5.out HB5.out.size HD9.out.below) (by omega) _⟩
                          · rw [if_neg e4] at H
                            have HH2 := Aside0.mk H
                            clear H
                            have e4b : (row1.length == 1024) = false := by simpa using e4
                            have e4c : ((row1.length : Int) == 1024) = false := by
                              have : ¬ ((row1.length : Int) = 1024) := by omega
                              simpa using this
                            go_wp2_with (first | ((with_reducible refine gate_dst (N := 63) rfl ?_); refine wpList_load_mid rfl 88 (.tmp 62) rfl gr2 (i * 16) rfl (wordsOf si) _ hrg2 Try.underlying88 rfl ?_ ?_; (focus (rw [i88]; simp [wordsOf, HSET.out.1]))) | (go_at_call 59; refine hst.mono ?_; rintro e w8 ⟨rfl, ht8, hb8⟩; have HT8 := Aside0.mk ht8; have HD9 := Aside0.mk ((HD.out.low hb8).low (below_alloc (Below.refl _ _) (.cells (wordsOf t).toArray 88))); have hlk := look_none HSS.out HT8.out hfi HD9.out.place; have hm4 : (w8.alloc (.cells (wordsOf t).toArray 88)).cell? ⟨M, 4, none⟩ = some (.slice An nx1.length cn) := (blk_cell HD9.out.m 4).trans rfl; clear ht8 hb8) | ((with_reducible refine gate_store (t := 88) (p := 13) rfl ?_); refine wpList_store_rowTo rfl 88 (.tmp 13) (.tmp 65) rfl rfl w8.heap.size (wordsOf t).toArray rfl rfl 88 _ (blk_new w8 _) ?_ ?_ (set_one t) ?_; (focus (rw [i88, set_len HT8.out])); (focus (rw [set_len HT8.out]; simp)); rw [World.setRow_alloc_new]; have hB9 := blk_new w8 (.cells (wordsOf t).toArray 88); generalize w8.alloc (.cells (wordsOf t).toArray 88) = w9 at HD9 hlk hm4 hB9 ⊢) | ((with_reducible refine gate_dst (N := 68) rfl ?_); refine wpList_load_row rfl 88 (.tmp 13) rfl w8.heap.size rfl 88 (wordsOf t).toArray (0, 0) _ hB9 Try.underlying88 rfl ?_ ?_; (focus (rw [i88, set_len HT8.out]))) | ((with_reducible refine gate_dst (N := 81) rfl ?_); refine wpList_load_row rfl 88 (.tmp 13) rfl w8.heap.size rfl 88 (wordsOf t).toArray (0, 0) _ hB9 Try.underlying88 rfl ?_ ?_; (focus (rw [i88, set_len HT8.out]))) | ((with_reducible refine gate_update rfl ?_); (refine wpList_place_put (row := row1) (t := t) (b := mb) rfl (.tmp 80) (.tmp 81) (.tmp 82) (.inr rfl) rfl rfl rfl rfl HSS.out HT8.out (not_mem_of_none hfi) HD9.out.place ?_; intro w10 hp10 hg10; have HD10 := Aside0.mk (HD9.out.placed hp10 hg10); have HT10 := Aside0.mk (blk_grown hB9 hg10 (fun he => place_blk_ne HD9.out.place hB9 (by injection he with he; exact he.symm))); clear hp10 hg10 hm4 hlk)) | ((with_reducible refine gate_dst (N := 84) rfl ?_); refine wpList_load_row rfl 88 (.tmp 13) rfl w8.heap.size rfl 88 (wordsOf t).toArray (0, 0) _ HT10.out Try.underlying88 rfl ?_ ?_; (focus (rw [i88, set_len HT8.out]))) | ((with_reducible refine gate_dst (N := 85) rfl ?_); (refine Kd.event_run rfl (exec_one_set rfl rfl HT8.out _) ?_)) | ((with_reducible refine gate_builtin (b := .append) (xs := #[.tmp 83, .tmp 85]) rfl ?_); at_builtin; (refine Kd.R_append kset (w0 := W5) W5.heap.size rfl (.tmp 83) (.tmp 85) 93 88 (.agg (Array.replicate 16 (.int .u64 0))) 128 rfl Try.underlying93 info88b rfl (by decide) (by omega) (.slice (some ⟨gr2, 0, none⟩) row1.length cr2) row1 t (wordsOf t) (fun _ => True) (fun _ => False) rfl rfl ?aP (fun _ hk => hk.elim) ?aF ?aO ?aB ?aS ?aL ?_; (case aP => exact ⟨HT8.out, rfl⟩); (case aB => exact HD10.out.below); (case aF => exact (fun _ _ => trivial)); (case aO => exact HD10.out.row); (case aS => exact HD10.out.below.size); (case aL => omega); intro v11 w11 ho hb hg hat; have HD11 := Aside0.mk (HD10.out.rowAp ho hb hg); have hm4 : w11.cell? ⟨M, 4, none⟩ = some (.slice An nx1.length cn) := (blk_cell HD11.out.m 4).trans rfl; clear ho hb hg hat)) | ((with_reducible refine gate_builtin (b := .append) (xs := #[.tmp 88, .tmp 90]) rfl ?_); at_builtin; (refine Kd.R_append (Kd.int .i64) (w0 := W5) W5.heap.size rfl (.tmp 88) (.tmp 90) 22 3 (.int .i64 0) 8 rfl Try.underlying22 info3 rfl (by decide) (by omega) (.slice An nx1.length cn) nx1 (row1.length : Int) [.int .i64 (row1.length : Int)] (fun _ => True) (fun _ => False) rfl rfl ?aP (fun _ hk => hk.elim) ?aF ?aO ?aB ?aS ?aL ?_; (case aP => exact rfl); (case aB => exact HD11.out.below); (case aF => exact (fun _ _ => trivial)); (case aO => exact HD11.out.nx); (case aS => exact HD11.out.below.size); (case aL => omega); intro v12 w12 ho hb hg hat; obtain ⟨A9, c9, rfl⟩ := Kd.R_slice ho; have hM1 := blk_grown HD11.out.m hg (Kd.R_ne HD11.out.nx HD11.out.m (by decide)); have hfz := blk_frozen hM1 4; have hcl : w12.cell? ⟨M, 4, none⟩ = some (.slice An nx1.length cn) := (blk_cell hM1 4).trans rfl; have HD12 := Aside0.mk (DetAt.nextAp HD11.out ho hb hg hat); clear ho hb hg hat hM1)))
                            clear hm4 hcl hfz
                            go_roundw
                            case rel =>
                              refine ⟨x + 1, row1 ++ [t], nx1 ++ [(row1.length : Int)], _, by go_num, ⟨by have := HLT.out; omega⟩, HH2, by simpa using HD12, ⟨?_⟩, ⟨?_⟩, ⟨?_⟩, ⟨?_, ?_⟩⟩
                              · intro q hq
                                rcases List.mem_append.1 hq with hq | hq
                                · exact HSS.out q hq
                                · simp only [List.mem_singleton] at hq; rw [hq]; exact HT8.out
                              · exact List.nodup_append.2 ⟨HND.out, by simp, fun a ha b hb he => by simp only [List.mem_singleton] at hb; exact not_mem_of_none hfi (by rw [← hb, ← he]; exact ha)⟩
                              · have h1 := HRL.out
                                have h2 : ¬ row1.length = 1024 := by intro h; rw [h] at e4b; cases e4b
                                simp only [List.length_append, List.length_singleton]
                                omega
                              · have := HRI.out.1
                                simp only [List.length_append, List.length_singleton]
                                omega
                              · rw [List.getD_eq_getElem?_getD, List.getElem?_append_left HRI.out.1, ← List.getD_eq_getElem?_getD]
                                exact HRI.out.2
                            case measure => have := HLT.out; simp [intOf]; omega
                      · rw [if_neg e3] at H; exact absurd H (by simp)
                  · have H := HIN.out
                    rw [List.drop_of_length_le (by simp; omega)] at H
                    simp only [detIn, Option.some.injEq] at H
                    subst H
                    have hlt' : ¬ ((x : Int) < K) := by omega
                    have hr := HNX.out
                    simp only [] at hr
                    go_wp2
                    go_roundg k1
                    case rel => exact ⟨i + 1, row1, nx1, _, out2, _, by go_num, ⟨hr⟩, ⟨by have := HK1.out; omega⟩, HD, HSS, HND, HRL⟩
                    case measure => have := HK1.out; omega
            · rw [if_neg e2] at H; exact absurd H (by simp)
          · rw [if_neg e1] at H
            have hlt' : ¬ ((i : Int) < (row.length : Int)) := by omega
            simp only [Option.some.injEq] at H
            subst H
            have hr := HRES.out
            simp only [Option.some.injEq, Prod.mk.injEq] at hr
            obtain ⟨rfl, rfl, rfl, rfl, rfl, rfl, rfl⟩ := hr
            obtain ⟨Ar, cr, rfl⟩ := Kd.R_slice HD.out.row
            obtain ⟨An, cn, rfl⟩ := Kd.R_slice HD.out.nx
            obtain ⟨Ao, co, rfl⟩ := Kd.R_slice HD.out.out
            have hfz := blk_frozen HD.out.m 3
            have hcl : wr.cell? ⟨M, 3, none⟩ = some (.int .i64 0) := (blk_cell HD.out.m 3).trans rfl
            have hM2 := blk_put HD.out.m 3 (.int .i64 (row.length : Int)) (cs' := #[.int .i64 1, .int .i64 K, .int .i64 2, .int .i64 (row.length : Int), .slice An nx.length cn, .slice Ao out.length co]) rfl
            have hZr := blk_below HZ5.out HD.out.below
            have hMZ : M ≠ w.heap.size + 1 := by
              have h1 := HD.out.hM
              have h2 := blk_lt HZ5.out
              omega
            have hZ2 := blk_far hZr (p := ⟨M, 3, none⟩) (fun e => hMZ e.symm) (.int .i64 (row.length : Int))
            have hone : (#[.int .i64 1, .int .i64 K, .int .i64 2, .int .i64 (row.length : Int), .slice An nx.length cn, .slice Ao out.length co] : Array Value).all (·.oneCell') = true := by simp [Value.oneCell']
            go_wp2_with (first | ((with_reducible refine gate_dst (N := 97) rfl ?_); (refine wpList_load_row rfl 43 (.tmp 10) rfl M rfl 43 #[.int .i64 1, .int .i64 K, .int .i64 2, .int .i64 (row.length : Int), .slice An nx.length cn, .slice Ao out.length co] (0, 0) _ hM2 Try.underlying43 rfl ?_ ?_; (focus (rw [i43]; rfl)))) | ((with_reducible refine gate_store (t := 43) (p := 2) rfl ?_); (refine wpList_store_rowTo rfl 43 (.tmp 2) (.tmp 97) rfl rfl (w.heap.size + 1) #[.int .i64 1, .int .i64 K, .int .i64 2, .int .i64 (row.length : Int), .slice An nx.length cn, .slice Ao out.length co] rfl rfl 43 _ hZ2 ?_ rfl hone ?_; (focus (rw [i43]; rfl)))))
            have hblk := setRow_heap _ (w.heap.size + 1) _ #[.int .i64 1, .int .i64 K, .int .i64 2, .int .i64 (row.length : Int), .slice An nx.length cn, .slice Ao out.length co] 43 (0, 0) hZ2
            try simp only [Exit.inBlock, Exit.then]
            refine bodyPost_ret (results_ct rfl _ _ (w.heap.size + 1) 43 #[.int .i64 1, .int .i64 K, .int .i64 2, .int .i64 (row.length : Int), .slice An nx.length cn, .slice Ao out.length co] (0, 0) _ rfl hblk Try.underlying43 rfl (by rw [i43]; rfl)) rfl ?_
            have hb5 : w.heap.size ≤ W5.heap.size := HB5.out.size
            have keep : ∀ (v : Value) (xs : List Int), Kd.R (Kd.int .i64) 3 wr W5.heap.size (fun _ => True) v xs → Kd.R (Kd.int .i64) 3 ((wr.setCell ⟨M, 3, none⟩ (.int .i64 (row.length : Int))).setRow (w.heap.size + 1) #[.int .i64 1, .int .i64 K, .int .i64 2, .int .i64 (row.length : Int), .slice An nx.length cn, .slice Ao out.length co]) w.heap.size (fun _ => True) v xs := by
              intro v xs h
              have h1 := Kd.R_far (Kd.R_tight rfl h) (p := ⟨M, 3, none⟩) (fun k hk he => Kd.R_ne h HD.out.m (by decide) (by rw [← hk]; show some M = some k; rw [he])) (.int .i64 (row.length : Int))
              have h2 := Kd.R_grown h1 (grown_setRow _ (w.heap.size + 1) #[.int .i64 1, .int .i64 K, .int .i64 2, .int .i64 (row.length : Int), .slice An nx.length cn, .slice Ao out.length co]) (fun k hk he => Kd.R_ne h hZr (by decide) (by rw [← hk]; exact he.symm))
              exact Kd.R_mono (Kd.R_lower h2 hb5) (fun _ _ => trivial)
            refine ⟨_, _, rfl, Kd.R_reok rfl (keep _ _ HD.out.nx) (fun k hk he => HD.out.apart k hk he.symm), Kd.R_reok rfl (keep _ _ HD.out.out) (fun k hk he => HD.out.apart k he.symm hk), ?_⟩
            exact below_setRow (below_then HB5.out hb5 (below_set HD.out.below HD.out.hM)) (by omega) _
end Go.Proofs.Ytkaefgmgcghhiaa.X
end

section
namespace Go.Proofs.Ytkaefgmgcghhiaa.X
open Go.RowKit Go.Proofs.YtkaefgmgcghhiaaW.PrintWords Go.Proofs.YtkaefgmgcghhiaaW.PrintLast Go.Proofs.YtkaefgmgcghhiaaW.PrintMore
open Go.Proofs.Ytkaefgmgcghhiaa
def mtI (K s : Int) (x : Nat) : Int := wrap64 (wrap64 (s * K) + (x : Int))
def okP (q : Int × Int) : Bool := decide (0 ≤ q.1) && decide (q.1 < 1099511627776) && (decide (0 ≤ q.2) && decide (q.2 < 1099511627776))
theorem okP_is {q : Int × Int} (h : okP q = true) : IsPair q := by
  simp only [okP, Bool.and_eq_true, decide_eq_true_eq] at h
  exact ⟨h.1, h.2⟩
def mtIn (K : Int) (aN bN : List Int) (p : Int × Int) : List Nat → List (Int × Int) → List Int → Option (Option (List (Int × Int) × List Int))
  | [], row, nx => some (some (row, nx))
  | x :: r, row, nx => if (0 ≤ mtI K p.1 x ∧ mtI K p.1 x < (aN.length : Int)) ∧ (0 ≤ mtI K p.2 x ∧ mtI K p.2 x < (bN.length : Int)) then
      (if okP (rd aN (mtI K p.1 x), rd bN (mtI K p.2 x)) = true ∧ nx.length < 1099511627776 then (match row.findIdx? (· == (rd aN (mtI K p.1 x), rd bN (mtI K p.2 x))) with
        | some j => mtIn K aN bN p r row (nx ++ [(j : Int)])
        | none => if row.length = 1024 then some none else mtIn K aN bN p r (row ++ [(rd aN (mtI K p.1 x), rd bN (mtI K p.2 x))]) (nx ++ [(row.length : Int)])) else none) else none
def mtO (aO bO : List Int) (op : Int) (p : Int × Int) : Int := Go.bits .and .i64 (shr .i64 op (wrap64 (wrap64 (2 * rd aO p.1) + rd bO p.2))) 1
def mtF (K : Int) (aN aO bN bO : List Int) (op : Int) : Nat → Nat → List (Int × Int) → List Int → List Int → Option (Option (List (Int × Int) × List Int × List Int))
  | 0, _, _, _, _ => none
  | q + 1, i, row, nx, out => if i < row.length then
      (if ((0 ≤ (row.getD i (0, 0)).1 ∧ (row.getD i (0, 0)).1 < (aO.length : Int)) ∧ (0 ≤ (row.getD i (0, 0)).2 ∧ (row.getD i (0, 0)).2 < (bO.length : Int))) ∧ 0 ≤ wrap64 (wrap64 (2 * rd aO (row.getD i (0, 0)).1) + rd bO (row.getD i (0, 0)).2) ∧ out.length < 1099511627776 then
        (match mtIn K aN bN (row.getD i (0, 0)) (List.range K.toNat) row nx with
        | none => none
        | some none => some none
        | some (some (row1, nx1)) => mtF K aN aO bN bO op q (i + 1) row1 nx1 (out ++ [mtO aO bO op (row.getD i (0, 0))])) else none)
      else some (some (row, nx, out))
def mtG (k : Nat) (aK aS aO aN : Int) (anx aout : List Int) (bK bS bO bN : Int) (bnx bout : List Int) (op : Int) : Option (Int × Int × Int × Int × List Int × List Int × Int) :=
  match machine_Check.f k aK aS aO aN anx aout with
  | none => none
  | some (_, e1) => if e1 ≠ 0 then some (0, 0, 0, 0, [], [], e1) else match machine_Check.f k bK bS bO bN bnx bout with
    | none => none
    | some (_, e2) => if e2 ≠ 0 then some (0, 0, 0, 0, [], [], e2) else
      if aK ≠ 1 ∨ bK ≠ 1 then some (0, 0, 0, 0, [], [], 30) else if aS ≠ bS ∨ op < 0 ∨ op > 15 then some (0, 0, 0, 0, [], [], 1) else
      match mtF aS anx aout bnx bout op k 0 [(0, 0)] [] [] with
      | none => none
      | some none => some (0, 0, 0, 0, [], [], 3)
      | some (some (row, nx, out)) => some (1, aS, 2, (row.length : Int), nx, out, 0)
/-- The four blocks ahead of the looking. -/
structure MtAt (w : World) (A B : Array Value) (W : World) : Prop where
  below : Below w.heap.size w W
  a : W.heap[w.heap.size]? = some (.cells A 43 (0, 0))
  b : W.heap[w.heap.size + 1]? = some (.cells B 43 (0, 0))
  z : W.heap[w.heap.size + 1 + 1]? = some (.cells zero43 43 (0, 0))
  ab : W.heap[w.heap.size + 1 + 1 + 1]? = some (.cells (A ++ B) 43 (0, 0))
theorem MtAt.on {w W W1 : World} {A B : Array Value} (h : MtAt w A B W) (hb : Below W.heap.size W W1) : MtAt w A B W1 := ⟨below_step h.below hb, blk_below h.a hb, blk_below h.b hb, blk_below h.z hb, blk_below h.ab hb⟩
theorem mt_made (w : World) (A B : Array Value) : MtAt w A B ((((w.alloc (.cells A 43)).alloc (.cells B 43)).alloc (.cells zero43 43)).alloc (.cells (A ++ B) 43)) := by
  have ha := blk_new w (.cells A 43)
  have hb : ((w.alloc (.cells A 43)).alloc (.cells B 43)).heap[w.heap.size + 1]? = some (.cells B 43 (0, 0)) := by
    have h := blk_new (w.alloc (.cells A 43)) (.cells B 43)
    have e : (w.alloc (.cells A 43)).heap.size = w.heap.size + 1 := by simp
    rw [e] at h
    exact h
  have hz : (((w.alloc (.cells A 43)).alloc (.cells B 43)).alloc (.cells zero43 43)).heap[w.heap.size + 1 + 1]? = some (.cells zero43 43 (0, 0)) := by
    have h := blk_new ((w.alloc (.cells A 43)).alloc (.cells B 43)) (.cells zero43 43)
    have e : ((w.alloc (.cells A 43)).alloc (.cells B 43)).heap.size = w.heap.size + 1 + 1 := by simp
    rw [e] at h
    exact h
  have hab : ((((w.alloc (.cells A 43)).alloc (.cells B 43)).alloc (.cells zero43 43)).alloc (.cells (A ++ B) 43)).heap[w.heap.size + 1 + 1 + 1]? = some (.cells (A ++ B) 43 (0, 0)) := by
    have h := blk_new (((w.alloc (.cells A 43)).alloc (.cells B 43)).alloc (.cells zero43 43)) (.cells (A ++ B) 43)
    have e : (((w.alloc (.cells A 43)).alloc (.cells B 43)).alloc (.cells zero43 43)).heap.size = w.heap.size + 1 + 1 + 1 := by simp
    rw [e] at h
    exact h
  exact ⟨below_alloc (below_alloc (below_alloc (below_alloc (Below.refl _ _) _) _) _) _, blk_alloc (blk_alloc (blk_alloc ha _) _) _, blk_alloc (blk_alloc hb _) _, blk_alloc hz _, hab⟩
theorem cell_al {w : World} {o : Obj} {p : Addr} {v : Value} (h : w.cell? p = some v) : (w.alloc o).cell? p = some v := (World.cell?_alloc_lt _ _ _ (World.block_lt_of_cell? _ _ h)).trans h
def MtPost (w : World) (r1 r2 r3 r4 : Int) (r5 r6 : List Int) (r7 : Int) (e : Ending) (w' : World) : Prop := ∃ v4_ v5_ : Value, e = .returned (.tuple #[.agg #[.int .i64 r1, .int .i64 r2, .int .i64 r3, .int .i64 r4, v4_, v5_], .int .i64 r7]) ∧ Kd.R (Kd.int .i64) 3 w' w.heap.size (fun k_ => some k_ ≠ (v5_ : Value).ownBlock) v4_ r5 ∧ Kd.R (Kd.int .i64) 3 w' w.heap.size (fun k_ => some k_ ≠ (v4_ : Value).ownBlock) v5_ r6 ∧ Below w.heap.size w w'
set_option maxHeartbeats 8000000 in
set_option maxRecDepth 100000 in
theorem Meet_walk (k : Nat) (aK aS aO aN : Int) (A4 : Option Addr) (c4 : Nat) (anx : List Int) (A5 : Option Addr) (c5 : Nat) (aout : List Int) (bK bS bO bN : Int) (B4 : Option Addr) (d4 : Nat) (bnx : List Int) (B5 : Option Addr) (d5 : Nat) (bout : List Int) (op : Int) (r1 r2 r3 r4 : Int) (r5 r6 : List Int) (r7 : Int) (w : World)
    (ha4 : Kd.C (Kd.int .i64) w A4 anx.length anx) (hc4 : anx.length ≤ c4) (ha5 : Kd.C (Kd.int .i64) w A5 aout.length aout) (hc5 : aout.length ≤ c5) (hb4 : Kd.C (Kd.int .i64) w B4 bnx.length bnx) (hd4 : bnx.length ≤ d4) (hb5 : Kd.C (Kd.int .i64) w B5 bout.length bout) (hd5 : bout.length ≤ d5)
    (h : mtG k aK aS aO aN anx aout bK bS bO bN bnx bout op = some (r1, r2, r3, r4, r5, r6, r7)) :
    Calls Try.prog 30 #[.agg #[.int .i64 aK, .int .i64 aS, .int .i64 aO, .int .i64 aN, .slice A4 anx.length c4, .slice A5 aout.length c5], .agg #[.int .i64 bK, .int .i64 bS, .int .i64 bO, .int .i64 bN, .slice B4 bnx.length d4, .slice B5 bout.length d5], .int .i64 op] w (MtPost w r1 r2 r3 r4 r5 r6 r7) := by
  have hu43 := Try.underlying43
  have hu104 := Try.underlying104
  unfold mtG at h
  cases hk1 : machine_Check.f k aK aS aO aN anx aout with
  | none => rw [hk1] at h; exact absurd h (by simp)
  | some p1 =>
  obtain ⟨at1, e1⟩ := p1
  rw [hk1] at h
  simp only [] at h
  have hm1 := fun (W : World) (hb : Below w.heap.size w W) => machine_Check.calls k aK aS aO aN A4 c4 anx A5 c5 aout at1 e1 W (Kd.C_below ha4 hb) hc4 (Kd.C_below ha5 hb) hc5 hk1
  obtain ⟨at2, e2, hk2⟩ : ∃ at2 e2, e1 = 0 → machine_Check.f k bK bS bO bN bnx bout = some (at2, e2) := by
    by_cases q : e1 ≠ 0
    · exact ⟨0, 0, fun h => absurd h q⟩
    · rw [if_neg q] at h
      cases hk2 : machine_Check.f k bK bS bO bN bnx bout with
      | none => rw [hk2] at h; exact absurd h (by simp)
      | some p2 => exact ⟨p2.1, p2.2, fun _ => rfl⟩
  have hm2 := fun (hz : e1 = 0) (W : World) (hb : Below w.heap.size w W) => machine_Check.calls k bK bS bO bN B4 d4 bnx B5 d5 bout at2 e2 W (Kd.C_below hb4 hb) hd4 (Kd.C_below hb5 hb) hd5 (hk2 hz)
  have HH := Aside0.mk h
  have HM1 := Aside0.mk hm1
  have HM2 := Aside0.mk hm2
  have HK2 := Aside0.mk hk2
  have HAR := Aside0.mk (And.intro (And.intro ha4 ha5) (And.intro hb4 hb5))
  clear h hm1 hm2 hk1 hk2 ha4 ha5 hb4 hb5 hc4 hc5 hd4 hd5
  obtain ⟨z43, i43⟩ := zero_of_info info43
  go_enter Try.func30, Try.ntmps30
  go_wp2
  have HM0 : Aside0 (MtAt w #[.int .i64 aK, .int .i64 aS, .int .i64 aO, .int .i64 aN, .slice A4 anx.length c4, .slice A5 aout.length c5] #[.int .i64 bK, .int .i64 bS, .int .i64 bO, .int .i64 bN, .slice B4 bnx.length d4, .slice B5 bout.length d5] ((((w.alloc (.cells #[.int .i64 aK, .int .i64 aS, .int .i64 aO, .int .i64 aN, .slice A4 anx.length c4, .slice A5 aout.length c5] 43)).alloc (.cells #[.int .i64 bK, .int .i64 bS, .int .i64 bO, .int .i64 bN, .slice B4 bnx.length d4, .slice B5 bout.length d5] 43)).alloc (.cells zero43 43)).alloc (.cells (#[.int .i64 aK, .int .i64 aS, .int .i64 aO, .int .i64 aN, .slice A4 anx.length c4, .slice A5 aout.length c5] ++ #[.int .i64 bK, .int .i64 bS, .int .i64 bO, .int .i64 bN, .slice B4 bnx.length d4, .slice B5 bout.length d5]) 43))) := ⟨mt_made w _ _⟩
  go_loopw [26] (fun v26 wr => ∃ j : Nat, v26 = .int .i64 (j : Int) ∧ Aside0 (j ≤ 2) ∧ Aside0 (MtAt w #[.int .i64 aK, .int .i64 aS, .int .i64 aO, .int .i64 aN, .slice A4 anx.length c4, .slice A5 aout.length c5] #[.int .i64 bK, .int .i64 bS, .int .i64 bO, .int .i64 bN, .slice B4 bnx.length d4, .slice B5 bout.length d5] wr) ∧ Aside0 ((1 ≤ j → e1 = 0) ∧ (2 ≤ j → e2 = 0))) (fun v26 _ => 2 - (intOf v26).toNat)
  case atStart => exact ⟨0, rfl, ⟨by omega⟩, HM0, ⟨fun h => by omega, fun h => by omega⟩⟩
  case round =>
    clear HM0
    obtain ⟨j, rfl, HJ, HM, HE⟩ := hrel
    have hj3 : j = 0 ∨ j = 1 ∨ j = 2 := by have := HJ.out; omega
    rcases hj3 with rfl | rfl | rfl
    ·
      have hz := HM.out.z
      have hx0 : wr.cell? ⟨w.heap.size + 1 + 1 + 1, 0, none⟩ = some (.int .i64 aK) := (blk_cell HM.out.ab 0).trans rfl
      have hx1 : wr.cell? ⟨w.heap.size + 1 + 1 + 1, 1, none⟩ = some (.int .i64 aS) := (blk_cell HM.out.ab 1).trans rfl
      have hx2 : wr.cell? ⟨w.heap.size + 1 + 1 + 1, 2, none⟩ = some (.int .i64 aO) := (blk_cell HM.out.ab 2).trans rfl
      have hx3 : wr.cell? ⟨w.heap.size + 1 + 1 + 1, 3, none⟩ = some (.int .i64 aN) := (blk_cell HM.out.ab 3).trans rfl
      have hx4 : wr.cell? ⟨w.heap.size + 1 + 1 + 1, 4, none⟩ = some (.slice A4 anx.length c4) := (blk_cell HM.out.ab 4).trans rfl
      have hx5 : wr.cell? ⟨w.heap.size + 1 + 1 + 1, 5, none⟩ = some (.slice A5 aout.length c5) := (blk_cell HM.out.ab 5).trans rfl
      by_cases q : e1 ≠ 0
      · have qb : (e1 != 0) = true := by simpa using q
        go_wp2_with (first
          | (go_at_call 67; with_reducible refine (HM1.out _ (below_alloc HM.out.below _)).mono ?_
             rintro e w1 ⟨rfl, hb1⟩
             have HM1b := Aside0.mk ((HM.out.on (below_alloc (Below.refl _ _) _)).on hb1)
             clear hb1)
          | ((with_reducible refine gate_store (t := 43) (p := 6) rfl ?_)
             refine wpList_store_rowTo rfl 43 (.tmp 6) (.tmp 37) rfl rfl (w.heap.size + 1 + 1) zero43 rfl rfl 43 _ HM1b.out.z ?_ rfl zero43_one ?_
             (focus (rw [i43]; rfl))))
        have hblk := setRow_heap w1 (w.heap.size + 1 + 1) _ zero43 43 (0, 0) HM1b.out.z
        try simp only [Exit.inBlock, Exit.then]
        refine bodyPost_ret (results_ct rfl _ _ (w.heap.size + 1 + 1) 43 zero43 (0, 0) _ rfl hblk Try.underlying43 rfl (by rw [i43]; rfl)) rfl ?_
        have hr := HH.out
        rw [if_pos q] at hr
        simp only [Option.some.injEq, Prod.mk.injEq] at hr
        obtain ⟨rfl, rfl, rfl, rfl, rfl, rfl, rfl⟩ := hr
        exact ⟨_, _, rfl, Kd.R_nil _ _ _ _ _, Kd.R_nil _ _ _ _ _, below_setRow HM1b.out.below (by omega) _⟩
      · have qz : e1 = 0 := by omega
        have qb : (e1 != 0) = false := by simp [qz]
        go_wp2_with (first
            | (go_at_call 67; with_reducible refine (HM1.out _ (below_alloc HM.out.below _)).mono ?_
               rintro e w1 ⟨rfl, hb1⟩
               have HM1b := Aside0.mk ((HM.out.on (below_alloc (Below.refl _ _) _)).on hb1)
               clear hb1))
        go_roundw
        case rel => exact ⟨1, by go_num, ⟨by omega⟩, HM1b, ⟨fun _ => qz, fun h => by omega⟩⟩
        case measure => simp [intOf]
    ·
      have hz := HM.out.z
      have hx0 : wr.cell? ⟨w.heap.size + 1 + 1 + 1, 6, none⟩ = some (.int .i64 bK) := (blk_cell HM.out.ab 6).trans rfl
      have hx1 : wr.cell? ⟨w.heap.size + 1 + 1 + 1, 7, none⟩ = some (.int .i64 bS) := (blk_cell HM.out.ab 7).trans rfl
      have hx2 : wr.cell? ⟨w.heap.size + 1 + 1 + 1, 8, none⟩ = some (.int .i64 bO) := (blk_cell HM.out.ab 8).trans rfl
      have hx3 : wr.cell? ⟨w.heap.size + 1 + 1 + 1, 9, none⟩ = some (.int .i64 bN) := (blk_cell HM.out.ab 9).trans rfl
      have hx4 : wr.cell? ⟨w.heap.size + 1 + 1 + 1, 10, none⟩ = some (.slice B4 bnx.length d4) := (blk_cell HM.out.ab 10).trans rfl
      have hx5 : wr.cell? ⟨w.heap.size + 1 + 1 + 1, 11, none⟩ = some (.slice B5 bout.length d5) := (blk_cell HM.out.ab 11).trans rfl
      by_cases q : e2 ≠ 0
      · have qb : (e2 != 0) = true := by simpa using q
        go_wp2_with (first
          | (go_at_call 67; with_reducible refine ((HM2.out (HE.out.1 (by omega))) _ (below_alloc HM.out.below _)).mono ?_
             rintro e w1 ⟨rfl, hb1⟩
             have HM1b := Aside0.mk ((HM.out.on (below_alloc (Below.refl _ _) _)).on hb1)
             clear hb1)
          | ((with_reducible refine gate_store (t := 43) (p := 6) rfl ?_)
             refine wpList_store_rowTo rfl 43 (.tmp 6) (.tmp 37) rfl rfl (w.heap.size + 1 + 1) zero43 rfl rfl 43 _ HM1b.out.z ?_ rfl zero43_one ?_
             (focus (rw [i43]; rfl))))
        have hblk := setRow_heap w1 (w.heap.size + 1 + 1) _ zero43 43 (0, 0) HM1b.out.z
        try simp only [Exit.inBlock, Exit.then]
        refine bodyPost_ret (results_ct rfl _ _ (w.heap.size + 1 + 1) 43 zero43 (0, 0) _ rfl hblk Try.underlying43 rfl (by rw [i43]; rfl)) rfl ?_
        have hr := HH.out
        rw [if_neg (by have := HE.out.1 (by omega); omega), HK2.out (HE.out.1 (by omega))] at hr
        simp only [] at hr
        rw [if_pos q] at hr
        simp only [Option.some.injEq, Prod.mk.injEq] at hr
        obtain ⟨rfl, rfl, rfl, rfl, rfl, rfl, rfl⟩ := hr
        exact ⟨_, _, rfl, Kd.R_nil _ _ _ _ _, Kd.R_nil _ _ _ _ _, below_setRow HM1b.out.below (by omega) _⟩
      · have qz : e2 = 0 := by omega
        have qb : (e2 != 0) = false := by simp [qz]
        go_wp2_with (first
            | (go_at_call 67; with_reducible refine ((HM2.out (HE.out.1 (by omega))) _ (below_alloc HM.out.below _)).mono ?_
               rintro e w1 ⟨rfl, hb1⟩
               have HM1b := Aside0.mk ((HM.out.on (below_alloc (Below.refl _ _) _)).on hb1)
               clear hb1))
        go_roundw
        case rel => exact ⟨2, by go_num, ⟨by omega⟩, HM1b, ⟨fun _ => HE.out.1 (by omega), fun _ => qz⟩⟩
        case measure => simp [intOf]
    · have he1 := HE.out.1 (by omega)
      have he2 := HE.out.2 (by omega)
      have hr := HH.out
      rw [if_neg (by omega), HK2.out he1] at hr
      simp only [] at hr
      rw [if_neg (by omega)] at hr
      have HR := Aside0.mk hr
      clear he1 he2 HM1 HM2 HK2 HH HE HJ
      have p0 : wr.cell? ⟨w.heap.size, 0, none⟩ = some (.int .i64 aK) := (blk_cell HM.out.a 0).trans rfl
      have p1 : wr.cell? ⟨w.heap.size, 1, none⟩ = some (.int .i64 aS) := (blk_cell HM.out.a 1).trans rfl
      have p2 : wr.cell? ⟨w.heap.size, 2, none⟩ = some (.int .i64 aO) := (blk_cell HM.out.a 2).trans rfl
      have p3 : wr.cell? ⟨w.heap.size, 3, none⟩ = some (.int .i64 aN) := (blk_cell HM.out.a 3).trans rfl
      have p4 : wr.cell? ⟨w.heap.size, 4, none⟩ = some (.slice A4 anx.length c4) := (blk_cell HM.out.a 4).trans rfl
      have p5 : wr.cell? ⟨w.heap.size, 5, none⟩ = some (.slice A5 aout.length c5) := (blk_cell HM.out.a 5).trans rfl
      have q0 : wr.cell? ⟨w.heap.size + 1, 0, none⟩ = some (.int .i64 bK) := (blk_cell HM.out.b 0).trans rfl
      have q1 : wr.cell? ⟨w.heap.size + 1, 1, none⟩ = some (.int .i64 bS) := (blk_cell HM.out.b 1).trans rfl
      have q2 : wr.cell? ⟨w.heap.size + 1, 2, none⟩ = some (.int .i64 bO) := (blk_cell HM.out.b 2).trans rfl
      have q3 : wr.cell? ⟨w.heap.size + 1, 3, none⟩ = some (.int .i64 bN) := (blk_cell HM.out.b 3).trans rfl
      have q4 : wr.cell? ⟨w.heap.size + 1, 4, none⟩ = some (.slice B4 bnx.length d4) := (blk_cell HM.out.b 4).trans rfl
      have q5 : wr.cell? ⟨w.heap.size + 1, 5, none⟩ = some (.slice B5 bout.length d5) := (blk_cell HM.out.b 5).trans rfl
      by_cases qk : aK ≠ 1 ∨ bK ≠ 1
      · rw [if_pos qk] at hr
        simp only [Option.some.injEq, Prod.mk.injEq] at hr
        obtain ⟨rfl, rfl, rfl, rfl, rfl, rfl, rfl⟩ := hr
        clear HR
        by_cases qa : aK ≠ 1
        · have qa2 : (aK != 1) = true := by simpa using qa
          go_wp2_with (first
            | ((with_reducible refine gate_store (t := 43) (p := 6) rfl ?_)
               refine wpList_store_rowTo rfl 43 (.tmp 6) (.tmp 49) rfl rfl (w.heap.size + 1 + 1) zero43 rfl rfl 43 _ HM.out.z ?_ rfl zero43_one ?_
               (focus (rw [i43]; rfl))))
          have hblk := setRow_heap wr (w.heap.size + 1 + 1) _ zero43 43 (0, 0) HM.out.z
          try simp only [Exit.inBlock, Exit.then]
          refine bodyPost_ret (results_ct rfl _ _ (w.heap.size + 1 + 1) 43 zero43 (0, 0) _ rfl hblk Try.underlying43 rfl (by rw [i43]; rfl)) rfl ?_
          exact ⟨_, _, rfl, Kd.R_nil _ _ _ _ _, Kd.R_nil _ _ _ _ _, below_setRow HM.out.below (by omega) _⟩
        · have qa2 : (aK != 1) = false := by
            have : aK = 1 := by omega
            simp [this]
          have qb2 : (bK != 1) = true := by
            have : bK ≠ 1 := by omega
            simpa using this
          go_wp2_with (first
            | ((with_reducible refine gate_store (t := 43) (p := 6) rfl ?_)
               refine wpList_store_rowTo rfl 43 (.tmp 6) (.tmp 49) rfl rfl (w.heap.size + 1 + 1) zero43 rfl rfl 43 _ HM.out.z ?_ rfl zero43_one ?_
               (focus (rw [i43]; rfl))))
          have hblk := setRow_heap wr (w.heap.size + 1 + 1) _ zero43 43 (0, 0) HM.out.z
          try simp only [Exit.inBlock, Exit.then]
          refine bodyPost_ret (results_ct rfl _ _ (w.heap.size + 1 + 1) 43 zero43 (0, 0) _ rfl hblk Try.underlying43 rfl (by rw [i43]; rfl)) rfl ?_
          exact ⟨_, _, rfl, Kd.R_nil _ _ _ _ _, Kd.R_nil _ _ _ _ _, below_setRow HM.out.below (by omega) _⟩
      · rw [if_neg qk] at hr
        have hk1 : aK = 1 := by omega
        have hk2 : bK = 1 := by omega
        subst hk1
        subst hk2
        clear qk
        by_cases qo : aS ≠ bS ∨ op < 0 ∨ op > 15
        · rw [if_pos qo] at hr
          simp only [Option.some.injEq, Prod.mk.injEq] at hr
          obtain ⟨rfl, rfl, rfl, rfl, rfl, rfl, rfl⟩ := hr
          clear HR
          by_cases q1 : aS ≠ bS
          · have q2 : (aS != bS) = true := by simpa using q1
            go_wp2_with (first
              | ((with_reducible refine gate_store (t := 43) (p := 6) rfl ?_)
                 refine wpList_store_rowTo rfl 43 (.tmp 6) (.tmp 64) rfl rfl (w.heap.size + 1 + 1) zero43 rfl rfl 43 _ HM.out.z ?_ rfl zero43_one ?_
                 (focus (rw [i43]; rfl))))
            have hblk := setRow_heap wr (w.heap.size + 1 + 1) _ zero43 43 (0, 0) HM.out.z
            try simp only [Exit.inBlock, Exit.then]
            refine bodyPost_ret (results_ct rfl _ _ (w.heap.size + 1 + 1) 43 zero43 (0, 0) _ rfl hblk Try.underlying43 rfl (by rw [i43]; rfl)) rfl ?_
            exact ⟨_, _, rfl, Kd.R_nil _ _ _ _ _, Kd.R_nil _ _ _ _ _, below_setRow HM.out.below (by omega) _⟩
          · have q2 : (aS != bS) = false := by
              have : aS = bS := by omega
              simp [this]
            by_cases q3 : op < 0
            · go_wp2_with (first
                | ((with_reducible refine gate_store (t := 43) (p := 6) rfl ?_)
                   refine wpList_store_rowTo rfl 43 (.tmp 6) (.tmp 64) rfl rfl (w.heap.size + 1 + 1) zero43 rfl rfl 43 _ HM.out.z ?_ rfl zero43_one ?_
                   (focus (rw [i43]; rfl))))
              have hblk := setRow_heap wr (w.heap.size + 1 + 1) _ zero43 43 (0, 0) HM.out.z
              try simp only [Exit.inBlock, Exit.then]
              refine bodyPost_ret (results_ct rfl _ _ (w.heap.size + 1 + 1) 43 zero43 (0, 0) _ rfl hblk Try.underlying43 rfl (by rw [i43]; rfl)) rfl ?_
              exact ⟨_, _, rfl, Kd.R_nil _ _ _ _ _, Kd.R_nil _ _ _ _ _, below_setRow HM.out.below (by omega) _⟩
            · have q4 : 15 < op := by omega
              go_wp2_with (first
                | ((with_reducible refine gate_store (t := 43) (p := 6) rfl ?_)
                   refine wpList_store_rowTo rfl 43 (.tmp 6) (.tmp 64) rfl rfl (w.heap.size + 1 + 1) zero43 rfl rfl 43 _ HM.out.z ?_ rfl zero43_one ?_
                   (focus (rw [i43]; rfl))))
              have hblk := setRow_heap wr (w.heap.size + 1 + 1) _ zero43 43 (0, 0) HM.out.z
              try simp only [Exit.inBlock, Exit.then]
              refine bodyPost_ret (results_ct rfl _ _ (w.heap.size + 1 + 1) 43 zero43 (0, 0) _ rfl hblk Try.underlying43 rfl (by rw [i43]; rfl)) rfl ?_
              exact ⟨_, _, rfl, Kd.R_nil _ _ _ _ _, Kd.R_nil _ _ _ _ _, below_setRow HM.out.below (by omega) _⟩
        · rw [if_neg qo] at hr
          have hs : aS = bS := by omega
          subst hs
          have ho0 : 0 ≤ op := by omega
          have ho1 : op ≤ 15 := by omega
          clear HR qo
          have hmm := @run_makeMap Try.prog
          obtain ⟨z107, i107⟩ := zero_of_info info107
          rename World => W5
          have hp0 := Vm.map_new W5 penc (Value.int .i64)
          cases hd : mtF aS anx aout bnx bout op k 0 [(0, 0)] [] [] with
          | none => rw [hd] at hr; exact absurd hr (by simp)
          | some res =>
          rw [hd] at hr
          have HD0 := Aside0.mk hd
          have HRES := Aside0.mk hr
          clear hr hd
          go_wp2_with (first
            | ((with_reducible refine gate_insert rfl ?_)
               refine Vm.wpList_map_put pair_keys Try.underlying108 rfl (.tmp 65) (.tmp 66) (.const (.int .i64 0)) (.inl rfl) (0, 0) (0 : Int) rfl rfl rfl rfl hp0 (by simp) (by simp [IsPair]) ?_
               intro w6 hp6 hg6
               have HP6 := Aside0.mk (show Vm.MapAt w6 W5.heap.size penc (Value.int .i64) (prOf [(0, 0)]) from hp6)
               have HB6 := Aside0.mk ((below_alloc (Below.refl W5.heap.size W5) (.map #[] 0)).grown hg6 (by simp) (fun k hk => by injection hk with hk; rw [← hk]; exact Nat.le_refl _))
               clear hp6 hg6 hp0)
            | ((with_reducible refine gate_dst (N := 69) rfl ?_)
               refine Kd.R_lit kpair (w0 := W5) W5.heap.size 107 rfl (N := 69) rfl (xs := [((0 : Int), (0 : Int))]) (inner := pairC (0, 0)) (ok := fun _ => True) (okp := fun _ => True) ?hr ?hp (fun _ hk => hk) trivial HB6.out HB6.out.size (by simp) ?_
               (case hr => exact exec_one_pair rfl rfl _)
               (case hp => exact reps_one_pair _)
               intro v7 w7 ho7 hb7 hg7 hnew7
               have HO7 := Aside0.mk ho7
               have HB7 := Aside0.mk hb7
               have HP7 := Aside0.mk (HP6.out.grown hg7 (by simp))
               have hx0 : w7.cell? ⟨w.heap.size, 1, none⟩ = some (.int .i64 aS) := (blk_cell (HM.out.on hb7).a 1).trans rfl
               clear ho7 hb7 hg7 hnew7))
          have hD0 : MeetAt W5 W5.heap.size w7.heap.size aS (prOf [(0, 0)]) [(0, 0)] v7 [] (.slice none 0 0) [] (.slice none 0 0) (w7.alloc (.cells #[.int .i64 1, .int .i64 aS, .int .i64 2, .int .i64 0, .slice none 0 0, .slice none 0 0] 43)) := by
            have hb := below_alloc (Below.refl w7.heap.size w7) (.cells #[.int .i64 1, .int .i64 aS, .int .i64 2, .int .i64 0, .slice none 0 0, .slice none 0 0] 43)
            exact ⟨HP7.out.below hb, Kd.R_below HO7.out hb, blk_new w7 _, Kd.R_nil _ _ _ _ _, Kd.R_nil _ _ _ _ _, fun k hk => by simp [Value.ownBlock] at hk, below_then HB7.out HB7.out.size hb, Nat.le_refl _, HB7.out.size⟩
          have HSS0 : Aside0 (∀ q ∈ [((0 : Int), (0 : Int))], IsPair q) := ⟨fun q hq => by simp only [List.mem_singleton] at hq; rw [hq]; simp [IsPair]⟩
          generalize hmbq : W5.heap.size = mb at hD0 ⊢
          clear HP7 HO7 HB7 HP6 HB6 hx0 hmm hmbq p0 p1 p2 p3 p4 p5 q0 q1 q2 q3 q4 q5
          generalize w7.heap.size = M at hD0 ⊢
          go_loopg [13, 15] k (fun kq v13 v15 wr => ∃ (i : Nat) (row : List (Int × Int)) (nx : List Int) (nxv : Value) (out : List Int) (outv : Value), v15 = .int .i64 (i : Int) ∧ Aside0 (mtF aS anx aout bnx bout op kq i row nx out = some res) ∧ Aside0 (kq ≤ k) ∧ Aside0 (MeetAt W5 mb M aS (prOf row) row v13 nx nxv out outv wr) ∧ Aside0 (∀ q ∈ row, IsPair q) ∧ Aside0 (row.length ≤ 1024))
          case atStart => exact ⟨0, [(0, 0)], [], _, [], _, rfl, HD0, ⟨Nat.le_refl _⟩, ⟨hD0⟩, HSS0, ⟨by simp⟩⟩
          case round =>
            clear hD0 HD0 HSS0
            obtain ⟨i, row, nx, nxv, out, outv, rfl, HF, HK1, HD, HSS, HRL⟩ := hrel
            have hrl := HRL.out
            cases gk with
            | zero => exact absurd HF.out (by simp [mtF])
            | succ k1 =>
              have H := HF.out
              clear HF
              simp only [mtF] at H
              by_cases e1 : i < row.length
              · rw [if_pos e1] at H
                obtain ⟨p, hp⟩ : ∃ p, row.getD i (0, 0) = p := ⟨_, rfl⟩
                have hrow : row[i]? = some p := by rw [← hp]; simp [List.getD_eq_getElem?_getD, List.getElem?_eq_getElem e1]
                rw [hp] at H
                clear hp
                obtain ⟨ps, pt⟩ := p
                obtain ⟨gr, cr, rfl, hc0, hc1⟩ := prow_at HD.out.row i (ps, pt) hrow
                simp only [] at H hc0 hc1
                split at H
                · rename_i e2
                  obtain ⟨⟨⟨e2a, e2b⟩, e2c, e2d⟩, e2e, e2f⟩ := e2
                  cases hin : mtIn aS anx bnx (ps, pt) (List.range aS.toNat) row nx with
                  | none => rw [hin] at H; exact absurd H (by simp)
                  | some ires =>
                    rw [hin] at H
                    have HIN := Aside0.mk hin
                    have HNX := Aside0.mk H
                    have HOL := Aside0.mk e2f
                    clear hin H hrow
                    obtain ⟨Ao, co, rfl⟩ := Kd.R_slice HD.out.out
                    go_wp2
                    have HDD := Aside0.mk (HD.out.low (below_drew1 (Below.refl _ _)))
                    have hrl2 : (row.length : Int) ≤ 1024 := by omega
                    refine start_ (n := 12) (S := fun w' => w'.cell? ⟨gr, i * 2, none⟩ = some (.int .i64 ps) ∧ w'.cell? ⟨gr, i * 2 + 1, none⟩ = some (.int .i64 pt)) (ds := []) #[false, false, false, false, false, false, false, false, false, false, false, false] (by kernel_rfl) rfl rfl ⟨hc0, hc1⟩ (fun hHeld => ?_)
                    refine with_tabW DM18.tab18 DM18.bits18 (fun HT_ HW_ => ?_)
                    generalize wr.drew = wd at HDD hHeld ⊢
                    refine pure_ (i := 0) (N := (some 79)) (v := ?_) (a' := ?_) #[true, false, false, false, false, false, false, false, false, false, false, false] rfl rfl (any_of HT_.out (by kernel_rfl)) (fun _ _ _ h => h) (Or.inl ⟨by rfl, ?_⟩) ?_ ?_
                    rotate_left
                    · intro w'
                      go_simp
                      with_reducible rfl
                    rotate_left
                    · simp only [Act.put, List.setIfInBounds_toArray, List.set_cons_zero, List.set_cons_succ, i64_w, i32_w]
                      rfl
                    refine pure_ (i := 1) (N := (some 80)) (v := ?_) (a' := ?_) #[true, true, false, false, false, false, false, false, false, false, false, false] rfl rfl (any_of HT_.out (by kernel_rfl)) (fun _ _ _ h => h) (Or.inl ⟨by rfl, ?_⟩) ?_ ?_
                    rotate_left
                    · intro w'
                      go_simp
                      with_reducible rfl
                    rotate_left
                    · simp only [Act.put, List.setIfInBounds_toArray, List.set_cons_zero, List.set_cons_succ, i64_w, i32_w]
                      rfl
                    refine pure_ (i := 2) (N := (some 81)) (v := ?_) (a' := ?_) #[true, true, true, false, false, false, false, false, false, false, false, false] rfl rfl (any_of HT_.out (by kernel_rfl)) (fun _ _ _ h => h) (Or.inl ⟨by rfl, ?_⟩) ?_ ?_
                    rotate_left
                    · intro w'
                      go_simp
                      with_reducible rfl
                    rotate_left
                    · simp only [Act.put, List.setIfInBounds_toArray, List.set_cons_zero, List.set_cons_succ, i64_w, i32_w]
                      rfl
                    refine pure_ (i := 3) (N := (some 82)) (v := ?_) (a' := ?_) #[true, true, true, true, false, false, false, false, false, false, false, false] rfl rfl (any_of HT_.out (by kernel_rfl)) (fun _ _ _ h => h) (Or.inl ⟨by rfl, ?_⟩) ?_ ?_
                    rotate_left
                    · intro w'
                      go_simp
                      with_reducible rfl
                    rotate_left
                    · simp only [Act.put, List.setIfInBounds_toArray, List.set_cons_zero, List.set_cons_succ, i64_w, i32_w]
                      rfl
                    refine pure_ (i := 5) (N := (some 84)) (v := ?_) (a' := ?_) #[true, true, true, true, false, true, false, false, false, false, false, false] rfl rfl (any_of HT_.out (by kernel_rfl)) (fun _ _ _ h => h) (Or.inl ⟨by rfl, ?_⟩) ?_ ?_
                    rotate_left
                    · intro w'
                      go_simp
                      with_reducible rfl
                    rotate_left
                    · simp only [Act.put, List.setIfInBounds_toArray, List.set_cons_zero, List.set_cons_succ, i64_w, i32_w]
                      rfl
                    refine pure_ (i := 6) (N := (some 85)) (v := ?_) (a' := ?_) #[true, true, true, true, false, true, true, false, false, false, false, false] rfl rfl (any_of HT_.out (by kernel_rfl)) (fun _ _ _ h => h) (Or.inl ⟨by rfl, ?_⟩) ?_ ?_
                    rotate_left
                    · intro w'
                      go_simp
                      with_reducible rfl
                    rotate_left
                    · simp only [Act.put, List.setIfInBounds_toArray, List.set_cons_zero, List.set_cons_succ, i64_w, i32_w]
                      rfl
                    refine pure_ (i := 7) (N := (some 86)) (v := ?_) (a' := ?_) #[true, true, true, true, false, true, true, true, false, false, false, false] rfl rfl (any_of HT_.out (by kernel_rfl)) (fun _ _ _ h => h) (Or.inl ⟨by rfl, ?_⟩) ?_ ?_
                    rotate_left
                    · intro w'
                      go_simp
                      with_reducible rfl
                    rotate_left
                    · simp only [Act.put, List.setIfInBounds_toArray, List.set_cons_zero, List.set_cons_succ, i64_w, i32_w]
                      rfl
                    refine pure_ (i := 8) (N := (some 87)) (v := ?_) (a' := ?_) #[true, true, true, true, false, true, true, true, true, false, false, false] rfl rfl (any_of HT_.out (by kernel_rfl)) (fun _ _ _ h => h) (Or.inl ⟨by rfl, ?_⟩) ?_ ?_
                    rotate_left
                    · intro w'
                      go_simp
                      with_reducible rfl
                    rotate_left
                    · simp only [Act.put, List.setIfInBounds_toArray, List.set_cons_zero, List.set_cons_succ, i64_w, i32_w]
                      rfl
                    refine take_ (i := 4) (N := (some 83)) (v := ?_) (a' := ?_) #[true, true, true, true, true, true, true, true, true, false, false, false] rfl rfl (take_ofW HT_.out HW_.out (by kernel_rfl)) (fun _ _ _ h => h) (Or.inl ⟨by rfl, ?_⟩) hHeld ?_ ?_
                    rotate_left
                    · rintro w' ⟨s0, s1⟩
                      go_simp
                      with_reducible rfl
                    rotate_left
                    · simp only [Act.put, List.setIfInBounds_toArray, List.set_cons_zero, List.set_cons_succ, i64_w, i32_w]
                      rfl
                    refine pure_ (i := 10) (N := (some 16)) (v := ?_) (a' := ?_) #[true, true, true, true, true, true, true, true, true, false, true, false] rfl rfl (any_of HT_.out (by kernel_rfl)) (fun _ _ _ h => h) (Or.inl ⟨by rfl, ?_⟩) ?_ ?_
                    rotate_left
                    · intro w'
                      go_simp
                      with_reducible rfl
                    rotate_left
                    · simp only [Act.put, List.setIfInBounds_toArray, List.set_cons_zero, List.set_cons_succ, i64_w, i32_w]
                      rfl
                    refine take_ (i := 9) (N := (some 88)) (v := ?_) (a' := ?_) #[true, true, true, true, true, true, true, true, true, true, true, false] rfl rfl (take_ofW HT_.out HW_.out (by kernel_rfl)) (fun _ _ _ h => h) (Or.inl ⟨by rfl, ?_⟩) hHeld ?_ ?_
                    rotate_left
                    · rintro w' ⟨s0, s1⟩
                      go_simp
                      with_reducible rfl
                    rotate_left
                    · simp only [Act.put, List.setIfInBounds_toArray, List.set_cons_zero, List.set_cons_succ, i64_w, i32_w]
                      rfl
                    refine pure_ (i := 11) (N := (some 17)) (v := ?_) (a' := ?_) #[true, true, true, true, true, true, true, true, true, true, true, true] rfl rfl (any_of HT_.out (by kernel_rfl)) (fun _ _ _ h => h) (Or.inl ⟨by rfl, ?_⟩) ?_ ?_
                    rotate_left
                    · intro w'
                      go_simp
                      with_reducible rfl
                    rotate_left
                    · simp only [Act.put, List.setIfInBounds_toArray, List.set_cons_zero, List.set_cons_succ, i64_w, i32_w]
                      rfl
                    refine done_ (done_of HT_.out (by kernel_rfl)) ?_
                    clear hHeld hc0 hc1
                    obtain ⟨adA, eA, hvA⟩ := Kd.at_int (Kd.C_below HAR.out.1.2 (HM.out.on HDD.out.below).below) ps e2a e2b
                    obtain ⟨adB, eB, hvB⟩ := Kd.at_int (Kd.C_below HAR.out.2.2 (HM.out.on HDD.out.below).below) pt e2c e2d
                    subst eA
                    subst eB
                    have hcA : wd.cell? ⟨w.heap.size, 5, none⟩ = some (.slice (some adA) aout.length c5) := (blk_cell (HM.out.on HDD.out.below).a 5).trans rfl
                    have hcB : wd.cell? ⟨w.heap.size + 1, 5, none⟩ = some (.slice (some adB) bout.length d5) := (blk_cell (HM.out.on HDD.out.below).b 5).trans rfl
                    go_wp2
                    refine start_ (n := 21) (S := fun w' => w'.cell? ⟨M, 5, none⟩ = some (.slice Ao out.length co) ∧ w'.cell? ⟨w.heap.size, 5, none⟩ = some (.slice (some adA) aout.length c5) ∧ w'.cell? ⟨w.heap.size + 1, 5, none⟩ = some (.slice (some adB) bout.length d5) ∧ w'.cell? (adA.add ps.toNat) = some (.int .i64 (rd aout ps)) ∧ w'.cell? (adB.add pt.toNat) = some (.int .i64 (rd bout pt))) (ds := [18, 20]) #[false, false, false, false, false, false, false, false, false, false, false, false, false, false, false, false, false, false, false, false, false] (by kernel_rfl) rfl rfl ⟨(blk_cell HDD.out.m 5).trans rfl, hcA, hcB, hvA, hvB⟩ (fun hHeld => ?_)
                    refine with_tabW DM19.tab19 DM19.bits19 (fun HT_ HW_ => ?_)
                    have HDE := Aside0.mk (HDD.out.low (below_drew1 (Below.refl _ _)))
                    generalize wd.drew = we at HDE hHeld ⊢
                    refine pure_ (i := 0) (N := (some 89)) (v := ?_) (a' := ?_) #[true, false, false, false, false, false, false, false, false, false, false, false, false, false, false, false, false, false, false, false, false] rfl rfl (any_of HT_.out (by kernel_rfl)) (fun _ _ _ h => h) (Or.inl ⟨by rfl, ?_⟩) ?_ ?_
                    rotate_left
                    · intro w'
                      go_simp
                      with_reducible rfl
                    rotate_left
                    · simp only [Act.put, List.setIfInBounds_toArray, List.set_cons_zero, List.set_cons_succ, i64_w, i32_w]
                      rfl
                    refine pure_ (i := 2) (N := (some 91)) (v := ?_) (a' := ?_) #[true, false, true, false, false, false, false, false, false, false, false, false, false, false, false, false, false, false, false, false, false] rfl rfl (any_of HT_.out (by kernel_rfl)) (fun _ _ _ h => h) (Or.inl ⟨by rfl, ?_⟩) ?_ ?_
                    rotate_left
                    · intro w'
                      go_simp
                      with_reducible rfl
                    rotate_left
                    · simp only [Act.put, List.setIfInBounds_toArray, List.set_cons_zero, List.set_cons_succ, i64_w, i32_w]
                      rfl
                    refine pure_ (i := 3) (N := (some 92)) (v := ?_) (a' := ?_) #[true, false, true, true, false, false, false, false, false, false, false, false, false, false, false, false, false, false, false, false, false] rfl rfl (any_of HT_.out (by kernel_rfl)) (fun _ _ _ h => h) (Or.inl ⟨by rfl, ?_⟩) ?_ ?_
                    rotate_left
                    · intro w'
                      go_simp
                      with_reducible rfl
                    rotate_left
                    · simp only [Act.put, List.setIfInBounds_toArray, List.set_cons_zero, List.set_cons_succ, i64_w, i32_w]
                      rfl
                    refine pure_ (i := 5) (N := (some 94)) (v := ?_) (a' := ?_) #[true, false, true, true, false, true, false, false, false, false, false, false, false, false, false, false, false, false, false, false, false] rfl rfl (any_of HT_.out (by kernel_rfl)) (fun _ _ _ h => h) (Or.inl ⟨by rfl, ?_⟩) ?_ ?_
                    rotate_left
                    · intro w'
                      go_simp
                      with_reducible rfl
                    rotate_left
                    · simp only [Act.put, List.setIfInBounds_toArray, List.set_cons_zero, List.set_cons_succ, i64_w, i32_w]
                      rfl
                    refine pure_ (i := 9) (N := (some 98)) (v := ?_) (a' := ?_) #[true, false, true, true, false, true, false, false, false, true, false, false, false, false, false, false, false, false, false, false, false] rfl rfl (any_of HT_.out (by kernel_rfl)) (fun _ _ _ h => h) (Or.inl ⟨by rfl, ?_⟩) ?_ ?_
                    rotate_left
                    · intro w'
                      go_simp
                      with_reducible rfl
                    rotate_left
                    · simp only [Act.put, List.setIfInBounds_toArray, List.set_cons_zero, List.set_cons_succ, i64_w, i32_w]
                      rfl
                    refine pure_ (i := 11) (N := (some 100)) (v := ?_) (a' := ?_) #[true, false, true, true, false, true, false, false, false, true, false, true, false, false, false, false, false, false, false, false, false] rfl rfl (any_of HT_.out (by kernel_rfl)) (fun _ _ _ h => h) (Or.inl ⟨by rfl, ?_⟩) ?_ ?_
                    rotate_left
                    · intro w'
                      go_simp
                      with_reducible rfl
                    rotate_left
                    · simp only [Act.put, List.setIfInBounds_toArray, List.set_cons_zero, List.set_cons_succ, i64_w, i32_w]
                      rfl
                    refine take_ (i := 1) (N := (some 90)) (v := ?_) (a' := ?_) #[true, true, true, true, false, true, false, false, false, true, false, true, false, false, false, false, false, false, false, false, false] rfl rfl (take_ofW HT_.out HW_.out (by kernel_rfl)) (fun _ _ _ h => h) (Or.inl ⟨by rfl, ?_⟩) hHeld ?_ ?_
                    rotate_left
                    · rintro w' ⟨s0, s1, s2, s3, s4⟩
                      go_simp
                      with_reducible rfl
                    rotate_left
                    · simp only [Act.put, List.setIfInBounds_toArray, List.set_cons_zero, List.set_cons_succ, i64_w, i32_w]
                      rfl
                    refine take_ (i := 4) (N := (some 93)) (v := ?_) (a' := ?_) #[true, true, true, true, true, true, false, false, false, true, false, true, false, false, false, false, false, false, false, false, false] rfl rfl (take_ofW HT_.out HW_.out (by kernel_rfl)) (fun _ _ _ h => h) (Or.inl ⟨by rfl, ?_⟩) hHeld ?_ ?_
                    rotate_left
                    · rintro w' ⟨s0, s1, s2, s3, s4⟩
                      go_simp
                      with_reducible rfl
                    rotate_left
                    · simp only [Act.put, List.setIfInBounds_toArray, List.set_cons_zero, List.set_cons_succ, i64_w, i32_w]
                      rfl
                    refine pure_ (i := 6) (N := (some 95)) (v := ?_) (a' := ?_) #[true, true, true, true, true, true, true, false, false, true, false, true, false, false, false, false, false, false, false, false, false] rfl rfl (any_of HT_.out (by kernel_rfl)) (fun _ _ _ h => h) (Or.inl ⟨by rfl, ?_⟩) ?_ ?_
                    rotate_left
                    · intro w'
                      go_simp
                      with_reducible rfl
                    rotate_left
                    · simp only [Act.put, List.setIfInBounds_toArray, List.set_cons_zero, List.set_cons_succ, i64_w, i32_w]
                      rfl
                    refine take_ (i := 7) (N := (some 96)) (v := ?_) (a' := ?_) #[true, true, true, true, true, true, true, true, false, true, false, true, false, false, false, false, false, false, false, false, false] rfl rfl (take_ofW HT_.out HW_.out (by kernel_rfl)) (fun _ _ _ h => h) (Or.inl ⟨by rfl, ?_⟩) hHeld ?_ ?_
                    rotate_left
                    · rintro w' ⟨s0, s1, s2, s3, s4⟩
                      go_simp
                      with_reducible rfl
                    rotate_left
                    · simp only [Act.put, List.setIfInBounds_toArray, List.set_cons_zero, List.set_cons_succ, i64_w, i32_w]
                      rfl
                    refine pure_ (i := 8) (N := (some 97)) (v := ?_) (a' := ?_) #[true, true, true, true, true, true, true, true, true, true, false, true, false, false, false, false, false, false, false, false, false] rfl rfl (any_of HT_.out (by kernel_rfl)) (fun _ _ _ h => h) (Or.inl ⟨by rfl, ?_⟩) ?_ ?_
                    rotate_left
                    · intro w'
                      go_simp
                      with_reducible rfl
                    rotate_left
                    · simp only [Act.put, List.setIfInBounds_toArray, List.set_cons_zero, List.set_cons_succ, i64_w, i32_w]
                      rfl
                    refine take_ (i := 10) (N := (some 99)) (v := ?_) (a' := ?_) #[true, true, true, true, true, true, true, true, true, true, true, true, false, false, false, false, false, false, false, false, false] rfl rfl (take_ofW HT_.out HW_.out (by kernel_rfl)) (fun _ _ _ h => h) (Or.inl ⟨by rfl, ?_⟩) hHeld ?_ ?_
                    rotate_left
                    · rintro w' ⟨s0, s1, s2, s3, s4⟩
                      go_simp
                      with_reducible rfl
                    rotate_left
                    · simp only [Act.put, List.setIfInBounds_toArray, List.set_cons_zero, List.set_cons_succ, i64_w, i32_w]
                      rfl
                    refine pure_ (i := 12) (N := (some 101)) (v := ?_) (a' := ?_) #[true, true, true, true, true, true, true, true, true, true, true, true, true, false, false, false, false, false, false, false, false] rfl rfl (any_of HT_.out (by kernel_rfl)) (fun _ _ _ h => h) (Or.inl ⟨by rfl, ?_⟩) ?_ ?_
                    rotate_left
                    · intro w'
                      go_simp
                      with_reducible rfl
                    rotate_left
                    · simp only [Act.put, List.setIfInBounds_toArray, List.set_cons_zero, List.set_cons_succ, i64_w, i32_w]
                      rfl
                    refine take_ (i := 13) (N := (some 102)) (v := ?_) (a' := ?_) #[true, true, true, true, true, true, true, true, true, true, true, true, true, true, false, false, false, false, false, false, false] rfl rfl (take_ofW HT_.out HW_.out (by kernel_rfl)) (fun _ _ _ h => h) (Or.inl ⟨by rfl, ?_⟩) hHeld ?_ ?_
                    rotate_left
                    · rintro w' ⟨s0, s1, s2, s3, s4⟩
                      go_simp
                      with_reducible rfl
                    rotate_left
                    · simp only [Act.put, List.setIfInBounds_toArray, List.set_cons_zero, List.set_cons_succ, i64_w, i32_w]
                      rfl
                    refine pure_ (i := 14) (N := (some 103)) (v := ?_) (a' := ?_) #[true, true, true, true, true, true, true, true, true, true, true, true, true, true, true, false, false, false, false, false, false] rfl rfl (any_of HT_.out (by kernel_rfl)) (fun _ _ _ h => h) (Or.inl ⟨by rfl, ?_⟩) ?_ ?_
                    rotate_left
                    · intro w'
                      go_simp
                      with_reducible rfl
                    rotate_left
                    · simp only [Act.put, List.setIfInBounds_toArray, List.set_cons_zero, List.set_cons_succ, i64_w, i32_w]
                      rfl
                    refine pure_ (i := 15) (N := (some 104)) (v := ?_) (a' := ?_) #[true, true, true, true, true, true, true, true, true, true, true, true, true, true, true, true, false, false, false, false, false] rfl rfl (any_of HT_.out (by kernel_rfl)) (fun _ _ _ h => h) (Or.inl ⟨by rfl, ?_⟩) ?_ ?_
                    rotate_left
                    · intro w'
                      go_simp
                      with_reducible rfl
                    rotate_left
                    · simp only [Act.put, List.setIfInBounds_toArray, List.set_cons_zero, List.set_cons_succ, i64_w, i32_w]
                      rfl
                    refine pure_ (i := 16) (N := (some 105)) (v := ?_) (a' := ?_) #[true, true, true, true, true, true, true, true, true, true, true, true, true, true, true, true, true, false, false, false, false] rfl rfl (any_of HT_.out (by kernel_rfl)) (fun _ _ _ h => h) (Or.inl ⟨by rfl, ?_⟩) ?_ ?_
                    rotate_left
                    · intro w'
                      go_simp
                      with_reducible rfl
                    rotate_left
                    · simp only [Act.put, List.setIfInBounds_toArray, List.set_cons_zero, List.set_cons_succ, i64_w, i32_w]
                      rfl
                    refine one_ (i := 17) (N := (some 106)) #[true, true, true, true, true, true, true, true, true, true, true, true, true, true, true, true, true, true, false, false, false] rfl rfl (one_of HT_.out (by kernel_rfl)) (by decide) (fun K hK => ?_)
                    refine value_ (w1 := ?_) (v := ?_) (by rfl) rfl ?_ ?_
                    rotate_left 2
                    · go_simp
                      constructor
                      · rfl
                      · rfl
                    refine hK.out _ _ ⟨cell_al hHeld.1, cell_al hHeld.2.1, cell_al hHeld.2.2.1, cell_al hHeld.2.2.2.1, cell_al hHeld.2.2.2.2⟩ (fun hHeld => ?_); clear hK K
                    refine norm_ (a' := ?_) ?_ ?_
                    rotate_left
                    · show Act.put _ (some 106) _ = _
                      simp only [Act.put, List.setIfInBounds_toArray, List.set_cons_zero, List.set_cons_succ, i64_w, i32_w]
                      rfl
                    refine last_ (i := 18) (N := (some 107)) #[true, true, true, true, true, true, true, true, true, true, true, true, true, true, true, true, true, true, true, false, false] rfl rfl (one_of HT_.out (by kernel_rfl)) (by decide) (fun K hK => ?_)
                    refine Kd.R_append_step (Kd.int .i64) (w0 := W5) W5.heap.size (by rfl) (.tmp 90) (.tmp 106) 22 3 (.int .i64 0) 8 rfl Try.underlying22 info3 rfl (by decide) (by omega) (.slice Ao out.length co) out (mtO aout bout op (ps, pt)) [.int .i64 (mtO aout bout op (ps, pt))] (fun _ => True) (fun _ => False) rfl rfl rfl (fun _ hk => hk.elim) (fun _ _ => trivial) HDE.out.out HDE.out.below HDE.out.below.size (by have := HOL.out; omega) ?_
                    intro v1 w1 ho hb hg hat
                    obtain ⟨A9, c9, rfl⟩ := Kd.R_slice ho
                    have hM1 := blk_grown HDE.out.m hg (Kd.R_ne HDE.out.out HDE.out.m (by decide))
                    have hfz := blk_frozen hM1 5
                    have hcl : w1.cell? ⟨M, 5, none⟩ = some (.slice Ao out.length co) := (blk_cell hM1 5).trans rfl
                    refine hK.out _ _ ?_; clear hK K
                    refine norm_ (a' := ?_) ?_ ?_
                    rotate_left
                    · show Act.put _ (some 107) _ = _
                      simp only [Act.put, List.setIfInBounds_toArray, List.set_cons_zero, List.set_cons_succ, i64_w, i32_w]
                      rfl
                    refine pure_ (i := 19) (N := (some 108)) (v := ?_) (a' := ?_) #[true, true, true, true, true, true, true, true, true, true, true, true, true, true, true, true, true, true, true, true, false] rfl rfl (any_of HT_.out (by kernel_rfl)) (fun _ _ _ h => h) (Or.inl ⟨by rfl, ?_⟩) ?_ ?_
                    rotate_left
                    · intro w'
                      go_simp
                      with_reducible rfl
                    rotate_left
                    · simp only [Act.put, List.setIfInBounds_toArray, List.set_cons_zero, List.set_cons_succ, i64_w, i32_w]
                      rfl
                    refine last_ (i := 20) (N := none) #[true, true, true, true, true, true, true, true, true, true, true, true, true, true, true, true, true, true, true, true, true] rfl rfl (one_of HT_.out (by kernel_rfl)) (by decide) (fun K hK => ?_)
                    refine skip_ (w1 := ?_) (by rfl) rfl ?_ ?_
                    rotate_left
                    · go_simp
                      rfl
                    refine hK.out _ _ ?_; clear hK K
                    refine done_ (done_of HT_.out (by kernel_rfl)) ?_
                    have HD2 := MeetAt.outAp HDE.out ho hb hg hat
                    simp only [List.length_append, List.length_singleton] at HD2
                    clear ho hb hg hat hM1 hfz hcl hcA hcB hvA hvB hHeld
                    generalize w1.setCell ⟨M, 5, none⟩ (.slice A9 (out.length + 1) c9) = w2 at HD2 ⊢
                    generalize Value.slice A9 (out.length + 1) c9 = ov2 at HD2
                    generalize hout2 : out ++ [mtO aout bout op (ps, pt)] = out2 at HD2 HNX
                    have hx0 : w2.cell? ⟨w.heap.size, 1, none⟩ = some (.int .i64 aS) := (blk_cell (HM.out.on HD2.below).a 1).trans rfl
                    have HD3 := Aside0.mk HD2
                    clear HD2 HDE HDD HD hout2
                    go_wp2
                    clear hx0
                    go_loopw [111, 13] (fun v111 v13 wr2 => ∃ (x : Nat) (row1 : List (Int × Int)) (nx1 : List Int) (nxv1 : Value), v111 = .int .i64 (x : Int) ∧ Aside0 (x ≤ aS.toNat) ∧ Aside0 (mtIn aS anx bnx (ps, pt) ((List.range aS.toNat).drop x) row1 nx1 = some ires) ∧ Aside0 (MeetAt W5 mb M aS (prOf row1) row1 v13 nx1 nxv1 out2 ov2 wr2) ∧ Aside0 (∀ q ∈ row1, IsPair q) ∧ Aside0 (row1.length ≤ 1024) ∧ Aside0 (x ≤ nx1.length)) (fun v111 _ _ => aS.toNat - (intOf v111).toNat)
                    case atStart => exact ⟨0, row, nx, nxv, rfl, ⟨by omega⟩, HIN, HD3, HSS, HRL, ⟨by omega⟩⟩
                    case round =>
                      have hib : i < 1024 := by have := HRL.out; omega
                      clear HIN HD3 HSS HRL hrl hrl2 HOL e2a e2b e2c e2d e2e e2f e1
                      obtain ⟨x, row1, nx1, nxv1, rfl, HX, HIN, HD, HSS, HRL, HXN⟩ := hrel
                      obtain ⟨An, cn, rfl⟩ := Kd.R_slice HD.out.nx
                      obtain ⟨Ar, cr2, rfl⟩ := Kd.R_slice HD.out.row
                      have hrl := HRL.out
                      by_cases hlt : x < aS.toNat
                      · have H := HIN.out
                        have hd : (List.range aS.toNat).drop x = x :: (List.range aS.toNat).drop (x + 1) := by
                          rw [List.drop_eq_getElem_cons (by simpa using hlt)]
                          simp
                        rw [hd] at H
                        clear HIN hd
                        simp only [mtIn] at H
                        have hlt' : (x : Int) < aS := by omega
                        have HLT := Aside0.mk hlt
                        by_cases e3 : (0 ≤ mtI aS ps x ∧ mtI aS ps x < (anx.length : Int)) ∧ (0 ≤ mtI aS pt x ∧ mtI aS pt x < (bnx.length : Int))
                        · rw [if_pos e3] at H
                          obtain ⟨⟨e3a, e3b⟩, e3c, e3d⟩ := e3
                          obtain ⟨adA, eA, hvA⟩ := Kd.at_int (Kd.C_below HAR.out.1.1 (HM.out.on HD.out.below).below) _ e3a e3b
                          obtain ⟨adB, eB, hvB⟩ := Kd.at_int (Kd.C_below HAR.out.2.1 (HM.out.on HD.out.below).below) _ e3c e3d
                          subst eA
                          subst eB
                          generalize rd anx (mtI aS ps x) = na at H hvA
                          generalize rd bnx (mtI aS pt x) = nb at H hvB
                          simp only [mtI] at e3a e3b e3c e3d hvA hvB
                          have hcA : wr.cell? ⟨w.heap.size, 4, none⟩ = some (.slice (some adA) anx.length c4) := (blk_cell (HM.out.on HD.out.below).a 4).trans rfl
                          have hcS : wr.cell? ⟨w.heap.size, 1, none⟩ = some (.int .i64 aS) := (blk_cell (HM.out.on HD.out.below).a 1).trans rfl
                          have hcB : wr.cell? ⟨w.heap.size + 1, 4, none⟩ = some (.slice (some adB) bnx.length d4) := (blk_cell (HM.out.on HD.out.below).b 4).trans rfl
                          have hcT : wr.cell? ⟨w.heap.size + 1, 1, none⟩ = some (.int .i64 aS) := (blk_cell (HM.out.on HD.out.below).b 1).trans rfl
                          by_cases e4 : okP (na, nb) = true ∧ nx1.length < 1099511627776
                          · rw [if_pos e4] at H
                            obtain ⟨e4a, e4b⟩ := e4
                            have HPK := Aside0.mk (okP_is e4a)
                            have hxb : (x : Int) < 1099511627776 := by have := HXN.out; omega
                            have HNL := Aside0.mk e4b
                            have HH2 := Aside0.mk H
                            clear H e4a e4b
                            go_wp2
                            refine start_ (n := 23) (S := fun w' => w'.cell? ⟨w.heap.size, 4, none⟩ = some (.slice (some adA) anx.length c4) ∧ w'.cell? ⟨w.heap.size, 1, none⟩ = some (.int .i64 aS) ∧ w'.cell? ⟨w.heap.size + 1, 4, none⟩ = some (.slice (some adB) bnx.length d4) ∧ w'.cell? ⟨w.heap.size + 1, 1, none⟩ = some (.int .i64 aS) ∧ w'.cell? (adA.add (wrap64 (wrap64 (ps * aS) + (x : Int))).toNat) = some (.int .i64 na) ∧ w'.cell? (adB.add (wrap64 (wrap64 (pt * aS) + (x : Int))).toNat) = some (.int .i64 nb)) (ds := [22]) #[false, false, false, false, false, false, false, false, false, false, false, false, false, false, false, false, false, false, false, false, false, false, false] (by kernel_rfl) rfl rfl ⟨hcA, hcS, hcB, hcT, hvA, hvB⟩ (fun hHeld => ?_)
                            refine with_tabW DM23.tab23 DM23.bits23 (fun HT_ HW_ => ?_)
                            have HDE := Aside0.mk (HD.out.low (below_drew1 (Below.refl _ _)))
                            generalize wr.drew = we at HDE hHeld ⊢
                            refine pure_ (i := 0) (N := (some 114)) (v := ?_) (a' := ?_) #[true, false, false, false, false, false, false, false, false, false, false, false, false, false, false, false, false, false, false, false, false, false, false] rfl rfl (any_of HT_.out (by kernel_rfl)) (fun _ _ _ h => h) (Or.inl ⟨by rfl, ?_⟩) ?_ ?_
                            rotate_left
                            · intro w'
                              go_simp
                              with_reducible rfl
                            rotate_left
                            · simp only [Act.put, List.setIfInBounds_toArray, List.set_cons_zero, List.set_cons_succ, i64_w, i32_w]
                              rfl
                            refine pure_ (i := 2) (N := (some 116)) (v := ?_) (a' := ?_) #[true, false, true, false, false, false, false, false, false, false, false, false, false, false, false, false, false, false, false, false, false, false, false] rfl rfl (any_of HT_.out (by kernel_rfl)) (fun _ _ _ h => h) (Or.inl ⟨by rfl, ?_⟩) ?_ ?_
                            rotate_left
                            · intro w'
                              go_simp
                              with_reducible rfl
                            rotate_left
                            · simp only [Act.put, List.setIfInBounds_toArray, List.set_cons_zero, List.set_cons_succ, i64_w, i32_w]
                              rfl
                            refine pure_ (i := 3) (N := (some 117)) (v := ?_) (a' := ?_) #[true, false, true, true, false, false, false, false, false, false, false, false, false, false, false, false, false, false, false, false, false, false, false] rfl rfl (any_of HT_.out (by kernel_rfl)) (fun _ _ _ h => h) (Or.inl ⟨by rfl, ?_⟩) ?_ ?_
                            rotate_left
                            · intro w'
                              go_simp
                              with_reducible rfl
                            rotate_left
                            · simp only [Act.put, List.setIfInBounds_toArray, List.set_cons_zero, List.set_cons_succ, i64_w, i32_w]
                              rfl
                            refine pure_ (i := 6) (N := (some 120)) (v := ?_) (a' := ?_) #[true, false, true, true, false, false, true, false, false, false, false, false, false, false, false, false, false, false, false, false, false, false, false] rfl rfl (any_of HT_.out (by kernel_rfl)) (fun _ _ _ h => h) (Or.inl ⟨by rfl, ?_⟩) ?_ ?_
                            rotate_left
                            · intro w'
                              go_simp
                              with_reducible rfl
                            rotate_left
                            · simp only [Act.put, List.setIfInBounds_toArray, List.set_cons_zero, List.set_cons_succ, i64_w, i32_w]
                              rfl
                            refine pure_ (i := 10) (N := (some 124)) (v := ?_) (a' := ?_) #[true, false, true, true, false, false, true, false, false, false, true, false, false, false, false, false, false, false, false, false, false, false, false] rfl rfl (any_of HT_.out (by kernel_rfl)) (fun _ _ _ h => h) (Or.inl ⟨by rfl, ?_⟩) ?_ ?_
                            rotate_left
                            · intro w'
                              go_simp
                              with_reducible rfl
                            rotate_left
                            · simp only [Act.put, List.setIfInBounds_toArray, List.set_cons_zero, List.set_cons_succ, i64_w, i32_w]
                              rfl
                            refine pure_ (i := 12) (N := (some 126)) (v := ?_) (a' := ?_) #[true, false, true, true, false, false, true, false, false, false, true, false, true, false, false, false, false, false, false, false, false, false, false] rfl rfl (any_of HT_.out (by kernel_rfl)) (fun _ _ _ h => h) (Or.inl ⟨by rfl, ?_⟩) ?_ ?_
                            rotate_left
                            · intro w'
                              go_simp
                              with_reducible rfl
                            rotate_left
                            · simp only [Act.put, List.setIfInBounds_toArray, List.set_cons_zero, List.set_cons_succ, i64_w, i32_w]
                              rfl
                            refine pure_ (i := 13) (N := (some 127)) (v := ?_) (a' := ?_) #[true, false, true, true, false, false, true, false, false, false, true, false, true, true, false, false, false, false, false, false, false, false, false] rfl rfl (any_of HT_.out (by kernel_rfl)) (fun _ _ _ h => h) (Or.inl ⟨by rfl, ?_⟩) ?_ ?_
                            rotate_left
                            · intro w'
                              go_simp
                              with_reducible rfl
                            rotate_left
                            · simp only [Act.put, List.setIfInBounds_toArray, List.set_cons_zero, List.set_cons_succ, i64_w, i32_w]
                              rfl
                            refine pure_ (i := 16) (N := (some 130)) (v := ?_) (a' := ?_) #[true, false, true, true, false, false, true, false, false, false, true, false, true, true, false, false, true, false, false, false, false, false, false] rfl rfl (any_of HT_.out (by kernel_rfl)) (fun _ _ _ h => h) (Or.inl ⟨by rfl, ?_⟩) ?_ ?_
                            rotate_left
                            · intro w'
                              go_simp
                              with_reducible rfl
                            rotate_left
                            · simp only [Act.put, List.setIfInBounds_toArray, List.set_cons_zero, List.set_cons_succ, i64_w, i32_w]
                              rfl
                            refine take_ (i := 1) (N := (some 115)) (v := ?_) (a' := ?_) #[true, true, true, true, false, false, true, false, false, false, true, false, true, true, false, false, true, false, false, false, false, false, false] rfl rfl (take_ofW HT_.out HW_.out (by kernel_rfl)) (fun _ _ _ h => h) (Or.inl ⟨by rfl, ?_⟩) hHeld ?_ ?_
                            rotate_left
                            · rintro w' ⟨s0, s1, s2, s3, s4, s5⟩
                              go_simp
                              with_reducible rfl
                            rotate_left
                            · simp only [Act.put, List.setIfInBounds_toArray, List.set_cons_zero, List.set_cons_succ, i64_w, i32_w]
                              rfl
                            refine take_ (i := 4) (N := (some 118)) (v := ?_) (a' := ?_) #[true, true, true, true, true, false, true, false, false, false, true, false, true, true, false, false, true, false, false, false, false, false, false] rfl rfl (take_ofW HT_.out HW_.out (by kernel_rfl)) (fun _ _ _ h => h) (Or.inl ⟨by rfl, ?_⟩) hHeld ?_ ?_
                            rotate_left
                            · rintro w' ⟨s0, s1, s2, s3, s4, s5⟩
                              go_simp
                              with_reducible rfl
                            rotate_left
                            · simp only [Act.put, List.setIfInBounds_toArray, List.set_cons_zero, List.set_cons_succ, i64_w, i32_w]
                              rfl
                            refine pure_ (i := 5) (N := (some 119)) (v := ?_) (a' := ?_) #[true, true, true, true, true, true, true, false, false, false, true, false, true, true, false, false, true, false, false, false, false, false, false] rfl rfl (any_of HT_.out (by kernel_rfl)) (fun _ _ _ h => h) (Or.inl ⟨by rfl, ?_⟩) ?_ ?_
                            rotate_left
                            · intro w'
                              go_simp
                              with_reducible rfl
                            rotate_left
                            · simp only [Act.put, List.setIfInBounds_toArray, List.set_cons_zero, List.set_cons_succ, i64_w, i32_w]
                              rfl
                            refine pure_ (i := 7) (N := (some 121)) (v := ?_) (a' := ?_) #[true, true, true, true, true, true, true, true, false, false, true, false, true, true, false, false, true, false, false, false, false, false, false] rfl rfl (any_of HT_.out (by kernel_rfl)) (fun _ _ _ h => h) (Or.inl ⟨by rfl, ?_⟩) ?_ ?_
                            rotate_left
                            · intro w'
                              go_simp
                              with_reducible rfl
                            rotate_left
                            · simp only [Act.put, List.setIfInBounds_toArray, List.set_cons_zero, List.set_cons_succ, i64_w, i32_w]
                              rfl
                            refine pure_ (i := 8) (N := (some 122)) (v := ?_) (a' := ?_) #[true, true, true, true, true, true, true, true, true, false, true, false, true, true, false, false, true, false, false, false, false, false, false] rfl rfl (any_of HT_.out (by kernel_rfl)) (fun _ _ _ h => h) (Or.inl ⟨by rfl, ?_⟩) ?_ ?_
                            rotate_left
                            · intro w'
                              go_simp
                              with_reducible rfl
                            rotate_left
                            · simp only [Act.put, List.setIfInBounds_toArray, List.set_cons_zero, List.set_cons_succ, i64_w, i32_w]
                              rfl
                            refine take_ (i := 9) (N := (some 123)) (v := ?_) (a' := ?_) #[true, true, true, true, true, true, true, true, true, true, true, false, true, true, false, false, true, false, false, false, false, false, false] rfl rfl (take_ofW HT_.out HW_.out (by kernel_rfl)) (fun _ _ _ h => h) (Or.inl ⟨by rfl, ?_⟩) hHeld ?_ ?_
                            rotate_left
                            · rintro w' ⟨s0, s1, s2, s3, s4, s5⟩
                              go_simp
                              with_reducible rfl
                            rotate_left
                            · simp only [Act.put, List.setIfInBounds_toArray, List.set_cons_zero, List.set_cons_succ, i64_w, i32_w]
                              rfl
                            refine take_ (i := 11) (N := (some 125)) (v := ?_) (a' := ?_) #[true, true, true, true, true, true, true, true, true, true, true, true, true, true, false, false, true, false, false, false, false, false, false] rfl rfl (take_ofW HT_.out HW_.out (by kernel_rfl)) (fun _ _ _ h => h) (Or.inl ⟨by rfl, ?_⟩) hHeld ?_ ?_
                            rotate_left
                            · rintro w' ⟨s0, s1, s2, s3, s4, s5⟩
                              go_simp
                              with_reducible rfl
                            rotate_left
                            · simp only [Act.put, List.setIfInBounds_toArray, List.set_cons_zero, List.set_cons_succ, i64_w, i32_w]
                              rfl
                            refine take_ (i := 14) (N := (some 128)) (v := ?_) (a' := ?_) #[true, true, true, true, true, true, true, true, true, true, true, true, true, true, true, false, true, false, false, false, false, false, false] rfl rfl (take_ofW HT_.out HW_.out (by kernel_rfl)) (fun _ _ _ h => h) (Or.inl ⟨by rfl, ?_⟩) hHeld ?_ ?_
                            rotate_left
                            · rintro w' ⟨s0, s1, s2, s3, s4, s5⟩
                              go_simp
                              with_reducible rfl
                            rotate_left
                            · simp only [Act.put, List.setIfInBounds_toArray, List.set_cons_zero, List.set_cons_succ, i64_w, i32_w]
                              rfl
                            refine pure_ (i := 15) (N := (some 129)) (v := ?_) (a' := ?_) #[true, true, true, true, true, true, true, true, true, true, true, true, true, true, true, true, true, false, false, false, false, false, false] rfl rfl (any_of HT_.out (by kernel_rfl)) (fun _ _ _ h => h) (Or.inl ⟨by rfl, ?_⟩) ?_ ?_
                            rotate_left
                            · intro w'
                              go_simp
                              with_reducible rfl
                            rotate_left
                            · simp only [Act.put, List.setIfInBounds_toArray, List.set_cons_zero, List.set_cons_succ, i64_w, i32_w]
                              rfl
                            refine pure_ (i := 17) (N := (some 131)) (v := ?_) (a' := ?_) #[true, true, true, true, true, true, true, true, true, true, true, true, true, true, true, true, true, true, false, false, false, false, false] rfl rfl (any_of HT_.out (by kernel_rfl)) (fun _ _ _ h => h) (Or.inl ⟨by rfl, ?_⟩) ?_ ?_
                            rotate_left
                            · intro w'
                              go_simp
                              with_reducible rfl
                            rotate_left
                            · simp only [Act.put, List.setIfInBounds_toArray, List.set_cons_zero, List.set_cons_succ, i64_w, i32_w]
                              rfl
                            refine pure_ (i := 18) (N := (some 132)) (v := ?_) (a' := ?_) #[true, true, true, true, true, true, true, true, true, true, true, true, true, true, true, true, true, true, true, false, false, false, false] rfl rfl (any_of HT_.out (by kernel_rfl)) (fun _ _ _ h => h) (Or.inl ⟨by rfl, ?_⟩) ?_ ?_
                            rotate_left
                            · intro w'
                              go_simp
                              with_reducible rfl
                            rotate_left
                            · simp only [Act.put, List.setIfInBounds_toArray, List.set_cons_zero, List.set_cons_succ, i64_w, i32_w]
                              rfl
                            refine take_ (i := 19) (N := (some 133)) (v := ?_) (a' := ?_) #[true, true, true, true, true, true, true, true, true, true, true, true, true, true, true, true, true, true, true, true, false, false, false] rfl rfl (take_ofW HT_.out HW_.out (by kernel_rfl)) (fun _ _ _ h => h) (Or.inl ⟨by rfl, ?_⟩) hHeld ?_ ?_
                            rotate_left
                            · rintro w' ⟨s0, s1, s2, s3, s4, s5⟩
                              go_simp
                              with_reducible rfl
                            rotate_left
                            · simp only [Act.put, List.setIfInBounds_toArray, List.set_cons_zero, List.set_cons_succ, i64_w, i32_w]
                              rfl
                            refine pure_ (i := 20) (N := (some 134)) (v := ?_) (a' := ?_) #[true, true, true, true, true, true, true, true, true, true, true, true, true, true, true, true, true, true, true, true, true, false, false] rfl rfl (any_of HT_.out (by kernel_rfl)) (fun _ _ _ h => h) (Or.inl ⟨by rfl, ?_⟩) ?_ ?_
                            rotate_left
                            · intro w'
                              go_simp
                              with_reducible rfl
                            rotate_left
                            · simp only [Act.put, List.setIfInBounds_toArray, List.set_cons_zero, List.set_cons_succ, i64_w, i32_w]
                              rfl
                            refine one_ (i := 21) (N := (some 19)) #[true, true, true, true, true, true, true, true, true, true, true, true, true, true, true, true, true, true, true, true, true, true, false] rfl rfl (one_of HT_.out (by kernel_rfl)) (by decide) (fun K hK => ?_)
                            refine value_ (w1 := ?_) (v := ?_) (by rfl) rfl ?_ ?_
                            rotate_left 2
                            · go_simp
                              constructor
                              · rfl
                              · rfl
                            refine hK.out _ _ ⟨cell_al hHeld.1, cell_al hHeld.2.1, cell_al hHeld.2.2.1, cell_al hHeld.2.2.2.1, cell_al hHeld.2.2.2.2.1, cell_al hHeld.2.2.2.2.2⟩ (fun hHeld => ?_); clear hK K
                            refine norm_ (a' := ?_) ?_ ?_
                            rotate_left
                            · show Act.put _ (some 19) _ = _
                              simp only [Act.put, List.setIfInBounds_toArray, List.set_cons_zero, List.set_cons_succ, i64_w, i32_w]
                              rfl
                            refine last_ (i := 22) (N := none) #[true, true, true, true, true, true, true, true, true, true, true, true, true, true, true, true, true, true, true, true, true, true, true] rfl rfl (one_of HT_.out (by kernel_rfl)) (by decide) (fun K hK => ?_)
                            refine skip_ (w1 := ?_) (by rfl) rfl ?_ ?_
                            rotate_left
                            · go_simp
                              rfl
                            refine hK.out _ _ ?_; clear hK K
                            refine done_ (done_of HT_.out (by kernel_rfl)) ?_
                            have HD9 := Aside0.mk (HDE.out.low (below_alloc (Below.refl _ _) (.cells #[.int .i64 na, .int .i64 nb] 107)))
                            have hB9 := blk_new we (.cells #[.int .i64 na, .int .i64 nb] 107)
                            clear HDE HD hcA hcB hcS hcT hvA hvB hHeld e3a e3b e3c e3d
                            generalize we.alloc (.cells #[.int .i64 na, .int .i64 nb] 107) = w9 at HD9 hB9 ⊢
                            generalize we.heap.size = gb at hB9 ⊢
                            have hm4 : w9.cell? ⟨M, 4, none⟩ = some (.slice An nx1.length cn) := (blk_cell HD9.out.m 4).trans rfl
                            cases hfi : row1.findIdx? (· == (na, nb)) with
                            | some j =>
                              have H := HH2.out
                              clear HH2
                              rw [hfi] at H
                              simp only [] at H
                              have HH3 := Aside0.mk H
                              clear H
                              have hlk := pair_some HSS.out HPK.out hfi HD9.out.place
                              simp only [pairC] at hlk
                              go_wp2_with (first
                                | ((with_reducible refine gate_dst (N := 137) rfl ?_)
                                   refine wpList_load_row rfl 107 (.tmp 19) rfl gb rfl 107 #[.int .i64 na, .int .i64 nb] (0, 0) _ hB9 Try.underlying107 rfl ?_ ?_
                                   (focus (rw [i107]; rfl)))
                                | ((with_reducible refine gate_builtin (b := .append) (xs := #[.tmp 157, .tmp 159]) rfl ?_)
                                   at_builtin
                                   refine Kd.R_append (Kd.int .i64) (w0 := W5) W5.heap.size rfl (.tmp 157) (.tmp 159) 22 3 (.int .i64 0) 8 rfl Try.underlying22 info3 rfl (by decide) (by omega) (.slice An nx1.length cn) nx1 (j : Int) [.int .i64 (j : Int)] (fun _ => True) (fun _ => False) rfl rfl ?aP (fun _ hk => hk.elim) ?aF ?aO ?aB ?aS ?aL ?_
                                   (case aP => exact rfl)
                                   (case aB => exact HD9.out.below)
                                   (case aF => exact (fun _ _ => trivial))
                                   (case aO => exact HD9.out.nx)
                                   (case aS => exact HD9.out.below.size)
                                   (case aL => have := HNL.out; omega)
                                   intro v12 w12 ho hb hg hat
                                   obtain ⟨A9, c9, rfl⟩ := Kd.R_slice ho
                                   have hM1 := blk_grown HD9.out.m hg (Kd.R_ne HD9.out.nx HD9.out.m (by decide))
                                   have hfz := blk_frozen hM1 4
                                   have hcl : w12.cell? ⟨M, 4, none⟩ = some (.slice An nx1.length cn) := (blk_cell hM1 4).trans rfl
                                   have HD12 := Aside0.mk (MeetAt.nextAp HD9.out ho hb hg hat)
                                   clear ho hb hg hat hM1))
                              clear hm4 hlk hcl hfz
                              go_roundw
                              case rel => exact ⟨x + 1, row1, nx1 ++ [(j : Int)], _, by go_num, ⟨by have := HLT.out; omega⟩, HH3, by simpa using HD12, HSS, HRL, ⟨by have := HXN.out; simp; omega⟩⟩
                              case measure => have := HLT.out; simp [intOf]; omega
                            | none =>
                              have H := HH2.out
                              clear HH2
                              rw [hfi] at H
                              simp only [] at H
                              have hlk := pair_none HSS.out HPK.out hfi HD9.out.place
                              simp only [pairC] at hlk
                              have HFI := Aside0.mk hfi
                              clear hfi hm4
                              by_cases e5 : row1.length = 1024
                              · rw [if_pos e5] at H
                                have HH3 := Aside0.mk H
                                clear H
                                have e5c : ((row1.length : Int) == 1024) = true := by simp [e5]
                                have e5b : (row1.length == 1024) = true := by simp [e5]
                                go_wp2_with (first
                                  | ((with_reducible refine gate_dst (N := 137) rfl ?_)
                                     refine wpList_load_row rfl 107 (.tmp 19) rfl gb rfl 107 #[.int .i64 na, .int .i64 nb] (0, 0) _ hB9 Try.underlying107 rfl ?_ ?_
                                     (focus (rw [i107]; rfl)))
                                  | ((with_reducible refine gate_store (t := 43) (p := 6) rfl ?_)
                                     refine wpList_store_rowTo rfl 43 (.tmp 6) (.tmp 146) rfl rfl (w.heap.size + 1 + 1) zero43 rfl rfl 43 _ (HM.out.on HD9.out.below).z ?_ rfl zero43_one ?_
                                     (focus (rw [i43]; rfl))))
                                have H := HH3.out
                                simp only [Option.some.injEq] at H
                                subst H
                                have hr0 := HNX.out
                                simp only [Option.some.injEq] at hr0
                                subst hr0
                                have hr := HRES.out
                                simp only [Option.some.injEq, Prod.mk.injEq] at hr
                                obtain ⟨rfl, rfl, rfl, rfl, rfl, rfl, rfl⟩ := hr
                                have hblk := setRow_heap w9 (w.heap.size + 1 + 1) _ zero43 43 (0, 0) (HM.out.on HD9.out.below).z
                                try simp only [Exit.inBlock, Exit.then]
                                refine bodyPost_ret (results_ct rfl _ _ (w.heap.size + 1 + 1) 43 zero43 (0, 0) _ rfl hblk Try.underlying43 rfl (by rw [i43]; rfl)) rfl ?_
                                exact ⟨_, _, rfl, Kd.R_nil _ _ _ _ _, Kd.R_nil _ _ _ _ _, below_setRow (HM.out.on HD9.out.below).below (by omega) _⟩
                              · rw [if_neg e5] at H
                                have HH3 := Aside0.mk H
                                clear H
                                have e5b : (row1.length == 1024) = false := by simpa using e5
                                have e5c : ((row1.length : Int) == 1024) = false := by
                                  have : ¬ ((row1.length : Int) = 1024) := by omega
                                  simpa using this
                                go_wp2_with (first
                                  | ((with_reducible refine gate_dst (N := 137) rfl ?_)
                                     refine wpList_load_row rfl 107 (.tmp 19) rfl gb rfl 107 #[.int .i64 na, .int .i64 nb] (0, 0) _ hB9 Try.underlying107 rfl ?_ ?_
                                     (focus (rw [i107]; rfl)))
                                  | ((with_reducible refine gate_dst (N := 150) rfl ?_)
                                     refine wpList_load_row rfl 107 (.tmp 19) rfl gb rfl 107 #[.int .i64 na, .int .i64 nb] (0, 0) _ hB9 Try.underlying107 rfl ?_ ?_
                                     (focus (rw [i107]; rfl)))
                                  | ((with_reducible refine gate_update rfl ?_)
                                     refine Vm.wpList_map_put pair_keys Try.underlying108 rfl (.tmp 149) (.tmp 150) (.tmp 151) (.inr rfl) (na, nb) (row1.length : Int) rfl rfl rfl rfl HD9.out.place (pair_ok HSS.out) HPK.out ?_
                                     intro w10 hp10 hg10
                                     rw [pair_put HFI.out] at hp10
                                     have HT10 := Aside0.mk (blk_grown hB9 hg10 (fun he => mp_blk_ne HD9.out.place hB9 (by injection he with he; exact he.symm)))
                                     have HD10 := Aside0.mk (HD9.out.placed hp10 hg10)
                                     clear hp10 hg10 hlk)
                                  | ((with_reducible refine gate_dst (N := 153) rfl ?_)
                                     refine wpList_load_row rfl 107 (.tmp 19) rfl gb rfl 107 #[.int .i64 na, .int .i64 nb] (0, 0) _ HT10.out Try.underlying107 rfl ?_ ?_
                                     (focus (rw [i107]; rfl)))
                                  | ((with_reducible refine gate_dst (N := 154) rfl ?_)
                                     refine Kd.event_run rfl (exec_one_pair (p := (na, nb)) rfl rfl _) ?_)
                                  | ((with_reducible refine gate_builtin (b := .append) (xs := #[.tmp 152, .tmp 154]) rfl ?_)
                                     at_builtin
                                     refine Kd.R_append kpair (w0 := W5) W5.heap.size rfl (.tmp 152) (.tmp 154) 109 107 (.agg #[.int .i64 0, .int .i64 0]) 16 rfl Try.underlying109 info107b rfl (by decide) (by omega) (.slice Ar row1.length cr2) row1 (na, nb) (pairC (na, nb)) (fun _ => True) (fun _ => False) rfl rfl ?aP (fun _ hk => hk.elim) ?aF ?aO ?aB ?aS ?aL ?_
                                     (case aP => exact rfl)
                                     (case aB => exact HD10.out.below)
                                     (case aF => exact (fun _ _ => trivial))
                                     (case aO => exact HD10.out.row)
                                     (case aS => exact HD10.out.below.size)
                                     (case aL => omega)
                                     intro v11 w11 ho hb hg hat
                                     have HD11 := Aside0.mk (HD10.out.rowAp ho hb hg)
                                     have hm4 : w11.cell? ⟨M, 4, none⟩ = some (.slice An nx1.length cn) := (blk_cell HD11.out.m 4).trans rfl
                                     clear ho hb hg hat)
                                  | ((with_reducible refine gate_builtin (b := .append) (xs := #[.tmp 157, .tmp 159]) rfl ?_)
                                     at_builtin
                                     refine Kd.R_append (Kd.int .i64) (w0 := W5) W5.heap.size rfl (.tmp 157) (.tmp 159) 22 3 (.int .i64 0) 8 rfl Try.underlying22 info3 rfl (by decide) (by omega) (.slice An nx1.length cn) nx1 (row1.length : Int) [.int .i64 (row1.length : Int)] (fun _ => True) (fun _ => False) rfl rfl ?aP (fun _ hk => hk.elim) ?aF ?aO ?aB ?aS ?aL ?_
                                     (case aP => exact rfl)
                                     (case aB => exact HD11.out.below)
                                     (case aF => exact (fun _ _ => trivial))
                                     (case aO => exact HD11.out.nx)
                                     (case aS => exact HD11.out.below.size)
                                     (case aL => have := HNL.out; omega)
                                     intro v12 w12 ho hb hg hat
                                     obtain ⟨A9, c9, rfl⟩ := Kd.R_slice ho
                                     have hM1 := blk_grown HD11.out.m hg (Kd.R_ne HD11.out.nx HD11.out.m (by decide))
                                     have hfz := blk_frozen hM1 4
                                     have hcl : w12.cell? ⟨M, 4, none⟩ = some (.slice An nx1.length cn) := (blk_cell hM1 4).trans rfl
                                     have HD12 := Aside0.mk (MeetAt.nextAp HD11.out ho hb hg hat)
                                     clear ho hb hg hat hM1))
                                clear hm4 hcl hfz
                                go_roundw
                                case rel =>
                                  refine ⟨x + 1, row1 ++ [(na, nb)], nx1 ++ [(row1.length : Int)], _, by go_num, ⟨by have := HLT.out; omega⟩, HH3, by simpa using HD12, ⟨?_⟩, ⟨?_⟩, ⟨by have := HXN.out; simp; omega⟩⟩
                                  · intro q hq
                                    rcases List.mem_append.1 hq with hq | hq
                                    · exact HSS.out q hq
                                    · simp only [List.mem_singleton] at hq; rw [hq]; exact HPK.out
                                  · have h1 := HRL.out
                                    simp only [List.length_append, List.length_singleton]
                                    omega
                                case measure => have := HLT.out; simp [intOf]; omega
                          · rw [if_neg e4] at H; exact absurd H (by simp)
                        · rw [if_neg e3] at H; exact absurd H (by simp)
                      · have H := HIN.out
                        rw [List.drop_of_length_le (by simp; omega)] at H
                        simp only [mtIn, Option.some.injEq] at H
                        subst H
                        have hlt' : ¬ ((x : Int) < aS) := by omega
                        have hr := HNX.out
                        simp only [] at hr
                        go_wp2
                        go_roundg k1
                        case rel => exact ⟨i + 1, row1, nx1, _, out2, _, by go_num, ⟨hr⟩, ⟨by have := HK1.out; omega⟩, HD, HSS, HRL⟩
                        case measure => have := HK1.out; omega
                · exact absurd H (by simp)
              · rw [if_neg e1] at H
                have hlt' : ¬ ((i : Int) < (row.length : Int)) := by omega
                simp only [Option.some.injEq] at H
                subst H
                have hr := HRES.out
                simp only [Option.some.injEq, Prod.mk.injEq] at hr
                obtain ⟨rfl, rfl, rfl, rfl, rfl, rfl, rfl⟩ := hr
                obtain ⟨Ar, cr, rfl⟩ := Kd.R_slice HD.out.row
                obtain ⟨An, cn, rfl⟩ := Kd.R_slice HD.out.nx
                obtain ⟨Ao, co, rfl⟩ := Kd.R_slice HD.out.out
                have hfz := blk_frozen HD.out.m 3
                have hcl : wr.cell? ⟨M, 3, none⟩ = some (.int .i64 0) := (blk_cell HD.out.m 3).trans rfl
                have hM2 := blk_put HD.out.m 3 (.int .i64 (row.length : Int)) (cs' := #[.int .i64 1, .int .i64 aS, .int .i64 2, .int .i64 (row.length : Int), .slice An nx.length cn, .slice Ao out.length co]) rfl
                have hZr := (HM.out.on HD.out.below).z
                have hMZ : M ≠ w.heap.size + 1 + 1 := by
                  have h1 := HD.out.hM
                  have h2 := blk_lt HM.out.z
                  omega
                have hZ2 := blk_far hZr (p := ⟨M, 3, none⟩) (fun e => hMZ e.symm) (.int .i64 (row.length : Int))
                have hone : (#[.int .i64 1, .int .i64 aS, .int .i64 2, .int .i64 (row.length : Int), .slice An nx.length cn, .slice Ao out.length co] : Array Value).all (·.oneCell') = true := by simp [Value.oneCell']
                go_wp2_with (first
                  | ((with_reducible refine gate_dst (N := 166) rfl ?_)
                     refine wpList_load_row rfl 43 (.tmp 14) rfl M rfl 43 #[.int .i64 1, .int .i64 aS, .int .i64 2, .int .i64 (row.length : Int), .slice An nx.length cn, .slice Ao out.length co] (0, 0) _ hM2 Try.underlying43 rfl ?_ ?_
                     (focus (rw [i43]; rfl)))
                  | ((with_reducible refine gate_store (t := 43) (p := 6) rfl ?_)
                     refine wpList_store_rowTo rfl 43 (.tmp 6) (.tmp 166) rfl rfl (w.heap.size + 1 + 1) #[.int .i64 1, .int .i64 aS, .int .i64 2, .int .i64 (row.length : Int), .slice An nx.length cn, .slice Ao out.length co] rfl rfl 43 _ hZ2 ?_ rfl hone ?_
                     (focus (rw [i43]; rfl))))
                have hblk := setRow_heap _ (w.heap.size + 1 + 1) _ #[.int .i64 1, .int .i64 aS, .int .i64 2, .int .i64 (row.length : Int), .slice An nx.length cn, .slice Ao out.length co] 43 (0, 0) hZ2
                try simp only [Exit.inBlock, Exit.then]
                refine bodyPost_ret (results_ct rfl _ _ (w.heap.size + 1 + 1) 43 #[.int .i64 1, .int .i64 aS, .int .i64 2, .int .i64 (row.length : Int), .slice An nx.length cn, .slice Ao out.length co] (0, 0) _ rfl hblk Try.underlying43 rfl (by rw [i43]; rfl)) rfl ?_
                have hb5 : w.heap.size ≤ W5.heap.size := HM.out.below.size
                have keep : ∀ (v : Value) (xs : List Int), Kd.R (Kd.int .i64) 3 wr W5.heap.size (fun _ => True) v xs → Kd.R (Kd.int .i64) 3 ((wr.setCell ⟨M, 3, none⟩ (.int .i64 (row.length : Int))).setRow (w.heap.size + 1 + 1) #[.int .i64 1, .int .i64 aS, .int .i64 2, .int .i64 (row.length : Int), .slice An nx.length cn, .slice Ao out.length co]) w.heap.size (fun _ => True) v xs := by
                  intro v xs h
                  have h1 := Kd.R_far (Kd.R_tight rfl h) (p := ⟨M, 3, none⟩) (fun k hk he => Kd.R_ne h HD.out.m (by decide) (by rw [← hk]; show some M = some k; rw [he])) (.int .i64 (row.length : Int))
                  have h2 := Kd.R_grown h1 (grown_setRow _ (w.heap.size + 1 + 1) #[.int .i64 1, .int .i64 aS, .int .i64 2, .int .i64 (row.length : Int), .slice An nx.length cn, .slice Ao out.length co]) (fun k hk he => Kd.R_ne h hZr (by decide) (by rw [← hk]; exact he.symm))
                  exact Kd.R_mono (Kd.R_lower h2 hb5) (fun _ _ => trivial)
                refine ⟨_, _, rfl, Kd.R_reok rfl (keep _ _ HD.out.nx) (fun k hk he => HD.out.apart k hk he.symm), Kd.R_reok rfl (keep _ _ HD.out.out) (fun k hk he => HD.out.apart k he.symm hk), ?_⟩
                exact below_setRow (below_then HM.out.below hb5 (below_set HD.out.below HD.out.hM)) (by omega) _
end Go.Proofs.Ytkaefgmgcghhiaa.X
end

section
namespace Go.Proofs.Ytkaefgmgcghhiaa.X
open Go.RowKit Go.Proofs.YtkaefgmgcghhiaaW.PrintWords Go.Proofs.YtkaefgmgcghhiaaW.PrintLast Go.Proofs.YtkaefgmgcghhiaaW.PrintMore
open Go.Proofs.Ytkaefgmgcghhiaa
def rmP (K NB : Int) (aN bN : List Int) (s t : Int) (x : Nat) : Int := wrap64 (wrap64 (rd aN (mtI K s x) * NB) + rd bN (mtI K t x))
def rmIn (K NB : Int) (aN bN : List Int) (s t : Int) : List Nat → List Int → List Int → List Int → Option (Option (List Int × List Int × List Int))
  | [], pl, row, nx => some (some (pl, row, nx))
  | x :: r, pl, row, nx => if (0 ≤ mtI K s x ∧ mtI K s x < (aN.length : Int)) ∧ (0 ≤ mtI K t x ∧ mtI K t x < (bN.length : Int)) then
      (if (0 ≤ rmP K NB aN bN s t x ∧ rmP K NB aN bN s t x < (pl.length : Int)) ∧ nx.length < 1099511627776 ∧ row.length < 1099511627776 then
        (if rd pl (rmP K NB aN bN s t x) = 0 then (if row.length + 1 > 1024 then some none else rmIn K NB aN bN s t r (pl.set (rmP K NB aN bN s t x).toNat ((row.length : Int) + 1)) (row ++ [rmP K NB aN bN s t x]) (nx ++ [wrap64 (rd (pl.set (rmP K NB aN bN s t x).toNat ((row.length : Int) + 1)) (rmP K NB aN bN s t x) - 1)]))
        else if row.length > 1024 then some none else rmIn K NB aN bN s t r pl row (nx ++ [wrap64 (rd pl (rmP K NB aN bN s t x) - 1)])) else none) else none
def rmF (K NB : Int) (aN aO bN bO : List Int) (op : Int) : Nat → Nat → List Int → List Int → List Int → List Int → Option (Option (List Int × List Int × List Int))
  | 0, _, _, _, _, _ => none
  | q + 1, i, pl, row, nx, out => if i < row.length then
      (if (0 ≤ rd row i ∧ rd row i < 1099511627776 ∧ 0 < NB) ∧ ((rd row i / NB < (aO.length : Int)) ∧ (rd row i % NB < (bO.length : Int))) ∧ 0 ≤ wrap64 (wrap64 (2 * rd aO (rd row i / NB)) + rd bO (rd row i % NB)) ∧ out.length < 1099511627776 then
        (match rmIn K NB aN bN (rd row i / NB) (rd row i % NB) (List.range K.toNat) pl row nx with
        | none => none
        | some none => some none
        | some (some (pl1, row1, nx1)) => rmF K NB aN aO bN bO op q (i + 1) pl1 row1 nx1 (out ++ [mtO aO bO op (rd row i / NB, rd row i % NB)])) else none)
      else some (some (row, nx, out))
def rmG (k : Nat) (aK aS aO aN : Int) (anx aout : List Int) (bK bS bO bN : Int) (bnx bout : List Int) (op : Int) : Option (Int × Int × Int × Int × List Int × List Int × Int) :=
  if (mcheck aK aS aO aN anx aout).2 ≠ 0 then some (0, 0, 0, 0, [], [], (mcheck aK aS aO aN anx aout).2) else
  if (mcheck bK bS bO bN bnx bout).2 ≠ 0 then some (0, 0, 0, 0, [], [], (mcheck bK bS bO bN bnx bout).2) else
  if aK ≠ 1 ∨ bK ≠ 1 then some (0, 0, 0, 0, [], [], 30) else if aS ≠ bS ∨ op < 0 ∨ op > 15 then some (0, 0, 0, 0, [], [], 1) else
  if (0 < aN ∧ aN ≤ 1024) ∧ (0 < bN ∧ bN ≤ 1024) ∧ (0 ≤ aS ∧ aS ≤ 64) then
  match rmF aS bN anx aout bnx bout op k 0 ((List.replicate (aN * bN).toNat 0).set 0 1) [0] [] [] with
  | none => none
  | some none => some (0, 0, 0, 0, [], [], 3)
  | some (some (row, nx, out)) => some (1, aS, 2, (row.length : Int), nx, out, 0)
  else none
/-- The three blocks ahead of the looking. -/
structure RmAt (w : World) (A B : Array Value) (W : World) : Prop where
  below : Below w.heap.size w W
  a : W.heap[w.heap.size]? = some (.cells A 43 (0, 0))
  b : W.heap[w.heap.size + 1]? = some (.cells B 43 (0, 0))
  z : W.heap[w.heap.size + 1 + 1]? = some (.cells zero43 43 (0, 0))
theorem RmAt.on {w W W1 : World} {A B : Array Value} (h : RmAt w A B W) (hb : Below W.heap.size W W1) : RmAt w A B W1 := ⟨below_step h.below hb, blk_below h.a hb, blk_below h.b hb, blk_below h.z hb⟩
theorem rm_made (w : World) (A B : Array Value) : RmAt w A B (((w.alloc (.cells A 43)).alloc (.cells B 43)).alloc (.cells zero43 43)) := by
  have ha := blk_new w (.cells A 43)
  have hb : ((w.alloc (.cells A 43)).alloc (.cells B 43)).heap[w.heap.size + 1]? = some (.cells B 43 (0, 0)) := by
    have h := blk_new (w.alloc (.cells A 43)) (.cells B 43)
    have e : (w.alloc (.cells A 43)).heap.size = w.heap.size + 1 := by simp
    rw [e] at h
    exact h
  have hz : (((w.alloc (.cells A 43)).alloc (.cells B 43)).alloc (.cells zero43 43)).heap[w.heap.size + 1 + 1]? = some (.cells zero43 43 (0, 0)) := by
    have h := blk_new ((w.alloc (.cells A 43)).alloc (.cells B 43)) (.cells zero43 43)
    have e : ((w.alloc (.cells A 43)).alloc (.cells B 43)).heap.size = w.heap.size + 1 + 1 := by simp
    rw [e] at h
    exact h
  exact ⟨below_alloc (below_alloc (below_alloc (Below.refl _ _) _) _) _, blk_alloc (blk_alloc ha _) _, blk_alloc hb _, hz⟩
def DN18.T18 : Bool × List (List Nat × List Nat) := (true, [([], []), ([], []), ([0, 1], [0, 1]), ([2], [2]), ([], []), ([4], [4]), ([3, 5], [3, 5]), ([], []), ([], []), ([7, 8], [7, 8]), ([9], [9]), ([], []), ([11], [11]), ([10, 12], [10, 12]), ([6, 0, 1, 2, 3, 4, 5, 6], [6]), ([13, 14, 0, 1, 2, 3, 4, 5, 6, 7, 8, 9, 10, 11, 12, 13, 14], [13])])
def DN18.B18 : List Nat := [0, 0, 3, 7, 0, 16, 63, 0, 0, 384, 896, 0, 2048, 8064, 127, 32767]
theorem DN18.tab18 : rtab .any (opsOf Try.f31 18) = DN18.T18 := by kernel_rfl
theorem DN18.bits18 : waitsOk DN18.T18.2 DN18.B18 = true := by kernel_rfl
def DN19.T19 : Bool × List (List Nat × List Nat) := (true, [([], []), ([0], [0]), ([], []), ([], []), ([3], [3]), ([], []), ([4, 5], [4, 5]), ([6], [6]), ([7], [7]), ([], []), ([9], [9]), ([], []), ([10, 11], [10, 11]), ([12], [12]), ([8, 13], [8, 13]), ([2, 14], [2, 14]), ([15], [15]), ([16], [16]), ([1, 17], [1, 17]), ([0, 1, 2, 3, 4, 5, 6, 7, 8, 9, 10, 11, 12, 13, 14, 15, 16, 17, 18], []), ([19, 18, 18, 0, 1, 2, 3, 4, 5, 6, 7, 8, 9, 10, 11, 12, 13, 14, 15, 16, 17, 18], [18, 19])])
def DN19.B19 : List Nat := [0, 1, 0, 0, 8, 0, 56, 120, 248, 0, 512, 0, 3584, 7680, 16376, 32764, 65532, 131068, 262143, 524287, 1048575]
theorem DN19.tab19 : rtab .any (opsOf Try.f31 19) = DN19.T19 := by kernel_rfl
theorem DN19.bits19 : waitsOk DN19.T19.2 DN19.B19 = true := by kernel_rfl
def DN23.T23 : Bool × List (List Nat × List Nat) := (true, [([], []), ([0], [0]), ([], []), ([], []), ([3], [3]), ([2, 4], [2, 4]), ([], []), ([5, 6], [5, 6]), ([1, 7], [1, 7]), ([8], [8]), ([], []), ([10], [10]), ([9, 11], [9, 11]), ([], []), ([13], [13]), ([], []), ([], []), ([16], [16]), ([15, 17], [15, 17]), ([], []), ([18, 19], [18, 19]), ([14, 20], [14, 20]), ([21], [21]), ([12, 22], [12, 22]), ([23, 0, 1, 2, 3, 4, 5, 6, 7, 8, 9, 10, 11, 12, 13, 14, 15, 16, 17, 18, 19, 20, 21, 22, 23], [23])])
def DN23.B23 : List Nat := [0, 1, 0, 0, 8, 28, 0, 124, 255, 511, 0, 1024, 4095, 0, 8192, 0, 0, 65536, 229376, 0, 1015808, 2088960, 4186112, 8388607, 16777215]
theorem DN23.tab23 : rtab .any (opsOf Try.f31 23) = DN23.T23 := by kernel_rfl
theorem DN23.bits23 : waitsOk DN23.T23.2 DN23.B23 = true := by kernel_rfl
def DN29.T29 : Bool × List (List Nat × List Nat) := (true, [([], []), ([0], [0]), ([], []), ([], []), ([2, 3], [2, 3]), ([4], [4]), ([5], [5]), ([6], [6]), ([1, 7], [1, 7]), ([0, 1, 2, 3, 4, 5, 6, 7, 8], []), ([9, 8, 8, 0, 1, 2, 3, 4, 5, 6, 7, 8], [8, 9])])
def DN29.B29 : List Nat := [0, 1, 0, 0, 12, 28, 60, 124, 255, 511, 1023]
theorem DN29.tab29 : rtab .any (opsOf Try.f31 29) = DN29.T29 := by kernel_rfl
theorem DN29.bits29 : waitsOk DN29.T29.2 DN29.B29 = true := by kernel_rfl
set_option maxHeartbeats 8000000 in
set_option maxRecDepth 100000 in
theorem RMeet_walk (k : Nat) (aK aS aO aN : Int) (A4 : Option Addr) (c4 : Nat) (anx : List Int) (A5 : Option Addr) (c5 : Nat) (aout : List Int) (bK bS bO bN : Int) (B4 : Option Addr) (d4 : Nat) (bnx : List Int) (B5 : Option Addr) (d5 : Nat) (bout : List Int) (op : Int) (r1 r2 r3 r4 : Int) (r5 r6 : List Int) (r7 : Int) (w : World)
    (ha4 : Kd.C (Kd.int .i64) w A4 anx.length anx) (hc4 : anx.length ≤ c4) (ha5 : Kd.C (Kd.int .i64) w A5 aout.length aout) (hc5 : aout.length ≤ c5) (hb4 : Kd.C (Kd.int .i64) w B4 bnx.length bnx) (hd4 : bnx.length ≤ d4) (hb5 : Kd.C (Kd.int .i64) w B5 bout.length bout) (hd5 : bout.length ≤ d5)
    (h : rmG k aK aS aO aN anx aout bK bS bO bN bnx bout op = some (r1, r2, r3, r4, r5, r6, r7)) :
    Calls Try.prog 31 #[.agg #[.int .i64 aK, .int .i64 aS, .int .i64 aO, .int .i64 aN, .slice A4 anx.length c4, .slice A5 aout.length c5], .agg #[.int .i64 bK, .int .i64 bS, .int .i64 bO, .int .i64 bN, .slice B4 bnx.length d4, .slice B5 bout.length d5], .int .i64 op] w (MtPost w r1 r2 r3 r4 r5 r6 r7) := by
  have hu43 := Try.underlying43
  unfold rmG at h
  have hm1 := fun (W : World) (hb : Below w.heap.size w W) => tutorref03_Check.calls 300000 aK aS aO aN A4 c4 anx A5 c5 aout (mcheck aK aS aO aN anx aout).1 (mcheck aK aS aO aN anx aout).2 W (Kd.C_below ha4 hb) hc4 (Kd.C_below ha5 hb) hc5 (mach_ref (Nat.le_refl _))
  have hm2 := fun (W : World) (hb : Below w.heap.size w W) => tutorref03_Check.calls 300000 bK bS bO bN B4 d4 bnx B5 d5 bout (mcheck bK bS bO bN bnx bout).1 (mcheck bK bS bO bN bnx bout).2 W (Kd.C_below hb4 hb) hd4 (Kd.C_below hb5 hb) hd5 (mach_ref (Nat.le_refl _))
  generalize (mcheck aK aS aO aN anx aout).1 = at1 at hm1
  generalize (mcheck aK aS aO aN anx aout).2 = e1 at hm1 h
  generalize (mcheck bK bS bO bN bnx bout).1 = at2 at hm2
  generalize (mcheck bK bS bO bN bnx bout).2 = e2 at hm2 h
  have HH := Aside0.mk h
  have HM1 := Aside0.mk hm1
  have HM2 := Aside0.mk hm2
  have HAR := Aside0.mk (And.intro (And.intro ha4 ha5) (And.intro hb4 hb5))
  have HM0 : Aside0 (RmAt w #[.int .i64 aK, .int .i64 aS, .int .i64 aO, .int .i64 aN, .slice A4 anx.length c4, .slice A5 aout.length c5] #[.int .i64 bK, .int .i64 bS, .int .i64 bO, .int .i64 bN, .slice B4 bnx.length d4, .slice B5 bout.length d5] (((w.alloc (.cells #[.int .i64 aK, .int .i64 aS, .int .i64 aO, .int .i64 aN, .slice A4 anx.length c4, .slice A5 aout.length c5] 43)).alloc (.cells #[.int .i64 bK, .int .i64 bS, .int .i64 bO, .int .i64 bN, .slice B4 bnx.length d4, .slice B5 bout.length d5] 43)).alloc (.cells #[.int .i64 0, .int .i64 0, .int .i64 0, .int .i64 0, .slice none 0 0, .slice none 0 0] 43))) := ⟨rm_made w _ _⟩
  clear h hm1 hm2 ha4 ha5 hb4 hb5 hc4 hc5 hd4 hd5
  obtain ⟨z43, i43⟩ := zero_of_info info43
  by_cases q1 : e1 ≠ 0
  · have qb : (e1 != 0) = true := by simpa using q1
    go_enter Try.func31, Try.ntmps31
    go_wp2_with (first
      | (go_at_call 66; with_reducible refine (HM1.out _ HM0.out.below).mono ?_
         rintro e w1 ⟨rfl, hb1⟩
         have HMb := Aside0.mk (HM0.out.on hb1)
         clear hb1)
      | ((with_reducible refine gate_store (t := 43) (p := 6) rfl ?_)
         refine wpList_store_rowTo rfl 43 (.tmp 6) (.tmp 25) rfl rfl (w.heap.size + 1 + 1) zero43 rfl rfl 43 _ HMb.out.z ?_ rfl zero43_one ?_
         (focus (rw [i43]; rfl))))
    have hblk := setRow_heap w1 (w.heap.size + 1 + 1) _ zero43 43 (0, 0) HMb.out.z
    try simp only [Exit.inBlock, Exit.then]
    refine bodyPost_ret (results_ct rfl _ _ (w.heap.size + 1 + 1) 43 zero43 (0, 0) _ rfl hblk Try.underlying43 rfl (by rw [i43]; rfl)) rfl ?_
    have hr := HH.out
    rw [if_pos q1] at hr
    simp only [Option.some.injEq, Prod.mk.injEq] at hr
    obtain ⟨rfl, rfl, rfl, rfl, rfl, rfl, rfl⟩ := hr
    exact ⟨_, _, rfl, Kd.R_nil _ _ _ _ _, Kd.R_nil _ _ _ _ _, below_setRow HMb.out.below (by omega) _⟩
  have hr := HH.out
  rw [if_neg q1] at hr
  obtain rfl : e1 = 0 := by omega
  clear q1
  by_cases q2 : e2 ≠ 0
  · have qb2 : (e2 != 0) = true := by simpa using q2
    rw [if_pos q2] at hr
    simp only [Option.some.injEq, Prod.mk.injEq] at hr
    obtain ⟨rfl, rfl, rfl, rfl, rfl, rfl, rfl⟩ := hr
    go_enter Try.func31, Try.ntmps31
    go_wp2_with (first
      | (go_at_call 66; with_reducible refine (HM2.out _ HMb.out.below).mono ?_
         rintro e w2 ⟨rfl, hb2⟩
         have HMc := Aside0.mk (HMb.out.on hb2)
         clear hb2 hx0 hx1 hx2 hx3 hx4 hx5)
      | (go_at_call 66; with_reducible refine (HM1.out _ HM0.out.below).mono ?_
         rintro e w1 ⟨rfl, hb1⟩
         have HMb := Aside0.mk (HM0.out.on hb1)
         have hx0 : w1.cell? ⟨w.heap.size + 1, 0, none⟩ = some (.int .i64 bK) := (blk_cell HMb.out.b 0).trans rfl
         have hx1 : w1.cell? ⟨w.heap.size + 1, 1, none⟩ = some (.int .i64 bS) := (blk_cell HMb.out.b 1).trans rfl
         have hx2 : w1.cell? ⟨w.heap.size + 1, 2, none⟩ = some (.int .i64 bO) := (blk_cell HMb.out.b 2).trans rfl
         have hx3 : w1.cell? ⟨w.heap.size + 1, 3, none⟩ = some (.int .i64 bN) := (blk_cell HMb.out.b 3).trans rfl
         have hx4 : w1.cell? ⟨w.heap.size + 1, 4, none⟩ = some (.slice B4 bnx.length d4) := (blk_cell HMb.out.b 4).trans rfl
         have hx5 : w1.cell? ⟨w.heap.size + 1, 5, none⟩ = some (.slice B5 bout.length d5) := (blk_cell HMb.out.b 5).trans rfl
         clear hb1)
      | ((with_reducible refine gate_store (t := 43) (p := 6) rfl ?_)
         refine wpList_store_rowTo rfl 43 (.tmp 6) (.tmp 34) rfl rfl (w.heap.size + 1 + 1) zero43 rfl rfl 43 _ HMc.out.z ?_ rfl zero43_one ?_
         (focus (rw [i43]; rfl))))
    have hblk := setRow_heap w2 (w.heap.size + 1 + 1) _ zero43 43 (0, 0) HMc.out.z
    try simp only [Exit.inBlock, Exit.then]
    refine bodyPost_ret (results_ct rfl _ _ (w.heap.size + 1 + 1) 43 zero43 (0, 0) _ rfl hblk Try.underlying43 rfl (by rw [i43]; rfl)) rfl ?_
    exact ⟨_, _, rfl, Kd.R_nil _ _ _ _ _, Kd.R_nil _ _ _ _ _, below_setRow HMc.out.below (by omega) _⟩
  rw [if_neg q2] at hr
  obtain rfl : e2 = 0 := by omega
  clear q2 HH
  -- behind both checks: the world w2
  by_cases qk : aK ≠ 1 ∨ bK ≠ 1
  · rw [if_pos qk] at hr
    simp only [Option.some.injEq, Prod.mk.injEq] at hr
    obtain ⟨rfl, rfl, rfl, rfl, rfl, rfl, rfl⟩ := hr
    by_cases qa : aK ≠ 1
    · have qa2 : (aK != 1) = true := by simpa using qa
      clear qk
      go_enter Try.func31, Try.ntmps31
      go_wp2_with (first
        | (go_at_call 66; with_reducible refine (HM2.out _ HMb.out.below).mono ?_
           rintro e w2 ⟨rfl, hb2⟩
           have HMc := Aside0.mk (HMb.out.on hb2)
           clear hx0 hx1 hx2 hx3 hx4 hx5
           have pa0 : w2.cell? ⟨w.heap.size, 0, none⟩ = some (.int .i64 aK) := (blk_cell HMc.out.a 0).trans rfl
           have pa1 : w2.cell? ⟨w.heap.size, 1, none⟩ = some (.int .i64 aS) := (blk_cell HMc.out.a 1).trans rfl
           have pa3 : w2.cell? ⟨w.heap.size, 3, none⟩ = some (.int .i64 aN) := (blk_cell HMc.out.a 3).trans rfl
           have pb0 : w2.cell? ⟨w.heap.size + 1, 0, none⟩ = some (.int .i64 bK) := (blk_cell HMc.out.b 0).trans rfl
           have pb1 : w2.cell? ⟨w.heap.size + 1, 1, none⟩ = some (.int .i64 bS) := (blk_cell HMc.out.b 1).trans rfl
           have pb3 : w2.cell? ⟨w.heap.size + 1, 3, none⟩ = some (.int .i64 bN) := (blk_cell HMc.out.b 3).trans rfl
           have hz1 : w.heap.size < w2.heap.size := blk_lt HMc.out.a
           have hz2 : w.heap.size + 1 < w2.heap.size := blk_lt HMc.out.b
           clear hb2)
        | (go_at_call 66; with_reducible refine (HM1.out _ HM0.out.below).mono ?_
           rintro e w1 ⟨rfl, hb1⟩
           have HMb := Aside0.mk (HM0.out.on hb1)
           have hx0 : w1.cell? ⟨w.heap.size + 1, 0, none⟩ = some (.int .i64 bK) := (blk_cell HMb.out.b 0).trans rfl
           have hx1 : w1.cell? ⟨w.heap.size + 1, 1, none⟩ = some (.int .i64 bS) := (blk_cell HMb.out.b 1).trans rfl
           have hx2 : w1.cell? ⟨w.heap.size + 1, 2, none⟩ = some (.int .i64 bO) := (blk_cell HMb.out.b 2).trans rfl
           have hx3 : w1.cell? ⟨w.heap.size + 1, 3, none⟩ = some (.int .i64 bN) := (blk_cell HMb.out.b 3).trans rfl
           have hx4 : w1.cell? ⟨w.heap.size + 1, 4, none⟩ = some (.slice B4 bnx.length d4) := (blk_cell HMb.out.b 4).trans rfl
           have hx5 : w1.cell? ⟨w.heap.size + 1, 5, none⟩ = some (.slice B5 bout.length d5) := (blk_cell HMb.out.b 5).trans rfl
           clear hb1)
        | ((with_reducible refine gate_store (t := 43) (p := 6) rfl ?_)
           refine wpList_store_rowTo rfl 43 (.tmp 6) (.tmp 44) rfl rfl (w.heap.size + 1 + 1) zero43 rfl rfl 43 _ HMc.out.z ?_ rfl zero43_one ?_
           (focus (rw [i43]; rfl))))
      have hblk := setRow_heap w2 (w.heap.size + 1 + 1) _ zero43 43 (0, 0) HMc.out.z
      try simp only [Exit.inBlock, Exit.then]
      refine bodyPost_ret (results_ct rfl _ _ (w.heap.size + 1 + 1) 43 zero43 (0, 0) _ rfl hblk Try.underlying43 rfl (by rw [i43]; rfl)) rfl ?_
      exact ⟨_, _, rfl, Kd.R_nil _ _ _ _ _, Kd.R_nil _ _ _ _ _, below_setRow HMc.out.below (by omega) _⟩
    · have qa2 : (aK != 1) = false := by
        have : aK = 1 := by omega
        simp [this]
      have qb2 : (bK != 1) = true := by
        have : bK ≠ 1 := by omega
        simpa using this
      clear qk
      go_enter Try.func31, Try.ntmps31
      go_wp2_with (first
        | (go_at_call 66; with_reducible refine (HM2.out _ HMb.out.below).mono ?_
           rintro e w2 ⟨rfl, hb2⟩
           have HMc := Aside0.mk (HMb.out.on hb2)
           clear hx0 hx1 hx2 hx3 hx4 hx5
           have pa0 : w2.cell? ⟨w.heap.size, 0, none⟩ = some (.int .i64 aK) := (blk_cell HMc.out.a 0).trans rfl
           have pa1 : w2.cell? ⟨w.heap.size, 1, none⟩ = some (.int .i64 aS) := (blk_cell HMc.out.a 1).trans rfl
           have pa3 : w2.cell? ⟨w.heap.size, 3, none⟩ = some (.int .i64 aN) := (blk_cell HMc.out.a 3).trans rfl
           have pb0 : w2.cell? ⟨w.heap.size + 1, 0, none⟩ = some (.int .i64 bK) := (blk_cell HMc.out.b 0).trans rfl
           have pb1 : w2.cell? ⟨w.heap.size + 1, 1, none⟩ = some (.int .i64 bS) := (blk_cell HMc.out.b 1).trans rfl
           have pb3 : w2.cell? ⟨w.heap.size + 1, 3, none⟩ = some (.int .i64 bN) := (blk_cell HMc.out.b 3).trans rfl
           have hz1 : w.heap.size < w2.heap.size := blk_lt HMc.out.a
           have hz2 : w.heap.size + 1 < w2.heap.size := blk_lt HMc.out.b
           clear hb2)
        | (go_at_call 66; with_reducible refine (HM1.out _ HM0.out.below).mono ?_
           rintro e w1 ⟨rfl, hb1⟩
           have HMb := Aside0.mk (HM0.out.on hb1)
           have hx0 : w1.cell? ⟨w.heap.size + 1, 0, none⟩ = some (.int .i64 bK) := (blk_cell HMb.out.b 0).trans rfl
           have hx1 : w1.cell? ⟨w.heap.size + 1, 1, none⟩ = some (.int .i64 bS) := (blk_cell HMb.out.b 1).trans rfl
           have hx2 : w1.cell? ⟨w.heap.size + 1, 2, none⟩ = some (.int .i64 bO) := (blk_cell HMb.out.b 2).trans rfl
           have hx3 : w1.cell? ⟨w.heap.size + 1, 3, none⟩ = some (.int .i64 bN) := (blk_cell HMb.out.b 3).trans rfl
           have hx4 : w1.cell? ⟨w.heap.size + 1, 4, none⟩ = some (.slice B4 bnx.length d4) := (blk_cell HMb.out.b 4).trans rfl
           have hx5 : w1.cell? ⟨w.heap.size + 1, 5, none⟩ = some (.slice B5 bout.length d5) := (blk_cell HMb.out.b 5).trans rfl
           clear hb1)
        | ((with_reducible refine gate_store (t := 43) (p := 6) rfl ?_)
           refine wpList_store_rowTo rfl 43 (.tmp 6) (.tmp 44) rfl rfl (w.heap.size + 1 + 1) zero43 rfl rfl 43 _ HMc.out.z ?_ rfl zero43_one ?_
           (focus (rw [i43]; rfl))))
      have hblk := setRow_heap w2 (w.heap.size + 1 + 1) _ zero43 43 (0, 0) HMc.out.z
      try simp only [Exit.inBlock, Exit.then]
      refine bodyPost_ret (results_ct rfl _ _ (w.heap.size + 1 + 1) 43 zero43 (0, 0) _ rfl hblk Try.underlying43 rfl (by rw [i43]; rfl)) rfl ?_
      exact ⟨_, _, rfl, Kd.R_nil _ _ _ _ _, Kd.R_nil _ _ _ _ _, below_setRow HMc.out.below (by omega) _⟩
  rw [if_neg qk] at hr
  have hk1 : aK = 1 := by omega
  have hk2 : bK = 1 := by omega
  subst hk1
  subst hk2
  clear qk
  by_cases qo : aS ≠ bS ∨ op < 0 ∨ op > 15
  · rw [if_pos qo] at hr
    simp only [Option.some.injEq, Prod.mk.injEq] at hr
    obtain ⟨rfl, rfl, rfl, rfl, rfl, rfl, rfl⟩ := hr
    by_cases q1 : aS ≠ bS
    · have q2 : (aS != bS) = true := by simpa using q1
      clear qo
      go_enter Try.func31, Try.ntmps31
      go_wp2_with (first
        | (go_at_call 66; with_reducible refine (HM2.out _ HMb.out.below).mono ?_
           rintro e w2 ⟨rfl, hb2⟩
           have HMc := Aside0.mk (HMb.out.on hb2)
           clear hx0 hx1 hx2 hx3 hx4 hx5
           have pa0 : w2.cell? ⟨w.heap.size, 0, none⟩ = some (.int .i64 1) := (blk_cell HMc.out.a 0).trans rfl
           have pa1 : w2.cell? ⟨w.heap.size, 1, none⟩ = some (.int .i64 aS) := (blk_cell HMc.out.a 1).trans rfl
           have pa3 : w2.cell? ⟨w.heap.size, 3, none⟩ = some (.int .i64 aN) := (blk_cell HMc.out.a 3).trans rfl
           have pb0 : w2.cell? ⟨w.heap.size + 1, 0, none⟩ = some (.int .i64 1) := (blk_cell HMc.out.b 0).trans rfl
           have pb1 : w2.cell? ⟨w.heap.size + 1, 1, none⟩ = some (.int .i64 bS) := (blk_cell HMc.out.b 1).trans rfl
           have pb3 : w2.cell? ⟨w.heap.size + 1, 3, none⟩ = some (.int .i64 bN) := (blk_cell HMc.out.b 3).trans rfl
           have hz1 : w.heap.size < w2.heap.size := blk_lt HMc.out.a
           have hz2 : w.heap.size + 1 < w2.heap.size := blk_lt HMc.out.b
           clear hb2)
        | (go_at_call 66; with_reducible refine (HM1.out _ HM0.out.below).mono ?_
           rintro e w1 ⟨rfl, hb1⟩
           have HMb := Aside0.mk (HM0.out.on hb1)
           have hx0 : w1.cell? ⟨w.heap.size + 1, 0, none⟩ = some (.int .i64 1) := (blk_cell HMb.out.b 0).trans rfl
           have hx1 : w1.cell? ⟨w.heap.size + 1, 1, none⟩ = some (.int .i64 bS) := (blk_cell HMb.out.b 1).trans rfl
           have hx2 : w1.cell? ⟨w.heap.size + 1, 2, none⟩ = some (.int .i64 bO) := (blk_cell HMb.out.b 2).trans rfl
           have hx3 : w1.cell? ⟨w.heap.size + 1, 3, none⟩ = some (.int .i64 bN) := (blk_cell HMb.out.b 3).trans rfl
           have hx4 : w1.cell? ⟨w.heap.size + 1, 4, none⟩ = some (.slice B4 bnx.length d4) := (blk_cell HMb.out.b 4).trans rfl
           have hx5 : w1.cell? ⟨w.heap.size + 1, 5, none⟩ = some (.slice B5 bout.length d5) := (blk_cell HMb.out.b 5).trans rfl
           clear hb1)
        | ((with_reducible refine gate_store (t := 43) (p := 6) rfl ?_)
           refine wpList_store_rowTo rfl 43 (.tmp 6) (.tmp 58) rfl rfl (w.heap.size + 1 + 1) zero43 rfl rfl 43 _ HMc.out.z ?_ rfl zero43_one ?_
           (focus (rw [i43]; rfl))))
      have hblk := setRow_heap w2 (w.heap.size + 1 + 1) _ zero43 43 (0, 0) HMc.out.z
      try simp only [Exit.inBlock, Exit.then]
      refine bodyPost_ret (results_ct rfl _ _ (w.heap.size + 1 + 1) 43 zero43 (0, 0) _ rfl hblk Try.underlying43 rfl (by rw [i43]; rfl)) rfl ?_
      exact ⟨_, _, rfl, Kd.R_nil _ _ _ _ _, Kd.R_nil _ _ _ _ _, below_setRow HMc.out.below (by omega) _⟩
    · have q2 : (aS != bS) = false := by
        have : aS = bS := by omega
        simp [this]
      by_cases q3 : op < 0
      · clear qo
        go_enter Try.func31, Try.ntmps31
        go_wp2_with (first
          | (go_at_call 66; with_reducible refine (HM2.out _ HMb.out.below).mono ?_
             rintro e w2 ⟨rfl, hb2⟩
             have HMc := Aside0.mk (HMb.out.on hb2)
             clear hx0 hx1 hx2 hx3 hx4 hx5
             have pa0 : w2.cell? ⟨w.heap.size, 0, none⟩ = some (.int .i64 1) := (blk_cell HMc.out.a 0).trans rfl
             have pa1 : w2.cell? ⟨w.heap.size, 1, none⟩ = some (.int .i64 aS) := (blk_cell HMc.out.a 1).trans rfl
             have pa3 : w2.cell? ⟨w.heap.size, 3, none⟩ = some (.int .i64 aN) := (blk_cell HMc.out.a 3).trans rfl
             have pb0 : w2.cell? ⟨w.heap.size + 1, 0, none⟩ = some (.int .i64 1) := (blk_cell HMc.out.b 0).trans rfl
             have pb1 : w2.cell? ⟨w.heap.size + 1, 1, none⟩ = some (.int .i64 bS) := (blk_cell HMc.out.b 1).trans rfl
             have pb3 : w2.cell? ⟨w.heap.size + 1, 3, none⟩ = some (.int .i64 bN) := (blk_cell HMc.out.b 3).trans rfl
             have hz1 : w.heap.size < w2.heap.size := blk_lt HMc.out.a
             have hz2 : w.heap.size + 1 < w2.heap.size := blk_lt HMc.out.b
             clear hb2)
          | (go_at_call 66; with_reducible refine (HM1.out _ HM0.out.below).mono ?_
             rintro e w1 ⟨rfl, hb1⟩
             have HMb := Aside0.mk (HM0.out.on hb1)
             have hx0 : w1.cell? ⟨w.heap.size + 1, 0, none⟩ = some (.int .i64 1) := (blk_cell HMb.out.b 0).trans rfl
             have hx1 : w1.cell? ⟨w.heap.size + 1, 1, none⟩ = some (.int .i64 bS) := (blk_cell HMb.out.b 1).trans rfl
             have hx2 : w1.cell? ⟨w.heap.size + 1, 2, none⟩ = some (.int .i64 bO) := (blk_cell HMb.out.b 2).trans rfl
             have hx3 : w1.cell? ⟨w.heap.size + 1, 3, none⟩ = some (.int .i64 bN) := (blk_cell HMb.out.b 3).trans rfl
             have hx4 : w1.cell? ⟨w.heap.size + 1, 4, none⟩ = some (.slice B4 bnx.length d4) := (blk_cell HMb.out.b 4).trans rfl
             have hx5 : w1.cell? ⟨w.heap.size + 1, 5, none⟩ = some (.slice B5 bout.length d5) := (blk_cell HMb.out.b 5).trans rfl
             clear hb1)
          | ((with_reducible refine gate_store (t := 43) (p := 6) rfl ?_)
             refine wpList_store_rowTo rfl 43 (.tmp 6) (.tmp 58) rfl rfl (w.heap.size + 1 + 1) zero43 rfl rfl 43 _ HMc.out.z ?_ rfl zero43_one ?_
             (focus (rw [i43]; rfl))))
        have hblk := setRow_heap w2 (w.heap.size + 1 + 1) _ zero43 43 (0, 0) HMc.out.z
        try simp only [Exit.inBlock, Exit.then]
        refine bodyPost_ret (results_ct rfl _ _ (w.heap.size + 1 + 1) 43 zero43 (0, 0) _ rfl hblk Try.underlying43 rfl (by rw [i43]; rfl)) rfl ?_
        exact ⟨_, _, rfl, Kd.R_nil _ _ _ _ _, Kd.R_nil _ _ _ _ _, below_setRow HMc.out.below (by omega) _⟩
      · have q4 : 15 < op := by omega
        clear qo
        go_enter Try.func31, Try.ntmps31
        go_wp2_with (first
          | (go_at_call 66; with_reducible refine (HM2.out _ HMb.out.below).mono ?_
             rintro e w2 ⟨rfl, hb2⟩
             have HMc := Aside0.mk (HMb.out.on hb2)
             clear hx0 hx1 hx2 hx3 hx4 hx5
             have pa0 : w2.cell? ⟨w.heap.size, 0, none⟩ = some (.int .i64 1) := (blk_cell HMc.out.a 0).trans rfl
             have pa1 : w2.cell? ⟨w.heap.size, 1, none⟩ = some (.int .i64 aS) := (blk_cell HMc.out.a 1).trans rfl
             have pa3 : w2.cell? ⟨w.heap.size, 3, none⟩ = some (.int .i64 aN) := (blk_cell HMc.out.a 3).trans rfl
             have pb0 : w2.cell? ⟨w.heap.size + 1, 0, none⟩ = some (.int .i64 1) := (blk_cell HMc.out.b 0).trans rfl
             have pb1 : w2.cell? ⟨w.heap.size + 1, 1, none⟩ = some (.int .i64 bS) := (blk_cell HMc.out.b 1).trans rfl
             have pb3 : w2.cell? ⟨w.heap.size + 1, 3, none⟩ = some (.int .i64 bN) := (blk_cell HMc.out.b 3).trans rfl
             have hz1 : w.heap.size < w2.heap.size := blk_lt HMc.out.a
             have hz2 : w.heap.size + 1 < w2.heap.size := blk_lt HMc.out.b
             clear hb2)
          | (go_at_call 66; with_reducible refine (HM1.out _ HM0.out.below).mono ?_
             rintro e w1 ⟨rfl, hb1⟩
             have HMb := Aside0.mk (HM0.out.on hb1)
             have hx0 : w1.cell? ⟨w.heap.size + 1, 0, none⟩ = some (.int .i64 1) := (blk_cell HMb.out.b 0).trans rfl
             have hx1 : w1.cell? ⟨w.heap.size + 1, 1, none⟩ = some (.int .i64 bS) := (blk_cell HMb.out.b 1).trans rfl
             have hx2 : w1.cell? ⟨w.heap.size + 1, 2, none⟩ = some (.int .i64 bO) := (blk_cell HMb.out.b 2).trans rfl
             have hx3 : w1.cell? ⟨w.heap.size + 1, 3, none⟩ = some (.int .i64 bN) := (blk_cell HMb.out.b 3).trans rfl
             have hx4 : w1.cell? ⟨w.heap.size + 1, 4, none⟩ = some (.slice B4 bnx.length d4) := (blk_cell HMb.out.b 4).trans rfl
             have hx5 : w1.cell? ⟨w.heap.size + 1, 5, none⟩ = some (.slice B5 bout.length d5) := (blk_cell HMb.out.b 5).trans rfl
             clear hb1)
          | ((with_reducible refine gate_store (t := 43) (p := 6) rfl ?_)
             refine wpList_store_rowTo rfl 43 (.tmp 6) (.tmp 58) rfl rfl (w.heap.size + 1 + 1) zero43 rfl rfl 43 _ HMc.out.z ?_ rfl zero43_one ?_
             (focus (rw [i43]; rfl))))
        have hblk := setRow_heap w2 (w.heap.size + 1 + 1) _ zero43 43 (0, 0) HMc.out.z
        try simp only [Exit.inBlock, Exit.then]
        refine bodyPost_ret (results_ct rfl _ _ (w.heap.size + 1 + 1) 43 zero43 (0, 0) _ rfl hblk Try.underlying43 rfl (by rw [i43]; rfl)) rfl ?_
        exact ⟨_, _, rfl, Kd.R_nil _ _ _ _ _, Kd.R_nil _ _ _ _ _, below_setRow HMc.out.below (by omega) _⟩
  rw [if_neg qo] at hr
  have hs : aS = bS := by omega
  subst hs
  have ho0 : 0 ≤ op := by omega
  have ho1 : op ≤ 15 := by omega
  clear qo
  by_cases qn : (0 < aN ∧ aN ≤ 1024) ∧ (0 < bN ∧ bN ≤ 1024) ∧ (0 ≤ aS ∧ aS ≤ 64)
  rotate_left
  · rw [if_neg qn] at hr; exact absurd hr (by simp)
  rw [if_pos qn] at hr
  obtain ⟨⟨hn1, hn2⟩, ⟨hn3, hn4⟩, hs1, hs2⟩ := qn
  cases hd : rmF aS bN anx aout bnx bout op k 0 ((List.replicate (aN * bN).toNat 0).set 0 1) [0] [] [] with
  | none => rw [hd] at hr; exact absurd hr (by simp)
  | some res =>
  rw [hd] at hr
  have HD0 := Aside0.mk hd
  have HRES := Aside0.mk hr
  clear hr hd
  have hmul : aN * bN ≤ 1024 * 1024 := Int.mul_le_mul hn2 hn4 (by omega) (by omega)
  have hpos : 0 < aN * bN := Int.mul_pos hn1 hn3
  obtain ⟨nn, hnn⟩ : ∃ nn : Int, aN * bN = nn := ⟨_, rfl⟩
  have hwn : IntKind.i64.wrap (aN * bN) = nn := by rw [hnn]; exact IntWalk.i64_in _ ⟨by omega, by omega⟩
  have hwn2 : wrap64 (aN * bN) = nn := by rw [hnn]; exact w64i (by omega) (by omega)
  rw [hnn] at HD0 hmul hpos
  clear hnn
  go_enter Try.func31, Try.ntmps31
  go_wp2_with (first
    | (go_at_call 66; with_reducible refine (HM2.out _ HMb.out.below).mono ?_
       rintro e w2 ⟨rfl, hb2⟩
       have HMc := Aside0.mk (HMb.out.on hb2)
       clear hx0 hx1 hx2 hx3 hx4 hx5
       have pa0 : w2.cell? ⟨w.heap.size, 0, none⟩ = some (.int .i64 1) := (blk_cell HMc.out.a 0).trans rfl
       have pa1 : w2.cell? ⟨w.heap.size, 1, none⟩ = some (.int .i64 aS) := (blk_cell HMc.out.a 1).trans rfl
       have pa3 : w2.cell? ⟨w.heap.size, 3, none⟩ = some (.int .i64 aN) := (blk_cell HMc.out.a 3).trans rfl
       have pb0 : w2.cell? ⟨w.heap.size + 1, 0, none⟩ = some (.int .i64 1) := (blk_cell HMc.out.b 0).trans rfl
       have pb1 : w2.cell? ⟨w.heap.size + 1, 1, none⟩ = some (.int .i64 aS) := (blk_cell HMc.out.b 1).trans rfl
       have pb3 : w2.cell? ⟨w.heap.size + 1, 3, none⟩ = some (.int .i64 bN) := (blk_cell HMc.out.b 3).trans rfl
       have hz1 : w.heap.size < w2.heap.size := blk_lt HMc.out.a
       have hz2 : w.heap.size + 1 < w2.heap.size := blk_lt HMc.out.b
       clear hb2)
    | (go_at_call 66; with_reducible refine (HM1.out _ HM0.out.below).mono ?_
       rintro e w1 ⟨rfl, hb1⟩
       have HMb := Aside0.mk (HM0.out.on hb1)
       have hx0 : w1.cell? ⟨w.heap.size + 1, 0, none⟩ = some (.int .i64 1) := (blk_cell HMb.out.b 0).trans rfl
       have hx1 : w1.cell? ⟨w.heap.size + 1, 1, none⟩ = some (.int .i64 aS) := (blk_cell HMb.out.b 1).trans rfl
       have hx2 : w1.cell? ⟨w.heap.size + 1, 2, none⟩ = some (.int .i64 bO) := (blk_cell HMb.out.b 2).trans rfl
       have hx3 : w1.cell? ⟨w.heap.size + 1, 3, none⟩ = some (.int .i64 bN) := (blk_cell HMb.out.b 3).trans rfl
       have hx4 : w1.cell? ⟨w.heap.size + 1, 4, none⟩ = some (.slice B4 bnx.length d4) := (blk_cell HMb.out.b 4).trans rfl
       have hx5 : w1.cell? ⟨w.heap.size + 1, 5, none⟩ = some (.slice B5 bout.length d5) := (blk_cell HMb.out.b 5).trans rfl
       clear hb1)
    | ((with_reducible refine gate_dst (N := 67) rfl ?_)
       refine Kd.R_make (Kd.int .i64) (w0 := w2) w2.heap.size 3 rfl (N := 67) rfl 22 _ _ rfl nn rfl rfl Try.underlying22 (.int .i64 0) 8 info3 rfl (by decide) (by omega) 0 (ok := fun _ => True) (okp := fun _ => True) rfl (fun _ hk => hk) trivial (by omega) (by omega) (below_alloc (Below.refl _ _) _) (by simp) ?_
       intro v3 w3 ho hb hg hnew
       obtain ⟨gp, cp, rfl⟩ := Sp.new_slice ho hnew
       simp only [List.length_replicate] at ho hnew
       have HD3 := Aside0.mk (((Sp.Sep.nil w2.heap.size w2).alloc #[.int .i64 1, .int .i64 aS, .int .i64 2, .int .i64 0, .slice none 0 0, .slice none 0 0] 43 (Nat.le_refl _)).newRow rfl ho hg hnew (by simp))
       have HB3 := Aside0.mk hb
       have hpc := Kd.R_celln (0 : Int) (HD3.out.get 0 rfl) 0 (by omega) (by omega)
       obtain ⟨hpc1, hpc2⟩ := hpc
       simp only [Int.toNat_zero] at hpc1 hpc2
       have HD4 : Aside0 (Sp.Sep w2.heap.size [Sp.ints w2.heap.size (.slice (some ⟨gp, 0, none⟩) nn.toNat cp) ((List.replicate nn.toNat (0 : Int)).set 0 1), Sp.blk w2.heap.size #[.int .i64 1, .int .i64 aS, .int .i64 2, .int .i64 0, .slice none 0 0, .slice none 0 0] 43] (w3.setCell ⟨gp, 0, none⟩ (.int .i64 1))) := ⟨HD3.out.put 0 rfl 0 1 HB3.out.size⟩
       have HB4 := Aside0.mk (HB3.out.setCell (p := ⟨gp, 0, none⟩) (HD3.out.bound 0 rfl rfl).1 (.int .i64 1))
       clear ho hb hg hnew)
    | ((with_reducible refine gate_dst (N := 70) rfl ?_)
       (refine Kd.R_lit (Kd.int .i64) (w0 := w2) w2.heap.size 3 rfl (N := 70) rfl (xs := [(0 : Int)]) (inner := [.int .i64 0]) (ok := fun _ => True) (okp := fun _ => True) ?hr ?hp (fun _ hk => hk) trivial HB4.out HB4.out.size (by simp) ?_)
       (case hr => first | (go_simp; done) | (go_simp; rfl))
       (case hp => exact (Kd.reps_scalar (enc := Value.int .i64) [(0 : Int)]))
       intro v5 w5 ho hb hg hnew
       have HD5 := Aside0.mk (((HD4.out.newRow rfl ho hg hnew HB4.out.size).nilRow (Kd.int .i64) 3).nilRow (Kd.int .i64) 3)
       have HB5 := Aside0.mk hb
       clear ho hb hg hnew hpc1 hpc2))
  generalize hplq : (List.replicate nn.toNat (0 : Int)).set 0 1 = pl0 at HD0 HD5
  have HPL := Aside0.mk (show pl0.length = nn.toNat by rw [← hplq]; simp)
  clear hplq HD3 HD4 HB3 HB4 pa0 pa1 pa3 pb0 pb1 pb3
  go_loopg [12, 13] k (fun kq v12 v13 wr => ∃ (i : Nat) (row pl nx : List Int) (nxv : Value) (out : List Int) (outv : Value), v13 = .int .i64 (i : Int) ∧ Aside0 (rmF aS bN anx aout bnx bout op kq i pl row nx out = some res) ∧ Aside0 (kq ≤ k) ∧ Aside0 (Sp.Sep w2.heap.size [Sp.ints w2.heap.size outv out, Sp.ints w2.heap.size nxv nx, Sp.ints w2.heap.size v12 row, Sp.ints w2.heap.size (.slice (some ⟨gp, 0, none⟩) nn.toNat cp) pl, Sp.blk w2.heap.size #[.int .i64 1, .int .i64 aS, .int .i64 2, .int .i64 0, nxv, outv] 43] wr) ∧ Aside0 (Below w2.heap.size w2 wr) ∧ Aside0 (pl.length = nn.toNat))
  case atStart => exact ⟨0, [0], pl0, [], _, [], _, rfl, HD0, ⟨Nat.le_refl _⟩, HD5, HB5, HPL⟩
  case round =>
    clear HD0 HD5 HB5 HPL
    obtain ⟨i, row, pl, nx, nxv, out, outv, rfl, HF, HK1, HD, HB, HPL⟩ := hrel
    cases gk with
    | zero => exact absurd HF.out (by simp [rmF])
    | succ k1 =>
      have H := HF.out
      clear HF
      simp only [rmF] at H
      obtain ⟨Ar, cr, rfl⟩ := Kd.R_slice (HD.out.get 2 rfl)
      by_cases e1 : i < row.length
      · rw [if_pos e1] at H
        split at H
        · rename_i e2
          obtain ⟨⟨e2a, e2b, e2c⟩, ⟨e2d, e2e⟩, e2f, e2g⟩ := e2
          obtain ⟨adR, eR, hvR⟩ := Kd.at_int (Kd.R_reads' (HD.out.get 2 rfl)).2.2 (i : Int) (by omega) (by omega)
          subst eR
          generalize hv0 : rd row (i : Int) = v at H e2a e2b e2d e2e e2f hvR
          cases hin : rmIn aS bN anx bnx (v / bN) (v % bN) (List.range aS.toNat) pl row nx with
          | none => rw [hin] at H; exact absurd H (by simp)
          | some ires =>
            rw [hin] at H
            have HIN := Aside0.mk hin
            have HNX := Aside0.mk H
            have HOL := Aside0.mk e2g
            have hcN : wr.cell? ⟨w.heap.size + 1, 3, none⟩ = some (.int .i64 bN) := (blk_cell (HMc.out.on HB.out).b 3).trans rfl
            have e3a : 0 ≤ v / bN := Int.ediv_nonneg e2a (by omega)
            have e3b : 0 ≤ v % bN := Int.emod_nonneg _ (by omega)
            have hrl : (row.length : Int) ≤ 9223372036854775807 := by have := (Kd.R_reads' (HD.out.get 2 rfl)).2.2.2.1; omega
            have hz1 : w.heap.size < wr.heap.size := blk_lt (HMc.out.on HB.out).a
            rw [Int.toNat_natCast] at hvR
            obtain ⟨Ao, co, rfl⟩ := Kd.R_slice (HD.out.get 0 rfl)
            clear hin H hv0 hz2
            go_wp2
            have hb0 : ¬ bN = 0 := by omega
            have hq : IntKind.i64.wrap (v.tdiv bN) = v / bN := by
              rw [Int.tdiv_eq_ediv_of_nonneg e2a]
              have := Int.ediv_le_self bN e2a
              exact IntWalk.i64_in _ ⟨by omega, by omega⟩
            have hrm : v.tmod bN = v % bN := Int.tmod_eq_emod_of_nonneg e2a
            refine start_ (n := 16) (S := fun w' => w'.cell? (adR.add i) = some (.int .i64 v) ∧ w'.cell? ⟨w.heap.size + 1, 3, none⟩ = some (.int .i64 bN)) (ds := []) #[false, false, false, false, false, false, false, false, false, false, false, false, false, false, false, false] (by kernel_rfl) rfl rfl ⟨hvR, hcN⟩ (fun hHeld => ?_)
            refine with_tabW DN18.tab18 DN18.bits18 (fun HT_ HW_ => ?_)
            have HDD := Aside0.mk (HD.out.low (below_drew1 (Below.refl wr.heap.size wr)))
            have HBD := Aside0.mk (below_drew1 HB.out)
            generalize wr.drew = wd at HDD HBD hHeld ⊢
            refine pure_ (i := 0) (N := (some 77)) (v := ?_) (a' := ?_) #[true, false, false, false, false, false, false, false, false, false, false, false, false, false, false, false] rfl rfl (any_of HT_.out (by kernel_rfl)) (fun _ _ _ h => h) (Or.inl ⟨by rfl, ?_⟩) ?_ ?_
            rotate_left
            · intro w'
              go_simp
              with_reducible rfl
            rotate_left
            · simp only [Act.put, List.setIfInBounds_toArray, List.set_cons_zero, List.set_cons_succ, i64_w, i32_w]
              rfl
            refine pure_ (i := 1) (N := (some 78)) (v := ?_) (a' := ?_) #[true, true, false, false, false, false, false, false, false, false, false, false, false, false, false, false] rfl rfl (any_of HT_.out (by kernel_rfl)) (fun _ _ _ h => h) (Or.inl ⟨by rfl, ?_⟩) ?_ ?_
            rotate_left
            · intro w'
              go_simp
              with_reducible rfl
            rotate_left
            · simp only [Act.put, List.setIfInBounds_toArray, List.set_cons_zero, List.set_cons_succ, i64_w, i32_w]
              rfl
            refine pure_ (i := 2) (N := (some 79)) (v := ?_) (a' := ?_) #[true, true, true, false, false, false, false, false, false, false, false, false, false, false, false, false] rfl rfl (any_of HT_.out (by kernel_rfl)) (fun _ _ _ h => h) (Or.inl ⟨by rfl, ?_⟩) ?_ ?_
            rotate_left
            · intro w'
              go_simp
              with_reducible rfl
            rotate_left
            · simp only [Act.put, List.setIfInBounds_toArray, List.set_cons_zero, List.set_cons_succ, i64_w, i32_w]
              rfl
            refine pure_ (i := 4) (N := (some 81)) (v := ?_) (a' := ?_) #[true, true, true, false, true, false, false, false, false, false, false, false, false, false, false, false] rfl rfl (any_of HT_.out (by kernel_rfl)) (fun _ _ _ h => h) (Or.inl ⟨by rfl, ?_⟩) ?_ ?_
            rotate_left
            · intro w'
              go_simp
              with_reducible rfl
            rotate_left
            · simp only [Act.put, List.setIfInBounds_toArray, List.set_cons_zero, List.set_cons_succ, i64_w, i32_w]
              rfl
            refine pure_ (i := 7) (N := (some 84)) (v := ?_) (a' := ?_) #[true, true, true, false, true, false, false, true, false, false, false, false, false, false, false, false] rfl rfl (any_of HT_.out (by kernel_rfl)) (fun _ _ _ h => h) (Or.inl ⟨by rfl, ?_⟩) ?_ ?_
            rotate_left
            · intro w'
              go_simp
              with_reducible rfl
            rotate_left
            · simp only [Act.put, List.setIfInBounds_toArray, List.set_cons_zero, List.set_cons_succ, i64_w, i32_w]
              rfl
            refine pure_ (i := 8) (N := (some 85)) (v := ?_) (a' := ?_) #[true, true, true, false, true, false, false, true, true, false, false, false, false, false, false, false] rfl rfl (any_of HT_.out (by kernel_rfl)) (fun _ _ _ h => h) (Or.inl ⟨by rfl, ?_⟩) ?_ ?_
            rotate_left
            · intro w'
              go_simp
              with_reducible rfl
            rotate_left
            · simp only [Act.put, List.setIfInBounds_toArray, List.set_cons_zero, List.set_cons_succ, i64_w, i32_w]
              rfl
            refine pure_ (i := 9) (N := (some 86)) (v := ?_) (a' := ?_) #[true, true, true, false, true, false, false, true, true, true, false, false, false, false, false, false] rfl rfl (any_of HT_.out (by kernel_rfl)) (fun _ _ _ h => h) (Or.inl ⟨by rfl, ?_⟩) ?_ ?_
            rotate_left
            · intro w'
              go_simp
              with_reducible rfl
            rotate_left
            · simp only [Act.put, List.setIfInBounds_toArray, List.set_cons_zero, List.set_cons_succ, i64_w, i32_w]
              rfl
            refine pure_ (i := 11) (N := (some 88)) (v := ?_) (a' := ?_) #[true, true, true, false, true, false, false, true, true, true, false, true, false, false, false, false] rfl rfl (any_of HT_.out (by kernel_rfl)) (fun _ _ _ h => h) (Or.inl ⟨by rfl, ?_⟩) ?_ ?_
            rotate_left
            · intro w'
              go_simp
              with_reducible rfl
            rotate_left
            · simp only [Act.put, List.setIfInBounds_toArray, List.set_cons_zero, List.set_cons_succ, i64_w, i32_w]
              rfl
            refine take_ (i := 3) (N := (some 80)) (v := ?_) (a' := ?_) #[true, true, true, true, true, false, false, true, true, true, false, true, false, false, false, false] rfl rfl (take_ofW HT_.out HW_.out (by kernel_rfl)) (fun _ _ _ h => h) (Or.inl ⟨by rfl, ?_⟩) hHeld ?_ ?_
            rotate_left
            · rintro w' ⟨s0, s1⟩
              go_simp
              with_reducible rfl
            rotate_left
            · simp only [Act.put, List.setIfInBounds_toArray, List.set_cons_zero, List.set_cons_succ, i64_w, i32_w]
              rfl
            refine take_ (i := 5) (N := (some 82)) (v := ?_) (a' := ?_) #[true, true, true, true, true, true, false, true, true, true, false, true, false, false, false, false] rfl rfl (take_ofW HT_.out HW_.out (by kernel_rfl)) (fun _ _ _ h => h) (Or.inl ⟨by rfl, ?_⟩) hHeld ?_ ?_
            rotate_left
            · rintro w' ⟨s0, s1⟩
              go_simp
              with_reducible rfl
            rotate_left
            · simp only [Act.put, List.setIfInBounds_toArray, List.set_cons_zero, List.set_cons_succ, i64_w, i32_w]
              rfl
            refine pure_ (i := 6) (N := (some 83)) (v := ?_) (a' := ?_) #[true, true, true, true, true, true, true, true, true, true, false, true, false, false, false, false] rfl rfl (any_of HT_.out (by kernel_rfl)) (fun _ _ _ h => h) (Or.inl ⟨by rfl, ?_⟩) ?_ ?_
            rotate_left
            · intro w'
              go_simp
              with_reducible rfl
            rotate_left
            · simp only [Act.put, List.setIfInBounds_toArray, List.set_cons_zero, List.set_cons_succ, i64_w, i32_w]
              rfl
            refine pure_ (i := 14) (N := (some 14)) (v := ?_) (a' := ?_) #[true, true, true, true, true, true, true, true, true, true, false, true, false, false, true, false] rfl rfl (any_of HT_.out (by kernel_rfl)) (fun _ _ _ h => h) (Or.inl ⟨by rfl, ?_⟩) ?_ ?_
            rotate_left
            · intro w'
              go_simp
              with_reducible rfl
            rotate_left
            · simp only [Act.put, List.setIfInBounds_toArray, List.set_cons_zero, List.set_cons_succ, i64_w, i32_w]
              rfl
            refine take_ (i := 10) (N := (some 87)) (v := ?_) (a' := ?_) #[true, true, true, true, true, true, true, true, true, true, true, true, false, false, true, false] rfl rfl (take_ofW HT_.out HW_.out (by kernel_rfl)) (fun _ _ _ h => h) (Or.inl ⟨by rfl, ?_⟩) hHeld ?_ ?_
            rotate_left
            · rintro w' ⟨s0, s1⟩
              go_simp
              with_reducible rfl
            rotate_left
            · simp only [Act.put, List.setIfInBounds_toArray, List.set_cons_zero, List.set_cons_succ, i64_w, i32_w]
              rfl
            refine take_ (i := 12) (N := (some 89)) (v := ?_) (a' := ?_) #[true, true, true, true, true, true, true, true, true, true, true, true, true, false, true, false] rfl rfl (take_ofW HT_.out HW_.out (by kernel_rfl)) (fun _ _ _ h => h) (Or.inl ⟨by rfl, ?_⟩) hHeld ?_ ?_
            rotate_left
            · rintro w' ⟨s0, s1⟩
              go_simp
              with_reducible rfl
            rotate_left
            · simp only [Act.put, List.setIfInBounds_toArray, List.set_cons_zero, List.set_cons_succ, i64_w, i32_w]
              rfl
            refine pure_ (i := 13) (N := (some 90)) (v := ?_) (a' := ?_) #[true, true, true, true, true, true, true, true, true, true, true, true, true, true, true, false] rfl rfl (any_of HT_.out (by kernel_rfl)) (fun _ _ _ h => h) (Or.inl ⟨by rfl, ?_⟩) ?_ ?_
            rotate_left
            · intro w'
              go_simp
              with_reducible rfl
            rotate_left
            · simp only [Act.put, List.setIfInBounds_toArray, List.set_cons_zero, List.set_cons_succ, i64_w, i32_w]
              rfl
            refine pure_ (i := 15) (N := (some 15)) (v := ?_) (a' := ?_) #[true, true, true, true, true, true, true, true, true, true, true, true, true, true, true, true] rfl rfl (any_of HT_.out (by kernel_rfl)) (fun _ _ _ h => h) (Or.inl ⟨by rfl, ?_⟩) ?_ ?_
            rotate_left
            · intro w'
              go_simp
              with_reducible rfl
            rotate_left
            · simp only [Act.put, List.setIfInBounds_toArray, List.set_cons_zero, List.set_cons_succ, i64_w, i32_w]
              rfl
            refine done_ (done_of HT_.out (by kernel_rfl)) ?_
            clear hHeld hvR hcN hb0 hq hrm
            obtain ⟨adA, eA, hvA⟩ := Kd.at_int (Kd.C_below HAR.out.1.2 (HMc.out.on HBD.out).below) (v / bN) e3a e2d
            obtain ⟨adB, eB, hvB⟩ := Kd.at_int (Kd.C_below HAR.out.2.2 (HMc.out.on HBD.out).below) (v % bN) e3b e2e
            subst eA
            subst eB
            have hcA : wd.cell? ⟨w.heap.size, 5, none⟩ = some (.slice (some adA) aout.length c5) := (blk_cell (HMc.out.on HBD.out).a 5).trans rfl
            have hcB : wd.cell? ⟨w.heap.size + 1, 5, none⟩ = some (.slice (some adB) bout.length d5) := (blk_cell (HMc.out.on HBD.out).b 5).trans rfl
            have hcM : wd.cell? ⟨w2.heap.size, 5, none⟩ = some (.slice Ao out.length co) := (blk_cell (HDD.out.get 4 rfl) 5).trans rfl
            go_wp2
            refine start_ (n := 21) (S := fun w' => w'.cell? ⟨w2.heap.size, 5, none⟩ = some (.slice Ao out.length co) ∧ w'.cell? ⟨w.heap.size, 5, none⟩ = some (.slice (some adA) aout.length c5) ∧ w'.cell? ⟨w.heap.size + 1, 5, none⟩ = some (.slice (some adB) bout.length d5) ∧ w'.cell? (adA.add (v / bN).toNat) = some (.int .i64 (rd aout (v / bN))) ∧ w'.cell? (adB.add (v % bN).toNat) = some (.int .i64 (rd bout (v % bN)))) (ds := [18, 20]) #[false, false, false, false, false, false, false, false, false, false, false, false, false, false, false, false, false, false, false, false, false] (by kernel_rfl) rfl rfl ⟨hcM, hcA, hcB, hvA, hvB⟩ (fun hHeld => ?_)
            refine with_tabW DN19.tab19 DN19.bits19 (fun HT_ HW_ => ?_)
            have HDE := Aside0.mk (HDD.out.low (below_drew1 (Below.refl wd.heap.size wd)))
            have HBE := Aside0.mk (below_drew1 HBD.out)
            generalize wd.drew = we at HDE HBE hHeld ⊢
            refine pure_ (i := 0) (N := (some 91)) (v := ?_) (a' := ?_) #[true, false, false, false, false, false, false, false, false, false, false, false, false, false, false, false, false, false, false, false, false] rfl rfl (any_of HT_.out (by kernel_rfl)) (fun _ _ _ h => h) (Or.inl ⟨by rfl, ?_⟩) ?_ ?_
            rotate_left
            · intro w'
              go_simp
              with_reducible rfl
            rotate_left
            · simp only [Act.put, List.setIfInBounds_toArray, List.set_cons_zero, List.set_cons_succ, i64_w, i32_w]
              rfl
            refine pure_ (i := 2) (N := (some 93)) (v := ?_) (a' := ?_) #[true, false, true, false, false, false, false, false, false, false, false, false, false, false, false, false, false, false, false, false, false] rfl rfl (any_of HT_.out (by kernel_rfl)) (fun _ _ _ h => h) (Or.inl ⟨by rfl, ?_⟩) ?_ ?_
            rotate_left
            · intro w'
              go_simp
              with_reducible rfl
            rotate_left
            · simp only [Act.put, List.setIfInBounds_toArray, List.set_cons_zero, List.set_cons_succ, i64_w, i32_w]
              rfl
            refine pure_ (i := 3) (N := (some 94)) (v := ?_) (a' := ?_) #[true, false, true, true, false, false, false, false, false, false, false, false, false, false, false, false, false, false, false, false, false] rfl rfl (any_of HT_.out (by kernel_rfl)) (fun _ _ _ h => h) (Or.inl ⟨by rfl, ?_⟩) ?_ ?_
            rotate_left
            · intro w'
              go_simp
              with_reducible rfl
            rotate_left
            · simp only [Act.put, List.setIfInBounds_toArray, List.set_cons_zero, List.set_cons_succ, i64_w, i32_w]
              rfl
            refine pure_ (i := 5) (N := (some 96)) (v := ?_) (a' := ?_) #[true, false, true, true, false, true, false, false, false, false, false, false, false, false, false, false, false, false, false, false, false] rfl rfl (any_of HT_.out (by kernel_rfl)) (fun _ _ _ h => h) (Or.inl ⟨by rfl, ?_⟩) ?_ ?_
            rotate_left
            · intro w'
              go_simp
              with_reducible rfl
            rotate_left
            · simp only [Act.put, List.setIfInBounds_toArray, List.set_cons_zero, List.set_cons_succ, i64_w, i32_w]
              rfl
            refine pure_ (i := 9) (N := (some 100)) (v := ?_) (a' := ?_) #[true, false, true, true, false, true, false, false, false, true, false, false, false, false, false, false, false, false, false, false, false] rfl rfl (any_of HT_.out (by kernel_rfl)) (fun _ _ _ h => h) (Or.inl ⟨by rfl, ?_⟩) ?_ ?_
            rotate_left
            · intro w'
              go_simp
              with_reducible rfl
            rotate_left
            · simp only [Act.put, List.setIfInBounds_toArray, List.set_cons_zero, List.set_cons_succ, i64_w, i32_w]
              rfl
            refine pure_ (i := 11) (N := (some 102)) (v := ?_) (a' := ?_) #[true, false, true, true, false, true, false, false, false, true, false, true, false, false, false, false, false, false, false, false, false] rfl rfl (any_of HT_.out (by kernel_rfl)) (fun _ _ _ h => h) (Or.inl ⟨by rfl, ?_⟩) ?_ ?_
            rotate_left
            · intro w'
              go_simp
              with_reducible rfl
            rotate_left
            · simp only [Act.put, List.setIfInBounds_toArray, List.set_cons_zero, List.set_cons_succ, i64_w, i32_w]
              rfl
            refine take_ (i := 1) (N := (some 92)) (v := ?_) (a' := ?_) #[true, true, true, true, false, true, false, false, false, true, false, true, false, false, false, false, false, false, false, false, false] rfl rfl (take_ofW HT_.out HW_.out (by kernel_rfl)) (fun _ _ _ h => h) (Or.inl ⟨by rfl, ?_⟩) hHeld ?_ ?_
            rotate_left
            · rintro w' ⟨s0, s1, s2, s3, s4⟩
              go_simp
              with_reducible rfl
            rotate_left
            · simp only [Act.put, List.setIfInBounds_toArray, List.set_cons_zero, List.set_cons_succ, i64_w, i32_w]
              rfl
            refine take_ (i := 4) (N := (some 95)) (v := ?_) (a' := ?_) #[true, true, true, true, true, true, false, false, false, true, false, true, false, false, false, false, false, false, false, false, false] rfl rfl (take_ofW HT_.out HW_.out (by kernel_rfl)) (fun _ _ _ h => h) (Or.inl ⟨by rfl, ?_⟩) hHeld ?_ ?_
            rotate_left
            · rintro w' ⟨s0, s1, s2, s3, s4⟩
              go_simp
              with_reducible rfl
            rotate_left
            · simp only [Act.put, List.setIfInBounds_toArray, List.set_cons_zero, List.set_cons_succ, i64_w, i32_w]
              rfl
            refine pure_ (i := 6) (N := (some 97)) (v := ?_) (a' := ?_) #[true, true, true, true, true, true, true, false, false, true, false, true, false, false, false, false, false, false, false, false, false] rfl rfl (any_of HT_.out (by kernel_rfl)) (fun _ _ _ h => h) (Or.inl ⟨by rfl, ?_⟩) ?_ ?_
            rotate_left
            · intro w'
              go_simp
              with_reducible rfl
            rotate_left
            · simp only [Act.put, List.setIfInBounds_toArray, List.set_cons_zero, List.set_cons_succ, i64_w, i32_w]
              rfl
            refine take_ (i := 7) (N := (some 98)) (v := ?_) (a' := ?_) #[true, true, true, true, true, true, true, true, false, true, false, true, false, false, false, false, false, false, false, false, false] rfl rfl (take_ofW HT_.out HW_.out (by kernel_rfl)) (fun _ _ _ h => h) (Or.inl ⟨by rfl, ?_⟩) hHeld ?_ ?_
            rotate_left
            · rintro w' ⟨s0, s1, s2, s3, s4⟩
              go_simp
              with_reducible rfl
            rotate_left
            · simp only [Act.put, List.setIfInBounds_toArray, List.set_cons_zero, List.set_cons_succ, i64_w, i32_w]
              rfl
            refine pure_ (i := 8) (N := (some 99)) (v := ?_) (a' := ?_) #[true, true, true, true, true, true, true, true, true, true, false, true, false, false, false, false, false, false, false, false, false] rfl rfl (any_of HT_.out (by kernel_rfl)) (fun _ _ _ h => h) (Or.inl ⟨by rfl, ?_⟩) ?_ ?_
            rotate_left
            · intro w'
              go_simp
              with_reducible rfl
            rotate_left
            · simp only [Act.put, List.setIfInBounds_toArray, List.set_cons_zero, List.set_cons_succ, i64_w, i32_w]
              rfl
            refine take_ (i := 10) (N := (some 101)) (v := ?_) (a' := ?_) #[true, true, true, true, true, true, true, true, true, true, true, true, false, false, false, false, false, false, false, false, false] rfl rfl (take_ofW HT_.out HW_.out (by kernel_rfl)) (fun _ _ _ h => h) (Or.inl ⟨by rfl, ?_⟩) hHeld ?_ ?_
            rotate_left
            · rintro w' ⟨s0, s1, s2, s3, s4⟩
              go_simp
              with_reducible rfl
            rotate_left
            · simp only [Act.put, List.setIfInBounds_toArray, List.set_cons_zero, List.set_cons_succ, i64_w, i32_w]
              rfl
            refine pure_ (i := 12) (N := (some 103)) (v := ?_) (a' := ?_) #[true, true, true, true, true, true, true, true, true, true, true, true, true, false, false, false, false, false, false, false, false] rfl rfl (any_of HT_.out (by kernel_rfl)) (fun _ _ _ h => h) (Or.inl ⟨by rfl, ?_⟩) ?_ ?_
            rotate_left
            · intro w'
              go_simp
              with_reducible rfl
            rotate_left
            · simp only [Act.put, List.setIfInBounds_toArray, List.set_cons_zero, List.set_cons_succ, i64_w, i32_w]
              rfl
            refine take_ (i := 13) (N := (some 104)) (v := ?_) (a' := ?_) #[true, true, true, true, true, true, true, true, true, true, true, true, true, true, false, false, false, false, false, false, false] rfl rfl (take_ofW HT_.out HW_.out (by kernel_rfl)) (fun _ _ _ h => h) (Or.inl ⟨by rfl, ?_⟩) hHeld ?_ ?_
            rotate_left
            · rintro w' ⟨s0, s1, s2, s3, s4⟩
              go_simp
              with_reducible rfl
            rotate_left
            · simp only [Act.put, List.setIfInBounds_toArray, List.set_cons_zero, List.set_cons_succ, i64_w, i32_w]
              rfl
            refine pure_ (i := 14) (N := (some 105)) (v := ?_) (a' := ?_) #[true, true, true, true, true, true, true, true, true, true, true, true, true, true, true, false, false, false, false, false, false] rfl rfl (any_of HT_.out (by kernel_rfl)) (fun _ _ _ h => h) (Or.inl ⟨by rfl, ?_⟩) ?_ ?_
            rotate_left
            · intro w'
              go_simp
              with_reducible rfl
            rotate_left
            · simp only [Act.put, List.setIfInBounds_toArray, List.set_cons_zero, List.set_cons_succ, i64_w, i32_w]
              rfl
            refine pure_ (i := 15) (N := (some 106)) (v := ?_) (a' := ?_) #[true, true, true, true, true, true, true, true, true, true, true, true, true, true, true, true, false, false, false, false, false] rfl rfl (any_of HT_.out (by kernel_rfl)) (fun _ _ _ h => h) (Or.inl ⟨by rfl, ?_⟩) ?_ ?_
            rotate_left
            · intro w'
              go_simp
              with_reducible rfl
            rotate_left
            · simp only [Act.put, List.setIfInBounds_toArray, List.set_cons_zero, List.set_cons_succ, i64_w, i32_w]
              rfl
            refine pure_ (i := 16) (N := (some 107)) (v := ?_) (a' := ?_) #[true, true, true, true, true, true, true, true, true, true, true, true, true, true, true, true, true, false, false, false, false] rfl rfl (any_of HT_.out (by kernel_rfl)) (fun _ _ _ h => h) (Or.inl ⟨by rfl, ?_⟩) ?_ ?_
            rotate_left
            · intro w'
              go_simp
              with_reducible rfl
            rotate_left
            · simp only [Act.put, List.setIfInBounds_toArray, List.set_cons_zero, List.set_cons_succ, i64_w, i32_w]
              rfl
            refine one_ (i := 17) (N := (some 108)) #[true, true, true, true, true, true, true, true, true, true, true, true, true, true, true, true, true, true, false, false, false] rfl rfl (one_of HT_.out (by kernel_rfl)) (by decide) (fun K hK => ?_)
            refine value_ (w1 := ?_) (v := ?_) (by rfl) rfl ?_ ?_
            rotate_left 2
            · go_simp
              constructor
              · rfl
              · rfl
            refine hK.out _ _ ⟨cell_al hHeld.1, cell_al hHeld.2.1, cell_al hHeld.2.2.1, cell_al hHeld.2.2.2.1, cell_al hHeld.2.2.2.2⟩ (fun hHeld => ?_); clear hK K
            refine norm_ (a' := ?_) ?_ ?_
            rotate_left
            · show Act.put _ (some 108) _ = _
              simp only [Act.put, List.setIfInBounds_toArray, List.set_cons_zero, List.set_cons_succ, i64_w, i32_w]
              rfl
            refine last_ (i := 18) (N := (some 109)) #[true, true, true, true, true, true, true, true, true, true, true, true, true, true, true, true, true, true, true, false, false] rfl rfl (one_of HT_.out (by kernel_rfl)) (by decide) (fun K hK => ?_)
            refine Kd.R_append_step (Kd.int .i64) (w0 := w2) w2.heap.size (by rfl) (.tmp 92) (.tmp 108) 22 3 (.int .i64 0) 8 rfl Try.underlying22 info3 rfl (by decide) (by omega) (.slice Ao out.length co) out (mtO aout bout op (v / bN, v % bN)) [.int .i64 (mtO aout bout op (v / bN, v % bN))] (fun _ => True) (fun _ => False) rfl rfl rfl (fun _ hk => hk.elim) (fun _ _ => trivial) (Kd.R_mono (HDE.out.get 0 rfl) (fun _ _ => trivial)) HBE.out HBE.out.size (by have := HOL.out; omega) ?_
            intro v1 w1 ho hb hg hat
            obtain ⟨A9, c9, rfl⟩ := Kd.R_slice ho
            have HDF := Aside0.mk (HDE.out.app 0 rfl rfl ho hg hat HBE.out.size)
            have HBF := Aside0.mk hb
            have hM1 := HDF.out.get 4 rfl
            have hfz := blk_frozen hM1 5
            have hcl : w1.cell? ⟨w2.heap.size, 5, none⟩ = some (.slice Ao out.length co) := (blk_cell hM1 5).trans rfl
            clear ho hb hg hat hM1
            refine hK.out _ _ ?_; clear hK K
            refine norm_ (a' := ?_) ?_ ?_
            rotate_left
            · show Act.put _ (some 109) _ = _
              simp only [Act.put, List.setIfInBounds_toArray, List.set_cons_zero, List.set_cons_succ, i64_w, i32_w]
              rfl
            refine pure_ (i := 19) (N := (some 110)) (v := ?_) (a' := ?_) #[true, true, true, true, true, true, true, true, true, true, true, true, true, true, true, true, true, true, true, true, false] rfl rfl (any_of HT_.out (by kernel_rfl)) (fun _ _ _ h => h) (Or.inl ⟨by rfl, ?_⟩) ?_ ?_
            rotate_left
            · intro w'
              go_simp
              with_reducible rfl
            rotate_left
            · simp only [Act.put, List.setIfInBounds_toArray, List.set_cons_zero, List.set_cons_succ, i64_w, i32_w]
              rfl
            refine last_ (i := 20) (N := none) #[true, true, true, true, true, true, true, true, true, true, true, true, true, true, true, true, true, true, true, true, true] rfl rfl (one_of HT_.out (by kernel_rfl)) (by decide) (fun K hK => ?_)
            refine skip_ (w1 := ?_) (by rfl) rfl ?_ ?_
            rotate_left
            · go_simp
              rfl
            refine hK.out _ _ ?_; clear hK K
            refine done_ (done_of HT_.out (by kernel_rfl)) ?_
            have HD6 := HDF.out.cell 4 rfl 5 (.slice A9 (out ++ [mtO aout bout op (v / bN, v % bN)]).length c9) rfl HBF.out.size
            have HB6 := HDF.out.belowSet (j := 5) (u := .slice A9 (out ++ [mtO aout bout op (v / bN, v % bN)]).length c9) 4 rfl HBF.out
            simp only [List.length_append, List.length_singleton] at HD6 HB6
            generalize w1.setCell ⟨w2.heap.size, 5, none⟩ (.slice A9 (out.length + 1) c9) = w6 at HD6 HB6 ⊢
            generalize Value.slice A9 (out.length + 1) c9 = ov2 at HD6
            generalize hout2 : out ++ [mtO aout bout op (v / bN, v % bN)] = out2 at HD6 HNX
            have HD7 : Aside0 (Sp.Sep w2.heap.size [Sp.ints w2.heap.size ov2 out2, Sp.ints w2.heap.size nxv nx, Sp.ints w2.heap.size (.slice (some adR) row.length cr) row, Sp.ints w2.heap.size (.slice (some ⟨gp, 0, none⟩) nn.toNat cp) pl, Sp.blk w2.heap.size #[.int .i64 1, .int .i64 aS, .int .i64 2, .int .i64 0, nxv, ov2] 43] w6) := ⟨HD6⟩
            have HB7 := Aside0.mk HB6
            have hx1 : w6.cell? ⟨w.heap.size, 1, none⟩ = some (.int .i64 aS) := (blk_cell (HMc.out.on HB6).a 1).trans rfl
            have HIB := Aside0.mk (show (i : Int) + 1 ≤ 9223372036854775807 by omega)
            generalize hsv : v / bN = s at HIN HNX e3a e2d hcA hvA e2f ⊢
            generalize htv : v % bN = t at HIN HNX e3b e2e hcB hvB e2f ⊢
            clear hfz hcl hcA hcB hcM hvA hvB hHeld HD6 HB6 HDF HBF HDE HBE HDD HBD HD HB hout2 hsv htv e2a e2b hrl hz1 e1
            go_wp2
            clear hx1
            go_loopw [16, 12] (fun v16 v12 wr2 => ∃ (x : Nat) (row1 pl1 nx1 : List Int) (nxv1 : Value), v16 = .int .i64 (x : Int) ∧ Aside0 (x ≤ aS.toNat) ∧ Aside0 (rmIn aS bN anx bnx s t ((List.range aS.toNat).drop x) pl1 row1 nx1 = some ires) ∧ Aside0 (Sp.Sep w2.heap.size [Sp.ints w2.heap.size ov2 out2, Sp.ints w2.heap.size nxv1 nx1, Sp.ints w2.heap.size v12 row1, Sp.ints w2.heap.size (.slice (some ⟨gp, 0, none⟩) nn.toNat cp) pl1, Sp.blk w2.heap.size #[.int .i64 1, .int .i64 aS, .int .i64 2, .int .i64 0, nxv1, ov2] 43] wr2) ∧ Aside0 (Below w2.heap.size w2 wr2) ∧ Aside0 (pl1.length = nn.toNat)) (fun v16 _ _ => aS.toNat - (intOf v16).toNat)
            case atStart => exact ⟨0, row, pl, nx, nxv, rfl, ⟨by omega⟩, HIN, HD7, HB7, HPL⟩
            case round =>
              clear HIN HD7 HB7 HPL HOL
              obtain ⟨x, row1, pl1, nx1, nxv1, rfl, HX, HIN, HD, HB, HPL⟩ := hrel
              obtain ⟨An, cn, rfl⟩ := Kd.R_slice (HD.out.get 1 rfl)
              obtain ⟨Ar, cr2, rfl⟩ := Kd.R_slice (HD.out.get 2 rfl)
              have hx1 : wr.cell? ⟨w.heap.size, 1, none⟩ = some (.int .i64 aS) := (blk_cell (HMc.out.on HB.out).a 1).trans rfl
              by_cases hlt : x < aS.toNat
              · have H := HIN.out
                have hd : (List.range aS.toNat).drop x = x :: (List.range aS.toNat).drop (x + 1) := by
                  rw [List.drop_eq_getElem_cons (by simpa using hlt)]
                  simp
                rw [hd] at H
                clear HIN hd
                simp only [rmIn] at H
                have hlt' : (x : Int) < aS := by omega
                have HLT := Aside0.mk hlt
                clear hlt
                by_cases e3 : (0 ≤ mtI aS s x ∧ mtI aS s x < (anx.length : Int)) ∧ (0 ≤ mtI aS t x ∧ mtI aS t x < (bnx.length : Int))
                · rw [if_pos e3] at H
                  obtain ⟨⟨e3a, e3b⟩, e3c, e3d⟩ := e3
                  obtain ⟨adA, eA, hvA⟩ := Kd.at_int (Kd.C_below HAR.out.1.1 (HMc.out.on HB.out).below) _ e3a e3b
                  obtain ⟨adB, eB, hvB⟩ := Kd.at_int (Kd.C_below HAR.out.2.1 (HMc.out.on HB.out).below) _ e3c e3d
                  subst eA
                  subst eB
                  obtain ⟨p, hp⟩ : ∃ p, rmP aS bN anx bnx s t x = p := ⟨_, rfl⟩
                  rw [hp] at H
                  have hp2 : wrap64 (wrap64 (rd anx (mtI aS s x) * bN) + rd bnx (mtI aS t x)) = p := hp
                  clear hp
                  generalize rd anx (mtI aS s x) = na at hp2 hvA
                  generalize rd bnx (mtI aS t x) = nb at hp2 hvB
                  have HP2 := Aside0.mk hp2
                  clear hp2
                  simp only [mtI] at e3a e3b e3c e3d hvA hvB
                  have hcA : wr.cell? ⟨w.heap.size, 4, none⟩ = some (.slice (some adA) anx.length c4) := (blk_cell (HMc.out.on HB.out).a 4).trans rfl
                  have hcS : wr.cell? ⟨w.heap.size, 1, none⟩ = some (.int .i64 aS) := (blk_cell (HMc.out.on HB.out).a 1).trans rfl
                  have hcB : wr.cell? ⟨w.heap.size + 1, 4, none⟩ = some (.slice (some adB) bnx.length d4) := (blk_cell (HMc.out.on HB.out).b 4).trans rfl
                  have hcT : wr.cell? ⟨w.heap.size + 1, 1, none⟩ = some (.int .i64 aS) := (blk_cell (HMc.out.on HB.out).b 1).trans rfl
                  have hcN : wr.cell? ⟨w.heap.size + 1, 3, none⟩ = some (.int .i64 bN) := (blk_cell (HMc.out.on HB.out).b 3).trans rfl
                  have HH2 := Aside0.mk H
                  clear H
                  go_wp2
                  refine start_ (n := 25) (S := fun w' => w'.cell? ⟨w.heap.size, 4, none⟩ = some (.slice (some adA) anx.length c4) ∧ w'.cell? ⟨w.heap.size, 1, none⟩ = some (.int .i64 aS) ∧ w'.cell? ⟨w.heap.size + 1, 4, none⟩ = some (.slice (some adB) bnx.length d4) ∧ w'.cell? ⟨w.heap.size + 1, 1, none⟩ = some (.int .i64 aS) ∧ w'.cell? ⟨w.heap.size + 1, 3, none⟩ = some (.int .i64 bN) ∧ w'.cell? (adA.add (wrap64 (wrap64 (s * aS) + (x : Int))).toNat) = some (.int .i64 na) ∧ w'.cell? (adB.add (wrap64 (wrap64 (t * aS) + (x : Int))).toNat) = some (.int .i64 nb)) (ds := []) #[false, false, false, false, false, false, false, false, false, false, false, false, false, false, false, false, false, false, false, false, false, false, false, false, false] (by kernel_rfl) rfl rfl ⟨hcA, hcS, hcB, hcT, hcN, hvA, hvB⟩ (fun hHeld => ?_)
                  refine with_tabW DN23.tab23 DN23.bits23 (fun HT_ HW_ => ?_)
                  have HDE := Aside0.mk (HD.out.low (below_drew1 (Below.refl wr.heap.size wr)))
                  have HBE := Aside0.mk (below_drew1 HB.out)
                  generalize wr.drew = we at HDE HBE hHeld ⊢
                  refine pure_ (i := 0) (N := (some 117)) (v := ?_) (a' := ?_) #[true, false, false, false, false, false, false, false, false, false, false, false, false, false, false, false, false, false, false, false, false, false, false, false, false] rfl rfl (any_of HT_.out (by kernel_rfl)) (fun _ _ _ h => h) (Or.inl ⟨by rfl, ?_⟩) ?_ ?_
                  rotate_left
                  · intro w'
                    go_simp
                    with_reducible rfl
                  rotate_left
                  · simp only [Act.put, List.setIfInBounds_toArray, List.set_cons_zero, List.set_cons_succ, i64_w, i32_w]
                    rfl
                  refine pure_ (i := 2) (N := (some 119)) (v := ?_) (a' := ?_) #[true, false, true, false, false, false, false, false, false, false, false, false, false, false, false, false, false, false, false, false, false, false, false, false, false] rfl rfl (any_of HT_.out (by kernel_rfl)) (fun _ _ _ h => h) (Or.inl ⟨by rfl, ?_⟩) ?_ ?_
                  rotate_left
                  · intro w'
                    go_simp
                    with_reducible rfl
                  rotate_left
                  · simp only [Act.put, List.setIfInBounds_toArray, List.set_cons_zero, List.set_cons_succ, i64_w, i32_w]
                    rfl
                  refine pure_ (i := 3) (N := (some 120)) (v := ?_) (a' := ?_) #[true, false, true, true, false, false, false, false, false, false, false, false, false, false, false, false, false, false, false, false, false, false, false, false, false] rfl rfl (any_of HT_.out (by kernel_rfl)) (fun _ _ _ h => h) (Or.inl ⟨by rfl, ?_⟩) ?_ ?_
                  rotate_left
                  · intro w'
                    go_simp
                    with_reducible rfl
                  rotate_left
                  · simp only [Act.put, List.setIfInBounds_toArray, List.set_cons_zero, List.set_cons_succ, i64_w, i32_w]
                    rfl
                  refine pure_ (i := 6) (N := (some 123)) (v := ?_) (a' := ?_) #[true, false, true, true, false, false, true, false, false, false, false, false, false, false, false, false, false, false, false, false, false, false, false, false, false] rfl rfl (any_of HT_.out (by kernel_rfl)) (fun _ _ _ h => h) (Or.inl ⟨by rfl, ?_⟩) ?_ ?_
                  rotate_left
                  · intro w'
                    go_simp
                    with_reducible rfl
                  rotate_left
                  · simp only [Act.put, List.setIfInBounds_toArray, List.set_cons_zero, List.set_cons_succ, i64_w, i32_w]
                    rfl
                  refine pure_ (i := 10) (N := (some 127)) (v := ?_) (a' := ?_) #[true, false, true, true, false, false, true, false, false, false, true, false, false, false, false, false, false, false, false, false, false, false, false, false, false] rfl rfl (any_of HT_.out (by kernel_rfl)) (fun _ _ _ h => h) (Or.inl ⟨by rfl, ?_⟩) ?_ ?_
                  rotate_left
                  · intro w'
                    go_simp
                    with_reducible rfl
                  rotate_left
                  · simp only [Act.put, List.setIfInBounds_toArray, List.set_cons_zero, List.set_cons_succ, i64_w, i32_w]
                    rfl
                  refine pure_ (i := 13) (N := (some 130)) (v := ?_) (a' := ?_) #[true, false, true, true, false, false, true, false, false, false, true, false, false, true, false, false, false, false, false, false, false, false, false, false, false] rfl rfl (any_of HT_.out (by kernel_rfl)) (fun _ _ _ h => h) (Or.inl ⟨by rfl, ?_⟩) ?_ ?_
                  rotate_left
                  · intro w'
                    go_simp
                    with_reducible rfl
                  rotate_left
                  · simp only [Act.put, List.setIfInBounds_toArray, List.set_cons_zero, List.set_cons_succ, i64_w, i32_w]
                    rfl
                  refine pure_ (i := 15) (N := (some 132)) (v := ?_) (a' := ?_) #[true, false, true, true, false, false, true, false, false, false, true, false, false, true, false, true, false, false, false, false, false, false, false, false, false] rfl rfl (any_of HT_.out (by kernel_rfl)) (fun _ _ _ h => h) (Or.inl ⟨by rfl, ?_⟩) ?_ ?_
                  rotate_left
                  · intro w'
                    go_simp
                    with_reducible rfl
                  rotate_left
                  · simp only [Act.put, List.setIfInBounds_toArray, List.set_cons_zero, List.set_cons_succ, i64_w, i32_w]
                    rfl
                  refine pure_ (i := 16) (N := (some 133)) (v := ?_) (a' := ?_) #[true, false, true, true, false, false, true, false, false, false, true, false, false, true, false, true, true, false, false, false, false, false, false, false, false] rfl rfl (any_of HT_.out (by kernel_rfl)) (fun _ _ _ h => h) (Or.inl ⟨by rfl, ?_⟩) ?_ ?_
                  rotate_left
                  · intro w'
                    go_simp
                    with_reducible rfl
                  rotate_left
                  · simp only [Act.put, List.setIfInBounds_toArray, List.set_cons_zero, List.set_cons_succ, i64_w, i32_w]
                    rfl
                  refine pure_ (i := 19) (N := (some 136)) (v := ?_) (a' := ?_) #[true, false, true, true, false, false, true, false, false, false, true, false, false, true, false, true, true, false, false, true, false, false, false, false, false] rfl rfl (any_of HT_.out (by kernel_rfl)) (fun _ _ _ h => h) (Or.inl ⟨by rfl, ?_⟩) ?_ ?_
                  rotate_left
                  · intro w'
                    go_simp
                    with_reducible rfl
                  rotate_left
                  · simp only [Act.put, List.setIfInBounds_toArray, List.set_cons_zero, List.set_cons_succ, i64_w, i32_w]
                    rfl
                  refine take_ (i := 1) (N := (some 118)) (v := ?_) (a' := ?_) #[true, true, true, true, false, false, true, false, false, false, true, false, false, true, false, true, true, false, false, true, false, false, false, false, false] rfl rfl (take_ofW HT_.out HW_.out (by kernel_rfl)) (fun _ _ _ h => h) (Or.inl ⟨by rfl, ?_⟩) hHeld ?_ ?_
                  rotate_left
                  · rintro w' ⟨s0, s1, s2, s3, s4, s5, s6⟩
                    go_simp
                    with_reducible rfl
                  rotate_left
                  · simp only [Act.put, List.setIfInBounds_toArray, List.set_cons_zero, List.set_cons_succ, i64_w, i32_w]
                    rfl
                  refine take_ (i := 4) (N := (some 121)) (v := ?_) (a' := ?_) #[true, true, true, true, true, false, true, false, false, false, true, false, false, true, false, true, true, false, false, true, false, false, false, false, false] rfl rfl (take_ofW HT_.out HW_.out (by kernel_rfl)) (fun _ _ _ h => h) (Or.inl ⟨by rfl, ?_⟩) hHeld ?_ ?_
                  rotate_left
                  · rintro w' ⟨s0, s1, s2, s3, s4, s5, s6⟩
                    go_simp
                    with_reducible rfl
                  rotate_left
                  · simp only [Act.put, List.setIfInBounds_toArray, List.set_cons_zero, List.set_cons_succ, i64_w, i32_w]
                    rfl
                  refine pure_ (i := 5) (N := (some 122)) (v := ?_) (a' := ?_) #[true, true, true, true, true, true, true, false, false, false, true, false, false, true, false, true, true, false, false, true, false, false, false, false, false] rfl rfl (any_of HT_.out (by kernel_rfl)) (fun _ _ _ h => h) (Or.inl ⟨by rfl, ?_⟩) ?_ ?_
                  rotate_left
                  · intro w'
                    go_simp
                    with_reducible rfl
                  rotate_left
                  · simp only [Act.put, List.setIfInBounds_toArray, List.set_cons_zero, List.set_cons_succ, i64_w, i32_w]
                    rfl
                  refine pure_ (i := 7) (N := (some 124)) (v := ?_) (a' := ?_) #[true, true, true, true, true, true, true, true, false, false, true, false, false, true, false, true, true, false, false, true, false, false, false, false, false] rfl rfl (any_of HT_.out (by kernel_rfl)) (fun _ _ _ h => h) (Or.inl ⟨by rfl, ?_⟩) ?_ ?_
                  rotate_left
                  · intro w'
                    go_simp
                    with_reducible rfl
                  rotate_left
                  · simp only [Act.put, List.setIfInBounds_toArray, List.set_cons_zero, List.set_cons_succ, i64_w, i32_w]
                    rfl
                  refine pure_ (i := 8) (N := (some 125)) (v := ?_) (a' := ?_) #[true, true, true, true, true, true, true, true, true, false, true, false, false, true, false, true, true, false, false, true, false, false, false, false, false] rfl rfl (any_of HT_.out (by kernel_rfl)) (fun _ _ _ h => h) (Or.inl ⟨by rfl, ?_⟩) ?_ ?_
                  rotate_left
                  · intro w'
                    go_simp
                    with_reducible rfl
                  rotate_left
                  · simp only [Act.put, List.setIfInBounds_toArray, List.set_cons_zero, List.set_cons_succ, i64_w, i32_w]
                    rfl
                  refine take_ (i := 9) (N := (some 126)) (v := ?_) (a' := ?_) #[true, true, true, true, true, true, true, true, true, true, true, false, false, true, false, true, true, false, false, true, false, false, false, false, false] rfl rfl (take_ofW HT_.out HW_.out (by kernel_rfl)) (fun _ _ _ h => h) (Or.inl ⟨by rfl, ?_⟩) hHeld ?_ ?_
                  rotate_left
                  · rintro w' ⟨s0, s1, s2, s3, s4, s5, s6⟩
                    go_simp
                    with_reducible rfl
                  rotate_left
                  · simp only [Act.put, List.setIfInBounds_toArray, List.set_cons_zero, List.set_cons_succ, i64_w, i32_w]
                    rfl
                  refine take_ (i := 11) (N := (some 128)) (v := ?_) (a' := ?_) #[true, true, true, true, true, true, true, true, true, true, true, true, false, true, false, true, true, false, false, true, false, false, false, false, false] rfl rfl (take_ofW HT_.out HW_.out (by kernel_rfl)) (fun _ _ _ h => h) (Or.inl ⟨by rfl, ?_⟩) hHeld ?_ ?_
                  rotate_left
                  · rintro w' ⟨s0, s1, s2, s3, s4, s5, s6⟩
                    go_simp
                    with_reducible rfl
                  rotate_left
                  · simp only [Act.put, List.setIfInBounds_toArray, List.set_cons_zero, List.set_cons_succ, i64_w, i32_w]
                    rfl
                  refine pure_ (i := 12) (N := (some 129)) (v := ?_) (a' := ?_) #[true, true, true, true, true, true, true, true, true, true, true, true, true, true, false, true, true, false, false, true, false, false, false, false, false] rfl rfl (any_of HT_.out (by kernel_rfl)) (fun _ _ _ h => h) (Or.inl ⟨by rfl, ?_⟩) ?_ ?_
                  rotate_left
                  · intro w'
                    go_simp
                    with_reducible rfl
                  rotate_left
                  · simp only [Act.put, List.setIfInBounds_toArray, List.set_cons_zero, List.set_cons_succ, i64_w, i32_w]
                    rfl
                  refine take_ (i := 14) (N := (some 131)) (v := ?_) (a' := ?_) #[true, true, true, true, true, true, true, true, true, true, true, true, true, true, true, true, true, false, false, true, false, false, false, false, false] rfl rfl (take_ofW HT_.out HW_.out (by kernel_rfl)) (fun _ _ _ h => h) (Or.inl ⟨by rfl, ?_⟩) hHeld ?_ ?_
                  rotate_left
                  · rintro w' ⟨s0, s1, s2, s3, s4, s5, s6⟩
                    go_simp
                    with_reducible rfl
                  rotate_left
                  · simp only [Act.put, List.setIfInBounds_toArray, List.set_cons_zero, List.set_cons_succ, i64_w, i32_w]
                    rfl
                  refine take_ (i := 17) (N := (some 134)) (v := ?_) (a' := ?_) #[true, true, true, true, true, true, true, true, true, true, true, true, true, true, true, true, true, true, false, true, false, false, false, false, false] rfl rfl (take_ofW HT_.out HW_.out (by kernel_rfl)) (fun _ _ _ h => h) (Or.inl ⟨by rfl, ?_⟩) hHeld ?_ ?_
                  rotate_left
                  · rintro w' ⟨s0, s1, s2, s3, s4, s5, s6⟩
                    go_simp
                    with_reducible rfl
                  rotate_left
                  · simp only [Act.put, List.setIfInBounds_toArray, List.set_cons_zero, List.set_cons_succ, i64_w, i32_w]
                    rfl
                  refine pure_ (i := 18) (N := (some 135)) (v := ?_) (a' := ?_) #[true, true, true, true, true, true, true, true, true, true, true, true, true, true, true, true, true, true, true, true, false, false, false, false, false] rfl rfl (any_of HT_.out (by kernel_rfl)) (fun _ _ _ h => h) (Or.inl ⟨by rfl, ?_⟩) ?_ ?_
                  rotate_left
                  · intro w'
                    go_simp
                    with_reducible rfl
                  rotate_left
                  · simp only [Act.put, List.setIfInBounds_toArray, List.set_cons_zero, List.set_cons_succ, i64_w, i32_w]
                    rfl
                  refine pure_ (i := 20) (N := (some 137)) (v := ?_) (a' := ?_) #[true, true, true, true, true, true, true, true, true, true, true, true, true, true, true, true, true, true, true, true, true, false, false, false, false] rfl rfl (any_of HT_.out (by kernel_rfl)) (fun _ _ _ h => h) (Or.inl ⟨by rfl, ?_⟩) ?_ ?_
                  rotate_left
                  · intro w'
                    go_simp
                    with_reducible rfl
                  rotate_left
                  · simp only [Act.put, List.setIfInBounds_toArray, List.set_cons_zero, List.set_cons_succ, i64_w, i32_w]
                    rfl
                  refine pure_ (i := 21) (N := (some 138)) (v := ?_) (a' := ?_) #[true, true, true, true, true, true, true, true, true, true, true, true, true, true, true, true, true, true, true, true, true, true, false, false, false] rfl rfl (any_of HT_.out (by kernel_rfl)) (fun _ _ _ h => h) (Or.inl ⟨by rfl, ?_⟩) ?_ ?_
                  rotate_left
                  · intro w'
                    go_simp
                    with_reducible rfl
                  rotate_left
                  · simp only [Act.put, List.setIfInBounds_toArray, List.set_cons_zero, List.set_cons_succ, i64_w, i32_w]
                    rfl
                  refine take_ (i := 22) (N := (some 139)) (v := ?_) (a' := ?_) #[true, true, true, true, true, true, true, true, true, true, true, true, true, true, true, true, true, true, true, true, true, true, true, false, false] rfl rfl (take_ofW HT_.out HW_.out (by kernel_rfl)) (fun _ _ _ h => h) (Or.inl ⟨by rfl, ?_⟩) hHeld ?_ ?_
                  rotate_left
                  · rintro w' ⟨s0, s1, s2, s3, s4, s5, s6⟩
                    go_simp
                    with_reducible rfl
                  rotate_left
                  · simp only [Act.put, List.setIfInBounds_toArray, List.set_cons_zero, List.set_cons_succ, i64_w, i32_w]
                    rfl
                  refine pure_ (i := 23) (N := (some 140)) (v := ?_) (a' := ?_) #[true, true, true, true, true, true, true, true, true, true, true, true, true, true, true, true, true, true, true, true, true, true, true, true, false] rfl rfl (any_of HT_.out (by kernel_rfl)) (fun _ _ _ h => h) (Or.inl ⟨by rfl, ?_⟩) ?_ ?_
                  rotate_left
                  · intro w'
                    go_simp
                    with_reducible rfl
                  rotate_left
                  · simp only [Act.put, List.setIfInBounds_toArray, List.set_cons_zero, List.set_cons_succ, i64_w, i32_w]
                    rfl
                  refine pure_ (i := 24) (N := (some 17)) (v := ?_) (a' := ?_) #[true, true, true, true, true, true, true, true, true, true, true, true, true, true, true, true, true, true, true, true, true, true, true, true, true] rfl rfl (any_of HT_.out (by kernel_rfl)) (fun _ _ _ h => h) (Or.inl ⟨by rfl, ?_⟩) ?_ ?_
                  rotate_left
                  · intro w'
                    go_simp
                    with_reducible rfl
                  rotate_left
                  · simp only [Act.put, List.setIfInBounds_toArray, List.set_cons_zero, List.set_cons_succ, i64_w, i32_w]
                    rfl
                  refine done_ (done_of HT_.out (by kernel_rfl)) ?_
                  clear hHeld hcA hcS hcB hcT hcN hvA hvB e3a e3b e3c e3d hx1
                  have H := HH2.out
                  clear HH2
                  rw [HP2.out]
                  clear HP2
                  by_cases e4 : (0 ≤ p ∧ p < (pl1.length : Int)) ∧ nx1.length < 1099511627776 ∧ row1.length < 1099511627776
                  · rw [if_pos e4] at H
                    obtain ⟨⟨e4a, e4b⟩, e4c, e4d⟩ := e4
                    have HNL := Aside0.mk e4c
                    have HRL := Aside0.mk e4d
                    have e4e : p < (nn.toNat : Int) := by have := HPL.out; omega
                    have e4f : p < max nn 0 := by omega
                    obtain ⟨hvP, hfP⟩ := Kd.R_celln (0 : Int) (HDE.out.get 3 rfl) p e4a e4e
                    have hvP' : we.cell? ⟨gp, p.toNat, none⟩ = some (.int .i64 (rd pl1 p)) := hvP
                    clear hvP e4b e4c
                    by_cases e5 : rd pl1 p = 0
                    · rw [if_pos e5] at H
                      rw [e5] at hvP'
                      clear e5
                      by_cases e6 : row1.length + 1 > 1024
                      · rw [if_pos e6] at H
                        have HH3 := Aside0.mk H
                        clear H hfP
                        go_wp2_with (first
                          | ((with_reducible refine gate_builtin (b := .append) (xs := #[.tmp 146, .tmp 148]) rfl ?_)
                             at_builtin
                             refine Kd.R_append (Kd.int .i64) (w0 := w2) w2.heap.size rfl (.tmp 146) (.tmp 148) 22 3 (.int .i64 0) 8 rfl Try.underlying22 info3 rfl (by decide) (by omega) (.slice Ar row1.length cr2) row1 p [.int .i64 p] (fun _ => True) (fun _ => False) rfl rfl ?aP (fun _ hk => hk.elim) ?aF ?aO ?aB ?aS ?aL ?_
                             (case aP => exact rfl)
                             (case aB => exact HBE.out)
                             (case aF => exact (fun _ _ => trivial))
                             (case aO => exact (Kd.R_mono (HDE.out.get 2 rfl) (fun _ _ => trivial)))
                             (case aS => exact HBE.out.size)
                             (case aL => have := HRL.out; omega)
                             intro v11 w11 ho hb hg hat
                             obtain ⟨A8, c8, rfl⟩ := Kd.R_slice ho
                             have HD8 := Aside0.mk (HDE.out.app 2 rfl rfl ho hg hat HBE.out.size)
                             have HB8 := Aside0.mk hb
                             obtain ⟨hvQ, hfQ⟩ := Kd.R_celln (0 : Int) (HD8.out.get 3 rfl) p e4a e4e
                             clear ho hb hg hat hvP')
                          | ((with_reducible refine gate_store (t := 43) (p := 6) rfl ?_)
                             refine wpList_store_rowTo rfl 43 (.tmp 6) (.tmp 158) rfl rfl (w.heap.size + 1 + 1) zero43 rfl rfl 43 _ (HMc.out.on (HB8.out.setCell (p := ⟨gp, p.toNat, none⟩) (HD8.out.bound 3 rfl rfl).1 _)).z ?_ rfl zero43_one ?_
                             (focus (rw [i43]; rfl))))
                        have hz9 := fun v => (HMc.out.on (HB8.out.setCell (p := ⟨gp, p.toNat, none⟩) (HD8.out.bound 3 rfl rfl).1 v))
                        have hblk := fun v => setRow_heap (w11.setCell ⟨gp, p.toNat, none⟩ v) (w.heap.size + 1 + 1) _ zero43 43 (0, 0) (hz9 v).z
                        have H := HH3.out
                        simp only [Option.some.injEq] at H
                        subst H
                        have hr0 := HNX.out
                        simp only [Option.some.injEq] at hr0
                        subst hr0
                        have hr := HRES.out
                        simp only [Option.some.injEq, Prod.mk.injEq] at hr
                        obtain ⟨rfl, rfl, rfl, rfl, rfl, rfl, rfl⟩ := hr
                        try simp only [Exit.inBlock, Exit.then]
                        refine bodyPost_ret (results_ct rfl _ _ (w.heap.size + 1 + 1) 43 zero43 (0, 0) _ rfl (hblk _) Try.underlying43 rfl (by rw [i43]; rfl)) rfl ?_
                        exact ⟨_, _, rfl, Kd.R_nil _ _ _ _ _, Kd.R_nil _ _ _ _ _, below_setRow (hz9 _).below (by omega) _⟩
                      · rw [if_neg e6] at H
                        have HH3 := Aside0.mk H
                        clear H hfP
                        go_wp2_with (first
                          | ((with_reducible refine gate_builtin (b := .append) (xs := #[.tmp 146, .tmp 148]) rfl ?_)
                             at_builtin
                             refine Kd.R_append (Kd.int .i64) (w0 := w2) w2.heap.size rfl (.tmp 146) (.tmp 148) 22 3 (.int .i64 0) 8 rfl Try.underlying22 info3 rfl (by decide) (by omega) (.slice Ar row1.length cr2) row1 p [.int .i64 p] (fun _ => True) (fun _ => False) rfl rfl ?aP (fun _ hk => hk.elim) ?aF ?aO ?aB ?aS ?aL ?_
                             (case aP => exact rfl)
                             (case aB => exact HBE.out)
                             (case aF => exact (fun _ _ => trivial))
                             (case aO => exact (Kd.R_mono (HDE.out.get 2 rfl) (fun _ _ => trivial)))
                             (case aS => exact HBE.out.size)
                             (case aL => have := HRL.out; omega)
                             intro v11 w11 ho hb hg hat
                             obtain ⟨A8, c8, rfl⟩ := Kd.R_slice ho
                             have HD8 := Aside0.mk (HDE.out.app 2 rfl rfl ho hg hat HBE.out.size)
                             have HB8 := Aside0.mk hb
                             obtain ⟨hvQ, hfQ⟩ := Kd.R_celln (0 : Int) (HD8.out.get 3 rfl) p e4a e4e
                             clear ho hb hg hat hvP'))
                        have HD9 := HD8.out.put 3 rfl p ((row1.length : Int) + 1) HB8.out.size
                        have HB9 := HB8.out.setCell (p := ⟨gp, p.toNat, none⟩) (HD8.out.bound 3 rfl rfl).1 (.int .i64 ((row1.length : Int) + 1))
                        generalize w11.setCell ⟨gp, p.toNat, none⟩ (.int .i64 ((row1.length : Int) + 1)) = w6 at HD9 HB9 ⊢
                        simp only [List.length_append, List.length_singleton] at HD9
                        have HD3 : Aside0 (Sp.Sep w2.heap.size [Sp.ints w2.heap.size ov2 out2, Sp.ints w2.heap.size (.slice An nx1.length cn) nx1, Sp.ints w2.heap.size (.slice A8 (row1.length + 1) c8) (row1 ++ [p]), Sp.ints w2.heap.size (.slice (some ⟨gp, 0, none⟩) nn.toNat cp) (pl1.set p.toNat ((row1.length : Int) + 1)), Sp.blk w2.heap.size #[.int .i64 1, .int .i64 aS, .int .i64 2, .int .i64 0, .slice An nx1.length cn, ov2] 43] w6) := ⟨HD9⟩
                        have HB3 := Aside0.mk HB9
                        have HPL2 : Aside0 ((pl1.set p.toNat ((row1.length : Int) + 1)).length = nn.toNat) := ⟨by rw [List.length_set]; exact HPL.out⟩
                        clear HD9 HB9 HD8 HB8 HDE HBE hvQ hfQ HPL
                        generalize pl1.set p.toNat ((row1.length : Int) + 1) = pl2 at HD3 HH3 HPL2
                        have hcM : w6.cell? ⟨w2.heap.size, 4, none⟩ = some (.slice An nx1.length cn) := (blk_cell (HD3.out.get 4 rfl) 4).trans rfl
                        have hvP : w6.cell? ⟨gp, p.toNat, none⟩ = some (.int .i64 (rd pl2 p)) := (Kd.R_celln (0 : Int) (HD3.out.get 3 rfl) p e4a e4e).1
                        refine start_ (n := 11) (S := fun w' => w'.cell? ⟨w2.heap.size, 4, none⟩ = some (.slice An nx1.length cn) ∧ w'.cell? ⟨gp, p.toNat, none⟩ = some (.int .i64 (rd pl2 p))) (ds := [8, 10]) #[false, false, false, false, false, false, false, false, false, false, false] (by kernel_rfl) rfl rfl ⟨hcM, hvP⟩ (fun hHeld => ?_)
                        refine with_tabW DN29.tab29 DN29.bits29 (fun HT_ HW_ => ?_)
                        have HDE := Aside0.mk (HD3.out.low (below_drew1 (Below.refl w6.heap.size w6)))
                        have HBE := Aside0.mk (below_drew1 HB3.out)
                        generalize w6.drew = we6 at HDE HBE hHeld ⊢
                        refine pure_ (i := 0) (N := (some 159)) (v := ?_) (a' := ?_) #[true, false, false, false, false, false, false, false, false, false, false] rfl rfl (any_of HT_.out (by kernel_rfl)) (fun _ _ _ h => h) (Or.inl ⟨by rfl, ?_⟩) ?_ ?_
                        rotate_left
                        · intro w'
                          go_simp
                          with_reducible rfl
                        rotate_left
                        · simp only [Act.put, List.setIfInBounds_toArray, List.set_cons_zero, List.set_cons_succ, i64_w, i32_w]
                          rfl
                        refine pure_ (i := 2) (N := (some 161)) (v := ?_) (a' := ?_) #[true, false, true, false, false, false, false, false, false, false, false] rfl rfl (any_of HT_.out (by kernel_rfl)) (fun _ _ _ h => h) (Or.inl ⟨by rfl, ?_⟩) ?_ ?_
                        rotate_left
                        · intro w'
                          go_simp
                          with_reducible rfl
                        rotate_left
                        · simp only [Act.put, List.setIfInBounds_toArray, List.set_cons_zero, List.set_cons_succ, i64_w, i32_w]
                          rfl
                        refine pure_ (i := 3) (N := (some 162)) (v := ?_) (a' := ?_) #[true, false, true, true, false, false, false, false, false, false, false] rfl rfl (any_of HT_.out (by kernel_rfl)) (fun _ _ _ h => h) (Or.inl ⟨by rfl, ?_⟩) ?_ ?_
                        rotate_left
                        · intro w'
                          go_simp
                          with_reducible rfl
                        rotate_left
                        · simp only [Act.put, List.setIfInBounds_toArray, List.set_cons_zero, List.set_cons_succ, i64_w, i32_w]
                          rfl
                        refine pure_ (i := 4) (N := (some 163)) (v := ?_) (a' := ?_) #[true, false, true, true, true, false, false, false, false, false, false] rfl rfl (any_of HT_.out (by kernel_rfl)) (fun _ _ _ h => h) (Or.inl ⟨by rfl, ?_⟩) ?_ ?_
                        rotate_left
                        · intro w'
                          go_simp
                          with_reducible rfl
                        rotate_left
                        · simp only [Act.put, List.setIfInBounds_toArray, List.set_cons_zero, List.set_cons_succ, i64_w, i32_w]
                          rfl
                        refine take_ (i := 1) (N := (some 160)) (v := ?_) (a' := ?_) #[true, true, true, true, true, false, false, false, false, false, false] rfl rfl (take_ofW HT_.out HW_.out (by kernel_rfl)) (fun _ _ _ h => h) (Or.inl ⟨by rfl, ?_⟩) hHeld ?_ ?_
                        rotate_left
                        · rintro w' ⟨s0, s1⟩
                          go_simp
                          with_reducible rfl
                        rotate_left
                        · simp only [Act.put, List.setIfInBounds_toArray, List.set_cons_zero, List.set_cons_succ, i64_w, i32_w]
                          rfl
                        refine take_ (i := 5) (N := (some 164)) (v := ?_) (a' := ?_) #[true, true, true, true, true, true, false, false, false, false, false] rfl rfl (take_ofW HT_.out HW_.out (by kernel_rfl)) (fun _ _ _ h => h) (Or.inl ⟨by rfl, ?_⟩) hHeld ?_ ?_
                        rotate_left
                        · rintro w' ⟨s0, s1⟩
                          go_simp
                          with_reducible rfl
                        rotate_left
                        · simp only [Act.put, List.setIfInBounds_toArray, List.set_cons_zero, List.set_cons_succ, i64_w, i32_w]
                          rfl
                        refine pure_ (i := 6) (N := (some 165)) (v := ?_) (a' := ?_) #[true, true, true, true, true, true, true, false, false, false, false] rfl rfl (any_of HT_.out (by kernel_rfl)) (fun _ _ _ h => h) (Or.inl ⟨by rfl, ?_⟩) ?_ ?_
                        rotate_left
                        · intro w'
                          go_simp
                          with_reducible rfl
                        rotate_left
                        · simp only [Act.put, List.setIfInBounds_toArray, List.set_cons_zero, List.set_cons_succ, i64_w, i32_w]
                          rfl
                        refine one_ (i := 7) (N := (some 166)) #[true, true, true, true, true, true, true, true, false, false, false] rfl rfl (one_of HT_.out (by kernel_rfl)) (by decide) (fun K hK => ?_)
                        refine value_ (w1 := ?_) (v := ?_) (by rfl) rfl ?_ ?_
                        rotate_left 2
                        · go_simp
                          constructor
                          · rfl
                          · rfl
                        refine hK.out _ _ ⟨cell_al hHeld.1, cell_al hHeld.2⟩ (fun hHeld => ?_); clear hK K
                        refine norm_ (a' := ?_) ?_ ?_
                        rotate_left
                        · show Act.put _ (some 166) _ = _
                          simp only [Act.put, List.setIfInBounds_toArray, List.set_cons_zero, List.set_cons_succ, i64_w, i32_w]
                          rfl
                        refine last_ (i := 8) (N := (some 167)) #[true, true, true, true, true, true, true, true, true, false, false] rfl rfl (one_of HT_.out (by kernel_rfl)) (by decide) (fun K hK => ?_)
                        refine Kd.R_append_step (Kd.int .i64) (w0 := w2) w2.heap.size (by rfl) (.tmp 160) (.tmp 166) 22 3 (.int .i64 0) 8 rfl Try.underlying22 info3 rfl (by decide) (by omega) (.slice An nx1.length cn) nx1 (wrap64 (rd pl2 p - 1)) [.int .i64 (wrap64 (rd pl2 p - 1))] (fun _ => True) (fun _ => False) rfl rfl rfl (fun _ hk => hk.elim) (fun _ _ => trivial) (Kd.R_mono (HDE.out.get 1 rfl) (fun _ _ => trivial)) HBE.out HBE.out.size (by have := HNL.out; omega) ?_
                        intro v12 w12 ho hb hg hat
                        obtain ⟨A9, c9, rfl⟩ := Kd.R_slice ho
                        have HDF := Aside0.mk (HDE.out.app 1 rfl rfl ho hg hat HBE.out.size)
                        have HBF := Aside0.mk hb
                        have hM1 := HDF.out.get 4 rfl
                        have hfz := blk_frozen hM1 4
                        have hcl : w12.cell? ⟨w2.heap.size, 4, none⟩ = some (.slice An nx1.length cn) := (blk_cell hM1 4).trans rfl
                        clear ho hb hg hat hM1
                        refine hK.out _ _ ?_; clear hK K
                        refine norm_ (a' := ?_) ?_ ?_
                        rotate_left
                        · show Act.put _ (some 167) _ = _
                          simp only [Act.put, List.setIfInBounds_toArray, List.set_cons_zero, List.set_cons_succ, i64_w, i32_w]
                          rfl
                        refine pure_ (i := 9) (N := (some 168)) (v := ?_) (a' := ?_) #[true, true, true, true, true, true, true, true, true, true, false] rfl rfl (any_of HT_.out (by kernel_rfl)) (fun _ _ _ h => h) (Or.inl ⟨by rfl, ?_⟩) ?_ ?_
                        rotate_left
                        · intro w'
                          go_simp
                          with_reducible rfl
                        rotate_left
                        · simp only [Act.put, List.setIfInBounds_toArray, List.set_cons_zero, List.set_cons_succ, i64_w, i32_w]
                          rfl
                        refine last_ (i := 10) (N := none) #[true, true, true, true, true, true, true, true, true, true, true] rfl rfl (one_of HT_.out (by kernel_rfl)) (by decide) (fun K hK => ?_)
                        refine skip_ (w1 := ?_) (by rfl) rfl ?_ ?_
                        rotate_left
                        · go_simp
                          rfl
                        refine hK.out _ _ ?_; clear hK K
                        refine done_ (done_of HT_.out (by kernel_rfl)) ?_
                        clear hHeld hcM hvP hfz hcl
                        have HD10 := HDF.out.cell 4 rfl 4 (.slice A9 (nx1 ++ [wrap64 (rd pl2 p - 1)]).length c9) rfl HBF.out.size
                        have HB10 := HDF.out.belowSet (j := 4) (u := .slice A9 (nx1 ++ [wrap64 (rd pl2 p - 1)]).length c9) 4 rfl HBF.out
                        simp only [List.length_append, List.length_singleton] at HD10 HB10
                        generalize w12.setCell ⟨w2.heap.size, 4, none⟩ (.slice A9 (nx1.length + 1) c9) = w13 at HD10 HB10 ⊢
                        generalize Value.slice A9 (nx1.length + 1) c9 = nv2 at HD10
                        have HD11 := Aside0.mk HD10
                        have HB11 := Aside0.mk HB10
                        clear HD10 HB10 HDF HBF HDE HBE HD3 HB3
                        go_wp2
                        go_roundw
                        case rel => exact ⟨x + 1, row1 ++ [p], pl2, nx1 ++ [wrap64 (rd pl2 p - 1)], nv2, by go_num, ⟨by have := HLT.out; omega⟩, HH3, ⟨HD11.out⟩, HB11, HPL2⟩
                        case measure => have := HLT.out; simp [intOf]; omega
                    · rw [if_neg e5] at H
                      have e5b : (rd pl1 p == 0) = false := by simpa using e5
                      by_cases e6 : row1.length > 1024
                      · rw [if_pos e6] at H
                        have HH3 := Aside0.mk H
                        clear H hfP e5
                        go_wp2_with (first
                          | ((with_reducible refine gate_store (t := 43) (p := 6) rfl ?_)
                             refine wpList_store_rowTo rfl 43 (.tmp 6) (.tmp 158) rfl rfl (w.heap.size + 1 + 1) zero43 rfl rfl 43 _ (HMc.out.on HBE.out).z ?_ rfl zero43_one ?_
                             (focus (rw [i43]; rfl))))
                        have hblk := setRow_heap we (w.heap.size + 1 + 1) _ zero43 43 (0, 0) (HMc.out.on HBE.out).z
                        have H := HH3.out
                        simp only [Option.some.injEq] at H
                        subst H
                        have hr0 := HNX.out
                        simp only [Option.some.injEq] at hr0
                        subst hr0
                        have hr := HRES.out
                        simp only [Option.some.injEq, Prod.mk.injEq] at hr
                        obtain ⟨rfl, rfl, rfl, rfl, rfl, rfl, rfl⟩ := hr
                        try simp only [Exit.inBlock, Exit.then]
                        refine bodyPost_ret (results_ct rfl _ _ (w.heap.size + 1 + 1) 43 zero43 (0, 0) _ rfl hblk Try.underlying43 rfl (by rw [i43]; rfl)) rfl ?_
                        exact ⟨_, _, rfl, Kd.R_nil _ _ _ _ _, Kd.R_nil _ _ _ _ _, below_setRow (HMc.out.on HBE.out).below (by omega) _⟩
                      · rw [if_neg e6] at H
                        have HH3 := Aside0.mk H
                        clear H hfP e5
                        go_wp2
                        have HD3 : Aside0 (Sp.Sep w2.heap.size [Sp.ints w2.heap.size ov2 out2, Sp.ints w2.heap.size (.slice An nx1.length cn) nx1, Sp.ints w2.heap.size (.slice Ar row1.length cr2) row1, Sp.ints w2.heap.size (.slice (some ⟨gp, 0, none⟩) nn.toNat cp) pl1, Sp.blk w2.heap.size #[.int .i64 1, .int .i64 aS, .int .i64 2, .int .i64 0, .slice An nx1.length cn, ov2] 43] we) := ⟨HDE.out⟩
                        have HB3 := Aside0.mk HBE.out
                        have HPL2 := HPL
                        clear HDE HBE hvP'
                        generalize we = w6 at HD3 HB3 ⊢
                        have hcM : w6.cell? ⟨w2.heap.size, 4, none⟩ = some (.slice An nx1.length cn) := (blk_cell (HD3.out.get 4 rfl) 4).trans rfl
                        have hvP : w6.cell? ⟨gp, p.toNat, none⟩ = some (.int .i64 (rd pl1 p)) := (Kd.R_celln (0 : Int) (HD3.out.get 3 rfl) p e4a e4e).1
                        refine start_ (n := 11) (S := fun w' => w'.cell? ⟨w2.heap.size, 4, none⟩ = some (.slice An nx1.length cn) ∧ w'.cell? ⟨gp, p.toNat, none⟩ = some (.int .i64 (rd pl1 p))) (ds := [8, 10]) #[false, false, false, false, false, false, false, false, false, false, false] (by kernel_rfl) rfl rfl ⟨hcM, hvP⟩ (fun hHeld => ?_)
                        refine with_tabW DN29.tab29 DN29.bits29 (fun HT_ HW_ => ?_)
                        have HDE := Aside0.mk (HD3.out.low (below_drew1 (Below.refl w6.heap.size w6)))
                        have HBE := Aside0.mk (below_drew1 HB3.out)
                        generalize w6.drew = we6 at HDE HBE hHeld ⊢
                        refine pure_ (i := 0) (N := (some 159)) (v := ?_) (a' := ?_) #[true, false, false, false, false, false, false, false, false, false, false] rfl rfl (any_of HT_.out (by kernel_rfl)) (fun _ _ _ h => h) (Or.inl ⟨by rfl, ?_⟩) ?_ ?_
                        rotate_left
                        · intro w'
                          go_simp
                          with_reducible rfl
                        rotate_left
                        · simp only [Act.put, List.setIfInBounds_toArray, List.set_cons_zero, List.set_cons_succ, i64_w, i32_w]
                          rfl
                        refine pure_ (i := 2) (N := (some 161)) (v := ?_) (a' := ?_) #[true, false, true, false, false, false, false, false, false, false, false] rfl rfl (any_of HT_.out (by kernel_rfl)) (fun _ _ _ h => h) (Or.inl ⟨by rfl, ?_⟩) ?_ ?_
                        rotate_left
                        · intro w'
                          go_simp
                          with_reducible rfl
                        rotate_left
                        · simp only [Act.put, List.setIfInBounds_toArray, List.set_cons_zero, List.set_cons_succ, i64_w, i32_w]
                          rfl
                        refine pure_ (i := 3) (N := (some 162)) (v := ?_) (a' := ?_) #[true, false, true, true, false, false, false, false, false, false, false] rfl rfl (any_of HT_.out (by kernel_rfl)) (fun _ _ _ h => h) (Or.inl ⟨by rfl, ?_⟩) ?_ ?_
                        rotate_left
                        · intro w'
                          go_simp
                          with_reducible rfl
                        rotate_left
                        · simp only [Act.put, List.setIfInBounds_toArray, List.set_cons_zero, List.set_cons_succ, i64_w, i32_w]
                          rfl
                        refine pure_ (i := 4) (N := (some 163)) (v := ?_) (a' := ?_) #[true, false, true, true, true, false, false, false, false, false, false] rfl rfl (any_of HT_.out (by kernel_rfl)) (fun _ _ _ h => h) (Or.inl ⟨by rfl, ?_⟩) ?_ ?_
                        rotate_left
                        · intro w'
                          go_simp
                          with_reducible rfl
                        rotate_left
                        · simp only [Act.put, List.setIfInBounds_toArray, List.set_cons_zero, List.set_cons_succ, i64_w, i32_w]
                          rfl
                        refine take_ (i := 1) (N := (some 160)) (v := ?_) (a' := ?_) #[true, true, true, true, true, false, false, false, false, false, false] rfl rfl (take_ofW HT_.out HW_.out (by kernel_rfl)) (fun _ _ _ h => h) (Or.inl ⟨by rfl, ?_⟩) hHeld ?_ ?_
                        rotate_left
                        · rintro w' ⟨s0, s1⟩
                          go_simp
                          with_reducible rfl
                        rotate_left
                        · simp only [Act.put, List.setIfInBounds_toArray, List.set_cons_zero, List.set_cons_succ, i64_w, i32_w]
                          rfl
                        refine take_ (i := 5) (N := (some 164)) (v := ?_) (a' := ?_) #[true, true, true, true, true, true, false, false, false, false, false] rfl rfl (take_ofW HT_.out HW_.out (by kernel_rfl)) (fun _ _ _ h => h) (Or.inl ⟨by rfl, ?_⟩) hHeld ?_ ?_
                        rotate_left
                        · rintro w' ⟨s0, s1⟩
                          go_simp
                          with_reducible rfl
                        rotate_left
                        · simp only [Act.put, List.setIfInBounds_toArray, List.set_cons_zero, List.set_cons_succ, i64_w, i32_w]
                          rfl
                        refine pure_ (i := 6) (N := (some 165)) (v := ?_) (a' := ?_) #[true, true, true, true, true, true, true, false, false, false, false] rfl rfl (any_of HT_.out (by kernel_rfl)) (fun _ _ _ h => h) (Or.inl ⟨by rfl, ?_⟩) ?_ ?_
                        rotate_left
                        · intro w'
                          go_simp
                          with_reducible rfl
                        rotate_left
                        · simp only [Act.put, List.setIfInBounds_toArray, List.set_cons_zero, List.set_cons_succ, i64_w, i32_w]
                          rfl
                        refine one_ (i := 7) (N := (some 166)) #[true, true, true, true, true, true, true, true, false, false, false] rfl rfl (one_of HT_.out (by kernel_rfl)) (by decide) (fun K hK => ?_)
                        refine value_ (w1 := ?_) (v := ?_) (by rfl) rfl ?_ ?_
                        rotate_left 2
                        · go_simp
                          constructor
                          · rfl
                          · rfl
                        refine hK.out _ _ ⟨cell_al hHeld.1, cell_al hHeld.2⟩ (fun hHeld => ?_); clear hK K
                        refine norm_ (a' := ?_) ?_ ?_
                        rotate_left
                        · show Act.put _ (some 166) _ = _
                          simp only [Act.put, List.setIfInBounds_toArray, List.set_cons_zero, List.set_cons_succ, i64_w, i32_w]
                          rfl
                        refine last_ (i := 8) (N := (some 167)) #[true, true, true, true, true, true, true, true, true, false, false] rfl rfl (one_of HT_.out (by kernel_rfl)) (by decide) (fun K hK => ?_)
                        refine Kd.R_append_step (Kd.int .i64) (w0 := w2) w2.heap.size (by rfl) (.tmp 160) (.tmp 166) 22 3 (.int .i64 0) 8 rfl Try.underlying22 info3 rfl (by decide) (by omega) (.slice An nx1.length cn) nx1 (wrap64 (rd pl1 p - 1)) [.int .i64 (wrap64 (rd pl1 p - 1))] (fun _ => True) (fun _ => False) rfl rfl rfl (fun _ hk => hk.elim) (fun _ _ => trivial) (Kd.R_mono (HDE.out.get 1 rfl) (fun _ _ => trivial)) HBE.out HBE.out.size (by have := HNL.out; omega) ?_
                        intro v12 w12 ho hb hg hat
                        obtain ⟨A9, c9, rfl⟩ := Kd.R_slice ho
                        have HDF := Aside0.mk (HDE.out.app 1 rfl rfl ho hg hat HBE.out.size)
                        have HBF := Aside0.mk hb
                        have hM1 := HDF.out.get 4 rfl
                        have hfz := blk_frozen hM1 4
                        have hcl : w12.cell? ⟨w2.heap.size, 4, none⟩ = some (.slice An nx1.length cn) := (blk_cell hM1 4).trans rfl
                        clear ho hb hg hat hM1
                        refine hK.out _ _ ?_; clear hK K
                        refine norm_ (a' := ?_) ?_ ?_
                        rotate_left
                        · show Act.put _ (some 167) _ = _
                          simp only [Act.put, List.setIfInBounds_toArray, List.set_cons_zero, List.set_cons_succ, i64_w, i32_w]
                          rfl
                        refine pure_ (i := 9) (N := (some 168)) (v := ?_) (a' := ?_) #[true, true, true, true, true, true, true, true, true, true, false] rfl rfl (any_of HT_.out (by kernel_rfl)) (fun _ _ _ h => h) (Or.inl ⟨by rfl, ?_⟩) ?_ ?_
                        rotate_left
                        · intro w'
                          go_simp
                          with_reducible rfl
                        rotate_left
                        · simp only [Act.put, List.setIfInBounds_toArray, List.set_cons_zero, List.set_cons_succ, i64_w, i32_w]
                          rfl
                        refine last_ (i := 10) (N := none) #[true, true, true, true, true, true, true, true, true, true, true] rfl rfl (one_of HT_.out (by kernel_rfl)) (by decide) (fun K hK => ?_)
                        refine skip_ (w1 := ?_) (by rfl) rfl ?_ ?_
                        rotate_left
                        · go_simp
                          rfl
                        refine hK.out _ _ ?_; clear hK K
                        refine done_ (done_of HT_.out (by kernel_rfl)) ?_
                        clear hHeld hcM hvP hfz hcl
                        have HD10 := HDF.out.cell 4 rfl 4 (.slice A9 (nx1 ++ [wrap64 (rd pl1 p - 1)]).length c9) rfl HBF.out.size
                        have HB10 := HDF.out.belowSet (j := 4) (u := .slice A9 (nx1 ++ [wrap64 (rd pl1 p - 1)]).length c9) 4 rfl HBF.out
                        simp only [List.length_append, List.length_singleton] at HD10 HB10
                        generalize w12.setCell ⟨w2.heap.size, 4, none⟩ (.slice A9 (nx1.length + 1) c9) = w13 at HD10 HB10 ⊢
                        generalize Value.slice A9 (nx1.length + 1) c9 = nv2 at HD10
                        have HD11 := Aside0.mk HD10
                        have HB11 := Aside0.mk HB10
                        clear HD10 HB10 HDF HBF HDE HBE HD3 HB3
                        go_wp2
                        go_roundw
                        case rel => exact ⟨x + 1, row1, pl1, nx1 ++ [wrap64 (rd pl1 p - 1)], nv2, by go_num, ⟨by have := HLT.out; omega⟩, HH3, ⟨HD11.out⟩, HB11, HPL2⟩
                        case measure => have := HLT.out; simp [intOf]; omega
                  · rw [if_neg e4] at H; exact absurd H (by simp)
                · rw [if_neg e3] at H; exact absurd H (by simp)
              · have H := HIN.out
                rw [List.drop_of_length_le (by simp; omega)] at H
                simp only [rmIn, Option.some.injEq] at H
                subst H
                have hlt' : ¬ ((x : Int) < aS) := by omega
                have hr := HNX.out
                simp only [] at hr
                have hib := HIB.out
                go_wp2
                go_roundg k1
                case rel => exact ⟨i + 1, row1, pl1, nx1, _, out2, _, by go_num, ⟨hr⟩, ⟨by have := HK1.out; omega⟩, HD, HB, HPL⟩
                case measure => have := HK1.out; omega
        · exact absurd H (by simp)
      · rw [if_neg e1] at H
        have hlt' : ¬ ((i : Int) < (row.length : Int)) := by omega
        simp only [Option.some.injEq] at H
        subst H
        have hr := HRES.out
        simp only [Option.some.injEq, Prod.mk.injEq] at hr
        obtain ⟨rfl, rfl, rfl, rfl, rfl, rfl, rfl⟩ := hr
        obtain ⟨An, cn, rfl⟩ := Kd.R_slice (HD.out.get 1 rfl)
        obtain ⟨Ao, co, rfl⟩ := Kd.R_slice (HD.out.get 0 rfl)
        have hfz := blk_frozen (HD.out.get 4 rfl) 3
        have hcl : wr.cell? ⟨w2.heap.size, 3, none⟩ = some (.int .i64 0) := (blk_cell (HD.out.get 4 rfl) 3).trans rfl
        have HD2 := HD.out.cell 4 rfl 3 (.int .i64 (row.length : Int)) (cs' := #[.int .i64 1, .int .i64 aS, .int .i64 2, .int .i64 (row.length : Int), .slice An nx.length cn, .slice Ao out.length co]) rfl HB.out.size
        have hM2 := HD2.get 4 rfl
        have hB2 := HD.out.belowSet (j := 3) (u := .int .i64 (row.length : Int)) 4 rfl HB.out
        have hZ2 := (HMc.out.on hB2).z
        have hone : (#[.int .i64 1, .int .i64 aS, .int .i64 2, .int .i64 (row.length : Int), .slice An nx.length cn, .slice Ao out.length co] : Array Value).all (·.oneCell') = true := by simp [Value.oneCell']
        have HD5 := Aside0.mk HD2
        have HB5 := Aside0.mk hB2
        have HM2 := Aside0.mk hM2
        have HZ2 := Aside0.mk hZ2
        clear HD2 hB2 hM2 hZ2
        go_wp2_with (first
          | ((with_reducible refine gate_dst (N := 172) rfl ?_)
             refine wpList_load_row rfl 43 (.tmp 10) rfl w2.heap.size rfl 43 #[.int .i64 1, .int .i64 aS, .int .i64 2, .int .i64 (row.length : Int), .slice An nx.length cn, .slice Ao out.length co] (0, 0) _ HM2.out Try.underlying43 rfl ?_ ?_
             (focus (rw [i43]; rfl)))
          | ((with_reducible refine gate_store (t := 43) (p := 6) rfl ?_)
             refine wpList_store_rowTo rfl 43 (.tmp 6) (.tmp 172) rfl rfl (w.heap.size + 1 + 1) #[.int .i64 1, .int .i64 aS, .int .i64 2, .int .i64 (row.length : Int), .slice An nx.length cn, .slice Ao out.length co] rfl rfl 43 _ HZ2.out ?_ rfl hone ?_
             (focus (rw [i43]; rfl))))
        have hblk := setRow_heap _ (w.heap.size + 1 + 1) _ #[.int .i64 1, .int .i64 aS, .int .i64 2, .int .i64 (row.length : Int), .slice An nx.length cn, .slice Ao out.length co] 43 (0, 0) HZ2.out
        try simp only [Exit.inBlock, Exit.then]
        refine bodyPost_ret (results_ct rfl _ _ (w.heap.size + 1 + 1) 43 #[.int .i64 1, .int .i64 aS, .int .i64 2, .int .i64 (row.length : Int), .slice An nx.length cn, .slice Ao out.length co] (0, 0) _ rfl hblk Try.underlying43 rfl (by rw [i43]; rfl)) rfl ?_
        have hb5 : w.heap.size ≤ w2.heap.size := HMc.out.below.size
        have hzb : w.heap.size + 1 + 1 < w2.heap.size := blk_lt HMc.out.z
        refine ⟨_, _, rfl, Kd.R_mono (Kd.R_lower (Kd.R_grown (HD5.out.get 1 rfl) (grown_setRow _ _ _) (fun k hk he => ?_)) hb5) (fun k hk he => HD5.out.apart (i := 1) (j := 0) rfl rfl (by decide) hk he), Kd.R_mono (Kd.R_lower (Kd.R_grown (HD5.out.get 0 rfl) (grown_setRow _ _ _) (fun k hk he => ?_)) hb5) (fun k hk he => HD5.out.apart (i := 0) (j := 1) rfl rfl (by decide) hk he), ?_⟩
        · have := (HD5.out.bound 1 rfl hk).1
          injection he with he
          omega
        · have := (HD5.out.bound 0 rfl hk).1
          injection he with he
          omega
        · exact below_setRow (HMc.out.on HB5.out).below (by omega) _
end Go.Proofs.Ytkaefgmgcghhiaa.X
end
