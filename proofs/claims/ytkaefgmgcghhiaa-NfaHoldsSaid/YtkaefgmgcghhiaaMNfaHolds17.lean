/- Texts of the statement NfaHolds, one behind the other: Go functions as Lean functions, the machine's calls, the plain law. -/
import Derived.Test.YtkaefgmgcghhiaaMNfaHolds4
import Derived.Test.YtkaefgmgcghhiaaMNfaHolds5
import Derived.Test.YtkaefgmgcghhiaaMNfaHolds6
import Derived.Test.YtkaefgmgcghhiaaMNfaHolds7
import Derived.Test.YtkaefgmgcghhiaaMNfaHolds12
import Derived.Test.YtkaefgmgcghhiaaMNfaHolds15
import Derived.Test.YtkaefgmgcghhiaaMNfaHolds16
set_option linter.unusedVariables false
set_option linter.unusedSimpArgs false
section
namespace Go.Proofs.Ytkaefgmgcghhiaa.X
open Go.RowKit Go.Proofs.YtkaefgmgcghhiaaW.PrintWords Go.Proofs.YtkaefgmgcghhiaaW.PrintLast Go.Proofs.YtkaefgmgcghhiaaW.PrintMore
def detIn (k : Nat) (N : Int) (fr : List (List S80)) (s : List Nat) : List Nat → List (List Nat) → List Int → Option (Option (List (List Nat) × List Int))
  | [], row, nx => some (some (row, nx))
  | x :: r, row, nx => match stepF k N fr s (x : Int) with
    | none => none
    | some t => if nx.length < 1099511627776 then (match row.findIdx? (· == t) with
      | some j => detIn k N fr s r row (nx ++ [(j : Int)])
      | none => if row.length = 1024 then some none else detIn k N fr s r (row ++ [t]) (nx ++ [(row.length : Int)])) else none
def detF (k : Nat) (K N : Int) (F : List Int) (fr : List (List S80)) : Nat → Nat → List (List Nat) → List Int → List Int → Option (Option (List (List Nat) × List Int × List Int))
  | 0, _, _, _, _ => none
  | q + 1, i, row, nx, out => if i < row.length then (if out.length < 1099511627776 then (match detIn k N fr (row.getD i []) (List.range K.toNat) row nx with
    | none => none
    | some none => some none
    | some (some (row1, nx1)) => detF k K N F fr q (i + 1) row1 nx1 (out ++ [fiRow (row.getD i []) F 0])) else none) else some (some (row, nx, out))
def detG (k : Nat) (K N : Int) (S F : List Int) (E : List S80) : Option (Int × Int × Int × Int × List Int × List Int × Int) :=
  if (nfa_Check.g K N S F E).2 ≠ 0 then some (0, 0, 0, 0, [], [], (nfa_Check.g K N S F E).2) else
  match startF k N (rowsOf N.toNat E) S with
  | none => none
  | some s => match detF k K N F (rowsOf N.toNat E) k 0 [s] [] [] with
    | none => none
    | some none => some (0, 0, 0, 0, [], [], 3)
    | some (some (row, nx, out)) => some (1, K, 2, (row.length : Int), nx, out, 0)
theorem look_some {row : List (List Nat)} (hrow : ∀ s ∈ row, IsSet s) (hnd : row.Nodup) {t : List Nat} (ht : IsSet t) {j : Nat} (hj : row.findIdx? (· == t) = some j) {w : World} {b : Nat} (hp : PlaceAt w b row) :
    (Instr.lookup 92 (.map (some b)) (.agg (wordsOf t).toArray) true).run Try.prog w = .ok (.tuple #[.int .i64 (j : Int), .bool true]) w := by
  obtain ⟨hjl, hjt, _⟩ := List.findIdx?_eq_some_iff_getElem.1 hj
  have hjt' : row[j] = t := by simpa using hjt
  rcases place_lookup hrow ht hp with ⟨_, h2⟩ | ⟨i, h1, h2⟩
  · exact absurd (hjt' ▸ List.getElem_mem hjl) h2
  · obtain ⟨hil, hit⟩ := List.getElem?_eq_some_iff.1 h2
    have : i = j := (List.getElem_inj hnd).1 (hit.trans hjt'.symm)
    rw [h1, this]
theorem look_none {row : List (List Nat)} (hrow : ∀ s ∈ row, IsSet s) {t : List Nat} (ht : IsSet t) (hj : row.findIdx? (· == t) = none) {w : World} {b : Nat} (hp : PlaceAt w b row) :
    (Instr.lookup 92 (.map (some b)) (.agg (wordsOf t).toArray) true).run Try.prog w = .ok (.tuple #[.int .i64 0, .bool false]) w := by
  rcases place_lookup hrow ht hp with ⟨h1, _⟩ | ⟨i, _, h2⟩
  · exact h1
  · have := List.findIdx?_eq_none_iff.1 hj t (List.mem_of_getElem? h2)
    simp at this
theorem not_mem_of_none {row : List (List Nat)} {t : List Nat} (hj : row.findIdx? (· == t) = none) : t ∉ row := fun hm => by
  have := List.findIdx?_eq_none_iff.1 hj t hm
  simp at this
/-- A store into that map, at the operation. -/
theorem wpList_place_put {w : World} {ops : Array Oper} {rest : List Oper} {o : Oper} {a : Act} {Q : Exit → Act → World → Prop} {row : List (List Nat)} {t : List Nat} {b : Nat} (hg : o.guard = none) (m x v : Operand)
    (hop : o.op = .insert 92 m x v ∨ o.op = .mapUpdate 92 m x v) (hm : a.eval m = .map (some b)) (hx : a.eval x = .agg (wordsOf t).toArray) (hv : a.eval v = .int .i64 (row.length : Int)) (hd : o.dst = none)
    (hrow : ∀ s ∈ row, IsSet s) (ht : IsSet t) (hnew : t ∉ row) (hp : PlaceAt w b row)
    (h : ∀ w', PlaceAt w' b (row ++ [t]) → w.grownBy w' (some b) → wpList Try.prog ops Q rest a w') : wpList Try.prog ops Q (o :: rest) a w := by
  obtain ⟨w', h1, h2, h3⟩ := place_put hrow ht hnew hp
  refine wpList_plain hg fun K hK => ?_
  have hrun : (execOp a.eval o).run Try.prog w = .ok .skip w' := by
    unfold execOp
    rcases hop with hop | hop
    · simp [hop, hm, hx, hv, h1, Result.andThen]
    · simp [hop, hm, hx, hv, h1, Result.andThen]
  unfold Oper.wp
  rw [hrun]
  show K (a.put o.dst undef) w'
  rw [hd]
  exact hK _ _ (h w' h2 h3)
/-- A literal of one set. -/
theorem run_one_set (W : World) {s : List Nat} (hs : IsSet s) : (Instr.buildSlice 93 1 #[(0, .agg (wordsOf s).toArray)]).run Try.prog W = .ok (.slice (some ⟨W.heap.size, 0, none⟩) 1 1) (W.alloc (.cells (wordsOf s).toArray 88)) := by
  cases hi : Try.prog.info? 88 with
  | none => have := info88; rw [hi] at this; cases this
  | some ie =>
    have h88 := info88
    rw [hi] at h88
    simp only [Option.map_some, Option.some.injEq, Prod.mk.injEq] at h88
    refine run_buildSlice W 93 88 1 _ _ ie _ Try.underlying93 hi h88.1 (by rw [h88.2]; decide) (by rw [h88.2]; decide) ?_
    rw [h88.2]
    have h := Great.fill_whole (s := 16) (by decide) [.agg (wordsOf s).toArray] ((Array.range (1 * 16)).map ((Value.agg (Array.replicate 16 (.int .u64 0))).cells[· % (Value.agg (Array.replicate 16 (.int .u64 0))).cells.size]!)) (by
      intro v hv
      simp only [List.mem_singleton] at hv
      subst hv
      exact set_len hs) (by simp)
    simpa [Value.cells] using h
theorem exec_one_set {a : Act} {o : Oper} {x : Operand} {s : List Nat} (ho : o.op = .buildSlice 93 1 #[(0, x)]) (hx : a.eval x = .agg (wordsOf s).toArray) (hs : IsSet s) (W : World) :
    (execOp a.eval o).run Try.prog W = .ok (.value (.slice (some ⟨W.heap.size, 0, none⟩) 1 1)) (W.alloc (.cells (wordsOf s).toArray 88)) := by
  unfold execOp
  simp [ho, hx, run_one_set W hs, Result.andThen]
theorem reps_one_set {w : World} {base : Nat} {ok : Nat → Prop} {s : List Nat} (hs : IsSet s) : Reps (kset.M w base ok) kset.sz [s] (wordsOf s) := by
  have hl : (wordsOf s).length = 16 := by simp [wordsOf, hs.1]
  refine ⟨by rw [hl]; rfl, fun j p hj => ?_⟩
  cases j with
  | zero =>
    simp only [List.getElem?_cons_zero, Option.some.injEq] at hj
    subst hj
    refine ⟨hs, ?_⟩
    show List.take 16 (List.drop (0 * 16) (wordsOf s)) = wordsOf s
    rw [Nat.zero_mul, List.drop_zero, List.take_of_length_le (by omega)]
  | succ j => simp at hj
end Go.Proofs.Ytkaefgmgcghhiaa.X
end

section
namespace Go.Proofs.Ytkaefgmgcghhiaa.X
open Go.RowKit Go.Proofs.YtkaefgmgcghhiaaW.PrintWords Go.Proofs.YtkaefgmgcghhiaaW.PrintLast Go.Proofs.YtkaefgmgcghhiaaW.PrintMore
structure DetAt (w0 : World) (mb M : Nat) (K : Int) (pr row : List (List Nat)) (rv : Value) (nx : List Int) (nxv : Value) (out : List Int) (outv : Value) (w : World) : Prop where
  place : PlaceAt w mb pr
  row : Kd.R kset 88 w w0.heap.size (fun _ => True) rv row
  m : w.heap[M]? = some (.cells #[.int .i64 1, .int .i64 K, .int .i64 2, .int .i64 0, nxv, outv] 43 (0, 0))
  nx : Kd.R (Kd.int .i64) 3 w w0.heap.size (fun _ => True) nxv nx
  out : Kd.R (Kd.int .i64) 3 w w0.heap.size (fun _ => True) outv out
  apart : ∀ k, nxv.ownBlock = some k → outv.ownBlock ≠ some k
  below : Below w0.heap.size w0 w
  hmb : w0.heap.size ≤ mb
  hM : w0.heap.size ≤ M
theorem R_typed {α : Type} {d : Kd α} {e : Nat} {w : World} {base : Nat} {ok : Nat → Prop} {v : Value} {xs : List α} (h : d.R e w base ok v xs) (k : Nat) (hk : v.ownBlock = some k) : ∃ cells, w.heap[k]? = some (.cells cells e (0, 0)) := by
  obtain ⟨inner, ho⟩ := Kd.R_own h
  exact own_typed ho k hk
theorem R_R_ne {α β : Type} {d : Kd α} {d' : Kd β} {e e' : Nat} {w : World} {base base' : Nat} {ok ok' : Nat → Prop} {v v' : Value} {xs : List α} {ys : List β} (h : d.R e w base ok v xs) (h' : d'.R e' w base' ok' v' ys) (hne : e ≠ e') (k : Nat) (hk : v.ownBlock = some k) : some k ≠ v'.ownBlock := by
  intro he
  obtain ⟨c, h1⟩ := R_typed h k hk
  obtain ⟨c', h2⟩ := R_typed h' k he.symm
  rw [h1] at h2
  simp only [Option.some.injEq, Obj.cells.injEq] at h2
  exact hne h2.2.1
theorem place_R_ne {α : Type} {d : Kd α} {e : Nat} {w : World} {base : Nat} {ok : Nat → Prop} {v : Value} {xs : List α} {b : Nat} {row : List (List Nat)} (hp : PlaceAt w b row) (h : d.R e w base ok v xs) : some b ≠ v.ownBlock := by
  intro he
  obtain ⟨c, h1⟩ := R_typed h b he.symm
  unfold PlaceAt at hp
  rw [hp] at h1
  cases h1
theorem place_blk_ne {w : World} {b g t : Nat} {cs : Array Value} {row : List (List Nat)} (hp : PlaceAt w b row) (h : w.heap[g]? = some (.cells cs t (0, 0))) : b ≠ g := by
  rintro rfl
  unfold PlaceAt at hp
  rw [hp] at h
  cases h
theorem PlaceAt.grown {w w1 : World} {b : Nat} {row : List (List Nat)} {r : Option Nat} (hp : PlaceAt w b row) (hg : w.grownBy w1 r) (hne : some b ≠ r) : PlaceAt w1 b row := blk_grown hp hg hne
theorem PlaceAt.far {w : World} {b : Nat} {row : List (List Nat)} (hp : PlaceAt w b row) {p : Addr} (hne : b ≠ p.block) (u : Value) : PlaceAt (w.setCell p u) b row := (Below.heap_setCell w p u b hne).trans hp
theorem DetAt.low {w0 w w1 : World} {mb M : Nat} {K : Int} {pr row : List (List Nat)} {rv nxv outv : Value} {nx out : List Int} (h : DetAt w0 mb M K pr row rv nx nxv out outv w) (hb : Below w.heap.size w w1) : DetAt w0 mb M K pr row rv nx nxv out outv w1 :=
  ⟨blk_below h.place hb, Kd.R_below h.row hb, blk_below h.m hb, Kd.R_below h.nx hb, Kd.R_below h.out hb, h.apart, below_then h.below h.below.size hb, h.hmb, h.hM⟩
theorem R_after {α : Type} {d : Kd α} {e : Nat} {w w1 : World} {base M j : Nat} {v v1 : Value} {xs : List α} (h : d.R e w base (fun _ => True) v xs) (hE : d.E = []) {row : Option Nat} (hg : w.grownBy w1 row) (hne : ∀ k, row = some k → some k ≠ v.ownBlock) (hM : some M ≠ v.ownBlock) : d.R e (w1.setCell ⟨M, j, none⟩ v1) base (fun _ => True) v xs := by
  have h1 := Kd.R_grown2 h hE hg hne
  exact Kd.R_mono (Kd.R_far (Kd.R_tight hE h1) (p := ⟨M, j, none⟩) (fun k hk he => hM (by rw [← hk]; show some M = some k; rw [he])) v1) (fun _ _ => trivial)
theorem DetAt.outAp {w0 w w1 : World} {mb M : Nat} {K : Int} {pr row : List (List Nat)} {rv nxv outv v1 : Value} {nx out out1 : List Int} (h : DetAt w0 mb M K pr row rv nx nxv out outv w)
    (hr : Kd.R (Kd.int .i64) 3 w1 w0.heap.size (fun _ => True) v1 out1) (hb : Below w0.heap.size w0 w1) (hg : w.grownBy w1 outv.ownBlock) (hat : v1.ownBlock = outv.ownBlock ∨ ∃ b, v1.ownBlock = some b ∧ w.heap.size ≤ b) :
    DetAt w0 mb M K pr row rv nx nxv out1 v1 (w1.setCell ⟨M, 5, none⟩ v1) := by
  have hMo : some M ≠ outv.ownBlock := Kd.R_ne h.out h.m (by decide)
  have hm1 := blk_grown h.m hg hMo
  refine ⟨(h.place.grown hg (place_R_ne h.place h.out)).far (place_blk_ne h.place h.m) _, R_after h.row rfl hg (fun k hk => R_R_ne h.out h.row (by decide) k hk) (Kd.R_ne h.row h.m (by decide)), blk_put hm1 5 v1 rfl,
    R_after h.nx rfl hg (fun k hk he => h.apart k he.symm hk) (Kd.R_ne h.nx h.m (by decide)), ?_, ?_, below_set hb h.hM, h.hmb, h.hM⟩
  · exact Kd.R_mono (Kd.R_far (Kd.R_tight rfl hr) (p := ⟨M, 5, none⟩) (fun k hk he => Kd.R_ne hr hm1 (by decide) (by rw [← hk]; show some M = some k; rw [he])) v1) (fun _ _ => trivial)
  · intro k hk he
    rcases hat with h1 | ⟨b, h1, h2⟩
    · rw [h1] at he; exact h.apart k hk he
    · rw [h1] at he
      have := Kd.R_lt h.nx k hk
      have hbk : b = k := by injection he
      omega
theorem DetAt.nextAp {w0 w w1 : World} {mb M : Nat} {K : Int} {pr row : List (List Nat)} {rv nxv outv v1 : Value} {nx out nx1 : List Int} (h : DetAt w0 mb M K pr row rv nx nxv out outv w)
    (hr : Kd.R (Kd.int .i64) 3 w1 w0.heap.size (fun _ => True) v1 nx1) (hb : Below w0.heap.size w0 w1) (hg : w.grownBy w1 nxv.ownBlock) (hat : v1.ownBlock = nxv.ownBlock ∨ ∃ b, v1.ownBlock = some b ∧ w.heap.size ≤ b) :
    DetAt w0 mb M K pr row rv nx1 v1 out outv (w1.setCell ⟨M, 4, none⟩ v1) := by
  have hMo : some M ≠ nxv.ownBlock := Kd.R_ne h.nx h.m (by decide)
  have hm1 := blk_grown h.m hg hMo
  refine ⟨(h.place.grown hg (place_R_ne h.place h.nx)).far (place_blk_ne h.place h.m) _, R_after h.row rfl hg (fun k hk => R_R_ne h.nx h.row (by decide) k hk) (Kd.R_ne h.row h.m (by decide)), blk_put hm1 4 v1 rfl,
    ?_, R_after h.out rfl hg (fun k hk he => h.apart k hk he.symm) (Kd.R_ne h.out h.m (by decide)), ?_, below_set hb h.hM, h.hmb, h.hM⟩
  · exact Kd.R_mono (Kd.R_far (Kd.R_tight rfl hr) (p := ⟨M, 4, none⟩) (fun k hk he => Kd.R_ne hr hm1 (by decide) (by rw [← hk]; show some M = some k; rw [he])) v1) (fun _ _ => trivial)
  · intro k hk he
    rcases hat with h1 | ⟨b, h1, h2⟩
    · rw [h1] at hk; exact h.apart k hk he
    · rw [h1] at hk
      have := Kd.R_lt h.out k he
      have hbk : b = k := by injection hk
      omega
theorem DetAt.placed {w0 w w1 : World} {mb M : Nat} {K : Int} {pr pr1 row : List (List Nat)} {rv nxv outv : Value} {nx out : List Int} (h : DetAt w0 mb M K pr row rv nx nxv out outv w) (hp : PlaceAt w1 mb pr1) (hg : w.grownBy w1 (some mb)) :
    DetAt w0 mb M K pr1 row rv nx nxv out outv w1 :=
  ⟨hp, Kd.R_grown2 h.row rfl hg (fun k hk => by injection hk with hk; rw [← hk]; exact place_R_ne h.place h.row), blk_grown h.m hg (fun he => place_blk_ne h.place h.m (by injection he with he; exact he.symm)),
    Kd.R_grown2 h.nx rfl hg (fun k hk => by injection hk with hk; rw [← hk]; exact place_R_ne h.place h.nx), Kd.R_grown2 h.out rfl hg (fun k hk => by injection hk with hk; rw [← hk]; exact place_R_ne h.place h.out),
    h.apart, pw_below_grown h.below (some mb) h.below.size hg (fun k hk => by injection hk with hk; rw [← hk]; exact h.hmb), h.hmb, h.hM⟩
theorem DetAt.rowAp {w0 w w1 : World} {mb M : Nat} {K : Int} {pr row row1 : List (List Nat)} {rv rv1 nxv outv : Value} {nx out : List Int} (h : DetAt w0 mb M K pr row rv nx nxv out outv w)
    (hr : Kd.R kset 88 w1 w0.heap.size (fun _ => True) rv1 row1) (hb : Below w0.heap.size w0 w1) (hg : w.grownBy w1 rv.ownBlock) : DetAt w0 mb M K pr row1 rv1 nx nxv out outv w1 :=
  ⟨h.place.grown hg (place_R_ne h.place h.row), hr, blk_grown h.m hg (Kd.R_ne h.row h.m (by decide)), Kd.R_grown2 h.nx rfl hg (fun k hk => R_R_ne h.row h.nx (by decide) k hk), Kd.R_grown2 h.out rfl hg (fun k hk => R_R_ne h.row h.out (by decide) k hk), h.apart, hb, h.hmb, h.hM⟩
end Go.Proofs.Ytkaefgmgcghhiaa.X
end

section
namespace Go.Proofs.Ytkaefgmgcghhiaa.X
open Go.RowKit Go.Proofs.YtkaefgmgcghhiaaW.PrintWords Go.Proofs.YtkaefgmgcghhiaaW.PrintLast Go.Proofs.YtkaefgmgcghhiaaW.PrintMore
theorem gate_insert {P : Program} {ops : Array Oper} {rest : List Oper} {o : Oper} {a : Act} {Q : Exit → Act → World → Prop} {W : World} {t : TypeId} {m x v : Operand} (_ho : o.op = .insert t m x v) (h : wpList P ops Q (o :: rest) a W) : wpList P ops Q (o :: rest) a W := h
theorem gate_update {P : Program} {ops : Array Oper} {rest : List Oper} {o : Oper} {a : Act} {Q : Exit → Act → World → Prop} {W : World} {t : TypeId} {m x v : Operand} (_ho : o.op = .mapUpdate t m x v) (h : wpList P ops Q (o :: rest) a W) : wpList P ops Q (o :: rest) a W := h
theorem info43 : (Try.prog.info? 43).map (fun i => (i.zero, i.size)) = some (some (.agg #[.int .i64 0, .int .i64 0, .int .i64 0, .int .i64 0, .slice none 0 0, .slice none 0 0]), 6) := by kernel_rfl
theorem info88b : (Try.prog.info? 88).map (fun i => (i.zero, i.size, i.bytes)) = some (some (.agg (Array.replicate 16 (.int .u64 0))), kset.sz, 128) := by kernel_rfl
def DT12.T12 : Bool × List (List Nat × List Nat) := (true, [([], []), ([0], [0]), ([], []), ([], []), ([], []), ([3, 4], [3, 4]), ([5], [5]), ([2, 6], [2, 6]), ([7], [7]), ([1, 8, 7], [1, 8]), ([0, 1, 2, 3, 4, 5, 6, 7, 8, 9], []), ([10, 9, 9, 0, 1, 2, 3, 4, 5, 6, 7, 8, 9], [9, 10])])
def DT12.B12 : List Nat := [0, 1, 0, 0, 0, 24, 56, 124, 252, 511, 1023, 2047]
theorem DT12.tab12 : rtab .any (opsOf Try.f22 12) = DT12.T12 := by kernel_rfl
theorem DT12.bits12 : waitsOk DT12.T12.2 DT12.B12 = true := by kernel_rfl
theorem grown_setRow (w : World) (g : Nat) (cs : Array Value) : w.grownBy (w.setRow g cs) (some g) := ⟨rfl, rfl, rfl, by simp, fun i _ hi => setRow_other w g i cs (fun e => hi (by rw [e]))⟩
def zero43 : Array Value := #[.int .i64 0, .int .i64 0, .int .i64 0, .int .i64 0, .slice none 0 0, .slice none 0 0]
theorem zero43_one : zero43.all (·.oneCell') = true := by simp [zero43, Value.oneCell']
set_option maxHeartbeats 8000000 in
set_option maxRecDepth 100000 in
theorem Determine_walk (k : Nat) (K N : Int) (A2 : Option Addr) (c2 : Nat) (S : List Int) (A3 : Option Addr) (c3 : Nat) (F : List Int) (A4 : Option Addr) (c4 : Nat) (E : List S80) (r1 r2 r3 r4 : Int) (r5 r6 : List Int) (r7 : Int) (w : World)
    (hr2 : Kd.C (Kd.int .i64) w A2 S.length S) (hr3 : Kd.C (Kd.int .i64) w A3 F.length F) (hr4 : Kd.C k80 w A4 E.length E) (h : detG k K N S F E = some (r1, r2, r3, r4, r5, r6, r7)) :
    Calls Try.prog 22 #[.agg #[.int .i64 K, .int .i64 N, .slice A2 S.length c2, .slice A3 F.length c3, .slice A4 E.length c4]] w fun e w' => ∃ v4_ v5_ : Value, e = .returned (.tuple #[.agg #[.int .i64 r1, .int .i64 r2, .int .i64 r3, .int .i64 r4, v4_, v5_], .int .i64 r7]) ∧ Kd.R (Kd.int .i64) 3 w' w.heap.size (fun k_ => some k_ ≠ (v5_ : Value).ownBlock) v4_ r5 ∧ Kd.R (Kd.int .i64) 3 w' w.heap.size (fun k_ => some k_ ≠ (v4_ : Value).ownBlock) v5_ r6 ∧ Below w.heap.size w w' := by
  have hu25 := Try.underlying25
  have hu43 := Try.underlying43
  have hu80 := Try.underlying80
  have hu92 := Try.underlying92
  have hu93 := Try.underlying93
  unfold detG at h
  obtain ⟨p0, p1, hp⟩ : ∃ p0 p1, nfa_Check.g K N S F E = (p0, p1) := ⟨_, _, rfl⟩
  have hchk := fun (W : World) (hb : Below w.heap.size w W) => Check_walk K N A2 c2 S A3 c3 F A4 c4 E p0 p1 W (Kd.C_below hr2 hb) (Kd.C_below hr3 hb) (Kd.C_below hr4 hb) hp
  have hok : p1 = 0 → RightN K N S F E := fun he => check_ok (by rw [hp]; exact he)
  rw [hp] at h
  simp only [] at h
  have H2 := Aside0.mk hr2
  have H3 := Aside0.mk hr3
  have H4 := Aside0.mk hr4
  clear hr2 hr3 hr4 hp
  obtain ⟨z43, i43⟩ := zero_of_info info43
  have hZ : ∀ w1, Below ((w.alloc (.cells #[.int .i64 K, .int .i64 N, .slice A2 S.length c2, .slice A3 F.length c3, .slice A4 E.length c4] 25)).alloc (.cells zero43 43)).heap.size ((w.alloc (.cells #[.int .i64 K, .int .i64 N, .slice A2 S.length c2, .slice A3 F.length c3, .slice A4 E.length c4] 25)).alloc (.cells zero43 43)) w1 → w1.heap[w.heap.size + 1]? = some (.cells zero43 43 (0, 0)) := by
    intro w1 hb
    refine blk_below ?_ hb
    have h := blk_new (w.alloc (.cells #[.int .i64 K, .int .i64 N, .slice A2 S.length c2, .slice A3 F.length c3, .slice A4 E.length c4] 25)) (.cells zero43 43)
    simpa using h
  have HZ := Aside0.mk hZ
  clear hZ
  by_cases q1 : p1 ≠ 0
  · rw [if_pos q1] at h
    simp only [Option.some.injEq, Prod.mk.injEq] at h
    obtain ⟨rfl, rfl, rfl, rfl, rfl, rfl, rfl⟩ := h
    have q1b : (p1 != 0) = true := by simpa using q1
    clear hok q1
    go_enter Try.func22, Try.ntmps22
    go_wp2_with (first | (go_at_call 15; refine (hchk _ (below_alloc (below_alloc (Below.refl _ _) _) _)).mono ?_; rintro e w1 ⟨rfl, hb1⟩) | ((with_reducible refine gate_store (t := 43) (p := 2) rfl ?_); (refine wpList_store_rowTo rfl 43 (.tmp 2) (.tmp 23) rfl rfl (w.heap.size + 1) zero43 rfl rfl 43 _ (HZ.out _ hb1) ?_ rfl zero43_one ?_; (focus (rw [i43]; rfl)))))
    have hblk := setRow_heap w1 (w.heap.size + 1) _ zero43 43 (0, 0) (HZ.out _ hb1)
    try simp only [Exit.inBlock, Exit.then]
    refine bodyPost_ret (results_ct rfl _ _ (w.heap.size + 1) 43 zero43 (0, 0) _ rfl hblk Try.underlying43 rfl (by rw [i43]; rfl)) rfl ?_
    exact ⟨_, _, rfl, Kd.R_nil _ _ _ _ _, Kd.R_nil _ _ _ _ _, below_setRow (below_step (below_alloc (below_alloc (Below.refl _ _) _) _) hb1) (by omega) _⟩
  · rw [if_neg q1] at h
    have q0 : p1 = 0 := by omega
    subst q0
    have HOK := Aside0.mk (hok rfl)
    clear q1 hok
    have hfr : ((rowsOf N.toNat E).length : Int) = N := by rw [rows_length]; have := HOK.out.n; omega
    have hfl : ∀ j, ((rowsOf N.toNat E).getD j []).length ≤ 65536 := fun j => Nat.le_trans (rows_short _ _ _) HOK.out.el
    have hnr := fun (W : World) (hb : Below w.heap.size w W) => newRunner_walk K N A2 c2 S A3 c3 F A4 c4 E W (Kd.C_below H4.out hb) HOK.out.n HOK.out.el (fun x hx => ⟨(HOK.out.e x hx).1, (HOK.out.e x hx).2.1⟩)
    generalize rowsOf N.toNat E = fr at h hfr hfl hnr
    have HFR := Aside0.mk hfr
    have HFL := Aside0.mk hfl
    clear hfr hfl
    cases hs : startF k N fr S with
    | none => rw [hs] at h; exact absurd h (by simp)
    | some s =>
      rw [hs] at h
      simp only [] at h
      have HSF := Aside0.mk hs
      cases hd : detF k K N F fr k 0 [s] [] [] with
      | none => rw [hd] at h; exact absurd h (by simp)
      | some res =>
      rw [hd] at h
      have HD0 := Aside0.mk hd
      have HRES := Aside0.mk h
      clear hs h hd
      obtain ⟨z88, i88⟩ := zero_of_info info88
      have hmm := @run_makeMap Try.prog
      go_enter Try.func22, Try.ntmps22
      go_wp2_with (first | (go_at_call 15; refine (hchk _ (below_alloc (below_alloc (Below.refl _ _) _) _)).mono ?_; rintro e w1 ⟨rfl, hb1⟩; have HB1 := Aside0.mk (below_step (below_alloc (below_alloc (Below.refl w.heap.size w) (.cells #[.int .i64 K, .int .i64 N, .slice A2 S.length c2, .slice A3 F.length c3, .slice A4 E.length c4] 25)) (.cells zero43 43)) hb1); have HZ1 := Aside0.mk (HZ.out _ hb1); have hbx := blk_below (blk_alloc (blk_new w (.cells #[.int .i64 K, .int .i64 N, .slice A2 S.length c2, .slice A3 F.length c3, .slice A4 E.length c4] 25)) (.cells zero43 43)) hb1; have HBX := Aside0.mk hbx; have hx0 : w1.cell? ⟨w.heap.size, 0, none⟩ = some (.int .i64 K) := (blk_cell hbx 0).trans rfl; have hx1 : w1.cell? ⟨w.heap.size, 1, none⟩ = some (.int .i64 N) := (blk_cell hbx 1).trans rfl; have hx2 : w1.cell? ⟨w.heap.size, 2, none⟩ = some (.slice A2 S.length c2) := (blk_cell hbx 2).trans rfl; have hx3 : w1.cell? ⟨w.heap.size, 3, none⟩ = some (.slice A3 F.length c3) := (blk_cell hbx 3).trans rfl; have hx4 : w1.cell? ⟨w.heap.size, 4, none⟩ = some (.slice A4 E.length c4) := (blk_cell hbx 4).trans rfl; clear hb1 hbx) | (go_at_call 57; refine (hnr _ HB1.out).mono ?_; rintro e w3 ⟨rb, rfl, hR3, hb3⟩; have HR3 := Aside0.mk hR3; have HB3 := Aside0.mk (below_step HB1.out hb3); have HZ3 := Aside0.mk (blk_below HZ1.out hb3); have HBX3 := Aside0.mk (blk_below HBX.out hb3); clear hR3 hb3 hx0 hx1 hx2 hx3 hx4) | (go_at_call 58; refine (start_walk k rb K N A2 c2 S _ _ fr s w3 _ HOK.out.n HFR.out HFL.out HR3.out (Kd.C_below H2.out HB3.out) HOK.out.sl HSF.out).mono ?_; rintro e w4 ⟨rfl, hs4, hb4⟩; have HS4 := Aside0.mk hs4; have HR4 := Aside0.mk (HR3.out.below hb4); have HB4 := Aside0.mk (below_step HB3.out hb4); have HZ4 := Aside0.mk (blk_below HZ3.out hb4); have HBX4 := Aside0.mk (blk_below HBX3.out hb4); have hlit := fun (W : World) => run_one_set W hs4; have hpl0 : PlaceAt ((w4.alloc (.cells (wordsOf s).toArray 88)).alloc (.map #[] 0)) (w4.heap.size + 1) [] := (by have h := blk_new (w4.alloc (.cells (wordsOf s).toArray 88)) (.map #[] 0); simpa [PlaceAt] using h); clear hs4 hb4) | ((with_reducible refine gate_store (t := 88) (p := 7) rfl ?_); refine wpList_store_rowTo rfl 88 (.tmp 7) (.tmp 28) rfl rfl w4.heap.size (wordsOf s).toArray rfl rfl 88 _ (blk_new w4 _) ?_ ?_ (set_one s) ?_; (focus (rw [i88, set_len HS4.out])); (focus (rw [set_len HS4.out]; simp)); rw [World.setRow_alloc_new]) | ((with_reducible refine gate_dst (N := 30) rfl ?_); refine wpList_load_row rfl 88 (.tmp 7) rfl w4.heap.size rfl 88 (wordsOf s).toArray (0, 0) _ (blk_alloc (blk_new w4 _) _) Try.underlying88 rfl ?_ ?_; (focus (rw [i88, set_len HS4.out]))) | ((with_reducible refine gate_insert rfl ?_); (refine wpList_place_put (row := []) (t := s) (b := w4.heap.size + 1) rfl (.tmp 29) (.tmp 30) (.const (.int .i64 0)) (.inl rfl) rfl rfl rfl rfl (by simp) HS4.out (by simp) hpl0 ?_; intro w6 hp6 hg6; have HP6 := Aside0.mk hp6; have HF6 := Aside0.mk (blk_grown (blk_alloc (blk_new w4 (.cells (wordsOf s).toArray 88)) (.map #[] 0)) hg6 (fun he => by injection he with he; omega)); have HB6 := Aside0.mk ((below_alloc (Below.refl (w4.alloc (.cells (wordsOf s).toArray 88)).heap.size (w4.alloc (.cells (wordsOf s).toArray 88))) (.map #[] 0)).grown hg6 (by simp) (fun k hk => by injection hk with hk; rw [← hk]; simp)); clear hp6 hg6 hpl0)) | ((with_reducible refine gate_dst (N := 32) rfl ?_); refine wpList_load_row rfl 88 (.tmp 7) rfl w4.heap.size rfl 88 (wordsOf s).toArray (0, 0) _ HF6.out Try.underlying88 rfl ?_ ?_; (focus (rw [i88, set_len HS4.out]))) | ((with_reducible refine gate_dst (N := 33) rfl ?_); (refine Kd.R_lit kset (w0 := w4.alloc (.cells (wordsOf s).toArray 88)) (w4.alloc (.cells (wordsOf s).toArray 88)).heap.size 88 rfl (N := 33) rfl (xs := [s]) (inner := wordsOf s) (ok := fun _ => True) (okp := fun _ => True) ?hr ?hp (fun _ hk => hk) trivial HB6.out HB6.out.size (by simp) ?_; (case hr => exact exec_one_set rfl rfl HS4.out _); (case hp => exact reps_one_set HS4.out); intro v7 w7 ho7 hb7 hg7 hnew7; have HO7 := Aside0.mk ho7; have HB7 := Aside0.mk hb7; have HP7 := Aside0.mk (HP6.out.grown hg7 (by simp)); have hx0 : w7.cell? ⟨w.heap.size, 0, none⟩ = some (.int .i64 K) := (blk_cell ((hb7.block w.heap.size (by have := blk_lt HBX4.out; simp; omega)).trans (blk_alloc HBX4.out _)) 0).trans rfl; clear ho7 hb7 hg7 hnew7 hlit)))
      have hD0 : DetAt (w4.alloc (.cells (wordsOf s).toArray 88)) (w4.heap.size + 1) w7.heap.size K [s] [s] v7 [] (.slice none 0 0) [] (.slice none 0 0) (w7.alloc (.cells #[.int .i64 1, .int .i64 K, .int .i64 2, .int .i64 0, .slice none 0 0, .slice none 0 0] 43)) := by
        have hb := below_alloc (Below.refl w7.heap.size w7) (.cells #[.int .i64 1, .int .i64 K, .int .i64 2, .int .i64 0, .slice none 0 0, .slice none 0 0] 43)
        exact ⟨blk_below HP7.out hb, Kd.R_below HO7.out hb, blk_new w7 _, Kd.R_nil _ _ _ _ _, Kd.R_nil _ _ _ _ _, fun k hk => by simp [Value.ownBlock] at hk, below_then HB7.out HB7.out.size hb, by simp, HB7.out.size⟩
      have hb5 := below_alloc (Below.refl w4.heap.size w4) (.cells (wordsOf s).toArray 88)
      have HR5 := Aside0.mk (HR4.out.below hb5)
      have HB5 := Aside0.mk (below_step HB4.out hb5)
      have HZ5 := Aside0.mk (blk_below HZ4.out hb5)
      have HBX5 := Aside0.mk (blk_below HBX4.out hb5)
      have HSS0 : Aside0 (∀ q ∈ [s], IsSet q) := ⟨fun q hq => by simp only [List.mem_singleton] at hq; rw [hq]; exact HS4.out⟩
      have HN0 : Aside0 ([s].Nodup) := ⟨by simp⟩
      generalize hmbq : w4.heap.size + 1 = mb at hD0 ⊢
      generalize hW5q : w4.alloc (.cells (wordsOf s).toArray 88) = W5 at hD0 HR5 HB5 HZ5 HBX5
      clear hb5 HP7 HO7 HB7 HR4 HB4 HZ4 HBX4 HZ3 HBX3 HP6 HF6 HB6 hx0 hmm hchk hnr hW5q hmbq HR3 HB3 HZ1 HBX HB1 HZ HSF
      generalize w7.heap.size = M at hD0 ⊢
      go_loopg [9, 11] k (fun kq v9 v11 wr => ∃ (i : Nat) (row : List (List Nat)) (nx : List Int) (nxv : Value) (out : List Int) (outv : Value), v11 = .int .i64 (i : Int) ∧ Aside0 (detF k K N F fr kq i row nx out = some res) ∧ Aside0 (kq ≤ k) ∧ Aside0 (DetAt W5 mb M K row row v9 nx nxv out outv wr) ∧ Aside0 (∀ q ∈ row, IsSet q) ∧ Aside0 row.Nodup ∧ Aside0 (row.length ≤ 1024))
      case atStart => exact ⟨0, [s], [], _, [], _, rfl, HD0, ⟨Nat.le_refl _⟩, ⟨hD0⟩, HSS0, HN0, ⟨by simp⟩⟩
      case round =>
        clear hD0 HD0 HSS0 HN0
        obtain ⟨i, row, nx, nxv, out, outv, rfl, HF, HK1, HD, HSS, HND, HRL⟩ := hrel
        have hrl := HRL.out
        cases gk with
        | zero => exact absurd HF.out (by simp [detF])
        | succ k1 =>
          have H := HF.out
          clear HF
          simp only [detF] at H
          by_cases e1 : i < row.length
          · rw [if_pos e1] at H
            by_cases e2 : out.length < 1099511627776
            · rw [if_pos e2] at H
              obtain ⟨gr, cr, rfl, hrg, hsi⟩ := row_at HD.out.row i e1
              generalize hsiq : row.getD i [] = si at H hrg hsi
              cases hin : detIn k N fr si (List.range K.toNat) row nx with
              | none => rw [hin] at H; exact absurd H (by simp)
              | some ires =>
                rw [hin] at H
                have HIN := Aside0.mk hin
                have HNX := Aside0.mk H
                have HSI := Aside0.mk hsiq
                have HI1 := Aside0.mk e1
                have HSET := Aside0.mk hsi
                obtain ⟨Ao, co, rfl⟩ := Kd.R_slice HD.out.out
                clear hin H hsiq hsi
                have HOL := Aside0.mk e2
                go_wp2
                have HDD := Aside0.mk (HD.out.low (below_drew1 (Below.refl _ _)))
                have hrl2 : (row.length : Int) ≤ 1024 := by omega
                refine start_ (n := 12) (S := fun w' => w'.cell? ⟨M, 5, none⟩ = some (.slice Ao out.length co) ∧ w'.rangeAt gr (i * 16) (wordsOf si)) (ds := [9, 11]) #[false, false, false, false, false, false, false, false, false, false, false, false] (by kernel_rfl) rfl rfl ⟨(blk_cell (blk_drew HD.out.m) 5).trans rfl, hrg⟩ (fun hHeld => ?_)
                refine with_tabW DT12.tab12 DT12.bits12 (fun HT_ HW_ => ?_)
                generalize wr.drew = wd at HDD hHeld ⊢
                refine pure_ (i := 0) (N := (some 43)) (v := ?_) (a' := ?_) #[true, false, false, false, false, false, false, false, false, false, false, false] rfl rfl (any_of HT_.out (by kernel_rfl)) (fun _ _ _ h => h) (Or.inl ⟨by rfl, ?_⟩) ?_ ?_
                rotate_left
                · intro w'
                  go_simp
                  with_reducible rfl
                rotate_left
                · simp only [Act.put, List.setIfInBounds_toArray, List.set_cons_zero, List.set_cons_succ, i64_w, i32_w]
                  rfl
                refine pure_ (i := 2) (N := (some 45)) (v := ?_) (a' := ?_) #[true, false, true, false, false, false, false, false, false, false, false, false] rfl rfl (any_of HT_.out (by kernel_rfl)) (fun _ _ _ h => h) (Or.inl ⟨by rfl, ?_⟩) ?_ ?_
                rotate_left
                · intro w'
                  go_simp
                  with_reducible rfl
                rotate_left
                · simp only [Act.put, List.setIfInBounds_toArray, List.set_cons_zero, List.set_cons_succ, i64_w, i32_w]
                  rfl
                refine pure_ (i := 3) (N := (some 46)) (v := ?_) (a' := ?_) #[true, false, true, true, false, false, false, false, false, false, false, false] rfl rfl (any_of HT_.out (by kernel_rfl)) (fun _ _ _ h => h) (Or.inl ⟨by rfl, ?_⟩) ?_ ?_
                rotate_left
                · intro w'
                  go_simp
                  with_reducible rfl
                rotate_left
                · simp only [Act.put, List.setIfInBounds_toArray, List.set_cons_zero, List.set_cons_succ, i64_w, i32_w]
                  rfl
                refine pure_ (i := 4) (N := (some 47)) (v := ?_) (a' := ?_) #[true, false, true, true, true, false, false, false, false, false, false, false] rfl rfl (any_of HT_.out (by kernel_rfl)) (fun _ _ _ h => h) (Or.inl ⟨by rfl, ?_⟩) ?_ ?_
                rotate_left
                · intro w'
                  go_simp
                  with_reducible rfl
                rotate_left
                · simp only [Act.put, List.setIfInBounds_toArray, List.set_cons_zero, List.set_cons_succ, i64_w, i32_w]
                  rfl
                refine pure_ (i := 5) (N := (some 48)) (v := ?_) (a' := ?_) #[true, false, true, true, true, true, false, false, false, false, false, false] rfl rfl (any_of HT_.out (by kernel_rfl)) (fun _ _ _ h => h) (Or.inl ⟨by rfl, ?_⟩) ?_ ?_
                rotate_left
                · intro w'
                  go_simp
                  with_reducible rfl
                rotate_left
                · simp only [Act.put, List.setIfInBounds_toArray, List.set_cons_zero, List.set_cons_succ, i64_w, i32_w]
                  rfl
                refine take_ (i := 1) (N := (some 44)) (v := ?_) (a' := ?_) #[true, true, true, true, true, true, false, false, false, false, false, false] rfl rfl (take_ofW HT_.out HW_.out (by kernel_rfl)) (fun _ _ _ h => h) (Or.inl ⟨by rfl, ?_⟩) hHeld ?_ ?_
                rotate_left
                · rintro w' ⟨s0, s1⟩
                  go_simp
                  with_reducible rfl
                rotate_left
                · simp only [Act.put, List.setIfInBounds_toArray, List.set_cons_zero, List.set_cons_succ, i64_w, i32_w]
                  rfl
                refine take_ (i := 6) (N := (some 49)) (v := (.agg (wordsOf si).toArray)) (a' := ?_) #[true, true, true, true, true, true, true, false, false, false, false, false] rfl rfl (take_ofW HT_.out HW_.out (by kernel_rfl)) (fun _ _ _ h => h) (yieldsIf_load_mid (by rfl) 88 _ rfl gr (i * 16) rfl (wordsOf si) _ (fun w' h => h.2) Try.underlying88 rfl (by rw [i88]; simp [wordsOf, HSET.out.1])) hHeld ?_ ?_
                rotate_left
                · simp only [Act.put, List.setIfInBounds_toArray, List.set_cons_zero, List.set_cons_succ, i64_w, i32_w]
                  rfl
                refine one_ (i := 7) (N := (some 50)) #[true, true, true, true, true, true, true, true, false, false, false, false] rfl rfl (one_of HT_.out (by kernel_rfl)) (by decide) (fun K_ hK => ?_)
                have hrgd := hHeld.2
                refine goes_ Try.func60 (by kernel_rfl) rfl #[.pointer (some ⟨rb, 0, none⟩), .agg (wordsOf si).toArray] (by rfl) rfl rfl (by simp [Act.eval]) ?_
                refine (final_walk rb K N A3 c3 F _ _ fr si wd _ (by have h1 := HOK.out.fl; have h2 := HOK.out.n; omega) (HR5.out.below HDD.out.below) (Kd.C_below (Kd.C_below H3.out HB5.out) HDD.out.below) HSET.out).mono ?_
                rintro e w8 ⟨rfl, hb8⟩
                refine ⟨_, rfl, ?_⟩
                have HDE := Aside0.mk (HDD.out.low hb8)
                have hrg8 : w8.rangeAt gr (i * 16) (wordsOf si) := fun j v hv => (hb8.cell (p := ⟨gr, i * 16 + j, none⟩) (World.block_lt_of_cell? wd _ (hrgd j v hv))).trans (hrgd j v hv)
                refine hK.out _ _ ⟨(blk_cell HDE.out.m 5).trans rfl, hrg8⟩ (fun hHeld => ?_); clear hK K_ hrg hb8
                refine norm_ (a' := ?_) ?_ ?_
                rotate_left
                · show Act.put _ (some 50) _ = _
                  simp only [Act.put, List.setIfInBounds_toArray, List.set_cons_zero, List.set_cons_succ, i64_w, i32_w]
                  rfl
                refine one_ (i := 8) (N := (some 51)) #[true, true, true, true, true, true, true, true, true, false, false, false] rfl rfl (one_of HT_.out (by kernel_rfl)) (by decide) (fun K_ hK => ?_)
                refine value_ (w1 := ?_) (v := ?_) (by rfl) rfl ?_ ?_
                rotate_left 2
                · go_simp
                  constructor
                  · rfl
                  · rfl
                refine hK.out _ _ ⟨(blk_cell (blk_alloc HDE.out.m _) 5).trans rfl, fun j v hv => (World.cell?_alloc_lt _ _ _ (World.block_lt_of_cell? _ _ (hrg8 j v hv))).trans (hrg8 j v hv)⟩ (fun hHeld => ?_); clear hK K_
                refine norm_ (a' := ?_) ?_ ?_
                rotate_left
                · show Act.put _ (some 51) _ = _
                  simp only [Act.put, List.setIfInBounds_toArray, List.set_cons_zero, List.set_cons_succ, i64_w, i32_w]
                  rfl
                refine last_ (i := 9) (N := (some 52)) #[true, true, true, true, true, true, true, true, true, true, false, false] rfl rfl (one_of HT_.out (by kernel_rfl)) (by decide) (fun K_ hK => ?_)
                refine Kd.R_append_step (Kd.int .i64) (w0 := W5) W5.heap.size (by rfl) (.tmp 44) (.tmp 51) 22 3 (.int .i64 0) 8 rfl Try.underlying22 info3 rfl (by decide) (by omega) (.slice Ao out.length co) out (fiRow si F 0) [.int .i64 (fiRow si F 0)] (fun _ => True) (fun _ => False) rfl rfl rfl (fun _ hk => hk.elim) (fun _ _ => trivial) HDE.out.out HDE.out.below HDE.out.below.size (by have := HOL.out; omega) ?_
                intro v1 w1 ho hb hg hat
                obtain ⟨A9, c9, rfl⟩ := Kd.R_slice ho
                have hM1 := blk_grown HDE.out.m hg (Kd.R_ne HDE.out.out HDE.out.m (by decide))
                have hfz := blk_frozen hM1 5
                have hcl : w1.cell? ⟨M, 5, none⟩ = some (.slice Ao out.length co) := (blk_cell hM1 5).trans rfl
                refine hK.out _ _ ?_; clear hK K_
                refine norm_ (a' := ?_) ?_ ?_
                rotate_left
                · show Act.put _ (some 52) _ = _
                  simp only [Act.put, List.setIfInBounds_toArray, List.set_cons_zero, List.set_cons_succ, i64_w, i32_w]
                  rfl
                refine pure_ (i := 10) (N := (some 53)) (v := ?_) (a' := ?_) #[true, true, true, true, true, true, true, true, true, true, true, false] rfl rfl (any_of HT_.out (by kernel_rfl)) (fun _ _ _ h => h) (Or.inl ⟨by rfl, ?_⟩) ?_ ?_
                rotate_left
                · intro w'
                  go_simp
                  with_reducible rfl
                rotate_left
                · simp only [Act.put, List.setIfInBounds_toArray, List.set_cons_zero, List.set_cons_succ, i64_w, i32_w]
                  rfl
                refine last_ (i := 11) (N := none) #[true, true, true, true, true, true, true, true, true, true, true, true] rfl rfl (one_of HT_.out (by kernel_rfl)) (by decide) (fun K_ hK => ?_)
                refine skip_ (w1 := ?_) (by rfl) rfl ?_ ?_
                rotate_left
                · go_simp
                  rfl
                refine hK.out _ _ ?_; clear hK K_
                refine done_ (done_of HT_.out (by kernel_rfl)) ?_
                have HD2 := DetAt.outAp HDE.out ho hb hg hat
                simp only [List.length_append, List.length_singleton] at HD2
                clear ho hb hg hat hM1 hfz hcl
                generalize w1.setCell ⟨M, 5, none⟩ (.slice A9 (out.length + 1) c9) = w2 at HD2 ⊢
                generalize Value.slice A9 (out.length + 1) c9 = ov2 at HD2
                generalize hout2 : out ++ [fiRow si F 0] = out2 at HD2 HNX
                have hx0 : w2.cell? ⟨w.heap.size, 0, none⟩ = some (.int .i64 K) := (blk_cell (blk_below HBX5.out HD2.below) 0).trans rfl
                have HD3 := Aside0.mk HD2
                clear HD2 HDE HDD HD hHeld hrgd hrg8 hout2
                go_wp2
                clear hx0
                have hKb : K ≤ 64 := HOK.out.k.2
                have hKa : 1 ≤ K := HOK.out.k.1
                go_loopw [56, 9] (fun v56 v9 wr2 => ∃ (x : Nat) (row1 : List (List Nat)) (nx1 : List Int) (nxv1 : Value), v56 = .int .i64 (x : Int) ∧ Aside0 (x ≤ K.toNat) ∧ Aside0 (detIn k N fr si ((List.range K.toNat).drop x) row1 nx1 = some ires) ∧ Aside0 (DetAt W5 mb M K row1 row1 v9 nx1 nxv1 out2 ov2 wr2) ∧ Aside0 (∀ q ∈ row1, IsSet q) ∧ Aside0 row1.Nodup ∧ Aside0 (row1.length ≤ 1024) ∧ Aside0 (i < row1.length ∧ row1.getD i [] = si)) (fun v56 _ _ => K.toNat - (intOf v56).toNat)
                case atStart => exact ⟨0, row, nx, nxv, rfl, ⟨by omega⟩, HIN, HD3, HSS, HND, HRL, ⟨HI1.out, HSI.out⟩⟩
                case round =>
                  clear HIN HD3 HSS HND HRL HI1 HSI hrl hrl2
                  obtain ⟨x, row1, nx1, nxv1, rfl, HX, HIN, HD, HSS, HND, HRL, HRI⟩ := hrel
                  obtain ⟨gr2, cr2, rfl, hrg2, _⟩ := row_at HD.out.row i HRI.out.1
                  rw [HRI.out.2] at hrg2
                  obtain ⟨An, cn, rfl⟩ := Kd.R_slice HD.out.nx
                  have hrl := HRL.out
                  have hri := HRI.out.1
                  by_cases hlt : x < K.toNat
                  · have H := HIN.out
                    have hd : (List.range K.toNat).drop x = x :: (List.range K.toNat).drop (x + 1) := by
                      rw [List.drop_eq_getElem_cons (by simpa using hlt)]
                      simp
                    rw [hd] at H
                    clear HIN hd
                    simp only [detIn] at H
                    have hlt' : (x : Int) < K := by omega
                    have HLT := Aside0.mk hlt
                    cases hstp : stepF k N fr si (x : Int) with
                    | none => rw [hstp] at H; exact absurd H (by simp)
                    | some t =>
                      rw [hstp] at H
                      simp only [] at H
                      have hst := step_walk k rb K N _ _ _ fr si t (x : Int) wr _ HOK.out.n HFR.out HFL.out (HR5.out.below HD.out.below) HSET.out hstp
                      clear hstp
                      by_cases e3 : nx1.length < 1099511627776
                      · rw [if_pos e3] at H
                        cases hfi : row1.findIdx? (· == t) with
                        | some j =>
                          rw [hfi] at H
                          simp only [] at H
                          have HH2 := Aside0.mk H
                          clear H
                          go_wp2_with (first | ((with_reducible refine gate_dst (N := 63) rfl ?_); refine wpList_load_mid rfl 88 (.tmp 62) rfl gr2 (i * 16) rfl (wordsOf si) _ hrg2 Try.underlying88 rfl ?_ ?_; (focus (rw [i88]; simp [wordsOf, HSET.out.1]))) | (go_at_call 59; refine hst.mono ?_; rintro e w8 ⟨rfl, ht8, hb8⟩; have HT8 := Aside0.mk ht8; have HD9 := Aside0.mk ((HD.out.low hb8).low (below_alloc (Below.refl _ _) (.cells (wordsOf t).toArray 88))); have hlk := look_some HSS.out HND.out HT8.out hfi HD9.out.place; have hm4 : (w8.alloc (.cells (wordsOf t).toArray 88)).cell? ⟨M, 4, none⟩ = some (.slice An nx1.length cn) := (blk_cell HD9.out.m 4).trans rfl; clear ht8 hb8) | ((with_reducible refine gate_store (t := 88) (p := 13) rfl ?_); refine wpList_store_rowTo rfl 88 (.tmp 13) (.tmp 65) rfl rfl w8.heap.size (wordsOf t).toArray rfl rfl 88 _ (blk_new w8 _) ?_ ?_ (set_one t) ?_; (focus (rw [i88, set_len HT8.out])); (focus (rw [set_len HT8.out]; simp)); rw [World.setRow_alloc_new]; have hB9 := blk_new w8 (.cells (wordsOf t).toArray 88); generalize w8.alloc (.cells (wordsOf t).toArray 88) = w9 at HD9 hlk hm4 hB9 ⊢) | ((with_reducible refine gate_dst (N := 68) rfl ?_); refine wpList_load_row rfl 88 (.tmp 13) rfl w8.heap.size rfl 88 (wordsOf t).toArray (0, 0) _ hB9 Try.underlying88 rfl ?_ ?_; (focus (rw [i88, set_len HT8.out]))) | ((with_reducible refine gate_builtin (b := .append) (xs := #[.tmp 88, .tmp 90]) rfl ?_); at_builtin; (refine Kd.R_append (Kd.int .i64) (w0 := W5) W5.heap.size rfl (.tmp 88) (.tmp 90) 22 3 (.int .i64 0) 8 rfl Try.underlying22 info3 rfl (by decide) (by omega) (.slice An nx1.length cn) nx1 (j : Int) [.int .i64 (j : Int)] (fun _ => True) (fun _ => False) rfl rfl ?aP (fun _ hk => hk.elim) ?aF ?aO ?aB ?aS ?aL ?_; (case aP => exact rfl); (case aB => exact HD9.out.below); (case aF => exact (fun _ _ => trivial)); (case aO => exact HD9.out.nx); (case aS => exact HD9.out.below.size); (case aL => omega); intro v12 w12 ho hb hg hat; obtain ⟨A9, c9, rfl⟩ := Kd.R_slice ho; have hM1 := blk_grown HD9.out.m hg (Kd.R_ne HD9.out.nx HD9.out.m (by decide)); have hfz := blk_frozen hM1 4; have hcl : w12.cell? ⟨M, 4, none⟩ = some (.slice An nx1.length cn) := (blk_cell hM1 4).trans rfl; have HD12 := Aside0.mk (DetAt.nextAp HD9.out ho hb hg hat); clear ho hb hg hat hM1)))
                          clear hm4 hlk hcl hfz
                          go_roundw
                          case rel => exact ⟨x + 1, row1, nx1 ++ [(j : Int)], _, by go_num, ⟨by have := HLT.out; omega⟩, HH2, by simpa using HD12, HSS, HND, HRL, HRI⟩
                          case measure => have := HLT.out; simp [intOf]; omega
                        | none =>
                          rw [hfi] at H
                          simp only [] at H
                          by_cases e4 : row1.length = 1024
                          · rw [if_pos e4] at H
                            simp only [Option.some.injEq] at H
                            subst H
                            have hr0 := HNX.out
                            simp only [Option.some.injEq] at hr0
                            subst hr0
                            have hr := HRES.out
                            simp only [Option.some.injEq, Prod.mk.injEq] at hr
                            obtain ⟨rfl, rfl, rfl, rfl, rfl, rfl, rfl⟩ := hr
                            have e4b : (row1.length == 1024) = true := by simpa using e4
                            have e4c : ((row1.length : Int) == 1024) = true := by simp [e4]
                            go_wp2_with (first | ((with_reducible refine gate_dst (N := 63) rfl ?_); refine wpList_load_mid rfl 88 (.tmp 62) rfl gr2 (i * 16) rfl (wordsOf si) _ hrg2 Try.underlying88 rfl ?_ ?_; (focus (rw [i88]; simp [wordsOf, HSET.out.1]))) | (go_at_call 59; refine hst.mono ?_; rintro e w8 ⟨rfl, ht8, hb8⟩; have HT8 := Aside0.mk ht8; have HD9 := Aside0.mk ((HD.out.low hb8).low (below_alloc (Below.refl _ _) (.cells (wordsOf t).toArray 88))); have hlk := look_none HSS.out HT8.out hfi HD9.out.place; have hm4 : (w8.alloc (.cells (wordsOf t).toArray 88)).cell? ⟨M, 4, none⟩ = some (.slice An nx1.length cn) := (blk_cell HD9.out.m 4).trans rfl; clear ht8 hb8) | ((with_reducible refine gate_store (t := 88) (p := 13) rfl ?_); refine wpList_store_rowTo rfl 88 (.tmp 13) (.tmp 65) rfl rfl w8.heap.size (wordsOf t).toArray rfl rfl 88 _ (blk_new w8 _) ?_ ?_ (set_one t) ?_; (focus (rw [i88, set_len HT8.out])); (focus (rw [set_len HT8.out]; simp)); rw [World.setRow_alloc_new]; have hB9 := blk_new w8 (.cells (wordsOf t).toArray 88); generalize w8.alloc (.cells (wordsOf t).toArray 88) = w9 at HD9 hlk hm4 hB9 ⊢) | ((with_reducible refine gate_dst (N := 68) rfl ?_); refine wpList_load_row rfl 88 (.tmp 13) rfl w8.heap.size rfl 88 (wordsOf t).toArray (0, 0) _ hB9 Try.underlying88 rfl ?_ ?_; (focus (rw [i88, set_len HT8.out]))) | ((with_reducible refine gate_store (t := 43) (p := 2) rfl ?_); (refine wpList_store_rowTo rfl 43 (.tmp 2) (.tmp 77) rfl rfl (w.heap.size + 1) zero43 rfl rfl 43 _ (blk_below HZ5.out HD9.out.below) ?_ rfl zero43_one ?_; (focus (rw [i43]; rfl)))))
                            try simp only [Exit.inBlock, Exit.then]
                            refine bodyPost_ret (results_ct rfl _ _ (w.heap.size + 1) 43 zero43 (0, 0) _ rfl (setRow_heap _ (w.heap.size + 1) _ zero43 43 (0, 0) (blk_below HZ5.out HD9.out.below)) Try.underlying43 rfl (by rw [i43]; rfl)) rfl ?_
                            exact ⟨_, _, rfl, Kd.R_nil _ _ _ _ _, Kd.R_nil _ _ _ _ _, below_setRow (below_then HB5.out HB5.out.size HD9.out.below) (by omega) _⟩
                          · rw [if_neg e4] at H
                            have HH2 := Aside0.mk H
                            clear H
                            have e4b : (row1.length == 1024) = false := by simpa using e4
                            have e4c : ((row1.length : Int) == 1024) = false := by
                              have : ¬ ((row1.length : Int) = 1024) := by omega
                              simpa using this
                            go_wp2_with (first | ((with_reducible refine gate_dst (N := 63) rfl ?_); refine wpList_load_mid rfl 88 (.tmp 62) rfl gr2 (i * 16) rfl (wordsOf si) _ hrg2 Try.underlying88 rfl ?_ ?_; (focus (rw [i88]; simp [wordsOf, HSET.out.1]))) | (go_at_call 59; refine hst.mono ?_; rintro e w8 ⟨rfl, ht8, hb8⟩; have HT8 := Aside0.mk ht8; have HD9 := Aside0.mk ((HD.out.low hb8).low (below_alloc (Below.refl _ _) (.cells (wordsOf t).toArray 88))); have hlk := look_none HSS.out HT8.out hfi HD9.out.place; have hm4 : (w8.alloc (.cells (wordsOf t).toArray 88)).cell? ⟨M, 4, none⟩ = some (.slice An nx1.length cn) := (blk_cell HD9.out.m 4).trans rfl; clear ht8 hb8) | ((with_reducible refine gate_store (t := 88) (p := 13) rfl ?_); refine wpList_store_rowTo rfl 88 (.tmp 13) (.tmp 65) rfl rfl w8.heap.size (wordsOf t).toArray rfl rfl 88 _ (blk_new w8 _) ?_ ?_ (set_one t) ?_; (focus (rw [i88, set_len HT8.out])); (focus (rw [set_len HT8.out]; simp)); rw [World.setRow_alloc_new]; have hB9 := blk_new w8 (.cells (wordsOf t).toArray 88); generalize w8.alloc (.cells (wordsOf t).toArray 88) = w9 at HD9 hlk hm4 hB9 ⊢) | ((with_reducible refine gate_dst (N := 68) rfl ?_); refine wpList_load_row rfl 88 (.tmp 13) rfl w8.heap.size rfl 88 (wordsOf t).toArray (0, 0) _ hB9 Try.underlying88 rfl ?_ ?_; (focus (rw [i88, set_len HT8.out]))) | ((with_reducible refine gate_dst (N := 81) rfl ?_); refine wpList_load_row rfl 88 (.tmp 13) rfl w8.heap.size rfl 88 (wordsOf t).toArray (0, 0) _ hB9 Try.underlying88 rfl ?_ ?_; (focus (rw [i88, set_len HT8.out]))) | ((with_reducible refine gate_update rfl ?_); (refine wpList_place_put (row := row1) (t := t) (b := mb) rfl (.tmp 80) (.tmp 81) (.tmp 82) (.inr rfl) rfl rfl rfl rfl HSS.out HT8.out (not_mem_of_none hfi) HD9.out.place ?_; intro w10 hp10 hg10; have HD10 := Aside0.mk (HD9.out.placed hp10 hg10); have HT10 := Aside0.mk (blk_grown hB9 hg10 (fun he => place_blk_ne HD9.out.place hB9 (by injection he with he; exact he.symm))); clear hp10 hg10 hm4 hlk)) | ((with_reducible refine gate_dst (N := 84) rfl ?_); refine wpList_load_row rfl 88 (.tmp 13) rfl w8.heap.size rfl 88 (wordsOf t).toArray (0, 0) _ HT10.out Try.underlying88 rfl ?_ ?_; (focus (rw [i88, set_len HT8.out]))) | ((with_reducible refine gate_dst (N := 85) rfl ?_); (refine Kd.event_run rfl (exec_one_set rfl rfl HT8.out _) ?_)) | ((with_reducible refine gate_builtin (b := .append) (xs := #[.tmp 83, .tmp 85]) rfl ?_); at_builtin; (refine Kd.R_append kset (w0 := W5) W5.heap.size rfl (.tmp 83) (.tmp 85) 93 88 (.agg (Array.replicate 16 (.int .u64 0))) 128 rfl Try.underlying93 info88b rfl (by decide) (by omega) (.slice (some ⟨gr2, 0, none⟩) row1.length cr2) row1 t (wordsOf t) (fun _ => True) (fun _ => False) rfl rfl ?aP (fun _ hk => hk.elim) ?aF ?aO ?aB ?aS ?aL ?_; (case aP => exact ⟨HT8.out, rfl⟩); (case aB => exact HD10.out.below); (case aF => exact (fun _ _ => trivial)); (case aO => exact HD10.out.row); (case aS => exact HD10.out.below.size); (case aL => omega); intro v11 w11 ho hb hg hat; have HD11 := Aside0.mk (HD10.out.rowAp ho hb hg); have hm4 : w11.cell? ⟨M, 4, none⟩ = some (.slice An nx1.length cn) := (blk_cell HD11.out.m 4).trans rfl; clear ho hb hg hat)) | ((with_reducible refine gate_builtin (b := .append) (xs := #[.tmp 88, .tmp 90]) rfl ?_); at_builtin; (refine Kd.R_append (Kd.int .i64) (w0 := W5) W5.heap.size rfl (.tmp 88) (.tmp 90) 22 3 (.int .i64 0) 8 rfl Try.underlying22 info3 rfl (by decide) (by omega) (.slice An nx1.length cn) nx1 (row1.length : Int) [.int .i64 (row1.length : Int)] (fun _ => True) (fun _ => False) rfl rfl ?aP (fun _ hk => hk.elim) ?aF ?aO ?aB ?aS ?aL ?_; (case aP => exact rfl); (case aB => exact HD11.out.below); (case aF => exact (fun _ _ => trivial)); (case aO => exact HD11.out.nx); (case aS => exact HD11.out.below.size); (case aL => omega); intro v12 w12 ho hb hg hat; obtain ⟨A9, c9, rfl⟩ := Kd.R_slice ho; have hM1 := blk_grown HD11.out.m hg (Kd.R_ne HD11.out.nx HD11.out.m (by decide)); have hfz := blk_frozen hM1 4; have hcl : w12.cell? ⟨M, 4, none⟩ = some (.slice An nx1.length cn) := (blk_cell hM1 4).trans rfl; have HD12 := Aside0.mk (DetAt.nextAp HD11.out ho hb hg hat); clear ho hb hg hat hM1)))
                            clear hm4 hcl hfz
                            go_roundw
                            case rel =>
                              refine ⟨x + 1, row1 ++ [t], nx1 ++ [(row1.length : Int)], _, by go_num, ⟨by have := HLT.out; omega⟩, HH2, by simpa using HD12, ⟨?_⟩, ⟨?_⟩, ⟨?_⟩, ⟨?_, ?_⟩⟩
                              · intro q hq
                                rcases List.mem_append.1 hq with hq | hq
                                · exact HSS.out q hq
                                · simp only [List.mem_singleton] at hq; rw [hq]; exact HT8.out
                              · exact List.nodup_append.2 ⟨HND.out, by simp, fun a ha b hb he => by simp only [List.mem_singleton] at hb; exact not_mem_of_none hfi (by rw [← hb, ← he]; exact ha)⟩
                              · have h1 := HRL.out
                                have h2 : ¬ row1.length = 1024 := by intro h; rw [h] at e4b; cases e4b
                                simp only [List.length_append, List.length_singleton]
                                omega
                              · have := HRI.out.1
                                simp only [List.length_append, List.length_singleton]
                                omega
                              · rw [List.getD_eq_getElem?_getD, List.getElem?_append_left HRI.out.1, ← List.getD_eq_getElem?_getD]
                                exact HRI.out.2
                            case measure => have := HLT.out; simp [intOf]; omega
                      · rw [if_neg e3] at H; exact absurd H (by simp)
                  · have H := HIN.out
                    rw [List.drop_of_length_le (by simp; omega)] at H
                    simp only [detIn, Option.some.injEq] at H
                    subst H
                    have hlt' : ¬ ((x : Int) < K) := by omega
                    have hr := HNX.out
                    simp only [] at hr
                    go_wp2
                    go_roundg k1
                    case rel => exact ⟨i + 1, row1, nx1, _, out2, _, by go_num, ⟨hr⟩, ⟨by have := HK1.out; omega⟩, HD, HSS, HND, HRL⟩
                    case measure => have := HK1.out; omega
            · rw [if_neg e2] at H; exact absurd H (by simp)
          · rw [if_neg e1] at H
            have hlt' : ¬ ((i : Int) < (row.length : Int)) := by omega
            simp only [Option.some.injEq] at H
            subst H
            have hr := HRES.out
            simp only [Option.some.injEq, Prod.mk.injEq] at hr
            obtain ⟨rfl, rfl, rfl, rfl, rfl, rfl, rfl⟩ := hr
            obtain ⟨Ar, cr, rfl⟩ := Kd.R_slice HD.out.row
            obtain ⟨An, cn, rfl⟩ := Kd.R_slice HD.out.nx
            obtain ⟨Ao, co, rfl⟩ := Kd.R_slice HD.out.out
            have hfz := blk_frozen HD.out.m 3
            have hcl : wr.cell? ⟨M, 3, none⟩ = some (.int .i64 0) := (blk_cell HD.out.m 3).trans rfl
            have hM2 := blk_put HD.out.m 3 (.int .i64 (row.length : Int)) (cs' := #[.int .i64 1, .int .i64 K, .int .i64 2, .int .i64 (row.length : Int), .slice An nx.length cn, .slice Ao out.length co]) rfl
            have hZr := blk_below HZ5.out HD.out.below
            have hMZ : M ≠ w.heap.size + 1 := by
              have h1 := HD.out.hM
              have h2 := blk_lt HZ5.out
              omega
            have hZ2 := blk_far hZr (p := ⟨M, 3, none⟩) (fun e => hMZ e.symm) (.int .i64 (row.length : Int))
            have hone : (#[.int .i64 1, .int .i64 K, .int .i64 2, .int .i64 (row.length : Int), .slice An nx.length cn, .slice Ao out.length co] : Array Value).all (·.oneCell') = true := by simp [Value.oneCell']
            go_wp2_with (first | ((with_reducible refine gate_dst (N := 97) rfl ?_); (refine wpList_load_row rfl 43 (.tmp 10) rfl M rfl 43 #[.int .i64 1, .int .i64 K, .int .i64 2, .int .i64 (row.length : Int), .slice An nx.length cn, .slice Ao out.length co] (0, 0) _ hM2 Try.underlying43 rfl ?_ ?_; (focus (rw [i43]; rfl)))) | ((with_reducible refine gate_store (t := 43) (p := 2) rfl ?_); (refine wpList_store_rowTo rfl 43 (.tmp 2) (.tmp 97) rfl rfl (w.heap.size + 1) #[.int .i64 1, .int .i64 K, .int .i64 2, .int .i64 (row.length : Int), .slice An nx.length cn, .slice Ao out.length co] rfl rfl 43 _ hZ2 ?_ rfl hone ?_; (focus (rw [i43]; rfl)))))
            have hblk := setRow_heap _ (w.heap.size + 1) _ #[.int .i64 1, .int .i64 K, .int .i64 2, .int .i64 (row.length : Int), .slice An nx.length cn, .slice Ao out.length co] 43 (0, 0) hZ2
            try simp only [Exit.inBlock, Exit.then]
            refine bodyPost_ret (results_ct rfl _ _ (w.heap.size + 1) 43 #[.int .i64 1, .int .i64 K, .int .i64 2, .int .i64 (row.length : Int), .slice An nx.length cn, .slice Ao out.length co] (0, 0) _ rfl hblk Try.underlying43 rfl (by rw [i43]; rfl)) rfl ?_
            have hb5 : w.heap.size ≤ W5.heap.size := HB5.out.size
            have keep : ∀ (v : Value) (xs : List Int), Kd.R (Kd.int .i64) 3 wr W5.heap.size (fun _ => True) v xs → Kd.R (Kd.int .i64) 3 ((wr.setCell ⟨M, 3, none⟩ (.int .i64 (row.length : Int))).setRow (w.heap.size + 1) #[.int .i64 1, .int .i64 K, .int .i64 2, .int .i64 (row.length : Int), .slice An nx.length cn, .slice Ao out.length co]) w.heap.size (fun _ => True) v xs := by
              intro v xs h
              have h1 := Kd.R_far (Kd.R_tight rfl h) (p := ⟨M, 3, none⟩) (fun k hk he => Kd.R_ne h HD.out.m (by decide) (by rw [← hk]; show some M = some k; rw [he])) (.int .i64 (row.length : Int))
              have h2 := Kd.R_grown h1 (grown_setRow _ (w.heap.size + 1) #[.int .i64 1, .int .i64 K, .int .i64 2, .int .i64 (row.length : Int), .slice An nx.length cn, .slice Ao out.length co]) (fun k hk he => Kd.R_ne h hZr (by decide) (by rw [← hk]; exact he.symm))
              exact Kd.R_mono (Kd.R_lower h2 hb5) (fun _ _ => trivial)
            refine ⟨_, _, rfl, Kd.R_reok rfl (keep _ _ HD.out.nx) (fun k hk he => HD.out.apart k hk he.symm), Kd.R_reok rfl (keep _ _ HD.out.out) (fun k hk he => HD.out.apart k he.symm hk), ?_⟩
            exact below_setRow (below_then HB5.out hb5 (below_set HD.out.below HD.out.hM)) (by omega) _
end Go.Proofs.Ytkaefgmgcghhiaa.X
end

section
namespace Go.Proofs.Ytkaefgmgcghhiaa.X
open Go.RowKit Go.Proofs.YtkaefgmgcghhiaaW.PrintWords Go.Proofs.YtkaefgmgcghhiaaW.PrintLast Go.Proofs.YtkaefgmgcghhiaaW.PrintMore
def numsA (xs : List Int) : Array Value := (xs.map (Value.int .i64)).toArray
def cnX (K : Int) (nxl now : List Int) (s : Nat) : List Nat → Int → Option Int
  | [], sum => some sum
  | x :: r, sum => if (0 ≤ wrap64 (wrap64 ((s : Int) * K) + (x : Int)) ∧ wrap64 (wrap64 ((s : Int) * K) + (x : Int)) < (nxl.length : Int)) ∧ (0 ≤ rd nxl (wrap64 (wrap64 ((s : Int) * K) + (x : Int))) ∧ rd nxl (wrap64 (wrap64 ((s : Int) * K) + (x : Int))) < (now.length : Int))
    then cnX K nxl now s r (min (wrap64 (sum + rd now (rd nxl (wrap64 (wrap64 ((s : Int) * K) + (x : Int)))))) 1099511627777) else none
def cnS (K : Int) (nxl now : List Int) : List Nat → List Int → Option (List Int)
  | [], nx => some nx
  | s :: r, nx => match cnX K nxl now s (List.range K.toNat) 0 with
    | none => none
    | some sum => cnS K nxl now r (nx.set s sum)
def cnN (K N : Int) (nxl : List Int) : Nat → List Int → List Int → Option (List Int)
  | 0, now, _ => some now
  | n + 1, now, nx => match cnS K nxl now (List.range N.toNat) nx with
    | none => none
    | some nx1 => cnN K N nxl n nx1 nx1
def cnG (k : Nat) (kd K O N : Int) (nxl out : List Int) (n : Int) : Option (Int × Int) :=
  match nfa_dfa.f k kd K O N nxl out with
  | none => none
  | some e => if e ≠ 0 then some (0, e) else if n < 0 then some (0, 1) else if n > 4096 then some (0, 1) else
    if (1 ≤ N ∧ N ≤ 1024) ∧ (1 ≤ K ∧ K ≤ 64) ∧ (out.length : Int) = N then (match cnN K N nxl n.toNat out (List.replicate N.toNat 0) with
      | none => none
      | some now => if rd now 0 > 1099511627776 then some (0, 11) else some (rd now 0, 0)) else none
theorem nums_cell {w : World} {g : Nat} {xs : List Int} (h : w.heap[g]? = some (.cells (numsA xs) 3 (0, 0))) (j : Nat) (hj : j < xs.length) : w.cell? ⟨g, j, none⟩ = some (.int .i64 (rd xs j)) := by
  rw [blk_cell h]
  simp [numsA, rd, List.getD_eq_getElem?_getD, List.getElem?_eq_getElem hj]
theorem nums_set {w : World} {g : Nat} {xs : List Int} (h : w.heap[g]? = some (.cells (numsA xs) 3 (0, 0))) (j : Nat) (v : Int) : (w.setCell ⟨g, j, none⟩ (.int .i64 v)).heap[g]? = some (.cells (numsA (xs.set j v)) 3 (0, 0)) := by
  refine blk_put h j _ ?_
  simp [numsA, List.map_set]
theorem copy_row {d s : List Int} (h : s.length = d.length) : ((numsA d).toList.take 0 ++ (s.map (Value.int .i64) ++ (numsA d).toList.drop (0 + (s.map (Value.int .i64)).length))).toArray = numsA s := by
  simp [numsA, h]
theorem made_nums (n : Nat) : madeCells #[Value.int .i64 0] n = numsA (List.replicate n 0) := by
  apply Array.ext'
  simp only [madeCells, numsA]
  apply List.ext_getElem
  · simp
  · intro i h1 h2
    simp [Nat.mod_one]
theorem fresh_make {ops : Array Oper} {rest : List Oper} {o : Oper} {a : Act} {Q : Exit → Act → World → Prop} {W : World} (hgd : o.guard = none) {x : Operand} (ho : o.op = .makeSlice 22 x x) {N : Int} (hx : a.eval x = .int .i64 N) (h0 : 0 ≤ N) (h1 : N ≤ 1024)
    (h : ∀ w1, w1.heap[W.heap.size]? = some (.cells (numsA (List.replicate N.toNat 0)) 3 (0, 0)) → Below W.heap.size W w1 → wpList Try.prog ops Q rest (a.put o.dst (.slice (some ⟨W.heap.size, 0, none⟩) N.toNat N.toNat)) w1) : wpList Try.prog ops Q (o :: rest) a W := by
  have hmk := print_make_int 22 3 (.int .i64 0) 8 Try.underlying22 info3 rfl (by decide) N h0 (by omega) W
  refine Kd.event_run hgd (v := .slice (some ⟨W.heap.size, 0, none⟩) N.toNat N.toNat) (w1 := W.alloc (.cells (madeCells #[.int .i64 0] N.toNat) 3)) ?_ (h _ ?_ (below_alloc (Below.refl _ _) _))
  · unfold execOp
    simp [ho, hx, hmk, Result.andThen]
  · rw [← made_nums]
    exact blk_new W _
/-- copy(d, s) of two whole rows of one length. -/
theorem copy_whole {ops : Array Oper} {rest : List Oper} {o : Oper} {a : Act} {Q : Exit → Act → World → Prop} {W : World} (hgd : o.guard = none) (x y : Operand) (ho : o.op = .call { callee := .builtin .copy, args := #[x, y], argTypes := #[22, 22] })
    {g n m cd cs : Nat} {ad : Addr} {d s : List Int} (hx : a.eval x = .slice (some ⟨g, 0, none⟩) n cd) (hy : a.eval y = .slice (some ad) m cs) (hm : m = n) (hd : d.length = n) (hs : s.length = n)
    (hg : W.heap[g]? = some (.cells (numsA d) 3 (0, 0))) (hsrc : ∀ j v, (s.map (Value.int .i64))[j]? = some v → W.cell? (ad.add j) = some v)
    (h : ∀ w1, w1.heap[g]? = some (.cells (numsA s) 3 (0, 0)) → W.grownBy w1 (some g) → wpList Try.prog ops Q rest (a.put o.dst (goInt n)) w1) : wpList Try.prog ops Q (o :: rest) a W := by
  subst hm
  refine wpList_copy_own hgd x y 22 22 ho 3 Try.underlying22 (by kernel_rfl) g 0 m cd ad m cs hx hy (numsA d) 3 hg (s.map (Value.int .i64)) (by simp [hs]) hsrc (by simp [numsA, hs, hd]) (fun v hv => by
    obtain ⟨m, _, rfl⟩ := List.mem_map.1 hv
    rfl) ?_
  have hl : (s.map (Value.int .i64)).length = m := by simp [hs]
  rw [hl]
  refine h _ ?_ (grown_setRow _ _ _)
  have h2 := copy_row (d := d) (s := s) (by omega)
  rw [hl] at h2
  rw [h2]
  exact setRow_heap W g _ _ 3 (0, 0) hg
theorem nums_src {w : World} {g : Nat} {xs : List Int} (h : w.heap[g]? = some (.cells (numsA xs) 3 (0, 0))) : ∀ j v, (xs.map (Value.int .i64))[j]? = some v → w.cell? ((⟨g, 0, none⟩ : Addr).add j) = some v := by
  intro j v hj
  rw [Addr.add_mid, Nat.zero_add, blk_cell h]
  simpa [numsA] using hj
theorem args_src {w : World} {ad : Addr} {xs : List Int} {n : Nat} (h : Kd.C (Kd.int .i64) w (some ad) n xs) (hn : n = xs.length) : ∀ j v, (xs.map (Value.int .i64))[j]? = some v → w.cell? (ad.add j) = some v := by
  intro j v hj
  obtain ⟨x, hx, rfl⟩ := (by simpa using hj : ∃ x, xs[j]? = some x ∧ Value.int .i64 x = v)
  have hl := (List.getElem?_eq_some_iff.1 hx).1
  obtain ⟨ad2, e2, hc⟩ := Kd.at_int h (j : Int) (by omega) (by omega)
  cases e2
  rw [Int.toNat_natCast] at hc
  rw [hc]
  simp [rd, List.getD_eq_getElem?_getD, hx]
end Go.Proofs.Ytkaefgmgcghhiaa.X
end

section
namespace Go.Proofs.Ytkaefgmgcghhiaa.X
open Go.RowKit Go.Proofs.YtkaefgmgcghhiaaW.PrintWords Go.Proofs.YtkaefgmgcghhiaaW.PrintLast Go.Proofs.YtkaefgmgcghhiaaW.PrintMore
theorem min_flip (a c : Int) : (if c < a then c else a) = min a c := by
  split <;> omega
attribute [local go_sem] max2_int min2_int max_two min_two max_three min_three max_four min_four
set_option maxHeartbeats 8000000 in
set_option maxRecDepth 100000 in
theorem Count_walk (k : Nat) (kd K O N : Int) (A4 : Option Addr) (c4 : Nat) (nxl : List Int) (A5 : Option Addr) (c5 : Nat) (out : List Int) (n : Int) (r1 r2 : Int) (w : World)
    (hr4 : Kd.C (Kd.int .i64) w A4 nxl.length nxl) (hc4 : nxl.length ≤ c4) (hr5 : Kd.C (Kd.int .i64) w A5 out.length out) (hc5 : out.length ≤ c5) (h : cnG k kd K O N nxl out n = some (r1, r2)) :
    Calls Try.prog 39 #[.agg #[.int .i64 kd, .int .i64 K, .int .i64 O, .int .i64 N, .slice A4 nxl.length c4, .slice A5 out.length c5], .int .i64 n] w fun e w' => e = .returned (.tuple #[.int .i64 r1, .int .i64 r2]) ∧ Below w.heap.size w w' := by
  have hu43 := Try.underlying43
  have hu22 := Try.underlying22
  unfold cnG at h
  cases hd : nfa_dfa.f k kd K O N nxl out with
  | none => rw [hd] at h; exact absurd h (by simp)
  | some e0 =>
    rw [hd] at h
    simp only [] at h
    have hdf := fun (W : World) (hb : Below w.heap.size w W) => nfa_dfa.calls k kd K O N A4 c4 nxl A5 c5 out e0 W (Kd.C_below hr4 hb) hc4 (Kd.C_below hr5 hb) hc5 hd
    have H4 := Aside0.mk hr4
    have H5 := Aside0.mk hr5
    clear hr4 hr5 hd
    by_cases q1 : e0 ≠ 0
    · rw [if_pos q1] at h
      simp only [Option.some.injEq, Prod.mk.injEq] at h
      obtain ⟨rfl, rfl⟩ := h
      have q1b : (e0 != 0) = true := by simpa using q1
      clear q1
      go_enter Try.func39, Try.ntmps39
      go_wp2_with (go_at_call 68; refine (hdf _ (below_alloc (Below.refl _ _) _)).mono ?_; rintro e w1 ⟨rfl, hb1⟩)
      go_ret2
      exact ⟨rfl, below_step (below_alloc (Below.refl _ _) _) hb1⟩
    · rw [if_neg q1] at h
      have q0 : e0 = 0 := by omega
      subst q0
      clear q1
      by_cases q2 : n < 0
      · rw [if_pos q2] at h
        simp only [Option.some.injEq, Prod.mk.injEq] at h
        obtain ⟨rfl, rfl⟩ := h
        go_enter Try.func39, Try.ntmps39
        go_wp2_with (go_at_call 68; refine (hdf _ (below_alloc (Below.refl _ _) _)).mono ?_; rintro e w1 ⟨rfl, hb1⟩)
        go_ret2
        exact ⟨rfl, below_step (below_alloc (Below.refl _ _) _) hb1⟩
      · rw [if_neg q2] at h
        by_cases q3 : n > 4096
        · rw [if_pos q3] at h
          simp only [Option.some.injEq, Prod.mk.injEq] at h
          obtain ⟨rfl, rfl⟩ := h
          go_enter Try.func39, Try.ntmps39
          go_wp2_with (go_at_call 68; refine (hdf _ (below_alloc (Below.refl _ _) _)).mono ?_; rintro e w1 ⟨rfl, hb1⟩)
          go_ret2
          exact ⟨rfl, below_step (below_alloc (Below.refl _ _) _) hb1⟩
        · rw [if_neg q3] at h
          by_cases q4 : (1 ≤ N ∧ N ≤ 1024) ∧ (1 ≤ K ∧ K ≤ 64) ∧ (out.length : Int) = N
          · rw [if_pos q4] at h
            obtain ⟨⟨hN1, hN2⟩, ⟨hK1, hK2⟩, hol⟩ := q4
            cases hcn : cnN K N nxl n.toNat out (List.replicate N.toNat 0) with
            | none => rw [hcn] at h; exact absurd h (by simp)
            | some now0 =>
              rw [hcn] at h
              simp only [] at h
              have HH := Aside0.mk h
              have HCN := Aside0.mk hcn
              clear h hcn
              have HOL2 : Aside0 (out.length = N.toNat) := ⟨by omega⟩
              obtain ⟨ad5, e5, _⟩ := Kd.at_int H5.out 0 (by omega) (by omega)
              cases e5
              go_enter Try.func39, Try.ntmps39
              go_wp2_with (first | (go_at_call 68; refine (hdf _ (below_alloc (Below.refl _ _) _)).mono ?_; rintro e w1 ⟨rfl, hb1⟩; have HB1 := Aside0.mk (below_step (below_alloc (Below.refl w.heap.size w) (.cells #[.int .i64 kd, .int .i64 K, .int .i64 O, .int .i64 N, .slice A4 nxl.length c4, .slice (some ad5) out.length c5] 43)) hb1); have hbx := blk_below (blk_new w (.cells #[.int .i64 kd, .int .i64 K, .int .i64 O, .int .i64 N, .slice A4 nxl.length c4, .slice (some ad5) out.length c5] 43)) hb1; have HBX := Aside0.mk hbx; have hx3 : w1.cell? ⟨w.heap.size, 3, none⟩ = some (.int .i64 N) := (blk_cell hbx 3).trans rfl; have hx5 : w1.cell? ⟨w.heap.size, 5, none⟩ = some (.slice (some ad5) out.length c5) := (blk_cell hbx 5).trans rfl; clear hb1 hbx) | ((with_reducible refine gate_dst (N := 25) rfl ?_); (refine fresh_make rfl rfl rfl (by omega) hN2 ?_; intro w2 hg2 hb2; have HB2 := Aside0.mk (below_step HB1.out hb2); have HG2 := Aside0.mk hg2; have HBX2 := Aside0.mk (blk_below HBX.out hb2); have hx3 : w2.cell? ⟨w.heap.size, 3, none⟩ = some (.int .i64 N) := (blk_cell HBX2.out 3).trans rfl; have hx5 : w2.cell? ⟨w.heap.size, 5, none⟩ = some (.slice (some ad5) out.length c5) := (blk_cell HBX2.out 5).trans rfl; clear hg2 hb2)) | ((with_reducible refine gate_builtin (b := .copy) (xs := #[.tmp 26, .tmp 28]) rfl ?_); (refine copy_whole rfl (.tmp 26) (.tmp 28) rfl rfl rfl HOL2.out (by simp) HOL2.out HG2.out (args_src (Kd.C_below H5.out HB2.out) (by omega)) ?_; intro w3 hg3 hgr3; have HG3 := Aside0.mk hg3; have HB3 := Aside0.mk (pw_below_grown HB2.out _ HB2.out.size hgr3 (fun k hk => by injection hk with hk; rw [← hk]; exact HB1.out.size)); have HBX3 := Aside0.mk (blk_grown HBX2.out hgr3 (fun he => by injection he with he; have := blk_lt HBX.out; omega)); have hx3 : w3.cell? ⟨w.heap.size, 3, none⟩ = some (.int .i64 N) := (blk_cell HBX3.out 3).trans rfl; clear hg3 hgr3)) | ((with_reducible refine gate_dst (N := 32) rfl ?_); (refine fresh_make rfl rfl rfl (by omega) hN2 ?_; intro w4 hg4 hb4; have HB4 := Aside0.mk (below_step HB3.out hb4); have HG4 := Aside0.mk hg4; have HG34 := Aside0.mk (blk_below HG3.out hb4); have HBX4 := Aside0.mk (blk_below HBX3.out hb4); clear hg4 hb4)))
              clear hx3 hdf
              have HNB := Aside0.mk hol
              clear hol
              have hg1 : w1.heap.size ≠ w3.heap.size := by
                have := blk_lt HG3.out
                omega
              have hb12 : w.heap.size < w1.heap.size := blk_lt HBX.out
              generalize hg2q : w3.heap.size = g2 at HG4 hg1 ⊢
              have hlt2 : w.heap.size < g2 := by have := HB3.out.size; have := blk_lt HBX3.out; omega
              have hle2 : w.heap.size ≤ g2 := by omega
              generalize hg1q : w1.heap.size = g1 at HG34 hg1 hb12 ⊢
              clear hg1q hg2q
              go_loopw [34] (fun v34 wr => ∃ (i : Nat) (now nx : List Int), v34 = .int .i64 (i : Int) ∧ Aside0 (i ≤ n.toNat) ∧ Aside0 (cnN K N nxl (n.toNat - i) now nx = some now0) ∧ Aside0 (wr.heap[g1]? = some (.cells (numsA now) 3 (0, 0))) ∧ Aside0 (wr.heap[g2]? = some (.cells (numsA nx) 3 (0, 0))) ∧ Aside0 (wr.heap[w.heap.size]? = some (.cells #[.int .i64 kd, .int .i64 K, .int .i64 O, .int .i64 N, .slice A4 nxl.length c4, .slice (some ad5) out.length c5] 43 (0, 0))) ∧ Aside0 (Below w.heap.size w wr) ∧ Aside0 (now.length = N.toNat ∧ nx.length = N.toNat)) (fun v34 _ => n.toNat - (intOf v34).toNat)
              case atStart => exact ⟨0, out, List.replicate N.toNat 0, rfl, ⟨by omega⟩, by simpa using HCN, HG34, HG4, HBX4, HB4, ⟨HOL2.out, by simp⟩⟩
              case round =>
                clear HCN HG34 HG4 HBX4 HB4 HB3 HBX3 HG3 HBX2 HG2 HB2 HBX HB1 HOL2 HNB
                obtain ⟨i, now, nx, rfl, HI, HF, HG1, HG2, HBX, HB, HLN⟩ := hrel
                by_cases hlt : i < n.toNat
                · have H := HF.out
                  obtain ⟨m, hm⟩ : ∃ m, n.toNat - i = m + 1 := ⟨n.toNat - i - 1, by omega⟩
                  have hm2 : n.toNat - (i + 1) = m := by omega
                  rw [hm] at H
                  clear HF
                  simp only [cnN] at H
                  cases hcs : cnS K nxl now (List.range N.toNat) nx with
                  | none => rw [hcs] at H; exact absurd H (by simp)
                  | some nx1 =>
                    rw [hcs] at H
                    simp only [] at H
                    have HH2 := Aside0.mk H
                    have HCS := Aside0.mk hcs
                    have HM2 := Aside0.mk hm2
                    have HLT := Aside0.mk hlt
                    have hlt' : (i : Int) < n := by omega
                    have hx3 : wr.cell? ⟨w.heap.size, 3, none⟩ = some (.int .i64 N) := (blk_cell HBX.out 3).trans rfl
                    clear H hcs hm hm2
                    have hmx : max N 0 = N := by omega
                    go_wp2
                    clear hx3
                    go_loopw [38] (fun v38 wr2 => ∃ (q : Nat) (nx2 : List Int), v38 = .int .i64 (q : Int) ∧ Aside0 (q ≤ N.toNat) ∧ Aside0 (cnS K nxl now ((List.range N.toNat).drop q) nx2 = some nx1) ∧ Aside0 (wr2.heap[g1]? = some (.cells (numsA now) 3 (0, 0))) ∧ Aside0 (wr2.heap[g2]? = some (.cells (numsA nx2) 3 (0, 0))) ∧ Aside0 (wr2.heap[w.heap.size]? = some (.cells #[.int .i64 kd, .int .i64 K, .int .i64 O, .int .i64 N, .slice A4 nxl.length c4, .slice (some ad5) out.length c5] 43 (0, 0))) ∧ Aside0 (Below w.heap.size w wr2) ∧ Aside0 (now.length = N.toNat ∧ nx2.length = N.toNat)) (fun v38 _ => N.toNat - (intOf v38).toNat)
                    case atStart => exact ⟨0, nx, rfl, ⟨by omega⟩, HCS, HG1, HG2, HBX, HB, HLN⟩
                    case round =>
                      clear HCS HG1 HG2 HBX HB HLN
                      obtain ⟨q, nx2, rfl, HQI, HCS, HG1, HG2, HBX, HB, HLN⟩ := hrel
                      by_cases hq : q < N.toNat
                      · have H := HCS.out
                        have hd : (List.range N.toNat).drop q = q :: (List.range N.toNat).drop (q + 1) := by
                          rw [List.drop_eq_getElem_cons (by simpa using hq)]
                          simp
                        rw [hd] at H
                        clear HCS hd
                        simp only [cnS] at H
                        cases hcx : cnX K nxl now q (List.range K.toNat) 0 with
                        | none => rw [hcx] at H; exact absurd H (by simp)
                        | some sum =>
                          rw [hcx] at H
                          simp only [] at H
                          have HCS := Aside0.mk H
                          have HCX := Aside0.mk hcx
                          have HQ := Aside0.mk hq
                          have hq' : (q : Int) < N := by omega
                          have hx1 : wr.cell? ⟨w.heap.size, 1, none⟩ = some (.int .i64 K) := (blk_cell HBX.out 1).trans rfl
                          have hx4 : wr.cell? ⟨w.heap.size, 4, none⟩ = some (.slice A4 nxl.length c4) := (blk_cell HBX.out 4).trans rfl
                          clear H hcx
                          go_wp2
                          go_loopw [43, 10] (fun v43 v10 wr2 => ∃ (x : Nat) (sm : Int), v43 = .int .i64 (x : Int) ∧ v10 = .int .i64 sm ∧ Aside0 (x ≤ K.toNat) ∧ Aside0 (cnX K nxl now q ((List.range K.toNat).drop x) sm = some sum) ∧ Aside0 (wr2 = wr)) (fun v43 _ _ => K.toNat - (intOf v43).toNat)
                          case atStart => exact ⟨0, 0, rfl, rfl, ⟨by omega⟩, HCX, ⟨by first | trivial | rfl⟩⟩
                          case round =>
                            clear HCX
                            obtain ⟨x, sm, rfl, rfl, HXI, HCX, HWR⟩ := hrel
                            have hwr := HWR.out
                            subst hwr
                            clear HWR
                            by_cases hxk : x < K.toNat
                            · have H := HCX.out
                              have hd : (List.range K.toNat).drop x = x :: (List.range K.toNat).drop (x + 1) := by
                                rw [List.drop_eq_getElem_cons (by simpa using hxk)]
                                simp
                              rw [hd] at H
                              clear HCX hd
                              simp only [cnX] at H
                              obtain ⟨ji, hji⟩ : ∃ j_ : Int, wrap64 (wrap64 ((q : Int) * K) + (x : Int)) = j_ := ⟨_, rfl⟩
                              rw [hji] at H
                              have hjiw : IntKind.i64.wrap (wrap64 ((q : Int) * K) + (x : Int)) = ji := (i64_w _).trans hji
                              by_cases c1 : (0 ≤ ji ∧ ji < (nxl.length : Int)) ∧ (0 ≤ rd nxl ji ∧ rd nxl ji < (now.length : Int))
                              · rw [if_pos c1] at H
                                obtain ⟨⟨c1a, c1b⟩, c1c, c1d⟩ := c1
                                obtain ⟨ad4, e4, hxa⟩ := Kd.at_int (Kd.C_below H4.out HB.out) ji c1a c1b
                                cases e4
                                generalize rd nxl ji = t at H c1c c1d hxa
                                have ht : (t.toNat : Int) = t := Int.toNat_of_nonneg c1c
                                have hnt := nums_cell HG1.out t.toNat (by omega)
                                rw [ht] at hnt
                                have htN : t < N := by have := HLN.out.1; omega
                                generalize rd now t = y at H hnt
                                have HCX := Aside0.mk H
                                have HXK := Aside0.mk hxk
                                have hxk' : (x : Int) < K := by omega
                                clear H ht c1d
                                go_wp2
                                go_roundw
                                case rel => exact ⟨x + 1, min (wrap64 (sm + y)) 1099511627777, by go_num, by rw [min_flip], ⟨by have := HXK.out; omega⟩, HCX, ⟨trivial⟩⟩
                                case measure => have := HXK.out; simp [intOf]; omega
                              · rw [if_neg c1] at H; exact absurd H (by simp)
                            · have H := HCX.out
                              rw [List.drop_of_length_le (by simp; omega)] at H
                              simp only [cnX, Option.some.injEq] at H
                              subst H
                              have hxk' : ¬ ((x : Int) < K) := by omega
                              have hcl := nums_cell HG2.out q (by have := HLN.out.2; have := HQ.out; omega)
                              have hfz := blk_frozen HG2.out q
                              go_wp2
                              go_roundw
                              case rel => exact ⟨q + 1, nx2.set q sm, by go_num, ⟨by have := HQ.out; omega⟩, HCS, ⟨blk_far HG1.out (by show g1 ≠ g2; exact hg1) _⟩, ⟨nums_set HG2.out q sm⟩, ⟨blk_far HBX.out (by show w.heap.size ≠ g2; omega) _⟩, ⟨below_set HB.out hle2⟩, ⟨HLN.out.1, by rw [List.length_set]; exact HLN.out.2⟩⟩
                              case measure => have := HQ.out; simp [intOf]; omega
                      · have H := HCS.out
                        rw [List.drop_of_length_le (by simp; omega)] at H
                        simp only [cnS, Option.some.injEq] at H
                        subst H
                        have hq' : ¬ ((q : Int) < N) := by omega
                        go_wp2_with ((with_reducible refine gate_builtin (b := .copy) (xs := #[.tmp 68, .tmp 69]) rfl ?_); (refine copy_whole rfl (.tmp 68) (.tmp 69) rfl rfl rfl rfl HLN.out.1 HLN.out.2 HG1.out (nums_src HG2.out) ?_; intro w5 hg5 hgr5; have HG5 := Aside0.mk hg5; have HG25 := Aside0.mk (blk_grown HG2.out hgr5 (fun he => by injection he with he; exact hg1 he.symm)); have HBX5 := Aside0.mk (blk_grown HBX.out hgr5 (fun he => by injection he with he; omega)); have HB5 := Aside0.mk (pw_below_grown HB.out _ HB.out.size hgr5 (fun k hk => by injection hk with hk; omega)); clear hg5 hgr5))
                        have hlt3 := HLT.out
                        refine ⟨⟨_, _, _, _, ⟨i + 1, rfl, ⟨by omega⟩, nx2, nx2, ⟨by rw [HM2.out]; exact HH2.out⟩, HG5, HG25, ⟨HLN.out.2, HLN.out.2⟩⟩, rfl, rfl, rfl, by go_num⟩, ?_⟩
                        simp [intOf]
                        omega
                · have hlt' : ¬ ((i : Int) < n) := by omega
                  have H := HF.out
                  have h0 : n.toNat - i = 0 := by omega
                  rw [h0] at H
                  simp only [cnN, Option.some.injEq] at H
                  subst H
                  have hr := HH.out
                  have hnl := HLN.out.1
                  have hc0 := nums_cell HG1.out 0 (by omega)
                  rw [Int.natCast_zero] at hc0
                  clear hnl h0
                  by_cases q5 : rd now 0 > 1099511627776
                  · rw [if_pos q5] at hr
                    simp only [Option.some.injEq, Prod.mk.injEq] at hr
                    obtain ⟨rfl, rfl⟩ := hr
                    go_wp2
                    go_ret2
                    exact ⟨rfl, HB.out⟩
                  · rw [if_neg q5] at hr
                    simp only [Option.some.injEq, Prod.mk.injEq] at hr
                    obtain ⟨rfl, rfl⟩ := hr
                    go_wp2
                    go_ret2
                    exact ⟨rfl, HB.out⟩
          · rw [if_neg q4] at h; exact absurd h (by simp)
end Go.Proofs.Ytkaefgmgcghhiaa.X
end

section
namespace Go.Proofs.Ytkaefgmgcghhiaa.X
open Go.RowKit Go.Proofs.YtkaefgmgcghhiaaW.PrintWords Go.Proofs.YtkaefgmgcghhiaaW.PrintLast Go.Proofs.YtkaefgmgcghhiaaW.PrintMore
def big : Nat := 200000
def nfa_Accepts.f (a0_0 a0_1 : Int) (l0_2 l0_3 : List Int) (l0_4 : List S80) (l1 : List Int) : Option (Bool × Int) := accF big a0_0 a0_1 l0_2 l0_3 l0_4 l1
theorem nfa_Accepts.calls (a0_0 : Int) (a0_1 : Int) (A0_2 : Option Addr) (c0_2 : Nat) (l0_2 : List Int) (A0_3 : Option Addr) (c0_3 : Nat) (l0_3 : List Int) (A0_4 : Option Addr) (c0_4 : Nat) (l0_4 : List (S80)) (A1 : Option Addr) (c1 : Nat) (l1 : List Int) (r1 : Bool) (r2 : Int) (w : World) (hr0_2 : Kd.C (Kd.int .i64) w A0_2 l0_2.length l0_2) (hc0_2 : l0_2.length ≤ c0_2) (hr0_3 : Kd.C (Kd.int .i64) w A0_3 l0_3.length l0_3) (hc0_3 : l0_3.length ≤ c0_3) (hr0_4 : Kd.C k80 w A0_4 l0_4.length l0_4) (hc0_4 : l0_4.length ≤ c0_4) (hr1 : Kd.C (Kd.int .i64) w A1 l1.length l1) (hc1 : l1.length ≤ c1) (h : nfa_Accepts.f a0_0 a0_1 l0_2 l0_3 l0_4 l1 = some (r1, r2)) :
    Calls Try.prog 20 #[.agg #[.int .i64 a0_0, .int .i64 a0_1, .slice A0_2 l0_2.length c0_2, .slice A0_3 l0_3.length c0_3, .slice A0_4 l0_4.length c0_4], .slice A1 l1.length c1] w fun e w' => e = .returned (.tuple #[.bool r1, .int .i64 r2]) ∧ Below w.heap.size w w' :=
  Accepts_walk big a0_0 a0_1 A0_2 c0_2 l0_2 A0_3 c0_3 l0_3 A0_4 c0_4 l0_4 A1 c1 l1 r1 r2 w hr0_2 hr0_3 hr0_4 hr1 hc0_2 hc0_3 hc0_4 hc1 h
def nfa_Determine.f (a0_0 a0_1 : Int) (l0_2 l0_3 : List Int) (l0_4 : List S80) : Option (Int × Int × Int × Int × List Int × List Int × Int) := detG big a0_0 a0_1 l0_2 l0_3 l0_4
theorem nfa_Determine.calls (a0_0 : Int) (a0_1 : Int) (A0_2 : Option Addr) (c0_2 : Nat) (l0_2 : List Int) (A0_3 : Option Addr) (c0_3 : Nat) (l0_3 : List Int) (A0_4 : Option Addr) (c0_4 : Nat) (l0_4 : List (S80)) (r1 : Int) (r2 : Int) (r3 : Int) (r4 : Int) (r5 : List Int) (r6 : List Int) (r7 : Int) (w : World) (hr0_2 : Kd.C (Kd.int .i64) w A0_2 l0_2.length l0_2) (hc0_2 : l0_2.length ≤ c0_2) (hr0_3 : Kd.C (Kd.int .i64) w A0_3 l0_3.length l0_3) (hc0_3 : l0_3.length ≤ c0_3) (hr0_4 : Kd.C k80 w A0_4 l0_4.length l0_4) (hc0_4 : l0_4.length ≤ c0_4) (h : nfa_Determine.f a0_0 a0_1 l0_2 l0_3 l0_4 = some (r1, r2, r3, r4, r5, r6, r7)) :
    Calls Try.prog 22 #[.agg #[.int .i64 a0_0, .int .i64 a0_1, .slice A0_2 l0_2.length c0_2, .slice A0_3 l0_3.length c0_3, .slice A0_4 l0_4.length c0_4]] w fun e w' => ∃ v4_ v5_ : Value, e = .returned (.tuple #[.agg #[.int .i64 r1, .int .i64 r2, .int .i64 r3, .int .i64 r4, v4_, v5_], .int .i64 r7]) ∧ Kd.R (Kd.int .i64) 3 w' w.heap.size (fun k_ => some k_ ≠ (v5_ : Value).ownBlock) v4_ r5 ∧ Kd.R (Kd.int .i64) 3 w' w.heap.size (fun k_ => some k_ ≠ (v4_ : Value).ownBlock) v5_ r6 ∧ Below w.heap.size w w' :=
  Determine_walk big a0_0 a0_1 A0_2 c0_2 l0_2 A0_3 c0_3 l0_3 A0_4 c0_4 l0_4 r1 r2 r3 r4 r5 r6 r7 w hr0_2 hr0_3 hr0_4 h
def nfa_Count.f (a0_0 a0_1 a0_2 a0_3 : Int) (l0_4 l0_5 : List Int) (a1 : Int) : Option (Int × Int) := cnG big a0_0 a0_1 a0_2 a0_3 l0_4 l0_5 a1
theorem nfa_Count.calls (a0_0 : Int) (a0_1 : Int) (a0_2 : Int) (a0_3 : Int) (A0_4 : Option Addr) (c0_4 : Nat) (l0_4 : List Int) (A0_5 : Option Addr) (c0_5 : Nat) (l0_5 : List Int) (a1 : Int) (r1 : Int) (r2 : Int) (w : World) (hr0_4 : Kd.C (Kd.int .i64) w A0_4 l0_4.length l0_4) (hc0_4 : l0_4.length ≤ c0_4) (hr0_5 : Kd.C (Kd.int .i64) w A0_5 l0_5.length l0_5) (hc0_5 : l0_5.length ≤ c0_5) (h : nfa_Count.f a0_0 a0_1 a0_2 a0_3 l0_4 l0_5 a1 = some (r1, r2)) :
    Calls Try.prog 39 #[.agg #[.int .i64 a0_0, .int .i64 a0_1, .int .i64 a0_2, .int .i64 a0_3, .slice A0_4 l0_4.length c0_4, .slice A0_5 l0_5.length c0_5], .int .i64 a1] w fun e w' => e = .returned (.tuple #[.int .i64 r1, .int .i64 r2]) ∧ Below w.heap.size w w' :=
  Count_walk big a0_0 a0_1 a0_2 a0_3 A0_4 c0_4 l0_4 A0_5 c0_5 l0_5 a1 r1 r2 w hr0_4 hc0_4 hr0_5 hc0_5 h
end Go.Proofs.Ytkaefgmgcghhiaa.X
end

section
namespace Go.Proofs.Ytkaefgmgcghhiaa.X
set_option maxRecDepth 100000
theorem liveA : nfa_Accepts.f 2 2 [0] [0, 1] [⟨0, 0, 0⟩, ⟨0, 1, 0⟩, ⟨0, 1, 1⟩] [0, 1] = some (true, 0) := by decide +kernel
theorem liveD : nfa_Determine.f 2 2 [0] [0, 1] [⟨0, 0, 0⟩, ⟨0, 1, 0⟩, ⟨0, 1, 1⟩] = some (1, 2, 2, 2, [0, 1, 0, 1], [0, 1], 0) := by kernel_rfl
theorem liveC : nfa_Count.f 1 2 2 2 [0, 1, 0, 1] [0, 1] 3 = some (4, 0) := by decide +kernel
end Go.Proofs.Ytkaefgmgcghhiaa.X
end

section
namespace Go.Proofs.Ytkaefgmgcghhiaa.X
open Go.RowKit Go.Proofs.YtkaefgmgcghhiaaW.PrintWords Go.Proofs.YtkaefgmgcghhiaaW.PrintLast Go.Proofs.YtkaefgmgcghhiaaW.PrintMore
theorem w64 {i : Int} (h0 : -9223372036854775808 ≤ i) (h : i ≤ 9223372036854775807) : wrap64 i = i := by unfold wrap64; omega
end Go.Proofs.Ytkaefgmgcghhiaa.X
end

section
namespace Go.Proofs.Ytkaefgmgcghhiaa.X
open Go.RowKit Go.Proofs.YtkaefgmgcghhiaaW.PrintWords Go.Proofs.YtkaefgmgcghhiaaW.PrintLast Go.Proofs.YtkaefgmgcghhiaaW.PrintMore
/-- Which words are right, and where the first fault is. -/
def wordAt (K : Int) : List Int → Int → Int × Int
  | [], _ => (0, 0)
  | x :: r, i => if x < 0 then (i, 10) else if x ≥ K then (i, 10) else wordAt K r (i + 1)
theorem prog_l0 (K : Int) (u : List Int) (hb : u.length ≤ 100000) : ∀ (d k i : Nat), i + d = u.length → d < k → word_Check.l0 k u K (u.length : Int) (i : Int) = some (wordAt K (u.drop i) i) := by
  intro d
  induction d with
  | zero =>
    intro k i h hk
    obtain ⟨k, rfl⟩ : ∃ m, k = m + 1 := ⟨k - 1, by omega⟩
    rw [word_Check.l0, if_neg (by omega), List.drop_of_length_le (by omega)]
    rfl
  | succ d ih =>
    intro k i h hk
    obtain ⟨k, rfl⟩ : ∃ m, k = m + 1 := ⟨k - 1, by omega⟩
    have hi : i < u.length := by omega
    rw [word_Check.l0, if_pos (by omega), if_pos (by omega), if_pos (by omega), rdq hi, List.drop_eq_getElem_cons hi, w64q (by omega), ih k (i + 1) (by omega) (by omega), wordAt]
    split
    · rfl
    · split <;> rfl
theorem word_ref_l0 (K : Int) (u : List Int) (hb : u.length ≤ 100000) : ∀ (d k i : Nat), i + d = u.length → d < k → tutorref01_Check.l0 k u K (i : Int) = some (wordAt K (u.drop i) i) := by
  intro d
  induction d with
  | zero =>
    intro k i h hk
    obtain ⟨k, rfl⟩ : ∃ m, k = m + 1 := ⟨k - 1, by omega⟩
    rw [tutorref01_Check.l0, if_neg (by omega), List.drop_of_length_le (by omega)]
    rfl
  | succ d ih =>
    intro k i h hk
    obtain ⟨k, rfl⟩ : ∃ m, k = m + 1 := ⟨k - 1, by omega⟩
    have hi : i < u.length := by omega
    rw [tutorref01_Check.l0, if_pos (by omega), if_pos (by omega), rdq hi, List.drop_eq_getElem_cons hi, w64q (by omega), ih k (i + 1) (by omega) (by omega), wordAt]
    split
    · rfl
    · split <;> rfl
def wordCk (K : Int) (u : List Int) : Int × Int := if K < 1 ∨ K > 64 then (0, 1) else if (u.length : Int) > 4096 then (0, 2) else wordAt K u 0
theorem word_prog {K : Int} {u : List Int} {k : Nat} (hk : 5000 ≤ k) : word_Check.f k u K = some (wordCk K u) := by
  unfold word_Check.f word_alphabet.f wordCk
  by_cases h1 : K ≥ 1
  · rw [if_pos h1]
    by_cases h2 : K ≤ 64
    · rw [decide_eq_true h2, Option.bind_some, if_pos rfl, if_neg (show ¬ (K < 1 ∨ K > 64) by omega)]
      by_cases h3 : (u.length : Int) > 4096
      · rw [if_pos h3, if_pos h3]
      · rw [if_neg h3, if_neg h3]
        have := prog_l0 K u (by omega) u.length k 0 (by omega) (by omega)
        simpa using this
    · rw [decide_eq_false h2, Option.bind_some, if_neg (by simp), if_pos (by omega)]
  · rw [if_neg h1, Option.bind_some, if_neg (by simp), if_pos (by omega)]
theorem word_ref {K : Int} {u : List Int} {k : Nat} (hk : 5000 ≤ k) : tutorref01_Check.f k u K = some (wordCk K u) := by
  unfold tutorref01_Check.f wordCk
  obtain ⟨k, rfl⟩ : ∃ m, k = m + 1 := ⟨k - 1, by omega⟩
  by_cases h1 : K < 1
  · rw [if_pos h1, tutorref01_Check.j0, if_pos rfl, if_pos (by omega)]
  · rw [if_neg h1, tutorref01_Check.j0]
    by_cases h2 : K > 64
    · rw [decide_eq_true h2, if_pos rfl, if_pos (by omega)]
    · rw [decide_eq_false h2, if_neg (by simp), if_neg (show ¬ (K < 1 ∨ K > 64) by omega)]
      by_cases h3 : (u.length : Int) > 4096
      · rw [if_pos h3, if_pos h3]
      · rw [if_neg h3, if_neg h3]
        have := word_ref_l0 K u (by omega) u.length k 0 (by omega) (by omega)
        simpa using this
theorem wordCk_short {K : Int} {u : List Int} (h : (wordCk K u).2 = 0) : u.length ≤ 4096 := by
  unfold wordCk at h
  split at h
  · simp at h
  · split at h
    · simp at h
    · omega
end Go.Proofs.Ytkaefgmgcghhiaa.X
end

section
namespace Go.Proofs.Ytkaefgmgcghhiaa.X
open Go.RowKit Go.Proofs.YtkaefgmgcghhiaaW.PrintWords Go.Proofs.YtkaefgmgcghhiaaW.PrintLast Go.Proofs.YtkaefgmgcghhiaaW.PrintMore
/-- Rows of sets, and where their symbols lead, so far. -/
structure Det (k : Nat) (K N : Int) (F : List Int) (fr : List (List S80)) (s0 : List Nat) (i : Nat) (row : List (List Nat)) (nx out : List Int) : Prop where
  first : row[0]? = some s0
  sets : ∀ s ∈ row, ∃ P, SetIs N s P
  nodup : row.Nodup
  len : i ≤ row.length ∧ row.length ≤ 1024
  nxl : nx.length = i * K.toNat
  outl : out.length = i
  next : ∀ a x, a < i → x < K.toNat → ∃ s t n, row[a]? = some s ∧ stepF k N fr s (x : Int) = some t ∧ nx[a * K.toNat + x]? = some ((n : Nat) : Int) ∧ row[n]? = some t
  says : ∀ a, a < i → ∃ s, row[a]? = some s ∧ out[a]? = some (fiRow s F 0)
end Go.Proofs.Ytkaefgmgcghhiaa.X
end

section
namespace Go.Proofs.Ytkaefgmgcghhiaa.X
open Go.RowKit Go.Proofs.YtkaefgmgcghhiaaW.PrintWords Go.Proofs.YtkaefgmgcghhiaaW.PrintLast Go.Proofs.YtkaefgmgcghhiaaW.PrintMore
/-- A right acceptor. -/
structure RightD (K N : Int) (nx out : List Int) : Prop where
  k : 1 ≤ K ∧ K ≤ 64
  n : 1 ≤ N ∧ N ≤ 1024
  nxl : nx.length = N.toNat * K.toNat
  outl : out.length = N.toNat
  nxr : ∀ x ∈ nx, 0 ≤ x ∧ x < N
  outr : ∀ x ∈ out, 0 ≤ x ∧ x < 2
theorem ck_l1 (kd K O N : Int) (nx out : List Int) (hb : out.length ≤ 100000) (ho : ∀ x ∈ out, 0 ≤ x ∧ x < O) : ∀ (d k i : Nat), i + d = out.length → d < k → tutorref03_Check.l1 k (i : Int) kd K O N nx out = some (0, 0) := by
  intro d
  induction d with
  | zero =>
    intro k i h hk
    obtain ⟨k, rfl⟩ : ∃ m, k = m + 1 := ⟨k - 1, by omega⟩
    rw [tutorref03_Check.l1, if_neg (by omega)]
  | succ d ih =>
    intro k i h hk
    obtain ⟨k, rfl⟩ : ∃ m, k = m + 1 := ⟨k - 1, by omega⟩
    have hi : i < out.length := by omega
    have := ho out[i] (List.getElem_mem hi)
    rw [tutorref03_Check.l1, if_pos (by omega), if_pos (by omega), rdq hi, if_neg (by omega), if_neg (by omega), w64q (by omega)]
    exact ih k (i + 1) (by omega) (by omega)
theorem ck_l0 (kd K O N : Int) (nx out : List Int) (hb : out.length ≤ 100000) (hb2 : nx.length ≤ 100000) (hn : ∀ x ∈ nx, 0 ≤ x ∧ x < N) (ho : ∀ x ∈ out, 0 ≤ x ∧ x < O) : ∀ (d k i : Nat), i + d = nx.length → d + out.length + 1 < k → tutorref03_Check.l0 k (i : Int) kd K O N nx out = some (0, 0) := by
  intro d
  induction d with
  | zero =>
    intro k i h hk
    obtain ⟨k, rfl⟩ : ∃ m, k = m + 1 := ⟨k - 1, by omega⟩
    rw [tutorref03_Check.l0, if_neg (by omega)]
    exact ck_l1 kd K O N nx out hb ho out.length k 0 (by omega) (by omega)
  | succ d ih =>
    intro k i h hk
    obtain ⟨k, rfl⟩ : ∃ m, k = m + 1 := ⟨k - 1, by omega⟩
    have hi : i < nx.length := by omega
    have := hn nx[i] (List.getElem_mem hi)
    rw [tutorref03_Check.l0, if_pos (by omega), if_pos (by omega), rdq hi, if_neg (by omega), if_neg (by omega), w64q (by omega)]
    exact ih k (i + 1) (by omega) (by omega)
theorem toNat_mul {a b : Int} (ha : 0 ≤ a) (hb : 0 ≤ b) : ((a.toNat * b.toNat : Nat) : Int) = a * b := by
  rw [Int.natCast_mul, Int.toNat_of_nonneg ha, Int.toNat_of_nonneg hb]
theorem RightD.size {K N : Int} {nx out : List Int} (R : RightD K N nx out) : nx.length ≤ 65536 := by
  have h1 := R.k
  have h2 := R.n
  rw [R.nxl]
  exact Nat.mul_le_mul (show N.toNat ≤ 1024 by omega) (show K.toNat ≤ 64 by omega)
theorem RightD.nk {K N : Int} {nx out : List Int} (R : RightD K N nx out) : ((nx.length : Nat) : Int) = N * K := by
  have h1 := R.k
  have h2 := R.n
  rw [R.nxl, toNat_mul (by omega) (by omega)]
theorem ck_ok {K N : Int} {nx out : List Int} (R : RightD K N nx out) {k : Nat} (hk : 200000 ≤ k) : tutorref03_Check.f k 1 K 2 N nx out = some (0, 0) := by
  have h1 := R.k
  have h2 := R.n
  have h3 := R.size
  have h4 := R.nk
  have h5 := R.outl
  obtain ⟨k, rfl⟩ : ∃ m, k = m + 6 := ⟨k - 6, by omega⟩
  unfold tutorref03_Check.f
  rw [if_pos rfl, tutorref03_Check.j0, if_neg (by simp), if_neg (by omega), tutorref03_Check.j1, decide_eq_false (by omega), if_neg (by simp), if_pos rfl, if_pos rfl, if_neg (by omega), decide_eq_false (by omega), tutorref03_Check.j2, if_neg (by simp),
    if_neg (by omega), decide_eq_false (by omega), tutorref03_Check.j3, if_neg (by simp), if_neg (by omega), tutorref03_Check.j4, ← h4, w64 (by omega) (by omega), if_pos rfl]
  have : ((out.length : Int) != N) = false := by simp; omega
  rw [this, tutorref03_Check.j5, if_neg (by simp)]
  exact ck_l0 1 K 2 N nx out (by omega) (by omega) R.nxr R.outr nx.length k 0 (by omega) (by omega)
/-- Where a word leads. -/
def goTo (K : Int) (nx : List Int) : Nat → List Int → Nat
  | a, [] => a
  | a, x :: u => goTo K nx (rd nx (((a * K.toNat + x.toNat : Nat) : Int))).toNat u
theorem idx_lt {K N : Int} {nx out : List Int} (R : RightD K N nx out) {a : Nat} {x : Int} (ha : a < N.toNat) (h0 : 0 ≤ x) (h1 : x < K) : a * K.toNat + x.toNat < nx.length := by
  rw [R.nxl]
  have : (a + 1) * K.toNat ≤ N.toNat * K.toNat := Nat.mul_le_mul_right _ ha
  rw [Nat.succ_mul] at this
  omega
theorem idx_eq {K N : Int} {nx out : List Int} (R : RightD K N nx out) {a : Nat} {x : Int} (ha : a < N.toNat) (h0 : 0 ≤ x) (h1 : x < K) : wrap64 (wrap64 ((a : Int) * K) + x) = ((a * K.toNat + x.toNat : Nat) : Int) := by
  have h2 := idx_lt R ha h0 h1
  have h3 := R.size
  have h4 := R.k
  have h5 : ((a * K.toNat : Nat) : Int) = (a : Int) * K := by rw [Int.natCast_mul, Int.toNat_of_nonneg (by omega)]
  have h6 : wrap64 ((a : Int) * K) = ((a * K.toNat : Nat) : Int) := by rw [← h5]; exact w64 (by omega) (by omega)
  rw [h6, w64 (by omega) (by omega)]
  omega
theorem go_l0 {K N : Int} {nx out : List Int} (R : RightD K N nx out) (w : List Int) (hw : w.length ≤ 100000) (hx : ∀ x ∈ w, 0 ≤ x ∧ x < K) : ∀ (d k i a : Nat), i + d = w.length → d < k → a < N.toNat →
    tutorref03_Go.l0 k (a : Int) w [] (i : Int) 1 K 2 N nx out = some (((goTo K nx a (w.drop i) : Nat) : Int), [rd out ((goTo K nx a (w.drop i) : Nat) : Int)]) := by
  intro d
  induction d with
  | zero =>
    intro k i a h hk ha
    obtain ⟨k, rfl⟩ : ∃ m, k = m + 1 := ⟨k - 1, by omega⟩
    have h5 := R.outl
    rw [tutorref03_Go.l0, if_neg (by omega), if_pos rfl, if_pos (by omega), if_pos (by omega), List.drop_of_length_le (by omega)]
    rfl
  | succ d ih =>
    intro k i a h hk ha
    obtain ⟨k, rfl⟩ : ∃ m, k = m + 1 := ⟨k - 1, by omega⟩
    have hi : i < w.length := by omega
    have hxi := hx w[i] (List.getElem_mem hi)
    have hl := idx_lt R ha hxi.1 hxi.2
    have hn := R.nxr _ (List.getElem_mem hl)
    rw [tutorref03_Go.l0, if_pos (by omega), if_neg (by omega), if_pos (by omega), rdq hi, idx_eq R ha hxi.1 hxi.2, if_pos (by omega), if_pos (by omega), rdq hl, w64q (by omega), List.drop_eq_getElem_cons hi]
    have hq := ih k (i + 1) (nx[a * K.toNat + w[i].toNat]).toNat (by omega) (by omega) (by omega)
    rw [Int.toNat_of_nonneg hn.1] at hq
    rw [hq, goTo, rdq hl]
theorem wordAt_ok {K : Int} : ∀ (u : List Int) (i : Int), (wordAt K u i).2 = 0 → ∀ x ∈ u, 0 ≤ x ∧ x < K
  | [], _, _, x, hx => by cases hx
  | y :: u, i, h, x, hx => by
    rw [wordAt] at h
    by_cases h1 : y < 0
    · rw [if_pos h1] at h; simp at h
    · rw [if_neg h1] at h
      by_cases h2 : y ≥ K
      · rw [if_pos h2] at h; simp at h
      · rw [if_neg h2] at h
        rcases List.mem_cons.1 hx with rfl | hx
        · omega
        · exact wordAt_ok u _ h x hx
theorem wordCk_ok {K : Int} {u : List Int} (h : (wordCk K u).2 = 0) : (1 ≤ K ∧ K ≤ 64) ∧ u.length ≤ 4096 ∧ ∀ x ∈ u, 0 ≤ x ∧ x < K := by
  have hs := wordCk_short h
  unfold wordCk at h
  split at h
  · simp at h
  · split at h
    · simp at h
    · exact ⟨by omega, hs, wordAt_ok u 0 h⟩
theorem run_ok {K N : Int} {nx out : List Int} (R : RightD K N nx out) {w : List Int} (hw : (wordCk K w).2 = 0) {k : Nat} (hk : 200000 ≤ k) : tutorref03_Run.f k 1 K 2 N nx out w = some ([rd out ((goTo K nx 0 w : Nat) : Int)], 0) := by
  obtain ⟨_, hl, hx⟩ := wordCk_ok hw
  have h2 := R.n
  unfold tutorref03_Run.f tutorref03_From.f
  obtain ⟨k, rfl⟩ : ∃ m, k = m + 1 := ⟨k - 1, by omega⟩
  rw [ck_ok R hk, Option.bind_some, if_pos rfl, if_neg (by omega), decide_eq_false (by omega), tutorref03_From.j0, if_neg (by simp), word_ref (by omega), Option.bind_some, if_pos hw]
  unfold tutorref03_Go.f
  have := go_l0 R w (by omega) hx w.length k 0 0 (by omega) (by omega) (by omega)
  rw [List.drop_zero] at this
  rw [show ((0 : Int)) = ((0 : Nat) : Int) from rfl, this]
  rfl
end Go.Proofs.Ytkaefgmgcghhiaa.X
end

section
namespace Go.Proofs.Ytkaefgmgcghhiaa.X
open Go.RowKit Go.Proofs.YtkaefgmgcghhiaaW.PrintWords Go.Proofs.YtkaefgmgcghhiaaW.PrintLast Go.Proofs.YtkaefgmgcghhiaaW.PrintMore
open Go.Proofs.Ytkaefgmgcghhiaa
def pairC (p : Int × Int) : List Value := [.int .i64 p.1, .int .i64 p.2]
def penc (p : Int × Int) : Value := .agg #[.int .i64 p.1, .int .i64 p.2]
def kpair : Kd (Int × Int) where
  sz := 2
  E := []
  K := fun _ s cs => cs = pairC s
  M := fun _ _ _ s cs => cs = pairC s
  K_len := fun h => by rw [h]; rfl
  K_one := fun h v hv => by
    rw [h] at hv
    simp only [pairC, List.mem_cons, List.not_mem_nil, or_false] at hv
    rcases hv with rfl | rfl <;> rfl
  K_below := fun _ h => h
  K_of_M := fun h => h
  M_mono := fun _ h => h
  M_bound := fun h => h
  M_move := fun _ h => h
  M_lower := fun _ h => h
theorem _root_.Go.Proofs.Ytkaefgmgcghhiaa.Vm.MapAt.far {α β : Type} {enc : α → Value} {venc : β → Value} {w : World} {b : Nat} {es : List (α × β)} (hp : Vm.MapAt w b enc venc es) {p : Addr} (hne : b ≠ p.block) (u : Value) : Vm.MapAt (w.setCell p u) b enc venc es := hp.block (Below.heap_setCell w p u b hne)
structure MeetAt (w0 : World) (mb M : Nat) (K : Int) (pr : List ((Int × Int) × Int)) (row : List (Int × Int)) (rv : Value) (nx : List Int) (nxv : Value) (out : List Int) (outv : Value) (w : World) : Prop where
  place : Vm.MapAt w mb penc (Value.int .i64) pr
  row : Kd.R kpair 107 w w0.heap.size (fun _ => True) rv row
  m : w.heap[M]? = some (.cells #[.int .i64 1, .int .i64 K, .int .i64 2, .int .i64 0, nxv, outv] 43 (0, 0))
  nx : Kd.R (Kd.int .i64) 3 w w0.heap.size (fun _ => True) nxv nx
  out : Kd.R (Kd.int .i64) 3 w w0.heap.size (fun _ => True) outv out
  apart : ∀ k, nxv.ownBlock = some k → outv.ownBlock ≠ some k
  below : Below w0.heap.size w0 w
  hmb : w0.heap.size ≤ mb
  hM : w0.heap.size ≤ M
end Go.Proofs.Ytkaefgmgcghhiaa.X
end

section
namespace Go.Proofs.Ytkaefgmgcghhiaa.X
open Go.RowKit Go.Proofs.YtkaefgmgcghhiaaW.PrintWords Go.Proofs.YtkaefgmgcghhiaaW.PrintLast Go.Proofs.YtkaefgmgcghhiaaW.PrintMore
open Go.Proofs.Ytkaefgmgcghhiaa
def mtI (K s : Int) (x : Nat) : Int := wrap64 (wrap64 (s * K) + (x : Int))
def mtO (aO bO : List Int) (op : Int) (p : Int × Int) : Int := Go.bits .and .i64 (shr .i64 op (wrap64 (wrap64 (2 * rd aO p.1) + rd bO p.2))) 1
/-- The four blocks ahead of the looking. -/
structure MtAt (w : World) (A B : Array Value) (W : World) : Prop where
  below : Below w.heap.size w W
  a : W.heap[w.heap.size]? = some (.cells A 43 (0, 0))
  b : W.heap[w.heap.size + 1]? = some (.cells B 43 (0, 0))
  z : W.heap[w.heap.size + 1 + 1]? = some (.cells zero43 43 (0, 0))
  ab : W.heap[w.heap.size + 1 + 1 + 1]? = some (.cells (A ++ B) 43 (0, 0))
theorem MtAt.on {w W W1 : World} {A B : Array Value} (h : MtAt w A B W) (hb : Below W.heap.size W W1) : MtAt w A B W1 := ⟨below_step h.below hb, blk_below h.a hb, blk_below h.b hb, blk_below h.z hb, blk_below h.ab hb⟩
end Go.Proofs.Ytkaefgmgcghhiaa.X
end

section
namespace Go.Proofs.Ytkaefgmgcghhiaa.X
open Go.RowKit Go.Proofs.YtkaefgmgcghhiaaW.PrintWords Go.Proofs.YtkaefgmgcghhiaaW.PrintLast Go.Proofs.YtkaefgmgcghhiaaW.PrintMore
theorem right_of_mcheck {K N : Int} {nx out : List Int} (h : (mcheck 1 K 2 N nx out).2 = 0) : RightD K N nx out := by
  obtain ⟨h1, h2, h3⟩ := mcheck_ok h
  obtain ⟨_, hK, _, hN, _, h4, h5⟩ := head_bounds h1
  rw [if_pos rfl] at h5
  refine ⟨hK, hN, ?_, by omega, h2, h3⟩
  have := toNat_mul (a := N) (b := K) (by omega) (by omega)
  omega
theorem mtI_eq {K N : Int} {nx out : List Int} (R : RightD K N nx out) {s : Int} (h0 : 0 ≤ s) (h1 : s < N) {x : Nat} (hx : x < K.toNat) : mtI K s x = ((s.toNat * K.toNat + x : Nat) : Int) ∧ s.toNat * K.toNat + x < nx.length := by
  have hn := R.n
  have h2 := idx_eq R (a := s.toNat) (x := (x : Int)) (by omega) (by omega) (by omega)
  have h3 := idx_lt R (a := s.toNat) (x := (x : Int)) (by omega) (by omega) (by omega)
  rw [Int.toNat_natCast] at h2 h3
  rw [Int.toNat_of_nonneg h0] at h2
  exact ⟨h2, h3⟩
def stepP (K : Int) (aN bN : List Int) (p : Int × Int) (x : Nat) : Int × Int := (rd aN ((p.1.toNat * K.toNat + x : Nat) : Int), rd bN ((p.2.toNat * K.toNat + x : Nat) : Int))
structure PairOk (NA NB : Int) (p : Int × Int) : Prop where
  a0 : 0 ≤ p.1
  a1 : p.1 < NA
  b0 : 0 ≤ p.2
  b1 : p.2 < NB
structure Two (K NA NB : Int) (aN aO bN bO : List Int) : Prop where
  a : RightD K NA aN aO
  b : RightD K NB bN bO
theorem Two.step {K NA NB : Int} {aN aO bN bO : List Int} (R : Two K NA NB aN aO bN bO) {p : Int × Int} (hp : PairOk NA NB p) {x : Nat} (hx : x < K.toNat) : PairOk NA NB (stepP K aN bN p x) := by
  have h1 := (mtI_eq R.a hp.a0 hp.a1 hx).2
  have h2 := (mtI_eq R.b hp.b0 hp.b1 hx).2
  have h3 := R.a.nxr _ (List.getElem_mem h1)
  have h4 := R.b.nxr _ (List.getElem_mem h2)
  exact ⟨by show 0 ≤ rd aN _; rw [rdj h1]; omega, by show rd aN _ < _; rw [rdj h1]; omega, by show 0 ≤ rd bN _; rw [rdj h2]; omega, by show rd bN _ < _; rw [rdj h2]; omega⟩
structure Met (K NA NB : Int) (aN aO bN bO : List Int) (op : Int) (i : Nat) (row : List (Int × Int)) (nx out : List Int) : Prop where
  first : row[0]? = some (0, 0)
  prs : ∀ p ∈ row, PairOk NA NB p
  nodup : row.Nodup
  len : i ≤ row.length ∧ row.length ≤ 1024
  nxl : nx.length = i * K.toNat
  outl : out.length = i
  next : ∀ a x, a < i → x < K.toNat → ∃ p n, row[a]? = some p ∧ nx[a * K.toNat + x]? = some ((n : Nat) : Int) ∧ row[n]? = some (stepP K aN bN p x)
  says : ∀ a, a < i → ∃ p, row[a]? = some p ∧ out[a]? = some (mtO aO bO op p)
/-- What is said is 0 or 1. -/
theorem said01 {op s : Int} (h0 : 0 ≤ op) (h1 : op ≤ 15) (h2 : 0 ≤ s) (h3 : s ≤ 3) : 0 ≤ Go.bits .and .i64 (shr .i64 op s) 1 ∧ Go.bits .and .i64 (shr .i64 op s) 1 < 2 := by
  have h : ∀ o : _root_.Fin 16, ∀ t : _root_.Fin 4, 0 ≤ Go.bits .and .i64 (shr .i64 (o.1 : Int) (t.1 : Int)) 1 ∧ Go.bits .and .i64 (shr .i64 (o.1 : Int) (t.1 : Int)) 1 < 2 := by decide +kernel
  have := h ⟨op.toNat, by omega⟩ ⟨s.toNat, by omega⟩
  simp only [Int.toNat_of_nonneg h0, Int.toNat_of_nonneg h2] at this
  exact this
theorem out_at' {K N : Int} {nx out : List Int} (R : RightD K N nx out) {s : Int} (h0 : 0 ≤ s) (h1 : s < N) : 0 ≤ rd out s ∧ rd out s < 2 := by
  have hl := R.outl
  have hs : s = ((s.toNat : Nat) : Int) := by omega
  rw [hs, rdj (by omega)]
  exact R.outr _ (List.getElem_mem _)
theorem Two.sh {K NA NB : Int} {aN aO bN bO : List Int} (R : Two K NA NB aN aO bN bO) {p : Int × Int} (hp : PairOk NA NB p) : wrap64 (wrap64 (2 * rd aO p.1) + rd bO p.2) = 2 * rd aO p.1 + rd bO p.2 ∧ 0 ≤ 2 * rd aO p.1 + rd bO p.2 ∧ 2 * rd aO p.1 + rd bO p.2 ≤ 3 := by
  have h1 := out_at' R.a hp.a0 hp.a1
  have h2 := out_at' R.b hp.b0 hp.b1
  rw [w64i (i := 2 * rd aO p.1) (by omega) (by omega), w64i (by omega) (by omega)]
  omega
theorem Two.out {K NA NB : Int} {aN aO bN bO : List Int} (R : Two K NA NB aN aO bN bO) {op : Int} (h0 : 0 ≤ op) (h1 : op ≤ 15) {p : Int × Int} (hp : PairOk NA NB p) : 0 ≤ mtO aO bO op p ∧ mtO aO bO op p < 2 := by
  obtain ⟨e, h2, h3⟩ := R.sh hp
  unfold mtO
  rw [e]
  exact said01 h0 h1 h2 h3
end Go.Proofs.Ytkaefgmgcghhiaa.X
end

section
namespace Go.Proofs.Ytkaefgmgcghhiaa.X
open Go.RowKit Go.Proofs.YtkaefgmgcghhiaaW.PrintWords Go.Proofs.YtkaefgmgcghhiaaW.PrintLast Go.Proofs.YtkaefgmgcghhiaaW.PrintMore
def rkA (K : Int) (a : Nat) (u : List Int) : Nat := u.foldl (fun a x => a * K.toNat + x.toNat + 1) a
theorem rkA_cons (K : Int) (a : Nat) (x : Int) (u : List Int) : rkA K a (x :: u) = rkA K (a * K.toNat + x.toNat + 1) u := rfl
theorem rkA_lt {K : Int} (hK : 1 ≤ K) : ∀ (u v : List Int) (a b : Nat), u.length = v.length → (∀ c ∈ u, 0 ≤ c ∧ c < K) → (∀ c ∈ v, 0 ≤ c ∧ c < K) → a < b → rkA K a u < rkA K b v
  | [], [], a, b, _, _, _, h => h
  | [], _ :: _, _, _, h, _, _, _ => by simp at h
  | _ :: _, [], _, _, h, _, _, _ => by simp at h
  | x :: u, y :: v, a, b, hl, hu, hv, h => by
    rw [rkA_cons, rkA_cons]
    have hx := hu x (by simp)
    have hy := hv y (by simp)
    refine rkA_lt hK u v _ _ (by simpa using hl) (fun c hc => hu c (List.mem_cons_of_mem _ hc)) (fun c hc => hv c (List.mem_cons_of_mem _ hc)) ?_
    have := Nat.mul_le_mul_right K.toNat h
    rw [Nat.succ_mul] at this
    omega
def geo (K : Int) : Nat → Nat
  | 0 => 0
  | n + 1 => geo K n * K.toNat + 1
theorem geo_mono {K : Int} (hK : 1 ≤ K) : ∀ n, geo K n ≤ geo K (n + 1)
  | 0 => by simp [geo]
  | n + 1 => by
    rw [geo, geo]
    have := Nat.mul_le_mul_right K.toNat (geo_mono hK n)
    omega
theorem geo_le {K : Int} (hK : 1 ≤ K) {n m : Nat} (h : n ≤ m) : geo K n ≤ geo K m := by
  induction h with
  | refl => exact Nat.le_refl _
  | step _ ih => exact Nat.le_trans ih (geo_mono hK _)
theorem rk_bounds {K : Int} (hK : 1 ≤ K) : ∀ (n : Nat) (u : List Int), u.length = n → (∀ c ∈ u, 0 ≤ c ∧ c < K) → geo K n ≤ rk K u ∧ rk K u ≤ geo K n * K.toNat := by
  intro n
  induction n with
  | zero =>
    intro u hu _
    have : u = [] := List.eq_nil_of_length_eq_zero hu
    subst this
    simp [rk, geo]
  | succ n ih =>
    intro u hu hc
    rcases List.eq_nil_or_concat u with rfl | ⟨v, x, e⟩
    · simp at hu
    · rw [List.concat_eq_append] at e
      subst e
      obtain ⟨h1, h2⟩ := ih v (by simpa using hu) (fun c hu => hc c (List.mem_append_left _ hu))
      have hx := hc x (by simp)
      rw [rk_snoc, geo]
      have g1 := Nat.mul_le_mul_right K.toNat h1
      have g2 := Nat.mul_le_mul_right K.toNat h2
      rw [Nat.add_mul, Nat.one_mul]
      omega
theorem ahead_l0 {K : Int} (hK : 1 ≤ K) (u v : List Int) (hl : u.length = v.length) (hb : u.length ≤ 100000) (hu : ∀ c ∈ u, 0 ≤ c ∧ c < K) (hv : ∀ c ∈ v, 0 ≤ c ∧ c < K) : ∀ (d k i a : Nat), i + d = u.length → d < k → tutorref01_Ahead.l0 k u v (i : Int) = some (decide (rkA K a (u.drop i) < rkA K a (v.drop i)))
  | 0, k, i, a, hd, hk => by
    obtain ⟨k, rfl⟩ : ∃ m, k = m + 1 := ⟨k - 1, by omega⟩
    rw [tutorref01_Ahead.l0, if_neg (by omega), List.drop_of_length_le (by omega), List.drop_of_length_le (by omega)]
    simp
  | d + 1, k, i, a, hd, hk => by
    obtain ⟨k, rfl⟩ : ∃ m, k = m + 1 := ⟨k - 1, by omega⟩
    have hi : i < u.length := by omega
    have hj : i < v.length := by omega
    rw [tutorref01_Ahead.l0, if_pos (by omega), if_pos (by omega), if_pos (by omega), rd_natB hi, rd_natB hj, List.drop_eq_getElem_cons hi, List.drop_eq_getElem_cons hj, rkA_cons, rkA_cons]
    have hx := hu _ (List.getElem_mem hi)
    have hy := hv _ (List.getElem_mem hj)
    by_cases e : u[i] = v[i]
    · rw [if_pos e, e, w64j (by omega)]
      exact ahead_l0 hK u v hl hb hu hv d k (i + 1) _ (by omega) (by omega)
    · rw [if_neg e]
      have hlu : (u.drop (i + 1)).length = (v.drop (i + 1)).length := by simp [hl]
      have hcu : ∀ c ∈ u.drop (i + 1), 0 ≤ c ∧ c < K := fun c hc => hu c (List.mem_of_mem_drop hc)
      have hcv : ∀ c ∈ v.drop (i + 1), 0 ≤ c ∧ c < K := fun c hc => hv c (List.mem_of_mem_drop hc)
      by_cases hlt : u[i] < v[i]
      · have := rkA_lt hK _ _ (a * K.toNat + u[i].toNat + 1) (a * K.toNat + v[i].toNat + 1) hlu hcu hcv (by omega)
        rw [decide_eq_true hlt, decide_eq_true this]
      · have := rkA_lt hK _ _ (a * K.toNat + v[i].toNat + 1) (a * K.toNat + u[i].toNat + 1) hlu.symm hcv hcu (by omega)
        rw [decide_eq_false hlt, decide_eq_false (by omega)]
theorem ahead_is {K : Int} (hK : 1 ≤ K) {u v : List Int} (hb : u.length ≤ 100000) (hu : ∀ c ∈ u, 0 ≤ c ∧ c < K) (hv : ∀ c ∈ v, 0 ≤ c ∧ c < K) {k : Nat} (hk : 200000 ≤ k) : tutorref01_Ahead.f k u v = some (decide (rk K u < rk K v)) := by
  unfold tutorref01_Ahead.f
  by_cases h : (u.length : Int) = (v.length : Int)
  · rw [if_pos h]
    exact ahead_l0 hK u v (by omega) hb hu hv u.length k 0 0 (by omega) (by omega)
  · rw [if_neg h]
    obtain ⟨h1, h2⟩ := rk_bounds hK u.length u rfl hu
    obtain ⟨g1, g2⟩ := rk_bounds hK v.length v rfl hv
    by_cases hlt : u.length < v.length
    · have := geo_le hK (n := u.length + 1) (m := v.length) hlt
      rw [geo] at this
      rw [decide_eq_true (show (u.length : Int) < (v.length : Int) by omega), decide_eq_true (show rk K u < rk K v by omega)]
    · have := geo_le hK (n := v.length + 1) (m := u.length) (by omega)
      rw [geo] at this
      rw [decide_eq_false (show ¬ (u.length : Int) < (v.length : Int) by omega), decide_eq_false (show ¬ rk K u < rk K v by omega)]
theorem RightD.nx' {K N : Int} {nx out : List Int} (R : RightD K N nx out) : Nx K N nx := ⟨R.k, R.n, R.nxl, R.nxr⟩
theorem far_goTo {K N : Int} {nx out : List Int} (R : RightD K N nx out) : ∀ (u : List Int) (a : Nat), a < N.toNat → (∀ x ∈ u, 0 ≤ x ∧ x < K) → far K nx (a : Int) u = ((goTo K nx a u : Nat) : Int)
  | [], a, _, _ => rfl
  | x :: u, a, ha, hu => by
    have hx := hu x (by simp)
    have hs := R.nx'.step (s := (a : Int)) (by omega) (by have := R.n; omega) (x := x.toNat) (by omega)
    have e : nxt K nx (a : Int) x.toNat = rd nx ((a * K.toNat + x.toNat : Nat) : Int) := by simp [nxt]
    rw [far, goTo, ← e]
    obtain ⟨b, hb⟩ : ∃ b : Nat, nxt K nx (a : Int) x.toNat = (b : Int) := ⟨(nxt K nx (a : Int) x.toNat).toNat, by omega⟩
    rw [hb, Int.toNat_natCast]
    exact far_goTo R u b (by omega) (fun y hy => hu y (List.mem_cons_of_mem _ hy))
theorem wordCk_right {K : Int} (hK : 1 ≤ K ∧ K ≤ 64) {u : List Int} (hl : u.length ≤ 4096) (hu : ∀ c ∈ u, 0 ≤ c ∧ c < K) : wordCk K u = (0, 0) := by
  have main : ∀ (v : List Int) (i : Int), (∀ c ∈ v, 0 ≤ c ∧ c < K) → wordAt K v i = (0, 0) := by
    intro v
    induction v with
    | nil => intro i _; rfl
    | cons c r ih =>
      intro i h
      have hc := h c (by simp)
      rw [wordAt, if_neg (by omega), if_neg (by omega)]
      exact ih _ (fun c hc => h c (List.mem_cons_of_mem _ hc))
  unfold wordCk
  rw [if_neg (by omega), if_neg (by omega)]
  exact main u 0 hu
/-- So many words of a length are accepted from a state. -/
def wcnt (K : Int) (nx out : List Int) : Nat → Int → Int
  | 0, s => rd out s
  | n + 1, s => ((List.range K.toNat).map fun x => wcnt K nx out n (nxt K nx s x)).sum
def accs (K : Int) (nx out : List Int) (s : Int) (u : List Int) : Bool := decide (rd out (far K nx s u) = 1)
theorem sum_cast (l : List Nat) (f : Nat → Nat) : ((((l.map f).sum : Nat)) : Int) = (l.map fun x => ((f x : Nat) : Int)).sum := by
  induction l with
  | nil => rfl
  | cons a r ih => simp [ih]
theorem wcnt_is {K N : Int} {nx out : List Int} (R : RightD K N nx out) : ∀ (n : Nat) (s : Int), 0 ≤ s ∧ s < N → wcnt K nx out n s = (((words K n).countP (accs K nx out s) : Nat) : Int)
  | 0, s, hs => by
    have := out_at' R hs.1 hs.2
    have h01 : rd out s = 0 ∨ rd out s = 1 := by omega
    rcases h01 with h | h <;> simp [wcnt, words, accs, far, h]
  | n + 1, s, hs => by
    rw [wcnt, words, List.countP_flatMap, sum_cast]
    congr 1
    refine List.map_congr_left (fun x hx => ?_)
    have hx := List.mem_range.1 hx
    rw [wcnt_is R n _ (R.nx'.step hs.1 hs.2 hx), Function.comp_apply, List.countP_map]
    rfl
theorem wcnt_nonneg {K N : Int} {nx out : List Int} (R : RightD K N nx out) (n : Nat) {s : Int} (hs : 0 ≤ s ∧ s < N) : 0 ≤ wcnt K nx out n s := by
  rw [wcnt_is R n s hs]
  omega
/-- now holds, of each state, so many words or the bound. -/
def Holds (K N : Int) (nx out : List Int) (n : Nat) (now : List Int) : Prop := (now.length : Int) = N ∧ ∀ s : Int, 0 ≤ s → s < N → rd now s = min (wcnt K nx out n s) 1099511627777
theorem cnX_is {K N : Int} {nx out : List Int} (R : RightD K N nx out) {n : Nat} {now : List Int} (H : Holds K N nx out n now) (s : Nat) (hs : (s : Int) < N) : ∀ (l : List Nat) (a : Int), 0 ≤ a → (∀ x ∈ l, x < K.toNat) → cnX K nx now s l (min a 1099511627777) = some (min (a + (l.map fun x => wcnt K nx out n (nxt K nx (s : Int) x)).sum) 1099511627777)
  | [], a, ha, _ => by simp [cnX]
  | x :: r, a, ha, hl => by
    have hx := hl x (by simp)
    obtain ⟨g1, g2⟩ := R.nx'.idx (s := (s : Int)) (by omega) hs hx
    have ht := R.nx'.step (s := (s : Int)) (by omega) hs hx
    unfold stI at g1
    have hrd : rd nx (((s : Int).toNat * K.toNat + x : Nat) : Int) = nxt K nx (s : Int) x := rfl
    rw [cnX, g1, hrd, if_pos ⟨⟨by omega, by omega⟩, ht.1, by have := H.1; omega⟩, H.2 _ ht.1 ht.2]
    have hc := wcnt_nonneg R n ht
    have e : min (wrap64 (min a 1099511627777 + min (wcnt K nx out n (nxt K nx (s : Int) x)) 1099511627777)) 1099511627777 = min (a + wcnt K nx out n (nxt K nx (s : Int) x)) 1099511627777 := by
      rw [w64a (by omega) (by omega)]
      omega
    rw [e, cnX_is R H s hs r _ (by omega) (fun x hx => hl x (List.mem_cons_of_mem _ hx))]
    simp only [List.map_cons, List.sum_cons, Int.add_assoc]
theorem rd_setQ {l : List Int} {i j : Nat} {v : Int} (hi : i < l.length) : rd (l.set i v) (j : Int) = if i = j then v else rd l (j : Int) := by
  simp only [rd, Int.toNat_natCast, List.getD_eq_getElem?_getD, List.getElem?_set]
  by_cases e : i = j
  · subst e
    simp [hi]
  · simp [e]
theorem cnS_is {K N : Int} {nx out : List Int} (R : RightD K N nx out) {n : Nat} {now : List Int} (H : Holds K N nx out n now) : ∀ (d j : Nat) (l : List Int), j + d = N.toNat → (l.length : Int) = N → (∀ s : Nat, s < j → rd l (s : Int) = min (wcnt K nx out (n + 1) (s : Int)) 1099511627777) →
    ∃ l1, cnS K nx now ((List.range N.toNat).drop j) l = some l1 ∧ Holds K N nx out (n + 1) l1
  | 0, j, l, hd, hl, h => by
    rw [List.drop_of_length_le (by simp; omega)]
    exact ⟨l, rfl, hl, fun s h0 h1 => by
      obtain ⟨a, rfl⟩ : ∃ a : Nat, s = (a : Int) := ⟨s.toNat, by omega⟩
      exact h a (by omega)⟩
  | d + 1, j, l, hd, hl, h => by
    have hn := R.n
    have hj : j < N.toNat := by omega
    have hc := cnX_is R H j (by omega) (List.range K.toNat) 0 (Int.le_refl _) (fun x hx => List.mem_range.1 hx)
    have e0 : min (0 : Int) 1099511627777 = 0 := by omega
    rw [e0, Int.zero_add] at hc
    rw [drop_range hj, cnS, hc]
    simp only []
    refine cnS_is R H d (j + 1) _ (by omega) (by simpa using hl) (fun s hs => ?_)
    rw [rd_setQ (by omega)]
    by_cases e : j = s
    · subst e
      rw [if_pos rfl]
      rfl
    · rw [if_neg e]
      exact h s (by omega)
theorem cnN_is {K N : Int} {nx out : List Int} (R : RightD K N nx out) : ∀ (n i : Nat) (now l : List Int), Holds K N nx out i now → (l.length : Int) = N → ∃ r, cnN K N nx n now l = some r ∧ Holds K N nx out (i + n) r
  | 0, i, now, l, H, _ => ⟨now, rfl, H⟩
  | n + 1, i, now, l, H, hl => by
    obtain ⟨l1, g1, g2⟩ := cnS_is R H N.toNat 0 l (by omega) hl (fun s hs => by omega)
    rw [List.drop_zero] at g1
    obtain ⟨r, g3, g4⟩ := cnN_is R n (i + 1) l1 l1 g2 g2.1
    refine ⟨r, ?_, by rw [show i + (n + 1) = i + 1 + n by omega]; exact g4⟩
    rw [cnN, g1]
    exact g3
theorem in64_of {l : List Int} {N : Int} (hN : N ≤ 1024) (h : ∀ x ∈ l, 0 ≤ x ∧ x < N) : ∀ x ∈ l, In64 x := fun x hx => by
  have := h x hx
  unfold In64
  omega
theorem mach_right {K N : Int} {nx out : List Int} (R : RightD K N nx out) {k : Nat} (hk : 200000 ≤ k) : machine_Check.f k 1 K 2 N nx out = some (0, 0) := by
  have hn := R.n
  rw [mach_prog (in64_of hn.2 R.nxr) (in64_of (N := 2) (by omega) R.outr) hk]
  have h1 := ck_ok R (k := 300000) (by omega)
  rw [mach_ref (by omega)] at h1
  exact h1
theorem dfa_right {K N : Int} {nx out : List Int} (R : RightD K N nx out) {k : Nat} (hk : 200000 ≤ k) : nfa_dfa.f k 1 K 2 N nx out = some 0 := by
  unfold nfa_dfa.f
  rw [mach_right R hk, Option.bind_some, if_pos rfl, if_pos rfl]
theorem count_is {K N : Int} {nx out : List Int} (R : RightD K N nx out) {n : Int} (h0 : 0 ≤ n) (h1 : n ≤ 4096) : nfa_Count.f 1 K 2 N nx out n = some (if wcnt K nx out n.toNat 0 > 1099511627776 then (0, 11) else (wcnt K nx out n.toNat 0, 0)) := by
  have hn := R.n
  have hk := R.k
  unfold nfa_Count.f cnG
  rw [dfa_right R (by unfold big; omega)]
  simp only []
  have hol : (out.length : Int) = N := by have := R.outl; omega
  have H0 : Holds K N nx out 0 out := ⟨hol, fun s g0 g1 => by
    have := out_at' R g0 g1
    show rd out s = min (rd out s) 1099511627777
    omega⟩
  obtain ⟨r, g1, g2⟩ := cnN_is R n.toNat 0 out (List.replicate N.toNat 0) H0 (by simp; omega)
  rw [if_neg (by omega), if_neg (by omega), if_neg (by omega), if_pos ⟨hn, hk, hol⟩, g1]
  simp only []
  rw [g2.2 0 (by omega) (by omega), Nat.zero_add]
  by_cases hc : wcnt K nx out n.toNat 0 > 1099511627776
  · rw [if_pos hc, if_pos (by omega)]
  · rw [if_neg hc, if_neg (by omega)]
    congr 2
    omega
theorem least_l0 {K N : Int} {nx out : List Int} (R : RightD K N nx out) {st : List Int} {ws : List (List Int)} (h : Rch K N nx st ws) : ∀ (d k i : Nat), i + d = st.length → d < k → (∀ (j : Nat) (s : Int), j < i → st[j]? = some s → rd out s ≠ 1) →
    (nfa_Least.l0 k ws st (st.length : Int) (i : Int) 1 K 2 N nx out = some ([], false, 0) ∧ ∀ (j : Nat) (s : Int), st[j]? = some s → rd out s ≠ 1) ∨
    ∃ (m : Nat) (s : Int) (w : List Int), nfa_Least.l0 k ws st (st.length : Int) (i : Int) 1 K 2 N nx out = some (w, true, 0) ∧ st[m]? = some s ∧ ws[m]? = some w ∧ rd out s = 1 ∧ ∀ (j : Nat) (t : Int), j < m → st[j]? = some t → rd out t ≠ 1
  | 0, k, i, hd, hk, hj => by
    obtain ⟨k, rfl⟩ : ∃ m, k = m + 1 := ⟨k - 1, by omega⟩
    left
    refine ⟨by rw [nfa_Least.l0, if_neg (by omega)], fun j s hs => hj j s ?_ hs⟩
    have := (List.getElem?_eq_some_iff.1 hs).1
    omega
  | d + 1, k, i, hd, hk, hj => by
    obtain ⟨k, rfl⟩ : ∃ m, k = m + 1 := ⟨k - 1, by omega⟩
    have hi : i < st.length := by omega
    have hlen := h.len
    have hw := way_few R.nx' h.toWay
    have hn := R.n
    have hr := h.rng _ (List.getElem_mem hi)
    have hs : st[i]? = some st[i] := List.getElem?_eq_getElem hi
    rw [nfa_Least.l0, if_pos (by omega), if_pos (by omega), if_pos (by omega), rd_natB hi, if_pos hr.1, if_pos (by have := R.outl; omega)]
    by_cases ho : rd out st[i] = 1
    · right
      have hwi : ws[i]? = some ws[i] := List.getElem?_eq_getElem (by omega)
      refine ⟨i, st[i], ws[i], ?_, hs, hwi, ho, hj⟩
      rw [if_pos ho, if_pos (by omega)]
      congr 2
      simp [rd_L1, List.getD_eq_getElem?_getD, hwi]
    · rw [if_neg ho, w64j (by omega)]
      refine least_l0 R h d k (i + 1) (by omega) (by omega) (fun j s hlt hjs => ?_)
      by_cases e : j = i
      · subst e
        rw [hs] at hjs
        injection hjs with hjs
        rw [← hjs]
        exact ho
      · exact hj j s (by omega) hjs
theorem least_is {K N : Int} {nx out : List Int} (R : RightD K N nx out) {k : Nat} (hk : 200000 ≤ k) :
    (nfa_Least.f k 1 K 2 N nx out = some ([], false, 0) ∧ ∀ u : List Int, (∀ c ∈ u, 0 ≤ c ∧ c < K) → rd out (far K nx 0 u) ≠ 1) ∨
    ∃ w : List Int, nfa_Least.f k 1 K 2 N nx out = some (w, true, 0) ∧ (∀ c ∈ w, 0 ≤ c ∧ c < K) ∧ w.length ≤ 1024 ∧ rd out (far K nx 0 w) = 1 ∧ ∀ u : List Int, (∀ c ∈ u, 0 ≤ c ∧ c < K) → rd out (far K nx 0 u) = 1 → rk K w ≤ rk K u := by
  obtain ⟨st, ws, g1, h⟩ := reach_spec R.nx' (q := rcBig) (by unfold rcBig; omega)
  have hf := way_few R.nx' h.toWay
  have hn := R.n
  have hreach : trim_Reach.f 1 K 2 N nx out = some (st, ws, 0) := by
    unfold trim_Reach.f rcG
    rw [mach_right R (by unfold rcBig; omega)]
    simp only []
    rw [if_neg (by omega), g1]
  have e : nfa_Least.f k 1 K 2 N nx out = nfa_Least.l0 k ws st (st.length : Int) ((0 : Nat) : Int) 1 K 2 N nx out := by
    unfold nfa_Least.f
    rw [dfa_right R hk, Option.bind_some, if_pos rfl, hreach, Option.bind_some]
    rfl
  rw [e]
  rcases least_l0 R h st.length k 0 (by omega) (by omega) (fun j s hj _ => by omega) with ⟨h1, h2⟩ | ⟨m, s, w, h1, h2, h3, h4, h5⟩
  · refine .inl ⟨h1, fun u hu => ?_⟩
    obtain ⟨m, w, a, b, _⟩ := h.least u hu
    exact h2 m _ a
  · refine .inr ⟨w, h1, h.sym w (List.mem_of_getElem? h3), ?_, ?_, fun u hu ho => ?_⟩
    · have := h.wl m w h3
      have := (List.getElem?_eq_some_iff.1 h2).1
      omega
    · rw [h.go m s w h2 h3]
      exact h4
    · obtain ⟨m', w', a, b, c⟩ := h.least u hu
      have hmm : ¬ m' < m := fun hlt => h5 m' _ hlt a ho
      by_cases e : m = m'
      · subst e
        rw [h3] at b
        injection b with b
        rw [b]
        exact c
      · have := h.inc m m' w w' (by omega) h3 b
        omega
end Go.Proofs.Ytkaefgmgcghhiaa.X
end

section
namespace Go.Proofs.Ytkaefgmgcghhiaa.X
open Go.RowKit Go.Proofs.YtkaefgmgcghhiaaW.PrintWords Go.Proofs.YtkaefgmgcghhiaaW.PrintLast Go.Proofs.YtkaefgmgcghhiaaW.PrintMore
/-- A world of which only this counts further on. -/
theorem gen_world {P : Program} {ops : Array Oper} {Q : Exit → Act → World → Prop} {rest : List Oper} {a : Act} (F : World → Prop) {W : World} (h : F W) (k : ∀ W', F W' → wpList P ops Q rest a W') : wpList P ops Q rest a W := k W h
theorem C_nums {w : World} {g : Nat} {xs : List Int} (h : w.heap[g]? = some (.cells (numsA xs) 3 (0, 0))) (hl : xs.length ≤ 9223372036854775807) : Kd.C (Kd.int .i64) w (some ⟨g, 0, none⟩) xs.length xs :=
  Kd.C_of_reads (d := (0 : Int)) (h1 := fun _ => rfl) ⟨rfl, hl, fun _ => ⟨_, rfl, fun j hj => by
    rw [add_plain, nums_cell h j hj]
    rfl⟩⟩
theorem blk_at {W : World} {cs : Array Value} {t n : Nat} (he : W.heap.size = n) : (W.alloc (.cells cs t)).heap[n]? = some (.cells cs t (0, 0)) := by
  subst he
  exact blk_new W _
def liveE : List S80 := [⟨0, 0, 0⟩, ⟨0, 1, 0⟩, ⟨0, 1, 1⟩]
def liveEA : Array Value := #[.int .i64 0, .int .i64 0, .int .i64 0, .int .i64 0, .int .i64 1, .int .i64 0, .int .i64 0, .int .i64 1, .int .i64 1]
theorem C_edges {w : World} {g : Nat} (h : w.heap[g]? = some (.cells liveEA 80 (0, 0))) : Kd.C k80 w (some ⟨g, 0, none⟩) 3 liveE := by
  refine ⟨rfl, by omega, fun _ => ⟨_, rfl, fun j p hj => ⟨_, rfl, k80_mk w p, fun i u hu => ?_⟩⟩⟩
  have hc : ∀ q u, liveEA[q]? = some u → w.cell? ((⟨g, 0, none⟩ : Addr).add q) = some u := fun q u hq => by rw [add_plain, blk_cell h q]; exact hq
  match j, hj with
  | 0, hj =>
    simp only [liveE, List.getElem?_cons_zero, Option.some.injEq] at hj
    subst hj
    match i, hu with
    | 0, hu => exact hc 0 u hu
    | 1, hu => exact hc 1 u hu
    | 2, hu => exact hc 2 u hu
    | i + 3, hu => simp at hu
  | 1, hj =>
    simp only [liveE, List.getElem?_cons_zero, List.getElem?_cons_succ, Option.some.injEq] at hj
    subst hj
    match i, hu with
    | 0, hu => exact hc 3 u hu
    | 1, hu => exact hc 4 u hu
    | 2, hu => exact hc 5 u hu
    | i + 3, hu => simp at hu
  | 2, hj =>
    simp only [liveE, List.getElem?_cons_zero, List.getElem?_cons_succ, Option.some.injEq] at hj
    subst hj
    match i, hu with
    | 0, hu => exact hc 6 u hu
    | 1, hu => exact hc 7 u hu
    | 2, hu => exact hc 8 u hu
    | i + 3, hu => simp at hu
  | j + 3, hj => simp [liveE] at hj
theorem info43c : (Try.prog.info? 43).map (fun i => (i.zero, i.size)) = some (some (.agg #[.int .i64 0, .int .i64 0, .int .i64 0, .int .i64 0, .slice none 0 0, .slice none 0 0]), 6) := by kernel_rfl
theorem same_next : tutorref01_Same.f 10 [0, 1, 0, 1] [0, 1, 0, 1] = some true := by decide +kernel
theorem same_out : tutorref01_Same.f 10 [0, 1] [0, 1] = some true := by decide +kernel
/-- What lies in memory behind the example's making. -/
structure LiveAt (w W : World) : Prop where
  below : Below w.heap.size w W
  s : W.heap[w.heap.size]? = some (.cells (numsA [0]) 3 (0, 0))
  f : W.heap[w.heap.size + 1]? = some (.cells (numsA [0, 1]) 3 (0, 0))
  e : W.heap[w.heap.size + 1 + 1]? = some (.cells liveEA 80 (0, 0))
  a : W.heap[w.heap.size + 1 + 1 + 1]? = some (.cells #[.int .i64 2, .int .i64 2, .slice (some ⟨w.heap.size, 0, none⟩) 1 1, .slice (some ⟨w.heap.size + 1, 0, none⟩) 2 2, .slice (some ⟨w.heap.size + 1 + 1, 0, none⟩) 3 3] 25 (0, 0))
theorem LiveAt.on {w W W1 : World} (h : LiveAt w W) (hb : Below W.heap.size W W1) : LiveAt w W1 := ⟨below_step h.below hb, blk_below h.s hb, blk_below h.f hb, blk_below h.e hb, blk_below h.a hb⟩
theorem live_made (w : World) : LiveAt w ((((w.alloc (.cells #[.int .i64 0] 3)).alloc (.cells #[.int .i64 0, .int .i64 1] 3)).alloc (.cells liveEA 80)).alloc (.cells #[.int .i64 2, .int .i64 2, .slice (some ⟨w.heap.size, 0, none⟩) 1 1, .slice (some ⟨w.heap.size + 1, 0, none⟩) 2 2, .slice (some ⟨w.heap.size + 1 + 1, 0, none⟩) 3 3] 25)) := by
  have hs := blk_new w (.cells (numsA [0]) 3)
  have hf : ((w.alloc (.cells (numsA [0]) 3)).alloc (.cells (numsA [0, 1]) 3)).heap[w.heap.size + 1]? = some (.cells (numsA [0, 1]) 3 (0, 0)) := by
    simpa using blk_new (w.alloc (.cells (numsA [0]) 3)) (.cells (numsA [0, 1]) 3)
  have he : (((w.alloc (.cells (numsA [0]) 3)).alloc (.cells (numsA [0, 1]) 3)).alloc (.cells liveEA 80)).heap[w.heap.size + 1 + 1]? = some (.cells liveEA 80 (0, 0)) := by
    simpa using blk_new ((w.alloc (.cells (numsA [0]) 3)).alloc (.cells (numsA [0, 1]) 3)) (.cells liveEA 80)
  have ha : ((((w.alloc (.cells #[.int .i64 0] 3)).alloc (.cells #[.int .i64 0, .int .i64 1] 3)).alloc (.cells liveEA 80)).alloc (.cells #[.int .i64 2, .int .i64 2, .slice (some ⟨w.heap.size, 0, none⟩) 1 1, .slice (some ⟨w.heap.size + 1, 0, none⟩) 2 2, .slice (some ⟨w.heap.size + 1 + 1, 0, none⟩) 3 3] 25)).heap[w.heap.size + 1 + 1 + 1]? = some (.cells #[.int .i64 2, .int .i64 2, .slice (some ⟨w.heap.size, 0, none⟩) 1 1, .slice (some ⟨w.heap.size + 1, 0, none⟩) 2 2, .slice (some ⟨w.heap.size + 1 + 1, 0, none⟩) 3 3] 25 (0, 0)) := by
    have h := blk_new (((w.alloc (.cells (numsA [0]) 3)).alloc (.cells (numsA [0, 1]) 3)).alloc (.cells liveEA 80)) (.cells #[.int .i64 2, .int .i64 2, .slice (some ⟨w.heap.size, 0, none⟩) 1 1, .slice (some ⟨w.heap.size + 1, 0, none⟩) 2 2, .slice (some ⟨w.heap.size + 1 + 1, 0, none⟩) 3 3] 25)
    have e : (((w.alloc (.cells (numsA [0]) 3)).alloc (.cells (numsA [0, 1]) 3)).alloc (.cells liveEA 80)).heap.size = w.heap.size + 1 + 1 + 1 := by simp
    rw [e] at h
    exact h
  exact ⟨below_alloc (below_alloc (below_alloc (below_alloc (Below.refl _ _) _) _) _) _, blk_alloc (blk_alloc (blk_alloc hs _) _) _, blk_alloc (blk_alloc hf _) _, blk_alloc he _, ha⟩
set_option maxHeartbeats 16000000 in
set_option maxRecDepth 100000 in
theorem live_walk (w : World) : Calls Try.prog 13 #[] w fun e w' => e = .returned (.bool true) ∧ Below w.heap.size w w' := by
  have hu80 := Try.underlying80
  have hu25 := Try.underlying25
  have hu43 := Try.underlying43
  obtain ⟨z43, i43⟩ := zero_of_info info43c
  go_enter Try.func13, Try.ntmps13
  go_wp2_with (first
    | (go_at_call 20; go_loud (
       have HL2 := Aside0.mk ((live_made w).on (below_alloc (Below.refl _ _) (.cells (numsA [0, 1]) 3)))
       have h20 : Calls Try.prog 20 #[.agg #[.int .i64 2, .int .i64 2, .slice (some ⟨w.heap.size, 0, none⟩) 1 1, .slice (some ⟨w.heap.size + 1, 0, none⟩) 2 2, .slice (some ⟨w.heap.size + 1 + 1, 0, none⟩) 3 3], .slice (some ⟨w.heap.size + 1 + 1 + 1 + 1, 0, none⟩) 2 2] (((((w.alloc (.cells #[.int .i64 0] 3)).alloc (.cells #[.int .i64 0, .int .i64 1] 3)).alloc (.cells liveEA 80)).alloc (.cells #[.int .i64 2, .int .i64 2, .slice (some ⟨w.heap.size, 0, none⟩) 1 1, .slice (some ⟨w.heap.size + 1, 0, none⟩) 2 2, .slice (some ⟨w.heap.size + 1 + 1, 0, none⟩) 3 3] 25)).alloc (.cells #[.int .i64 0, .int .i64 1] 3)) _ := nfa_Accepts.calls 2 2 _ 1 [0] _ 2 [0, 1] _ 3 liveE _ 2 [0, 1] true 0 _ (C_nums HL2.out.s (by simp)) (Nat.le_refl _) (C_nums HL2.out.f (by simp)) (Nat.le_refl _) (C_edges HL2.out.e) (Nat.le_refl _) (C_nums (blk_at (by simp)) (by simp)) (Nat.le_refl _) liveA
       refine h20.mono ?_
       rintro e w2 ⟨rfl, hb2⟩
       have HL3 := Aside0.mk (HL2.out.on hb2)
       have hy0 : w2.cell? ⟨w.heap.size + 1 + 1 + 1, 0, none⟩ = some (.int .i64 2) := (blk_cell HL3.out.a 0).trans rfl
       have hy1 : w2.cell? ⟨w.heap.size + 1 + 1 + 1, 1, none⟩ = some (.int .i64 2) := (blk_cell HL3.out.a 1).trans rfl
       have hy2 : w2.cell? ⟨w.heap.size + 1 + 1 + 1, 2, none⟩ = some (.slice (some ⟨w.heap.size, 0, none⟩) 1 1) := (blk_cell HL3.out.a 2).trans rfl
       have hy3 : w2.cell? ⟨w.heap.size + 1 + 1 + 1, 3, none⟩ = some (.slice (some ⟨w.heap.size + 1, 0, none⟩) 2 2) := (blk_cell HL3.out.a 3).trans rfl
       have hy4 : w2.cell? ⟨w.heap.size + 1 + 1 + 1, 4, none⟩ = some (.slice (some ⟨w.heap.size + 1 + 1, 0, none⟩) 3 3) := (blk_cell HL3.out.a 4).trans rfl
       have h22 : Calls Try.prog 22 #[.agg #[.int .i64 2, .int .i64 2, .slice (some ⟨w.heap.size, 0, none⟩) 1 1, .slice (some ⟨w.heap.size + 1, 0, none⟩) 2 2, .slice (some ⟨w.heap.size + 1 + 1, 0, none⟩) 3 3]] w2 _ := nfa_Determine.calls 2 2 _ 1 [0] _ 2 [0, 1] _ 3 liveE 1 2 2 2 [0, 1, 0, 1] [0, 1] 0 w2 (C_nums HL3.out.s (by simp)) (Nat.le_refl _) (C_nums HL3.out.f (by simp)) (Nat.le_refl _) (C_edges HL3.out.e) (Nat.le_refl _) liveD
       clear hb2 h20))
    | (go_at_call 22
       refine h22.mono ?_
       rintro e w3 ⟨v5, v6, rfl, hR5, hR6, hb3⟩
       have HL4 := Aside0.mk (HL3.out.on hb3)
       obtain ⟨P5, e5, rfl⟩ := Kd.R_slice hR5
       obtain ⟨P6, e6, rfl⟩ := Kd.R_slice hR6
       have HR := Aside0.mk (And.intro hR5 hR6)
       clear hb3 hR5 hR6 h22 hy0 hy1 hy2 hy3 hy4)
    | ((with_reducible refine gate_store (t := 43) (p := 4) rfl ?_)
       refine wpList_store_rowTo rfl 43 (.tmp 4) (.tmp 24) rfl rfl w3.heap.size #[.int .i64 1, .int .i64 2, .int .i64 2, .int .i64 2, .slice P5 4 e5, .slice P6 2 e6] rfl rfl 43 _ (blk_new w3 _) ?_ ?_ (by simp [Value.oneCell']) ?_
       (focus (rw [i43]; rfl))
       (focus rfl)
       rw [World.setRow_alloc_new]
       refine gen_world (fun W => Below w.heap.size w W ∧ Below w3.heap.size w3 W ∧ W.heap[w3.heap.size]? = some (.cells #[.int .i64 1, .int .i64 2, .int .i64 2, .int .i64 2, .slice P5 4 e5, .slice P6 2 e6] 43 (0, 0))) ⟨below_alloc HL4.out.below _, below_alloc (Below.refl _ _) _, blk_new w3 _⟩ (fun w5 h5 => ?_)
       have HM5 := Aside0.mk h5
       have hm0 : w5.cell? ⟨w3.heap.size, 0, none⟩ = some (.int .i64 1) := (blk_cell h5.2.2 0).trans rfl
       have hm1 : w5.cell? ⟨w3.heap.size, 1, none⟩ = some (.int .i64 2) := (blk_cell h5.2.2 1).trans rfl
       have hm2 : w5.cell? ⟨w3.heap.size, 2, none⟩ = some (.int .i64 2) := (blk_cell h5.2.2 2).trans rfl
       have hm3 : w5.cell? ⟨w3.heap.size, 3, none⟩ = some (.int .i64 2) := (blk_cell h5.2.2 3).trans rfl
       have hm4 : w5.cell? ⟨w3.heap.size, 4, none⟩ = some (.slice P5 4 e5) := (blk_cell h5.2.2 4).trans rfl
       have hm5 : w5.cell? ⟨w3.heap.size, 5, none⟩ = some (.slice P6 2 e6) := (blk_cell h5.2.2 5).trans rfl
       have h39 : Calls Try.prog 39 #[.agg #[.int .i64 1, .int .i64 2, .int .i64 2, .int .i64 2, .slice P5 4 e5, .slice P6 2 e6], .int .i64 3] w5 _ := nfa_Count.calls 1 2 2 2 P5 e5 [0, 1, 0, 1] P6 e6 [0, 1] 3 4 0 w5 (Kd.C_below (Kd.R_reads' HR.out.1).2.2 h5.2.1) (Kd.R_reads' HR.out.1).2.1 (Kd.C_below (Kd.R_reads' HR.out.2).2.2 h5.2.1) (Kd.R_reads' HR.out.2).2.1 liveC
       clear h5)
    | (go_at_call 39
       refine h39.mono ?_
       rintro e w6 ⟨rfl, hb6⟩
       have HM6 : Aside0 (Below w.heap.size w w6 ∧ Below w3.heap.size w3 w6 ∧ w6.heap[w3.heap.size]? = some (.cells #[.int .i64 1, .int .i64 2, .int .i64 2, .int .i64 2, .slice P5 4 e5, .slice P6 2 e6] 43 (0, 0))) := ⟨below_step HM5.out.1 hb6, below_step HM5.out.2.1 hb6, blk_below HM5.out.2.2 hb6⟩
       clear hb6 h39 hm0 hm1 hm2 hm3 hm4 hm5
       have hm0 : w6.cell? ⟨w3.heap.size, 0, none⟩ = some (.int .i64 1) := (blk_cell HM6.out.2.2 0).trans rfl
       have hm1 : w6.cell? ⟨w3.heap.size, 1, none⟩ = some (.int .i64 2) := (blk_cell HM6.out.2.2 1).trans rfl
       have hm2 : w6.cell? ⟨w3.heap.size, 2, none⟩ = some (.int .i64 2) := (blk_cell HM6.out.2.2 2).trans rfl
       have hm3 : w6.cell? ⟨w3.heap.size, 3, none⟩ = some (.int .i64 2) := (blk_cell HM6.out.2.2 3).trans rfl
       have hm4 : w6.cell? ⟨w3.heap.size, 4, none⟩ = some (.slice P5 4 e5) := (blk_cell HM6.out.2.2 4).trans rfl
       have hm5 : w6.cell? ⟨w3.heap.size, 5, none⟩ = some (.slice P6 2 e6) := (blk_cell HM6.out.2.2 5).trans rfl)
    | (go_at_call 17; with_reducible refine (tutorlaw17_num.calls 0 0 _ rfl).mono ?_
       rintro e wn ⟨rfl, ⟨nn, rfl⟩⟩)
    | (go_at_call 44
       refine (tutorref01_Same.calls 10 P6 e6 [0, 1] (some ⟨wn.heap.size, 0, none⟩) 2 [0, 1] true _ (Kd.C_below (Kd.R_reads' HR.out.2).2.2 (below_alloc HBN.out _)) (Kd.R_reads' HR.out.2).2.1 (C_nums (blk_at rfl) (by simp)) (Nat.le_refl _) same_out).mono ?_
       rintro e wz ⟨rfl, hdz⟩
       have HZ := Aside0.mk (below_step (below_alloc HBW.out _) hdz.below))
    | (go_at_call 44
       refine (tutorref01_Same.calls 10 P5 e5 [0, 1, 0, 1] (some ⟨w6.heap.size, 0, none⟩) 4 [0, 1, 0, 1] true _ (Kd.C_below (Kd.R_reads' HR.out.1).2.2 (below_alloc (pw_below_drewN HM6.out.2.1 _) _)) (Kd.R_reads' HR.out.1).2.1 (C_nums (blk_at rfl) (by simp)) (Nat.le_refl _) same_next).mono ?_
       rintro e wn ⟨rfl, hdn⟩
       have HN := Aside0.mk hdn
       have HBN := Aside0.mk (below_step (below_alloc (pw_below_drewN HM6.out.2.1 _) _) hdn.below)
       have HBW := Aside0.mk (below_step (below_alloc (pw_below_drewN HM6.out.1 _) _) hdn.below)
       have hq5 : wn.cell? ⟨w3.heap.size, 5, none⟩ = some (.slice P6 2 e6) := (blk_cell (blk_below (blk_alloc (blk_drewN HM6.out.2.2 _) _) hdn.below) 5).trans rfl
       clear hdn))
  go_ret
  exact ⟨rfl, HZ.out⟩
end Go.Proofs.Ytkaefgmgcghhiaa.X
end

section
namespace Go.Proofs.Ytkaefgmgcghhiaa.X
open Go.RowKit Go.Proofs.YtkaefgmgcghhiaaW.PrintWords Go.Proofs.YtkaefgmgcghhiaaW.PrintLast Go.Proofs.YtkaefgmgcghhiaaW.PrintMore
def tutorlaw17_live.f : Option Bool := some true
theorem tutorlaw17_live.calls (r1 : Bool) (w : World) (h : tutorlaw17_live.f = some r1) : Calls Try.prog 13 #[] w fun e w' => e = .returned (.bool r1) ∧ Below w.heap.size w w' := by
  obtain rfl := Option.some.inj h
  exact live_walk w
end Go.Proofs.Ytkaefgmgcghhiaa.X
end

section
namespace Go.Proofs.Ytkaefgmgcghhiaa.X
open Go.RowKit Go.Proofs.YtkaefgmgcghhiaaW.PrintWords Go.Proofs.YtkaefgmgcghhiaaW.PrintLast Go.Proofs.YtkaefgmgcghhiaaW.PrintMore
attribute [local go_sem] max2_int min2_int max_two min_two max_three min_three max_four min_four   -- for this text's walks alone
set_option linter.unusedVariables false
set_option linter.unusedSimpArgs false
mutual
def tutorlaw17_NfaHolds.j0 : Nat → Int → Bool → Int → Int → Int → Int → List Int → List Int → Option (Bool)
  | 0, _, _, _, _, _, _, _, _ => none
  | k + 1, x1, x40, x859000, x859001, x859002, x859003, x859004, x859005 => if x40 = true then ((tutorlaw17_live.f).bind fun t861 => (some t861)) else ((nfa_Least.f k x859000 x859001 x859002 x859003 x859004 x859005).bind fun bt862 => (if 0 ≤ x1 then (if (x1 : Int).toNat ≤ 35184372088832 then (tutorlaw17_NfaHolds.l0 k x1 0 bt862.1 bt862.2.1 bt862.2.2 (List.replicate (x1 : Int).toNat 0) x859000 x859001 x859002 x859003 x859004 x859005) else (none)) else (none)))
def tutorlaw17_NfaHolds.l0 : Nat → Int → Int → List Int → Bool → Int → List Int → Int → Int → Int → Int → List Int → List Int → Option (Bool)
  | 0, _, _, _, _, _, _, _, _, _, _, _, _ => none
  | k + 1, x1, x5, x6, x7, x8, x9, x859000, x859001, x859002, x859003, x859004, x859005 => if (x9.length : Int) = x1 then ((tutorref03_Run.f k x859000 x859001 x859002 x859003 x859004 x859005 x9).bind fun bt870 => (if 0 < (bt870.1.length : Int) then (if (rd bt870.1 0) = 1 then (if x7 = true then ((tutorref01_Ahead.f k x9 x6).bind fun t875 => (if t875 = true then (some false) else ((tutorref01_Next.f k x9 x859001).bind fun bt876 => (tutorlaw17_NfaHolds.l0 k x1 (wrap64 (x5 + 1)) x6 x7 x8 bt876.1 x859000 x859001 x859002 x859003 x859004 x859005)))) else (some false)) else ((tutorref01_Next.f k x9 x859001).bind fun bt880 => (tutorlaw17_NfaHolds.l0 k x1 x5 x6 x7 x8 bt880.1 x859000 x859001 x859002 x859003 x859004 x859005))) else (none))) else ((nfa_Count.f x859000 x859001 x859002 x859003 x859004 x859005 x1).bind fun bt884 => ((tutorlaw17_num.f x8).bind fun t886 => ((tutorlaw17_num.f bt884.2).bind fun t887 => (if (wrap64 (t886 + t887)) = 0 then (tutorlaw17_NfaHolds.j2 k x6 x7 (bt884.1 != x5) x859000 x859001 x859002 x859003 x859004 x859005) else (tutorlaw17_NfaHolds.j2 k x6 x7 true x859000 x859001 x859002 x859003 x859004 x859005)))))
def tutorlaw17_NfaHolds.j2 : Nat → List Int → Bool → Bool → Int → Int → Int → Int → List Int → List Int → Option (Bool)
  | 0, _, _, _, _, _, _, _, _, _ => none
  | k + 1, x6, x7, x96, x859000, x859001, x859002, x859003, x859004, x859005 => if x96 = true then (some false) else (if x7 = true then ((tutorref03_Run.f k x859000 x859001 x859002 x859003 x859004 x859005 x6).bind fun bt888 => (if bt888.2 = 0 then (if 0 < (bt888.1.length : Int) then (if (rd bt888.1 0) = 1 then ((tutorlaw17_live.f).bind fun t893 => (some t893)) else (some false)) else (none)) else (some false))) else ((tutorlaw17_live.f).bind fun t894 => (some t894)))
end
def tutorlaw17_NfaHolds.f (k : Nat) (a0_0 : Int) (a0_1 : Int) (a0_2 : Int) (a0_3 : Int) (l0_4 : List Int) (l0_5 : List Int) (a1 : Int) : Option (Bool) := (tutorref03_Big.f a0_0 a0_1 a0_2 a0_3 l0_4 l0_5 20).bind fun t859 => (if t859 = true then (tutorlaw17_NfaHolds.j0 k a1 true a0_0 a0_1 a0_2 a0_3 l0_4 l0_5) else ((tutorref03_Right.f k a0_0 a0_1 a0_2 a0_3 l0_4 l0_5).bind fun t860 => (if t860 = true then (if a0_0 = 1 then (if a0_1 > 3 then (tutorlaw17_NfaHolds.j0 k a1 true a0_0 a0_1 a0_2 a0_3 l0_4 l0_5) else (if a1 < 0 then (tutorlaw17_NfaHolds.j0 k a1 true a0_0 a0_1 a0_2 a0_3 l0_4 l0_5) else (tutorlaw17_NfaHolds.j0 k a1 (decide (a1 > 6)) a0_0 a0_1 a0_2 a0_3 l0_4 l0_5))) else (tutorlaw17_NfaHolds.j0 k a1 true a0_0 a0_1 a0_2 a0_3 l0_4 l0_5)) else (tutorlaw17_NfaHolds.j0 k a1 true a0_0 a0_1 a0_2 a0_3 l0_4 l0_5))))
set_option maxHeartbeats 8000000 in
set_option maxRecDepth 100000 in
theorem tutorlaw17_NfaHolds.calls (k : Nat) (a0_0 : Int) (a0_1 : Int) (a0_2 : Int) (a0_3 : Int) (A0_4 : Option Addr) (c0_4 : Nat) (l0_4 : List Int) (A0_5 : Option Addr) (c0_5 : Nat) (l0_5 : List Int) (a1 : Int) (r : Bool) (w : World) (hr0_4 : Kd.C (Kd.int .i64) w A0_4 l0_4.length l0_4) (hc0_4 : l0_4.length ≤ c0_4) (hr0_5 : Kd.C (Kd.int .i64) w A0_5 l0_5.length l0_5) (hc0_5 : l0_5.length ≤ c0_5) (h : tutorlaw17_NfaHolds.f k a0_0 a0_1 a0_2 a0_3 l0_4 l0_5 a1 = some r) :
    Calls Try.prog 10 #[.agg #[.int .i64 a0_0, .int .i64 a0_1, .int .i64 a0_2, .int .i64 a0_3, .slice A0_4 l0_4.length c0_4, .slice A0_5 l0_5.length c0_5], .int .i64 a1] w fun e w' => e = .returned (.bool r) ∧ Below w.heap.size w w' := by
  have hu43 := Try.underlying43
  have HR0_4 := Aside0.mk hr0_4
  have HC0_4 := Aside0.mk hc0_4
  clear hr0_4 hc0_4
  have HR0_5 := Aside0.mk hr0_5
  have HC0_5 := Aside0.mk hc0_5
  clear hr0_5 hc0_5
  have HB := Aside0.mk (Below.refl w.heap.size w)
  have H : ((tutorref03_Big.f a0_0 a0_1 a0_2 a0_3 l0_4 l0_5 20).bind fun t859 => (if t859 = true then (tutorlaw17_NfaHolds.j0 k a1 true a0_0 a0_1 a0_2 a0_3 l0_4 l0_5) else ((tutorref03_Right.f k a0_0 a0_1 a0_2 a0_3 l0_4 l0_5).bind fun t860 => (if t860 = true then (if a0_0 = 1 then (if a0_1 > 3 then (tutorlaw17_NfaHolds.j0 k a1 true a0_0 a0_1 a0_2 a0_3 l0_4 l0_5) else (if a1 < 0 then (tutorlaw17_NfaHolds.j0 k a1 true a0_0 a0_1 a0_2 a0_3 l0_4 l0_5) else (tutorlaw17_NfaHolds.j0 k a1 (decide (a1 > 6)) a0_0 a0_1 a0_2 a0_3 l0_4 l0_5))) else (tutorlaw17_NfaHolds.j0 k a1 true a0_0 a0_1 a0_2 a0_3 l0_4 l0_5)) else (tutorlaw17_NfaHolds.j0 k a1 true a0_0 a0_1 a0_2 a0_3 l0_4 l0_5))))) = some r := h
  clear h
  have HC3 := Aside0.mk H
  clear H
  go_enter Try.func10, Try.ntmps10
  go_upto_region 1 with (first | ((with_reducible refine gate_dst (N := 2) rfl ?_); refine box_event ?hg (N := 2) ?hd (cs := #[.int .i64 a0_0, .int .i64 a0_1, .int .i64 a0_2, .int .i64 a0_3, .slice A0_4 l0_4.length c0_4, .slice A0_5 l0_5.length c0_5]) (t := 43) ?hr ?_; (case hd => rfl); (case hg => rfl); (case hr => first | (go_simp; done) | (go_simp; rfl)); intro gb858 hg w4 hbox hb; have n0_ := Aside0.mk (below_step (by repeat (first | (with_reducible first | exact HB.out | apply below_alloc | apply pw_below_drewN | apply below_drew1) | exact HB.out)) hb); have n1_ := Aside0.mk (hbox); have n2_ := Aside0.mk ((by rw [hg]; exact (below_size (by repeat (first | (with_reducible first | exact HB.out | apply below_alloc | apply pw_below_drewN | apply below_drew1) | exact HB.out))) : w.heap.size ≤ gb858)); have n3_ := Aside0.mk ((by rw [hg]; exact (below_size (by repeat (first | (with_reducible first | exact HB.out | apply below_alloc | apply pw_below_drewN | apply below_drew1) | exact HB.out))) : w.heap.size ≤ gb858)); clear HB; have HB := n0_; have BK858 := n1_; have GW858 := n2_; have GE858 := n3_; clear n0_ n1_ n2_ n3_; clear hb hbox hg))
  (try simp only [Act.put, List.setIfInBounds_toArray, List.set_cons_zero, List.set_cons_succ])
  go_cut [40] (fun v40 wc => ∃ (kq : Nat) (x40_2 : Bool), v40 = .bool x40_2 ∧ Aside0 (tutorlaw17_NfaHolds.j0 kq a1 x40_2 a0_0 a0_1 a0_2 a0_3 l0_4 l0_5 = some r) ∧ Aside0 (kq ≤ k) ∧ Aside0 (wc.heap[gb858]? = some (.cells #[.int .i64 a0_0, .int .i64 a0_1, .int .i64 a0_2, .int .i64 a0_3, (.slice A0_4 l0_4.length c0_4), (.slice A0_5 l0_5.length c0_5)] 43 (0, 0))) ∧ Aside0 (Below w.heap.size w wc))
  case first =>
    have H := HC3.out
    clear HC3
    replace H := Option.bind_eq_some_iff.mp H
    obtain ⟨t859, A50, H⟩ := H
    replace H : (if t859 = true then (tutorlaw17_NfaHolds.j0 k a1 true a0_0 a0_1 a0_2 a0_3 l0_4 l0_5) else ((tutorref03_Right.f k a0_0 a0_1 a0_2 a0_3 l0_4 l0_5).bind fun t860 => (if t860 = true then (if a0_0 = 1 then (if a0_1 > 3 then (tutorlaw17_NfaHolds.j0 k a1 true a0_0 a0_1 a0_2 a0_3 l0_4 l0_5) else (if a1 < 0 then (tutorlaw17_NfaHolds.j0 k a1 true a0_0 a0_1 a0_2 a0_3 l0_4 l0_5) else (tutorlaw17_NfaHolds.j0 k a1 (decide (a1 > 6)) a0_0 a0_1 a0_2 a0_3 l0_4 l0_5))) else (tutorlaw17_NfaHolds.j0 k a1 true a0_0 a0_1 a0_2 a0_3 l0_4 l0_5)) else (tutorlaw17_NfaHolds.j0 k a1 true a0_0 a0_1 a0_2 a0_3 l0_4 l0_5)))) = some r := H
    have A5 := Aside0.mk A50
    clear A50
    by_cases c6 : t859 = true
    · subst c6
      have H1 : (tutorlaw17_NfaHolds.j0 k a1 true a0_0 a0_1 a0_2 a0_3 l0_4 l0_5) = some r := by rw [if_pos rfl] at H; exact H
      clear H
      have H := H1
      clear H1
      have H' := Aside0.mk H
      clear H
      have hcz7_0 : w4.cell? ⟨gb858, 0, none⟩ = some (.int .i64 a0_0) := (blk_cell BK858.out 0).trans rfl
      have hcz7_1 : w4.cell? ⟨gb858, 1, none⟩ = some (.int .i64 a0_1) := (blk_cell BK858.out 1).trans rfl
      have hcz7_2 : w4.cell? ⟨gb858, 2, none⟩ = some (.int .i64 a0_2) := (blk_cell BK858.out 2).trans rfl
      have hcz7_3 : w4.cell? ⟨gb858, 3, none⟩ = some (.int .i64 a0_3) := (blk_cell BK858.out 3).trans rfl
      have hcz7_4 : w4.cell? ⟨gb858, 4, none⟩ = some (.slice A0_4 l0_4.length c0_4) := (blk_cell BK858.out 4).trans rfl
      have hcz7_5 : w4.cell? ⟨gb858, 5, none⟩ = some (.slice A0_5 l0_5.length c0_5) := (blk_cell BK858.out 5).trans rfl
      have hfz7_0 := blk_frozen BK858.out 0
      have hfz7_1 := blk_frozen BK858.out 1
      have hfz7_2 := blk_frozen BK858.out 2
      have hfz7_3 := blk_frozen BK858.out 3
      have hfz7_4 := blk_frozen BK858.out 4
      have hfz7_5 := blk_frozen BK858.out 5
      go_wp2_with (first | ((with_reducible refine gate_callee (f := 28) rfl ?_); refine goesL_ (some 17) rfl rfl Try.func28 (by kernel_rfl) rfl #[.agg #[.int .i64 a0_0, .int .i64 a0_1, .int .i64 a0_2, .int .i64 a0_3, .slice A0_4 l0_4.length c0_4, .slice A0_5 l0_5.length c0_5], .int .i64 20] rfl (by (try simp only [List.map_toArray, List.map_cons, List.map_nil]); first | done | rfl | (simp only [List.length_drop, List.length_take]; rfl)) ?_; (with_reducible refine (tutorref03_Big.calls a0_0 a0_1 a0_2 a0_3 _ _ l0_4 _ _ l0_5 20 true _ ?side1 ?side2 ?side3 ?side4 A5.out).mono ?_); (case side1 => repeat (first | exact (Kd.C_below HR0_4.out HB.out) | (with_reducible refine Kd.C_alloc ?_ _) | (with_reducible refine Kd.C_drewN ?_ _) | (with_reducible refine Kd.C_drew ?_))); (case side2 => exact HC0_4.out); (case side3 => repeat (first | exact (Kd.C_below HR0_5.out HB.out) | (with_reducible refine Kd.C_alloc ?_ _) | (with_reducible refine Kd.C_drewN ?_ _) | (with_reducible refine Kd.C_drew ?_))); (case side4 => exact HC0_5.out); rintro e w8 ⟨rfl, hb⟩; refine ⟨_, rfl, ?_⟩; have n0_ := Aside0.mk (blk_below (g := gb858) (o := .cells #[.int .i64 a0_0, .int .i64 a0_1, .int .i64 a0_2, .int .i64 a0_3, .slice A0_4 l0_4.length c0_4, .slice A0_5 l0_5.length c0_5] 43 (0, 0)) (by (with_reducible repeat (first | refine blk_drewN ?_ _ | refine blk_drew ?_ | refine blk_alloc ?_ _)); exact BK858.out) hb); have n1_ := Aside0.mk (below_step (by repeat (first | (with_reducible first | exact HB.out | apply below_alloc | apply pw_below_drewN | apply below_drew1 | refine below_set ?_ GE858.out) | exact HB.out)) hb); clear BK858; clear HB; have BK858 := n0_; have HB := n1_; clear n0_ n1_; (try clear hb); (try clear hb2); (try clear hk); (try clear hi)))
      go_meet
      case rel => exact ⟨_, (true), (by first | rfl | (simp; done) | (simp [*]; done)), H', ⟨by first | omega | exact Nat.le_refl _⟩, ⟨by (with_reducible repeat (first | refine blk_drewN ?_ _ | refine blk_drew ?_ | refine blk_alloc ?_ _)); exact BK858.out⟩, ⟨by repeat (first | (with_reducible first | exact HB.out | apply below_alloc | apply pw_below_drewN | apply below_drew1 | refine below_set ?_ GE858.out) | exact HB.out)⟩⟩
    · replace c6 := Bool.eq_false_iff.mpr c6
      subst c6
      have H1 : ((tutorref03_Right.f k a0_0 a0_1 a0_2 a0_3 l0_4 l0_5).bind fun t860 => (if t860 = true then (if a0_0 = 1 then (if a0_1 > 3 then (tutorlaw17_NfaHolds.j0 k a1 true a0_0 a0_1 a0_2 a0_3 l0_4 l0_5) else (if a1 < 0 then (tutorlaw17_NfaHolds.j0 k a1 true a0_0 a0_1 a0_2 a0_3 l0_4 l0_5) else (tutorlaw17_NfaHolds.j0 k a1 (decide (a1 > 6)) a0_0 a0_1 a0_2 a0_3 l0_4 l0_5))) else (tutorlaw17_NfaHolds.j0 k a1 true a0_0 a0_1 a0_2 a0_3 l0_4 l0_5)) else (tutorlaw17_NfaHolds.j0 k a1 true a0_0 a0_1 a0_2 a0_3 l0_4 l0_5))) = some r := by rw [if_neg (show ¬ (false = true) by decide)] at H; exact H
      clear H
      have H := H1
      clear H1
      replace H := Option.bind_eq_some_iff.mp H
      obtain ⟨t860, A90, H⟩ := H
      replace H : (if t860 = true then (if a0_0 = 1 then (if a0_1 > 3 then (tutorlaw17_NfaHolds.j0 k a1 true a0_0 a0_1 a0_2 a0_3 l0_4 l0_5) else (if a1 < 0 then (tutorlaw17_NfaHolds.j0 k a1 true a0_0 a0_1 a0_2 a0_3 l0_4 l0_5) else (tutorlaw17_NfaHolds.j0 k a1 (decide (a1 > 6)) a0_0 a0_1 a0_2 a0_3 l0_4 l0_5))) else (tutorlaw17_NfaHolds.j0 k a1 true a0_0 a0_1 a0_2 a0_3 l0_4 l0_5)) else (tutorlaw17_NfaHolds.j0 k a1 true a0_0 a0_1 a0_2 a0_3 l0_4 l0_5)) = some r := H
      have A9 := Aside0.mk A90
      clear A90
      by_cases c10 : t860 = true
      · subst c10
        have H1 : (if a0_0 = 1 then (if a0_1 > 3 then (tutorlaw17_NfaHolds.j0 k a1 true a0_0 a0_1 a0_2 a0_3 l0_4 l0_5) else (if a1 < 0 then (tutorlaw17_NfaHolds.j0 k a1 true a0_0 a0_1 a0_2 a0_3 l0_4 l0_5) else (tutorlaw17_NfaHolds.j0 k a1 (decide (a1 > 6)) a0_0 a0_1 a0_2 a0_3 l0_4 l0_5))) else (tutorlaw17_NfaHolds.j0 k a1 true a0_0 a0_1 a0_2 a0_3 l0_4 l0_5)) = some r := by rw [if_pos rfl] at H; exact H
        clear H
        have H := H1
        clear H1
        by_cases c11 : a0_0 = 1
        · rw [if_pos c11] at H
          have c11b0 : (a0_0 == 1) = true := beq_iff_eq.mpr c11
          have c11b1 : (a0_0 != 1) = false := bne_eq_false_iff_eq.mpr c11
          clear c11
          (first | rw [c11b0] | (simp only [i64_w, i32_w]; rw [c11b0]) | skip)
          by_cases c12 : a0_1 > 3
          · rw [if_pos c12] at H
            have c12b0 : decide (3 < a0_1) = true := decide_eq_true c12
            clear c12
            have H' := Aside0.mk H
            clear H
            have hcz13_0 : w4.cell? ⟨gb858, 0, none⟩ = some (.int .i64 a0_0) := (blk_cell BK858.out 0).trans rfl
            have hcz13_1 : w4.cell? ⟨gb858, 1, none⟩ = some (.int .i64 a0_1) := (blk_cell BK858.out 1).trans rfl
            have hcz13_2 : w4.cell? ⟨gb858, 2, none⟩ = some (.int .i64 a0_2) := (blk_cell BK858.out 2).trans rfl
            have hcz13_3 : w4.cell? ⟨gb858, 3, none⟩ = some (.int .i64 a0_3) := (blk_cell BK858.out 3).trans rfl
            have hcz13_4 : w4.cell? ⟨gb858, 4, none⟩ = some (.slice A0_4 l0_4.length c0_4) := (blk_cell BK858.out 4).trans rfl
            have hcz13_5 : w4.cell? ⟨gb858, 5, none⟩ = some (.slice A0_5 l0_5.length c0_5) := (blk_cell BK858.out 5).trans rfl
            have hfz13_0 := blk_frozen BK858.out 0
            have hfz13_1 := blk_frozen BK858.out 1
            have hfz13_2 := blk_frozen BK858.out 2
            have hfz13_3 := blk_frozen BK858.out 3
            have hfz13_4 := blk_frozen BK858.out 4
            have hfz13_5 := blk_frozen BK858.out 5
            go_wp2_with (first | ((with_reducible refine gate_callee (f := 28) rfl ?_); refine goesL_ (some 17) rfl rfl Try.func28 (by kernel_rfl) rfl #[.agg #[.int .i64 a0_0, .int .i64 a0_1, .int .i64 a0_2, .int .i64 a0_3, .slice A0_4 l0_4.length c0_4, .slice A0_5 l0_5.length c0_5], .int .i64 20] rfl (by (try simp only [List.map_toArray, List.map_cons, List.map_nil]); first | done | rfl | (simp only [List.length_drop, List.length_take]; rfl)) ?_; (with_reducible refine (tutorref03_Big.calls a0_0 a0_1 a0_2 a0_3 _ _ l0_4 _ _ l0_5 20 false _ ?side1 ?side2 ?side3 ?side4 A5.out).mono ?_); (case side1 => repeat (first | exact (Kd.C_below HR0_4.out HB.out) | (with_reducible refine Kd.C_alloc ?_ _) | (with_reducible refine Kd.C_drewN ?_ _) | (with_reducible refine Kd.C_drew ?_))); (case side2 => exact HC0_4.out); (case side3 => repeat (first | exact (Kd.C_below HR0_5.out HB.out) | (with_reducible refine Kd.C_alloc ?_ _) | (with_reducible refine Kd.C_drewN ?_ _) | (with_reducible refine Kd.C_drew ?_))); (case side4 => exact HC0_5.out); rintro e w14 ⟨rfl, hb⟩; refine ⟨_, rfl, ?_⟩; have n0_ := Aside0.mk (blk_below (g := gb858) (o := .cells #[.int .i64 a0_0, .int .i64 a0_1, .int .i64 a0_2, .int .i64 a0_3, .slice A0_4 l0_4.length c0_4, .slice A0_5 l0_5.length c0_5] 43 (0, 0)) (by (with_reducible repeat (first | refine blk_drewN ?_ _ | refine blk_drew ?_ | refine blk_alloc ?_ _)); exact BK858.out) hb); have n1_ := Aside0.mk (below_step (by repeat (first | (with_reducible first | exact HB.out | apply below_alloc | apply pw_below_drewN | apply below_drew1 | refine below_set ?_ GE858.out) | exact HB.out)) hb); clear BK858; clear HB; have BK858 := n0_; have HB := n1_; clear n0_ n1_; (try clear hb); (try clear hb2); (try clear hk); (try clear hi); have hcz15_0 : w14.cell? ⟨gb858, 0, none⟩ = some (.int .i64 a0_0) := (blk_cell BK858.out 0).trans rfl; have hcz15_1 : w14.cell? ⟨gb858, 1, none⟩ = some (.int .i64 a0_1) := (blk_cell BK858.out 1).trans rfl; have hcz15_2 : w14.cell? ⟨gb858, 2, none⟩ = some (.int .i64 a0_2) := (blk_cell BK858.out 2).trans rfl; have hcz15_3 : w14.cell? ⟨gb858, 3, none⟩ = some (.int .i64 a0_3) := (blk_cell BK858.out 3).trans rfl; have hcz15_4 : w14.cell? ⟨gb858, 4, none⟩ = some (.slice A0_4 l0_4.length c0_4) := (blk_cell BK858.out 4).trans rfl; have hcz15_5 : w14.cell? ⟨gb858, 5, none⟩ = some (.slice A0_5 l0_5.length c0_5) := (blk_cell BK858.out 5).trans rfl; have hfz15_0 := blk_frozen BK858.out 0; have hfz15_1 := blk_frozen BK858.out 1; have hfz15_2 := blk_frozen BK858.out 2; have hfz15_3 := blk_frozen BK858.out 3; have hfz15_4 := blk_frozen BK858.out 4; have hfz15_5 := blk_frozen BK858.out 5) | (go_at_call 27; (with_reducible refine (tutorref03_Right.calls k a0_0 a0_1 a0_2 a0_3 _ _ l0_4 _ _ l0_5 true _ ?side1 ?side2 ?side3 ?side4 A9.out).mono ?_); (case side1 => repeat (first | exact (Kd.C_below HR0_4.out HB.out) | (with_reducible refine Kd.C_alloc ?_ _) | (with_reducible refine Kd.C_drewN ?_ _) | (with_reducible refine Kd.C_drew ?_))); (case side2 => exact HC0_4.out); (case side3 => repeat (first | exact (Kd.C_below HR0_5.out HB.out) | (with_reducible refine Kd.C_alloc ?_ _) | (with_reducible refine Kd.C_drewN ?_ _) | (with_reducible refine Kd.C_drew ?_))); (case side4 => exact HC0_5.out); rintro e w16 ⟨rfl, hb⟩; have n0_ := Aside0.mk (blk_below (g := gb858) (o := .cells #[.int .i64 a0_0, .int .i64 a0_1, .int .i64 a0_2, .int .i64 a0_3, .slice A0_4 l0_4.length c0_4, .slice A0_5 l0_5.length c0_5] 43 (0, 0)) (by (with_reducible repeat (first | refine blk_drewN ?_ _ | refine blk_drew ?_ | refine blk_alloc ?_ _)); exact BK858.out) hb); have n1_ := Aside0.mk (below_step (by repeat (first | (with_reducible first | exact HB.out | apply below_alloc | apply pw_below_drewN | apply below_drew1 | refine below_set ?_ GE858.out) | exact HB.out)) hb); clear BK858; clear HB; have BK858 := n0_; have HB := n1_; clear n0_ n1_; (try clear hb); (try clear hb2); (try clear hk); (try clear hi); have hcz17_0 : w16.cell? ⟨gb858, 0, none⟩ = some (.int .i64 a0_0) := (blk_cell BK858.out 0).trans rfl; have hcz17_1 : w16.cell? ⟨gb858, 1, none⟩ = some (.int .i64 a0_1) := (blk_cell BK858.out 1).trans rfl; have hcz17_2 : w16.cell? ⟨gb858, 2, none⟩ = some (.int .i64 a0_2) := (blk_cell BK858.out 2).trans rfl; have hcz17_3 : w16.cell? ⟨gb858, 3, none⟩ = some (.int .i64 a0_3) := (blk_cell BK858.out 3).trans rfl; have hcz17_4 : w16.cell? ⟨gb858, 4, none⟩ = some (.slice A0_4 l0_4.length c0_4) := (blk_cell BK858.out 4).trans rfl; have hcz17_5 : w16.cell? ⟨gb858, 5, none⟩ = some (.slice A0_5 l0_5.length c0_5) := (blk_cell BK858.out 5).trans rfl; have hfz17_0 := blk_frozen BK858.out 0; have hfz17_1 := blk_frozen BK858.out 1; have hfz17_2 := blk_frozen BK858.out 2; have hfz17_3 := blk_frozen BK858.out 3; have hfz17_4 := blk_frozen BK858.out 4; have hfz17_5 := blk_frozen BK858.out 5))
            go_meet
            case rel => exact ⟨_, (true), (by first | rfl | (simp; done) | (simp [*]; done)), H', ⟨by first | omega | exact Nat.le_refl _⟩, ⟨by (with_reducible repeat (first | refine blk_drewN ?_ _ | refine blk_drew ?_ | refine blk_alloc ?_ _)); exact BK858.out⟩, ⟨by repeat (first | (with_reducible first | exact HB.out | apply below_alloc | apply pw_below_drewN | apply below_drew1 | refine below_set ?_ GE858.out) | exact HB.out)⟩⟩
          · rw [if_neg c12] at H
            have c12b0 : decide (3 < a0_1) = false := decide_eq_false c12
            clear c12
            by_cases c18 : a1 < 0
            · rw [if_pos c18] at H
              have c18b0 : decide (a1 < 0) = true := decide_eq_true c18
              clear c18
              have H' := Aside0.mk H
              clear H
              have hcz19_0 : w4.cell? ⟨gb858, 0, none⟩ = some (.int .i64 a0_0) := (blk_cell BK858.out 0).trans rfl
              have hcz19_1 : w4.cell? ⟨gb858, 1, none⟩ = some (.int .i64 a0_1) := (blk_cell BK858.out 1).trans rfl
              have hcz19_2 : w4.cell? ⟨gb858, 2, none⟩ = some (.int .i64 a0_2) := (blk_cell BK858.out 2).trans rfl
              have hcz19_3 : w4.cell? ⟨gb858, 3, none⟩ = some (.int .i64 a0_3) := (blk_cell BK858.out 3).trans rfl
              have hcz19_4 : w4.cell? ⟨gb858, 4, none⟩ = some (.slice A0_4 l0_4.length c0_4) := (blk_cell BK858.out 4).trans rfl
              have hcz19_5 : w4.cell? ⟨gb858, 5, none⟩ = some (.slice A0_5 l0_5.length c0_5) := (blk_cell BK858.out 5).trans rfl
              have hfz19_0 := blk_frozen BK858.out 0
              have hfz19_1 := blk_frozen BK858.out 1
              have hfz19_2 := blk_frozen BK858.out 2
              have hfz19_3 := blk_frozen BK858.out 3
              have hfz19_4 := blk_frozen BK858.out 4
              have hfz19_5 := blk_frozen BK858.out 5
              go_wp2_with (first | ((with_reducible refine gate_callee (f := 28) rfl ?_); refine goesL_ (some 17) rfl rfl Try.func28 (by kernel_rfl) rfl #[.agg #[.int .i64 a0_0, .int .i64 a0_1, .int .i64 a0_2, .int .i64 a0_3, .slice A0_4 l0_4.length c0_4, .slice A0_5 l0_5.length c0_5], .int .i64 20] rfl (by (try simp only [List.map_toArray, List.map_cons, List.map_nil]); first | done | rfl | (simp only [List.length_drop, List.length_take]; rfl)) ?_; (with_reducible refine (tutorref03_Big.calls a0_0 a0_1 a0_2 a0_3 _ _ l0_4 _ _ l0_5 20 false _ ?side1 ?side2 ?side3 ?side4 A5.out).mono ?_); (case side1 => repeat (first | exact (Kd.C_below HR0_4.out HB.out) | (with_reducible refine Kd.C_alloc ?_ _) | (with_reducible refine Kd.C_drewN ?_ _) | (with_reducible refine Kd.C_drew ?_))); (case side2 => exact HC0_4.out); (case side3 => repeat (first | exact (Kd.C_below HR0_5.out HB.out) | (with_reducible refine Kd.C_alloc ?_ _) | (with_reducible refine Kd.C_drewN ?_ _) | (with_reducible refine Kd.C_drew ?_))); (case side4 => exact HC0_5.out); rintro e w20 ⟨rfl, hb⟩; refine ⟨_, rfl, ?_⟩; have n0_ := Aside0.mk (blk_below (g := gb858) (o := .cells #[.int .i64 a0_0, .int .i64 a0_1, .int .i64 a0_2, .int .i64 a0_3, .slice A0_4 l0_4.length c0_4, .slice A0_5 l0_5.length c0_5] 43 (0, 0)) (by (with_reducible repeat (first | refine blk_drewN ?_ _ | refine blk_drew ?_ | refine blk_alloc ?_ _)); exact BK858.out) hb); have n1_ := Aside0.mk (below_step (by repeat (first | (with_reducible first | exact HB.out | apply below_alloc | apply pw_below_drewN | apply below_drew1 | refine below_set ?_ GE858.out) | exact HB.out)) hb); clear BK858; clear HB; have BK858 := n0_; have HB := n1_; clear n0_ n1_; (try clear hb); (try clear hb2); (try clear hk); (try clear hi); have hcz21_0 : w20.cell? ⟨gb858, 0, none⟩ = some (.int .i64 a0_0) := (blk_cell BK858.out 0).trans rfl; have hcz21_1 : w20.cell? ⟨gb858, 1, none⟩ = some (.int .i64 a0_1) := (blk_cell BK858.out 1).trans rfl; have hcz21_2 : w20.cell? ⟨gb858, 2, none⟩ = some (.int .i64 a0_2) := (blk_cell BK858.out 2).trans rfl; have hcz21_3 : w20.cell? ⟨gb858, 3, none⟩ = some (.int .i64 a0_3) := (blk_cell BK858.out 3).trans rfl; have hcz21_4 : w20.cell? ⟨gb858, 4, none⟩ = some (.slice A0_4 l0_4.length c0_4) := (blk_cell BK858.out 4).trans rfl; have hcz21_5 : w20.cell? ⟨gb858, 5, none⟩ = some (.slice A0_5 l0_5.length c0_5) := (blk_cell BK858.out 5).trans rfl; have hfz21_0 := blk_frozen BK858.out 0; have hfz21_1 := blk_frozen BK858.out 1; have hfz21_2 := blk_frozen BK858.out 2; have hfz21_3 := blk_frozen BK858.out 3; have hfz21_4 := blk_frozen BK858.out 4; have hfz21_5 := blk_frozen BK858.out 5) | (go_at_call 27; (with_reducible refine (tutorref03_Right.calls k a0_0 a0_1 a0_2 a0_3 _ _ l0_4 _ _ l0_5 true _ ?side1 ?side2 ?side3 ?side4 A9.out).mono ?_); (case side1 => repeat (first | exact (Kd.C_below HR0_4.out HB.out) | (with_reducible refine Kd.C_alloc ?_ _) | (with_reducible refine Kd.C_drewN ?_ _) | (with_reducible refine Kd.C_drew ?_))); (case side2 => exact HC0_4.out); (case side3 => repeat (first | exact (Kd.C_below HR0_5.out HB.out) | (with_reducible refine Kd.C_alloc ?_ _) | (with_reducible refine Kd.C_drewN ?_ _) | (with_reducible refine Kd.C_drew ?_))); (case side4 => exact HC0_5.out); rintro e w22 ⟨rfl, hb⟩; have n0_ := Aside0.mk (blk_below (g := gb858) (o := .cells #[.int .i64 a0_0, .int .i64 a0_1, .int .i64 a0_2, .int .i64 a0_3, .slice A0_4 l0_4.length c0_4, .slice A0_5 l0_5.length c0_5] 43 (0, 0)) (by (with_reducible repeat (first | refine blk_drewN ?_ _ | refine blk_drew ?_ | refine blk_alloc ?_ _)); exact BK858.out) hb); have n1_ := Aside0.mk (below_step (by repeat (first | (with_reducible first | exact HB.out | apply below_alloc | apply pw_below_drewN | apply below_drew1 | refine below_set ?_ GE858.out) | exact HB.out)) hb); clear BK858; clear HB; have BK858 := n0_; have HB := n1_; clear n0_ n1_; (try clear hb); (try clear hb2); (try clear hk); (try clear hi); have hcz23_0 : w22.cell? ⟨gb858, 0, none⟩ = some (.int .i64 a0_0) := (blk_cell BK858.out 0).trans rfl; have hcz23_1 : w22.cell? ⟨gb858, 1, none⟩ = some (.int .i64 a0_1) := (blk_cell BK858.out 1).trans rfl; have hcz23_2 : w22.cell? ⟨gb858, 2, none⟩ = some (.int .i64 a0_2) := (blk_cell BK858.out 2).trans rfl; have hcz23_3 : w22.cell? ⟨gb858, 3, none⟩ = some (.int .i64 a0_3) := (blk_cell BK858.out 3).trans rfl; have hcz23_4 : w22.cell? ⟨gb858, 4, none⟩ = some (.slice A0_4 l0_4.length c0_4) := (blk_cell BK858.out 4).trans rfl; have hcz23_5 : w22.cell? ⟨gb858, 5, none⟩ = some (.slice A0_5 l0_5.length c0_5) := (blk_cell BK858.out 5).trans rfl; have hfz23_0 := blk_frozen BK858.out 0; have hfz23_1 := blk_frozen BK858.out 1; have hfz23_2 := blk_frozen BK858.out 2; have hfz23_3 := blk_frozen BK858.out 3; have hfz23_4 := blk_frozen BK858.out 4; have hfz23_5 := blk_frozen BK858.out 5))
              go_meet
              case rel => exact ⟨_, (true), (by first | rfl | (simp; done) | (simp [*]; done)), H', ⟨by first | omega | exact Nat.le_refl _⟩, ⟨by (with_reducible repeat (first | refine blk_drewN ?_ _ | refine blk_drew ?_ | refine blk_alloc ?_ _)); exact BK858.out⟩, ⟨by repeat (first | (with_reducible first | exact HB.out | apply below_alloc | apply pw_below_drewN | apply below_drew1 | refine below_set ?_ GE858.out) | exact HB.out)⟩⟩
            · rw [if_neg c18] at H
              have c18b0 : decide (a1 < 0) = false := decide_eq_false c18
              clear c18
              have H' := Aside0.mk H
              clear H
              have hcz24_0 : w4.cell? ⟨gb858, 0, none⟩ = some (.int .i64 a0_0) := (blk_cell BK858.out 0).trans rfl
              have hcz24_1 : w4.cell? ⟨gb858, 1, none⟩ = some (.int .i64 a0_1) := (blk_cell BK858.out 1).trans rfl
              have hcz24_2 : w4.cell? ⟨gb858, 2, none⟩ = some (.int .i64 a0_2) := (blk_cell BK858.out 2).trans rfl
              have hcz24_3 : w4.cell? ⟨gb858, 3, none⟩ = some (.int .i64 a0_3) := (blk_cell BK858.out 3).trans rfl
              have hcz24_4 : w4.cell? ⟨gb858, 4, none⟩ = some (.slice A0_4 l0_4.length c0_4) := (blk_cell BK858.out 4).trans rfl
              have hcz24_5 : w4.cell? ⟨gb858, 5, none⟩ = some (.slice A0_5 l0_5.length c0_5) := (blk_cell BK858.out 5).trans rfl
              have hfz24_0 := blk_frozen BK858.out 0
              have hfz24_1 := blk_frozen BK858.out 1
              have hfz24_2 := blk_frozen BK858.out 2
              have hfz24_3 := blk_frozen BK858.out 3
              have hfz24_4 := blk_frozen BK858.out 4
              have hfz24_5 := blk_frozen BK858.out 5
              go_wp2_with (first | ((with_reducible refine gate_callee (f := 28) rfl ?_); refine goesL_ (some 17) rfl rfl Try.func28 (by kernel_rfl) rfl #[.agg #[.int .i64 a0_0, .int .i64 a0_1, .int .i64 a0_2, .int .i64 a0_3, .slice A0_4 l0_4.length c0_4, .slice A0_5 l0_5.length c0_5], .int .i64 20] rfl (by (try simp only [List.map_toArray, List.map_cons, List.map_nil]); first | done | rfl | (simp only [List.length_drop, List.length_take]; rfl)) ?_; (with_reducible refine (tutorref03_Big.calls a0_0 a0_1 a0_2 a0_3 _ _ l0_4 _ _ l0_5 20 false _ ?side1 ?side2 ?side3 ?side4 A5.out).mono ?_); (case side1 => repeat (first | exact (Kd.C_below HR0_4.out HB.out) | (with_reducible refine Kd.C_alloc ?_ _) | (with_reducible refine Kd.C_drewN ?_ _) | (with_reducible refine Kd.C_drew ?_))); (case side2 => exact HC0_4.out); (case side3 => repeat (first | exact (Kd.C_below HR0_5.out HB.out) | (with_reducible refine Kd.C_alloc ?_ _) | (with_reducible refine Kd.C_drewN ?_ _) | (with_reducible refine Kd.C_drew ?_))); (case side4 => exact HC0_5.out); rintro e w25 ⟨rfl, hb⟩; refine ⟨_, rfl, ?_⟩; have n0_ := Aside0.mk (blk_below (g := gb858) (o := .cells #[.int .i64 a0_0, .int .i64 a0_1, .int .i64 a0_2, .int .i64 a0_3, .slice A0_4 l0_4.length c0_4, .slice A0_5 l0_5.length c0_5] 43 (0, 0)) (by (with_reducible repeat (first | refine blk_drewN ?_ _ | refine blk_drew ?_ | refine blk_alloc ?_ _)); exact BK858.out) hb); have n1_ := Aside0.mk (below_step (by repeat (first | (with_reducible first | exact HB.out | apply below_alloc | apply pw_below_drewN | apply below_drew1 | refine below_set ?_ GE858.out) | exact HB.out)) hb); clear BK858; clear HB; have BK858 := n0_; have HB := n1_; clear n0_ n1_; (try clear hb); (try clear hb2); (try clear hk); (try clear hi); have hcz26_0 : w25.cell? ⟨gb858, 0, none⟩ = some (.int .i64 a0_0) := (blk_cell BK858.out 0).trans rfl; have hcz26_1 : w25.cell? ⟨gb858, 1, none⟩ = some (.int .i64 a0_1) := (blk_cell BK858.out 1).trans rfl; have hcz26_2 : w25.cell? ⟨gb858, 2, none⟩ = some (.int .i64 a0_2) := (blk_cell BK858.out 2).trans rfl; have hcz26_3 : w25.cell? ⟨gb858, 3, none⟩ = some (.int .i64 a0_3) := (blk_cell BK858.out 3).trans rfl; have hcz26_4 : w25.cell? ⟨gb858, 4, none⟩ = some (.slice A0_4 l0_4.length c0_4) := (blk_cell BK858.out 4).trans rfl; have hcz26_5 : w25.cell? ⟨gb858, 5, none⟩ = some (.slice A0_5 l0_5.length c0_5) := (blk_cell BK858.out 5).trans rfl; have hfz26_0 := blk_frozen BK858.out 0; have hfz26_1 := blk_frozen BK858.out 1; have hfz26_2 := blk_frozen BK858.out 2; have hfz26_3 := blk_frozen BK858.out 3; have hfz26_4 := blk_frozen BK858.out 4; have hfz26_5 := blk_frozen BK858.out 5) | (go_at_call 27; (with_reducible refine (tutorref03_Right.calls k a0_0 a0_1 a0_2 a0_3 _ _ l0_4 _ _ l0_5 true _ ?side1 ?side2 ?side3 ?side4 A9.out).mono ?_); (case side1 => repeat (first | exact (Kd.C_below HR0_4.out HB.out) | (with_reducible refine Kd.C_alloc ?_ _) | (with_reducible refine Kd.C_drewN ?_ _) | (with_reducible refine Kd.C_drew ?_))); (case side2 => exact HC0_4.out); (case side3 => repeat (first | exact (Kd.C_below HR0_5.out HB.out) | (with_reducible refine Kd.C_alloc ?_ _) | (with_reducible refine Kd.C_drewN ?_ _) | (with_reducible refine Kd.C_drew ?_))); (case side4 => exact HC0_5.out); rintro e w27 ⟨rfl, hb⟩; have n0_ := Aside0.mk (blk_below (g := gb858) (o := .cells #[.int .i64 a0_0, .int .i64 a0_1, .int .i64 a0_2, .int .i64 a0_3, .slice A0_4 l0_4.length c0_4, .slice A0_5 l0_5.length c0_5] 43 (0, 0)) (by (with_reducible repeat (first | refine blk_drewN ?_ _ | refine blk_drew ?_ | refine blk_alloc ?_ _)); exact BK858.out) hb); have n1_ := Aside0.mk (below_step (by repeat (first | (with_reducible first | exact HB.out | apply below_alloc | apply pw_below_drewN | apply below_drew1 | refine below_set ?_ GE858.out) | exact HB.out)) hb); clear BK858; clear HB; have BK858 := n0_; have HB := n1_; clear n0_ n1_; (try clear hb); (try clear hb2); (try clear hk); (try clear hi); have hcz28_0 : w27.cell? ⟨gb858, 0, none⟩ = some (.int .i64 a0_0) := (blk_cell BK858.out 0).trans rfl; have hcz28_1 : w27.cell? ⟨gb858, 1, none⟩ = some (.int .i64 a0_1) := (blk_cell BK858.out 1).trans rfl; have hcz28_2 : w27.cell? ⟨gb858, 2, none⟩ = some (.int .i64 a0_2) := (blk_cell BK858.out 2).trans rfl; have hcz28_3 : w27.cell? ⟨gb858, 3, none⟩ = some (.int .i64 a0_3) := (blk_cell BK858.out 3).trans rfl; have hcz28_4 : w27.cell? ⟨gb858, 4, none⟩ = some (.slice A0_4 l0_4.length c0_4) := (blk_cell BK858.out 4).trans rfl; have hcz28_5 : w27.cell? ⟨gb858, 5, none⟩ = some (.slice A0_5 l0_5.length c0_5) := (blk_cell BK858.out 5).trans rfl; have hfz28_0 := blk_frozen BK858.out 0; have hfz28_1 := blk_frozen BK858.out 1; have hfz28_2 := blk_frozen BK858.out 2; have hfz28_3 := blk_frozen BK858.out 3; have hfz28_4 := blk_frozen BK858.out 4; have hfz28_5 := blk_frozen BK858.out 5))
              go_meet
              case rel => exact ⟨_, (decide (a1 > 6)), (by first | rfl | (simp; done) | (simp [*]; done)), H', ⟨by first | omega | exact Nat.le_refl _⟩, ⟨by (with_reducible repeat (first | refine blk_drewN ?_ _ | refine blk_drew ?_ | refine blk_alloc ?_ _)); exact BK858.out⟩, ⟨by repeat (first | (with_reducible first | exact HB.out | apply below_alloc | apply pw_below_drewN | apply below_drew1 | refine below_set ?_ GE858.out) | exact HB.out)⟩⟩
        · rw [if_neg c11] at H
          have c11b0 : (a0_0 == 1) = false := beq_eq_false_iff_ne.mpr c11
          have c11b1 : (a0_0 != 1) = true := bne_iff_ne.mpr c11
          (first | rw [c11b0] | (simp only [i64_w, i32_w]; rw [c11b0]) | skip)
          have H' := Aside0.mk H
          clear H
          have hcz29_0 : w4.cell? ⟨gb858, 0, none⟩ = some (.int .i64 a0_0) := (blk_cell BK858.out 0).trans rfl
          have hcz29_1 : w4.cell? ⟨gb858, 1, none⟩ = some (.int .i64 a0_1) := (blk_cell BK858.out 1).trans rfl
          have hcz29_2 : w4.cell? ⟨gb858, 2, none⟩ = some (.int .i64 a0_2) := (blk_cell BK858.out 2).trans rfl
          have hcz29_3 : w4.cell? ⟨gb858, 3, none⟩ = some (.int .i64 a0_3) := (blk_cell BK858.out 3).trans rfl
          have hcz29_4 : w4.cell? ⟨gb858, 4, none⟩ = some (.slice A0_4 l0_4.length c0_4) := (blk_cell BK858.out 4).trans rfl
          have hcz29_5 : w4.cell? ⟨gb858, 5, none⟩ = some (.slice A0_5 l0_5.length c0_5) := (blk_cell BK858.out 5).trans rfl
          have hfz29_0 := blk_frozen BK858.out 0
          have hfz29_1 := blk_frozen BK858.out 1
          have hfz29_2 := blk_frozen BK858.out 2
          have hfz29_3 := blk_frozen BK858.out 3
          have hfz29_4 := blk_frozen BK858.out 4
          have hfz29_5 := blk_frozen BK858.out 5
          go_wp2_with (first | ((with_reducible refine gate_callee (f := 28) rfl ?_); refine goesL_ (some 17) rfl rfl Try.func28 (by kernel_rfl) rfl #[.agg #[.int .i64 a0_0, .int .i64 a0_1, .int .i64 a0_2, .int .i64 a0_3, .slice A0_4 l0_4.length c0_4, .slice A0_5 l0_5.length c0_5], .int .i64 20] rfl (by (try simp only [List.map_toArray, List.map_cons, List.map_nil]); first | done | rfl | (simp only [List.length_drop, List.length_take]; rfl)) ?_; (with_reducible refine (tutorref03_Big.calls a0_0 a0_1 a0_2 a0_3 _ _ l0_4 _ _ l0_5 20 false _ ?side1 ?side2 ?side3 ?side4 A5.out).mono ?_); (case side1 => repeat (first | exact (Kd.C_below HR0_4.out HB.out) | (with_reducible refine Kd.C_alloc ?_ _) | (with_reducible refine Kd.C_drewN ?_ _) | (with_reducible refine Kd.C_drew ?_))); (case side2 => exact HC0_4.out); (case side3 => repeat (first | exact (Kd.C_below HR0_5.out HB.out) | (with_reducible refine Kd.C_alloc ?_ _) | (with_reducible refine Kd.C_drewN ?_ _) | (with_reducible refine Kd.C_drew ?_))); (case side4 => exact HC0_5.out); rintro e w30 ⟨rfl, hb⟩; refine ⟨_, rfl, ?_⟩; have n0_ := Aside0.mk (blk_below (g := gb858) (o := .cells #[.int .i64 a0_0, .int .i64 a0_1, .int .i64 a0_2, .int .i64 a0_3, .slice A0_4 l0_4.length c0_4, .slice A0_5 l0_5.length c0_5] 43 (0, 0)) (by (with_reducible repeat (first | refine blk_drewN ?_ _ | refine blk_drew ?_ | refine blk_alloc ?_ _)); exact BK858.out) hb); have n1_ := Aside0.mk (below_step (by repeat (first | (with_reducible first | exact HB.out | apply below_alloc | apply pw_below_drewN | apply below_drew1 | refine below_set ?_ GE858.out) | exact HB.out)) hb); clear BK858; clear HB; have BK858 := n0_; have HB := n1_; clear n0_ n1_; (try clear hb); (try clear hb2); (try clear hk); (try clear hi); have hcz31_0 : w30.cell? ⟨gb858, 0, none⟩ = some (.int .i64 a0_0) := (blk_cell BK858.out 0).trans rfl; have hcz31_1 : w30.cell? ⟨gb858, 1, none⟩ = some (.int .i64 a0_1) := (blk_cell BK858.out 1).trans rfl; have hcz31_2 : w30.cell? ⟨gb858, 2, none⟩ = some (.int .i64 a0_2) := (blk_cell BK858.out 2).trans rfl; have hcz31_3 : w30.cell? ⟨gb858, 3, none⟩ = some (.int .i64 a0_3) := (blk_cell BK858.out 3).trans rfl; have hcz31_4 : w30.cell? ⟨gb858, 4, none⟩ = some (.slice A0_4 l0_4.length c0_4) := (blk_cell BK858.out 4).trans rfl; have hcz31_5 : w30.cell? ⟨gb858, 5, none⟩ = some (.slice A0_5 l0_5.length c0_5) := (blk_cell BK858.out 5).trans rfl; have hfz31_0 := blk_frozen BK858.out 0; have hfz31_1 := blk_frozen BK858.out 1; have hfz31_2 := blk_frozen BK858.out 2; have hfz31_3 := blk_frozen BK858.out 3; have hfz31_4 := blk_frozen BK858.out 4; have hfz31_5 := blk_frozen BK858.out 5) | (go_at_call 27; (with_reducible refine (tutorref03_Right.calls k a0_0 a0_1 a0_2 a0_3 _ _ l0_4 _ _ l0_5 true _ ?side1 ?side2 ?side3 ?side4 A9.out).mono ?_); (case side1 => repeat (first | exact (Kd.C_below HR0_4.out HB.out) | (with_reducible refine Kd.C_alloc ?_ _) | (with_reducible refine Kd.C_drewN ?_ _) | (with_reducible refine Kd.C_drew ?_))); (case side2 => exact HC0_4.out); (case side3 => repeat (first | exact (Kd.C_below HR0_5.out HB.out) | (with_reducible refine Kd.C_alloc ?_ _) | (with_reducible refine Kd.C_drewN ?_ _) | (with_reducible refine Kd.C_drew ?_))); (case side4 => exact HC0_5.out); rintro e w32 ⟨rfl, hb⟩; have n0_ := Aside0.mk (blk_below (g := gb858) (o := .cells #[.int .i64 a0_0, .int .i64 a0_1, .int .i64 a0_2, .int .i64 a0_3, .slice A0_4 l0_4.length c0_4, .slice A0_5 l0_5.length c0_5] 43 (0, 0)) (by (with_reducible repeat (first | refine blk_drewN ?_ _ | refine blk_drew ?_ | refine blk_alloc ?_ _)); exact BK858.out) hb); have n1_ := Aside0.mk (below_step (by repeat (first | (with_reducible first | exact HB.out | apply below_alloc | apply pw_below_drewN | apply below_drew1 | refine below_set ?_ GE858.out) | exact HB.out)) hb); clear BK858; clear HB; have BK858 := n0_; have HB := n1_; clear n0_ n1_; (try clear hb); (try clear hb2); (try clear hk); (try clear hi); have hcz33_0 : w32.cell? ⟨gb858, 0, none⟩ = some (.int .i64 a0_0) := (blk_cell BK858.out 0).trans rfl; have hcz33_1 : w32.cell? ⟨gb858, 1, none⟩ = some (.int .i64 a0_1) := (blk_cell BK858.out 1).trans rfl; have hcz33_2 : w32.cell? ⟨gb858, 2, none⟩ = some (.int .i64 a0_2) := (blk_cell BK858.out 2).trans rfl; have hcz33_3 : w32.cell? ⟨gb858, 3, none⟩ = some (.int .i64 a0_3) := (blk_cell BK858.out 3).trans rfl; have hcz33_4 : w32.cell? ⟨gb858, 4, none⟩ = some (.slice A0_4 l0_4.length c0_4) := (blk_cell BK858.out 4).trans rfl; have hcz33_5 : w32.cell? ⟨gb858, 5, none⟩ = some (.slice A0_5 l0_5.length c0_5) := (blk_cell BK858.out 5).trans rfl; have hfz33_0 := blk_frozen BK858.out 0; have hfz33_1 := blk_frozen BK858.out 1; have hfz33_2 := blk_frozen BK858.out 2; have hfz33_3 := blk_frozen BK858.out 3; have hfz33_4 := blk_frozen BK858.out 4; have hfz33_5 := blk_frozen BK858.out 5))
          go_meet
          case rel => exact ⟨_, (true), (by first | rfl | (simp; done) | (simp [*]; done)), H', ⟨by first | omega | exact Nat.le_refl _⟩, ⟨by (with_reducible repeat (first | refine blk_drewN ?_ _ | refine blk_drew ?_ | refine blk_alloc ?_ _)); exact BK858.out⟩, ⟨by repeat (first | (with_reducible first | exact HB.out | apply below_alloc | apply pw_below_drewN | apply below_drew1 | refine below_set ?_ GE858.out) | exact HB.out)⟩⟩
      · replace c10 := Bool.eq_false_iff.mpr c10
        subst c10
        have H1 : (tutorlaw17_NfaHolds.j0 k a1 true a0_0 a0_1 a0_2 a0_3 l0_4 l0_5) = some r := by rw [if_neg (show ¬ (false = true) by decide)] at H; exact H
        clear H
        have H := H1
        clear H1
        have H' := Aside0.mk H
        clear H
        have hcz34_0 : w4.cell? ⟨gb858, 0, none⟩ = some (.int .i64 a0_0) := (blk_cell BK858.out 0).trans rfl
        have hcz34_1 : w4.cell? ⟨gb858, 1, none⟩ = some (.int .i64 a0_1) := (blk_cell BK858.out 1).trans rfl
        have hcz34_2 : w4.cell? ⟨gb858, 2, none⟩ = some (.int .i64 a0_2) := (blk_cell BK858.out 2).trans rfl
        have hcz34_3 : w4.cell? ⟨gb858, 3, none⟩ = some (.int .i64 a0_3) := (blk_cell BK858.out 3).trans rfl
        have hcz34_4 : w4.cell? ⟨gb858, 4, none⟩ = some (.slice A0_4 l0_4.length c0_4) := (blk_cell BK858.out 4).trans rfl
        have hcz34_5 : w4.cell? ⟨gb858, 5, none⟩ = some (.slice A0_5 l0_5.length c0_5) := (blk_cell BK858.out 5).trans rfl
        have hfz34_0 := blk_frozen BK858.out 0
        have hfz34_1 := blk_frozen BK858.out 1
        have hfz34_2 := blk_frozen BK858.out 2
        have hfz34_3 := blk_frozen BK858.out 3
        have hfz34_4 := blk_frozen BK858.out 4
        have hfz34_5 := blk_frozen BK858.out 5
        go_wp2_with (first | ((with_reducible refine gate_callee (f := 28) rfl ?_); refine goesL_ (some 17) rfl rfl Try.func28 (by kernel_rfl) rfl #[.agg #[.int .i64 a0_0, .int .i64 a0_1, .int .i64 a0_2, .int .i64 a0_3, .slice A0_4 l0_4.length c0_4, .slice A0_5 l0_5.length c0_5], .int .i64 20] rfl (by (try simp only [List.map_toArray, List.map_cons, List.map_nil]); first | done | rfl | (simp only [List.length_drop, List.length_take]; rfl)) ?_; (with_reducible refine (tutorref03_Big.calls a0_0 a0_1 a0_2 a0_3 _ _ l0_4 _ _ l0_5 20 false _ ?side1 ?side2 ?side3 ?side4 A5.out).mono ?_); (case side1 => repeat (first | exact (Kd.C_below HR0_4.out HB.out) | (with_reducible refine Kd.C_alloc ?_ _) | (with_reducible refine Kd.C_drewN ?_ _) | (with_reducible refine Kd.C_drew ?_))); (case side2 => exact HC0_4.out); (case side3 => repeat (first | exact (Kd.C_below HR0_5.out HB.out) | (with_reducible refine Kd.C_alloc ?_ _) | (with_reducible refine Kd.C_drewN ?_ _) | (with_reducible refine Kd.C_drew ?_))); (case side4 => exact HC0_5.out); rintro e w35 ⟨rfl, hb⟩; refine ⟨_, rfl, ?_⟩; have n0_ := Aside0.mk (blk_below (g := gb858) (o := .cells #[.int .i64 a0_0, .int .i64 a0_1, .int .i64 a0_2, .int .i64 a0_3, .slice A0_4 l0_4.length c0_4, .slice A0_5 l0_5.length c0_5] 43 (0, 0)) (by (with_reducible repeat (first | refine blk_drewN ?_ _ | refine blk_drew ?_ | refine blk_alloc ?_ _)); exact BK858.out) hb); have n1_ := Aside0.mk (below_step (by repeat (first | (with_reducible first | exact HB.out | apply below_alloc | apply pw_below_drewN | apply below_drew1 | refine below_set ?_ GE858.out) | exact HB.out)) hb); clear BK858; clear HB; have BK858 := n0_; have HB := n1_; clear n0_ n1_; (try clear hb); (try clear hb2); (try clear hk); (try clear hi); have hcz36_0 : w35.cell? ⟨gb858, 0, none⟩ = some (.int .i64 a0_0) := (blk_cell BK858.out 0).trans rfl; have hcz36_1 : w35.cell? ⟨gb858, 1, none⟩ = some (.int .i64 a0_1) := (blk_cell BK858.out 1).trans rfl; have hcz36_2 : w35.cell? ⟨gb858, 2, none⟩ = some (.int .i64 a0_2) := (blk_cell BK858.out 2).trans rfl; have hcz36_3 : w35.cell? ⟨gb858, 3, none⟩ = some (.int .i64 a0_3) := (blk_cell BK858.out 3).trans rfl; have hcz36_4 : w35.cell? ⟨gb858, 4, none⟩ = some (.slice A0_4 l0_4.length c0_4) := (blk_cell BK858.out 4).trans rfl; have hcz36_5 : w35.cell? ⟨gb858, 5, none⟩ = some (.slice A0_5 l0_5.length c0_5) := (blk_cell BK858.out 5).trans rfl; have hfz36_0 := blk_frozen BK858.out 0; have hfz36_1 := blk_frozen BK858.out 1; have hfz36_2 := blk_frozen BK858.out 2; have hfz36_3 := blk_frozen BK858.out 3; have hfz36_4 := blk_frozen BK858.out 4; have hfz36_5 := blk_frozen BK858.out 5) | (go_at_call 27; (with_reducible refine (tutorref03_Right.calls k a0_0 a0_1 a0_2 a0_3 _ _ l0_4 _ _ l0_5 false _ ?side1 ?side2 ?side3 ?side4 A9.out).mono ?_); (case side1 => repeat (first | exact (Kd.C_below HR0_4.out HB.out) | (with_reducible refine Kd.C_alloc ?_ _) | (with_reducible refine Kd.C_drewN ?_ _) | (with_reducible refine Kd.C_drew ?_))); (case side2 => exact HC0_4.out); (case side3 => repeat (first | exact (Kd.C_below HR0_5.out HB.out) | (with_reducible refine Kd.C_alloc ?_ _) | (with_reducible refine Kd.C_drewN ?_ _) | (with_reducible refine Kd.C_drew ?_))); (case side4 => exact HC0_5.out); rintro e w37 ⟨rfl, hb⟩; have n0_ := Aside0.mk (blk_below (g := gb858) (o := .cells #[.int .i64 a0_0, .int .i64 a0_1, .int .i64 a0_2, .int .i64 a0_3, .slice A0_4 l0_4.length c0_4, .slice A0_5 l0_5.length c0_5] 43 (0, 0)) (by (with_reducible repeat (first | refine blk_drewN ?_ _ | refine blk_drew ?_ | refine blk_alloc ?_ _)); exact BK858.out) hb); have n1_ := Aside0.mk (below_step (by repeat (first | (with_reducible first | exact HB.out | apply below_alloc | apply pw_below_drewN | apply below_drew1 | refine below_set ?_ GE858.out) | exact HB.out)) hb); clear BK858; clear HB; have BK858 := n0_; have HB := n1_; clear n0_ n1_; (try clear hb); (try clear hb2); (try clear hk); (try clear hi)))
        go_meet
        case rel => exact ⟨_, (true), (by first | rfl | (simp; done) | (simp [*]; done)), H', ⟨by first | omega | exact Nat.le_refl _⟩, ⟨by (with_reducible repeat (first | refine blk_drewN ?_ _ | refine blk_drew ?_ | refine blk_alloc ?_ _)); exact BK858.out⟩, ⟨by repeat (first | (with_reducible first | exact HB.out | apply below_alloc | apply pw_below_drewN | apply below_drew1 | refine below_set ?_ GE858.out) | exact HB.out)⟩⟩
  case rest =>
    clear HC3
    try clear c1
    try clear c2
    try clear p2
    try clear c6
    try clear c10
    try clear c11
    try clear c11b0
    try clear c11b1
    try clear c12
    try clear c12b0
    try clear c18
    try clear c18b0
    try clear c28
    try clear hcz13_0
    try clear hcz13_1
    try clear hcz13_2
    try clear hcz13_3
    try clear hcz13_4
    try clear hcz13_5
    try clear hcz15_0
    try clear hcz15_1
    try clear hcz15_2
    try clear hcz15_3
    try clear hcz15_4
    try clear hcz15_5
    try clear hcz17_0
    try clear hcz17_1
    try clear hcz17_2
    try clear hcz17_3
    try clear hcz17_4
    try clear hcz17_5
    try clear hcz19_0
    try clear hcz19_1
    try clear hcz19_2
    try clear hcz19_3
    try clear hcz19_4
    try clear hcz19_5
    try clear hcz21_0
    try clear hcz21_1
    try clear hcz21_2
    try clear hcz21_3
    try clear hcz21_4
    try clear hcz21_5
    try clear hcz23_0
    try clear hcz23_1
    try clear hcz23_2
    try clear hcz23_3
    try clear hcz23_4
    try clear hcz23_5
    try clear hcz24_0
    try clear hcz24_1
    try clear hcz24_2
    try clear hcz24_3
    try clear hcz24_4
    try clear hcz24_5
    try clear hcz26_0
    try clear hcz26_1
    try clear hcz26_2
    try clear hcz26_3
    try clear hcz26_4
    try clear hcz26_5
    try clear hcz28_0
    try clear hcz28_1
    try clear hcz28_2
    try clear hcz28_3
    try clear hcz28_4
    try clear hcz28_5
    try clear hcz29_0
    try clear hcz29_1
    try clear hcz29_2
    try clear hcz29_3
    try clear hcz29_4
    try clear hcz29_5
    try clear hcz31_0
    try clear hcz31_1
    try clear hcz31_2
    try clear hcz31_3
    try clear hcz31_4
    try clear hcz31_5
    try clear hcz33_0
    try clear hcz33_1
    try clear hcz33_2
    try clear hcz33_3
    try clear hcz33_4
    try clear hcz33_5
    try clear hcz34_0
    try clear hcz34_1
    try clear hcz34_2
    try clear hcz34_3
    try clear hcz34_4
    try clear hcz34_5
    try clear hcz36_0
    try clear hcz36_1
    try clear hcz36_2
    try clear hcz36_3
    try clear hcz36_4
    try clear hcz36_5
    try clear hcz7_0
    try clear hcz7_1
    try clear hcz7_2
    try clear hcz7_3
    try clear hcz7_4
    try clear hcz7_5
    try clear hfz13_0
    try clear hfz13_1
    try clear hfz13_2
    try clear hfz13_3
    try clear hfz13_4
    try clear hfz13_5
    try clear hfz15_0
    try clear hfz15_1
    try clear hfz15_2
    try clear hfz15_3
    try clear hfz15_4
    try clear hfz15_5
    try clear hfz17_0
    try clear hfz17_1
    try clear hfz17_2
    try clear hfz17_3
    try clear hfz17_4
    try clear hfz17_5
    try clear hfz19_0
    try clear hfz19_1
    try clear hfz19_2
    try clear hfz19_3
    try clear hfz19_4
    try clear hfz19_5
    try clear hfz21_0
    try clear hfz21_1
    try clear hfz21_2
    try clear hfz21_3
    try clear hfz21_4
    try clear hfz21_5
    try clear hfz23_0
    try clear hfz23_1
    try clear hfz23_2
    try clear hfz23_3
    try clear hfz23_4
    try clear hfz23_5
    try clear hfz24_0
    try clear hfz24_1
    try clear hfz24_2
    try clear hfz24_3
    try clear hfz24_4
    try clear hfz24_5
    try clear hfz26_0
    try clear hfz26_1
    try clear hfz26_2
    try clear hfz26_3
    try clear hfz26_4
    try clear hfz26_5
    try clear hfz28_0
    try clear hfz28_1
    try clear hfz28_2
    try clear hfz28_3
    try clear hfz28_4
    try clear hfz28_5
    try clear hfz29_0
    try clear hfz29_1
    try clear hfz29_2
    try clear hfz29_3
    try clear hfz29_4
    try clear hfz29_5
    try clear hfz31_0
    try clear hfz31_1
    try clear hfz31_2
    try clear hfz31_3
    try clear hfz31_4
    try clear hfz31_5
    try clear hfz33_0
    try clear hfz33_1
    try clear hfz33_2
    try clear hfz33_3
    try clear hfz33_4
    try clear hfz33_5
    try clear hfz34_0
    try clear hfz34_1
    try clear hfz34_2
    try clear hfz34_3
    try clear hfz34_4
    try clear hfz34_5
    try clear hfz36_0
    try clear hfz36_1
    try clear hfz36_2
    try clear hfz36_3
    try clear hfz36_4
    try clear hfz36_5
    try clear hfz7_0
    try clear hfz7_1
    try clear hfz7_2
    try clear hfz7_3
    try clear hfz7_4
    try clear hfz7_5
    obtain ⟨kq, x40_2, rfl, HA, HJ2, BK858, HB⟩ := hcut
    cases kq with
    | zero => exact absurd HA.out (by simp [tutorlaw17_NfaHolds.j0])
    | succ kj2 =>
      have H := HA.out
      clear HA
      simp only [tutorlaw17_NfaHolds.j0] at H
      by_cases c38 : x40_2 = true
      · subst c38
        have H1 : ((tutorlaw17_live.f).bind fun t861 => (some t861)) = some r := by rw [if_pos rfl] at H; exact H
        clear H
        have H := H1
        clear H1
        replace H := Option.bind_eq_some_iff.mp H
        obtain ⟨t861, A390, H⟩ := H
        replace H : (some t861) = some r := H
        have A39 := Aside0.mk A390
        clear A390
        obtain rfl := Option.some.inj H
        go_wp2_with (first | ((with_reducible refine gate_callee (f := 13) rfl ?_); refine goesL_ (some 41) rfl rfl Try.func13 (by kernel_rfl) rfl #[] rfl (by (try simp only [List.map_toArray, List.map_cons, List.map_nil]); first | done | rfl | (simp only [List.length_drop, List.length_take]; rfl)) ?_; (with_reducible refine (tutorlaw17_live.calls  t861 _ A39.out).mono ?_); rintro e w40 ⟨rfl, hb⟩; refine ⟨_, rfl, ?_⟩; have n0_ := Aside0.mk (blk_below (g := gb858) (o := .cells #[.int .i64 a0_0, .int .i64 a0_1, .int .i64 a0_2, .int .i64 a0_3, .slice A0_4 l0_4.length c0_4, .slice A0_5 l0_5.length c0_5] 43 (0, 0)) (by (with_reducible repeat (first | refine blk_drewN ?_ _ | refine blk_drew ?_ | refine blk_alloc ?_ _)); exact BK858.out) hb); have n1_ := Aside0.mk (below_step (by repeat (first | (with_reducible first | exact HB.out | apply below_alloc | apply pw_below_drewN | apply below_drew1 | refine below_set ?_ GE858.out) | exact HB.out)) hb); clear BK858; clear HB; have BK858 := n0_; have HB := n1_; clear n0_ n1_; (try clear hb); (try clear hb2); (try clear hk); (try clear hi)))
        go_ret
        exact ⟨by first | rfl | (simp [errW_none, errW_some] <;> rfl) | (simp [*, errW_none, errW_some] <;> rfl), by repeat (first | (with_reducible first | exact HB.out | apply below_alloc | apply pw_below_drewN | apply below_drew1 | refine below_set ?_ GE858.out) | exact HB.out)⟩
      · replace c38 := Bool.eq_false_iff.mpr c38
        subst c38
        have H1 : ((nfa_Least.f kj2 a0_0 a0_1 a0_2 a0_3 l0_4 l0_5).bind fun bt862 => (if 0 ≤ a1 then (if (a1 : Int).toNat ≤ 35184372088832 then (tutorlaw17_NfaHolds.l0 kj2 a1 0 bt862.1 bt862.2.1 bt862.2.2 (List.replicate (a1 : Int).toNat 0) a0_0 a0_1 a0_2 a0_3 l0_4 l0_5) else (none)) else (none))) = some r := by rw [if_neg (show ¬ (false = true) by decide)] at H; exact H
        clear H
        have H := H1
        clear H1
        replace H := Option.bind_eq_some_iff.mp H
        obtain ⟨⟨t862, t865, t866⟩, A410, H⟩ := H
        replace H : (if 0 ≤ a1 then (if (a1 : Int).toNat ≤ 35184372088832 then (tutorlaw17_NfaHolds.l0 kj2 a1 0 t862 t865 t866 (List.replicate (a1 : Int).toNat 0) a0_0 a0_1 a0_2 a0_3 l0_4 l0_5) else (none)) else (none)) = some r := H
        have A41 := Aside0.mk A410
        clear A410
        by_cases c42 : 0 ≤ a1
        · rw [if_pos c42] at H
          have c42b0 := eq_true c42
          have c42b1 : decide (0 ≤ a1) = true := decide_eq_true c42
          clear c42
          by_cases c43 : (a1 : Int).toNat ≤ 35184372088832
          · rw [if_pos c43] at H
            have c43b0 := eq_true c43
            have c43b1 : decide ((a1 : Int).toNat ≤ 35184372088832) = true := decide_eq_true c43
            clear c43
            obtain ⟨y867, hy867⟩ : ∃ y_ : List Int, y_ = (List.replicate (a1 : Int).toNat 0) := ⟨_, rfl⟩
            replace H : (tutorlaw17_NfaHolds.l0 kj2 a1 0 t862 t865 t866 y867 a0_0 a0_1 a0_2 a0_3 l0_4 l0_5) = some r := by first | (rw [hy867]; with_reducible exact H) | (have H2_ := (Option.bind_some _ _).symm.trans H; rw [hy867]; with_reducible exact H2_) | (have H2_ := (Option.bind_some _ _).symm.trans H; with_reducible exact H2_) | with_reducible exact H | (rw [hy867]; exact H) | exact H
            have Ny867 := Aside0.mk hy867
            clear hy867
            have H' := Aside0.mk H
            clear H
            have hcz44_0 : wc.cell? ⟨gb858, 0, none⟩ = some (.int .i64 a0_0) := (blk_cell BK858.out 0).trans rfl
            have hcz44_1 : wc.cell? ⟨gb858, 1, none⟩ = some (.int .i64 a0_1) := (blk_cell BK858.out 1).trans rfl
            have hcz44_2 : wc.cell? ⟨gb858, 2, none⟩ = some (.int .i64 a0_2) := (blk_cell BK858.out 2).trans rfl
            have hcz44_3 : wc.cell? ⟨gb858, 3, none⟩ = some (.int .i64 a0_3) := (blk_cell BK858.out 3).trans rfl
            have hcz44_4 : wc.cell? ⟨gb858, 4, none⟩ = some (.slice A0_4 l0_4.length c0_4) := (blk_cell BK858.out 4).trans rfl
            have hcz44_5 : wc.cell? ⟨gb858, 5, none⟩ = some (.slice A0_5 l0_5.length c0_5) := (blk_cell BK858.out 5).trans rfl
            have hfz44_0 := blk_frozen BK858.out 0
            have hfz44_1 := blk_frozen BK858.out 1
            have hfz44_2 := blk_frozen BK858.out 2
            have hfz44_3 := blk_frozen BK858.out 3
            have hfz44_4 := blk_frozen BK858.out 4
            have hfz44_5 := blk_frozen BK858.out 5
            go_wp2_with (first | ((with_reducible refine gate_callee (f := 36) rfl ?_); refine goesL_ (some 44) rfl rfl Try.func36 (by kernel_rfl) rfl #[.agg #[.int .i64 a0_0, .int .i64 a0_1, .int .i64 a0_2, .int .i64 a0_3, .slice A0_4 l0_4.length c0_4, .slice A0_5 l0_5.length c0_5]] rfl (by (try simp only [List.map_toArray, List.map_cons, List.map_nil]); first | done | rfl | (simp only [List.length_drop, List.length_take]; rfl)) ?_; (with_reducible refine (nfa_Least.calls kj2 a0_0 a0_1 a0_2 a0_3 _ _ l0_4 _ _ l0_5 t862 t865 t866 _ ?side1 ?side2 ?side3 ?side4 A41.out).mono ?_); (case side1 => repeat (first | exact (Kd.C_below HR0_4.out HB.out) | (with_reducible refine Kd.C_alloc ?_ _) | (with_reducible refine Kd.C_drewN ?_ _) | (with_reducible refine Kd.C_drew ?_))); (case side2 => exact HC0_4.out); (case side3 => repeat (first | exact (Kd.C_below HR0_5.out HB.out) | (with_reducible refine Kd.C_alloc ?_ _) | (with_reducible refine Kd.C_drewN ?_ _) | (with_reducible refine Kd.C_drew ?_))); (case side4 => exact HC0_5.out); rintro e w45 ⟨v863, rfl, ho0, hb⟩; refine ⟨_, rfl, ?_⟩; have n0_ := Aside0.mk (Kd.R_lower ho0 (below_size (by repeat (first | (with_reducible first | exact HB.out | apply below_alloc | apply pw_below_drewN | apply below_drew1 | refine below_set ?_ GE858.out) | exact HB.out)))); have n1_ := Aside0.mk (blk_below (g := gb858) (o := .cells #[.int .i64 a0_0, .int .i64 a0_1, .int .i64 a0_2, .int .i64 a0_3, .slice A0_4 l0_4.length c0_4, .slice A0_5 l0_5.length c0_5] 43 (0, 0)) (by (with_reducible repeat (first | refine blk_drewN ?_ _ | refine blk_drew ?_ | refine blk_alloc ?_ _)); exact BK858.out) hb); have n2_ := Aside0.mk (below_step (by repeat (first | (with_reducible first | exact HB.out | apply below_alloc | apply pw_below_drewN | apply below_drew1 | refine below_set ?_ GE858.out) | exact HB.out)) hb); clear BK858; clear HB; have HO864 := n0_; have BK858 := n1_; have HB := n2_; clear n0_ n1_ n2_; (try clear hb); (try clear hb2); (try clear hk); (try clear hi); (try clear ho0)) | ((with_reducible refine gate_dst (N := 49) rfl ?_); refine Kd.R_make (Kd.int .i64) _ 3 rfl (N := 49) rfl 22 _ _ rfl a1 rfl rfl Try.underlying22 (.int .i64 0) 8 info3 rfl (by decide) (by omega) 0 (ok := fun _ => True) (okp := fun _ => True) rfl (fun _ hk => hk) trivial (of_decide_eq_true (by first | (with_reducible assumption) | assumption)) (Nat.le_trans (Nat.mul_le_mul_right _ (of_decide_eq_true (by first | (with_reducible assumption) | assumption) : a1.toNat ≤ 35184372088832)) (by omega)) (Below.refl _ _) (Nat.le_refl _) ?_; intro v868 w46 ho47 hb hg_ hnew_; clear hg_ hnew_; (first | rw [← Ny867.out] at ho47 | (simp only [Int.reduceToNat] at ho47; rw [← Ny867.out] at ho47)); have n0_ := Aside0.mk (Kd.R_elder' (by (with_reducible repeat (first | apply Kd.R_alloc | apply Kd.R_drewN | apply Kd.R_drew)); exact HO864.out) (Kd.R_base ho47) hb); have n1_ := Aside0.mk (Kd.R_lower (Kd.R_new' ho47 (Kd.R_lt (by (with_reducible repeat (first | apply Kd.R_alloc | apply Kd.R_drewN | apply Kd.R_drew)); exact HO864.out))) (below_size (by repeat (first | (with_reducible first | exact HB.out | apply below_alloc | apply pw_below_drewN | apply below_drew1 | refine below_set ?_ GE858.out) | exact HB.out)))); have n2_ := Aside0.mk (blk_below (g := gb858) (o := .cells #[.int .i64 a0_0, .int .i64 a0_1, .int .i64 a0_2, .int .i64 a0_3, .slice A0_4 l0_4.length c0_4, .slice A0_5 l0_5.length c0_5] 43 (0, 0)) (by (with_reducible repeat (first | refine blk_drewN ?_ _ | refine blk_drew ?_ | refine blk_alloc ?_ _)); exact BK858.out) hb); have n3_ := Aside0.mk (below_step (by repeat (first | (with_reducible first | exact HB.out | apply below_alloc | apply pw_below_drewN | apply below_drew1 | refine below_set ?_ GE858.out) | exact HB.out)) hb); clear HO864; clear BK858; clear HB; have HO864 := n0_; have HO869 := n1_; have BK858 := n2_; have HB := n3_; clear n0_ n1_ n2_ n3_; clear hb ho47))
            go_loopg [5, 9] kj2 (fun kq v5 v9 w' => ∃ (x5_2 : Int) (x9_2 : List Int), v5 = .int .i64 x5_2 ∧ Aside0 (tutorlaw17_NfaHolds.l0 kq a1 x5_2 t862 t865 t866 x9_2 a0_0 a0_1 a0_2 a0_3 l0_4 l0_5 = some r) ∧ Aside0 (kq ≤ kj2) ∧ Aside0 (Kd.R (Kd.int .i64) 3 w' w.heap.size (fun k_ => some k_ ≠ (v9 : Value).ownBlock) v863 t862) ∧ Aside0 (Kd.R (Kd.int .i64) 3 w' w.heap.size (fun k_ => some k_ ≠ (v863 : Value).ownBlock) v9 x9_2) ∧ Aside0 (w'.heap[gb858]? = some (.cells #[.int .i64 a0_0, .int .i64 a0_1, .int .i64 a0_2, .int .i64 a0_3, (.slice A0_4 l0_4.length c0_4), (.slice A0_5 l0_5.length c0_5)] 43 (0, 0))) ∧ Aside0 (Below w.heap.size w w'))
            case atStart => exact ⟨(0), (y867), (by first | rfl | (simp; done) | (simp [*]; done)), H', ⟨Nat.le_refl _⟩, ⟨by (with_reducible repeat (first | apply Kd.R_alloc | apply Kd.R_drewN | apply Kd.R_drew)); exact Kd.R_mono HO864.out (fun _ hk => hk.2)⟩, ⟨by (with_reducible repeat (first | apply Kd.R_alloc | apply Kd.R_drewN | apply Kd.R_drew)); exact Kd.R_mono HO869.out (fun _ hk => hk.2)⟩, ⟨by (with_reducible repeat (first | refine blk_drewN ?_ _ | refine blk_drew ?_ | refine blk_alloc ?_ _)); exact BK858.out⟩, ⟨by repeat (first | (with_reducible first | exact HB.out | apply below_alloc | apply pw_below_drewN | apply below_drew1 | refine below_set ?_ GE858.out) | exact HB.out)⟩⟩
            case round =>
              clear H'
              try clear c1
              try clear c2
              try clear p2
              try clear c3
              try clear c4
              try clear c6
              try clear c10
              try clear c11
              try clear c11b0
              try clear c11b1
              try clear c12
              try clear c12b0
              try clear c13
              try clear c18
              try clear c18b0
              try clear c28
              try clear c36
              try clear c38
              try clear c42
              try clear c42b0
              try clear c42b1
              try clear c43
              try clear c43b0
              try clear c43b1
              try clear hcz13_0
              try clear hcz13_1
              try clear hcz13_2
              try clear hcz13_3
              try clear hcz13_4
              try clear hcz13_5
              try clear hcz15_0
              try clear hcz15_1
              try clear hcz15_2
              try clear hcz15_3
              try clear hcz15_4
              try clear hcz15_5
              try clear hcz17_0
              try clear hcz17_1
              try clear hcz17_2
              try clear hcz17_3
              try clear hcz17_4
              try clear hcz17_5
              try clear hcz19_0
              try clear hcz19_1
              try clear hcz19_2
              try clear hcz19_3
              try clear hcz19_4
              try clear hcz19_5
              try clear hcz21_0
              try clear hcz21_1
              try clear hcz21_2
              try clear hcz21_3
              try clear hcz21_4
              try clear hcz21_5
              try clear hcz23_0
              try clear hcz23_1
              try clear hcz23_2
              try clear hcz23_3
              try clear hcz23_4
              try clear hcz23_5
              try clear hcz24_0
              try clear hcz24_1
              try clear hcz24_2
              try clear hcz24_3
              try clear hcz24_4
              try clear hcz24_5
              try clear hcz26_0
              try clear hcz26_1
              try clear hcz26_2
              try clear hcz26_3
              try clear hcz26_4
              try clear hcz26_5
              try clear hcz28_0
              try clear hcz28_1
              try clear hcz28_2
              try clear hcz28_3
              try clear hcz28_4
              try clear hcz28_5
              try clear hcz29_0
              try clear hcz29_1
              try clear hcz29_2
              try clear hcz29_3
              try clear hcz29_4
              try clear hcz29_5
              try clear hcz31_0
              try clear hcz31_1
              try clear hcz31_2
              try clear hcz31_3
              try clear hcz31_4
              try clear hcz31_5
              try clear hcz33_0
              try clear hcz33_1
              try clear hcz33_2
              try clear hcz33_3
              try clear hcz33_4
              try clear hcz33_5
              try clear hcz34_0
              try clear hcz34_1
              try clear hcz34_2
              try clear hcz34_3
              try clear hcz34_4
              try clear hcz34_5
              try clear hcz36_0
              try clear hcz36_1
              try clear hcz36_2
              try clear hcz36_3
              try clear hcz36_4
              try clear hcz36_5
              try clear hcz44_0
              try clear hcz44_1
              try clear hcz44_2
              try clear hcz44_3
              try clear hcz44_4
              try clear hcz44_5
              try clear hcz7_0
              try clear hcz7_1
              try clear hcz7_2
              try clear hcz7_3
              try clear hcz7_4
              try clear hcz7_5
              try clear hfz13_0
              try clear hfz13_1
              try clear hfz13_2
              try clear hfz13_3
              try clear hfz13_4
              try clear hfz13_5
              try clear hfz15_0
              try clear hfz15_1
              try clear hfz15_2
              try clear hfz15_3
              try clear hfz15_4
              try clear hfz15_5
              try clear hfz17_0
              try clear hfz17_1
              try clear hfz17_2
              try clear hfz17_3
              try clear hfz17_4
              try clear hfz17_5
              try clear hfz19_0
              try clear hfz19_1
              try clear hfz19_2
              try clear hfz19_3
              try clear hfz19_4
              try clear hfz19_5
              try clear hfz21_0
              try clear hfz21_1
              try clear hfz21_2
              try clear hfz21_3
              try clear hfz21_4
              try clear hfz21_5
              try clear hfz23_0
              try clear hfz23_1
              try clear hfz23_2
              try clear hfz23_3
              try clear hfz23_4
              try clear hfz23_5
              try clear hfz24_0
              try clear hfz24_1
              try clear hfz24_2
              try clear hfz24_3
              try clear hfz24_4
              try clear hfz24_5
              try clear hfz26_0
              try clear hfz26_1
              try clear hfz26_2
              try clear hfz26_3
              try clear hfz26_4
              try clear hfz26_5
              try clear hfz28_0
              try clear hfz28_1
              try clear hfz28_2
              try clear hfz28_3
              try clear hfz28_4
              try clear hfz28_5
              try clear hfz29_0
              try clear hfz29_1
              try clear hfz29_2
              try clear hfz29_3
              try clear hfz29_4
              try clear hfz29_5
              try clear hfz31_0
              try clear hfz31_1
              try clear hfz31_2
              try clear hfz31_3
              try clear hfz31_4
              try clear hfz31_5
              try clear hfz33_0
              try clear hfz33_1
              try clear hfz33_2
              try clear hfz33_3
              try clear hfz33_4
              try clear hfz33_5
              try clear hfz34_0
              try clear hfz34_1
              try clear hfz34_2
              try clear hfz34_3
              try clear hfz34_4
              try clear hfz34_5
              try clear hfz36_0
              try clear hfz36_1
              try clear hfz36_2
              try clear hfz36_3
              try clear hfz36_4
              try clear hfz36_5
              try clear hfz44_0
              try clear hfz44_1
              try clear hfz44_2
              try clear hfz44_3
              try clear hfz44_4
              try clear hfz44_5
              try clear hfz7_0
              try clear hfz7_1
              try clear hfz7_2
              try clear hfz7_3
              try clear hfz7_4
              try clear hfz7_5
              try clear p2
              obtain ⟨x5_2, x9_2, rfl, HA, HK2, HO_6, HO_9, BK858, HB⟩ := hrel
              cases gk with
              | zero => exact absurd HA.out (by simp [tutorlaw17_NfaHolds.l0])
              | succ k2 =>
                have H := HA.out
                clear HA
                simp only [tutorlaw17_NfaHolds.l0] at H
                by_cases c48 : (x9_2.length : Int) = a1
                · rw [if_pos c48] at H
                  have c48b0 : ((x9_2.length : Int) == a1) = true := beq_iff_eq.mpr c48
                  have c48b1 : ((x9_2.length : Int) != a1) = false := bne_eq_false_iff_eq.mpr c48
                  clear c48
                  replace H := Option.bind_eq_some_iff.mp H
                  obtain ⟨⟨t870, t873⟩, A490, H⟩ := H
                  replace H : (if 0 < (t870.length : Int) then (if (rd t870 0) = 1 then (if t865 = true then ((tutorref01_Ahead.f k2 x9_2 t862).bind fun t875 => (if t875 = true then (some false) else ((tutorref01_Next.f k2 x9_2 a0_1).bind fun bt876 => (tutorlaw17_NfaHolds.l0 k2 a1 (wrap64 (x5_2 + 1)) t862 t865 t866 bt876.1 a0_0 a0_1 a0_2 a0_3 l0_4 l0_5)))) else (some false)) else ((tutorref01_Next.f k2 x9_2 a0_1).bind fun bt880 => (tutorlaw17_NfaHolds.l0 k2 a1 x5_2 t862 t865 t866 bt880.1 a0_0 a0_1 a0_2 a0_3 l0_4 l0_5))) else (none)) = some r := H
                  have A49 := Aside0.mk A490
                  clear A490
                  by_cases c50 : 0 < (t870.length : Int)
                  · rw [if_pos c50] at H
                    have c50b0 : decide (0 < (t870.length : Int)) = true := decide_eq_true c50
                    have c50b1 : decide (0 < t870.length) = true := decide_eq_true (by omega)
                    clear c50
                    by_cases c51 : (rd t870 0) = 1
                    · rw [if_pos c51] at H
                      have c51b0 : ((rd t870 0) == 1) = true := beq_iff_eq.mpr c51
                      have c51b1 : ((rd t870 0) != 1) = false := bne_eq_false_iff_eq.mpr c51
                      clear c51
                      by_cases c52 : t865 = true
                      · subst c52
                        have H1 : ((tutorref01_Ahead.f k2 x9_2 t862).bind fun t875 => (if t875 = true then (some false) else ((tutorref01_Next.f k2 x9_2 a0_1).bind fun bt876 => (tutorlaw17_NfaHolds.l0 k2 a1 (wrap64 (x5_2 + 1)) t862 true t866 bt876.1 a0_0 a0_1 a0_2 a0_3 l0_4 l0_5)))) = some r := by rw [if_pos rfl] at H; exact H
                        clear H
                        have H := H1
                        clear H1
                        replace H := Option.bind_eq_some_iff.mp H
                        obtain ⟨t875, A530, H⟩ := H
                        replace H : (if t875 = true then (some false) else ((tutorref01_Next.f k2 x9_2 a0_1).bind fun bt876 => (tutorlaw17_NfaHolds.l0 k2 a1 (wrap64 (x5_2 + 1)) t862 true t866 bt876.1 a0_0 a0_1 a0_2 a0_3 l0_4 l0_5))) = some r := H
                        have A53 := Aside0.mk A530
                        clear A530
                        by_cases c54 : t875 = true
                        · subst c54
                          have H1 : (some false) = some r := by rw [if_pos rfl] at H; exact H
                          clear H
                          have H := H1
                          clear H1
                          obtain rfl := Option.some.inj H
                          obtain ⟨Ao55, co55, eo55⟩ := Kd.R_slice HO_9.out
                          subst eo55
                          have hcz56_0 : wr.cell? ⟨gb858, 0, none⟩ = some (.int .i64 a0_0) := (blk_cell BK858.out 0).trans rfl
                          have hcz56_1 : wr.cell? ⟨gb858, 1, none⟩ = some (.int .i64 a0_1) := (blk_cell BK858.out 1).trans rfl
                          have hcz56_2 : wr.cell? ⟨gb858, 2, none⟩ = some (.int .i64 a0_2) := (blk_cell BK858.out 2).trans rfl
                          have hcz56_3 : wr.cell? ⟨gb858, 3, none⟩ = some (.int .i64 a0_3) := (blk_cell BK858.out 3).trans rfl
                          have hcz56_4 : wr.cell? ⟨gb858, 4, none⟩ = some (.slice A0_4 l0_4.length c0_4) := (blk_cell BK858.out 4).trans rfl
                          have hcz56_5 : wr.cell? ⟨gb858, 5, none⟩ = some (.slice A0_5 l0_5.length c0_5) := (blk_cell BK858.out 5).trans rfl
                          have hfz56_0 := blk_frozen BK858.out 0
                          have hfz56_1 := blk_frozen BK858.out 1
                          have hfz56_2 := blk_frozen BK858.out 2
                          have hfz56_3 := blk_frozen BK858.out 3
                          have hfz56_4 := blk_frozen BK858.out 4
                          have hfz56_5 := blk_frozen BK858.out 5
                          go_wp2_with (first | ((with_reducible refine gate_callee (f := 26) rfl ?_); refine goesL_ (some 57) rfl rfl Try.func26 (by kernel_rfl) rfl #[.agg #[.int .i64 a0_0, .int .i64 a0_1, .int .i64 a0_2, .int .i64 a0_3, .slice A0_4 l0_4.length c0_4, .slice A0_5 l0_5.length c0_5], .slice Ao55 x9_2.length co55] rfl (by (try simp only [List.map_toArray, List.map_cons, List.map_nil]); first | done | rfl | (simp only [List.length_drop, List.length_take]; rfl)) ?_; (with_reducible refine (tutorref03_Run.calls k2 a0_0 a0_1 a0_2 a0_3 _ _ l0_4 _ _ l0_5 _ _ x9_2 t870 t873 _ ?side1 ?side2 ?side3 ?side4 ?side5 ?side6 A49.out).mono ?_); (case side1 => repeat (first | exact (Kd.C_below HR0_4.out HB.out) | (with_reducible refine Kd.C_alloc ?_ _) | (with_reducible refine Kd.C_drewN ?_ _) | (with_reducible refine Kd.C_drew ?_))); (case side2 => exact HC0_4.out); (case side3 => repeat (first | exact (Kd.C_below HR0_5.out HB.out) | (with_reducible refine Kd.C_alloc ?_ _) | (with_reducible refine Kd.C_drewN ?_ _) | (with_reducible refine Kd.C_drew ?_))); (case side4 => exact HC0_5.out); (case side5 => repeat (first | exact (Kd.R_reads' HO_9.out).2.2 | (with_reducible refine Kd.C_alloc ?_ _) | (with_reducible refine Kd.C_drewN ?_ _) | (with_reducible refine Kd.C_drew ?_))); (case side6 => exact (Kd.R_reads' HO_9.out).2.1); rintro e w57 ⟨v871, rfl, ho0, hb⟩; refine ⟨_, rfl, ?_⟩; have n0_ := Aside0.mk (Kd.R_elder' (by (with_reducible repeat (first | apply Kd.R_alloc | apply Kd.R_drewN | apply Kd.R_drew)); exact HO_6.out) (Kd.R_base ho0) hb); have n1_ := Aside0.mk (Kd.R_elder' (by (with_reducible repeat (first | apply Kd.R_alloc | apply Kd.R_drewN | apply Kd.R_drew)); exact HO_9.out) (Kd.R_base ho0) hb); have n2_ := Aside0.mk (Kd.R_lower (Kd.R_new' (Kd.R_new' ho0 (Kd.R_lt (by (with_reducible repeat (first | apply Kd.R_alloc | apply Kd.R_drewN | apply Kd.R_drew)); exact HO_6.out))) (Kd.R_lt (by (with_reducible repeat (first | apply Kd.R_alloc | apply Kd.R_drewN | apply Kd.R_drew)); exact HO_9.out))) (below_size (by repeat (first | (with_reducible first | exact HB.out | apply below_alloc | apply pw_below_drewN | apply below_drew1 | refine below_set ?_ GE858.out) | exact HB.out)))); have n3_ := Aside0.mk (blk_below (g := gb858) (o := .cells #[.int .i64 a0_0, .int .i64 a0_1, .int .i64 a0_2, .int .i64 a0_3, .slice A0_4 l0_4.length c0_4, .slice A0_5 l0_5.length c0_5] 43 (0, 0)) (by (with_reducible repeat (first | refine blk_drewN ?_ _ | refine blk_drew ?_ | refine blk_alloc ?_ _)); exact BK858.out) hb); have n4_ := Aside0.mk (below_step (by repeat (first | (with_reducible first | exact HB.out | apply below_alloc | apply pw_below_drewN | apply below_drew1 | refine below_set ?_ GE858.out) | exact HB.out)) hb); clear HO_6; clear HO_9; clear BK858; clear HB; have HO_6 := n0_; have HO_9 := n1_; have HO872 := n2_; have BK858 := n3_; have HB := n4_; clear n0_ n1_ n2_ n3_ n4_; (try clear hb); (try clear hb2); (try clear hk); (try clear hi); (try clear ho0); obtain ⟨Ao58, co58, eo58⟩ := Kd.R_slice HO872.out; subst eo58; have p874 : 0 ≤ (0 : Int) := (by omega); have q874 : 0 < (t870.length : Int) := of_decide_eq_true (by first | (with_reducible assumption) | assumption); obtain ⟨ad874, e874, hx874_0⟩ := Kd.at_int (Kd.R_reads' HO872.out).2.2 0 p874 q874; cases e874; have qi874 : (0 < t870.length) = True := eq_true (by omega); (try rw [show ((0 : Int)).toNat = 0 from rfl] at hx874_0); (try rw [Addr.add_zero'] at hx874_0); replace p874 := eq_true p874; replace q874 := eq_true q874; obtain ⟨Ao59, co59, eo59⟩ := Kd.R_slice HO_6.out; subst eo59) | (go_at_call 37; (with_reducible refine (tutorref01_Ahead.calls k2 _ _ x9_2 _ _ t862 true _ ?side1 ?side2 ?side3 ?side4 A53.out).mono ?_); (case side1 => repeat (first | exact (Kd.R_reads' HO_9.out).2.2 | (with_reducible refine Kd.C_alloc ?_ _) | (with_reducible refine Kd.C_drewN ?_ _) | (with_reducible refine Kd.C_drew ?_))); (case side2 => exact (Kd.R_reads' HO_9.out).2.1); (case side3 => repeat (first | exact (Kd.R_reads' HO_6.out).2.2 | (with_reducible refine Kd.C_alloc ?_ _) | (with_reducible refine Kd.C_drewN ?_ _) | (with_reducible refine Kd.C_drew ?_))); (case side4 => exact (Kd.R_reads' HO_6.out).2.1); rintro e w' ⟨rfl, ⟨nd, rfl⟩⟩))
                          go_ret
                          exact ⟨by first | rfl | (simp [errW_none, errW_some] <;> rfl) | (simp [*, errW_none, errW_some] <;> rfl), by repeat (first | (with_reducible first | exact HB.out | apply below_alloc | apply pw_below_drewN | apply below_drew1 | refine below_set ?_ GE858.out) | exact HB.out)⟩
                        · replace c54 := Bool.eq_false_iff.mpr c54
                          subst c54
                          have H1 : ((tutorref01_Next.f k2 x9_2 a0_1).bind fun bt876 => (tutorlaw17_NfaHolds.l0 k2 a1 (wrap64 (x5_2 + 1)) t862 true t866 bt876.1 a0_0 a0_1 a0_2 a0_3 l0_4 l0_5)) = some r := by rw [if_neg (show ¬ (false = true) by decide)] at H; exact H
                          clear H
                          have H := H1
                          clear H1
                          replace H := Option.bind_eq_some_iff.mp H
                          obtain ⟨⟨t876, t877⟩, A600, H⟩ := H
                          replace H : (tutorlaw17_NfaHolds.l0 k2 a1 (wrap64 (x5_2 + 1)) t862 true t866 t876 a0_0 a0_1 a0_2 a0_3 l0_4 l0_5) = some r := H
                          have A60 := Aside0.mk A600
                          clear A600
                          have H' := Aside0.mk H
                          clear H
                          obtain ⟨Ao61, co61, eo61⟩ := Kd.R_slice HO_9.out
                          subst eo61
                          have hcz62_0 : wr.cell? ⟨gb858, 0, none⟩ = some (.int .i64 a0_0) := (blk_cell BK858.out 0).trans rfl
                          have hcz62_1 : wr.cell? ⟨gb858, 1, none⟩ = some (.int .i64 a0_1) := (blk_cell BK858.out 1).trans rfl
                          have hcz62_2 : wr.cell? ⟨gb858, 2, none⟩ = some (.int .i64 a0_2) := (blk_cell BK858.out 2).trans rfl
                          have hcz62_3 : wr.cell? ⟨gb858, 3, none⟩ = some (.int .i64 a0_3) := (blk_cell BK858.out 3).trans rfl
                          have hcz62_4 : wr.cell? ⟨gb858, 4, none⟩ = some (.slice A0_4 l0_4.length c0_4) := (blk_cell BK858.out 4).trans rfl
                          have hcz62_5 : wr.cell? ⟨gb858, 5, none⟩ = some (.slice A0_5 l0_5.length c0_5) := (blk_cell BK858.out 5).trans rfl
                          have hfz62_0 := blk_frozen BK858.out 0
                          have hfz62_1 := blk_frozen BK858.out 1
                          have hfz62_2 := blk_frozen BK858.out 2
                          have hfz62_3 := blk_frozen BK858.out 3
                          have hfz62_4 := blk_frozen BK858.out 4
                          have hfz62_5 := blk_frozen BK858.out 5
                          go_wp2_with (first | ((with_reducible refine gate_callee (f := 26) rfl ?_); refine goesL_ (some 57) rfl rfl Try.func26 (by kernel_rfl) rfl #[.agg #[.int .i64 a0_0, .int .i64 a0_1, .int .i64 a0_2, .int .i64 a0_3, .slice A0_4 l0_4.length c0_4, .slice A0_5 l0_5.length c0_5], .slice Ao61 x9_2.length co61] rfl (by (try simp only [List.map_toArray, List.map_cons, List.map_nil]); first | done | rfl | (simp only [List.length_drop, List.length_take]; rfl)) ?_; (with_reducible refine (tutorref03_Run.calls k2 a0_0 a0_1 a0_2 a0_3 _ _ l0_4 _ _ l0_5 _ _ x9_2 t870 t873 _ ?side1 ?side2 ?side3 ?side4 ?side5 ?side6 A49.out).mono ?_); (case side1 => repeat (first | exact (Kd.C_below HR0_4.out HB.out) | (with_reducible refine Kd.C_alloc ?_ _) | (with_reducible refine Kd.C_drewN ?_ _) | (with_reducible refine Kd.C_drew ?_))); (case side2 => exact HC0_4.out); (case side3 => repeat (first | exact (Kd.C_below HR0_5.out HB.out) | (with_reducible refine Kd.C_alloc ?_ _) | (with_reducible refine Kd.C_drewN ?_ _) | (with_reducible refine Kd.C_drew ?_))); (case side4 => exact HC0_5.out); (case side5 => repeat (first | exact (Kd.R_reads' HO_9.out).2.2 | (with_reducible refine Kd.C_alloc ?_ _) | (with_reducible refine Kd.C_drewN ?_ _) | (with_reducible refine Kd.C_drew ?_))); (case side6 => exact (Kd.R_reads' HO_9.out).2.1); rintro e w63 ⟨v871, rfl, ho0, hb⟩; refine ⟨_, rfl, ?_⟩; have n0_ := Aside0.mk (Kd.R_elder' (by (with_reducible repeat (first | apply Kd.R_alloc | apply Kd.R_drewN | apply Kd.R_drew)); exact HO_6.out) (Kd.R_base ho0) hb); have n1_ := Aside0.mk (Kd.R_elder' (by (with_reducible repeat (first | apply Kd.R_alloc | apply Kd.R_drewN | apply Kd.R_drew)); exact HO_9.out) (Kd.R_base ho0) hb); have n2_ := Aside0.mk (Kd.R_lower (Kd.R_new' (Kd.R_new' ho0 (Kd.R_lt (by (with_reducible repeat (first | apply Kd.R_alloc | apply Kd.R_drewN | apply Kd.R_drew)); exact HO_6.out))) (Kd.R_lt (by (with_reducible repeat (first | apply Kd.R_alloc | apply Kd.R_drewN | apply Kd.R_drew)); exact HO_9.out))) (below_size (by repeat (first | (with_reducible first | exact HB.out | apply below_alloc | apply pw_below_drewN | apply below_drew1 | refine below_set ?_ GE858.out) | exact HB.out)))); have n3_ := Aside0.mk (blk_below (g := gb858) (o := .cells #[.int .i64 a0_0, .int .i64 a0_1, .int .i64 a0_2, .int .i64 a0_3, .slice A0_4 l0_4.length c0_4, .slice A0_5 l0_5.length c0_5] 43 (0, 0)) (by (with_reducible repeat (first | refine blk_drewN ?_ _ | refine blk_drew ?_ | refine blk_alloc ?_ _)); exact BK858.out) hb); have n4_ := Aside0.mk (below_step (by repeat (first | (with_reducible first | exact HB.out | apply below_alloc | apply pw_below_drewN | apply below_drew1 | refine below_set ?_ GE858.out) | exact HB.out)) hb); clear HO_6; clear HO_9; clear BK858; clear HB; have HO_6 := n0_; have HO_9 := n1_; have HO872 := n2_; have BK858 := n3_; have HB := n4_; clear n0_ n1_ n2_ n3_ n4_; (try clear hb); (try clear hb2); (try clear hk); (try clear hi); (try clear ho0); obtain ⟨Ao64, co64, eo64⟩ := Kd.R_slice HO872.out; subst eo64; have p874 : 0 ≤ (0 : Int) := (by omega); have q874 : 0 < (t870.length : Int) := of_decide_eq_true (by first | (with_reducible assumption) | assumption); obtain ⟨ad874, e874, hx874_0⟩ := Kd.at_int (Kd.R_reads' HO872.out).2.2 0 p874 q874; cases e874; have qi874 : (0 < t870.length) = True := eq_true (by omega); (try rw [show ((0 : Int)).toNat = 0 from rfl] at hx874_0); (try rw [Addr.add_zero'] at hx874_0); replace p874 := eq_true p874; replace q874 := eq_true q874; obtain ⟨Ao65, co65, eo65⟩ := Kd.R_slice HO_6.out; subst eo65) | (go_at_call 37; (with_reducible refine (tutorref01_Ahead.calls k2 _ _ x9_2 _ _ t862 false _ ?side1 ?side2 ?side3 ?side4 A53.out).mono ?_); (case side1 => repeat (first | exact (Kd.R_reads' HO_9.out).2.2 | (with_reducible refine Kd.C_alloc ?_ _) | (with_reducible refine Kd.C_drewN ?_ _) | (with_reducible refine Kd.C_drew ?_))); (case side2 => exact (Kd.R_reads' HO_9.out).2.1); (case side3 => repeat (first | exact (Kd.R_reads' HO_6.out).2.2 | (with_reducible refine Kd.C_alloc ?_ _) | (with_reducible refine Kd.C_drewN ?_ _) | (with_reducible refine Kd.C_drew ?_))); (case side4 => exact (Kd.R_reads' HO_6.out).2.1); rintro e w' ⟨rfl, ⟨nd, rfl⟩⟩; have hcz66_0 : w63.cell? ⟨gb858, 0, none⟩ = some (.int .i64 a0_0) := (blk_cell BK858.out 0).trans rfl; have hcz66_1 : w63.cell? ⟨gb858, 1, none⟩ = some (.int .i64 a0_1) := (blk_cell BK858.out 1).trans rfl; have hcz66_2 : w63.cell? ⟨gb858, 2, none⟩ = some (.int .i64 a0_2) := (blk_cell BK858.out 2).trans rfl; have hcz66_3 : w63.cell? ⟨gb858, 3, none⟩ = some (.int .i64 a0_3) := (blk_cell BK858.out 3).trans rfl; have hcz66_4 : w63.cell? ⟨gb858, 4, none⟩ = some (.slice A0_4 l0_4.length c0_4) := (blk_cell BK858.out 4).trans rfl; have hcz66_5 : w63.cell? ⟨gb858, 5, none⟩ = some (.slice A0_5 l0_5.length c0_5) := (blk_cell BK858.out 5).trans rfl; have hfz66_0 := blk_frozen BK858.out 0; have hfz66_1 := blk_frozen BK858.out 1; have hfz66_2 := blk_frozen BK858.out 2; have hfz66_3 := blk_frozen BK858.out 3; have hfz66_4 := blk_frozen BK858.out 4; have hfz66_5 := blk_frozen BK858.out 5) | ((with_reducible refine gate_callee (f := 38) rfl ?_); refine goesL_ (some 77) rfl rfl Try.func38 (by kernel_rfl) rfl #[.slice Ao61 x9_2.length co61, .int .i64 a0_1] rfl (by (try simp only [List.map_toArray, List.map_cons, List.map_nil]); first | done | rfl | (simp only [List.length_drop, List.length_take]; rfl)) ?_; (with_reducible refine (tutorref01_Next.calls k2 _ _ x9_2 a0_1 t876 t877 _ ?side1 ?side2 A60.out).mono ?_); (case side1 => repeat (first | exact (Kd.R_reads' HO_9.out).2.2 | (with_reducible refine Kd.C_alloc ?_ _) | (with_reducible refine Kd.C_drewN ?_ _) | (with_reducible refine Kd.C_drew ?_))); (case side2 => exact (Kd.R_reads' HO_9.out).2.1); rintro e w67 ⟨v878, rfl, ho0, hb⟩; refine ⟨_, rfl, ?_⟩; have n0_ := Aside0.mk (Kd.R_elder' (by (with_reducible repeat (first | apply Kd.R_alloc | apply Kd.R_drewN | apply Kd.R_drew)); exact HO_6.out) (Kd.R_base ho0) hb); have n1_ := Aside0.mk (Kd.R_elder' (by (with_reducible repeat (first | apply Kd.R_alloc | apply Kd.R_drewN | apply Kd.R_drew)); exact HO_9.out) (Kd.R_base ho0) hb); have n2_ := Aside0.mk (Kd.R_elder' (by (with_reducible repeat (first | apply Kd.R_alloc | apply Kd.R_drewN | apply Kd.R_drew)); exact HO872.out) (Kd.R_base ho0) hb); have n3_ := Aside0.mk (Kd.R_lower (Kd.R_new' (Kd.R_new' (Kd.R_new' ho0 (Kd.R_lt (by (with_reducible repeat (first | apply Kd.R_alloc | apply Kd.R_drewN | apply Kd.R_drew)); exact HO_6.out))) (Kd.R_lt (by (with_reducible repeat (first | apply Kd.R_alloc | apply Kd.R_drewN | apply Kd.R_drew)); exact HO_9.out))) (Kd.R_lt (by (with_reducible repeat (first | apply Kd.R_alloc | apply Kd.R_drewN | apply Kd.R_drew)); exact HO872.out))) (below_size (by repeat (first | (with_reducible first | exact HB.out | apply below_alloc | apply pw_below_drewN | apply below_drew1 | refine below_set ?_ GE858.out) | exact HB.out)))); have n4_ := Aside0.mk (blk_below (g := gb858) (o := .cells #[.int .i64 a0_0, .int .i64 a0_1, .int .i64 a0_2, .int .i64 a0_3, .slice A0_4 l0_4.length c0_4, .slice A0_5 l0_5.length c0_5] 43 (0, 0)) (by (with_reducible repeat (first | refine blk_drewN ?_ _ | refine blk_drew ?_ | refine blk_alloc ?_ _)); exact BK858.out) hb); have n5_ := Aside0.mk (below_step (by repeat (first | (with_reducible first | exact HB.out | apply below_alloc | apply pw_below_drewN | apply below_drew1 | refine below_set ?_ GE858.out) | exact HB.out)) hb); clear HO_6; clear HO_9; clear HO872; clear BK858; clear HB; have HO_6 := n0_; have HO_9 := n1_; have HO872 := n2_; have HO879 := n3_; have BK858 := n4_; have HB := n5_; clear n0_ n1_ n2_ n3_ n4_ n5_; (try clear hb); (try clear hb2); (try clear hk); (try clear hi); (try clear ho0)))
                          go_roundg k2
                          case measure => have := HJ2.out; have := HK2.out; omega
                          case rel => exact ⟨(wrap64 (x5_2 + 1)), (t876), (by first | rfl | (simp; done) | (simp [*]; done)), H', ⟨by have := HJ2.out; have := HK2.out; omega⟩, ⟨by (with_reducible repeat (first | apply Kd.R_alloc | apply Kd.R_drewN | apply Kd.R_drew)); exact Kd.R_mono HO_6.out (fun _ hk => hk.2)⟩, ⟨by (with_reducible repeat (first | apply Kd.R_alloc | apply Kd.R_drewN | apply Kd.R_drew)); exact Kd.R_mono HO879.out (fun _ hk => hk.1.1.2)⟩, ⟨by (with_reducible repeat (first | refine blk_drewN ?_ _ | refine blk_drew ?_ | refine blk_alloc ?_ _)); exact BK858.out⟩, ⟨by repeat (first | (with_reducible first | exact HB.out | apply below_alloc | apply pw_below_drewN | apply below_drew1 | refine below_set ?_ GE858.out) | exact HB.out)⟩⟩
                      · replace c52 := Bool.eq_false_iff.mpr c52
                        subst c52
                        have H1 : (some false) = some r := by rw [if_neg (show ¬ (false = true) by decide)] at H; exact H
                        clear H
                        have H := H1
                        clear H1
                        obtain rfl := Option.some.inj H
                        obtain ⟨Ao68, co68, eo68⟩ := Kd.R_slice HO_9.out
                        subst eo68
                        have hcz69_0 : wr.cell? ⟨gb858, 0, none⟩ = some (.int .i64 a0_0) := (blk_cell BK858.out 0).trans rfl
                        have hcz69_1 : wr.cell? ⟨gb858, 1, none⟩ = some (.int .i64 a0_1) := (blk_cell BK858.out 1).trans rfl
                        have hcz69_2 : wr.cell? ⟨gb858, 2, none⟩ = some (.int .i64 a0_2) := (blk_cell BK858.out 2).trans rfl
                        have hcz69_3 : wr.cell? ⟨gb858, 3, none⟩ = some (.int .i64 a0_3) := (blk_cell BK858.out 3).trans rfl
                        have hcz69_4 : wr.cell? ⟨gb858, 4, none⟩ = some (.slice A0_4 l0_4.length c0_4) := (blk_cell BK858.out 4).trans rfl
                        have hcz69_5 : wr.cell? ⟨gb858, 5, none⟩ = some (.slice A0_5 l0_5.length c0_5) := (blk_cell BK858.out 5).trans rfl
                        have hfz69_0 := blk_frozen BK858.out 0
                        have hfz69_1 := blk_frozen BK858.out 1
                        have hfz69_2 := blk_frozen BK858.out 2
                        have hfz69_3 := blk_frozen BK858.out 3
                        have hfz69_4 := blk_frozen BK858.out 4
                        have hfz69_5 := blk_frozen BK858.out 5
                        go_wp2_with (first | ((with_reducible refine gate_callee (f := 26) rfl ?_); refine goesL_ (some 57) rfl rfl Try.func26 (by kernel_rfl) rfl #[.agg #[.int .i64 a0_0, .int .i64 a0_1, .int .i64 a0_2, .int .i64 a0_3, .slice A0_4 l0_4.length c0_4, .slice A0_5 l0_5.length c0_5], .slice Ao68 x9_2.length co68] rfl (by (try simp only [List.map_toArray, List.map_cons, List.map_nil]); first | done | rfl | (simp only [List.length_drop, List.length_take]; rfl)) ?_; (with_reducible refine (tutorref03_Run.calls k2 a0_0 a0_1 a0_2 a0_3 _ _ l0_4 _ _ l0_5 _ _ x9_2 t870 t873 _ ?side1 ?side2 ?side3 ?side4 ?side5 ?side6 A49.out).mono ?_); (case side1 => repeat (first | exact (Kd.C_below HR0_4.out HB.out) | (with_reducible refine Kd.C_alloc ?_ _) | (with_reducible refine Kd.C_drewN ?_ _) | (with_reducible refine Kd.C_drew ?_))); (case side2 => exact HC0_4.out); (case side3 => repeat (first | exact (Kd.C_below HR0_5.out HB.out) | (with_reducible refine Kd.C_alloc ?_ _) | (with_reducible refine Kd.C_drewN ?_ _) | (with_reducible refine Kd.C_drew ?_))); (case side4 => exact HC0_5.out); (case side5 => repeat (first | exact (Kd.R_reads' HO_9.out).2.2 | (with_reducible refine Kd.C_alloc ?_ _) | (with_reducible refine Kd.C_drewN ?_ _) | (with_reducible refine Kd.C_drew ?_))); (case side6 => exact (Kd.R_reads' HO_9.out).2.1); rintro e w70 ⟨v871, rfl, ho0, hb⟩; refine ⟨_, rfl, ?_⟩; have n0_ := Aside0.mk (Kd.R_elder' (by (with_reducible repeat (first | apply Kd.R_alloc | apply Kd.R_drewN | apply Kd.R_drew)); exact HO_6.out) (Kd.R_base ho0) hb); have n1_ := Aside0.mk (Kd.R_elder' (by (with_reducible repeat (first | apply Kd.R_alloc | apply Kd.R_drewN | apply Kd.R_drew)); exact HO_9.out) (Kd.R_base ho0) hb); have n2_ := Aside0.mk (Kd.R_lower (Kd.R_new' (Kd.R_new' ho0 (Kd.R_lt (by (with_reducible repeat (first | apply Kd.R_alloc | apply Kd.R_drewN | apply Kd.R_drew)); exact HO_6.out))) (Kd.R_lt (by (with_reducible repeat (first | apply Kd.R_alloc | apply Kd.R_drewN | apply Kd.R_drew)); exact HO_9.out))) (below_size (by repeat (first | (with_reducible first | exact HB.out | apply below_alloc | apply pw_below_drewN | apply below_drew1 | refine below_set ?_ GE858.out) | exact HB.out)))); have n3_ := Aside0.mk (blk_below (g := gb858) (o := .cells #[.int .i64 a0_0, .int .i64 a0_1, .int .i64 a0_2, .int .i64 a0_3, .slice A0_4 l0_4.length c0_4, .slice A0_5 l0_5.length c0_5] 43 (0, 0)) (by (with_reducible repeat (first | refine blk_drewN ?_ _ | refine blk_drew ?_ | refine blk_alloc ?_ _)); exact BK858.out) hb); have n4_ := Aside0.mk (below_step (by repeat (first | (with_reducible first | exact HB.out | apply below_alloc | apply pw_below_drewN | apply below_drew1 | refine below_set ?_ GE858.out) | exact HB.out)) hb); clear HO_6; clear HO_9; clear BK858; clear HB; have HO_6 := n0_; have HO_9 := n1_; have HO872 := n2_; have BK858 := n3_; have HB := n4_; clear n0_ n1_ n2_ n3_ n4_; (try clear hb); (try clear hb2); (try clear hk); (try clear hi); (try clear ho0); obtain ⟨Ao71, co71, eo71⟩ := Kd.R_slice HO872.out; subst eo71; have p874 : 0 ≤ (0 : Int) := (by omega); have q874 : 0 < (t870.length : Int) := of_decide_eq_true (by first | (with_reducible assumption) | assumption); obtain ⟨ad874, e874, hx874_0⟩ := Kd.at_int (Kd.R_reads' HO872.out).2.2 0 p874 q874; cases e874; have qi874 : (0 < t870.length) = True := eq_true (by omega); (try rw [show ((0 : Int)).toNat = 0 from rfl] at hx874_0); (try rw [Addr.add_zero'] at hx874_0); replace p874 := eq_true p874; replace q874 := eq_true q874))
                        go_ret
                        exact ⟨by first | rfl | (simp [errW_none, errW_some] <;> rfl) | (simp [*, errW_none, errW_some] <;> rfl), by repeat (first | (with_reducible first | exact HB.out | apply below_alloc | apply pw_below_drewN | apply below_drew1 | refine below_set ?_ GE858.out) | exact HB.out)⟩
                    · rw [if_neg c51] at H
                      have c51b0 : ((rd t870 0) == 1) = false := beq_eq_false_iff_ne.mpr c51
                      have c51b1 : ((rd t870 0) != 1) = true := bne_iff_ne.mpr c51
                      replace H := Option.bind_eq_some_iff.mp H
                      obtain ⟨⟨t880, t881⟩, A720, H⟩ := H
                      replace H : (tutorlaw17_NfaHolds.l0 k2 a1 x5_2 t862 t865 t866 t880 a0_0 a0_1 a0_2 a0_3 l0_4 l0_5) = some r := H
                      have A72 := Aside0.mk A720
                      clear A720
                      have H' := Aside0.mk H
                      clear H
                      obtain ⟨Ao73, co73, eo73⟩ := Kd.R_slice HO_9.out
                      subst eo73
                      have hcz74_0 : wr.cell? ⟨gb858, 0, none⟩ = some (.int .i64 a0_0) := (blk_cell BK858.out 0).trans rfl
                      have hcz74_1 : wr.cell? ⟨gb858, 1, none⟩ = some (.int .i64 a0_1) := (blk_cell BK858.out 1).trans rfl
                      have hcz74_2 : wr.cell? ⟨gb858, 2, none⟩ = some (.int .i64 a0_2) := (blk_cell BK858.out 2).trans rfl
                      have hcz74_3 : wr.cell? ⟨gb858, 3, none⟩ = some (.int .i64 a0_3) := (blk_cell BK858.out 3).trans rfl
                      have hcz74_4 : wr.cell? ⟨gb858, 4, none⟩ = some (.slice A0_4 l0_4.length c0_4) := (blk_cell BK858.out 4).trans rfl
                      have hcz74_5 : wr.cell? ⟨gb858, 5, none⟩ = some (.slice A0_5 l0_5.length c0_5) := (blk_cell BK858.out 5).trans rfl
                      have hfz74_0 := blk_frozen BK858.out 0
                      have hfz74_1 := blk_frozen BK858.out 1
                      have hfz74_2 := blk_frozen BK858.out 2
                      have hfz74_3 := blk_frozen BK858.out 3
                      have hfz74_4 := blk_frozen BK858.out 4
                      have hfz74_5 := blk_frozen BK858.out 5
                      go_wp2_with (first | ((with_reducible refine gate_callee (f := 26) rfl ?_); refine goesL_ (some 57) rfl rfl Try.func26 (by kernel_rfl) rfl #[.agg #[.int .i64 a0_0, .int .i64 a0_1, .int .i64 a0_2, .int .i64 a0_3, .slice A0_4 l0_4.length c0_4, .slice A0_5 l0_5.length c0_5], .slice Ao73 x9_2.length co73] rfl (by (try simp only [List.map_toArray, List.map_cons, List.map_nil]); first | done | rfl | (simp only [List.length_drop, List.length_take]; rfl)) ?_; (with_reducible refine (tutorref03_Run.calls k2 a0_0 a0_1 a0_2 a0_3 _ _ l0_4 _ _ l0_5 _ _ x9_2 t870 t873 _ ?side1 ?side2 ?side3 ?side4 ?side5 ?side6 A49.out).mono ?_); (case side1 => repeat (first | exact (Kd.C_below HR0_4.out HB.out) | (with_reducible refine Kd.C_alloc ?_ _) | (with_reducible refine Kd.C_drewN ?_ _) | (with_reducible refine Kd.C_drew ?_))); (case side2 => exact HC0_4.out); (case side3 => repeat (first | exact (Kd.C_below HR0_5.out HB.out) | (with_reducible refine Kd.C_alloc ?_ _) | (with_reducible refine Kd.C_drewN ?_ _) | (with_reducible refine Kd.C_drew ?_))); (case side4 => exact HC0_5.out); (case side5 => repeat (first | exact (Kd.R_reads' HO_9.out).2.2 | (with_reducible refine Kd.C_alloc ?_ _) | (with_reducible refine Kd.C_drewN ?_ _) | (with_reducible refine Kd.C_drew ?_))); (case side6 => exact (Kd.R_reads' HO_9.out).2.1); rintro e w75 ⟨v871, rfl, ho0, hb⟩; refine ⟨_, rfl, ?_⟩; have n0_ := Aside0.mk (Kd.R_elder' (by (with_reducible repeat (first | apply Kd.R_alloc | apply Kd.R_drewN | apply Kd.R_drew)); exact HO_6.out) (Kd.R_base ho0) hb); have n1_ := Aside0.mk (Kd.R_elder' (by (with_reducible repeat (first | apply Kd.R_alloc | apply Kd.R_drewN | apply Kd.R_drew)); exact HO_9.out) (Kd.R_base ho0) hb); have n2_ := Aside0.mk (Kd.R_lower (Kd.R_new' (Kd.R_new' ho0 (Kd.R_lt (by (with_reducible repeat (first | apply Kd.R_alloc | apply Kd.R_drewN | apply Kd.R_drew)); exact HO_6.out))) (Kd.R_lt (by (with_reducible repeat (first | apply Kd.R_alloc | apply Kd.R_drewN | apply Kd.R_drew)); exact HO_9.out))) (below_size (by repeat (first | (with_reducible first | exact HB.out | apply below_alloc | apply pw_below_drewN | apply below_drew1 | refine below_set ?_ GE858.out) | exact HB.out)))); have n3_ := Aside0.mk (blk_below (g := gb858) (o := .cells #[.int .i64 a0_0, .int .i64 a0_1, .int .i64 a0_2, .int .i64 a0_3, .slice A0_4 l0_4.length c0_4, .slice A0_5 l0_5.length c0_5] 43 (0, 0)) (by (with_reducible repeat (first | refine blk_drewN ?_ _ | refine blk_drew ?_ | refine blk_alloc ?_ _)); exact BK858.out) hb); have n4_ := Aside0.mk (below_step (by repeat (first | (with_reducible first | exact HB.out | apply below_alloc | apply pw_below_drewN | apply below_drew1 | refine below_set ?_ GE858.out) | exact HB.out)) hb); clear HO_6; clear HO_9; clear BK858; clear HB; have HO_6 := n0_; have HO_9 := n1_; have HO872 := n2_; have BK858 := n3_; have HB := n4_; clear n0_ n1_ n2_ n3_ n4_; (try clear hb); (try clear hb2); (try clear hk); (try clear hi); (try clear ho0); obtain ⟨Ao76, co76, eo76⟩ := Kd.R_slice HO872.out; subst eo76; have p874 : 0 ≤ (0 : Int) := (by omega); have q874 : 0 < (t870.length : Int) := of_decide_eq_true (by first | (with_reducible assumption) | assumption); obtain ⟨ad874, e874, hx874_0⟩ := Kd.at_int (Kd.R_reads' HO872.out).2.2 0 p874 q874; cases e874; have qi874 : (0 < t870.length) = True := eq_true (by omega); (try rw [show ((0 : Int)).toNat = 0 from rfl] at hx874_0); (try rw [Addr.add_zero'] at hx874_0); replace p874 := eq_true p874; replace q874 := eq_true q874; have hcz77_0 : w75.cell? ⟨gb858, 0, none⟩ = some (.int .i64 a0_0) := (blk_cell BK858.out 0).trans rfl; have hcz77_1 : w75.cell? ⟨gb858, 1, none⟩ = some (.int .i64 a0_1) := (blk_cell BK858.out 1).trans rfl; have hcz77_2 : w75.cell? ⟨gb858, 2, none⟩ = some (.int .i64 a0_2) := (blk_cell BK858.out 2).trans rfl; have hcz77_3 : w75.cell? ⟨gb858, 3, none⟩ = some (.int .i64 a0_3) := (blk_cell BK858.out 3).trans rfl; have hcz77_4 : w75.cell? ⟨gb858, 4, none⟩ = some (.slice A0_4 l0_4.length c0_4) := (blk_cell BK858.out 4).trans rfl; have hcz77_5 : w75.cell? ⟨gb858, 5, none⟩ = some (.slice A0_5 l0_5.length c0_5) := (blk_cell BK858.out 5).trans rfl; have hfz77_0 := blk_frozen BK858.out 0; have hfz77_1 := blk_frozen BK858.out 1; have hfz77_2 := blk_frozen BK858.out 2; have hfz77_3 := blk_frozen BK858.out 3; have hfz77_4 := blk_frozen BK858.out 4; have hfz77_5 := blk_frozen BK858.out 5) | ((with_reducible refine gate_callee (f := 38) rfl ?_); refine goesL_ (some 77) rfl rfl Try.func38 (by kernel_rfl) rfl #[.slice Ao73 x9_2.length co73, .int .i64 a0_1] rfl (by (try simp only [List.map_toArray, List.map_cons, List.map_nil]); first | done | rfl | (simp only [List.length_drop, List.length_take]; rfl)) ?_; (with_reducible refine (tutorref01_Next.calls k2 _ _ x9_2 a0_1 t880 t881 _ ?side1 ?side2 A72.out).mono ?_); (case side1 => repeat (first | exact (Kd.R_reads' HO_9.out).2.2 | (with_reducible refine Kd.C_alloc ?_ _) | (with_reducible refine Kd.C_drewN ?_ _) | (with_reducible refine Kd.C_drew ?_))); (case side2 => exact (Kd.R_reads' HO_9.out).2.1); rintro e w78 ⟨v882, rfl, ho0, hb⟩; refine ⟨_, rfl, ?_⟩; have n0_ := Aside0.mk (Kd.R_elder' (by (with_reducible repeat (first | apply Kd.R_alloc | apply Kd.R_drewN | apply Kd.R_drew)); exact HO_6.out) (Kd.R_base ho0) hb); have n1_ := Aside0.mk (Kd.R_elder' (by (with_reducible repeat (first | apply Kd.R_alloc | apply Kd.R_drewN | apply Kd.R_drew)); exact HO_9.out) (Kd.R_base ho0) hb); have n2_ := Aside0.mk (Kd.R_elder' (by (with_reducible repeat (first | apply Kd.R_alloc | apply Kd.R_drewN | apply Kd.R_drew)); exact HO872.out) (Kd.R_base ho0) hb); have n3_ := Aside0.mk (Kd.R_lower (Kd.R_new' (Kd.R_new' (Kd.R_new' ho0 (Kd.R_lt (by (with_reducible repeat (first | apply Kd.R_alloc | apply Kd.R_drewN | apply Kd.R_drew)); exact HO_6.out))) (Kd.R_lt (by (with_reducible repeat (first | apply Kd.R_alloc | apply Kd.R_drewN | apply Kd.R_drew)); exact HO_9.out))) (Kd.R_lt (by (with_reducible repeat (first | apply Kd.R_alloc | apply Kd.R_drewN | apply Kd.R_drew)); exact HO872.out))) (below_size (by repeat (first | (with_reducible first | exact HB.out | apply below_alloc | apply pw_below_drewN | apply below_drew1 | refine below_set ?_ GE858.out) | exact HB.out)))); have n4_ := Aside0.mk (blk_below (g := gb858) (o := .cells #[.int .i64 a0_0, .int .i64 a0_1, .int .i64 a0_2, .int .i64 a0_3, .slice A0_4 l0_4.length c0_4, .slice A0_5 l0_5.length c0_5] 43 (0, 0)) (by (with_reducible repeat (first | refine blk_drewN ?_ _ | refine blk_drew ?_ | refine blk_alloc ?_ _)); exact BK858.out) hb); have n5_ := Aside0.mk (below_step (by repeat (first | (with_reducible first | exact HB.out | apply below_alloc | apply pw_below_drewN | apply below_drew1 | refine below_set ?_ GE858.out) | exact HB.out)) hb); clear HO_6; clear HO_9; clear HO872; clear BK858; clear HB; have HO_6 := n0_; have HO_9 := n1_; have HO872 := n2_; have HO883 := n3_; have BK858 := n4_; have HB := n5_; clear n0_ n1_ n2_ n3_ n4_ n5_; (try clear hb); (try clear hb2); (try clear hk); (try clear hi); (try clear ho0)))
                      go_roundg k2
                      case measure => have := HJ2.out; have := HK2.out; omega
                      case rel => exact ⟨(x5_2), (t880), (by first | rfl | (simp; done) | (simp [*]; done)), H', ⟨by have := HJ2.out; have := HK2.out; omega⟩, ⟨by (with_reducible repeat (first | apply Kd.R_alloc | apply Kd.R_drewN | apply Kd.R_drew)); exact Kd.R_mono HO_6.out (fun _ hk => hk.2)⟩, ⟨by (with_reducible repeat (first | apply Kd.R_alloc | apply Kd.R_drewN | apply Kd.R_drew)); exact Kd.R_mono HO883.out (fun _ hk => hk.1.1.2)⟩, ⟨by (with_reducible repeat (first | refine blk_drewN ?_ _ | refine blk_drew ?_ | refine blk_alloc ?_ _)); exact BK858.out⟩, ⟨by repeat (first | (with_reducible first | exact HB.out | apply below_alloc | apply pw_below_drewN | apply below_drew1 | refine below_set ?_ GE858.out) | exact HB.out)⟩⟩
                  · rw [if_neg c50] at H
                    exact absurd H (by simp)
                · rw [if_neg c48] at H
                  have c48b0 : ((x9_2.length : Int) == a1) = false := beq_eq_false_iff_ne.mpr c48
                  have c48b1 : ((x9_2.length : Int) != a1) = true := bne_iff_ne.mpr c48
                  replace H := Option.bind_eq_some_iff.mp H
                  obtain ⟨⟨t884, t885⟩, A790, H⟩ := H
                  replace H : ((tutorlaw17_num.f t866).bind fun t886 => ((tutorlaw17_num.f t885).bind fun t887 => (if (wrap64 (t886 + t887)) = 0 then (tutorlaw17_NfaHolds.j2 k2 t862 t865 (t884 != x5_2) a0_0 a0_1 a0_2 a0_3 l0_4 l0_5) else (tutorlaw17_NfaHolds.j2 k2 t862 t865 true a0_0 a0_1 a0_2 a0_3 l0_4 l0_5)))) = some r := H
                  have A79 := Aside0.mk A790
                  clear A790
                  have HC80 := Aside0.mk H
                  clear H
                  obtain ⟨Ao81, co81, eo81⟩ := Kd.R_slice HO_9.out
                  subst eo81
                  have hcz82_0 : wr.cell? ⟨gb858, 0, none⟩ = some (.int .i64 a0_0) := (blk_cell BK858.out 0).trans rfl
                  have hcz82_1 : wr.cell? ⟨gb858, 1, none⟩ = some (.int .i64 a0_1) := (blk_cell BK858.out 1).trans rfl
                  have hcz82_2 : wr.cell? ⟨gb858, 2, none⟩ = some (.int .i64 a0_2) := (blk_cell BK858.out 2).trans rfl
                  have hcz82_3 : wr.cell? ⟨gb858, 3, none⟩ = some (.int .i64 a0_3) := (blk_cell BK858.out 3).trans rfl
                  have hcz82_4 : wr.cell? ⟨gb858, 4, none⟩ = some (.slice A0_4 l0_4.length c0_4) := (blk_cell BK858.out 4).trans rfl
                  have hcz82_5 : wr.cell? ⟨gb858, 5, none⟩ = some (.slice A0_5 l0_5.length c0_5) := (blk_cell BK858.out 5).trans rfl
                  have hfz82_0 := blk_frozen BK858.out 0
                  have hfz82_1 := blk_frozen BK858.out 1
                  have hfz82_2 := blk_frozen BK858.out 2
                  have hfz82_3 := blk_frozen BK858.out 3
                  have hfz82_4 := blk_frozen BK858.out 4
                  have hfz82_5 := blk_frozen BK858.out 5
                  go_upto_region 14 with (first | ((with_reducible refine gate_callee (f := 39) rfl ?_); refine goesL_ (some 83) rfl rfl Try.func39 (by kernel_rfl) rfl #[.agg #[.int .i64 a0_0, .int .i64 a0_1, .int .i64 a0_2, .int .i64 a0_3, .slice A0_4 l0_4.length c0_4, .slice A0_5 l0_5.length c0_5], .int .i64 a1] rfl (by (try simp only [List.map_toArray, List.map_cons, List.map_nil]); first | done | rfl | (simp only [List.length_drop, List.length_take]; rfl)) ?_; (with_reducible refine (nfa_Count.calls a0_0 a0_1 a0_2 a0_3 _ _ l0_4 _ _ l0_5 a1 t884 t885 _ ?side1 ?side2 ?side3 ?side4 A79.out).mono ?_); (case side1 => repeat (first | exact (Kd.C_below HR0_4.out HB.out) | (with_reducible refine Kd.C_alloc ?_ _) | (with_reducible refine Kd.C_drewN ?_ _) | (with_reducible refine Kd.C_drew ?_))); (case side2 => exact HC0_4.out); (case side3 => repeat (first | exact (Kd.C_below HR0_5.out HB.out) | (with_reducible refine Kd.C_alloc ?_ _) | (with_reducible refine Kd.C_drewN ?_ _) | (with_reducible refine Kd.C_drew ?_))); (case side4 => exact HC0_5.out); rintro e w83 ⟨rfl, hb⟩; refine ⟨_, rfl, ?_⟩; have n0_ := Aside0.mk (Kd.R_below (by (with_reducible repeat (first | apply Kd.R_alloc | apply Kd.R_drewN | apply Kd.R_drew)); exact HO_6.out) hb); have n1_ := Aside0.mk (Kd.R_below (by (with_reducible repeat (first | apply Kd.R_alloc | apply Kd.R_drewN | apply Kd.R_drew)); exact HO_9.out) hb); have n2_ := Aside0.mk (blk_below (g := gb858) (o := .cells #[.int .i64 a0_0, .int .i64 a0_1, .int .i64 a0_2, .int .i64 a0_3, .slice A0_4 l0_4.length c0_4, .slice A0_5 l0_5.length c0_5] 43 (0, 0)) (by (with_reducible repeat (first | refine blk_drewN ?_ _ | refine blk_drew ?_ | refine blk_alloc ?_ _)); exact BK858.out) hb); have n3_ := Aside0.mk (below_step (by repeat (first | (with_reducible first | exact HB.out | apply below_alloc | apply pw_below_drewN | apply below_drew1 | refine below_set ?_ GE858.out) | exact HB.out)) hb); clear HO_6; clear HO_9; clear BK858; clear HB; have HO_6 := n0_; have HO_9 := n1_; have BK858 := n2_; have HB := n3_; clear n0_ n1_ n2_ n3_; (try clear hb); (try clear hb2); (try clear hk); (try clear hi)))
                  (try simp only [Act.put, List.setIfInBounds_toArray, List.set_cons_zero, List.set_cons_succ])
                  go_cut [96] (fun v96 wc => ∃ (kq : Nat) (x96_79 : Bool), v96 = .bool x96_79 ∧ Aside0 (tutorlaw17_NfaHolds.j2 kq t862 t865 x96_79 a0_0 a0_1 a0_2 a0_3 l0_4 l0_5 = some r) ∧ Aside0 (kq ≤ k2) ∧ Aside0 (Kd.R (Kd.int .i64) 3 wc w.heap.size (fun _ => True) v863 t862) ∧ Aside0 (wc.heap[gb858]? = some (.cells #[.int .i64 a0_0, .int .i64 a0_1, .int .i64 a0_2, .int .i64 a0_3, (.slice A0_4 l0_4.length c0_4), (.slice A0_5 l0_5.length c0_5)] 43 (0, 0))) ∧ Aside0 (Below w.heap.size w wc))
                  case first =>
                    have H := HC80.out
                    clear HC80
                    replace H := Option.bind_eq_some_iff.mp H
                    obtain ⟨t886, A840, H⟩ := H
                    replace H : ((tutorlaw17_num.f t885).bind fun t887 => (if (wrap64 (t886 + t887)) = 0 then (tutorlaw17_NfaHolds.j2 k2 t862 t865 (t884 != x5_2) a0_0 a0_1 a0_2 a0_3 l0_4 l0_5) else (tutorlaw17_NfaHolds.j2 k2 t862 t865 true a0_0 a0_1 a0_2 a0_3 l0_4 l0_5))) = some r := H
                    have A84 := Aside0.mk A840
                    clear A840
                    replace H := Option.bind_eq_some_iff.mp H
                    obtain ⟨t887, A850, H⟩ := H
                    replace H : (if (wrap64 (t886 + t887)) = 0 then (tutorlaw17_NfaHolds.j2 k2 t862 t865 (t884 != x5_2) a0_0 a0_1 a0_2 a0_3 l0_4 l0_5) else (tutorlaw17_NfaHolds.j2 k2 t862 t865 true a0_0 a0_1 a0_2 a0_3 l0_4 l0_5)) = some r := H
                    have A85 := Aside0.mk A850
                    clear A850
                    by_cases c86 : (wrap64 (t886 + t887)) = 0
                    · rw [if_pos c86] at H
                      have c86b0 : ((wrap64 (t886 + t887)) == 0) = true := beq_iff_eq.mpr c86
                      have c86b1 : ((wrap64 (t886 + t887)) != 0) = false := bne_eq_false_iff_eq.mpr c86
                      clear c86
                      (first | rw [c86b0] | (simp only [i64_w, i32_w]; rw [c86b0]) | skip)
                      have H' := Aside0.mk H
                      clear H
                      go_wp2_with (first | ((with_reducible refine gate_callee (f := 17) rfl ?_); refine goesL_ (some 87) rfl rfl Try.func17 (by kernel_rfl) rfl #[.int .i64 t866] rfl (by (try simp only [List.map_toArray, List.map_cons, List.map_nil]); first | done | rfl | (simp only [List.length_drop, List.length_take]; rfl)) ?_; (with_reducible refine (tutorlaw17_num.calls t866 t886 _ A84.out).mono ?_); rintro e w' ⟨rfl, ⟨nd, rfl⟩⟩; refine ⟨_, rfl, ?_⟩) | ((with_reducible refine gate_callee (f := 17) rfl ?_); refine goesL_ (some 89) rfl rfl Try.func17 (by kernel_rfl) rfl #[.int .i64 t885] rfl (by (try simp only [List.map_toArray, List.map_cons, List.map_nil]); first | done | rfl | (simp only [List.length_drop, List.length_take]; rfl)) ?_; (with_reducible refine (tutorlaw17_num.calls t885 t887 _ A85.out).mono ?_); rintro e w' ⟨rfl, ⟨nd, rfl⟩⟩; refine ⟨_, rfl, ?_⟩))
                      go_meet
                      case rel => exact ⟨_, ((t884 != x5_2)), (by first | rfl | (simp; done) | (simp [*]; done)), H', ⟨by have := HJ2.out; have := HK2.out; first | omega | exact Nat.le_refl _⟩, ⟨by (with_reducible repeat (first | apply Kd.R_alloc | apply Kd.R_drewN | apply Kd.R_drew)); exact Kd.R_mono HO_6.out (fun _ hk => trivial)⟩, ⟨by (with_reducible repeat (first | refine blk_drewN ?_ _ | refine blk_drew ?_ | refine blk_alloc ?_ _)); exact BK858.out⟩, ⟨by repeat (first | (with_reducible first | exact HB.out | apply below_alloc | apply pw_below_drewN | apply below_drew1 | refine below_set ?_ GE858.out) | exact HB.out)⟩⟩
                    · rw [if_neg c86] at H
                      have c86b0 : ((wrap64 (t886 + t887)) == 0) = false := beq_eq_false_iff_ne.mpr c86
                      have c86b1 : ((wrap64 (t886 + t887)) != 0) = true := bne_iff_ne.mpr c86
                      (first | rw [c86b0] | (simp only [i64_w, i32_w]; rw [c86b0]) | skip)
                      have H' := Aside0.mk H
                      clear H
                      go_wp2_with (first | ((with_reducible refine gate_callee (f := 17) rfl ?_); refine goesL_ (some 87) rfl rfl Try.func17 (by kernel_rfl) rfl #[.int .i64 t866] rfl (by (try simp only [List.map_toArray, List.map_cons, List.map_nil]); first | done | rfl | (simp only [List.length_drop, List.length_take]; rfl)) ?_; (with_reducible refine (tutorlaw17_num.calls t866 t886 _ A84.out).mono ?_); rintro e w' ⟨rfl, ⟨nd, rfl⟩⟩; refine ⟨_, rfl, ?_⟩) | ((with_reducible refine gate_callee (f := 17) rfl ?_); refine goesL_ (some 89) rfl rfl Try.func17 (by kernel_rfl) rfl #[.int .i64 t885] rfl (by (try simp only [List.map_toArray, List.map_cons, List.map_nil]); first | done | rfl | (simp only [List.length_drop, List.length_take]; rfl)) ?_; (with_reducible refine (tutorlaw17_num.calls t885 t887 _ A85.out).mono ?_); rintro e w' ⟨rfl, ⟨nd, rfl⟩⟩; refine ⟨_, rfl, ?_⟩))
                      go_meet
                      case rel => exact ⟨_, (true), (by first | rfl | (simp; done) | (simp [*]; done)), H', ⟨by have := HJ2.out; have := HK2.out; first | omega | exact Nat.le_refl _⟩, ⟨by (with_reducible repeat (first | apply Kd.R_alloc | apply Kd.R_drewN | apply Kd.R_drew)); exact Kd.R_mono HO_6.out (fun _ hk => trivial)⟩, ⟨by (with_reducible repeat (first | refine blk_drewN ?_ _ | refine blk_drew ?_ | refine blk_alloc ?_ _)); exact BK858.out⟩, ⟨by repeat (first | (with_reducible first | exact HB.out | apply below_alloc | apply pw_below_drewN | apply below_drew1 | refine below_set ?_ GE858.out) | exact HB.out)⟩⟩
                  case rest =>
                    clear HC80
                    try clear c1
                    try clear c2
                    try clear p2
                    try clear c3
                    try clear c4
                    try clear c5
                    try clear c6
                    try clear p6
                    try clear c8
                    try clear p8
                    try clear q8
                    try clear hx8
                    try clear qi8
                    try clear c10
                    try clear c11
                    try clear c11b0
                    try clear c11b1
                    try clear c12
                    try clear c12b0
                    try clear c13
                    try clear c17
                    try clear c18
                    try clear c18b0
                    try clear c26
                    try clear c28
                    try clear c36
                    try clear c38
                    try clear c39
                    try clear c42
                    try clear c42b0
                    try clear c42b1
                    try clear c43
                    try clear c43b0
                    try clear c43b1
                    try clear c48
                    try clear c48b0
                    try clear c48b1
                    try clear c50
                    try clear c50b0
                    try clear c50b1
                    try clear c51
                    try clear c51b0
                    try clear c51b1
                    try clear c52
                    try clear c54
                    try clear p64
                    try clear c86
                    try clear c86b0
                    try clear c86b1
                    try clear hcz13_0
                    try clear hcz13_1
                    try clear hcz13_2
                    try clear hcz13_3
                    try clear hcz13_4
                    try clear hcz13_5
                    try clear hcz15_0
                    try clear hcz15_1
                    try clear hcz15_2
                    try clear hcz15_3
                    try clear hcz15_4
                    try clear hcz15_5
                    try clear hcz17_0
                    try clear hcz17_1
                    try clear hcz17_2
                    try clear hcz17_3
                    try clear hcz17_4
                    try clear hcz17_5
                    try clear hcz19_0
                    try clear hcz19_1
                    try clear hcz19_2
                    try clear hcz19_3
                    try clear hcz19_4
                    try clear hcz19_5
                    try clear hcz21_0
                    try clear hcz21_1
                    try clear hcz21_2
                    try clear hcz21_3
                    try clear hcz21_4
                    try clear hcz21_5
                    try clear hcz23_0
                    try clear hcz23_1
                    try clear hcz23_2
                    try clear hcz23_3
                    try clear hcz23_4
                    try clear hcz23_5
                    try clear hcz24_0
                    try clear hcz24_1
                    try clear hcz24_2
                    try clear hcz24_3
                    try clear hcz24_4
                    try clear hcz24_5
                    try clear hcz26_0
                    try clear hcz26_1
                    try clear hcz26_2
                    try clear hcz26_3
                    try clear hcz26_4
                    try clear hcz26_5
                    try clear hcz28_0
                    try clear hcz28_1
                    try clear hcz28_2
                    try clear hcz28_3
                    try clear hcz28_4
                    try clear hcz28_5
                    try clear hcz29_0
                    try clear hcz29_1
                    try clear hcz29_2
                    try clear hcz29_3
                    try clear hcz29_4
                    try clear hcz29_5
                    try clear hcz31_0
                    try clear hcz31_1
                    try clear hcz31_2
                    try clear hcz31_3
                    try clear hcz31_4
                    try clear hcz31_5
                    try clear hcz33_0
                    try clear hcz33_1
                    try clear hcz33_2
                    try clear hcz33_3
                    try clear hcz33_4
                    try clear hcz33_5
                    try clear hcz34_0
                    try clear hcz34_1
                    try clear hcz34_2
                    try clear hcz34_3
                    try clear hcz34_4
                    try clear hcz34_5
                    try clear hcz36_0
                    try clear hcz36_1
                    try clear hcz36_2
                    try clear hcz36_3
                    try clear hcz36_4
                    try clear hcz36_5
                    try clear hcz44_0
                    try clear hcz44_1
                    try clear hcz44_2
                    try clear hcz44_3
                    try clear hcz44_4
                    try clear hcz44_5
                    try clear hcz56_0
                    try clear hcz56_1
                    try clear hcz56_2
                    try clear hcz56_3
                    try clear hcz56_4
                    try clear hcz56_5
                    try clear hcz62_0
                    try clear hcz62_1
                    try clear hcz62_2
                    try clear hcz62_3
                    try clear hcz62_4
                    try clear hcz62_5
                    try clear hcz66_0
                    try clear hcz66_1
                    try clear hcz66_2
                    try clear hcz66_3
                    try clear hcz66_4
                    try clear hcz66_5
                    try clear hcz69_0
                    try clear hcz69_1
                    try clear hcz69_2
                    try clear hcz69_3
                    try clear hcz69_4
                    try clear hcz69_5
                    try clear hcz74_0
                    try clear hcz74_1
                    try clear hcz74_2
                    try clear hcz74_3
                    try clear hcz74_4
                    try clear hcz74_5
                    try clear hcz77_0
                    try clear hcz77_1
                    try clear hcz77_2
                    try clear hcz77_3
                    try clear hcz77_4
                    try clear hcz77_5
                    try clear hcz7_0
                    try clear hcz7_1
                    try clear hcz7_2
                    try clear hcz7_3
                    try clear hcz7_4
                    try clear hcz7_5
                    try clear hcz82_0
                    try clear hcz82_1
                    try clear hcz82_2
                    try clear hcz82_3
                    try clear hcz82_4
                    try clear hcz82_5
                    try clear hfz13_0
                    try clear hfz13_1
                    try clear hfz13_2
                    try clear hfz13_3
                    try clear hfz13_4
                    try clear hfz13_5
                    try clear hfz15_0
                    try clear hfz15_1
                    try clear hfz15_2
                    try clear hfz15_3
                    try clear hfz15_4
                    try clear hfz15_5
                    try clear hfz17_0
                    try clear hfz17_1
                    try clear hfz17_2
                    try clear hfz17_3
                    try clear hfz17_4
                    try clear hfz17_5
                    try clear hfz19_0
                    try clear hfz19_1
                    try clear hfz19_2
                    try clear hfz19_3
                    try clear hfz19_4
                    try clear hfz19_5
                    try clear hfz21_0
                    try clear hfz21_1
                    try clear hfz21_2
                    try clear hfz21_3
                    try clear hfz21_4
                    try clear hfz21_5
                    try clear hfz23_0
                    try clear hfz23_1
                    try clear hfz23_2
                    try clear hfz23_3
                    try clear hfz23_4
                    try clear hfz23_5
                    try clear hfz24_0
                    try clear hfz24_1
                    try clear hfz24_2
                    try clear hfz24_3
                    try clear hfz24_4
                    try clear hfz24_5
                    try clear hfz26_0
                    try clear hfz26_1
                    try clear hfz26_2
                    try clear hfz26_3
                    try clear hfz26_4
                    try clear hfz26_5
                    try clear hfz28_0
                    try clear hfz28_1
                    try clear hfz28_2
                    try clear hfz28_3
                    try clear hfz28_4
                    try clear hfz28_5
                    try clear hfz29_0
                    try clear hfz29_1
                    try clear hfz29_2
                    try clear hfz29_3
                    try clear hfz29_4
                    try clear hfz29_5
                    try clear hfz31_0
                    try clear hfz31_1
                    try clear hfz31_2
                    try clear hfz31_3
                    try clear hfz31_4
                    try clear hfz31_5
                    try clear hfz33_0
                    try clear hfz33_1
                    try clear hfz33_2
                    try clear hfz33_3
                    try clear hfz33_4
                    try clear hfz33_5
                    try clear hfz34_0
                    try clear hfz34_1
                    try clear hfz34_2
                    try clear hfz34_3
                    try clear hfz34_4
                    try clear hfz34_5
                    try clear hfz36_0
                    try clear hfz36_1
                    try clear hfz36_2
                    try clear hfz36_3
                    try clear hfz36_4
                    try clear hfz36_5
                    try clear hfz44_0
                    try clear hfz44_1
                    try clear hfz44_2
                    try clear hfz44_3
                    try clear hfz44_4
                    try clear hfz44_5
                    try clear hfz56_0
                    try clear hfz56_1
                    try clear hfz56_2
                    try clear hfz56_3
                    try clear hfz56_4
                    try clear hfz56_5
                    try clear hfz62_0
                    try clear hfz62_1
                    try clear hfz62_2
                    try clear hfz62_3
                    try clear hfz62_4
                    try clear hfz62_5
                    try clear hfz66_0
                    try clear hfz66_1
                    try clear hfz66_2
                    try clear hfz66_3
                    try clear hfz66_4
                    try clear hfz66_5
                    try clear hfz69_0
                    try clear hfz69_1
                    try clear hfz69_2
                    try clear hfz69_3
                    try clear hfz69_4
                    try clear hfz69_5
                    try clear hfz74_0
                    try clear hfz74_1
                    try clear hfz74_2
                    try clear hfz74_3
                    try clear hfz74_4
                    try clear hfz74_5
                    try clear hfz77_0
                    try clear hfz77_1
                    try clear hfz77_2
                    try clear hfz77_3
                    try clear hfz77_4
                    try clear hfz77_5
                    try clear hfz7_0
                    try clear hfz7_1
                    try clear hfz7_2
                    try clear hfz7_3
                    try clear hfz7_4
                    try clear hfz7_5
                    try clear hfz82_0
                    try clear hfz82_1
                    try clear hfz82_2
                    try clear hfz82_3
                    try clear hfz82_4
                    try clear hfz82_5
                    try clear hx874_0
                    try clear p2
                    try clear p874
                    try clear q874
                    obtain ⟨kq, x96_79, rfl, HA, HJ79, HO_6, BK858, HB⟩ := hcut
                    cases kq with
                    | zero => exact absurd HA.out (by simp [tutorlaw17_NfaHolds.j2])
                    | succ kj79 =>
                      have H := HA.out
                      clear HA
                      simp only [tutorlaw17_NfaHolds.j2] at H
                      by_cases c87 : x96_79 = true
                      · subst c87
                        have H1 : (some false) = some r := by rw [if_pos rfl] at H; exact H
                        clear H
                        have H := H1
                        clear H1
                        obtain rfl := Option.some.inj H
                        go_wp2
                        go_ret
                        exact ⟨by first | rfl | (simp [errW_none, errW_some] <;> rfl) | (simp [*, errW_none, errW_some] <;> rfl), by repeat (first | (with_reducible first | exact HB.out | apply below_alloc | apply pw_below_drewN | apply below_drew1 | refine below_set ?_ GE858.out) | exact HB.out)⟩
                      · replace c87 := Bool.eq_false_iff.mpr c87
                        subst c87
                        have H1 : (if t865 = true then ((tutorref03_Run.f kj79 a0_0 a0_1 a0_2 a0_3 l0_4 l0_5 t862).bind fun bt888 => (if bt888.2 = 0 then (if 0 < (bt888.1.length : Int) then (if (rd bt888.1 0) = 1 then ((tutorlaw17_live.f).bind fun t893 => (some t893)) else (some false)) else (none)) else (some false))) else ((tutorlaw17_live.f).bind fun t894 => (some t894))) = some r := by rw [if_neg (show ¬ (false = true) by decide)] at H; exact H
                        clear H
                        have H := H1
                        clear H1
                        by_cases c88 : t865 = true
                        · subst c88
                          have H1 : ((tutorref03_Run.f kj79 a0_0 a0_1 a0_2 a0_3 l0_4 l0_5 t862).bind fun bt888 => (if bt888.2 = 0 then (if 0 < (bt888.1.length : Int) then (if (rd bt888.1 0) = 1 then ((tutorlaw17_live.f).bind fun t893 => (some t893)) else (some false)) else (none)) else (some false))) = some r := by rw [if_pos rfl] at H; exact H
                          clear H
                          have H := H1
                          clear H1
                          replace H := Option.bind_eq_some_iff.mp H
                          obtain ⟨⟨t888, t891⟩, A890, H⟩ := H
                          replace H : (if t891 = 0 then (if 0 < (t888.length : Int) then (if (rd t888 0) = 1 then ((tutorlaw17_live.f).bind fun t893 => (some t893)) else (some false)) else (none)) else (some false)) = some r := H
                          have A89 := Aside0.mk A890
                          clear A890
                          by_cases c90 : t891 = 0
                          · rw [if_pos c90] at H
                            have c90b0 : (t891 == 0) = true := beq_iff_eq.mpr c90
                            have c90b1 : (t891 != 0) = false := bne_eq_false_iff_eq.mpr c90
                            clear c90
                            by_cases c91 : 0 < (t888.length : Int)
                            · rw [if_pos c91] at H
                              have c91b0 : decide (0 < (t888.length : Int)) = true := decide_eq_true c91
                              have c91b1 : decide (0 < t888.length) = true := decide_eq_true (by omega)
                              clear c91
                              by_cases c92 : (rd t888 0) = 1
                              · rw [if_pos c92] at H
                                have c92b0 : ((rd t888 0) == 1) = true := beq_iff_eq.mpr c92
                                have c92b1 : ((rd t888 0) != 1) = false := bne_eq_false_iff_eq.mpr c92
                                clear c92
                                replace H := Option.bind_eq_some_iff.mp H
                                obtain ⟨t893, A930, H⟩ := H
                                replace H : (some t893) = some r := H
                                have A93 := Aside0.mk A930
                                clear A930
                                obtain rfl := Option.some.inj H
                                have hcz94_0 : wc.cell? ⟨gb858, 0, none⟩ = some (.int .i64 a0_0) := (blk_cell BK858.out 0).trans rfl
                                have hcz94_1 : wc.cell? ⟨gb858, 1, none⟩ = some (.int .i64 a0_1) := (blk_cell BK858.out 1).trans rfl
                                have hcz94_2 : wc.cell? ⟨gb858, 2, none⟩ = some (.int .i64 a0_2) := (blk_cell BK858.out 2).trans rfl
                                have hcz94_3 : wc.cell? ⟨gb858, 3, none⟩ = some (.int .i64 a0_3) := (blk_cell BK858.out 3).trans rfl
                                have hcz94_4 : wc.cell? ⟨gb858, 4, none⟩ = some (.slice A0_4 l0_4.length c0_4) := (blk_cell BK858.out 4).trans rfl
                                have hcz94_5 : wc.cell? ⟨gb858, 5, none⟩ = some (.slice A0_5 l0_5.length c0_5) := (blk_cell BK858.out 5).trans rfl
                                have hfz94_0 := blk_frozen BK858.out 0
                                have hfz94_1 := blk_frozen BK858.out 1
                                have hfz94_2 := blk_frozen BK858.out 2
                                have hfz94_3 := blk_frozen BK858.out 3
                                have hfz94_4 := blk_frozen BK858.out 4
                                have hfz94_5 := blk_frozen BK858.out 5
                                obtain ⟨Ao95, co95, eo95⟩ := Kd.R_slice HO_6.out
                                subst eo95
                                go_wp2_with (first | ((with_reducible refine gate_callee (f := 26) rfl ?_); refine goesL_ (some 101) rfl rfl Try.func26 (by kernel_rfl) rfl #[.agg #[.int .i64 a0_0, .int .i64 a0_1, .int .i64 a0_2, .int .i64 a0_3, .slice A0_4 l0_4.length c0_4, .slice A0_5 l0_5.length c0_5], .slice Ao95 t862.length co95] rfl (by (try simp only [List.map_toArray, List.map_cons, List.map_nil]); first | done | rfl | (simp only [List.length_drop, List.length_take]; rfl)) ?_; (with_reducible refine (tutorref03_Run.calls kj79 a0_0 a0_1 a0_2 a0_3 _ _ l0_4 _ _ l0_5 _ _ t862 t888 t891 _ ?side1 ?side2 ?side3 ?side4 ?side5 ?side6 A89.out).mono ?_); (case side1 => repeat (first | exact (Kd.C_below HR0_4.out HB.out) | (with_reducible refine Kd.C_alloc ?_ _) | (with_reducible refine Kd.C_drewN ?_ _) | (with_reducible refine Kd.C_drew ?_))); (case side2 => exact HC0_4.out); (case side3 => repeat (first | exact (Kd.C_below HR0_5.out HB.out) | (with_reducible refine Kd.C_alloc ?_ _) | (with_reducible refine Kd.C_drewN ?_ _) | (with_reducible refine Kd.C_drew ?_))); (case side4 => exact HC0_5.out); (case side5 => repeat (first | exact (Kd.R_reads' HO_6.out).2.2 | (with_reducible refine Kd.C_alloc ?_ _) | (with_reducible refine Kd.C_drewN ?_ _) | (with_reducible refine Kd.C_drew ?_))); (case side6 => exact (Kd.R_reads' HO_6.out).2.1); rintro e w96 ⟨v889, rfl, ho0, hb⟩; refine ⟨_, rfl, ?_⟩; have n0_ := Aside0.mk (Kd.R_elder' (by (with_reducible repeat (first | apply Kd.R_alloc | apply Kd.R_drewN | apply Kd.R_drew)); exact HO_6.out) (Kd.R_base ho0) hb); have n1_ := Aside0.mk (Kd.R_lower (Kd.R_new' ho0 (Kd.R_lt (by (with_reducible repeat (first | apply Kd.R_alloc | apply Kd.R_drewN | apply Kd.R_drew)); exact HO_6.out))) (below_size (by repeat (first | (with_reducible first | exact HB.out | apply below_alloc | apply pw_below_drewN | apply below_drew1 | refine below_set ?_ GE858.out) | exact HB.out)))); have n2_ := Aside0.mk (blk_below (g := gb858) (o := .cells #[.int .i64 a0_0, .int .i64 a0_1, .int .i64 a0_2, .int .i64 a0_3, .slice A0_4 l0_4.length c0_4, .slice A0_5 l0_5.length c0_5] 43 (0, 0)) (by (with_reducible repeat (first | refine blk_drewN ?_ _ | refine blk_drew ?_ | refine blk_alloc ?_ _)); exact BK858.out) hb); have n3_ := Aside0.mk (below_step (by repeat (first | (with_reducible first | exact HB.out | apply below_alloc | apply pw_below_drewN | apply below_drew1 | refine below_set ?_ GE858.out) | exact HB.out)) hb); clear HO_6; clear BK858; clear HB; have HO_6 := n0_; have HO890 := n1_; have BK858 := n2_; have HB := n3_; clear n0_ n1_ n2_ n3_; (try clear hb); (try clear hb2); (try clear hk); (try clear hi); (try clear ho0); obtain ⟨Ao97, co97, eo97⟩ := Kd.R_slice HO890.out; subst eo97; have p892 : 0 ≤ (0 : Int) := (by omega); have q892 : 0 < (t888.length : Int) := of_decide_eq_true (by first | (with_reducible assumption) | assumption); obtain ⟨ad892, e892, hx892_0⟩ := Kd.at_int (Kd.R_reads' HO890.out).2.2 0 p892 q892; cases e892; have qi892 : (0 < t888.length) = True := eq_true (by omega); (try rw [show ((0 : Int)).toNat = 0 from rfl] at hx892_0); (try rw [Addr.add_zero'] at hx892_0); replace p892 := eq_true p892; replace q892 := eq_true q892) | (go_at_call 13; (with_reducible refine (tutorlaw17_live.calls  t893 _ A93.out).mono ?_); rintro e w98 ⟨rfl, hb⟩; have n0_ := Aside0.mk (Kd.R_below (by (with_reducible repeat (first | apply Kd.R_alloc | apply Kd.R_drewN | apply Kd.R_drew)); exact HO_6.out) hb); have n1_ := Aside0.mk (Kd.R_below (by (with_reducible repeat (first | apply Kd.R_alloc | apply Kd.R_drewN | apply Kd.R_drew)); exact HO890.out) hb); have n2_ := Aside0.mk (blk_below (g := gb858) (o := .cells #[.int .i64 a0_0, .int .i64 a0_1, .int .i64 a0_2, .int .i64 a0_3, .slice A0_4 l0_4.length c0_4, .slice A0_5 l0_5.length c0_5] 43 (0, 0)) (by (with_reducible repeat (first | refine blk_drewN ?_ _ | refine blk_drew ?_ | refine blk_alloc ?_ _)); exact BK858.out) hb); have n3_ := Aside0.mk (below_step (by repeat (first | (with_reducible first | exact HB.out | apply below_alloc | apply pw_below_drewN | apply below_drew1 | refine below_set ?_ GE858.out) | exact HB.out)) hb); clear HO_6; clear HO890; clear BK858; clear HB; have HO_6 := n0_; have HO890 := n1_; have BK858 := n2_; have HB := n3_; clear n0_ n1_ n2_ n3_; (try clear hb); (try clear hb2); (try clear hk); (try clear hi)))
                                go_ret
                                exact ⟨by first | rfl | (simp [errW_none, errW_some] <;> rfl) | (simp [*, errW_none, errW_some] <;> rfl), by repeat (first | (with_reducible first | exact HB.out | apply below_alloc | apply pw_below_drewN | apply below_drew1 | refine below_set ?_ GE858.out) | exact HB.out)⟩
                              · rw [if_neg c92] at H
                                have c92b0 : ((rd t888 0) == 1) = false := beq_eq_false_iff_ne.mpr c92
                                have c92b1 : ((rd t888 0) != 1) = true := bne_iff_ne.mpr c92
                                obtain rfl := Option.some.inj H
                                have hcz99_0 : wc.cell? ⟨gb858, 0, none⟩ = some (.int .i64 a0_0) := (blk_cell BK858.out 0).trans rfl
                                have hcz99_1 : wc.cell? ⟨gb858, 1, none⟩ = some (.int .i64 a0_1) := (blk_cell BK858.out 1).trans rfl
                                have hcz99_2 : wc.cell? ⟨gb858, 2, none⟩ = some (.int .i64 a0_2) := (blk_cell BK858.out 2).trans rfl
                                have hcz99_3 : wc.cell? ⟨gb858, 3, none⟩ = some (.int .i64 a0_3) := (blk_cell BK858.out 3).trans rfl
                                have hcz99_4 : wc.cell? ⟨gb858, 4, none⟩ = some (.slice A0_4 l0_4.length c0_4) := (blk_cell BK858.out 4).trans rfl
                                have hcz99_5 : wc.cell? ⟨gb858, 5, none⟩ = some (.slice A0_5 l0_5.length c0_5) := (blk_cell BK858.out 5).trans rfl
                                have hfz99_0 := blk_frozen BK858.out 0
                                have hfz99_1 := blk_frozen BK858.out 1
                                have hfz99_2 := blk_frozen BK858.out 2
                                have hfz99_3 := blk_frozen BK858.out 3
                                have hfz99_4 := blk_frozen BK858.out 4
                                have hfz99_5 := blk_frozen BK858.out 5
                                obtain ⟨Ao100, co100, eo100⟩ := Kd.R_slice HO_6.out
                                subst eo100
                                go_wp2_with (first | ((with_reducible refine gate_callee (f := 26) rfl ?_); refine goesL_ (some 101) rfl rfl Try.func26 (by kernel_rfl) rfl #[.agg #[.int .i64 a0_0, .int .i64 a0_1, .int .i64 a0_2, .int .i64 a0_3, .slice A0_4 l0_4.length c0_4, .slice A0_5 l0_5.length c0_5], .slice Ao100 t862.length co100] rfl (by (try simp only [List.map_toArray, List.map_cons, List.map_nil]); first | done | rfl | (simp only [List.length_drop, List.length_take]; rfl)) ?_; (with_reducible refine (tutorref03_Run.calls kj79 a0_0 a0_1 a0_2 a0_3 _ _ l0_4 _ _ l0_5 _ _ t862 t888 t891 _ ?side1 ?side2 ?side3 ?side4 ?side5 ?side6 A89.out).mono ?_); (case side1 => repeat (first | exact (Kd.C_below HR0_4.out HB.out) | (with_reducible refine Kd.C_alloc ?_ _) | (with_reducible refine Kd.C_drewN ?_ _) | (with_reducible refine Kd.C_drew ?_))); (case side2 => exact HC0_4.out); (case side3 => repeat (first | exact (Kd.C_below HR0_5.out HB.out) | (with_reducible refine Kd.C_alloc ?_ _) | (with_reducible refine Kd.C_drewN ?_ _) | (with_reducible refine Kd.C_drew ?_))); (case side4 => exact HC0_5.out); (case side5 => repeat (first | exact (Kd.R_reads' HO_6.out).2.2 | (with_reducible refine Kd.C_alloc ?_ _) | (with_reducible refine Kd.C_drewN ?_ _) | (with_reducible refine Kd.C_drew ?_))); (case side6 => exact (Kd.R_reads' HO_6.out).2.1); rintro e w101 ⟨v889, rfl, ho0, hb⟩; refine ⟨_, rfl, ?_⟩; have n0_ := Aside0.mk (Kd.R_elder' (by (with_reducible repeat (first | apply Kd.R_alloc | apply Kd.R_drewN | apply Kd.R_drew)); exact HO_6.out) (Kd.R_base ho0) hb); have n1_ := Aside0.mk (Kd.R_lower (Kd.R_new' ho0 (Kd.R_lt (by (with_reducible repeat (first | apply Kd.R_alloc | apply Kd.R_drewN | apply Kd.R_drew)); exact HO_6.out))) (below_size (by repeat (first | (with_reducible first | exact HB.out | apply below_alloc | apply pw_below_drewN | apply below_drew1 | refine below_set ?_ GE858.out) | exact HB.out)))); have n2_ := Aside0.mk (blk_below (g := gb858) (o := .cells #[.int .i64 a0_0, .int .i64 a0_1, .int .i64 a0_2, .int .i64 a0_3, .slice A0_4 l0_4.length c0_4, .slice A0_5 l0_5.length c0_5] 43 (0, 0)) (by (with_reducible repeat (first | refine blk_drewN ?_ _ | refine blk_drew ?_ | refine blk_alloc ?_ _)); exact BK858.out) hb); have n3_ := Aside0.mk (below_step (by repeat (first | (with_reducible first | exact HB.out | apply below_alloc | apply pw_below_drewN | apply below_drew1 | refine below_set ?_ GE858.out) | exact HB.out)) hb); clear HO_6; clear BK858; clear HB; have HO_6 := n0_; have HO890 := n1_; have BK858 := n2_; have HB := n3_; clear n0_ n1_ n2_ n3_; (try clear hb); (try clear hb2); (try clear hk); (try clear hi); (try clear ho0); obtain ⟨Ao102, co102, eo102⟩ := Kd.R_slice HO890.out; subst eo102; have p892 : 0 ≤ (0 : Int) := (by omega); have q892 : 0 < (t888.length : Int) := of_decide_eq_true (by first | (with_reducible assumption) | assumption); obtain ⟨ad892, e892, hx892_0⟩ := Kd.at_int (Kd.R_reads' HO890.out).2.2 0 p892 q892; cases e892; have qi892 : (0 < t888.length) = True := eq_true (by omega); (try rw [show ((0 : Int)).toNat = 0 from rfl] at hx892_0); (try rw [Addr.add_zero'] at hx892_0); replace p892 := eq_true p892; replace q892 := eq_true q892))
                                go_ret
                                exact ⟨by first | rfl | (simp [errW_none, errW_some] <;> rfl) | (simp [*, errW_none, errW_some] <;> rfl), by repeat (first | (with_reducible first | exact HB.out | apply below_alloc | apply pw_below_drewN | apply below_drew1 | refine below_set ?_ GE858.out) | exact HB.out)⟩
                            · rw [if_neg c91] at H
                              exact absurd H (by simp)
                          · rw [if_neg c90] at H
                            have c90b0 : (t891 == 0) = false := beq_eq_false_iff_ne.mpr c90
                            have c90b1 : (t891 != 0) = true := bne_iff_ne.mpr c90
                            obtain rfl := Option.some.inj H
                            have hcz103_0 : wc.cell? ⟨gb858, 0, none⟩ = some (.int .i64 a0_0) := (blk_cell BK858.out 0).trans rfl
                            have hcz103_1 : wc.cell? ⟨gb858, 1, none⟩ = some (.int .i64 a0_1) := (blk_cell BK858.out 1).trans rfl
                            have hcz103_2 : wc.cell? ⟨gb858, 2, none⟩ = some (.int .i64 a0_2) := (blk_cell BK858.out 2).trans rfl
                            have hcz103_3 : wc.cell? ⟨gb858, 3, none⟩ = some (.int .i64 a0_3) := (blk_cell BK858.out 3).trans rfl
                            have hcz103_4 : wc.cell? ⟨gb858, 4, none⟩ = some (.slice A0_4 l0_4.length c0_4) := (blk_cell BK858.out 4).trans rfl
                            have hcz103_5 : wc.cell? ⟨gb858, 5, none⟩ = some (.slice A0_5 l0_5.length c0_5) := (blk_cell BK858.out 5).trans rfl
                            have hfz103_0 := blk_frozen BK858.out 0
                            have hfz103_1 := blk_frozen BK858.out 1
                            have hfz103_2 := blk_frozen BK858.out 2
                            have hfz103_3 := blk_frozen BK858.out 3
                            have hfz103_4 := blk_frozen BK858.out 4
                            have hfz103_5 := blk_frozen BK858.out 5
                            obtain ⟨Ao104, co104, eo104⟩ := Kd.R_slice HO_6.out
                            subst eo104
                            go_wp2_with (first | ((with_reducible refine gate_callee (f := 26) rfl ?_); refine goesL_ (some 101) rfl rfl Try.func26 (by kernel_rfl) rfl #[.agg #[.int .i64 a0_0, .int .i64 a0_1, .int .i64 a0_2, .int .i64 a0_3, .slice A0_4 l0_4.length c0_4, .slice A0_5 l0_5.length c0_5], .slice Ao104 t862.length co104] rfl (by (try simp only [List.map_toArray, List.map_cons, List.map_nil]); first | done | rfl | (simp only [List.length_drop, List.length_take]; rfl)) ?_; (with_reducible refine (tutorref03_Run.calls kj79 a0_0 a0_1 a0_2 a0_3 _ _ l0_4 _ _ l0_5 _ _ t862 t888 t891 _ ?side1 ?side2 ?side3 ?side4 ?side5 ?side6 A89.out).mono ?_); (case side1 => repeat (first | exact (Kd.C_below HR0_4.out HB.out) | (with_reducible refine Kd.C_alloc ?_ _) | (with_reducible refine Kd.C_drewN ?_ _) | (with_reducible refine Kd.C_drew ?_))); (case side2 => exact HC0_4.out); (case side3 => repeat (first | exact (Kd.C_below HR0_5.out HB.out) | (with_reducible refine Kd.C_alloc ?_ _) | (with_reducible refine Kd.C_drewN ?_ _) | (with_reducible refine Kd.C_drew ?_))); (case side4 => exact HC0_5.out); (case side5 => repeat (first | exact (Kd.R_reads' HO_6.out).2.2 | (with_reducible refine Kd.C_alloc ?_ _) | (with_reducible refine Kd.C_drewN ?_ _) | (with_reducible refine Kd.C_drew ?_))); (case side6 => exact (Kd.R_reads' HO_6.out).2.1); rintro e w105 ⟨v889, rfl, ho0, hb⟩; refine ⟨_, rfl, ?_⟩; have n0_ := Aside0.mk (Kd.R_elder' (by (with_reducible repeat (first | apply Kd.R_alloc | apply Kd.R_drewN | apply Kd.R_drew)); exact HO_6.out) (Kd.R_base ho0) hb); have n1_ := Aside0.mk (Kd.R_lower (Kd.R_new' ho0 (Kd.R_lt (by (with_reducible repeat (first | apply Kd.R_alloc | apply Kd.R_drewN | apply Kd.R_drew)); exact HO_6.out))) (below_size (by repeat (first | (with_reducible first | exact HB.out | apply below_alloc | apply pw_below_drewN | apply below_drew1 | refine below_set ?_ GE858.out) | exact HB.out)))); have n2_ := Aside0.mk (blk_below (g := gb858) (o := .cells #[.int .i64 a0_0, .int .i64 a0_1, .int .i64 a0_2, .int .i64 a0_3, .slice A0_4 l0_4.length c0_4, .slice A0_5 l0_5.length c0_5] 43 (0, 0)) (by (with_reducible repeat (first | refine blk_drewN ?_ _ | refine blk_drew ?_ | refine blk_alloc ?_ _)); exact BK858.out) hb); have n3_ := Aside0.mk (below_step (by repeat (first | (with_reducible first | exact HB.out | apply below_alloc | apply pw_below_drewN | apply below_drew1 | refine below_set ?_ GE858.out) | exact HB.out)) hb); clear HO_6; clear BK858; clear HB; have HO_6 := n0_; have HO890 := n1_; have BK858 := n2_; have HB := n3_; clear n0_ n1_ n2_ n3_; (try clear hb); (try clear hb2); (try clear hk); (try clear hi); (try clear ho0)))
                            go_ret
                            exact ⟨by first | rfl | (simp [errW_none, errW_some] <;> rfl) | (simp [*, errW_none, errW_some] <;> rfl), by repeat (first | (with_reducible first | exact HB.out | apply below_alloc | apply pw_below_drewN | apply below_drew1 | refine below_set ?_ GE858.out) | exact HB.out)⟩
                        · replace c88 := Bool.eq_false_iff.mpr c88
                          subst c88
                          have H1 : ((tutorlaw17_live.f).bind fun t894 => (some t894)) = some r := by rw [if_neg (show ¬ (false = true) by decide)] at H; exact H
                          clear H
                          have H := H1
                          clear H1
                          replace H := Option.bind_eq_some_iff.mp H
                          obtain ⟨t894, A1060, H⟩ := H
                          replace H : (some t894) = some r := H
                          have A106 := Aside0.mk A1060
                          clear A1060
                          obtain rfl := Option.some.inj H
                          go_wp2_with (first | ((with_reducible refine gate_callee (f := 13) rfl ?_); refine goesL_ (some 115) rfl rfl Try.func13 (by kernel_rfl) rfl #[] rfl (by (try simp only [List.map_toArray, List.map_cons, List.map_nil]); first | done | rfl | (simp only [List.length_drop, List.length_take]; rfl)) ?_; (with_reducible refine (tutorlaw17_live.calls  t894 _ A106.out).mono ?_); rintro e w107 ⟨rfl, hb⟩; refine ⟨_, rfl, ?_⟩; have n0_ := Aside0.mk (Kd.R_below (by (with_reducible repeat (first | apply Kd.R_alloc | apply Kd.R_drewN | apply Kd.R_drew)); exact HO_6.out) hb); have n1_ := Aside0.mk (blk_below (g := gb858) (o := .cells #[.int .i64 a0_0, .int .i64 a0_1, .int .i64 a0_2, .int .i64 a0_3, .slice A0_4 l0_4.length c0_4, .slice A0_5 l0_5.length c0_5] 43 (0, 0)) (by (with_reducible repeat (first | refine blk_drewN ?_ _ | refine blk_drew ?_ | refine blk_alloc ?_ _)); exact BK858.out) hb); have n2_ := Aside0.mk (below_step (by repeat (first | (with_reducible first | exact HB.out | apply below_alloc | apply pw_below_drewN | apply below_drew1 | refine below_set ?_ GE858.out) | exact HB.out)) hb); clear HO_6; clear BK858; clear HB; have HO_6 := n0_; have BK858 := n1_; have HB := n2_; clear n0_ n1_ n2_; (try clear hb); (try clear hb2); (try clear hk); (try clear hi)))
                          go_ret
                          exact ⟨by first | rfl | (simp [errW_none, errW_some] <;> rfl) | (simp [*, errW_none, errW_some] <;> rfl), by repeat (first | (with_reducible first | exact HB.out | apply below_alloc | apply pw_below_drewN | apply below_drew1 | refine below_set ?_ GE858.out) | exact HB.out)⟩
          · rw [if_neg c43] at H
            exact absurd H (by simp)
        · rw [if_neg c42] at H
          exact absurd H (by simp)
end Go.Proofs.Ytkaefgmgcghhiaa.X
end
