/- Texts of the statement NfaDetermines, one behind the other: Go functions as Lean functions, the machine's calls, the plain law. -/
import Derived.Test.YtkaefgmgcghhiaaMNfaDetermines4
import Derived.Test.YtkaefgmgcghhiaaMNfaDetermines5
import Derived.Test.YtkaefgmgcghhiaaMNfaDetermines6
import Derived.Test.YtkaefgmgcghhiaaMNfaDetermines7
import Derived.Test.YtkaefgmgcghhiaaMNfaDetermines9
import Derived.Test.YtkaefgmgcghhiaaMNfaDetermines12
import Derived.Test.YtkaefgmgcghhiaaMNfaDetermines13
import Derived.Carry
set_option linter.unusedVariables false
set_option linter.unusedSimpArgs false
section
namespace Go.Proofs.Ytkaefgmgcghhiaa.X
open Go.RowKit Go.Proofs.YtkaefgmgcghhiaaW.PrintWords Go.Proofs.YtkaefgmgcghhiaaW.PrintLast Go.Proofs.YtkaefgmgcghhiaaW.PrintMore
def detIn (k : Nat) (N : Int) (fr : List (List S80)) (s : List Nat) : List Nat → List (List Nat) → List Int → Option (Option (List (List Nat) × List Int))
  | [], row, nx => some (some (row, nx))
  | x :: r, row, nx => match stepF k N fr s (x : Int) with
    | none => none
    | some t => if nx.length < 1099511627776 then (match row.findIdx? (· == t) with
      | some j => detIn k N fr s r row (nx ++ [(j : Int)])
      | none => if row.length = 1024 then some none else detIn k N fr s r (row ++ [t]) (nx ++ [(row.length : Int)])) else none
def detF (k : Nat) (K N : Int) (F : List Int) (fr : List (List S80)) : Nat → Nat → List (List Nat) → List Int → List Int → Option (Option (List (List Nat) × List Int × List Int))
  | 0, _, _, _, _ => none
  | q + 1, i, row, nx, out => if i < row.length then (if out.length < 1099511627776 then (match detIn k N fr (row.getD i []) (List.range K.toNat) row nx with
    | none => none
    | some none => some none
    | some (some (row1, nx1)) => detF k K N F fr q (i + 1) row1 nx1 (out ++ [fiRow (row.getD i []) F 0])) else none) else some (some (row, nx, out))
def detG (k : Nat) (K N : Int) (S F : List Int) (E : List S80) : Option (Int × Int × Int × Int × List Int × List Int × Int) :=
  if (nfa_Check.g K N S F E).2 ≠ 0 then some (0, 0, 0, 0, [], [], (nfa_Check.g K N S F E).2) else
  match startF k N (rowsOf N.toNat E) S with
  | none => none
  | some s => match detF k K N F (rowsOf N.toNat E) k 0 [s] [] [] with
    | none => none
    | some none => some (0, 0, 0, 0, [], [], 3)
    | some (some (row, nx, out)) => some (1, K, 2, (row.length : Int), nx, out, 0)
theorem look_some {row : List (List Nat)} (hrow : ∀ s ∈ row, IsSet s) (hnd : row.Nodup) {t : List Nat} (ht : IsSet t) {j : Nat} (hj : row.findIdx? (· == t) = some j) {w : World} {b : Nat} (hp : PlaceAt w b row) :
    (Instr.lookup 92 (.map (some b)) (.agg (wordsOf t).toArray) true).run Try.prog w = .ok (.tuple #[.int .i64 (j : Int), .bool true]) w := by
  obtain ⟨hjl, hjt, _⟩ := List.findIdx?_eq_some_iff_getElem.1 hj
  have hjt' : row[j] = t := by simpa using hjt
  rcases place_lookup hrow ht hp with ⟨_, h2⟩ | ⟨i, h1, h2⟩
  · exact absurd (hjt' ▸ List.getElem_mem hjl) h2
  · obtain ⟨hil, hit⟩ := List.getElem?_eq_some_iff.1 h2
    have : i = j := (List.getElem_inj hnd).1 (hit.trans hjt'.symm)
    rw [h1, this]
theorem look_none {row : List (List Nat)} (hrow : ∀ s ∈ row, IsSet s) {t : List Nat} (ht : IsSet t) (hj : row.findIdx? (· == t) = none) {w : World} {b : Nat} (hp : PlaceAt w b row) :
    (Instr.lookup 92 (.map (some b)) (.agg (wordsOf t).toArray) true).run Try.prog w = .ok (.tuple #[.int .i64 0, .bool false]) w := by
  rcases place_lookup hrow ht hp with ⟨h1, _⟩ | ⟨i, _, h2⟩
  · exact h1
  · have := List.findIdx?_eq_none_iff.1 hj t (List.mem_of_getElem? h2)
    simp at this
theorem not_mem_of_none {row : List (List Nat)} {t : List Nat} (hj : row.findIdx? (· == t) = none) : t ∉ row := fun hm => by
  have := List.findIdx?_eq_none_iff.1 hj t hm
  simp at this
/-- A store into that map, at the operation. -/
theorem wpList_place_put {w : World} {ops : Array Oper} {rest : List Oper} {o : Oper} {a : Act} {Q : Exit → Act → World → Prop} {row : List (List Nat)} {t : List Nat} {b : Nat} (hg : o.guard = none) (m x v : Operand)
    (hop : o.op = .insert 92 m x v ∨ o.op = .mapUpdate 92 m x v) (hm : a.eval m = .map (some b)) (hx : a.eval x = .agg (wordsOf t).toArray) (hv : a.eval v = .int .i64 (row.length : Int)) (hd : o.dst = none)
    (hrow : ∀ s ∈ row, IsSet s) (ht : IsSet t) (hnew : t ∉ row) (hp : PlaceAt w b row)
    (h : ∀ w', PlaceAt w' b (row ++ [t]) → w.grownBy w' (some b) → wpList Try.prog ops Q rest a w') : wpList Try.prog ops Q (o :: rest) a w := by
  obtain ⟨w', h1, h2, h3⟩ := place_put hrow ht hnew hp
  refine wpList_plain hg fun K hK => ?_
  have hrun : (execOp a.eval o).run Try.prog w = .ok .skip w' := by
    unfold execOp
    rcases hop with hop | hop
    · simp [hop, hm, hx, hv, h1, Result.andThen]
    · simp [hop, hm, hx, hv, h1, Result.andThen]
  unfold Oper.wp
  rw [hrun]
  show K (a.put o.dst undef) w'
  rw [hd]
  exact hK _ _ (h w' h2 h3)
/-- A literal of one set. -/
theorem run_one_set (W : World) {s : List Nat} (hs : IsSet s) : (Instr.buildSlice 93 1 #[(0, .agg (wordsOf s).toArray)]).run Try.prog W = .ok (.slice (some ⟨W.heap.size, 0, none⟩) 1 1) (W.alloc (.cells (wordsOf s).toArray 88)) := by
  cases hi : Try.prog.info? 88 with
  | none => have := info88; rw [hi] at this; cases this
  | some ie =>
    have h88 := info88
    rw [hi] at h88
    simp only [Option.map_some, Option.some.injEq, Prod.mk.injEq] at h88
    refine run_buildSlice W 93 88 1 _ _ ie _ Try.underlying93 hi h88.1 (by rw [h88.2]; decide) (by rw [h88.2]; decide) ?_
    rw [h88.2]
    have h := Great.fill_whole (s := 16) (by decide) [.agg (wordsOf s).toArray] ((Array.range (1 * 16)).map ((Value.agg (Array.replicate 16 (.int .u64 0))).cells[· % (Value.agg (Array.replicate 16 (.int .u64 0))).cells.size]!)) (by
      intro v hv
      simp only [List.mem_singleton] at hv
      subst hv
      exact set_len hs) (by simp)
    simpa [Value.cells] using h
theorem exec_one_set {a : Act} {o : Oper} {x : Operand} {s : List Nat} (ho : o.op = .buildSlice 93 1 #[(0, x)]) (hx : a.eval x = .agg (wordsOf s).toArray) (hs : IsSet s) (W : World) :
    (execOp a.eval o).run Try.prog W = .ok (.value (.slice (some ⟨W.heap.size, 0, none⟩) 1 1)) (W.alloc (.cells (wordsOf s).toArray 88)) := by
  unfold execOp
  simp [ho, hx, run_one_set W hs, Result.andThen]
theorem reps_one_set {w : World} {base : Nat} {ok : Nat → Prop} {s : List Nat} (hs : IsSet s) : Reps (kset.M w base ok) kset.sz [s] (wordsOf s) := by
  have hl : (wordsOf s).length = 16 := by simp [wordsOf, hs.1]
  refine ⟨by rw [hl]; rfl, fun j p hj => ?_⟩
  cases j with
  | zero =>
    simp only [List.getElem?_cons_zero, Option.some.injEq] at hj
    subst hj
    refine ⟨hs, ?_⟩
    show List.take 16 (List.drop (0 * 16) (wordsOf s)) = wordsOf s
    rw [Nat.zero_mul, List.drop_zero, List.take_of_length_le (by omega)]
  | succ j => simp at hj
end Go.Proofs.Ytkaefgmgcghhiaa.X
end

section
namespace Go.Proofs.Ytkaefgmgcghhiaa.X
open Go.RowKit Go.Proofs.YtkaefgmgcghhiaaW.PrintWords Go.Proofs.YtkaefgmgcghhiaaW.PrintLast Go.Proofs.YtkaefgmgcghhiaaW.PrintMore
structure DetAt (w0 : World) (mb M : Nat) (K : Int) (pr row : List (List Nat)) (rv : Value) (nx : List Int) (nxv : Value) (out : List Int) (outv : Value) (w : World) : Prop where
  place : PlaceAt w mb pr
  row : Kd.R kset 88 w w0.heap.size (fun _ => True) rv row
  m : w.heap[M]? = some (.cells #[.int .i64 1, .int .i64 K, .int .i64 2, .int .i64 0, nxv, outv] 43 (0, 0))
  nx : Kd.R (Kd.int .i64) 3 w w0.heap.size (fun _ => True) nxv nx
  out : Kd.R (Kd.int .i64) 3 w w0.heap.size (fun _ => True) outv out
  apart : ∀ k, nxv.ownBlock = some k → outv.ownBlock ≠ some k
  below : Below w0.heap.size w0 w
  hmb : w0.heap.size ≤ mb
  hM : w0.heap.size ≤ M
theorem R_typed {α : Type} {d : Kd α} {e : Nat} {w : World} {base : Nat} {ok : Nat → Prop} {v : Value} {xs : List α} (h : d.R e w base ok v xs) (k : Nat) (hk : v.ownBlock = some k) : ∃ cells, w.heap[k]? = some (.cells cells e (0, 0)) := by
  obtain ⟨inner, ho⟩ := Kd.R_own h
  exact own_typed ho k hk
theorem R_R_ne {α β : Type} {d : Kd α} {d' : Kd β} {e e' : Nat} {w : World} {base base' : Nat} {ok ok' : Nat → Prop} {v v' : Value} {xs : List α} {ys : List β} (h : d.R e w base ok v xs) (h' : d'.R e' w base' ok' v' ys) (hne : e ≠ e') (k : Nat) (hk : v.ownBlock = some k) : some k ≠ v'.ownBlock := by
  intro he
  obtain ⟨c, h1⟩ := R_typed h k hk
  obtain ⟨c', h2⟩ := R_typed h' k he.symm
  rw [h1] at h2
  simp only [Option.some.injEq, Obj.cells.injEq] at h2
  exact hne h2.2.1
theorem place_R_ne {α : Type} {d : Kd α} {e : Nat} {w : World} {base : Nat} {ok : Nat → Prop} {v : Value} {xs : List α} {b : Nat} {row : List (List Nat)} (hp : PlaceAt w b row) (h : d.R e w base ok v xs) : some b ≠ v.ownBlock := by
  intro he
  obtain ⟨c, h1⟩ := R_typed h b he.symm
  unfold PlaceAt at hp
  rw [hp] at h1
  cases h1
theorem place_blk_ne {w : World} {b g t : Nat} {cs : Array Value} {row : List (List Nat)} (hp : PlaceAt w b row) (h : w.heap[g]? = some (.cells cs t (0, 0))) : b ≠ g := by
  rintro rfl
  unfold PlaceAt at hp
  rw [hp] at h
  cases h
theorem PlaceAt.grown {w w1 : World} {b : Nat} {row : List (List Nat)} {r : Option Nat} (hp : PlaceAt w b row) (hg : w.grownBy w1 r) (hne : some b ≠ r) : PlaceAt w1 b row := blk_grown hp hg hne
theorem PlaceAt.far {w : World} {b : Nat} {row : List (List Nat)} (hp : PlaceAt w b row) {p : Addr} (hne : b ≠ p.block) (u : Value) : PlaceAt (w.setCell p u) b row := (Below.heap_setCell w p u b hne).trans hp
theorem DetAt.low {w0 w w1 : World} {mb M : Nat} {K : Int} {pr row : List (List Nat)} {rv nxv outv : Value} {nx out : List Int} (h : DetAt w0 mb M K pr row rv nx nxv out outv w) (hb : Below w.heap.size w w1) : DetAt w0 mb M K pr row rv nx nxv out outv w1 :=
  ⟨blk_below h.place hb, Kd.R_below h.row hb, blk_below h.m hb, Kd.R_below h.nx hb, Kd.R_below h.out hb, h.apart, below_then h.below h.below.size hb, h.hmb, h.hM⟩
theorem R_after {α : Type} {d : Kd α} {e : Nat} {w w1 : World} {base M j : Nat} {v v1 : Value} {xs : List α} (h : d.R e w base (fun _ => True) v xs) (hE : d.E = []) {row : Option Nat} (hg : w.grownBy w1 row) (hne : ∀ k, row = some k → some k ≠ v.ownBlock) (hM : some M ≠ v.ownBlock) : d.R e (w1.setCell ⟨M, j, none⟩ v1) base (fun _ => True) v xs := by
  have h1 := Kd.R_grown2 h hE hg hne
  exact Kd.R_mono (Kd.R_far (Kd.R_tight hE h1) (p := ⟨M, j, none⟩) (fun k hk he => hM (by rw [← hk]; show some M = some k; rw [he])) v1) (fun _ _ => trivial)
theorem DetAt.outAp {w0 w w1 : World} {mb M : Nat} {K : Int} {pr row : List (List Nat)} {rv nxv outv v1 : Value} {nx out out1 : List Int} (h : DetAt w0 mb M K pr row rv nx nxv out outv w)
    (hr : Kd.R (Kd.int .i64) 3 w1 w0.heap.size (fun _ => True) v1 out1) (hb : Below w0.heap.size w0 w1) (hg : w.grownBy w1 outv.ownBlock) (hat : v1.ownBlock = outv.ownBlock ∨ ∃ b, v1.ownBlock = some b ∧ w.heap.size ≤ b) :
    DetAt w0 mb M K pr row rv nx nxv out1 v1 (w1.setCell ⟨M, 5, none⟩ v1) := by
  have hMo : some M ≠ outv.ownBlock := Kd.R_ne h.out h.m (by decide)
  have hm1 := blk_grown h.m hg hMo
  refine ⟨(h.place.grown hg (place_R_ne h.place h.out)).far (place_blk_ne h.place h.m) _, R_after h.row rfl hg (fun k hk => R_R_ne h.out h.row (by decide) k hk) (Kd.R_ne h.row h.m (by decide)), blk_put hm1 5 v1 rfl,
    R_after h.nx rfl hg (fun k hk he => h.apart k he.symm hk) (Kd.R_ne h.nx h.m (by decide)), ?_, ?_, below_set hb h.hM, h.hmb, h.hM⟩
  · exact Kd.R_mono (Kd.R_far (Kd.R_tight rfl hr) (p := ⟨M, 5, none⟩) (fun k hk he => Kd.R_ne hr hm1 (by decide) (by rw [← hk]; show some M = some k; rw [he])) v1) (fun _ _ => trivial)
  · intro k hk he
    rcases hat with h1 | ⟨b, h1, h2⟩
    · rw [h1] at he; exact h.apart k hk he
    · rw [h1] at he
      have := Kd.R_lt h.nx k hk
      have hbk : b = k := by injection he
      omega
theorem DetAt.nextAp {w0 w w1 : World} {mb M : Nat} {K : Int} {pr row : List (List Nat)} {rv nxv outv v1 : Value} {nx out nx1 : List Int} (h : DetAt w0 mb M K pr row rv nx nxv out outv w)
    (hr : Kd.R (Kd.int .i64) 3 w1 w0.heap.size (fun _ => True) v1 nx1) (hb : Below w0.heap.size w0 w1) (hg : w.grownBy w1 nxv.ownBlock) (hat : v1.ownBlock = nxv.ownBlock ∨ ∃ b, v1.ownBlock = some b ∧ w.heap.size ≤ b) :
    DetAt w0 mb M K pr row rv nx1 v1 out outv (w1.setCell ⟨M, 4, none⟩ v1) := by
  have hMo : some M ≠ nxv.ownBlock := Kd.R_ne h.nx h.m (by decide)
  have hm1 := blk_grown h.m hg hMo
  refine ⟨(h.place.grown hg (place_R_ne h.place h.nx)).far (place_blk_ne h.place h.m) _, R_after h.row rfl hg (fun k hk => R_R_ne h.nx h.row (by decide) k hk) (Kd.R_ne h.row h.m (by decide)), blk_put hm1 4 v1 rfl,
    ?_, R_after h.out rfl hg (fun k hk he => h.apart k hk he.symm) (Kd.R_ne h.out h.m (by decide)), ?_, below_set hb h.hM, h.hmb, h.hM⟩
  · exact Kd.R_mono (Kd.R_far (Kd.R_tight rfl hr) (p := ⟨M, 4, none⟩) (fun k hk he => Kd.R_ne hr hm1 (by decide) (by rw [← hk]; show some M = some k; rw [he])) v1) (fun _ _ => trivial)
  · intro k hk he
    rcases hat with h1 | ⟨b, h1, h2⟩
    · rw [h1] at hk; exact h.apart k hk he
    · rw [h1] at hk
      have := Kd.R_lt h.out k he
      have hbk : b = k := by injection hk
      omega
theorem DetAt.placed {w0 w w1 : World} {mb M : Nat} {K : Int} {pr pr1 row : List (List Nat)} {rv nxv outv : Value} {nx out : List Int} (h : DetAt w0 mb M K pr row rv nx nxv out outv w) (hp : PlaceAt w1 mb pr1) (hg : w.grownBy w1 (some mb)) :
    DetAt w0 mb M K pr1 row rv nx nxv out outv w1 :=
  ⟨hp, Kd.R_grown2 h.row rfl hg (fun k hk => by injection hk with hk; rw [← hk]; exact place_R_ne h.place h.row), blk_grown h.m hg (fun he => place_blk_ne h.place h.m (by injection he with he; exact he.symm)),
    Kd.R_grown2 h.nx rfl hg (fun k hk => by injection hk with hk; rw [← hk]; exact place_R_ne h.place h.nx), Kd.R_grown2 h.out rfl hg (fun k hk => by injection hk with hk; rw [← hk]; exact place_R_ne h.place h.out),
    h.apart, pw_below_grown h.below (some mb) h.below.size hg (fun k hk => by injection hk with hk; rw [← hk]; exact h.hmb), h.hmb, h.hM⟩
theorem DetAt.rowAp {w0 w w1 : World} {mb M : Nat} {K : Int} {pr row row1 : List (List Nat)} {rv rv1 nxv outv : Value} {nx out : List Int} (h : DetAt w0 mb M K pr row rv nx nxv out outv w)
    (hr : Kd.R kset 88 w1 w0.heap.size (fun _ => True) rv1 row1) (hb : Below w0.heap.size w0 w1) (hg : w.grownBy w1 rv.ownBlock) : DetAt w0 mb M K pr row1 rv1 nx nxv out outv w1 :=
  ⟨h.place.grown hg (place_R_ne h.place h.row), hr, blk_grown h.m hg (Kd.R_ne h.row h.m (by decide)), Kd.R_grown2 h.nx rfl hg (fun k hk => R_R_ne h.row h.nx (by decide) k hk), Kd.R_grown2 h.out rfl hg (fun k hk => R_R_ne h.row h.out (by decide) k hk), h.apart, hb, h.hmb, h.hM⟩
end Go.Proofs.Ytkaefgmgcghhiaa.X
end

section
namespace Go.Proofs.Ytkaefgmgcghhiaa.X
open Go.RowKit Go.Proofs.YtkaefgmgcghhiaaW.PrintWords Go.Proofs.YtkaefgmgcghhiaaW.PrintLast Go.Proofs.YtkaefgmgcghhiaaW.PrintMore
theorem gate_insert {P : Program} {ops : Array Oper} {rest : List Oper} {o : Oper} {a : Act} {Q : Exit → Act → World → Prop} {W : World} {t : TypeId} {m x v : Operand} (_ho : o.op = .insert t m x v) (h : wpList P ops Q (o :: rest) a W) : wpList P ops Q (o :: rest) a W := h
theorem gate_update {P : Program} {ops : Array Oper} {rest : List Oper} {o : Oper} {a : Act} {Q : Exit → Act → World → Prop} {W : World} {t : TypeId} {m x v : Operand} (_ho : o.op = .mapUpdate t m x v) (h : wpList P ops Q (o :: rest) a W) : wpList P ops Q (o :: rest) a W := h
theorem info43 : (Try.prog.info? 43).map (fun i => (i.zero, i.size)) = some (some (.agg #[.int .i64 0, .int .i64 0, .int .i64 0, .int .i64 0, .slice none 0 0, .slice none 0 0]), 6) := by kernel_rfl
theorem info88b : (Try.prog.info? 88).map (fun i => (i.zero, i.size, i.bytes)) = some (some (.agg (Array.replicate 16 (.int .u64 0))), kset.sz, 128) := by kernel_rfl
def DT12.T12 : Bool × List (List Nat × List Nat) := (true, [([], []), ([0], [0]), ([], []), ([], []), ([], []), ([3, 4], [3, 4]), ([5], [5]), ([2, 6], [2, 6]), ([7], [7]), ([1, 8, 7], [1, 8]), ([0, 1, 2, 3, 4, 5, 6, 7, 8, 9], []), ([10, 9, 9, 0, 1, 2, 3, 4, 5, 6, 7, 8, 9], [9, 10])])
def DT12.B12 : List Nat := [0, 1, 0, 0, 0, 24, 56, 124, 252, 511, 1023, 2047]
theorem DT12.tab12 : rtab .any (opsOf Try.f22 12) = DT12.T12 := by kernel_rfl
theorem DT12.bits12 : waitsOk DT12.T12.2 DT12.B12 = true := by kernel_rfl
theorem grown_setRow (w : World) (g : Nat) (cs : Array Value) : w.grownBy (w.setRow g cs) (some g) := ⟨rfl, rfl, rfl, by simp, fun i _ hi => setRow_other w g i cs (fun e => hi (by rw [e]))⟩
def zero43 : Array Value := #[.int .i64 0, .int .i64 0, .int .i64 0, .int .i64 0, .slice none 0 0, .slice none 0 0]
theorem zero43_one : zero43.all (·.oneCell') = true := by simp [zero43, Value.oneCell']
set_option maxHeartbeats 8000000 in
set_option maxRecDepth 100000 in
theorem Determine_walk (k : Nat) (K N : Int) (A2 : Option Addr) (c2 : Nat) (S : List Int) (A3 : Option Addr) (c3 : Nat) (F : List Int) (A4 : Option Addr) (c4 : Nat) (E : List S80) (r1 r2 r3 r4 : Int) (r5 r6 : List Int) (r7 : Int) (w : World)
    (hr2 : Kd.C (Kd.int .i64) w A2 S.length S) (hr3 : Kd.C (Kd.int .i64) w A3 F.length F) (hr4 : Kd.C k80 w A4 E.length E) (h : detG k K N S F E = some (r1, r2, r3, r4, r5, r6, r7)) :
    Calls Try.prog 22 #[.agg #[.int .i64 K, .int .i64 N, .slice A2 S.length c2, .slice A3 F.length c3, .slice A4 E.length c4]] w fun e w' => ∃ v4_ v5_ : Value, e = .returned (.tuple #[.agg #[.int .i64 r1, .int .i64 r2, .int .i64 r3, .int .i64 r4, v4_, v5_], .int .i64 r7]) ∧ Kd.R (Kd.int .i64) 3 w' w.heap.size (fun k_ => some k_ ≠ (v5_ : Value).ownBlock) v4_ r5 ∧ Kd.R (Kd.int .i64) 3 w' w.heap.size (fun k_ => some k_ ≠ (v4_ : Value).ownBlock) v5_ r6 ∧ Below w.heap.size w w' := by
  have hu25 := Try.underlying25
  have hu43 := Try.underlying43
  have hu80 := Try.underlying80
  have hu92 := Try.underlying92
  have hu93 := Try.underlying93
  unfold detG at h
  obtain ⟨p0, p1, hp⟩ : ∃ p0 p1, nfa_Check.g K N S F E = (p0, p1) := ⟨_, _, rfl⟩
  have hchk := fun (W : World) (hb : Below w.heap.size w W) => Check_walk K N A2 c2 S A3 c3 F A4 c4 E p0 p1 W (Kd.C_below hr2 hb) (Kd.C_below hr3 hb) (Kd.C_below hr4 hb) hp
  have hok : p1 = 0 → RightN K N S F E := fun he => check_ok (by rw [hp]; exact he)
  rw [hp] at h
  simp only [] at h
  have H2 := Aside0.mk hr2
  have H3 := Aside0.mk hr3
  have H4 := Aside0.mk hr4
  clear hr2 hr3 hr4 hp
  obtain ⟨z43, i43⟩ := zero_of_info info43
  have hZ : ∀ w1, Below ((w.alloc (.cells #[.int .i64 K, .int .i64 N, .slice A2 S.length c2, .slice A3 F.length c3, .slice A4 E.length c4] 25)).alloc (.cells zero43 43)).heap.size ((w.alloc (.cells #[.int .i64 K, .int .i64 N, .slice A2 S.length c2, .slice A3 F.length c3, .slice A4 E.length c4] 25)).alloc (.cells zero43 43)) w1 → w1.heap[w.heap.size + 1]? = some (.cells zero43 43 (0, 0)) := by
    intro w1 hb
    refine blk_below ?_ hb
    have h := blk_new (w.alloc (.cells #[.int .i64 K, .int .i64 N, .slice A2 S.length c2, .slice A3 F.length c3, .slice A4 E.length c4] 25)) (.cells zero43 43)
    simpa using h
  have HZ := Aside0.mk hZ
  clear hZ
  by_cases q1 : p1 ≠ 0
  · rw [if_pos q1] at h
    simp only [Option.some.injEq, Prod.mk.injEq] at h
    obtain ⟨rfl, rfl, rfl, rfl, rfl, rfl, rfl⟩ := h
    have q1b : (p1 != 0) = true := by simpa using q1
    clear hok q1
    go_enter Try.func22, Try.ntmps22
    go_wp2_with (first | (go_at_call 15; refine (hchk _ (below_alloc (below_alloc (Below.refl _ _) _) _)).mono ?_; rintro e w1 ⟨rfl, hb1⟩) | ((with_reducible refine gate_store (t := 43) (p := 2) rfl ?_); (refine wpList_store_rowTo rfl 43 (.tmp 2) (.tmp 23) rfl rfl (w.heap.size + 1) zero43 rfl rfl 43 _ (HZ.out _ hb1) ?_ rfl zero43_one ?_; (focus (rw [i43]; rfl)))))
    have hblk := setRow_heap w1 (w.heap.size + 1) _ zero43 43 (0, 0) (HZ.out _ hb1)
    try simp only [Exit.inBlock, Exit.then]
    refine bodyPost_ret (results_ct rfl _ _ (w.heap.size + 1) 43 zero43 (0, 0) _ rfl hblk Try.underlying43 rfl (by rw [i43]; rfl)) rfl ?_
    exact ⟨_, _, rfl, Kd.R_nil _ _ _ _ _, Kd.R_nil _ _ _ _ _, below_setRow (below_step (below_alloc (below_alloc (Below.refl _ _) _) _) hb1) (by omega) _⟩
  · rw [if_neg q1] at h
    have q0 : p1 = 0 := by omega
    subst q0
    have HOK := Aside0.mk (hok rfl)
    clear q1 hok
    have hfr : ((rowsOf N.toNat E).length : Int) = N := by rw [rows_length]; have := HOK.out.n; omega
    have hfl : ∀ j, ((rowsOf N.toNat E).getD j []).length ≤ 65536 := fun j => Nat.le_trans (rows_short _ _ _) HOK.out.el
    have hnr := fun (W : World) (hb : Below w.heap.size w W) => newRunner_walk K N A2 c2 S A3 c3 F A4 c4 E W (Kd.C_below H4.out hb) HOK.out.n HOK.out.el (fun x hx => ⟨(HOK.out.e x hx).1, (HOK.out.e x hx).2.1⟩)
    generalize rowsOf N.toNat E = fr at h hfr hfl hnr
    have HFR := Aside0.mk hfr
    have HFL := Aside0.mk hfl
    clear hfr hfl
    cases hs : startF k N fr S with
    | none => rw [hs] at h; exact absurd h (by simp)
    | some s =>
      rw [hs] at h
      simp only [] at h
      have HSF := Aside0.mk hs
      cases hd : detF k K N F fr k 0 [s] [] [] with
      | none => rw [hd] at h; exact absurd h (by simp)
      | some res =>
      rw [hd] at h
      have HD0 := Aside0.mk hd
      have HRES := Aside0.mk h
      clear hs h hd
      obtain ⟨z88, i88⟩ := zero_of_info info88
      have hmm := @run_makeMap Try.prog
      go_enter Try.func22, Try.ntmps22
      go_wp2_with (first | (go_at_call 15; refine (hchk _ (below_alloc (below_alloc (Below.refl _ _) _) _)).mono ?_; rintro e w1 ⟨rfl, hb1⟩; have HB1 := Aside0.mk (below_step (below_alloc (below_alloc (Below.refl w.heap.size w) (.cells #[.int .i64 K, .int .i64 N, .slice A2 S.length c2, .slice A3 F.length c3, .slice A4 E.length c4] 25)) (.cells zero43 43)) hb1); have HZ1 := Aside0.mk (HZ.out _ hb1); have hbx := blk_below (blk_alloc (blk_new w (.cells #[.int .i64 K, .int .i64 N, .slice A2 S.length c2, .slice A3 F.length c3, .slice A4 E.length c4] 25)) (.cells zero43 43)) hb1; have HBX := Aside0.mk hbx; have hx0 : w1.cell? ⟨w.heap.size, 0, none⟩ = some (.int .i64 K) := (blk_cell hbx 0).trans rfl; have hx1 : w1.cell? ⟨w.heap.size, 1, none⟩ = some (.int .i64 N) := (blk_cell hbx 1).trans rfl; have hx2 : w1.cell? ⟨w.heap.size, 2, none⟩ = some (.slice A2 S.length c2) := (blk_cell hbx 2).trans rfl; have hx3 : w1.cell? ⟨w.heap.size, 3, none⟩ = some (.slice A3 F.length c3) := (blk_cell hbx 3).trans rfl; have hx4 : w1.cell? ⟨w.heap.size, 4, none⟩ = some (.slice A4 E.length c4) := (blk_cell hbx 4).trans rfl; clear hb1 hbx) | (go_at_call 57; refine (hnr _ HB1.out).mono ?_; rintro e w3 ⟨rb, rfl, hR3, hb3⟩; have HR3 := Aside0.mk hR3; have HB3 := Aside0.mk (below_step HB1.out hb3); have HZ3 := Aside0.mk (blk_below HZ1.out hb3); have HBX3 := Aside0.mk (blk_below HBX.out hb3); clear hR3 hb3 hx0 hx1 hx2 hx3 hx4) | (go_at_call 58; refine (start_walk k rb K N A2 c2 S _ _ fr s w3 _ HOK.out.n HFR.out HFL.out HR3.out (Kd.C_below H2.out HB3.out) HOK.out.sl HSF.out).mono ?_; rintro e w4 ⟨rfl, hs4, hb4⟩; have HS4 := Aside0.mk hs4; have HR4 := Aside0.mk (HR3.out.below hb4); have HB4 := Aside0.mk (below_step HB3.out hb4); have HZ4 := Aside0.mk (blk_below HZ3.out hb4); have HBX4 := Aside0.mk (blk_below HBX3.out hb4); have hlit := fun (W : World) => run_one_set W hs4; have hpl0 : PlaceAt ((w4.alloc (.cells (wordsOf s).toArray 88)).alloc (.map #[] 0)) (w4.heap.size + 1) [] := (by have h := blk_new (w4.alloc (.cells (wordsOf s).toArray 88)) (.map #[] 0); simpa [PlaceAt] using h); clear hs4 hb4) | ((with_reducible refine gate_store (t := 88) (p := 7) rfl ?_); refine wpList_store_rowTo rfl 88 (.tmp 7) (.tmp 28) rfl rfl w4.heap.size (wordsOf s).toArray rfl rfl 88 _ (blk_new w4 _) ?_ ?_ (set_one s) ?_; (focus (rw [i88, set_len HS4.out])); (focus (rw [set_len HS4.out]; simp)); rw [World.setRow_alloc_new]) | ((with_reducible refine gate_dst (N := 30) rfl ?_); refine wpList_load_row rfl 88 (.tmp 7) rfl w4.heap.size rfl 88 (wordsOf s).toArray (0, 0) _ (blk_alloc (blk_new w4 _) _) Try.underlying88 rfl ?_ ?_; (focus (rw [i88, set_len HS4.out]))) | ((with_reducible refine gate_insert rfl ?_); (refine wpList_place_put (row := []) (t := s) (b := w4.heap.size + 1) rfl (.tmp 29) (.tmp 30) (.const (.int .i64 0)) (.inl rfl) rfl rfl rfl rfl (by simp) HS4.out (by simp) hpl0 ?_; intro w6 hp6 hg6; have HP6 := Aside0.mk hp6; have HF6 := Aside0.mk (blk_grown (blk_alloc (blk_new w4 (.cells (wordsOf s).toArray 88)) (.map #[] 0)) hg6 (fun he => by injection he with he; omega)); have HB6 := Aside0.mk ((below_alloc (Below.refl (w4.alloc (.cells (wordsOf s).toArray 88)).heap.size (w4.alloc (.cells (wordsOf s).toArray 88))) (.map #[] 0)).grown hg6 (by simp) (fun k hk => by injection hk with hk; rw [← hk]; simp)); clear hp6 hg6 hpl0)) | ((with_reducible refine gate_dst (N := 32) rfl ?_); refine wpList_load_row rfl 88 (.tmp 7) rfl w4.heap.size rfl 88 (wordsOf s).toArray (0, 0) _ HF6.out Try.underlying88 rfl ?_ ?_; (focus (rw [i88, set_len HS4.out]))) | ((with_reducible refine gate_dst (N := 33) rfl ?_); (refine Kd.R_lit kset (w0 := w4.alloc (.cells (wordsOf s).toArray 88)) (w4.alloc (.cells (wordsOf s).toArray 88)).heap.size 88 rfl (N := 33) rfl (xs := [s]) (inner := wordsOf s) (ok := fun _ => True) (okp := fun _ => True) ?hr ?hp (fun _ hk => hk) trivial HB6.out HB6.out.size (by simp) ?_; (case hr => exact exec_one_set rfl rfl HS4.out _); (case hp => exact reps_one_set HS4.out); intro v7 w7 ho7 hb7 hg7 hnew7; have HO7 := Aside0.mk ho7; have HB7 := Aside0.mk hb7; have HP7 := Aside0.mk (HP6.out.grown hg7 (by simp)); have hx0 : w7.cell? ⟨w.heap.size, 0, none⟩ = some (.int .i64 K) := (blk_cell ((hb7.block w.heap.size (by have := blk_lt HBX4.out; simp; omega)).trans (blk_alloc HBX4.out _)) 0).trans rfl; clear ho7 hb7 hg7 hnew7 hlit)))
      have hD0 : DetAt (w4.alloc (.cells (wordsOf s).toArray 88)) (w4.heap.size + 1) w7.heap.size K [s] [s] v7 [] (.slice none 0 0) [] (.slice none 0 0) (w7.alloc (.cells #[.int .i64 1, .int .i64 K, .int .i64 2, .int .i64 0, .slice none 0 0, .slice none 0 0] 43)) := by
        have hb := below_alloc (Below.refl w7.heap.size w7) (.cells #[.int .i64 1, .int .i64 K, .int .i64 2, .int .i64 0, .slice none 0 0, .slice none 0 0] 43)
        exact ⟨blk_below HP7.out hb, Kd.R_below HO7.out hb, blk_new w7 _, Kd.R_nil _ _ _ _ _, Kd.R_nil _ _ _ _ _, fun k hk => by simp [Value.ownBlock] at hk, below_then HB7.out HB7.out.size hb, by simp, HB7.out.size⟩
      have hb5 := below_alloc (Below.refl w4.heap.size w4) (.cells (wordsOf s).toArray 88)
      have HR5 := Aside0.mk (HR4.out.below hb5)
      have HB5 := Aside0.mk (below_step HB4.out hb5)
      have HZ5 := Aside0.mk (blk_below HZ4.out hb5)
      have HBX5 := Aside0.mk (blk_below HBX4.out hb5)
      have HSS0 : Aside0 (∀ q ∈ [s], IsSet q) := ⟨fun q hq => by simp only [List.mem_singleton] at hq; rw [hq]; exact HS4.out⟩
      have HN0 : Aside0 ([s].Nodup) := ⟨by simp⟩
      generalize hmbq : w4.heap.size + 1 = mb at hD0 ⊢
      generalize hW5q : w4.alloc (.cells (wordsOf s).toArray 88) = W5 at hD0 HR5 HB5 HZ5 HBX5
      clear hb5 HP7 HO7 HB7 HR4 HB4 HZ4 HBX4 HZ3 HBX3 HP6 HF6 HB6 hx0 hmm hchk hnr hW5q hmbq HR3 HB3 HZ1 HBX HB1 HZ HSF
      generalize w7.heap.size = M at hD0 ⊢
      go_loopg [9, 11] k (fun kq v9 v11 wr => ∃ (i : Nat) (row : List (List Nat)) (nx : List Int) (nxv : Value) (out : List Int) (outv : Value), v11 = .int .i64 (i : Int) ∧ Aside0 (detF k K N F fr kq i row nx out = some res) ∧ Aside0 (kq ≤ k) ∧ Aside0 (DetAt W5 mb M K row row v9 nx nxv out outv wr) ∧ Aside0 (∀ q ∈ row, IsSet q) ∧ Aside0 row.Nodup ∧ Aside0 (row.length ≤ 1024))
      case atStart => exact ⟨0, [s], [], _, [], _, rfl, HD0, ⟨Nat.le_refl _⟩, ⟨hD0⟩, HSS0, HN0, ⟨by simp⟩⟩
      case round =>
        clear hD0 HD0 HSS0 HN0
        obtain ⟨i, row, nx, nxv, out, outv, rfl, HF, HK1, HD, HSS, HND, HRL⟩ := hrel
        have hrl := HRL.out
        cases gk with
        | zero => exact absurd HF.out (by simp [detF])
        | succ k1 =>
          have H := HF.out
          clear HF
          simp only [detF] at H
          by_cases e1 : i < row.length
          · rw [if_pos e1] at H
            by_cases e2 : out.length < 1099511627776
            · rw [if_pos e2] at H
              obtain ⟨gr, cr, rfl, hrg, hsi⟩ := row_at HD.out.row i e1
              generalize hsiq : row.getD i [] = si at H hrg hsi
              cases hin : detIn k N fr si (List.range K.toNat) row nx with
              | none => rw [hin] at H; exact absurd H (by simp)
              | some ires =>
                rw [hin] at H
                have HIN := Aside0.mk hin
                have HNX := Aside0.mk H
                have HSI := Aside0.mk hsiq
                have HI1 := Aside0.mk e1
                have HSET := Aside0.mk hsi
                obtain ⟨Ao, co, rfl⟩ := Kd.R_slice HD.out.out
                clear hin H hsiq hsi
                have HOL := Aside0.mk e2
                go_wp2
                have HDD := Aside0.mk (HD.out.low (below_drew1 (Below.refl _ _)))
                have hrl2 : (row.length : Int) ≤ 1024 := by omega
                refine start_ (n := 12) (S := fun w' => w'.cell? ⟨M, 5, none⟩ = some (.slice Ao out.length co) ∧ w'.rangeAt gr (i * 16) (wordsOf si)) (ds := [9, 11]) #[false, false, false, false, false, false, false, false, false, false, false, false] (by kernel_rfl) rfl rfl ⟨(blk_cell (blk_drew HD.out.m) 5).trans rfl, hrg⟩ (fun hHeld => ?_)
                refine with_tabW DT12.tab12 DT12.bits12 (fun HT_ HW_ => ?_)
                generalize wr.drew = wd at HDD hHeld ⊢
                refine pure_ (i := 0) (N := (some 43)) (v := ?_) (a' := ?_) #[true, false, false, false, false, false, false, false, false, false, false, false] rfl rfl (any_of HT_.out (by kernel_rfl)) (fun _ _ _ h => h) (Or.inl ⟨by rfl, ?_⟩) ?_ ?_
                rotate_left
                · intro w'
                  go_simp
                  with_reducible rfl
                rotate_left
                · simp only [Act.put, List.setIfInBounds_toArray, List.set_cons_zero, List.set_cons_succ, i64_w, i32_w]
                  rfl
                refine pure_ (i := 2) (N := (some 45)) (v := ?_) (a' := ?_) #[true, false, true, false, false, false, false, false, false, false, false, false] rfl rfl (any_of HT_.out (by kernel_rfl)) (fun _ _ _ h => h) (Or.inl ⟨by rfl, ?_⟩) ?_ ?_
                rotate_left
                · intro w'
                  go_simp
                  with_reducible rfl
                rotate_left
                · simp only [Act.put, List.setIfInBounds_toArray, List.set_cons_zero, List.set_cons_succ, i64_w, i32_w]
                  rfl
                refine pure_ (i := 3) (N := (some 46)) (v := ?_) (a' := ?_) #[true, false, true, true, false, false, false, false, false, false, false, false] rfl rfl (any_of HT_.out (by kernel_rfl)) (fun _ _ _ h => h) (Or.inl ⟨by rfl, ?_⟩) ?_ ?_
                rotate_left
                · intro w'
                  go_simp
                  with_reducible rfl
                rotate_left
                · simp only [Act.put, List.setIfInBounds_toArray, List.set_cons_zero, List.set_cons_succ, i64_w, i32_w]
                  rfl
                refine pure_ (i := 4) (N := (some 47)) (v := ?_) (a' := ?_) #[true, false, true, true, true, false, false, false, false, false, false, false] rfl rfl (any_of HT_.out (by kernel_rfl)) (fun _ _ _ h => h) (Or.inl ⟨by rfl, ?_⟩) ?_ ?_
                rotate_left
                · intro w'
                  go_simp
                  with_reducible rfl
                rotate_left
                · simp only [Act.put, List.setIfInBounds_toArray, List.set_cons_zero, List.set_cons_succ, i64_w, i32_w]
                  rfl
                refine pure_ (i := 5) (N := (some 48)) (v := ?_) (a' := ?_) #[true, false, true, true, true, true, false, false, false, false, false, false] rfl rfl (any_of HT_.out (by kernel_rfl)) (fun _ _ _ h => h) (Or.inl ⟨by rfl, ?_⟩) ?_ ?_
                rotate_left
                · intro w'
                  go_simp
                  with_reducible rfl
                rotate_left
                · simp only [Act.put, List.setIfInBounds_toArray, List.set_cons_zero, List.set_cons_succ, i64_w, i32_w]
                  rfl
                refine take_ (i := 1) (N := (some 44)) (v := ?_) (a' := ?_) #[true, true, true, true, true, true, false, false, false, false, false, false] rfl rfl (take_ofW HT_.out HW_.out (by kernel_rfl)) (fun _ _ _ h => h) (Or.inl ⟨by rfl, ?_⟩) hHeld ?_ ?_
                rotate_left
                · rintro w' ⟨s0, s1⟩
                  go_simp
                  with_reducible rfl
                rotate_left
                · simp only [Act.put, List.setIfInBounds_toArray, List.set_cons_zero, List.set_cons_succ, i64_w, i32_w]
                  rfl
                refine take_ (i := 6) (N := (some 49)) (v := (.agg (wordsOf si).toArray)) (a' := ?_) #[true, true, true, true, true, true, true, false, false, false, false, false] rfl rfl (take_ofW HT_.out HW_.out (by kernel_rfl)) (fun _ _ _ h => h) (yieldsIf_load_mid (by rfl) 88 _ rfl gr (i * 16) rfl (wordsOf si) _ (fun w' h => h.2) Try.underlying88 rfl (by rw [i88]; simp [wordsOf, HSET.out.1])) hHeld ?_ ?_
                rotate_left
                · simp only [Act.put, List.setIfInBounds_toArray, List.set_cons_zero, List.set_cons_succ, i64_w, i32_w]
                  rfl
                refine one_ (i := 7) (N := (some 50)) #[true, true, true, true, true, true, true, true, false, false, false, false] rfl rfl (one_of HT_.out (by kernel_rfl)) (by decide) (fun K_ hK => ?_)
                have hrgd := hHeld.2
                refine goes_ Try.func60 (by kernel_rfl) rfl #[.pointer (some ⟨rb, 0, none⟩), .agg (wordsOf si).toArray] (by rfl) rfl rfl (by simp [Act.eval]) ?_
                refine (final_walk rb K N A3 c3 F _ _ fr si wd _ (by have h1 := HOK.out.fl; have h2 := HOK.out.n; omega) (HR5.out.below HDD.out.below) (Kd.C_below (Kd.C_below H3.out HB5.out) HDD.out.below) HSET.out).mono ?_
                rintro e w8 ⟨rfl, hb8⟩
                refine ⟨_, rfl, ?_⟩
                have HDE := Aside0.mk (HDD.out.low hb8)
                have hrg8 : w8.rangeAt gr (i * 16) (wordsOf si) := fun j v hv => (hb8.cell (p := ⟨gr, i * 16 + j, none⟩) (World.block_lt_of_cell? wd _ (hrgd j v hv))).trans (hrgd j v hv)
                refine hK.out _ _ ⟨(blk_cell HDE.out.m 5).trans rfl, hrg8⟩ (fun hHeld => ?_); clear hK K_ hrg hb8
                refine norm_ (a' := ?_) ?_ ?_
                rotate_left
                · show Act.put _ (some 50) _ = _
                  simp only [Act.put, List.setIfInBounds_toArray, List.set_cons_zero, List.set_cons_succ, i64_w, i32_w]
                  rfl
                refine one_ (i := 8) (N := (some 51)) #[true, true, true, true, true, true, true, true, true, false, false, false] rfl rfl (one_of HT_.out (by kernel_rfl)) (by decide) (fun K_ hK => ?_)
                refine value_ (w1 := ?_) (v := ?_) (by rfl) rfl ?_ ?_
                rotate_left 2
                · go_simp
                  constructor
                  · rfl
                  · rfl
                refine hK.out _ _ ⟨(blk_cell (blk_alloc HDE.out.m _) 5).trans rfl, fun j v hv => (World.cell?_alloc_lt _ _ _ (World.block_lt_of_cell? _ _ (hrg8 j v hv))).trans (hrg8 j v hv)⟩ (fun hHeld => ?_); clear hK K_
                refine norm_ (a' := ?_) ?_ ?_
                rotate_left
                · show Act.put _ (some 51) _ = _
                  simp only [Act.put, List.setIfInBounds_toArray, List.set_cons_zero, List.set_cons_succ, i64_w, i32_w]
                  rfl
                refine last_ (i := 9) (N := (some 52)) #[true, true, true, true, true, true, true, true, true, true, false, false] rfl rfl (one_of HT_.out (by kernel_rfl)) (by decide) (fun K_ hK => ?_)
                refine Kd.R_append_step (Kd.int .i64) (w0 := W5) W5.heap.size (by rfl) (.tmp 44) (.tmp 51) 22 3 (.int .i64 0) 8 rfl Try.underlying22 info3 rfl (by decide) (by omega) (.slice Ao out.length co) out (fiRow si F 0) [.int .i64 (fiRow si F 0)] (fun _ => True) (fun _ => False) rfl rfl rfl (fun _ hk => hk.elim) (fun _ _ => trivial) HDE.out.out HDE.out.below HDE.out.below.size (by have := HOL.out; omega) ?_
                intro v1 w1 ho hb hg hat
                obtain ⟨A9, c9, rfl⟩ := Kd.R_slice ho
                have hM1 := blk_grown HDE.out.m hg (Kd.R_ne HDE.out.out HDE.out.m (by decide))
                have hfz := blk_frozen hM1 5
                have hcl : w1.cell? ⟨M, 5, none⟩ = some (.slice Ao out.length co) := (blk_cell hM1 5).trans rfl
                refine hK.out _ _ ?_; clear hK K_
                refine norm_ (a' := ?_) ?_ ?_
                rotate_left
                · show Act.put _ (some 52) _ = _
                  simp only [Act.put, List.setIfInBounds_toArray, List.set_cons_zero, List.set_cons_succ, i64_w, i32_w]
                  rfl
                refine pure_ (i := 10) (N := (some 53)) (v := ?_) (a' := ?_) #[true, true, true, true, true, true, true, true, true, true, true, false] rfl rfl (any_of HT_.out (by kernel_rfl)) (fun _ _ _ h => h) (Or.inl ⟨by rfl, ?_⟩) ?_ ?_
                rotate_left
                · intro w'
                  go_simp
                  with_reducible rfl
                rotate_left
                · simp only [Act.put, List.setIfInBounds_toArray, List.set_cons_zero, List.set_cons_succ, i64_w, i32_w]
                  rfl
                refine last_ (i := 11) (N := none) #[true, true, true, true, true, true, true, true, true, true, true, true] rfl rfl (one_of HT_.out (by kernel_rfl)) (by decide) (fun K_ hK => ?_)
                refine skip_ (w1 := ?_) (by rfl) rfl ?_ ?_
                rotate_left
                · go_simp
                  rfl
                refine hK.out _ _ ?_; clear hK K_
                refine done_ (done_of HT_.out (by kernel_rfl)) ?_
                have HD2 := DetAt.outAp HDE.out ho hb hg hat
                simp only [List.length_append, List.length_singleton] at HD2
                clear ho hb hg hat hM1 hfz hcl
                generalize w1.setCell ⟨M, 5, none⟩ (.slice A9 (out.length + 1) c9) = w2 at HD2 ⊢
                generalize Value.slice A9 (out.length + 1) c9 = ov2 at HD2
                generalize hout2 : out ++ [fiRow si F 0] = out2 at HD2 HNX
                have hx0 : w2.cell? ⟨w.heap.size, 0, none⟩ = some (.int .i64 K) := (blk_cell (blk_below HBX5.out HD2.below) 0).trans rfl
                have HD3 := Aside0.mk HD2
                clear HD2 HDE HDD HD hHeld hrgd hrg8 hout2
                go_wp2
                clear hx0
                have hKb : K ≤ 64 := HOK.out.k.2
                have hKa : 1 ≤ K := HOK.out.k.1
                go_loopw [56, 9] (fun v56 v9 wr2 => ∃ (x : Nat) (row1 : List (List Nat)) (nx1 : List Int) (nxv1 : Value), v56 = .int .i64 (x : Int) ∧ Aside0 (x ≤ K.toNat) ∧ Aside0 (detIn k N fr si ((List.range K.toNat).drop x) row1 nx1 = some ires) ∧ Aside0 (DetAt W5 mb M K row1 row1 v9 nx1 nxv1 out2 ov2 wr2) ∧ Aside0 (∀ q ∈ row1, IsSet q) ∧ Aside0 row1.Nodup ∧ Aside0 (row1.length ≤ 1024) ∧ Aside0 (i < row1.length ∧ row1.getD i [] = si)) (fun v56 _ _ => K.toNat - (intOf v56).toNat)
                case atStart => exact ⟨0, row, nx, nxv, rfl, ⟨by omega⟩, HIN, HD3, HSS, HND, HRL, ⟨HI1.out, HSI.out⟩⟩
                case round =>
                  clear HIN HD3 HSS HND HRL HI1 HSI hrl hrl2
                  obtain ⟨x, row1, nx1, nxv1, rfl, HX, HIN, HD, HSS, HND, HRL, HRI⟩ := hrel
                  obtain ⟨gr2, cr2, rfl, hrg2, _⟩ := row_at HD.out.row i HRI.out.1
                  rw [HRI.out.2] at hrg2
                  obtain ⟨An, cn, rfl⟩ := Kd.R_slice HD.out.nx
                  have hrl := HRL.out
                  have hri := HRI.out.1
                  by_cases hlt : x < K.toNat
                  · have H := HIN.out
                    have hd : (List.range K.toNat).drop x = x :: (List.range K.toNat).drop (x + 1) := by
                      rw [List.drop_eq_getElem_cons (by simpa using hlt)]
                      simp
                    rw [hd] at H
                    clear HIN hd
                    simp only [detIn] at H
                    have hlt' : (x : Int) < K := by omega
                    have HLT := Aside0.mk hlt
                    cases hstp : stepF k N fr si (x : Int) with
                    | none => rw [hstp] at H; exact absurd H (by simp)
                    | some t =>
                      rw [hstp] at H
                      simp only [] at H
                      have hst := step_walk k rb K N _ _ _ fr si t (x : Int) wr _ HOK.out.n HFR.out HFL.out (HR5.out.below HD.out.below) HSET.out hstp
                      clear hstp
                      by_cases e3 : nx1.length < 1099511627776
                      · rw [if_pos e3] at H
                        cases hfi : row1.findIdx? (· == t) with
                        | some j =>
                          rw [hfi] at H
                          simp only [] at H
                          have HH2 := Aside0.mk H
                          clear H
                          go_wp2_with (first | ((with_reducible refine gate_dst (N := 63) rfl ?_); refine wpList_load_mid rfl 88 (.tmp 62) rfl gr2 (i * 16) rfl (wordsOf si) _ hrg2 Try.underlying88 rfl ?_ ?_; (focus (rw [i88]; simp [wordsOf, HSET.out.1]))) | (go_at_call 59; refine hst.mono ?_; rintro e w8 ⟨rfl, ht8, hb8⟩; have HT8 := Aside0.mk ht8; have HD9 := Aside0.mk ((HD.out.low hb8).low (below_alloc (Below.refl _ _) (.cells (wordsOf t).toArray 88))); have hlk := look_some HSS.out HND.out HT8.out hfi HD9.out.place; have hm4 : (w8.alloc (.cells (wordsOf t).toArray 88)).cell? ⟨M, 4, none⟩ = some (.slice An nx1.length cn) := (blk_cell HD9.out.m 4).trans rfl; clear ht8 hb8) | ((with_reducible refine gate_store (t := 88) (p := 13) rfl ?_); refine wpList_store_rowTo rfl 88 (.tmp 13) (.tmp 65) rfl rfl w8.heap.size (wordsOf t).toArray rfl rfl 88 _ (blk_new w8 _) ?_ ?_ (set_one t) ?_; (focus (rw [i88, set_len HT8.out])); (focus (rw [set_len HT8.out]; simp)); rw [World.setRow_alloc_new]; have hB9 := blk_new w8 (.cells (wordsOf t).toArray 88); generalize w8.alloc (.cells (wordsOf t).toArray 88) = w9 at HD9 hlk hm4 hB9 ⊢) | ((with_reducible refine gate_dst (N := 68) rfl ?_); refine wpList_load_row rfl 88 (.tmp 13) rfl w8.heap.size rfl 88 (wordsOf t).toArray (0, 0) _ hB9 Try.underlying88 rfl ?_ ?_; (focus (rw [i88, set_len HT8.out]))) | ((with_reducible refine gate_builtin (b := .append) (xs := #[.tmp 88, .tmp 90]) rfl ?_); at_builtin; (refine Kd.R_append (Kd.int .i64) (w0 := W5) W5.heap.size rfl (.tmp 88) (.tmp 90) 22 3 (.int .i64 0) 8 rfl Try.underlying22 info3 rfl (by decide) (by omega) (.slice An nx1.length cn) nx1 (j : Int) [.int .i64 (j : Int)] (fun _ => True) (fun _ => False) rfl rfl ?aP (fun _ hk => hk.elim) ?aF ?aO ?aB ?aS ?aL ?_; (case aP => exact rfl); (case aB => exact HD9.out.below); (case aF => exact (fun _ _ => trivial)); (case aO => exact HD9.out.nx); (case aS => exact HD9.out.below.size); (case aL => omega); intro v12 w12 ho hb hg hat; obtain ⟨A9, c9, rfl⟩ := Kd.R_slice ho; have hM1 := blk_grown HD9.out.m hg (Kd.R_ne HD9.out.nx HD9.out.m (by decide)); have hfz := blk_frozen hM1 4; have hcl : w12.cell? ⟨M, 4, none⟩ = some (.slice An nx1.length cn) := (blk_cell hM1 4).trans rfl; have HD12 := Aside0.mk (DetAt.nextAp HD9.out ho hb hg hat); clear ho hb hg hat hM1)))
                          clear hm4 hlk hcl hfz
                          go_roundw
                          case rel => exact ⟨x + 1, row1, nx1 ++ [(j : Int)], _, by go_num, ⟨by have := HLT.out; omega⟩, HH2, by simpa using HD12, HSS, HND, HRL, HRI⟩
                          case measure => have := HLT.out; simp [intOf]; omega
                        | none =>
                          rw [hfi] at H
                          simp only [] at H
                          by_cases e4 : row1.length = 1024
                          · rw [if_pos e4] at H
                            simp only [Option.some.injEq] at H
                            subst H
                            have hr0 := HNX.out
                            simp only [Option.some.injEq] at hr0
                            subst hr0
                            have hr := HRES.out
                            simp only [Option.some.injEq, Prod.mk.injEq] at hr
                            obtain ⟨rfl, rfl, rfl, rfl, rfl, rfl, rfl⟩ := hr
                            have e4b : (row1.length == 1024) = true := by simpa using e4
                            have e4c : ((row1.length : Int) == 1024) = true := by simp [e4]
                            go_wp2_with (first | ((with_reducible refine gate_dst (N := 63) rfl ?_); refine wpList_load_mid rfl 88 (.tmp 62) rfl gr2 (i * 16) rfl (wordsOf si) _ hrg2 Try.underlying88 rfl ?_ ?_; (focus (rw [i88]; simp [wordsOf, HSET.out.1]))) | (go_at_call 59; refine hst.mono ?_; rintro e w8 ⟨rfl, ht8, hb8⟩; have HT8 := Aside0.mk ht8; have HD9 := Aside0.mk ((HD.out.low hb8).low (below_alloc (Below.refl _ _) (.cells (wordsOf t).toArray 88))); have hlk := look_none HSS.out HT8.out hfi HD9.out.place; have hm4 : (w8.alloc (.cells (wordsOf t).toArray 88)).cell? ⟨M, 4, none⟩ = some (.slice An nx1.length cn) := (blk_cell HD9.out.m 4).trans rfl; clear ht8 hb8) | ((with_reducible refine gate_store (t := 88) (p := 13) rfl ?_); refine wpList_store_rowTo rfl 88 (.tmp 13) (.tmp 65) rfl rfl w8.heap.size (wordsOf t).toArray rfl rfl 88 _ (blk_new w8 _) ?_ ?_ (set_one t) ?_; (focus (rw [i88, set_len HT8.out])); (focus (rw [set_len HT8.out]; simp)); rw [World.setRow_alloc_new]; have hB9 := blk_new w8 (.cells (wordsOf t).toArray 88); generalize w8.alloc (.cells (wordsOf t).toArray 88) = w9 at HD9 hlk hm4 hB9 ⊢) | ((with_reducible refine gate_dst (N := 68) rfl ?_); refine wpList_load_row rfl 88 (.tmp 13) rfl w8.heap.size rfl 88 (wordsOf t).toArray (0, 0) _ hB9 Try.underlying88 rfl ?_ ?_; (focus (rw [i88, set_len HT8.out]))) | ((with_reducible refine gate_store (t := 43) (p := 2) rfl ?_); (refine wpList_store_rowTo rfl 43 (.tmp 2) (.tmp 77) rfl rfl (w.heap.size + 1) zero43 rfl rfl 43 _ (blk_below HZ5.out HD9.out.below) ?_ rfl zero43_one ?_; (focus (rw [i43]; rfl)))))
                            try simp only [Exit.inBlock, Exit.then]
                            refine bodyPost_ret (results_ct rfl _ _ (w.heap.size + 1) 43 zero43 (0, 0) _ rfl (setRow_heap _ (w.heap.size + 1) _ zero43 43 (0, 0) (blk_below HZ5.out HD9.out.below)) Try.underlying43 rfl (by rw [i43]; rfl)) rfl ?_
                            exact ⟨_, _, rfl, Kd.R_nil _ _ _ _ _, Kd.R_nil _ _ _ _ _, below_setRow (below_then HB5.out HB5.out.size HD9.out.below) (by omega) _⟩
                          · rw [if_neg e4] at H
                            have HH2 := Aside0.mk H
                            clear H
                            have e4b : (row1.length == 1024) = false := by simpa using e4
                            have e4c : ((row1.length : Int) == 1024) = false := by
                              have : ¬ ((row1.length : Int) = 1024) := by omega
                              simpa using this
                            go_wp2_with (first | ((with_reducible refine gate_dst (N := 63) rfl ?_); refine wpList_load_mid rfl 88 (.tmp 62) rfl gr2 (i * 16) rfl (wordsOf si) _ hrg2 Try.underlying88 rfl ?_ ?_; (focus (rw [i88]; simp [wordsOf, HSET.out.1]))) | (go_at_call 59; refine hst.mono ?_; rintro e w8 ⟨rfl, ht8, hb8⟩; have HT8 := Aside0.mk ht8; have HD9 := Aside0.mk ((HD.out.low hb8).low (below_alloc (Below.refl _ _) (.cells (wordsOf t).toArray 88))); have hlk := look_none HSS.out HT8.out hfi HD9.out.place; have hm4 : (w8.alloc (.cells (wordsOf t).toArray 88)).cell? ⟨M, 4, none⟩ = some (.slice An nx1.length cn) := (blk_cell HD9.out.m 4).trans rfl; clear ht8 hb8) | ((with_reducible refine gate_store (t := 88) (p := 13) rfl ?_); refine wpList_store_rowTo rfl 88 (.tmp 13) (.tmp 65) rfl rfl w8.heap.size (wordsOf t).toArray rfl rfl 88 _ (blk_new w8 _) ?_ ?_ (set_one t) ?_; (focus (rw [i88, set_len HT8.out])); (focus (rw [set_len HT8.out]; simp)); rw [World.setRow_alloc_new]; have hB9 := blk_new w8 (.cells (wordsOf t).toArray 88); generalize w8.alloc (.cells (wordsOf t).toArray 88) = w9 at HD9 hlk hm4 hB9 ⊢) | ((with_reducible refine gate_dst (N := 68) rfl ?_); refine wpList_load_row rfl 88 (.tmp 13) rfl w8.heap.size rfl 88 (wordsOf t).toArray (0, 0) _ hB9 Try.underlying88 rfl ?_ ?_; (focus (rw [i88, set_len HT8.out]))) | ((with_reducible refine gate_dst (N := 81) rfl ?_); refine wpList_load_row rfl 88 (.tmp 13) rfl w8.heap.size rfl 88 (wordsOf t).toArray (0, 0) _ hB9 Try.underlying88 rfl ?_ ?_; (focus (rw [i88, set_len HT8.out]))) | ((with_reducible refine gate_update rfl ?_); (refine wpList_place_put (row := row1) (t := t) (b := mb) rfl (.tmp 80) (.tmp 81) (.tmp 82) (.inr rfl) rfl rfl rfl rfl HSS.out HT8.out (not_mem_of_none hfi) HD9.out.place ?_; intro w10 hp10 hg10; have HD10 := Aside0.mk (HD9.out.placed hp10 hg10); have HT10 := Aside0.mk (blk_grown hB9 hg10 (fun he => place_blk_ne HD9.out.place hB9 (by injection he with he; exact he.symm))); clear hp10 hg10 hm4 hlk)) | ((with_reducible refine gate_dst (N := 84) rfl ?_); refine wpList_load_row rfl 88 (.tmp 13) rfl w8.heap.size rfl 88 (wordsOf t).toArray (0, 0) _ HT10.out Try.underlying88 rfl ?_ ?_; (focus (rw [i88, set_len HT8.out]))) | ((with_reducible refine gate_dst (N := 85) rfl ?_); (refine Kd.event_run rfl (exec_one_set rfl rfl HT8.out _) ?_)) | ((with_reducible refine gate_builtin (b := .append) (xs := #[.tmp 83, .tmp 85]) rfl ?_); at_builtin; (refine Kd.R_append kset (w0 := W5) W5.heap.size rfl (.tmp 83) (.tmp 85) 93 88 (.agg (Array.replicate 16 (.int .u64 0))) 128 rfl Try.underlying93 info88b rfl (by decide) (by omega) (.slice (some ⟨gr2, 0, none⟩) row1.length cr2) row1 t (wordsOf t) (fun _ => True) (fun _ => False) rfl rfl ?aP (fun _ hk => hk.elim) ?aF ?aO ?aB ?aS ?aL ?_; (case aP => exact ⟨HT8.out, rfl⟩); (case aB => exact HD10.out.below); (case aF => exact (fun _ _ => trivial)); (case aO => exact HD10.out.row); (case aS => exact HD10.out.below.size); (case aL => omega); intro v11 w11 ho hb hg hat; have HD11 := Aside0.mk (HD10.out.rowAp ho hb hg); have hm4 : w11.cell? ⟨M, 4, none⟩ = some (.slice An nx1.length cn) := (blk_cell HD11.out.m 4).trans rfl; clear ho hb hg hat)) | ((with_reducible refine gate_builtin (b := .append) (xs := #[.tmp 88, .tmp 90]) rfl ?_); at_builtin; (refine Kd.R_append (Kd.int .i64) (w0 := W5) W5.heap.size rfl (.tmp 88) (.tmp 90) 22 3 (.int .i64 0) 8 rfl Try.underlying22 info3 rfl (by decide) (by omega) (.slice An nx1.length cn) nx1 (row1.length : Int) [.int .i64 (row1.length : Int)] (fun _ => True) (fun _ => False) rfl rfl ?aP (fun _ hk => hk.elim) ?aF ?aO ?aB ?aS ?aL ?_; (case aP => exact rfl); (case aB => exact HD11.out.below); (case aF => exact (fun _ _ => trivial)); (case aO => exact HD11.out.nx); (case aS => exact HD11.out.below.size); (case aL => omega); intro v12 w12 ho hb hg hat; obtain ⟨A9, c9, rfl⟩ := Kd.R_slice ho; have hM1 := blk_grown HD11.out.m hg (Kd.R_ne HD11.out.nx HD11.out.m (by decide)); have hfz := blk_frozen hM1 4; have hcl : w12.cell? ⟨M, 4, none⟩ = some (.slice An nx1.length cn) := (blk_cell hM1 4).trans rfl; have HD12 := Aside0.mk (DetAt.nextAp HD11.out ho hb hg hat); clear ho hb hg hat hM1)))
                            clear hm4 hcl hfz
                            go_roundw
                            case rel =>
                              refine ⟨x + 1, row1 ++ [t], nx1 ++ [(row1.length : Int)], _, by go_num, ⟨by have := HLT.out; omega⟩, HH2, by simpa using HD12, ⟨?_⟩, ⟨?_⟩, ⟨?_⟩, ⟨?_, ?_⟩⟩
                              · intro q hq
                                rcases List.mem_append.1 hq with hq | hq
                                · exact HSS.out q hq
                                · simp only [List.mem_singleton] at hq; rw [hq]; exact HT8.out
                              · exact List.nodup_append.2 ⟨HND.out, by simp, fun a ha b hb he => by simp only [List.mem_singleton] at hb; exact not_mem_of_none hfi (by rw [← hb, ← he]; exact ha)⟩
                              · have h1 := HRL.out
                                have h2 : ¬ row1.length = 1024 := by intro h; rw [h] at e4b; cases e4b
                                simp only [List.length_append, List.length_singleton]
                                omega
                              · have := HRI.out.1
                                simp only [List.length_append, List.length_singleton]
                                omega
                              · rw [List.getD_eq_getElem?_getD, List.getElem?_append_left HRI.out.1, ← List.getD_eq_getElem?_getD]
                                exact HRI.out.2
                            case measure => have := HLT.out; simp [intOf]; omega
                      · rw [if_neg e3] at H; exact absurd H (by simp)
                  · have H := HIN.out
                    rw [List.drop_of_length_le (by simp; omega)] at H
                    simp only [detIn, Option.some.injEq] at H
                    subst H
                    have hlt' : ¬ ((x : Int) < K) := by omega
                    have hr := HNX.out
                    simp only [] at hr
                    go_wp2
                    go_roundg k1
                    case rel => exact ⟨i + 1, row1, nx1, _, out2, _, by go_num, ⟨hr⟩, ⟨by have := HK1.out; omega⟩, HD, HSS, HND, HRL⟩
                    case measure => have := HK1.out; omega
            · rw [if_neg e2] at H; exact absurd H (by simp)
          · rw [if_neg e1] at H
            have hlt' : ¬ ((i : Int) < (row.length : Int)) := by omega
            simp only [Option.some.injEq] at H
            subst H
            have hr := HRES.out
            simp only [Option.some.injEq, Prod.mk.injEq] at hr
            obtain ⟨rfl, rfl, rfl, rfl, rfl, rfl, rfl⟩ := hr
            obtain ⟨Ar, cr, rfl⟩ := Kd.R_slice HD.out.row
            obtain ⟨An, cn, rfl⟩ := Kd.R_slice HD.out.nx
            obtain ⟨Ao, co, rfl⟩ := Kd.R_slice HD.out.out
            have hfz := blk_frozen HD.out.m 3
            have hcl : wr.cell? ⟨M, 3, none⟩ = some (.int .i64 0) := (blk_cell HD.out.m 3).trans rfl
            have hM2 := blk_put HD.out.m 3 (.int .i64 (row.length : Int)) (cs' := #[.int .i64 1, .int .i64 K, .int .i64 2, .int .i64 (row.length : Int), .slice An nx.length cn, .slice Ao out.length co]) rfl
            have hZr := blk_below HZ5.out HD.out.below
            have hMZ : M ≠ w.heap.size + 1 := by
              have h1 := HD.out.hM
              have h2 := blk_lt HZ5.out
              omega
            have hZ2 := blk_far hZr (p := ⟨M, 3, none⟩) (fun e => hMZ e.symm) (.int .i64 (row.length : Int))
            have hone : (#[.int .i64 1, .int .i64 K, .int .i64 2, .int .i64 (row.length : Int), .slice An nx.length cn, .slice Ao out.length co] : Array Value).all (·.oneCell') = true := by simp [Value.oneCell']
            go_wp2_with (first | ((with_reducible refine gate_dst (N := 97) rfl ?_); (refine wpList_load_row rfl 43 (.tmp 10) rfl M rfl 43 #[.int .i64 1, .int .i64 K, .int .i64 2, .int .i64 (row.length : Int), .slice An nx.length cn, .slice Ao out.length co] (0, 0) _ hM2 Try.underlying43 rfl ?_ ?_; (focus (rw [i43]; rfl)))) | ((with_reducible refine gate_store (t := 43) (p := 2) rfl ?_); (refine wpList_store_rowTo rfl 43 (.tmp 2) (.tmp 97) rfl rfl (w.heap.size + 1) #[.int .i64 1, .int .i64 K, .int .i64 2, .int .i64 (row.length : Int), .slice An nx.length cn, .slice Ao out.length co] rfl rfl 43 _ hZ2 ?_ rfl hone ?_; (focus (rw [i43]; rfl)))))
            have hblk := setRow_heap _ (w.heap.size + 1) _ #[.int .i64 1, .int .i64 K, .int .i64 2, .int .i64 (row.length : Int), .slice An nx.length cn, .slice Ao out.length co] 43 (0, 0) hZ2
            try simp only [Exit.inBlock, Exit.then]
            refine bodyPost_ret (results_ct rfl _ _ (w.heap.size + 1) 43 #[.int .i64 1, .int .i64 K, .int .i64 2, .int .i64 (row.length : Int), .slice An nx.length cn, .slice Ao out.length co] (0, 0) _ rfl hblk Try.underlying43 rfl (by rw [i43]; rfl)) rfl ?_
            have hb5 : w.heap.size ≤ W5.heap.size := HB5.out.size
            have keep : ∀ (v : Value) (xs : List Int), Kd.R (Kd.int .i64) 3 wr W5.heap.size (fun _ => True) v xs → Kd.R (Kd.int .i64) 3 ((wr.setCell ⟨M, 3, none⟩ (.int .i64 (row.length : Int))).setRow (w.heap.size + 1) #[.int .i64 1, .int .i64 K, .int .i64 2, .int .i64 (row.length : Int), .slice An nx.length cn, .slice Ao out.length co]) w.heap.size (fun _ => True) v xs := by
              intro v xs h
              have h1 := Kd.R_far (Kd.R_tight rfl h) (p := ⟨M, 3, none⟩) (fun k hk he => Kd.R_ne h HD.out.m (by decide) (by rw [← hk]; show some M = some k; rw [he])) (.int .i64 (row.length : Int))
              have h2 := Kd.R_grown h1 (grown_setRow _ (w.heap.size + 1) #[.int .i64 1, .int .i64 K, .int .i64 2, .int .i64 (row.length : Int), .slice An nx.length cn, .slice Ao out.length co]) (fun k hk he => Kd.R_ne h hZr (by decide) (by rw [← hk]; exact he.symm))
              exact Kd.R_mono (Kd.R_lower h2 hb5) (fun _ _ => trivial)
            refine ⟨_, _, rfl, Kd.R_reok rfl (keep _ _ HD.out.nx) (fun k hk he => HD.out.apart k hk he.symm), Kd.R_reok rfl (keep _ _ HD.out.out) (fun k hk he => HD.out.apart k he.symm hk), ?_⟩
            exact below_setRow (below_then HB5.out hb5 (below_set HD.out.below HD.out.hM)) (by omega) _
end Go.Proofs.Ytkaefgmgcghhiaa.X
end

section
namespace Go.Proofs.Ytkaefgmgcghhiaa.X
open Go.RowKit Go.Proofs.YtkaefgmgcghhiaaW.PrintWords Go.Proofs.YtkaefgmgcghhiaaW.PrintLast Go.Proofs.YtkaefgmgcghhiaaW.PrintMore
def numsA (xs : List Int) : Array Value := (xs.map (Value.int .i64)).toArray
def cnX (K : Int) (nxl now : List Int) (s : Nat) : List Nat → Int → Option Int
  | [], sum => some sum
  | x :: r, sum => if (0 ≤ wrap64 (wrap64 ((s : Int) * K) + (x : Int)) ∧ wrap64 (wrap64 ((s : Int) * K) + (x : Int)) < (nxl.length : Int)) ∧ (0 ≤ rd nxl (wrap64 (wrap64 ((s : Int) * K) + (x : Int))) ∧ rd nxl (wrap64 (wrap64 ((s : Int) * K) + (x : Int))) < (now.length : Int))
    then cnX K nxl now s r (min (wrap64 (sum + rd now (rd nxl (wrap64 (wrap64 ((s : Int) * K) + (x : Int)))))) 1099511627777) else none
def cnS (K : Int) (nxl now : List Int) : List Nat → List Int → Option (List Int)
  | [], nx => some nx
  | s :: r, nx => match cnX K nxl now s (List.range K.toNat) 0 with
    | none => none
    | some sum => cnS K nxl now r (nx.set s sum)
def cnN (K N : Int) (nxl : List Int) : Nat → List Int → List Int → Option (List Int)
  | 0, now, _ => some now
  | n + 1, now, nx => match cnS K nxl now (List.range N.toNat) nx with
    | none => none
    | some nx1 => cnN K N nxl n nx1 nx1
def cnG (k : Nat) (kd K O N : Int) (nxl out : List Int) (n : Int) : Option (Int × Int) :=
  match nfa_dfa.f k kd K O N nxl out with
  | none => none
  | some e => if e ≠ 0 then some (0, e) else if n < 0 then some (0, 1) else if n > 4096 then some (0, 1) else
    if (1 ≤ N ∧ N ≤ 1024) ∧ (1 ≤ K ∧ K ≤ 64) ∧ (out.length : Int) = N then (match cnN K N nxl n.toNat out (List.replicate N.toNat 0) with
      | none => none
      | some now => if rd now 0 > 1099511627776 then some (0, 11) else some (rd now 0, 0)) else none
theorem nums_cell {w : World} {g : Nat} {xs : List Int} (h : w.heap[g]? = some (.cells (numsA xs) 3 (0, 0))) (j : Nat) (hj : j < xs.length) : w.cell? ⟨g, j, none⟩ = some (.int .i64 (rd xs j)) := by
  rw [blk_cell h]
  simp [numsA, rd, List.getD_eq_getElem?_getD, List.getElem?_eq_getElem hj]
theorem nums_set {w : World} {g : Nat} {xs : List Int} (h : w.heap[g]? = some (.cells (numsA xs) 3 (0, 0))) (j : Nat) (v : Int) : (w.setCell ⟨g, j, none⟩ (.int .i64 v)).heap[g]? = some (.cells (numsA (xs.set j v)) 3 (0, 0)) := by
  refine blk_put h j _ ?_
  simp [numsA, List.map_set]
theorem copy_row {d s : List Int} (h : s.length = d.length) : ((numsA d).toList.take 0 ++ (s.map (Value.int .i64) ++ (numsA d).toList.drop (0 + (s.map (Value.int .i64)).length))).toArray = numsA s := by
  simp [numsA, h]
theorem made_nums (n : Nat) : madeCells #[Value.int .i64 0] n = numsA (List.replicate n 0) := by
  apply Array.ext'
  simp only [madeCells, numsA]
  apply List.ext_getElem
  · simp
  · intro i h1 h2
    simp [Nat.mod_one]
theorem fresh_make {ops : Array Oper} {rest : List Oper} {o : Oper} {a : Act} {Q : Exit → Act → World → Prop} {W : World} (hgd : o.guard = none) {x : Operand} (ho : o.op = .makeSlice 22 x x) {N : Int} (hx : a.eval x = .int .i64 N) (h0 : 0 ≤ N) (h1 : N ≤ 1024)
    (h : ∀ w1, w1.heap[W.heap.size]? = some (.cells (numsA (List.replicate N.toNat 0)) 3 (0, 0)) → Below W.heap.size W w1 → wpList Try.prog ops Q rest (a.put o.dst (.slice (some ⟨W.heap.size, 0, none⟩) N.toNat N.toNat)) w1) : wpList Try.prog ops Q (o :: rest) a W := by
  have hmk := print_make_int 22 3 (.int .i64 0) 8 Try.underlying22 info3 rfl (by decide) N h0 (by omega) W
  refine Kd.event_run hgd (v := .slice (some ⟨W.heap.size, 0, none⟩) N.toNat N.toNat) (w1 := W.alloc (.cells (madeCells #[.int .i64 0] N.toNat) 3)) ?_ (h _ ?_ (below_alloc (Below.refl _ _) _))
  · unfold execOp
    simp [ho, hx, hmk, Result.andThen]
  · rw [← made_nums]
    exact blk_new W _
/-- copy(d, s) of two whole rows of one length. -/
theorem copy_whole {ops : Array Oper} {rest : List Oper} {o : Oper} {a : Act} {Q : Exit → Act → World → Prop} {W : World} (hgd : o.guard = none) (x y : Operand) (ho : o.op = .call { callee := .builtin .copy, args := #[x, y], argTypes := #[22, 22] })
    {g n m cd cs : Nat} {ad : Addr} {d s : List Int} (hx : a.eval x = .slice (some ⟨g, 0, none⟩) n cd) (hy : a.eval y = .slice (some ad) m cs) (hm : m = n) (hd : d.length = n) (hs : s.length = n)
    (hg : W.heap[g]? = some (.cells (numsA d) 3 (0, 0))) (hsrc : ∀ j v, (s.map (Value.int .i64))[j]? = some v → W.cell? (ad.add j) = some v)
    (h : ∀ w1, w1.heap[g]? = some (.cells (numsA s) 3 (0, 0)) → W.grownBy w1 (some g) → wpList Try.prog ops Q rest (a.put o.dst (goInt n)) w1) : wpList Try.prog ops Q (o :: rest) a W := by
  subst hm
  refine wpList_copy_own hgd x y 22 22 ho 3 Try.underlying22 (by kernel_rfl) g 0 m cd ad m cs hx hy (numsA d) 3 hg (s.map (Value.int .i64)) (by simp [hs]) hsrc (by simp [numsA, hs, hd]) (fun v hv => by
    obtain ⟨m, _, rfl⟩ := List.mem_map.1 hv
    rfl) ?_
  have hl : (s.map (Value.int .i64)).length = m := by simp [hs]
  rw [hl]
  refine h _ ?_ (grown_setRow _ _ _)
  have h2 := copy_row (d := d) (s := s) (by omega)
  rw [hl] at h2
  rw [h2]
  exact setRow_heap W g _ _ 3 (0, 0) hg
theorem nums_src {w : World} {g : Nat} {xs : List Int} (h : w.heap[g]? = some (.cells (numsA xs) 3 (0, 0))) : ∀ j v, (xs.map (Value.int .i64))[j]? = some v → w.cell? ((⟨g, 0, none⟩ : Addr).add j) = some v := by
  intro j v hj
  rw [Addr.add_mid, Nat.zero_add, blk_cell h]
  simpa [numsA] using hj
theorem args_src {w : World} {ad : Addr} {xs : List Int} {n : Nat} (h : Kd.C (Kd.int .i64) w (some ad) n xs) (hn : n = xs.length) : ∀ j v, (xs.map (Value.int .i64))[j]? = some v → w.cell? (ad.add j) = some v := by
  intro j v hj
  obtain ⟨x, hx, rfl⟩ := (by simpa using hj : ∃ x, xs[j]? = some x ∧ Value.int .i64 x = v)
  have hl := (List.getElem?_eq_some_iff.1 hx).1
  obtain ⟨ad2, e2, hc⟩ := Kd.at_int h (j : Int) (by omega) (by omega)
  cases e2
  rw [Int.toNat_natCast] at hc
  rw [hc]
  simp [rd, List.getD_eq_getElem?_getD, hx]
end Go.Proofs.Ytkaefgmgcghhiaa.X
end

section
namespace Go.Proofs.Ytkaefgmgcghhiaa.X
open Go.RowKit Go.Proofs.YtkaefgmgcghhiaaW.PrintWords Go.Proofs.YtkaefgmgcghhiaaW.PrintLast Go.Proofs.YtkaefgmgcghhiaaW.PrintMore
/-- A row of numbers of the call's own. -/
def OR (w : World) (base : Nat) (v : Value) (xs : List Int) : Prop := w.ownsRow base 3 1 v xs.length (nums .i64 xs)
theorem OR_of_R {w : World} {base : Nat} {ok : Nat → Prop} {v : Value} {xs : List Int} (h : Kd.R (Kd.int .i64) 3 w base ok v xs) : OR w base v xs := by
  obtain ⟨inner, ho⟩ := Kd.R_own h
  obtain ⟨_, inner', ho', hr⟩ := h
  have hi : inner' = nums .i64 xs := by
    have h1 : inner'.length = xs.length := by have h0 : inner'.length = xs.length * 1 := ho'.1; omega
    apply List.ext_getElem?
    intro j
    by_cases hj : j < xs.length
    · have h2 := hr.2 j xs[j] (List.getElem?_eq_getElem hj)
      change List.take 1 (List.drop (j * 1) inner') = [Value.int .i64 xs[j]] at h2
      rw [Nat.mul_one, List.drop_eq_getElem_cons (by omega)] at h2
      simp only [List.take_succ_cons, List.take_zero, List.cons.injEq, and_true] at h2
      rw [List.getElem?_eq_getElem (by omega), h2]
      simp [nums, List.getElem?_eq_getElem hj]
    · rw [List.getElem?_eq_none (by omega), List.getElem?_eq_none (by simp [nums]; omega)]
  unfold OR
  rw [← hi]
  exact ho'
theorem OR.form {w : World} {base : Nat} {v : Value} {xs : List Int} (h : OR w base v xs) : (v = .slice none 0 0 ∧ xs = []) ∨ ∃ g cap, v = .slice (some ⟨g, 0, none⟩) xs.length cap ∧ base ≤ g ∧ g < w.heap.size ∧ (∃ cells, w.heap[g]? = some (.cells cells 3 (0, 0))) ∧ ∀ j, j < xs.length → w.cell? ⟨g, j, none⟩ = some (.int .i64 (rd xs j)) := by
  rcases h.2 with ⟨h1, h2⟩ | ⟨g, cap, cur, rfl, hb, hg, h1, h2, h3, h4⟩
  · exact .inl ⟨h1, List.eq_nil_of_length_eq_zero h2⟩
  · refine .inr ⟨g, cap, rfl, hb, (Array.getElem?_eq_some_iff.1 hg).1, ⟨cur, hg⟩, fun j hj => ?_⟩
    have h' : w.ownsRow base 3 1 (.slice (some ⟨g, 0, none⟩) xs.length cap) xs.length (nums .i64 xs) := h
    rw [h'.cellAt j (by omega)]
    simp [nums, rd, List.getD_eq_getElem?_getD, List.getElem?_eq_getElem hj]
/-- append of one number to a row of the call's own: the row goes on, in its place or in a new one; what it held is still read where it lay. -/
theorem ap_keep {ops : Array Oper} {rest : List Oper} {o : Oper} {a : Act} {Q : Exit → Act → World → Prop} {w0 W : World} (base : Nat) (hgd : o.guard = none) (s x : Operand) (ho : o.op = .call { callee := .builtin .append, args := #[s, x], argTypes := #[22, 22] })
    (v : Value) (xs : List Int) (y : Int) (hs : a.eval s = v) (hx : a.eval x = .slice (some ⟨W.heap.size, 0, none⟩) 1 1) (HO : OR W base v xs) (HB : Below base w0 W) (hbase : base ≤ W.heap.size) (hl : xs.length < 1099511627776)
    (h : ∀ v1 w1, OR w1 base v1 (xs ++ [y]) → Below base w0 w1 → (v1.ownBlock = v.ownBlock ∨ ∃ b, v1.ownBlock = some b ∧ W.heap.size ≤ b) → W.grownBy w1 v.ownBlock →
      (∀ b o u, v.ownBlock = some b → o < xs.length → W.cell? ⟨b, o, none⟩ = some u → w1.cell? ⟨b, o, none⟩ = some u) → wpList Try.prog ops Q rest (a.put o.dst v1) w1) :
    wpList Try.prog ops Q (o :: rest) a (W.alloc (.cells #[.int .i64 y] 3)) := by
  obtain ⟨i0, hi, hzz⟩ := Option.map_eq_some_iff.1 info3
  simp only [Prod.mk.injEq] at hzz
  obtain ⟨hz0, hz1, hz2⟩ := hzz
  have hcat : nums .i64 (xs ++ [y]) = nums .i64 xs ++ [.int .i64 y] := by simp [nums]
  rcases HO.2 with ⟨hv, hn⟩ | ⟨g, cap, cur, hv, hb, hg, h1, h2, h3, h4⟩
  · refine wpList_append_own_at (W.alloc (.cells #[.int .i64 y] 3)) hgd s x 22 ho base 3 i0 (.int .i64 0) 1 8 Try.underlying22 hi hz0 hz1 hz2 rfl (by omega) v xs.length (nums .i64 xs) hs (World.ownsRow.alloc HO _) ⟨W.heap.size, 0, none⟩ 1 1 [.int .i64 y] hx rfl
      (World.news_of_block (cs := #[.int .i64 y]) (t := 3) (fr := (0, 0)) (heap_alloc_new W _)) (by simp [Value.oneCell']) (by simp only [maxLen]; omega) (by omega) (by simp; omega) ?_
    intro v1 w1 hown hgr _ hat
    subst hv
    refine h v1 w1 ?_ ((HB.alloc hbase _).grown hgr (by simp; omega) (fun k hk => by cases hk)) ?_ (World.grownBy.trans (World.grownBy_alloc W _ _) hgr) (fun b o u hb => by cases hb)
    · unfold OR
      rw [hcat, List.length_append]
      exact hown
    · rcases hat with hat | hat
      · exact .inl hat
      · exact .inr ⟨_, hat, by simp⟩
  · subst hv
    have hO : W.ownsRow base 3 1 (.slice (some ⟨g, 0, none⟩) xs.length cap) xs.length (nums .i64 xs) := HO
    have hOa : (W.alloc (.cells #[.int .i64 y] 3)).ownsRow base 3 1 (.slice (some ⟨g, 0, none⟩) xs.length cap) xs.length (nums .i64 xs) := World.ownsRow.alloc hO _
    have hglt : g < W.heap.size := (Array.getElem?_eq_some_iff.1 hg).1
    have hga : (W.alloc (.cells #[.int .i64 y] 3)).heap[g]? = some (.cells cur 3 (0, 0)) := (heap_alloc_old W _ hglt).trans hg
    refine wpList_append_arg (W.alloc (.cells #[.int .i64 y] 3)) hgd s x 22 ho 3 i0 (.int .i64 0) 1 8 Try.underlying22 hi hz0 hz1 hz2 rfl (by omega) g 0 xs.length cap (nums .i64 xs) hs (by simp [nums]) (fun j u hj => ?_) ⟨W.heap.size, 0, none⟩ 1 1 [.int .i64 y] hx rfl
      (World.news_of_block (cs := #[.int .i64 y]) (t := 3) (fr := (0, 0)) (heap_alloc_new W _)) (by simp [Value.oneCell']) (fun hr j hj => ?_) (by simp only [maxLen]; omega) (by omega) (fun hr => ?_) (fun hr v1 w1 hown hgr => ?_)
    · have hjl : j < xs.length := by have := (List.getElem?_eq_some_iff.1 hj).1; simpa [nums] using this
      rw [Nat.zero_add, hOa.cellAt j (by omega), hj]
    · have hj0 : j = 0 := by simpa using hj
      subst hj0
      refine ⟨?_, hOa.frozenAt _⟩
      rw [cell_of_row _ g _ cur 3 (0, 0) hga, Array.getElem?_eq_getElem (by omega)]
      rfl
    · have hst := hOa.stored (0 + xs.length * 1) (.int .i64 y)
      have hw : (W.alloc (.cells #[.int .i64 y] 3)).setCells g (0 + xs.length * 1) [.int .i64 y] = (W.alloc (.cells #[.int .i64 y] 3)).setCell ⟨g, 0 + xs.length * 1, none⟩ (.int .i64 y) := rfl
      rw [hw]
      have hgr := World.grownBy.trans (World.grownBy_alloc W (.cells #[.int .i64 y] 3) (some g)) hst.2
      refine h _ _ ?_ ((HB.alloc hbase _).grown hst.2 (by simp; omega) (fun k hk => by injection hk with hk; omega)) (.inl rfl) hgr (fun b o u hb ho hc => ?_)
      · unfold OR
        rw [hcat, List.length_append]
        refine ⟨by simp [nums], .inr ⟨g, cap, cur.setIfInBounds (0 + xs.length * 1) (.int .i64 y), rfl, hb, heap_setCell_same _ g _ cur 3 _ hga, hr, h2, by simpa using h3, ?_⟩⟩
        have hnl : xs.length < cur.size := by omega
        have h4' : cur.toList.take xs.length = nums .i64 xs := by simpa using h4
        simp only [Nat.zero_add, Nat.mul_one, Array.toList_setIfInBounds, List.length_singleton]
        rw [List.take_set, List.take_succ_eq_append_getElem (by simpa using hnl), h4']
        rw [List.set_append_right _ _ (by simp [nums])]
        simp [nums]
      · simp only [Value.ownBlock, Option.some.injEq] at hb
        subst hb
        have hca : (W.alloc (.cells #[.int .i64 y] 3)).cell? ⟨g, o, none⟩ = some u := by
          rw [cell_of_row _ g _ cur 3 (0, 0) hga]
          rw [cell_of_row _ g _ cur 3 (0, 0) hg] at hc
          exact hc
        rw [cell_of_row _ g _ (cur.setIfInBounds (0 + xs.length * 1) (.int .i64 y)) 3 (0, 0) (heap_setCell_same _ g _ cur 3 _ hga), Array.getElem?_setIfInBounds_ne (by omega)]
        rw [cell_of_row _ g _ cur 3 (0, 0) hga] at hca
        exact hca
    · have hnew : ∃ b, v1.ownBlock = some b ∧ W.heap.size ≤ b := by
        rcases hown.2 with ⟨_, h0⟩ | ⟨g', cap', cur', rfl, hb', _⟩
        · omega
        · exact ⟨g', rfl, by have : (W.alloc (.cells #[.int .i64 y] 3)).heap.size = W.heap.size + 1 := by simp
                             omega⟩
      have hgr2 : W.grownBy w1 (some g) := by
        have := World.grownBy.trans (World.grownBy_alloc W (.cells #[.int .i64 y] 3) none) hgr
        exact ⟨this.os, this.tape, this.output, this.size, fun i hi _ => this.block i hi (by simp)⟩
      refine h v1 w1 ?_ ((HB.alloc hbase _).grown hgr (by simp; omega) (fun k hk => by cases hk)) (.inr hnew) hgr2 (fun b o u hb ho hc => ?_)
      · unfold OR
        rw [hcat, List.length_append]
        exact own_weaken hown (by simp; omega)
      · simp only [Value.ownBlock, Option.some.injEq] at hb
        subst hb
        have hbl := hgr.block g (by simp; omega) (by simp)
        rw [cell_of_row _ g _ cur 3 (0, 0) hg] at hc
        rw [cell_of_row _ g _ cur 3 (0, 0) (hbl.trans hga)]
        exact hc
end Go.Proofs.Ytkaefgmgcghhiaa.X
end

section
namespace Go.Proofs.Ytkaefgmgcghhiaa.X
open Go.RowKit Go.Proofs.YtkaefgmgcghhiaaW.PrintWords Go.Proofs.YtkaefgmgcghhiaaW.PrintLast Go.Proofs.YtkaefgmgcghhiaaW.PrintMore
/-- Lists in memory of the call's own that share nothing. -/
structure Lists (w : World) (base g : Nat) (vs : List Value) (ls : List (List Int)) : Prop where
  blk : w.heap[g]? = some (.cells vs.toArray 22 (0, 0))
  low : base ≤ g
  len : vs.length = ls.length
  own : ∀ (j : Nat) (v : Value) (l : List Int), vs[j]? = some v → ls[j]? = some l → OR w base v l
  apart : ∀ (i j : Nat) (v v' : Value), i ≠ j → vs[i]? = some v → vs[j]? = some v' → v.ownBlock = none ∨ v.ownBlock ≠ v'.ownBlock
theorem OR.ne {w : World} {base g t : Nat} {cells : Array Value} {v : Value} {xs : List Int} (h : OR w base v xs) (hb : w.heap[g]? = some (.cells cells t (0, 0))) (ht : t ≠ 3) : v.ownBlock ≠ some g := by
  intro he
  obtain ⟨c, hc⟩ := own_typed h g he
  rw [hb] at hc
  simp only [Option.some.injEq, Obj.cells.injEq] at hc
  exact ht hc.2.1
theorem Lists.store {w : World} {base g : Nat} {vs : List Value} {ls : List (List Int)} (h : Lists w base g vs ls) {i gi cap : Nat} {l : List Int} (hv : vs[i]? = some (.slice (some ⟨gi, 0, none⟩) l.length cap)) (hl : ls[i]? = some l) (k : Nat) (y : Int) :
    Lists (w.setCell ⟨gi, k, none⟩ (.int .i64 y)) base g vs (ls.set i (l.set k y)) := by
  have hO := h.own i _ l hv hl
  have hne := hO.ne h.blk (by decide)
  have hgi : g ≠ gi := fun e => hne (by rw [e]; rfl)
  refine ⟨(Below.heap_setCell w ⟨gi, k, none⟩ _ g hgi).trans h.blk, h.low, by rw [List.length_set]; exact h.len, fun j v q hj hq => ?_, h.apart⟩
  have hil := (List.getElem?_eq_some_iff.1 hl).1
  by_cases hji : j = i
  · subst hji
    rw [hv] at hj
    obtain rfl := Option.some.inj hj
    rw [List.getElem?_set_self hil] at hq
    obtain rfl := Option.some.inj hq
    have hs := (World.ownsRow.stored (show w.ownsRow base 3 1 (.slice (some ⟨gi, 0, none⟩) l.length cap) l.length (nums .i64 l) from hO) k (.int .i64 y)).1
    unfold OR
    rw [List.length_set]
    have : nums .i64 (l.set k y) = (nums .i64 l).set k (.int .i64 y) := by simp [nums, List.map_set]
    rw [this]
    exact hs
  · rw [List.getElem?_set_ne (fun e => hji e.symm)] at hq
    have hOj := h.own j v q hj hq
    refine own_move hOj (fun k' hk' => Below.heap_setCell w ⟨gi, k, none⟩ _ k' (fun e => ?_))
    rcases h.apart j i v _ hji hj hv with h0 | h0
    · rw [h0] at hk'; cases hk'
    · exact h0 (hk'.trans (by rw [show k' = gi from e]; rfl))
def mark (i : Nat) : Int := -1000 - (i : Int)
theorem mark_set {l : List Int} {k : Nat} (hk : k < l.length) (m : Int) : (List.replicate k m ++ l.drop k).set k m = List.replicate (k + 1) m ++ l.drop (k + 1) := by
  rw [List.set_append_right _ _ (by simp)]
  have : l.drop k = l[k] :: l.drop (k + 1) := List.drop_eq_getElem_cons hk
  rw [this]
  simp only [List.length_replicate, Nat.sub_self, List.set_cons_zero]
  rw [List.replicate_succ']
  simp
/-- Behind the marks: those from i on are whole yet; all are read. -/
structure Half (w : World) (base g : Nat) (vs : List Value) (ls : List (List Int)) (i : Nat) : Prop where
  blk : w.heap[g]? = some (.cells vs.toArray 22 (0, 0))
  low : base ≤ g
  len : vs.length = ls.length
  own : ∀ (j : Nat) (v : Value) (l : List Int), i ≤ j → vs[j]? = some v → ls[j]? = some l → OR w base v l
  rds : ∀ (j : Nat) (v : Value) (l : List Int), vs[j]? = some v → ls[j]? = some l → ∃ A c, v = .slice A l.length c ∧ ∀ k, k < l.length → ∃ gj, A = some ⟨gj, 0, none⟩ ∧ w.cell? ⟨gj, k, none⟩ = some (.int .i64 (rd l k))
  apart : ∀ (i j : Nat) (v v' : Value), i ≠ j → vs[i]? = some v → vs[j]? = some v' → v.ownBlock = none ∨ v.ownBlock ≠ v'.ownBlock
  lt : ∀ (j : Nat) (v : Value) (b : Nat), vs[j]? = some v → v.ownBlock = some b → b < w.heap.size
theorem half_of {w : World} {base g : Nat} {vs : List Value} {ls : List (List Int)} (h : Lists w base g vs ls) : Half w base g vs ls 0 := by
  have hl : ∀ (j : Nat) (v : Value), vs[j]? = some v → ∃ l, ls[j]? = some l := fun j v hv => ⟨_, List.getElem?_eq_getElem (by rw [← h.len]; exact (List.getElem?_eq_some_iff.1 hv).1)⟩
  refine ⟨h.blk, h.low, h.len, fun j v l _ => h.own j v l, fun j v l hv hl => ?_, h.apart, fun j v b hv hb => ?_⟩
  · rcases (h.own j v l hv hl).form with ⟨rfl, rfl⟩ | ⟨gj, cap, rfl, _, _, _, hc⟩
    · exact ⟨none, 0, rfl, fun k hk => by simp at hk⟩
    · exact ⟨_, cap, rfl, fun k hk => ⟨gj, rfl, hc k hk⟩⟩
  · obtain ⟨l, hl⟩ := hl j v hv
    exact own_lt (h.own j v l hv hl) b hb
/-- A list that is gone on with. -/
structure On (w : World) (base g : Nat) (vs : List Value) (ls : List (List Int)) (i : Nat) (l : List Int) (x : Value) (xs : List Int) : Prop where
  half : Half w base g vs ls (i + 1)
  own : OR w base x xs
  long : l.length ≤ xs.length
  at_ : ls[i]? = some l
  only : ∀ (j : Nat) (v : Value) (b : Nat), vs[j]? = some v → v.ownBlock = some b → x.ownBlock = some b → j = i
theorem Half.begin {w : World} {base g : Nat} {vs : List Value} {ls : List (List Int)} {i : Nat} (h : Half w base g vs ls i) {v : Value} {l : List Int} (hv : vs[i]? = some v) (hl : ls[i]? = some l) : On w base g vs ls i l v l := by
  refine ⟨⟨h.blk, h.low, h.len, fun j v l hj => h.own j v l (by omega), h.rds, h.apart, h.lt⟩, h.own i v l (Nat.le_refl _) hv hl, Nat.le_refl _, hl, fun j v' b hv' hb hb' => ?_⟩
  by_cases hji : j = i
  · exact hji
  · rcases h.apart j i v' v hji hv' hv with h0 | h0
    · rw [h0] at hb; cases hb
    · exact absurd (hb.trans hb'.symm) h0
theorem On.step {w w1 : World} {base g : Nat} {vs : List Value} {ls : List (List Int)} {i : Nat} {l : List Int} {x x1 : Value} {xs : List Int} (h : On w base g vs ls i l x xs) (y : Int) (ho : OR w1 base x1 (xs ++ [y]))
    (hat : x1.ownBlock = x.ownBlock ∨ ∃ b, x1.ownBlock = some b ∧ w.heap.size ≤ b) (hg : w.grownBy w1 x.ownBlock) (hc : ∀ b o u, x.ownBlock = some b → o < xs.length → w.cell? ⟨b, o, none⟩ = some u → w1.cell? ⟨b, o, none⟩ = some u) :
    On w1 base g vs ls i l x1 (xs ++ [y]) := by
  have hH := h.half
  have hgl : g < w.heap.size := (Array.getElem?_eq_some_iff.1 hH.blk).1
  have hgx : some g ≠ x.ownBlock := fun e => (h.own.ne hH.blk (by decide)) e.symm
  refine ⟨⟨(hg.block g hgl hgx).trans hH.blk, hH.low, hH.len, fun j v q hj hv hq => ?_, fun j v q hv hq => ?_, hH.apart, fun j v b hv hb => Nat.lt_of_lt_of_le (hH.lt j v b hv hb) hg.size⟩, ho, by have := h.long; simp; omega, h.at_, fun j v b hv hb hb1 => ?_⟩
  · refine own_move (hH.own j v q hj hv hq) (fun k hk => hg.block k (hH.lt j v k hv hk) (fun e => ?_))
    have := h.only j v k hv hk e.symm
    omega
  · obtain ⟨A, c, rfl, hr⟩ := hH.rds j v q hv hq
    refine ⟨A, c, rfl, fun k hk => ?_⟩
    obtain ⟨gj, rfl, hcell⟩ := hr k hk
    refine ⟨gj, rfl, ?_⟩
    by_cases hx : x.ownBlock = some gj
    · have hji := h.only j _ gj hv rfl hx
      subst hji
      rw [h.at_] at hq
      obtain rfl := Option.some.inj hq
      exact hc gj k _ hx (Nat.lt_of_lt_of_le hk h.long) hcell
    · have hb := hg.block gj (hH.lt j _ gj hv rfl) (fun e => hx e.symm)
      unfold World.cell? at hcell ⊢
      rw [hb]
      exact hcell
  · rcases hat with h0 | ⟨b', h0, hb'⟩
    · exact h.only j v b hv hb (h0 ▸ hb1)
    · have := hH.lt j v b hv hb
      rw [h0] at hb1
      have := Option.some.inj hb1
      omega
set_option maxHeartbeats 4000000 in
set_option maxRecDepth 100000 in
theorem Apart_walk (base g n c : Nat) (vs : List Value) (ls : List (List Int)) (w : World) (hL : Lists w base g vs ls) (hn : vs.length = n) (hnb : n ≤ 100000) (hlen : ∀ l ∈ ls, l.length ≤ 1000000) (hb0 : base ≤ w.heap.size) :
    Calls Try.prog 25 #[.slice (some ⟨g, 0, none⟩) n c] w fun e w' => e = .returned (.bool true) ∧ Below base w w' := by
  have hu50 := Try.underlying50
  have hu22 := Try.underlying22
  have HL := Aside0.mk hL
  have HN := Aside0.mk hn
  have HLE := Aside0.mk hlen
  have HB := Aside0.mk (Below.refl base w)
  clear hL hn hlen
  go_enter Try.func25, Try.ntmps25
  go_wp2
  go_loopw [3] (fun v3 wr => ∃ (i : Nat) (ls1 : List (List Int)), v3 = .int .i64 (i : Int) ∧ Aside0 (i ≤ n) ∧ Aside0 (Lists wr base g vs ls1) ∧ Aside0 (Below base w wr) ∧ Aside0 (∀ l ∈ ls1, l.length ≤ 1000000) ∧ Aside0 (∀ (j : Nat) (l : List Int), j < i → ls1[j]? = some l → l = List.replicate l.length (mark j))) (fun v3 _ => n - (intOf v3).toNat)
  case atStart => exact ⟨0, ls, rfl, ⟨by omega⟩, HL, HB, HLE, ⟨fun j l hj => by omega⟩⟩
  case round =>
    clear HL HB HLE
    obtain ⟨i, ls1, rfl, HI, HL, HB, HLE, HM⟩ := hrel
    by_cases hlt : i < n
    · obtain ⟨v, hv⟩ : ∃ v, vs[i]? = some v := ⟨_, List.getElem?_eq_getElem (by rw [HN.out]; exact hlt)⟩
      obtain ⟨l, hl⟩ : ∃ l, ls1[i]? = some l := ⟨_, List.getElem?_eq_getElem (by rw [← HL.out.len, HN.out]; exact hlt)⟩
      have hll := HLE.out l (List.mem_of_getElem? hl)
      obtain ⟨A, lc, rfl⟩ := own_slice (HL.out.own i v l hv hl)
      have HV := Aside0.mk hv
      have HLL := Aside0.mk hl
      have HLT := Aside0.mk hlt
      clear hv hl
      go_wp2
      go_loopw [4] (fun v4 wr2 => ∃ k : Nat, v4 = .int .i64 (k : Int) ∧ Aside0 (k ≤ l.length) ∧ Aside0 (Lists wr2 base g vs (ls1.set i (List.replicate k (mark i) ++ l.drop k))) ∧ Aside0 (Below base w wr2)) (fun v4 _ => l.length - (intOf v4).toNat)
      case atStart =>
        refine ⟨0, rfl, ⟨by omega⟩, ⟨?_⟩, HB⟩
        have := HLL.out
        simp only [List.replicate_zero, List.nil_append, List.drop_zero]
        rw [show ls1.set i l = ls1 from List.ext_getElem? fun j => by
          by_cases hj : j = i
          · subst hj
            rw [List.getElem?_set_self (List.getElem?_eq_some_iff.1 this).1, this]
          · rw [List.getElem?_set_ne (fun e => hj e.symm)]]
        exact HL.out
      case round =>
        clear HL HB
        obtain ⟨k, rfl, HK, HL, HB⟩ := hrel
        have hcv := (blk_cell HL.out.blk i).trans (show vs.toArray[i]? = some (Value.slice A l.length lc) by simpa using HV.out)
        have hlen2 : (List.replicate k (mark i) ++ l.drop k).length = l.length := by
          have := HK.out
          simp
          omega
        have hset : (ls1.set i (List.replicate k (mark i) ++ l.drop k))[i]? = some (List.replicate k (mark i) ++ l.drop k) := List.getElem?_set_self (List.getElem?_eq_some_iff.1 HLL.out).1
        by_cases hk : k < l.length
        · have hO := HL.out.own i _ _ HV.out hset
          rcases hO.form with ⟨_, hnil⟩ | ⟨gi, cap, he, hbg, hgl, ⟨cells, hgb⟩, hcell⟩
          · rw [hnil] at hlen2
            simp only [List.length_nil] at hlen2
            omega
          · rw [hlen2] at he hcell
            simp only [Value.slice.injEq, true_and] at he
            obtain ⟨rfl, rfl⟩ := he
            have hcc := hcell k hk
            have hfz := blk_frozen hgb k
            have HS := Aside0.mk (hlen2)
            have HSE := Aside0.mk hset
            have HGB := Aside0.mk hgb
            have HK2 := Aside0.mk hk
            have HV2 : Aside0 (vs[i]? = some (.slice (some ⟨gi, 0, none⟩) (List.replicate k (mark i) ++ l.drop k).length lc)) := ⟨by rw [HS.out]; exact HV.out⟩
            generalize rd (List.replicate k (mark i) ++ l.drop k) (k : Int) = old at hcc
            clear hcell hO hset hlen2 hgb
            go_wp2
            have HL2 := HL.out.store HV2.out HSE.out k (mark i)
            go_roundw
            case rel => exact ⟨k + 1, by go_num, ⟨by have := HK2.out; omega⟩, ⟨by
              have h1 := HL2
              rw [List.set_set, mark_set HK2.out] at h1
              exact h1⟩, ⟨HB.out.setCell hbg _⟩⟩
            case measure => have := HK2.out; simp [intOf]; omega
        · have hke : k = l.length := by have := HK.out; omega
          subst hke
          have hk' : ¬ ((l.length : Int) < (l.length : Int)) := by omega
          go_wp2
          go_roundw
          case rel =>
            refine ⟨i + 1, ls1.set i (List.replicate l.length (mark i)), by go_num, ⟨by have := HLT.out; omega⟩, ⟨by have h1 := HL.out; rw [List.drop_length, List.append_nil] at h1; exact h1⟩, HB, ⟨fun q hq => ?_⟩, ⟨fun j q hj hq => ?_⟩⟩
            · rcases List.mem_or_eq_of_mem_set hq with hq | rfl
              · exact HLE.out q hq
              · simpa using hll
            · by_cases hji : j = i
              · subst hji
                rw [List.getElem?_set_self (List.getElem?_eq_some_iff.1 HLL.out).1] at hq
                obtain rfl := Option.some.inj hq
                simp
              · rw [List.getElem?_set_ne (fun e => hji e.symm)] at hq
                exact HM.out j q (by omega) hq
          case measure => have := HLT.out; simp [intOf]; omega
    · have hie : i = n := by have := HI.out; omega
      subst hie
      have hk' : ¬ ((i : Int) < (i : Int)) := by omega
      have HH0 : Aside0 (Half wr base g vs ls1 0) := ⟨half_of HL.out⟩
      have HW0 := Aside0.mk (Nat.le_trans hb0 HB.out.size)
      clear HL
      go_wp2
      clear hk'
      go_loopw [5] (fun v5 wr2 => ∃ (q : Nat), v5 = .int .i64 (q : Int) ∧ Aside0 (q ≤ i) ∧ Aside0 (Half wr2 base g vs ls1 q) ∧ Aside0 (Below base w wr2) ∧ Aside0 (base ≤ wr2.heap.size)) (fun v5 _ => i - (intOf v5).toNat)
      case atStart => exact ⟨0, rfl, ⟨by omega⟩, HH0, HB, HW0⟩
      case round =>
        clear HH0 HB HW0
        obtain ⟨q, rfl, HQ, HH, HB, HW⟩ := hrel
        by_cases hlt : q < i
        · obtain ⟨v, hv⟩ : ∃ v, vs[q]? = some v := ⟨_, List.getElem?_eq_getElem (by rw [HN.out]; exact hlt)⟩
          obtain ⟨l, hl⟩ : ∃ l, ls1[q]? = some l := ⟨_, List.getElem?_eq_getElem (by rw [← HH.out.len, HN.out]; exact hlt)⟩
          have hll := HLE.out l (List.mem_of_getElem? hl)
          have HV := Aside0.mk hv
          have HLL := Aside0.mk hl
          have HLT := Aside0.mk hlt
          have hcv := (blk_cell HH.out.blk q).trans (show vs.toArray[q]? = some v by simpa using hv)
          have HX := Aside0.mk (HH.out.begin hv hl)
          clear hv hl
          go_wp2
          clear hcv
          go_loopw [7, 6] (fun v7 v6 wr2 => ∃ (k : Nat) (xs : List Int), v7 = .int .i64 (k : Int) ∧ Aside0 (k ≤ 6) ∧ Aside0 (On wr2 base g vs ls1 q l v6 xs) ∧ Aside0 (xs.length ≤ 1000000 + k) ∧ Aside0 (Below base w wr2) ∧ Aside0 (base ≤ wr2.heap.size)) (fun v7 _ _ => 6 - (intOf v7).toNat)
          case atStart => exact ⟨0, l, rfl, ⟨by omega⟩, HX, ⟨by omega⟩, HB, HW⟩
          case round =>
            clear HX HB HW HH
            obtain ⟨k, xs, rfl, HK, HX, HXL, HB, HW⟩ := hrel
            by_cases hk : k < 6
            · have HK2 := Aside0.mk hk
              obtain ⟨Ax, cx, rfl⟩ := own_slice HX.out.own
              have hk2 : (k : Int) < 6 := by omega
              go_wp2_with ((with_reducible refine gate_builtin (b := .append) (xs := #[.tmp 47, .tmp 50]) rfl ?_); (refine ap_keep base rfl (.tmp 47) (.tmp 50) rfl (.slice Ax xs.length cx) xs (-5000 - (q : Int)) rfl rfl HX.out.own HB.out HW.out (by have := HXL.out; have := HK.out; omega) ?_; intro v1 w1 ho1 hb1 hat1 hg1 hc1; have HX1 := Aside0.mk (HX.out.step (-5000 - (q : Int)) ho1 hat1 hg1 hc1); have HB1 := Aside0.mk hb1; have HW1 := Aside0.mk (Nat.le_trans HW.out hg1.size); clear ho1 hat1 hg1 hc1 hb1))
              go_roundw
              case rel => exact ⟨k + 1, xs ++ [-5000 - (q : Int)], by go_num, ⟨by have := HK2.out; omega⟩, HX1, ⟨by have := HXL.out; simp; omega⟩, HB1, HW1⟩
              case measure => have := HK2.out; simp [intOf]; omega
            · have hk2 : ¬ ((k : Int) < 6) := by omega
              go_wp2
              go_roundw
              case rel => exact ⟨q + 1, by go_num, ⟨by have := HLT.out; omega⟩, ⟨HX.out.half⟩, HB, HW⟩
              case measure => have := HLT.out; simp [intOf]; omega
        · have hqe : q = i := by have := HQ.out; omega
          subst hqe
          have hk' : ¬ ((q : Int) < (q : Int)) := by omega
          go_wp2
          clear hk'
          go_loopw [8] (fun v8 wr2 => ∃ (p : Nat), v8 = .int .i64 (p : Int) ∧ Aside0 (p ≤ q) ∧ Aside0 (Half wr2 base g vs ls1 q) ∧ Aside0 (Below base w wr2)) (fun v8 _ => q - (intOf v8).toNat)
          case atStart => exact ⟨0, rfl, ⟨by omega⟩, HH, HB⟩
          case round =>
            clear HH HB
            obtain ⟨p, rfl, HP, HH, HB⟩ := hrel
            by_cases hlt : p < q
            · obtain ⟨v, hv⟩ : ∃ v, vs[p]? = some v := ⟨_, List.getElem?_eq_getElem (by rw [HN.out]; exact hlt)⟩
              obtain ⟨l, hl⟩ : ∃ l, ls1[p]? = some l := ⟨_, List.getElem?_eq_getElem (by rw [← HH.out.len, HN.out]; exact hlt)⟩
              have hll := HLE.out l (List.mem_of_getElem? hl)
              have hmk := HM.out p l hlt hl
              obtain ⟨A, lc, rfl, hrd⟩ := HH.out.rds p v l hv hl
              have hcv := (blk_cell HH.out.blk p).trans (show vs.toArray[p]? = some (Value.slice A l.length lc) by simpa using hv)
              have HV := Aside0.mk hcv
              have HMK := Aside0.mk hmk
              have HRD := Aside0.mk hrd
              have HLT := Aside0.mk hlt
              clear hv hl hmk hcv hrd
              go_wp2
              go_loopw [9] (fun v9 wr2 => ∃ (k : Nat), v9 = .int .i64 (k : Int) ∧ Aside0 (k ≤ l.length) ∧ Aside0 (Below base w wr2) ∧ Aside0 (Half wr2 base g vs ls1 q) ∧ Aside0 (wr2.cell? ⟨g, p, none⟩ = some (.slice A l.length lc)) ∧ Aside0 (∀ k, k < l.length → ∃ gj, A = some ⟨gj, 0, none⟩ ∧ wr2.cell? ⟨gj, k, none⟩ = some (.int .i64 (rd l k)))) (fun v9 _ => l.length - (intOf v9).toNat)
              case atStart => exact ⟨0, rfl, ⟨by omega⟩, HB, HH, HV, HRD⟩
              case round =>
                clear HH HB HV HRD
                obtain ⟨k, rfl, HK, HB, HH, HV, HRD⟩ := hrel
                have hcv := HV.out
                by_cases hk : k < l.length
                · obtain ⟨gj, rfl, hcc⟩ := HRD.out k hk
                  have hval : rd l (k : Int) = -1000 - (p : Int) := by
                    have h1 := HMK.out
                    unfold rd
                    rw [Int.toNat_natCast, h1, List.getD_eq_getElem?_getD, List.getElem?_replicate, if_pos hk]
                    rfl
                  rw [hval] at hcc
                  have HK2 := Aside0.mk hk
                  clear hval
                  go_wp2
                  go_roundw
                  case rel => exact ⟨k + 1, by go_num, ⟨by have := HK2.out; omega⟩, HB, HH, HV, HRD⟩
                  case measure => have := HK2.out; simp [intOf]; omega
                · have hke : k = l.length := by have := HK.out; omega
                  subst hke
                  have hk' : ¬ ((l.length : Int) < (l.length : Int)) := by omega
                  go_wp2
                  go_roundw
                  case rel => exact ⟨p + 1, by go_num, ⟨by have := HLT.out; omega⟩, HH, HB⟩
                  case measure => have := HLT.out; simp [intOf]; omega
            · have hpe : p = q := by have := HP.out; omega
              subst hpe
              have hk' : ¬ ((p : Int) < (p : Int)) := by omega
              go_wp2
              go_ret
              exact ⟨rfl, HB.out⟩
end Go.Proofs.Ytkaefgmgcghhiaa.X
end

section
namespace Go.Proofs.Ytkaefgmgcghhiaa.X
open Go.RowKit Go.Proofs.YtkaefgmgcghhiaaW.PrintWords Go.Proofs.YtkaefgmgcghhiaaW.PrintLast Go.Proofs.YtkaefgmgcghhiaaW.PrintMore
theorem min_flip (a c : Int) : (if c < a then c else a) = min a c := by
  split <;> omega
attribute [local go_sem] max2_int min2_int max_two min_two max_three min_three max_four min_four
set_option maxHeartbeats 8000000 in
set_option maxRecDepth 100000 in
theorem Count_walk (k : Nat) (kd K O N : Int) (A4 : Option Addr) (c4 : Nat) (nxl : List Int) (A5 : Option Addr) (c5 : Nat) (out : List Int) (n : Int) (r1 r2 : Int) (w : World)
    (hr4 : Kd.C (Kd.int .i64) w A4 nxl.length nxl) (hc4 : nxl.length ≤ c4) (hr5 : Kd.C (Kd.int .i64) w A5 out.length out) (hc5 : out.length ≤ c5) (h : cnG k kd K O N nxl out n = some (r1, r2)) :
    Calls Try.prog 39 #[.agg #[.int .i64 kd, .int .i64 K, .int .i64 O, .int .i64 N, .slice A4 nxl.length c4, .slice A5 out.length c5], .int .i64 n] w fun e w' => e = .returned (.tuple #[.int .i64 r1, .int .i64 r2]) ∧ Below w.heap.size w w' := by
  have hu43 := Try.underlying43
  have hu22 := Try.underlying22
  unfold cnG at h
  cases hd : nfa_dfa.f k kd K O N nxl out with
  | none => rw [hd] at h; exact absurd h (by simp)
  | some e0 =>
    rw [hd] at h
    simp only [] at h
    have hdf := fun (W : World) (hb : Below w.heap.size w W) => nfa_dfa.calls k kd K O N A4 c4 nxl A5 c5 out e0 W (Kd.C_below hr4 hb) hc4 (Kd.C_below hr5 hb) hc5 hd
    have H4 := Aside0.mk hr4
    have H5 := Aside0.mk hr5
    clear hr4 hr5 hd
    by_cases q1 : e0 ≠ 0
    · rw [if_pos q1] at h
      simp only [Option.some.injEq, Prod.mk.injEq] at h
      obtain ⟨rfl, rfl⟩ := h
      have q1b : (e0 != 0) = true := by simpa using q1
      clear q1
      go_enter Try.func39, Try.ntmps39
      go_wp2_with (go_at_call 68; refine (hdf _ (below_alloc (Below.refl _ _) _)).mono ?_; rintro e w1 ⟨rfl, hb1⟩)
      go_ret2
      exact ⟨rfl, below_step (below_alloc (Below.refl _ _) _) hb1⟩
    · rw [if_neg q1] at h
      have q0 : e0 = 0 := by omega
      subst q0
      clear q1
      by_cases q2 : n < 0
      · rw [if_pos q2] at h
        simp only [Option.some.injEq, Prod.mk.injEq] at h
        obtain ⟨rfl, rfl⟩ := h
        go_enter Try.func39, Try.ntmps39
        go_wp2_with (go_at_call 68; refine (hdf _ (below_alloc (Below.refl _ _) _)).mono ?_; rintro e w1 ⟨rfl, hb1⟩)
        go_ret2
        exact ⟨rfl, below_step (below_alloc (Below.refl _ _) _) hb1⟩
      · rw [if_neg q2] at h
        by_cases q3 : n > 4096
        · rw [if_pos q3] at h
          simp only [Option.some.injEq, Prod.mk.injEq] at h
          obtain ⟨rfl, rfl⟩ := h
          go_enter Try.func39, Try.ntmps39
          go_wp2_with (go_at_call 68; refine (hdf _ (below_alloc (Below.refl _ _) _)).mono ?_; rintro e w1 ⟨rfl, hb1⟩)
          go_ret2
          exact ⟨rfl, below_step (below_alloc (Below.refl _ _) _) hb1⟩
        · rw [if_neg q3] at h
          by_cases q4 : (1 ≤ N ∧ N ≤ 1024) ∧ (1 ≤ K ∧ K ≤ 64) ∧ (out.length : Int) = N
          · rw [if_pos q4] at h
            obtain ⟨⟨hN1, hN2⟩, ⟨hK1, hK2⟩, hol⟩ := q4
            cases hcn : cnN K N nxl n.toNat out (List.replicate N.toNat 0) with
            | none => rw [hcn] at h; exact absurd h (by simp)
            | some now0 =>
              rw [hcn] at h
              simp only [] at h
              have HH := Aside0.mk h
              have HCN := Aside0.mk hcn
              clear h hcn
              have HOL2 : Aside0 (out.length = N.toNat) := ⟨by omega⟩
              obtain ⟨ad5, e5, _⟩ := Kd.at_int H5.out 0 (by omega) (by omega)
              cases e5
              go_enter Try.func39, Try.ntmps39
              go_wp2_with (first | (go_at_call 68; refine (hdf _ (below_alloc (Below.refl _ _) _)).mono ?_; rintro e w1 ⟨rfl, hb1⟩; have HB1 := Aside0.mk (below_step (below_alloc (Below.refl w.heap.size w) (.cells #[.int .i64 kd, .int .i64 K, .int .i64 O, .int .i64 N, .slice A4 nxl.length c4, .slice (some ad5) out.length c5] 43)) hb1); have hbx := blk_below (blk_new w (.cells #[.int .i64 kd, .int .i64 K, .int .i64 O, .int .i64 N, .slice A4 nxl.length c4, .slice (some ad5) out.length c5] 43)) hb1; have HBX := Aside0.mk hbx; have hx3 : w1.cell? ⟨w.heap.size, 3, none⟩ = some (.int .i64 N) := (blk_cell hbx 3).trans rfl; have hx5 : w1.cell? ⟨w.heap.size, 5, none⟩ = some (.slice (some ad5) out.length c5) := (blk_cell hbx 5).trans rfl; clear hb1 hbx) | ((with_reducible refine gate_dst (N := 25) rfl ?_); (refine fresh_make rfl rfl rfl (by omega) hN2 ?_; intro w2 hg2 hb2; have HB2 := Aside0.mk (below_step HB1.out hb2); have HG2 := Aside0.mk hg2; have HBX2 := Aside0.mk (blk_below HBX.out hb2); have hx3 : w2.cell? ⟨w.heap.size, 3, none⟩ = some (.int .i64 N) := (blk_cell HBX2.out 3).trans rfl; have hx5 : w2.cell? ⟨w.heap.size, 5, none⟩ = some (.slice (some ad5) out.length c5) := (blk_cell HBX2.out 5).trans rfl; clear hg2 hb2)) | ((with_reducible refine gate_builtin (b := .copy) (xs := #[.tmp 26, .tmp 28]) rfl ?_); (refine copy_whole rfl (.tmp 26) (.tmp 28) rfl rfl rfl HOL2.out (by simp) HOL2.out HG2.out (args_src (Kd.C_below H5.out HB2.out) (by omega)) ?_; intro w3 hg3 hgr3; have HG3 := Aside0.mk hg3; have HB3 := Aside0.mk (pw_below_grown HB2.out _ HB2.out.size hgr3 (fun k hk => by injection hk with hk; rw [← hk]; exact HB1.out.size)); have HBX3 := Aside0.mk (blk_grown HBX2.out hgr3 (fun he => by injection he with he; have := blk_lt HBX.out; omega)); have hx3 : w3.cell? ⟨w.heap.size, 3, none⟩ = some (.int .i64 N) := (blk_cell HBX3.out 3).trans rfl; clear hg3 hgr3)) | ((with_reducible refine gate_dst (N := 32) rfl ?_); (refine fresh_make rfl rfl rfl (by omega) hN2 ?_; intro w4 hg4 hb4; have HB4 := Aside0.mk (below_step HB3.out hb4); have HG4 := Aside0.mk hg4; have HG34 := Aside0.mk (blk_below HG3.out hb4); have HBX4 := Aside0.mk (blk_below HBX3.out hb4); clear hg4 hb4)))
              clear hx3 hdf
              have HNB := Aside0.mk hol
              clear hol
              have hg1 : w1.heap.size ≠ w3.heap.size := by
                have := blk_lt HG3.out
                omega
              have hb12 : w.heap.size < w1.heap.size := blk_lt HBX.out
              generalize hg2q : w3.heap.size = g2 at HG4 hg1 ⊢
              have hlt2 : w.heap.size < g2 := by have := HB3.out.size; have := blk_lt HBX3.out; omega
              have hle2 : w.heap.size ≤ g2 := by omega
              generalize hg1q : w1.heap.size = g1 at HG34 hg1 hb12 ⊢
              clear hg1q hg2q
              go_loopw [34] (fun v34 wr => ∃ (i : Nat) (now nx : List Int), v34 = .int .i64 (i : Int) ∧ Aside0 (i ≤ n.toNat) ∧ Aside0 (cnN K N nxl (n.toNat - i) now nx = some now0) ∧ Aside0 (wr.heap[g1]? = some (.cells (numsA now) 3 (0, 0))) ∧ Aside0 (wr.heap[g2]? = some (.cells (numsA nx) 3 (0, 0))) ∧ Aside0 (wr.heap[w.heap.size]? = some (.cells #[.int .i64 kd, .int .i64 K, .int .i64 O, .int .i64 N, .slice A4 nxl.length c4, .slice (some ad5) out.length c5] 43 (0, 0))) ∧ Aside0 (Below w.heap.size w wr) ∧ Aside0 (now.length = N.toNat ∧ nx.length = N.toNat)) (fun v34 _ => n.toNat - (intOf v34).toNat)
              case atStart => exact ⟨0, out, List.replicate N.toNat 0, rfl, ⟨by omega⟩, by simpa using HCN, HG34, HG4, HBX4, HB4, ⟨HOL2.out, by simp⟩⟩
              case round =>
                clear HCN HG34 HG4 HBX4 HB4 HB3 HBX3 HG3 HBX2 HG2 HB2 HBX HB1 HOL2 HNB
                obtain ⟨i, now, nx, rfl, HI, HF, HG1, HG2, HBX, HB, HLN⟩ := hrel
                by_cases hlt : i < n.toNat
                · have H := HF.out
                  obtain ⟨m, hm⟩ : ∃ m, n.toNat - i = m + 1 := ⟨n.toNat - i - 1, by omega⟩
                  have hm2 : n.toNat - (i + 1) = m := by omega
                  rw [hm] at H
                  clear HF
                  simp only [cnN] at H
                  cases hcs : cnS K nxl now (List.range N.toNat) nx with
                  | none => rw [hcs] at H; exact absurd H (by simp)
                  | some nx1 =>
                    rw [hcs] at H
                    simp only [] at H
                    have HH2 := Aside0.mk H
                    have HCS := Aside0.mk hcs
                    have HM2 := Aside0.mk hm2
                    have HLT := Aside0.mk hlt
                    have hlt' : (i : Int) < n := by omega
                    have hx3 : wr.cell? ⟨w.heap.size, 3, none⟩ = some (.int .i64 N) := (blk_cell HBX.out 3).trans rfl
                    clear H hcs hm hm2
                    have hmx : max N 0 = N := by omega
                    go_wp2
                    clear hx3
                    go_loopw [38] (fun v38 wr2 => ∃ (q : Nat) (nx2 : List Int), v38 = .int .i64 (q : Int) ∧ Aside0 (q ≤ N.toNat) ∧ Aside0 (cnS K nxl now ((List.range N.toNat).drop q) nx2 = some nx1) ∧ Aside0 (wr2.heap[g1]? = some (.cells (numsA now) 3 (0, 0))) ∧ Aside0 (wr2.heap[g2]? = some (.cells (numsA nx2) 3 (0, 0))) ∧ Aside0 (wr2.heap[w.heap.size]? = some (.cells #[.int .i64 kd, .int .i64 K, .int .i64 O, .int .i64 N, .slice A4 nxl.length c4, .slice (some ad5) out.length c5] 43 (0, 0))) ∧ Aside0 (Below w.heap.size w wr2) ∧ Aside0 (now.length = N.toNat ∧ nx2.length = N.toNat)) (fun v38 _ => N.toNat - (intOf v38).toNat)
                    case atStart => exact ⟨0, nx, rfl, ⟨by omega⟩, HCS, HG1, HG2, HBX, HB, HLN⟩
                    case round =>
                      clear HCS HG1 HG2 HBX HB HLN
                      obtain ⟨q, nx2, rfl, HQI, HCS, HG1, HG2, HBX, HB, HLN⟩ := hrel
                      by_cases hq : q < N.toNat
                      · have H := HCS.out
                        have hd : (List.range N.toNat).drop q = q :: (List.range N.toNat).drop (q + 1) := by
                          rw [List.drop_eq_getElem_cons (by simpa using hq)]
                          simp
                        rw [hd] at H
                        clear HCS hd
                        simp only [cnS] at H
                        cases hcx : cnX K nxl now q (List.range K.toNat) 0 with
                        | none => rw [hcx] at H; exact absurd H (by simp)
                        | some sum =>
                          rw [hcx] at H
                          simp only [] at H
                          have HCS := Aside0.mk H
                          have HCX := Aside0.mk hcx
                          have HQ := Aside0.mk hq
                          have hq' : (q : Int) < N := by omega
                          have hx1 : wr.cell? ⟨w.heap.size, 1, none⟩ = some (.int .i64 K) := (blk_cell HBX.out 1).trans rfl
                          have hx4 : wr.cell? ⟨w.heap.size, 4, none⟩ = some (.slice A4 nxl.length c4) := (blk_cell HBX.out 4).trans rfl
                          clear H hcx
                          go_wp2
                          go_loopw [43, 10] (fun v43 v10 wr2 => ∃ (x : Nat) (sm : Int), v43 = .int .i64 (x : Int) ∧ v10 = .int .i64 sm ∧ Aside0 (x ≤ K.toNat) ∧ Aside0 (cnX K nxl now q ((List.range K.toNat).drop x) sm = some sum) ∧ Aside0 (wr2 = wr)) (fun v43 _ _ => K.toNat - (intOf v43).toNat)
                          case atStart => exact ⟨0, 0, rfl, rfl, ⟨by omega⟩, HCX, ⟨by first | trivial | rfl⟩⟩
                          case round =>
                            clear HCX
                            obtain ⟨x, sm, rfl, rfl, HXI, HCX, HWR⟩ := hrel
                            have hwr := HWR.out
                            subst hwr
                            clear HWR
                            by_cases hxk : x < K.toNat
                            · have H := HCX.out
                              have hd : (List.range K.toNat).drop x = x :: (List.range K.toNat).drop (x + 1) := by
                                rw [List.drop_eq_getElem_cons (by simpa using hxk)]
                                simp
                              rw [hd] at H
                              clear HCX hd
                              simp only [cnX] at H
                              obtain ⟨ji, hji⟩ : ∃ j_ : Int, wrap64 (wrap64 ((q : Int) * K) + (x : Int)) = j_ := ⟨_, rfl⟩
                              rw [hji] at H
                              have hjiw : IntKind.i64.wrap (wrap64 ((q : Int) * K) + (x : Int)) = ji := (i64_w _).trans hji
                              by_cases c1 : (0 ≤ ji ∧ ji < (nxl.length : Int)) ∧ (0 ≤ rd nxl ji ∧ rd nxl ji < (now.length : Int))
                              · rw [if_pos c1] at H
                                obtain ⟨⟨c1a, c1b⟩, c1c, c1d⟩ := c1
                                obtain ⟨ad4, e4, hxa⟩ := Kd.at_int (Kd.C_below H4.out HB.out) ji c1a c1b
                                cases e4
                                generalize rd nxl ji = t at H c1c c1d hxa
                                have ht : (t.toNat : Int) = t := Int.toNat_of_nonneg c1c
                                have hnt := nums_cell HG1.out t.toNat (by omega)
                                rw [ht] at hnt
                                have htN : t < N := by have := HLN.out.1; omega
                                generalize rd now t = y at H hnt
                                have HCX := Aside0.mk H
                                have HXK := Aside0.mk hxk
                                have hxk' : (x : Int) < K := by omega
                                clear H ht c1d
                                go_wp2
                                go_roundw
                                case rel => exact ⟨x + 1, min (wrap64 (sm + y)) 1099511627777, by go_num, by rw [min_flip], ⟨by have := HXK.out; omega⟩, HCX, ⟨trivial⟩⟩
                                case measure => have := HXK.out; simp [intOf]; omega
                              · rw [if_neg c1] at H; exact absurd H (by simp)
                            · have H := HCX.out
                              rw [List.drop_of_length_le (by simp; omega)] at H
                              simp only [cnX, Option.some.injEq] at H
                              subst H
                              have hxk' : ¬ ((x : Int) < K) := by omega
                              have hcl := nums_cell HG2.out q (by have := HLN.out.2; have := HQ.out; omega)
                              have hfz := blk_frozen HG2.out q
                              go_wp2
                              go_roundw
                              case rel => exact ⟨q + 1, nx2.set q sm, by go_num, ⟨by have := HQ.out; omega⟩, HCS, ⟨blk_far HG1.out (by show g1 ≠ g2; exact hg1) _⟩, ⟨nums_set HG2.out q sm⟩, ⟨blk_far HBX.out (by show w.heap.size ≠ g2; omega) _⟩, ⟨below_set HB.out hle2⟩, ⟨HLN.out.1, by rw [List.length_set]; exact HLN.out.2⟩⟩
                              case measure => have := HQ.out; simp [intOf]; omega
                      · have H := HCS.out
                        rw [List.drop_of_length_le (by simp; omega)] at H
                        simp only [cnS, Option.some.injEq] at H
                        subst H
                        have hq' : ¬ ((q : Int) < N) := by omega
                        go_wp2_with ((with_reducible refine gate_builtin (b := .copy) (xs := #[.tmp 68, .tmp 69]) rfl ?_); (refine copy_whole rfl (.tmp 68) (.tmp 69) rfl rfl rfl rfl HLN.out.1 HLN.out.2 HG1.out (nums_src HG2.out) ?_; intro w5 hg5 hgr5; have HG5 := Aside0.mk hg5; have HG25 := Aside0.mk (blk_grown HG2.out hgr5 (fun he => by injection he with he; exact hg1 he.symm)); have HBX5 := Aside0.mk (blk_grown HBX.out hgr5 (fun he => by injection he with he; omega)); have HB5 := Aside0.mk (pw_below_grown HB.out _ HB.out.size hgr5 (fun k hk => by injection hk with hk; omega)); clear hg5 hgr5))
                        have hlt3 := HLT.out
                        refine ⟨⟨_, _, _, _, ⟨i + 1, rfl, ⟨by omega⟩, nx2, nx2, ⟨by rw [HM2.out]; exact HH2.out⟩, HG5, HG25, ⟨HLN.out.2, HLN.out.2⟩⟩, rfl, rfl, rfl, by go_num⟩, ?_⟩
                        simp [intOf]
                        omega
                · have hlt' : ¬ ((i : Int) < n) := by omega
                  have H := HF.out
                  have h0 : n.toNat - i = 0 := by omega
                  rw [h0] at H
                  simp only [cnN, Option.some.injEq] at H
                  subst H
                  have hr := HH.out
                  have hnl := HLN.out.1
                  have hc0 := nums_cell HG1.out 0 (by omega)
                  rw [Int.natCast_zero] at hc0
                  clear hnl h0
                  by_cases q5 : rd now 0 > 1099511627776
                  · rw [if_pos q5] at hr
                    simp only [Option.some.injEq, Prod.mk.injEq] at hr
                    obtain ⟨rfl, rfl⟩ := hr
                    go_wp2
                    go_ret2
                    exact ⟨rfl, HB.out⟩
                  · rw [if_neg q5] at hr
                    simp only [Option.some.injEq, Prod.mk.injEq] at hr
                    obtain ⟨rfl, rfl⟩ := hr
                    go_wp2
                    go_ret2
                    exact ⟨rfl, HB.out⟩
          · rw [if_neg q4] at h; exact absurd h (by simp)
end Go.Proofs.Ytkaefgmgcghhiaa.X
end

section
namespace Go.Proofs.Ytkaefgmgcghhiaa.X
open Go.RowKit Go.Proofs.YtkaefgmgcghhiaaW.PrintWords Go.Proofs.YtkaefgmgcghhiaaW.PrintLast Go.Proofs.YtkaefgmgcghhiaaW.PrintMore
def big : Nat := 200000
def nfa_Accepts.f (a0_0 a0_1 : Int) (l0_2 l0_3 : List Int) (l0_4 : List S80) (l1 : List Int) : Option (Bool × Int) := accF big a0_0 a0_1 l0_2 l0_3 l0_4 l1
theorem nfa_Accepts.calls (a0_0 : Int) (a0_1 : Int) (A0_2 : Option Addr) (c0_2 : Nat) (l0_2 : List Int) (A0_3 : Option Addr) (c0_3 : Nat) (l0_3 : List Int) (A0_4 : Option Addr) (c0_4 : Nat) (l0_4 : List (S80)) (A1 : Option Addr) (c1 : Nat) (l1 : List Int) (r1 : Bool) (r2 : Int) (w : World) (hr0_2 : Kd.C (Kd.int .i64) w A0_2 l0_2.length l0_2) (hc0_2 : l0_2.length ≤ c0_2) (hr0_3 : Kd.C (Kd.int .i64) w A0_3 l0_3.length l0_3) (hc0_3 : l0_3.length ≤ c0_3) (hr0_4 : Kd.C k80 w A0_4 l0_4.length l0_4) (hc0_4 : l0_4.length ≤ c0_4) (hr1 : Kd.C (Kd.int .i64) w A1 l1.length l1) (hc1 : l1.length ≤ c1) (h : nfa_Accepts.f a0_0 a0_1 l0_2 l0_3 l0_4 l1 = some (r1, r2)) :
    Calls Try.prog 20 #[.agg #[.int .i64 a0_0, .int .i64 a0_1, .slice A0_2 l0_2.length c0_2, .slice A0_3 l0_3.length c0_3, .slice A0_4 l0_4.length c0_4], .slice A1 l1.length c1] w fun e w' => e = .returned (.tuple #[.bool r1, .int .i64 r2]) ∧ Below w.heap.size w w' :=
  Accepts_walk big a0_0 a0_1 A0_2 c0_2 l0_2 A0_3 c0_3 l0_3 A0_4 c0_4 l0_4 A1 c1 l1 r1 r2 w hr0_2 hr0_3 hr0_4 hr1 hc0_2 hc0_3 hc0_4 hc1 h
def nfa_Determine.f (a0_0 a0_1 : Int) (l0_2 l0_3 : List Int) (l0_4 : List S80) : Option (Int × Int × Int × Int × List Int × List Int × Int) := detG big a0_0 a0_1 l0_2 l0_3 l0_4
theorem nfa_Determine.calls (a0_0 : Int) (a0_1 : Int) (A0_2 : Option Addr) (c0_2 : Nat) (l0_2 : List Int) (A0_3 : Option Addr) (c0_3 : Nat) (l0_3 : List Int) (A0_4 : Option Addr) (c0_4 : Nat) (l0_4 : List (S80)) (r1 : Int) (r2 : Int) (r3 : Int) (r4 : Int) (r5 : List Int) (r6 : List Int) (r7 : Int) (w : World) (hr0_2 : Kd.C (Kd.int .i64) w A0_2 l0_2.length l0_2) (hc0_2 : l0_2.length ≤ c0_2) (hr0_3 : Kd.C (Kd.int .i64) w A0_3 l0_3.length l0_3) (hc0_3 : l0_3.length ≤ c0_3) (hr0_4 : Kd.C k80 w A0_4 l0_4.length l0_4) (hc0_4 : l0_4.length ≤ c0_4) (h : nfa_Determine.f a0_0 a0_1 l0_2 l0_3 l0_4 = some (r1, r2, r3, r4, r5, r6, r7)) :
    Calls Try.prog 22 #[.agg #[.int .i64 a0_0, .int .i64 a0_1, .slice A0_2 l0_2.length c0_2, .slice A0_3 l0_3.length c0_3, .slice A0_4 l0_4.length c0_4]] w fun e w' => ∃ v4_ v5_ : Value, e = .returned (.tuple #[.agg #[.int .i64 r1, .int .i64 r2, .int .i64 r3, .int .i64 r4, v4_, v5_], .int .i64 r7]) ∧ Kd.R (Kd.int .i64) 3 w' w.heap.size (fun k_ => some k_ ≠ (v5_ : Value).ownBlock) v4_ r5 ∧ Kd.R (Kd.int .i64) 3 w' w.heap.size (fun k_ => some k_ ≠ (v4_ : Value).ownBlock) v5_ r6 ∧ Below w.heap.size w w' :=
  Determine_walk big a0_0 a0_1 A0_2 c0_2 l0_2 A0_3 c0_3 l0_3 A0_4 c0_4 l0_4 r1 r2 r3 r4 r5 r6 r7 w hr0_2 hr0_3 hr0_4 h
def nfa_Count.f (a0_0 a0_1 a0_2 a0_3 : Int) (l0_4 l0_5 : List Int) (a1 : Int) : Option (Int × Int) := cnG big a0_0 a0_1 a0_2 a0_3 l0_4 l0_5 a1
theorem nfa_Count.calls (a0_0 : Int) (a0_1 : Int) (a0_2 : Int) (a0_3 : Int) (A0_4 : Option Addr) (c0_4 : Nat) (l0_4 : List Int) (A0_5 : Option Addr) (c0_5 : Nat) (l0_5 : List Int) (a1 : Int) (r1 : Int) (r2 : Int) (w : World) (hr0_4 : Kd.C (Kd.int .i64) w A0_4 l0_4.length l0_4) (hc0_4 : l0_4.length ≤ c0_4) (hr0_5 : Kd.C (Kd.int .i64) w A0_5 l0_5.length l0_5) (hc0_5 : l0_5.length ≤ c0_5) (h : nfa_Count.f a0_0 a0_1 a0_2 a0_3 l0_4 l0_5 a1 = some (r1, r2)) :
    Calls Try.prog 39 #[.agg #[.int .i64 a0_0, .int .i64 a0_1, .int .i64 a0_2, .int .i64 a0_3, .slice A0_4 l0_4.length c0_4, .slice A0_5 l0_5.length c0_5], .int .i64 a1] w fun e w' => e = .returned (.tuple #[.int .i64 r1, .int .i64 r2]) ∧ Below w.heap.size w w' :=
  Count_walk big a0_0 a0_1 a0_2 a0_3 A0_4 c0_4 l0_4 A0_5 c0_5 l0_5 a1 r1 r2 w hr0_4 hc0_4 hr0_5 hc0_5 h
end Go.Proofs.Ytkaefgmgcghhiaa.X
end

section
namespace Go.Proofs.Ytkaefgmgcghhiaa.X
set_option maxRecDepth 100000
theorem liveA : nfa_Accepts.f 2 2 [0] [0, 1] [⟨0, 0, 0⟩, ⟨0, 1, 0⟩, ⟨0, 1, 1⟩] [0, 1] = some (true, 0) := by decide +kernel
theorem liveD : nfa_Determine.f 2 2 [0] [0, 1] [⟨0, 0, 0⟩, ⟨0, 1, 0⟩, ⟨0, 1, 1⟩] = some (1, 2, 2, 2, [0, 1, 0, 1], [0, 1], 0) := by kernel_rfl
theorem liveC : nfa_Count.f 1 2 2 2 [0, 1, 0, 1] [0, 1] 3 = some (4, 0) := by decide +kernel
end Go.Proofs.Ytkaefgmgcghhiaa.X
end

section
namespace Go.Proofs.Ytkaefgmgcghhiaa.X
open Go.RowKit Go.Proofs.YtkaefgmgcghhiaaW.PrintWords Go.Proofs.YtkaefgmgcghhiaaW.PrintLast Go.Proofs.YtkaefgmgcghhiaaW.PrintMore
/-- A world of which only this counts further on. -/
theorem gen_world {P : Program} {ops : Array Oper} {Q : Exit → Act → World → Prop} {rest : List Oper} {a : Act} (F : World → Prop) {W : World} (h : F W) (k : ∀ W', F W' → wpList P ops Q rest a W') : wpList P ops Q rest a W := k W h
theorem C_nums {w : World} {g : Nat} {xs : List Int} (h : w.heap[g]? = some (.cells (numsA xs) 3 (0, 0))) (hl : xs.length ≤ 9223372036854775807) : Kd.C (Kd.int .i64) w (some ⟨g, 0, none⟩) xs.length xs :=
  Kd.C_of_reads (d := (0 : Int)) (h1 := fun _ => rfl) ⟨rfl, hl, fun _ => ⟨_, rfl, fun j hj => by
    rw [add_plain, nums_cell h j hj]
    rfl⟩⟩
theorem blk_at {W : World} {cs : Array Value} {t n : Nat} (he : W.heap.size = n) : (W.alloc (.cells cs t)).heap[n]? = some (.cells cs t (0, 0)) := by
  subst he
  exact blk_new W _
def liveE : List S80 := [⟨0, 0, 0⟩, ⟨0, 1, 0⟩, ⟨0, 1, 1⟩]
def liveEA : Array Value := #[.int .i64 0, .int .i64 0, .int .i64 0, .int .i64 0, .int .i64 1, .int .i64 0, .int .i64 0, .int .i64 1, .int .i64 1]
theorem C_edges {w : World} {g : Nat} (h : w.heap[g]? = some (.cells liveEA 80 (0, 0))) : Kd.C k80 w (some ⟨g, 0, none⟩) 3 liveE := by
  refine ⟨rfl, by omega, fun _ => ⟨_, rfl, fun j p hj => ⟨_, rfl, k80_mk w p, fun i u hu => ?_⟩⟩⟩
  have hc : ∀ q u, liveEA[q]? = some u → w.cell? ((⟨g, 0, none⟩ : Addr).add q) = some u := fun q u hq => by rw [add_plain, blk_cell h q]; exact hq
  match j, hj with
  | 0, hj =>
    simp only [liveE, List.getElem?_cons_zero, Option.some.injEq] at hj
    subst hj
    match i, hu with
    | 0, hu => exact hc 0 u hu
    | 1, hu => exact hc 1 u hu
    | 2, hu => exact hc 2 u hu
    | i + 3, hu => simp at hu
  | 1, hj =>
    simp only [liveE, List.getElem?_cons_zero, List.getElem?_cons_succ, Option.some.injEq] at hj
    subst hj
    match i, hu with
    | 0, hu => exact hc 3 u hu
    | 1, hu => exact hc 4 u hu
    | 2, hu => exact hc 5 u hu
    | i + 3, hu => simp at hu
  | 2, hj =>
    simp only [liveE, List.getElem?_cons_zero, List.getElem?_cons_succ, Option.some.injEq] at hj
    subst hj
    match i, hu with
    | 0, hu => exact hc 6 u hu
    | 1, hu => exact hc 7 u hu
    | 2, hu => exact hc 8 u hu
    | i + 3, hu => simp at hu
  | j + 3, hj => simp [liveE] at hj
theorem info43c : (Try.prog.info? 43).map (fun i => (i.zero, i.size)) = some (some (.agg #[.int .i64 0, .int .i64 0, .int .i64 0, .int .i64 0, .slice none 0 0, .slice none 0 0]), 6) := by kernel_rfl
theorem same_next : tutorref01_Same.f 10 [0, 1, 0, 1] [0, 1, 0, 1] = some true := by decide +kernel
theorem same_out : tutorref01_Same.f 10 [0, 1] [0, 1] = some true := by decide +kernel
/-- What lies in memory behind the example's making. -/
structure LiveAt (w W : World) : Prop where
  below : Below w.heap.size w W
  s : W.heap[w.heap.size]? = some (.cells (numsA [0]) 3 (0, 0))
  f : W.heap[w.heap.size + 1]? = some (.cells (numsA [0, 1]) 3 (0, 0))
  e : W.heap[w.heap.size + 1 + 1]? = some (.cells liveEA 80 (0, 0))
  a : W.heap[w.heap.size + 1 + 1 + 1]? = some (.cells #[.int .i64 2, .int .i64 2, .slice (some ⟨w.heap.size, 0, none⟩) 1 1, .slice (some ⟨w.heap.size + 1, 0, none⟩) 2 2, .slice (some ⟨w.heap.size + 1 + 1, 0, none⟩) 3 3] 25 (0, 0))
theorem LiveAt.on {w W W1 : World} (h : LiveAt w W) (hb : Below W.heap.size W W1) : LiveAt w W1 := ⟨below_step h.below hb, blk_below h.s hb, blk_below h.f hb, blk_below h.e hb, blk_below h.a hb⟩
theorem live_made (w : World) : LiveAt w ((((w.alloc (.cells #[.int .i64 0] 3)).alloc (.cells #[.int .i64 0, .int .i64 1] 3)).alloc (.cells liveEA 80)).alloc (.cells #[.int .i64 2, .int .i64 2, .slice (some ⟨w.heap.size, 0, none⟩) 1 1, .slice (some ⟨w.heap.size + 1, 0, none⟩) 2 2, .slice (some ⟨w.heap.size + 1 + 1, 0, none⟩) 3 3] 25)) := by
  have hs := blk_new w (.cells (numsA [0]) 3)
  have hf : ((w.alloc (.cells (numsA [0]) 3)).alloc (.cells (numsA [0, 1]) 3)).heap[w.heap.size + 1]? = some (.cells (numsA [0, 1]) 3 (0, 0)) := by
    simpa using blk_new (w.alloc (.cells (numsA [0]) 3)) (.cells (numsA [0, 1]) 3)
  have he : (((w.alloc (.cells (numsA [0]) 3)).alloc (.cells (numsA [0, 1]) 3)).alloc (.cells liveEA 80)).heap[w.heap.size + 1 + 1]? = some (.cells liveEA 80 (0, 0)) := by
    simpa using blk_new ((w.alloc (.cells (numsA [0]) 3)).alloc (.cells (numsA [0, 1]) 3)) (.cells liveEA 80)
  have ha : ((((w.alloc (.cells #[.int .i64 0] 3)).alloc (.cells #[.int .i64 0, .int .i64 1] 3)).alloc (.cells liveEA 80)).alloc (.cells #[.int .i64 2, .int .i64 2, .slice (some ⟨w.heap.size, 0, none⟩) 1 1, .slice (some ⟨w.heap.size + 1, 0, none⟩) 2 2, .slice (some ⟨w.heap.size + 1 + 1, 0, none⟩) 3 3] 25)).heap[w.heap.size + 1 + 1 + 1]? = some (.cells #[.int .i64 2, .int .i64 2, .slice (some ⟨w.heap.size, 0, none⟩) 1 1, .slice (some ⟨w.heap.size + 1, 0, none⟩) 2 2, .slice (some ⟨w.heap.size + 1 + 1, 0, none⟩) 3 3] 25 (0, 0)) := by
    have h := blk_new (((w.alloc (.cells (numsA [0]) 3)).alloc (.cells (numsA [0, 1]) 3)).alloc (.cells liveEA 80)) (.cells #[.int .i64 2, .int .i64 2, .slice (some ⟨w.heap.size, 0, none⟩) 1 1, .slice (some ⟨w.heap.size + 1, 0, none⟩) 2 2, .slice (some ⟨w.heap.size + 1 + 1, 0, none⟩) 3 3] 25)
    have e : (((w.alloc (.cells (numsA [0]) 3)).alloc (.cells (numsA [0, 1]) 3)).alloc (.cells liveEA 80)).heap.size = w.heap.size + 1 + 1 + 1 := by simp
    rw [e] at h
    exact h
  exact ⟨below_alloc (below_alloc (below_alloc (below_alloc (Below.refl _ _) _) _) _) _, blk_alloc (blk_alloc (blk_alloc hs _) _) _, blk_alloc (blk_alloc hf _) _, blk_alloc he _, ha⟩
set_option maxHeartbeats 16000000 in
set_option maxRecDepth 100000 in
theorem live_walk (w : World) : Calls Try.prog 13 #[] w fun e w' => e = .returned (.bool true) ∧ Below w.heap.size w w' := by
  have hu80 := Try.underlying80
  have hu25 := Try.underlying25
  have hu43 := Try.underlying43
  obtain ⟨z43, i43⟩ := zero_of_info info43c
  go_enter Try.func13, Try.ntmps13
  go_wp2_with (first
    | (go_at_call 20; go_loud (
       have HL2 := Aside0.mk ((live_made w).on (below_alloc (Below.refl _ _) (.cells (numsA [0, 1]) 3)))
       have h20 : Calls Try.prog 20 #[.agg #[.int .i64 2, .int .i64 2, .slice (some ⟨w.heap.size, 0, none⟩) 1 1, .slice (some ⟨w.heap.size + 1, 0, none⟩) 2 2, .slice (some ⟨w.heap.size + 1 + 1, 0, none⟩) 3 3], .slice (some ⟨w.heap.size + 1 + 1 + 1 + 1, 0, none⟩) 2 2] (((((w.alloc (.cells #[.int .i64 0] 3)).alloc (.cells #[.int .i64 0, .int .i64 1] 3)).alloc (.cells liveEA 80)).alloc (.cells #[.int .i64 2, .int .i64 2, .slice (some ⟨w.heap.size, 0, none⟩) 1 1, .slice (some ⟨w.heap.size + 1, 0, none⟩) 2 2, .slice (some ⟨w.heap.size + 1 + 1, 0, none⟩) 3 3] 25)).alloc (.cells #[.int .i64 0, .int .i64 1] 3)) _ := nfa_Accepts.calls 2 2 _ 1 [0] _ 2 [0, 1] _ 3 liveE _ 2 [0, 1] true 0 _ (C_nums HL2.out.s (by simp)) (Nat.le_refl _) (C_nums HL2.out.f (by simp)) (Nat.le_refl _) (C_edges HL2.out.e) (Nat.le_refl _) (C_nums (blk_at (by simp)) (by simp)) (Nat.le_refl _) liveA
       refine h20.mono ?_
       rintro e w2 ⟨rfl, hb2⟩
       have HL3 := Aside0.mk (HL2.out.on hb2)
       have hy0 : w2.cell? ⟨w.heap.size + 1 + 1 + 1, 0, none⟩ = some (.int .i64 2) := (blk_cell HL3.out.a 0).trans rfl
       have hy1 : w2.cell? ⟨w.heap.size + 1 + 1 + 1, 1, none⟩ = some (.int .i64 2) := (blk_cell HL3.out.a 1).trans rfl
       have hy2 : w2.cell? ⟨w.heap.size + 1 + 1 + 1, 2, none⟩ = some (.slice (some ⟨w.heap.size, 0, none⟩) 1 1) := (blk_cell HL3.out.a 2).trans rfl
       have hy3 : w2.cell? ⟨w.heap.size + 1 + 1 + 1, 3, none⟩ = some (.slice (some ⟨w.heap.size + 1, 0, none⟩) 2 2) := (blk_cell HL3.out.a 3).trans rfl
       have hy4 : w2.cell? ⟨w.heap.size + 1 + 1 + 1, 4, none⟩ = some (.slice (some ⟨w.heap.size + 1 + 1, 0, none⟩) 3 3) := (blk_cell HL3.out.a 4).trans rfl
       have h22 : Calls Try.prog 22 #[.agg #[.int .i64 2, .int .i64 2, .slice (some ⟨w.heap.size, 0, none⟩) 1 1, .slice (some ⟨w.heap.size + 1, 0, none⟩) 2 2, .slice (some ⟨w.heap.size + 1 + 1, 0, none⟩) 3 3]] w2 _ := nfa_Determine.calls 2 2 _ 1 [0] _ 2 [0, 1] _ 3 liveE 1 2 2 2 [0, 1, 0, 1] [0, 1] 0 w2 (C_nums HL3.out.s (by simp)) (Nat.le_refl _) (C_nums HL3.out.f (by simp)) (Nat.le_refl _) (C_edges HL3.out.e) (Nat.le_refl _) liveD
       clear hb2 h20))
    | (go_at_call 22
       refine h22.mono ?_
       rintro e w3 ⟨v5, v6, rfl, hR5, hR6, hb3⟩
       have HL4 := Aside0.mk (HL3.out.on hb3)
       obtain ⟨P5, e5, rfl⟩ := Kd.R_slice hR5
       obtain ⟨P6, e6, rfl⟩ := Kd.R_slice hR6
       have HR := Aside0.mk (And.intro hR5 hR6)
       clear hb3 hR5 hR6 h22 hy0 hy1 hy2 hy3 hy4)
    | ((with_reducible refine gate_store (t := 43) (p := 4) rfl ?_)
       refine wpList_store_rowTo rfl 43 (.tmp 4) (.tmp 24) rfl rfl w3.heap.size #[.int .i64 1, .int .i64 2, .int .i64 2, .int .i64 2, .slice P5 4 e5, .slice P6 2 e6] rfl rfl 43 _ (blk_new w3 _) ?_ ?_ (by simp [Value.oneCell']) ?_
       (focus (rw [i43]; rfl))
       (focus rfl)
       rw [World.setRow_alloc_new]
       refine gen_world (fun W => Below w.heap.size w W ∧ Below w3.heap.size w3 W ∧ W.heap[w3.heap.size]? = some (.cells #[.int .i64 1, .int .i64 2, .int .i64 2, .int .i64 2, .slice P5 4 e5, .slice P6 2 e6] 43 (0, 0))) ⟨below_alloc HL4.out.below _, below_alloc (Below.refl _ _) _, blk_new w3 _⟩ (fun w5 h5 => ?_)
       have HM5 := Aside0.mk h5
       have hm0 : w5.cell? ⟨w3.heap.size, 0, none⟩ = some (.int .i64 1) := (blk_cell h5.2.2 0).trans rfl
       have hm1 : w5.cell? ⟨w3.heap.size, 1, none⟩ = some (.int .i64 2) := (blk_cell h5.2.2 1).trans rfl
       have hm2 : w5.cell? ⟨w3.heap.size, 2, none⟩ = some (.int .i64 2) := (blk_cell h5.2.2 2).trans rfl
       have hm3 : w5.cell? ⟨w3.heap.size, 3, none⟩ = some (.int .i64 2) := (blk_cell h5.2.2 3).trans rfl
       have hm4 : w5.cell? ⟨w3.heap.size, 4, none⟩ = some (.slice P5 4 e5) := (blk_cell h5.2.2 4).trans rfl
       have hm5 : w5.cell? ⟨w3.heap.size, 5, none⟩ = some (.slice P6 2 e6) := (blk_cell h5.2.2 5).trans rfl
       have h39 : Calls Try.prog 39 #[.agg #[.int .i64 1, .int .i64 2, .int .i64 2, .int .i64 2, .slice P5 4 e5, .slice P6 2 e6], .int .i64 3] w5 _ := nfa_Count.calls 1 2 2 2 P5 e5 [0, 1, 0, 1] P6 e6 [0, 1] 3 4 0 w5 (Kd.C_below (Kd.R_reads' HR.out.1).2.2 h5.2.1) (Kd.R_reads' HR.out.1).2.1 (Kd.C_below (Kd.R_reads' HR.out.2).2.2 h5.2.1) (Kd.R_reads' HR.out.2).2.1 liveC
       clear h5)
    | (go_at_call 39
       refine h39.mono ?_
       rintro e w6 ⟨rfl, hb6⟩
       have HM6 : Aside0 (Below w.heap.size w w6 ∧ Below w3.heap.size w3 w6 ∧ w6.heap[w3.heap.size]? = some (.cells #[.int .i64 1, .int .i64 2, .int .i64 2, .int .i64 2, .slice P5 4 e5, .slice P6 2 e6] 43 (0, 0))) := ⟨below_step HM5.out.1 hb6, below_step HM5.out.2.1 hb6, blk_below HM5.out.2.2 hb6⟩
       clear hb6 h39 hm0 hm1 hm2 hm3 hm4 hm5
       have hm0 : w6.cell? ⟨w3.heap.size, 0, none⟩ = some (.int .i64 1) := (blk_cell HM6.out.2.2 0).trans rfl
       have hm1 : w6.cell? ⟨w3.heap.size, 1, none⟩ = some (.int .i64 2) := (blk_cell HM6.out.2.2 1).trans rfl
       have hm2 : w6.cell? ⟨w3.heap.size, 2, none⟩ = some (.int .i64 2) := (blk_cell HM6.out.2.2 2).trans rfl
       have hm3 : w6.cell? ⟨w3.heap.size, 3, none⟩ = some (.int .i64 2) := (blk_cell HM6.out.2.2 3).trans rfl
       have hm4 : w6.cell? ⟨w3.heap.size, 4, none⟩ = some (.slice P5 4 e5) := (blk_cell HM6.out.2.2 4).trans rfl
       have hm5 : w6.cell? ⟨w3.heap.size, 5, none⟩ = some (.slice P6 2 e6) := (blk_cell HM6.out.2.2 5).trans rfl)
    | (go_at_call 17; with_reducible refine (tutorlaw17_num.calls 0 0 _ rfl).mono ?_
       rintro e wn ⟨rfl, ⟨nn, rfl⟩⟩)
    | (go_at_call 44
       refine (tutorref01_Same.calls 10 P6 e6 [0, 1] (some ⟨wn.heap.size, 0, none⟩) 2 [0, 1] true _ (Kd.C_below (Kd.R_reads' HR.out.2).2.2 (below_alloc HBN.out _)) (Kd.R_reads' HR.out.2).2.1 (C_nums (blk_at rfl) (by simp)) (Nat.le_refl _) same_out).mono ?_
       rintro e wz ⟨rfl, hdz⟩
       have HZ := Aside0.mk (below_step (below_alloc HBW.out _) hdz.below))
    | (go_at_call 44
       refine (tutorref01_Same.calls 10 P5 e5 [0, 1, 0, 1] (some ⟨w6.heap.size, 0, none⟩) 4 [0, 1, 0, 1] true _ (Kd.C_below (Kd.R_reads' HR.out.1).2.2 (below_alloc (pw_below_drewN HM6.out.2.1 _) _)) (Kd.R_reads' HR.out.1).2.1 (C_nums (blk_at rfl) (by simp)) (Nat.le_refl _) same_next).mono ?_
       rintro e wn ⟨rfl, hdn⟩
       have HN := Aside0.mk hdn
       have HBN := Aside0.mk (below_step (below_alloc (pw_below_drewN HM6.out.2.1 _) _) hdn.below)
       have HBW := Aside0.mk (below_step (below_alloc (pw_below_drewN HM6.out.1 _) _) hdn.below)
       have hq5 : wn.cell? ⟨w3.heap.size, 5, none⟩ = some (.slice P6 2 e6) := (blk_cell (blk_below (blk_alloc (blk_drewN HM6.out.2.2 _) _) hdn.below) 5).trans rfl
       clear hdn))
  go_ret
  exact ⟨rfl, HZ.out⟩
end Go.Proofs.Ytkaefgmgcghhiaa.X
end

section
namespace Go.Proofs.Ytkaefgmgcghhiaa.X
open Go.RowKit Go.Proofs.YtkaefgmgcghhiaaW.PrintWords Go.Proofs.YtkaefgmgcghhiaaW.PrintLast Go.Proofs.YtkaefgmgcghhiaaW.PrintMore
theorem w64 {i : Int} (h0 : -9223372036854775808 ≤ i) (h : i ≤ 9223372036854775807) : wrap64 i = i := by unfold wrap64; omega
theorem w64s {i : Nat} (h : i < 4611686018427387904) : wrap64 ((i : Int) + 1) = ((i + 1 : Nat) : Int) := by rw [w64 (by omega) (by omega)]; rfl
theorem rd_nat {xs : List Int} {i : Nat} (h : i < xs.length) : rd xs (i : Int) = xs[i] := by simp [rd, List.getD_eq_getElem?_getD, List.getElem?_eq_getElem h]
theorem same_l0 (a b : List Int) (hl : a.length = b.length) (hb : a.length ≤ 4611686018427387903) : ∀ (d k i : Nat), i + d = a.length → d < k → tutorref01_Same.l0 k a b (i : Int) = some (decide (a.drop i = b.drop i)) := by
  intro d
  induction d with
  | zero =>
    intro k i h hk
    obtain ⟨k, rfl⟩ : ∃ m, k = m + 1 := ⟨k - 1, by omega⟩
    simp only [tutorref01_Same.l0]
    rw [if_neg (by omega), List.drop_of_length_le (by omega), List.drop_of_length_le (by omega)]
    rfl
  | succ d ih =>
    intro k i h hk
    obtain ⟨k, rfl⟩ : ∃ m, k = m + 1 := ⟨k - 1, by omega⟩
    simp only [tutorref01_Same.l0]
    have hda : a.drop i = a[i]'(by omega) :: a.drop (i + 1) := List.drop_eq_getElem_cons (by omega)
    have hdb : b.drop i = b[i]'(by omega) :: b.drop (i + 1) := List.drop_eq_getElem_cons (by omega)
    rw [if_pos (by omega), if_pos (by omega), if_pos (by omega), rd_nat (by omega), rd_nat (by omega), hda, hdb]
    by_cases he : a[i]'(by omega) = b[i]'(by omega)
    · rw [if_pos he, w64s (by omega), ih k (i + 1) (by omega) (by omega), he]
      congr 1
      exact decide_eq_decide.2 ⟨fun h => by rw [h], fun h => (List.cons.inj h).2⟩
    · rw [if_neg he]
      congr 1
      exact (decide_eq_false (fun h => he (List.cons.inj h).1)).symm
theorem same_f {a b : List Int} {k : Nat} (hb : a.length ≤ 4611686018427387903) (hk : a.length < k) : tutorref01_Same.f k a b = some (decide (a = b)) := by
  unfold tutorref01_Same.f
  by_cases hl : a.length = b.length
  · rw [if_pos (by omega)]
    have := same_l0 a b hl hb a.length k 0 (by omega) hk
    simpa using this
  · rw [if_neg (by omega)]
    have : a ≠ b := fun h => hl (by rw [h])
    simp [this]
theorem T80_nat {xs : List S80} {i : Nat} (h : i < xs.length) : rd_T80 xs (i : Int) = xs[i] := by simp [rd_T80, List.getD_eq_getElem?_getD, List.getElem?_eq_getElem h]
theorem same17_l0 (K N K' N' : Int) (S F S' F' : List Int) (E : List S80) (hb : E.length ≤ 4611686018427387903) : ∀ (d k i : Nat), i + d = E.length → d < k → tutorref17_Same.l0 k (i : Int) K N S F E K' N' S' F' E = some true := by
  intro d
  induction d with
  | zero =>
    intro k i h hk
    obtain ⟨k, rfl⟩ : ∃ m, k = m + 1 := ⟨k - 1, by omega⟩
    simp only [tutorref17_Same.l0]
    rw [if_neg (by omega)]
  | succ d ih =>
    intro k i h hk
    obtain ⟨k, rfl⟩ : ∃ m, k = m + 1 := ⟨k - 1, by omega⟩
    simp only [tutorref17_Same.l0]
    rw [if_pos (by omega), if_pos (by omega), if_pos (by omega), if_neg (by simp), w64s (by omega), ih k (i + 1) (by omega) (by omega)]
theorem same17_refl {K N : Int} {S F : List Int} {E : List S80} {k : Nat} (hS : S.length ≤ 100000) (hF : F.length ≤ 100000) (hE : E.length ≤ 100000) (hk : 200000 ≤ k) : tutorref17_Same.f k K N S F E K N S F E = some true := by
  unfold tutorref17_Same.f
  rw [if_pos rfl, if_pos rfl, same_f (by omega) (by omega), same_f (by omega) (by omega)]
  simp only [Option.bind_some, decide_true, if_true]
  obtain ⟨k, rfl⟩ : ∃ m, k = m + 1 := ⟨k - 1, by omega⟩
  rw [tutorref17_Same.j0, if_neg (by simp)]
  exact same17_l0 K N K N S F S F E (by omega) E.length k 0 (by omega) (by omega)
theorem copy_f {K N : Int} {S F : List Int} {E : List S80} (hS : S.length ≤ 100000) (hF : F.length ≤ 100000) (hE : E.length ≤ 100000) : tutorref17_Copy.f K N S F E = some (K, N, S, F, E) := by
  unfold tutorref17_Copy.f
  simp only [Option.bind_some, List.length_nil, List.nil_append]
  rw [if_pos (by omega), if_pos (by omega), if_pos (by omega)]
/-- Where the first fault of a list is. -/
theorem idxBy_cons (p : Int → Bool) (x : Int) (l : List Int) : idxBy p (x :: l) = if p x then 0 else if idxBy p l ≥ 0 then idxBy p l + 1 else -1 := by
  unfold idxBy
  rw [List.findIdx?_cons]
  by_cases hp : p x = true
  · simp [hp]
  · simp only [hp]
    cases l.findIdx? p with
    | none => simp
    | some j => simp
theorem ref_l2 (K N : Int) (S F : List Int) (E : List S80) (hb : E.length ≤ 100000) : ∀ (d k i : Nat), i + d = E.length → 2 * d < k → tutorref17_Check.l2 k (i : Int) K N S F E = some (nfa_Check.e K N (E.drop i) i) := by
  intro d
  induction d with
  | zero =>
    intro k i h hk
    obtain ⟨k, rfl⟩ : ∃ m, k = m + 1 := ⟨k - 1, by omega⟩
    simp only [tutorref17_Check.l2]
    rw [if_neg (by omega), List.drop_of_length_le (by omega)]
    rfl
  | succ d ih =>
    intro k i h hk
    obtain ⟨k, rfl⟩ : ∃ m, k = m + 2 := ⟨k - 2, by omega⟩
    have hi : i < E.length := by omega
    have hq := ih k (i + 1) (by omega) (by omega)
    rw [tutorref17_Check.l2, if_pos (by omega), if_pos (by omega), T80_nat hi, List.drop_eq_getElem_cons hi]
    simp only [nfa_Check.e]
    simp only [tutorref17_Check.j5]
    rw [w64s (by omega), hq]
    generalize E[i] = x
    have hst : ∀ a : Int, (!stB N a) = decide (a < 0 ∨ a ≥ N) := by
      intro a
      unfold stB
      by_cases h1 : 0 ≤ a <;> by_cases h2 : a < N <;> simp [h1, h2] <;> omega
    rw [hst, hst]
    by_cases h1 : x.f0 < 0
    · simp [h1]
    · by_cases h2 : x.f0 ≥ N
      · simp [h1, h2]
      · by_cases h3 : x.f2 < 0
        · simp [h1, h2, h3]
        · by_cases h4 : x.f2 ≥ N
          · simp [h1, h2, h3, h4]
          · simp only [h1, h2, h3, h4, if_false, decide_false, or_self, Bool.false_eq_true]
            by_cases h5 : x.f1 < -1
            · simp [h5]
            · by_cases h6 : x.f1 ≥ K
              · simp [h5, h6]
              · simp only [h5, h6, if_false]
                norm_cast
theorem idxBy_nil (p : Int → Bool) : idxBy p [] = -1 := rfl
theorem idxBy_skip {p : Int → Bool} {x : Int} (h : p x = false) (l : List Int) (i : Nat) (c : Int) (z : Int × Int) :
    (if idxBy p (x :: l) ≥ 0 then ((i : Int) + idxBy p (x :: l), c) else z) = (if idxBy p l ≥ 0 then (((i + 1 : Nat) : Int) + idxBy p l, c) else z) := by
  have e : idxBy p (x :: l) = if idxBy p l ≥ 0 then idxBy p l + 1 else -1 := by rw [idxBy_cons, h]; rfl
  by_cases hg : idxBy p l ≥ 0
  · rw [if_pos hg] at e
    rw [e, if_pos (by omega), if_pos hg]
    congr 1
    omega
  · rw [if_neg hg] at e
    rw [e, if_neg (by omega), if_neg hg]
theorem idxBy_stop {p : Int → Bool} {x : Int} (h : p x = true) (l : List Int) (i : Nat) (c : Int) (z : Int × Int) :
    (if idxBy p (x :: l) ≥ 0 then ((i : Int) + idxBy p (x :: l), c) else z) = ((i : Int), c) := by
  rw [idxBy_cons, h, if_pos rfl, if_pos (by omega), Int.add_zero]
theorem ref_l1 (K N : Int) (S F : List Int) (E : List S80) (hE : E.length ≤ 100000) (hF : F.length ≤ 100000) : ∀ (d k i : Nat), i + d = F.length → 2 * E.length + 1 + d < k →
    tutorref17_Check.l1 k (i : Int) K N S F E = some (if idxBy outB (F.drop i) ≥ 0 then ((i : Int) + idxBy outB (F.drop i), 33) else nfa_Check.e K N E 0) := by
  intro d
  induction d with
  | zero =>
    intro k i h hk
    obtain ⟨k, rfl⟩ : ∃ m, k = m + 1 := ⟨k - 1, by omega⟩
    have := ref_l2 K N S F E hE E.length k 0 (by omega) (by omega)
    rw [tutorref17_Check.l1, if_neg (by omega), List.drop_of_length_le (by omega), idxBy_nil, if_neg (by omega)]
    simpa using this
  | succ d ih =>
    intro k i h hk
    obtain ⟨k, rfl⟩ : ∃ m, k = m + 1 := ⟨k - 1, by omega⟩
    have hi : i < F.length := by omega
    have hq := ih k (i + 1) (by omega) (by omega)
    rw [tutorref17_Check.l1, if_pos (by omega), if_pos (by omega), rd_nat hi, List.drop_eq_getElem_cons hi, w64s (by omega), hq]
    generalize F[i] = x
    by_cases h0 : x = 0
    · rw [if_pos h0, idxBy_skip (by rw [h0]; rfl)]
    · rw [if_neg h0]
      by_cases h1 : x = 1
      · rw [if_pos h1, idxBy_skip (by rw [h1]; rfl)]
      · rw [if_neg h1, idxBy_stop (by simp [outB, h0, h1])]
theorem ref_l0 (K N : Int) (S F : List Int) (E : List S80) (hE : E.length ≤ 100000) (hF : F.length ≤ 100000) (hS : S.length ≤ 100000) : ∀ (d k i : Nat), i + d = S.length → 2 * E.length + 2 + F.length + d < k →
    tutorref17_Check.l0 k (i : Int) K N S F E = some (if idxBy (fun x => !stB N x) (S.drop i) ≥ 0 then ((i : Int) + idxBy (fun x => !stB N x) (S.drop i), 32) else if idxBy outB F ≥ 0 then (idxBy outB F, 33) else nfa_Check.e K N E 0) := by
  intro d
  induction d with
  | zero =>
    intro k i h hk
    obtain ⟨k, rfl⟩ : ∃ m, k = m + 1 := ⟨k - 1, by omega⟩
    have := ref_l1 K N S F E hE hF F.length k 0 (by omega) (by omega)
    rw [tutorref17_Check.l0, if_neg (by omega), List.drop_of_length_le (by omega), idxBy_nil, if_neg (by omega)]
    simpa using this
  | succ d ih =>
    intro k i h hk
    obtain ⟨k, rfl⟩ : ∃ m, k = m + 1 := ⟨k - 1, by omega⟩
    have hi : i < S.length := by omega
    have hq := ih k (i + 1) (by omega) (by omega)
    rw [tutorref17_Check.l0, if_pos (by omega), if_pos (by omega), rd_nat hi, List.drop_eq_getElem_cons hi, w64s (by omega), hq]
    generalize S[i] = x
    have hst : (!stB N x) = decide (x < 0 ∨ x ≥ N) := by
      unfold stB
      by_cases h1 : 0 ≤ x <;> by_cases h2 : x < N <;> simp [h1, h2] <;> omega
    by_cases h0 : x < 0
    · rw [if_pos h0, idxBy_stop (p := fun x => !stB N x) (by rw [hst]; exact decide_eq_true (.inl h0))]
    · rw [if_neg h0]
      by_cases h1 : x ≥ N
      · rw [if_pos h1, idxBy_stop (p := fun x => !stB N x) (by rw [hst]; exact decide_eq_true (.inr h1))]
      · rw [if_neg h1, idxBy_skip (p := fun x => !stB N x) (by rw [hst]; exact decide_eq_false (by omega))]
/-- The reference's Check tells what the program's does. -/
theorem ref_check {K N : Int} {S F : List Int} {E : List S80} {k : Nat} (hk : 300000 ≤ k) : tutorref17_Check.f k K N S F E = some (nfa_Check.g K N S F E) := by
  unfold tutorref17_Check.f nfa_Check.g
  obtain ⟨k, rfl⟩ : ∃ m, k = m + 2 := ⟨k - 2, by omega⟩
  by_cases q1 : K < 1
  · rw [if_pos q1, if_pos q1]; simp [tutorref17_Check.j0]
  rw [if_neg q1, if_neg q1]
  by_cases q2 : K > 64
  · rw [if_pos q2]; simp [tutorref17_Check.j0, q2]
  rw [if_neg q2]
  rw [tutorref17_Check.j0, decide_eq_false q2, if_neg (by simp)]
  by_cases q3 : N < 1
  · rw [if_pos q3, if_pos q3]; simp [tutorref17_Check.j1]
  rw [if_neg q3, if_neg q3]
  by_cases q4 : N > 1024
  · rw [if_pos q4, if_pos q4]; simp [tutorref17_Check.j1]
  rw [if_neg q4, if_neg q4]
  by_cases q5 : (S.length : Int) > 65536
  · rw [if_pos q5, if_pos q5]; simp [tutorref17_Check.j1]
  rw [if_neg q5, if_neg q5, tutorref17_Check.j1]
  by_cases q6 : (E.length : Int) > 65536
  · rw [if_pos q6, decide_eq_true q6]; rfl
  rw [if_neg q6, decide_eq_false q6, if_neg (by simp)]
  by_cases q7 : (F.length : Int) ≠ N
  · rw [if_pos q7, if_neg q7]
  rw [if_neg q7, if_pos (by omega)]
  have := ref_l0 K N S F E (by omega) (by omega) (by omega) S.length k 0 (by omega) (by omega)
  simpa using this
end Go.Proofs.Ytkaefgmgcghhiaa.X
end

section
namespace Go.Proofs.Ytkaefgmgcghhiaa.X
open Go.RowKit Go.Proofs.YtkaefgmgcghhiaaW.PrintWords Go.Proofs.YtkaefgmgcghhiaaW.PrintLast Go.Proofs.YtkaefgmgcghhiaaW.PrintMore
/-- Rows of sets, and where their symbols lead, so far. -/
structure Det (k : Nat) (K N : Int) (F : List Int) (fr : List (List S80)) (s0 : List Nat) (i : Nat) (row : List (List Nat)) (nx out : List Int) : Prop where
  first : row[0]? = some s0
  sets : ∀ s ∈ row, ∃ P, SetIs N s P
  nodup : row.Nodup
  len : i ≤ row.length ∧ row.length ≤ 1024
  nxl : nx.length = i * K.toNat
  outl : out.length = i
  next : ∀ a x, a < i → x < K.toNat → ∃ s t n, row[a]? = some s ∧ stepF k N fr s (x : Int) = some t ∧ nx[a * K.toNat + x]? = some ((n : Nat) : Int) ∧ row[n]? = some t
  says : ∀ a, a < i → ∃ s, row[a]? = some s ∧ out[a]? = some (fiRow s F 0)
theorem get_app {α : Type} {l : List α} {i : Nat} {a : α} (h : l[i]? = some a) (r : List α) : (l ++ r)[i]? = some a := by
  have := (List.getElem?_eq_some_iff.1 h).1
  rw [List.getElem?_append_left this]
  exact h
/-- One state's symbols. -/
theorem detIn_spec {K N : Int} {S F : List Int} {E : List S80} (R : RightN K N S F E) {k : Nat} (hk : 4000 < k) {s : List Nat} (hs : ∃ P, SetIs N s P) (i : Nat) (hi : i < 1024) :
    ∀ (d x : Nat) (row : List (List Nat)) (nx : List Int), x + d = K.toNat → row[i]? = some s → row.Nodup → row.length ≤ 1024 → (∀ s ∈ row, ∃ P, SetIs N s P) → nx.length = i * K.toNat + x →
      (∀ y, y < x → ∃ t n, stepF k N (rowsOf N.toNat E) s (y : Int) = some t ∧ nx[i * K.toNat + y]? = some ((n : Nat) : Int) ∧ row[n]? = some t) →
      (detIn k N (rowsOf N.toNat E) s ((List.range K.toNat).drop x) row nx = some none ∧ ∃ (row1 : List (List Nat)) (t : List Nat), row <+: row1 ∧ row1.length = 1024 ∧ row1.Nodup ∧ (∀ s ∈ row1, ∃ P, SetIs N s P) ∧ (∃ P, SetIs N t P) ∧ t ∉ row1) ∨
      ∃ row1 nx1, detIn k N (rowsOf N.toNat E) s ((List.range K.toNat).drop x) row nx = some (some (row1, nx1)) ∧ row <+: row1 ∧ nx <+: nx1 ∧ row1.Nodup ∧ row1.length ≤ 1024 ∧ (∀ s ∈ row1, ∃ P, SetIs N s P) ∧ nx1.length = (i + 1) * K.toNat ∧
        (∀ y, y < K.toNat → ∃ t n, stepF k N (rowsOf N.toNat E) s (y : Int) = some t ∧ nx1[i * K.toNat + y]? = some ((n : Nat) : Int) ∧ row1[n]? = some t) := by
  intro d
  induction d with
  | zero =>
    intro x row nx hx hsi hnd hl hset hnx hdone
    rw [List.drop_of_length_le (by simp; omega), detIn]
    refine .inr ⟨row, nx, rfl, List.prefix_refl _, List.prefix_refl _, hnd, hl, hset, ?_, fun y hy => hdone y (by omega)⟩
    rw [hnx, Nat.succ_mul]
    omega
  | succ d ih =>
    intro x row nx hx hsi hnd hl hset hnx hdone
    have hK := R.k
    have hxl : x < (List.range K.toNat).length := by simp; omega
    rw [List.drop_eq_getElem_cons hxl, detIn, List.getElem_range]
    obtain ⟨P, hP⟩ := hs
    obtain ⟨t, g1, g2⟩ := stepF_is R hk hP (x : Int)
    have hmul : i * K.toNat ≤ 1024 * 64 := Nat.mul_le_mul (by omega) (by omega)
    rw [g1]
    simp only []
    rw [if_pos (by omega)]
    cases hf : row.findIdx? (· == t) with
    | some j =>
      simp only []
      obtain ⟨hjl, hjt, _⟩ := List.findIdx?_eq_some_iff_getElem.1 hf
      have hjt' : row[j]? = some t := by rw [List.getElem?_eq_getElem hjl]; simpa using hjt
      have q1 : ∀ y, y < x + 1 → ∃ t n, stepF k N (rowsOf N.toNat E) s (y : Int) = some t ∧ (nx ++ [(j : Int)])[i * K.toNat + y]? = some ((n : Nat) : Int) ∧ row[n]? = some t := by
        intro y hy
        by_cases hy2 : y < x
        · obtain ⟨t', n, e1, e2, e3⟩ := hdone y hy2
          exact ⟨t', n, e1, get_app e2 _, e3⟩
        · obtain rfl : y = x := by omega
          exact ⟨t, j, g1, by rw [← hnx, List.getElem?_concat_length], hjt'⟩
      rcases ih (x + 1) row (nx ++ [(j : Int)]) (by omega) hsi hnd hl hset (by simp [hnx]; omega) q1 with h | ⟨row1, nx1, h1, h2, h3, h4⟩
      · exact .inl h
      · exact .inr ⟨row1, nx1, h1, h2, (List.prefix_append _ _).trans h3, h4⟩
    | none =>
      simp only []
      have hnot := not_mem_of_none hf
      by_cases hfull : row.length = 1024
      · rw [if_pos hfull]
        exact .inl ⟨rfl, row, t, List.prefix_refl _, hfull, hnd, hset, ⟨_, g2⟩, hnot⟩
      · rw [if_neg hfull]
        have hnd1 : (row ++ [t]).Nodup := by
          rw [List.nodup_append]
          exact ⟨hnd, by simp, fun a ha b hb => by
            simp only [List.mem_singleton] at hb
            subst hb
            exact fun e => hnot (e ▸ ha)⟩
        have q1 : ∀ s ∈ row ++ [t], ∃ P, SetIs N s P := by
          intro s' hs'
          rcases List.mem_append.1 hs' with h | h
          · exact hset s' h
          · simp only [List.mem_singleton] at h
            exact ⟨_, h ▸ g2⟩
        have q2 : ∀ y, y < x + 1 → ∃ t' n, stepF k N (rowsOf N.toNat E) s (y : Int) = some t' ∧ (nx ++ [(row.length : Int)])[i * K.toNat + y]? = some ((n : Nat) : Int) ∧ (row ++ [t])[n]? = some t' := by
          intro y hy
          by_cases hy2 : y < x
          · obtain ⟨t', n, e1, e2, e3⟩ := hdone y hy2
            exact ⟨t', n, e1, get_app e2 _, get_app e3 _⟩
          · obtain rfl : y = x := by omega
            exact ⟨t, row.length, g1, by rw [← hnx, List.getElem?_concat_length], by rw [List.getElem?_concat_length]⟩
        rcases ih (x + 1) (row ++ [t]) (nx ++ [(row.length : Int)]) (by omega) (get_app hsi _) hnd1 (by simp; omega) q1 (by simp [hnx]; omega) q2 with ⟨h, row1, t', h2, h3⟩ | ⟨row1, nx1, h1, h2, h3, h4⟩
        · exact .inl ⟨h, row1, t', (List.prefix_append _ _).trans h2, h3⟩
        · exact .inr ⟨row1, nx1, h1, (List.prefix_append _ _).trans h2, (List.prefix_append _ _).trans h3, h4⟩
/-- All states': either too many sets, or a whole machine. -/
theorem detF_spec {K N : Int} {S F : List Int} {E : List S80} (R : RightN K N S F E) {k : Nat} (hk : 4000 < k) (s0 : List Nat) : ∀ (d q i : Nat) (row : List (List Nat)) (nx out : List Int), i + d = 1024 → d < q → Det k K N F (rowsOf N.toNat E) s0 i row nx out →
    (detF k K N F (rowsOf N.toNat E) q i row nx out = some none ∧ ∃ (row1 : List (List Nat)) (t : List Nat), row <+: row1 ∧ row1.length = 1024 ∧ row1.Nodup ∧ (∀ s ∈ row1, ∃ P, SetIs N s P) ∧ (∃ P, SetIs N t P) ∧ t ∉ row1) ∨
    ∃ row1 nx1 out1, detF k K N F (rowsOf N.toNat E) q i row nx out = some (some (row1, nx1, out1)) ∧ row <+: row1 ∧ Det k K N F (rowsOf N.toNat E) s0 row1.length row1 nx1 out1 := by
  intro d
  induction d with
  | zero =>
    intro q i row nx out hi hq D
    obtain ⟨q, rfl⟩ : ∃ m, q = m + 1 := ⟨q - 1, by omega⟩
    have := D.len
    rw [detF, if_neg (by omega)]
    have he : row.length = i := by omega
    exact .inr ⟨row, nx, out, rfl, List.prefix_refl _, by rw [he]; exact D⟩
  | succ d ih =>
    intro q i row nx out hi hq D
    obtain ⟨q, rfl⟩ : ∃ m, q = m + 1 := ⟨q - 1, by omega⟩
    have hlen := D.len
    rw [detF]
    by_cases hlt : i < row.length
    · rw [if_pos hlt, if_pos (by rw [D.outl]; omega)]
      have hgi : row[i]? = some row[i] := List.getElem?_eq_getElem hlt
      have hgd : row.getD i [] = row[i] := by rw [List.getD_eq_getElem?_getD, hgi]; rfl
      rw [hgd]
      have hin := detIn_spec R hk (D.sets row[i] (List.getElem_mem hlt)) i (by omega) K.toNat 0 row nx (by omega) hgi D.nodup hlen.2 D.sets (by rw [D.nxl]; rfl) (fun y hy => by omega)
      rw [List.drop_zero] at hin
      rcases hin with ⟨h, rest⟩ | ⟨row1, nx1, h1, h2, h3, h4, h5, h6, h7, h8⟩
      · rw [h]
        exact .inl ⟨rfl, rest⟩
      · rw [h1]
        simp only []
        have hpl := h2.length_le
        have hget : ∀ {a : Nat} {s : List Nat}, row[a]? = some s → row1[a]? = some s := by
          intro a s h
          obtain ⟨r, rfl⟩ := h2
          exact get_app h r
        have hgetn : ∀ {a : Nat} {z : Int}, nx[a]? = some z → nx1[a]? = some z := by
          intro a z h
          obtain ⟨r, rfl⟩ := h3
          exact get_app h r
        have D1 : Det k K N F (rowsOf N.toNat E) s0 (i + 1) row1 nx1 (out ++ [fiRow row[i] F 0]) := by
          refine ⟨hget D.first, h6, h4, ⟨by omega, h5⟩, h7, by simp [D.outl], fun a x ha hx => ?_, fun a ha => ?_⟩
          · by_cases hai : a < i
            · obtain ⟨s, t, n, e1, e2, e3, e4⟩ := D.next a x hai hx
              exact ⟨s, t, n, hget e1, e2, hgetn e3, hget e4⟩
            · obtain rfl : a = i := by omega
              obtain ⟨t, n, e1, e2, e3⟩ := h8 x hx
              exact ⟨row[a], t, n, hget hgi, e1, e2, e3⟩
          · by_cases hai : a < i
            · obtain ⟨s, e1, e2⟩ := D.says a hai
              exact ⟨s, hget e1, get_app e2 _⟩
            · obtain rfl : a = i := by omega
              have hc := List.getElem?_concat_length (l := out) (a := fiRow row[a] F 0)
              rw [D.outl] at hc
              exact ⟨row[a], hget hgi, hc⟩
        rcases ih q (i + 1) row1 nx1 _ (by omega) (by omega) D1 with ⟨h, row2, t, g2, g3⟩ | ⟨row2, nx2, out2, g1, g2, g3⟩
        · exact .inl ⟨h, row2, t, h2.trans g2, g3⟩
        · exact .inr ⟨row2, nx2, out2, g1, h2.trans g2, g3⟩
    · rw [if_neg hlt]
      have he : row.length = i := by omega
      exact .inr ⟨row, nx, out, rfl, List.prefix_refl _, by rw [he]; exact D⟩
theorem det_start {k : Nat} {K N : Int} {F : List Int} {fr : List (List S80)} {s0 : List Nat} (hs : ∃ P, SetIs N s0 P) : Det k K N F fr s0 0 [s0] [] [] :=
  ⟨rfl, fun s h => by simp only [List.mem_singleton] at h; exact h ▸ hs, by simp, by simp, by simp, rfl, fun a x ha => by omega, fun a ha => by omega⟩
/-- Sets of few states are few. -/
theorem mem_eq {a b : List Nat} (ha : IsSet a) (hb : IsSet b) (h : ∀ j, mem a j = mem b j) : a = b := by
  apply List.ext_getElem (by rw [ha.1, hb.1])
  intro i h1 h2
  apply Nat.eq_of_testBit_eq
  intro j
  by_cases hj : j < 64
  · have := h (64 * i + j)
    unfold mem at this
    rw [show (64 * i + j) / 64 = i by omega, show (64 * i + j) % 64 = j by omega, List.getD_eq_getElem?_getD, List.getD_eq_getElem?_getD, List.getElem?_eq_getElem h1, List.getElem?_eq_getElem h2] at this
    simpa using this
  · have hx : a[i] < 2 ^ j := Nat.lt_of_lt_of_le (ha.2 _ (List.getElem_mem h1)) (Nat.pow_le_pow_right (n := 2) (by omega) (show 64 ≤ j by omega))
    have hy : b[i] < 2 ^ j := Nat.lt_of_lt_of_le (hb.2 _ (List.getElem_mem h2)) (Nat.pow_le_pow_right (n := 2) (by omega) (show 64 ≤ j by omega))
    rw [Nat.testBit_lt_two_pow hx, Nat.testBit_lt_two_pow hy]
end Go.Proofs.Ytkaefgmgcghhiaa.X
end

section
namespace Go.Proofs.Ytkaefgmgcghhiaa.X
open Go.RowKit Go.Proofs.YtkaefgmgcghhiaaW.PrintWords Go.Proofs.YtkaefgmgcghhiaaW.PrintLast Go.Proofs.YtkaefgmgcghhiaaW.PrintMore
/-- A set as the reference holds it. -/
def bo (N : Int) (s : List Nat) : List Bool := (List.range N.toNat).map (mem s)
theorem bo_at (N : Int) (s : List Nat) (j : Nat) : at_ (bo N s) j ↔ j < N.toNat ∧ mem s j = true := by
  unfold at_ bo
  rw [List.getD_eq_getElem?_getD, List.getElem?_map]
  by_cases h : j < N.toNat
  · rw [List.getElem?_range h]
    simp [h]
  · rw [List.getElem?_eq_none (by simp; omega)]
    simp [h]
theorem bools_eq {a b : List Bool} (hl : a.length = b.length) (h : ∀ j, at_ a j ↔ at_ b j) : a = b := by
  apply List.ext_getElem hl
  intro i h1 h2
  have := h i
  unfold at_ at this
  rw [List.getD_eq_getElem?_getD, List.getD_eq_getElem?_getD, List.getElem?_eq_getElem h1, List.getElem?_eq_getElem h2] at this
  simp only [Option.getD_some] at this
  cases ha : a[i] <;> cases hb : b[i] <;> simp_all
theorem bo_is {N : Int} {s : List Nat} {P : Int → Prop} (h : SetIs N s P) : BoolIs N (bo N s) P := by
  refine ⟨by simp [bo], fun j => ?_⟩
  rw [bo_at, h.2 j]
  constructor
  · rintro ⟨_, h⟩; exact h
  · rintro h; exact ⟨by omega, h⟩
theorem is_bo {N : Int} {s : List Nat} {P : Int → Prop} {b : List Bool} (h : SetIs N s P) (hb : BoolIs N b P) : b = bo N s := by
  have h1 := bo_is h
  exact bools_eq (by rw [hb.1, h1.1]) (fun j => by rw [hb.2 j, h1.2 j])
theorem bo_inj {N : Int} {s t : List Nat} (hs : ∃ P, SetIs N s P) (ht : ∃ P, SetIs N t P) (h : bo N s = bo N t) : s = t := by
  obtain ⟨P, hP⟩ := hs
  obtain ⟨Q, hQ⟩ := ht
  refine mem_eq hP.1 hQ.1 fun j => ?_
  have hj := bo_at N s j
  rw [h, bo_at] at hj
  by_cases hlt : j < N.toNat
  · cases h1 : mem s j <;> cases h2 : mem t j <;> simp_all
  · have h1 : mem s j = false := by
      by_cases hm : mem s j = true
      · have := ((hP.2 j).1 hm).1; omega
      · simpa using hm
    have h2 : mem t j = false := by
      by_cases hm : mem t j = true
      · have := ((hQ.2 j).1 hm).1; omega
      · simpa using hm
    rw [h1, h2]
theorem step_bo {K N : Int} {S F : List Int} {E : List S80} (R : RightN K N S F E) {q : Nat} (hq : 4000 < q) {k : Nat} (hk : 200000000 ≤ k) {s t : List Nat} (hs : ∃ P, SetIs N s P) {x : Int} (h : stepF q N (rowsOf N.toNat E) s x = some t) : tutorref17_step.f k K N S F E (bo N s) x = some (bo N t) ∧ ∃ P, SetIs N t P := by
  obtain ⟨P, hP⟩ := hs
  obtain ⟨t', g1, g2⟩ := stepF_is R hq hP x
  rw [h] at g1
  obtain rfl := Option.some.inj g1
  obtain ⟨r, e1, e2⟩ := step_is R hk (bo_is hP) x
  rw [e1, is_bo g2 e2]
  exact ⟨rfl, _, g2⟩
theorem same_b (a b : List Bool) (hl : a.length = b.length) (hb : a.length ≤ 100000) : ∀ (d k i : Nat), i + d = a.length → d < k → tutorref17_same.l0 k a b (i : Int) = some (decide (a.drop i = b.drop i)) := by
  intro d
  induction d with
  | zero =>
    intro k i h hk
    obtain ⟨k, rfl⟩ : ∃ m, k = m + 1 := ⟨k - 1, by omega⟩
    rw [tutorref17_same.l0, if_neg (by omega), List.drop_of_length_le (by omega), List.drop_of_length_le (by omega)]
    rfl
  | succ d ih =>
    intro k i h hk
    obtain ⟨k, rfl⟩ : ∃ m, k = m + 1 := ⟨k - 1, by omega⟩
    have hda : a.drop i = a[i]'(by omega) :: a.drop (i + 1) := List.drop_eq_getElem_cons (by omega)
    have hdb : b.drop i = b[i]'(by omega) :: b.drop (i + 1) := List.drop_eq_getElem_cons (by omega)
    have ha : rdOf false a (i : Int) = a[i]'(by omega) := by simp [rdOf, List.getD_eq_getElem?_getD, List.getElem?_eq_getElem (show i < a.length by omega)]
    have hb' : rdOf false b (i : Int) = b[i]'(by omega) := by simp [rdOf, List.getD_eq_getElem?_getD, List.getElem?_eq_getElem (show i < b.length by omega)]
    rw [tutorref17_same.l0, if_pos (by omega), if_pos (by omega), if_pos (by omega), ha, hb', hda, hdb, w64q (by omega), ih k (i + 1) (by omega) (by omega)]
    by_cases he : a[i]'(by omega) = b[i]'(by omega)
    · rw [if_neg (by simp [he]), he]
      congr 1
      exact decide_eq_decide.2 ⟨fun h => by rw [h], fun h => (List.cons.inj h).2⟩
    · rw [if_pos (by simpa using he)]
      congr 1
      exact (decide_eq_false (fun h => he (List.cons.inj h).1)).symm
theorem same_bf {a b : List Bool} (hl : a.length = b.length) (hb : a.length ≤ 100000) {k : Nat} (hk : a.length < k) : tutorref17_same.f k a b = some (decide (a = b)) := by
  have := same_b a b hl hb a.length k 0 (by omega) hk
  unfold tutorref17_same.f
  simpa using this
theorem L7q {xs : List (List Bool)} {i : Nat} (h : i < xs.length) : rd_L7 xs (i : Int) = xs[i] := by simp [rd_L7, List.getD_eq_getElem?_getD, List.getElem?_eq_getElem h]
/-- Where a set stands in the rows. -/
def spot (row : List (List Nat)) (t : List Nat) : Int := match row.findIdx? (· == t) with | some j => (j : Int) | none => -1
section
variable {K N : Int} {S F : List Int} {E : List S80}
theorem det_l2 (r : Int × Int × Int × Int × List Int × List Int × Int) (a0 a1 a2 a3 : Int) (nx out : List Int) (i x : Int) (row : List (List Nat)) (t : List Nat) (hrow : ∀ s ∈ row, ∃ P, SetIs N s P) (ht : ∃ P, SetIs N t P) (hN : N ≤ 1024) (hrl : row.length ≤ 1024) (B : Nat) (hB : 2000 ≤ B)
    (h : ∀ k (z : Int), B ≤ k → tutorref17_Determine.j4 k (row.map (bo N)) i x (bo N t) (spot row t) z false K N S F E a0 a1 a2 a3 nx out = some r) :
    ∀ (d k j : Nat), j + d = row.length → (∀ q, q < j → row[q]? ≠ some t) → B + 2 * d + 3 ≤ k → tutorref17_Determine.l2 k (row.map (bo N)) i x (bo N t) (-1) (j : Int) K N S F E a0 a1 a2 a3 nx out = some r := by
  intro d
  induction d with
  | zero =>
    intro k j hj hno hk
    obtain ⟨k, rfl⟩ : ∃ m, k = m + 1 := ⟨k - 1, by omega⟩
    have hs : spot row t = -1 := by
      unfold spot
      have : row.findIdx? (· == t) = none := by
        rw [List.findIdx?_eq_none_iff]
        intro s hs
        obtain ⟨q, hq, rfl⟩ := List.getElem_of_mem hs
        have := hno q (by omega)
        rw [List.getElem?_eq_getElem hq] at this
        simpa using this
      rw [this]
    rw [tutorref17_Determine.l2, if_neg (by simp; omega)]
    have := h k (j : Int) (by omega)
    rw [hs] at this
    exact this
  | succ d ih =>
    intro k j hj hno hk
    obtain ⟨k, rfl⟩ : ∃ m, k = m + 2 := ⟨k - 2, by omega⟩
    have hjl : j < row.length := by omega
    obtain ⟨P, hP⟩ := hrow row[j] (List.getElem_mem hjl)
    obtain ⟨Q, hQ⟩ := ht
    rw [tutorref17_Determine.l2, if_pos (by simp; omega), decide_eq_true (by omega), tutorref17_Determine.j4, if_pos rfl, if_pos (by omega), if_pos (by simp; omega), L7q (by simpa using hjl), List.getElem_map,
      same_bf (by rw [(bo_is hP).1, (bo_is hQ).1]) (by rw [(bo_is hP).1]; omega) (by rw [(bo_is hP).1]; omega), Option.bind_some]
    by_cases he : row[j] = t
    · rw [if_pos (by simp [he]), w64q (by omega)]
      have hs : spot row t = (j : Int) := by
        unfold spot
        have : row.findIdx? (· == t) = some j := by
          rw [List.findIdx?_eq_some_iff_getElem]
          refine ⟨hjl, by simpa using he, fun q hq => ?_⟩
          have := hno q hq
          rw [List.getElem?_eq_getElem (by omega)] at this
          simpa using this
        rw [this]
      obtain ⟨k, rfl⟩ : ∃ m, k = m + 1 := ⟨k - 1, by omega⟩
      rw [tutorref17_Determine.l2]
      have h2 := fun z => h k z (by omega)
      rw [hs] at h2
      by_cases hz : ((j + 1 : Nat) : Int) < ((row.map (bo N)).length : Int)
      · rw [if_pos hz, decide_eq_false (by omega)]
        exact h2 _
      · rw [if_neg hz]
        exact h2 _
    · have hne : ¬ bo N row[j] = bo N t := fun hh => he (bo_inj ⟨P, hP⟩ ⟨Q, hQ⟩ hh)
      rw [if_neg (by simp [hne]), w64q (by omega)]
      refine ih k (j + 1) (by omega) (fun q hq => ?_) (by omega)
      by_cases hqj : q < j
      · exact hno q hqj
      · obtain rfl : q = j := by omega
        rw [List.getElem?_eq_getElem hjl]
        simpa using he
set_option maxRecDepth 100000 in
theorem det_l1 (R : RightN K N S F E) {q : Nat} (hq : 4000 < q) (r : Int × Int × Int × Int × List Int × List Int × Int) (out : List Int) (i : Nat) (s : List Nat) (hs : ∃ P, SetIs N s P) (hi : i < 1024) (B : Nat) (hB : 200000000 ≤ B) (hr0 : ∀ res : Option (List (List Nat) × List Int), res = none → True) :
    ∀ (d x : Nat) (row : List (List Nat)) (nx : List Int) (res : Option (List (List Nat) × List Int)), x + d = K.toNat → row[i]? = some s → row.length ≤ 1024 → (∀ s ∈ row, ∃ P, SetIs N s P) → nx.length ≤ 100000 + x →
      detIn q N (rowsOf N.toNat E) s ((List.range K.toNat).drop x) row nx = some res → (res = none → r = (0, 0, 0, 0, [], [], 3)) →
      (∀ row1 nx1, res = some (row1, nx1) → ∀ k, B ≤ k → tutorref17_Determine.l0 k (row1.map (bo N)) ((i + 1 : Nat) : Int) K N S F E 1 K 2 0 nx1 out = some r) →
      ∀ k, B + 3000 * d + 3000 ≤ k → tutorref17_Determine.l1 k (row.map (bo N)) (i : Int) (x : Int) K N S F E 1 K 2 0 nx out = some r := by
  intro d
  induction d with
  | zero =>
    intro x row nx res hx hsi hl hset hnx h hn hok k hk
    obtain ⟨k, rfl⟩ : ∃ m, k = m + 1 := ⟨k - 1, by omega⟩
    rw [List.drop_of_length_le (by simp; omega), detIn] at h
    have hK := R.k
    rw [tutorref17_Determine.l1, if_neg (by omega), w64q (by omega)]
    exact hok row nx (Option.some.inj h).symm k (by omega)
  | succ d ih =>
    intro x row nx res hx hsi hl hset hnx h hn hok k hk
    obtain ⟨k, rfl⟩ : ∃ m, k = m + 1 := ⟨k - 1, by omega⟩
    have hK := R.k
    have hN := R.n
    have hxl : x < (List.range K.toNat).length := by simp; omega
    have hil : i < row.length := (List.getElem?_eq_some_iff.1 hsi).1
    have hsr : row[i] = s := (List.getElem?_eq_some_iff.1 hsi).2
    rw [List.drop_eq_getElem_cons hxl, detIn, List.getElem_range] at h
    cases hst : stepF q N (rowsOf N.toNat E) s (x : Int) with
    | none => rw [hst] at h; cases h
    | some t =>
      rw [hst] at h
      simp only [] at h
      rw [if_pos (by omega)] at h
      obtain ⟨g1, g2⟩ := step_bo (k := k) R hq (by omega) hs hst
      rw [tutorref17_Determine.l1, if_pos (by omega), if_pos (by omega), if_pos (by simp; omega), L7q (by simpa using hil), List.getElem_map, hsr, g1, Option.bind_some, show ((0 : Int)) = ((0 : Nat) : Int) from rfl]
      refine det_l2 r 1 K 2 0 nx out i x row t hset g2 hN.2 hl (B + 3000 * d + 3000 + 2) (by omega) (fun k2 z hk2 => ?_) row.length k 0 (by omega) (fun q hq => by omega) (by omega)
      obtain ⟨k2, rfl⟩ : ∃ m, k2 = m + 1 := ⟨k2 - 1, by omega⟩
      rw [tutorref17_Determine.j4, if_neg (by simp)]
      unfold spot
      cases hf : row.findIdx? (· == t) with
      | some j =>
        rw [hf] at h
        simp only [] at h ⊢
        rw [if_neg (by omega), if_neg (by simp; omega), if_pos (by omega), w64q (by omega)]
        exact ih (x + 1) row _ res (by omega) hsi hl hset (by simp; omega) h hn hok k2 (by omega)
      | none =>
        rw [hf] at h
        simp only [] at h ⊢
        rw [if_pos (by omega), if_pos (by simp; omega), Option.bind_some]
        by_cases hfull : row.length = 1024
        · rw [if_pos hfull] at h
          rw [if_pos (by simp; omega), hn (Option.some.inj h).symm]
        · rw [if_neg hfull] at h
          rw [if_neg (by simp; omega), if_pos (by omega), w64q (by omega)]
          have hmp : row.map (bo N) ++ [bo N t] = (row ++ [t]).map (bo N) := by simp
          rw [hmp, List.length_map]
          refine ih (x + 1) (row ++ [t]) _ res (by omega) (get_app hsi _) (by simp; omega) (fun s' hs' => ?_) (by simp; omega) h hn hok k2 (by omega)
          rcases List.mem_append.1 hs' with hh | hh
          · exact hset s' hh
          · simp only [List.mem_singleton] at hh
            exact hh ▸ g2
open Classical in
set_option maxRecDepth 100000 in
theorem det_l0 (R : RightN K N S F E) {q : Nat} (hq : 4000 < q) (s0 : List Nat) (r : Int × Int × Int × Int × List Int × List Int × Int) :
    ∀ (d p i : Nat) (row : List (List Nat)) (nx out : List Int) (res : Option (List (List Nat) × List Int × List Int)), i + d = 1024 → d < p → Det q K N F (rowsOf N.toNat E) s0 i row nx out → detF q K N F (rowsOf N.toNat E) p i row nx out = some res →
      (res = none → r = (0, 0, 0, 0, [], [], 3)) → (∀ row1 nx1 out1, res = some (row1, nx1, out1) → r = (1, K, 2, (row1.length : Int), nx1, out1, 0)) →
      ∀ k, 300000000 + 300000 * d ≤ k → tutorref17_Determine.l0 k (row.map (bo N)) (i : Int) K N S F E 1 K 2 0 nx out = some r := by
  intro d
  induction d with
  | zero =>
    intro p i row nx out res hi hp D h hn hok k hk
    obtain ⟨k, rfl⟩ : ∃ m, k = m + 1 := ⟨k - 1, by omega⟩
    obtain ⟨p, rfl⟩ : ∃ m, p = m + 1 := ⟨p - 1, by omega⟩
    have := D.len
    rw [detF, if_neg (by omega)] at h
    rw [tutorref17_Determine.l0, if_neg (by simp; omega), hok row nx out (Option.some.inj h).symm]
    simp
  | succ d ih =>
    intro p i row nx out res hi hp D h hn hok k hk
    obtain ⟨k, rfl⟩ : ∃ m, k = m + 2 := ⟨k - 2, by omega⟩
    obtain ⟨p, rfl⟩ : ∃ m, p = m + 1 := ⟨p - 1, by omega⟩
    have hlen := D.len
    have hK := R.k
    rw [detF] at h
    by_cases hlt : i < row.length
    · have hgi : row[i]? = some row[i] := List.getElem?_eq_getElem hlt
      have hgd : row.getD i [] = row[i] := by rw [List.getD_eq_getElem?_getD, hgi]; rfl
      rw [if_pos hlt, if_pos (by rw [D.outl]; omega), hgd] at h
      obtain ⟨P, hP⟩ := D.sets row[i] (List.getElem_mem hlt)
      have hmul : i * K.toNat ≤ 1024 * 64 := Nat.mul_le_mul (by omega) (by omega)
      rw [tutorref17_Determine.l0, if_pos (by simp; omega), if_pos (by omega), L7q (by simpa using hlt), List.getElem_map, final_is R (by omega) (bo_is hP), Option.bind_some]
      have hj1 : ∀ y : Int, y = fiRow row[i] F 0 → tutorref17_Determine.j1 (k + 1) (row.map (bo N)) (i : Int) y K N S F E 1 K 2 0 nx out = some r := by
        intro y hy
        rw [tutorref17_Determine.j1, if_pos (by rw [D.outl]; omega), hy, show ((0 : Int)) = ((0 : Nat) : Int) from rfl]
        cases hin : detIn q N (rowsOf N.toNat E) row[i] (List.range K.toNat) row nx with
        | none => rw [hin] at h; cases h
        | some res1 =>
          rw [hin] at h
          have hsp := detIn_spec R hq (D.sets row[i] (List.getElem_mem hlt)) i (by omega) K.toNat 0 row nx (by omega) hgi D.nodup hlen.2 D.sets (by rw [D.nxl]; rfl) (fun y hy => by omega)
          rw [List.drop_zero, hin] at hsp
          refine det_l1 R hq r (out ++ [fiRow row[i] F 0]) i row[i] ⟨P, hP⟩ (by omega) (300000000 + 300000 * d) (Nat.le_trans (show 200000000 ≤ 300000000 by decide +kernel) (Nat.le_add_right _ _)) (fun _ _ => trivial) K.toNat 0 row nx res1 (by omega) hgi hlen.2 D.sets (by rw [D.nxl]; omega) (by rw [List.drop_zero]; exact hin) (fun he => ?_) (fun row1 nx1 he k2 hk2 => ?_) k (by omega)
          · subst he
            exact hn (Option.some.inj h).symm
          · subst he
            simp only [] at h
            rcases hsp with ⟨hc, _⟩ | ⟨row2, nx2, h1, h2, h3, h4, h5, h6, h7, h8⟩
            · cases hc
            · simp only [Option.some.injEq, Prod.mk.injEq] at h1
              obtain ⟨rfl, rfl⟩ := h1
              have hpl := h2.length_le
              have hget : ∀ {a : Nat} {s : List Nat}, row[a]? = some s → row1[a]? = some s := by
                intro a s hh
                obtain ⟨r', rfl⟩ := h2
                exact get_app hh r'
              have hgetn : ∀ {a : Nat} {z : Int}, nx[a]? = some z → nx1[a]? = some z := by
                intro a z hh
                obtain ⟨r', rfl⟩ := h3
                exact get_app hh r'
              have D1 : Det q K N F (rowsOf N.toNat E) s0 (i + 1) row1 nx1 (out ++ [fiRow row[i] F 0]) := by
                refine ⟨hget D.first, h6, h4, ⟨by omega, h5⟩, h7, by simp [D.outl], fun a x ha hx => ?_, fun a ha => ?_⟩
                · by_cases hai : a < i
                  · obtain ⟨s, t, n, e1, e2, e3, e4⟩ := D.next a x hai hx
                    exact ⟨s, t, n, hget e1, e2, hgetn e3, hget e4⟩
                  · obtain rfl : a = i := by omega
                    obtain ⟨t, n, e1, e2, e3⟩ := h8 x hx
                    exact ⟨row[a], t, n, hget hgi, e1, e2, e3⟩
                · by_cases hai : a < i
                  · obtain ⟨s, e1, e2⟩ := D.says a hai
                    exact ⟨s, hget e1, get_app e2 _⟩
                  · obtain rfl : a = i := by omega
                    have hc := List.getElem?_concat_length (l := out) (a := fiRow row[a] F 0)
                    rw [D.outl] at hc
                    exact ⟨row[a], hget hgi, hc⟩
              exact ih p (i + 1) row1 nx1 _ res (by omega) (by omega) D1 h hn hok k2 hk2
      rcases fi_is hP R.fl with ⟨e, hh⟩ | ⟨e, hh⟩
      · rw [decide_eq_true hh, if_pos rfl]
        exact hj1 1 e.symm
      · rw [decide_eq_false hh, if_neg (by simp)]
        exact hj1 0 e.symm
    · rw [if_neg hlt] at h
      rw [tutorref17_Determine.l0, if_neg (by simp; omega), hok row nx out (Option.some.inj h).symm]
      simp
/-- The reference's Determine answers as the program's. -/
theorem det_ref {q k : Nat} (hq : 5000 ≤ q) (hk : 1000000000 ≤ k) : ∃ r, detG q K N S F E = some r ∧ tutorref17_Determine.f k K N S F E = some r := by
  by_cases h1 : (nfa_Check.g K N S F E).2 = 0
  · have R := check_ok h1
    obtain ⟨s0, g1, g2⟩ := startF_is R (k := q) (by omega)
    obtain ⟨b0, e1, e2⟩ := start_is R (k := k) (by omega)
    have hb0 := is_bo g2 e2
    subst hb0
    have D0 : Det q K N F (rowsOf N.toNat E) s0 0 [s0] [] [] := det_start ⟨_, g2⟩
    unfold detG tutorref17_Determine.f
    rw [if_neg (by omega), g1, ref_check (by omega), Option.bind_some, if_pos h1, e1, Option.bind_some]
    simp only []
    have hs := detF_spec R (k := q) (by omega) s0 1024 q 0 [s0] [] [] (by omega) (by omega) D0
    cases hres : detF q K N F (rowsOf N.toNat E) q 0 [s0] [] [] with
    | none => rw [hres] at hs; rcases hs with ⟨h, _⟩ | ⟨_, _, _, h, _⟩ <;> cases h
    | some res =>
      cases res with
      | none => exact ⟨_, rfl, det_l0 R (by omega) s0 _ 1024 q 0 [s0] [] [] none (by omega) (by omega) D0 hres (fun _ => rfl) (fun _ _ _ h => by cases h) k (by omega)⟩
      | some z =>
        obtain ⟨row, nx, out⟩ := z
        exact ⟨_, rfl, det_l0 R (by omega) s0 _ 1024 q 0 [s0] [] [] _ (by omega) (by omega) D0 hres (fun h => by cases h) (fun _ _ _ h => by simp only [Option.some.injEq, Prod.mk.injEq] at h; obtain ⟨rfl, rfl, rfl⟩ := h; rfl) k (by omega)⟩
  · refine ⟨_, by unfold detG; rw [if_pos h1], ?_⟩
    unfold tutorref17_Determine.f
    rw [ref_check (by omega), Option.bind_some, if_neg h1]
end
end Go.Proofs.Ytkaefgmgcghhiaa.X
end

section
namespace Go.Proofs.Ytkaefgmgcghhiaa.X
open Go.RowKit Go.Proofs.YtkaefgmgcghhiaaW.PrintWords Go.Proofs.YtkaefgmgcghhiaaW.PrintLast Go.Proofs.YtkaefgmgcghhiaaW.PrintMore
/-- A right acceptor. -/
structure RightD (K N : Int) (nx out : List Int) : Prop where
  k : 1 ≤ K ∧ K ≤ 64
  n : 1 ≤ N ∧ N ≤ 1024
  nxl : nx.length = N.toNat * K.toNat
  outl : out.length = N.toNat
  nxr : ∀ x ∈ nx, 0 ≤ x ∧ x < N
  outr : ∀ x ∈ out, 0 ≤ x ∧ x < 2
theorem RightD.size {K N : Int} {nx out : List Int} (R : RightD K N nx out) : nx.length ≤ 65536 := by
  have h1 := R.k
  have h2 := R.n
  rw [R.nxl]
  exact Nat.mul_le_mul (show N.toNat ≤ 1024 by omega) (show K.toNat ≤ 64 by omega)
/-- A whole Determine is a right acceptor, and follows the sets. -/
theorem Det.right {K N : Int} {S F : List Int} {E : List S80} (RN : RightN K N S F E) {k : Nat} {fr : List (List S80)} {s0 : List Nat} {row : List (List Nat)} {nx out : List Int} (D : Det k K N F fr s0 row.length row nx out) : RightD K (row.length : Int) nx out := by
  have h1 := RN.k
  have hl := D.len
  have hpos : 0 < row.length := (List.getElem?_eq_some_iff.1 D.first).1
  refine ⟨h1, by omega, by rw [D.nxl]; simp, by rw [D.outl]; simp, fun x hx => ?_, fun x hx => ?_⟩
  · obtain ⟨j, hj⟩ := List.getElem?_of_mem hx
    have hjl := (List.getElem?_eq_some_iff.1 hj).1
    rw [D.nxl] at hjl
    have hd : j / K.toNat < row.length := Nat.div_lt_of_lt_mul (by rw [Nat.mul_comm]; exact hjl)
    obtain ⟨s, t, n, _, _, e3, e4⟩ := D.next (j / K.toNat) (j % K.toNat) hd (Nat.mod_lt _ (by omega))
    rw [Nat.mul_comm, Nat.div_add_mod, hj] at e3
    have := (List.getElem?_eq_some_iff.1 e4).1
    have e5 := Option.some.inj e3
    omega
  · obtain ⟨j, hj⟩ := List.getElem?_of_mem hx
    have hjl := (List.getElem?_eq_some_iff.1 hj).1
    rw [D.outl] at hjl
    obtain ⟨s, _, e2⟩ := D.says j hjl
    rw [hj] at e2
    have e5 := Option.some.inj e2
    rcases fiRow_is s F 0 with ⟨e, _⟩ | ⟨e, _⟩ <;> omega
/-- What Determine answers: the fault, too many sets, or a whole machine. -/
theorem detG_is {K N : Int} {S F : List Int} {E : List S80} {k : Nat} (hk : 5000 ≤ k) :
    ((nfa_Check.g K N S F E).2 ≠ 0 ∧ detG k K N S F E = some (0, 0, 0, 0, [], [], (nfa_Check.g K N S F E).2)) ∨
    (RightN K N S F E ∧ (nfa_Check.g K N S F E).2 = 0 ∧ ∃ s0, startF k N (rowsOf N.toNat E) S = some s0 ∧ SetIs N s0 (EC E (fun i => i ∈ S)) ∧
      ((detG k K N S F E = some (0, 0, 0, 0, [], [], 3) ∧ ∃ (row1 : List (List Nat)), row1.length = 1024 ∧ row1.Nodup ∧ (∀ s ∈ row1, ∃ P, SetIs N s P)) ∨
       ∃ row nx out, detG k K N S F E = some (1, K, 2, (row.length : Int), nx, out, 0) ∧ Det k K N F (rowsOf N.toNat E) s0 row.length row nx out)) := by
  by_cases h1 : (nfa_Check.g K N S F E).2 = 0
  · have R := check_ok h1
    obtain ⟨s0, g1, g2⟩ := startF_is R (k := k) (by omega)
    refine .inr ⟨R, h1, s0, g1, g2, ?_⟩
    unfold detG
    rw [if_neg (by omega), g1]
    simp only []
    rcases detF_spec R (k := k) (by omega) s0 1024 k 0 [s0] [] [] (by omega) (by omega) (det_start ⟨_, g2⟩) with ⟨h, row1, t, _, a, b, c, _⟩ | ⟨row, nx, out, h, _, D⟩
    · rw [h]
      exact .inl ⟨rfl, row1, a, b, c⟩
    · rw [h]
      exact .inr ⟨row, nx, out, rfl, D⟩
  · refine .inl ⟨h1, ?_⟩
    unfold detG
    rw [if_pos h1]
end Go.Proofs.Ytkaefgmgcghhiaa.X
end

section
namespace Go.Proofs.Ytkaefgmgcghhiaa.X
open Go.RowKit Go.Proofs.YtkaefgmgcghhiaaW.PrintWords Go.Proofs.YtkaefgmgcghhiaaW.PrintLast Go.Proofs.YtkaefgmgcghhiaaW.PrintMore
theorem big_f (K N : Int) (S F : List Int) (E : List S80) (m : Int) : tutorref17_Big.f K N S F E m = some (decide (N > m ∨ (F.length : Int) > 2000 ∨ (S.length : Int) > 200 ∨ (E.length : Int) > 400)) := by
  unfold tutorref17_Big.f
  by_cases h1 : N > m
  · rw [if_pos h1, decide_eq_true (.inl h1)]
  · by_cases h2 : (F.length : Int) > 2000
    · rw [if_neg h1, if_pos h2, decide_eq_true (.inr (.inl h2))]
    · by_cases h3 : (S.length : Int) > 200
      · rw [if_neg h1, if_neg h2, if_pos h3, decide_eq_true (.inr (.inr (.inl h3)))]
      · rw [if_neg h1, if_neg h2, if_neg h3]
        congr 1
        exact decide_eq_decide.2 ⟨fun h => .inr (.inr (.inr h)), fun h => by
          rcases h with h | h | h | h
          · exact absurd h h1
          · exact absurd h h2
          · exact absurd h h3
          · exact h⟩
set_option maxHeartbeats 8000000 in
set_option maxRecDepth 100000 in
theorem Determines_small (K N : Int) (A2 : Option Addr) (c2 : Nat) (S : List Int) (A3 : Option Addr) (c3 : Nat) (F : List Int) (A4 : Option Addr) (c4 : Nat) (E : List S80) (w : World)
    (hr2 : Kd.C (Kd.int .i64) w A2 S.length S) (hc2 : S.length ≤ c2) (hr3 : Kd.C (Kd.int .i64) w A3 F.length F) (hc3 : F.length ≤ c3) (hr4 : Kd.C k80 w A4 E.length E) (hc4 : E.length ≤ c4)
    (h : (decide (N > 9 ∨ (F.length : Int) > 2000 ∨ (S.length : Int) > 200 ∨ (E.length : Int) > 400) = true ∧ N ≤ 1024) ∨ decide (N > 1099511627776 ∨ (F.length : Int) > 2000 ∨ (S.length : Int) > 200 ∨ (E.length : Int) > 400) = true) :
    Calls Try.prog 5 #[.agg #[.int .i64 K, .int .i64 N, .slice A2 S.length c2, .slice A3 F.length c3, .slice A4 E.length c4]] w fun e w' => e = .returned (.bool true) ∧ Below w.heap.size w w' := by
  have hu25 := Try.underlying25
  have hb9 := fun (W : World) (hb : Below w.heap.size w W) => tutorref17_Big.calls K N A2 c2 S A3 c3 F A4 c4 E 9 _ W (Kd.C_below hr2 hb) hc2 (Kd.C_below hr3 hb) hc3 (Kd.C_below hr4 hb) hc4 (big_f K N S F E 9)
  have hb40 := fun (W : World) (hb : Below w.heap.size w W) => tutorref17_Big.calls K N A2 c2 S A3 c3 F A4 c4 E 1099511627776 _ W (Kd.C_below hr2 hb) hc2 (Kd.C_below hr3 hb) hc3 (Kd.C_below hr4 hb) hc4 (big_f K N S F E 1099511627776)
  have hlv := live_walk
  clear hr2 hr3 hr4 hc2 hc3 hc4
  generalize hq9 : decide (N > 9 ∨ (F.length : Int) > 2000 ∨ (S.length : Int) > 200 ∨ (E.length : Int) > 400) = b9 at hb9 h
  generalize hq40 : decide (N > 1099511627776 ∨ (F.length : Int) > 2000 ∨ (S.length : Int) > 200 ∨ (E.length : Int) > 400) = b40 at hb40 h
  clear hq9 hq40
  by_cases q : b9 = true ∧ N ≤ 1024
  · obtain ⟨rfl, hN⟩ := q
    clear h hb40
    go_enter Try.func5, Try.ntmps5
    go_wp2_with (first | (go_at_call 19; with_reducible refine (hb9 _ (below_alloc (Below.refl _ _) _)).mono ?_; rintro e w1 ⟨rfl, hb1⟩; have HB1 := Aside0.mk (below_step (below_alloc (Below.refl w.heap.size w) (.cells #[.int .i64 K, .int .i64 N, .slice A2 S.length c2, .slice A3 F.length c3, .slice A4 E.length c4] 25)) hb1); have hx1 : w1.cell? ⟨w.heap.size, 1, none⟩ = some (.int .i64 N) := (blk_cell (blk_below (blk_new w (.cells #[.int .i64 K, .int .i64 N, .slice A2 S.length c2, .slice A3 F.length c3, .slice A4 E.length c4] 25)) hb1) 1).trans rfl; clear hb1) | (go_at_call 13; refine (hlv _).mono ?_; rintro e w2 ⟨rfl, hb2⟩))
    go_ret
    exact ⟨rfl, below_then HB1.out HB1.out.size hb2⟩
  · have h40 : b40 = true := h.resolve_left q
    subst h40
    clear h
    by_cases hb : b9 = true
    · have hN : ¬ N ≤ 1024 := fun hh => q ⟨hb, hh⟩
      subst hb
      clear q
      go_enter Try.func5, Try.ntmps5
      go_wp2_with (first | (go_at_call 19; with_reducible refine (hb9 _ (below_alloc (Below.refl _ _) _)).mono ?_; rintro e w1 ⟨rfl, hb1⟩; have HB1 := Aside0.mk (below_step (below_alloc (Below.refl w.heap.size w) (.cells #[.int .i64 K, .int .i64 N, .slice A2 S.length c2, .slice A3 F.length c3, .slice A4 E.length c4] 25)) hb1); have hbx := blk_below (blk_new w (.cells #[.int .i64 K, .int .i64 N, .slice A2 S.length c2, .slice A3 F.length c3, .slice A4 E.length c4] 25)) hb1; have hx0 : w1.cell? ⟨w.heap.size, 0, none⟩ = some (.int .i64 K) := (blk_cell hbx 0).trans rfl; have hx1 : w1.cell? ⟨w.heap.size, 1, none⟩ = some (.int .i64 N) := (blk_cell hbx 1).trans rfl; have hx2 : w1.cell? ⟨w.heap.size, 2, none⟩ = some (.slice A2 S.length c2) := (blk_cell hbx 2).trans rfl; have hx3 : w1.cell? ⟨w.heap.size, 3, none⟩ = some (.slice A3 F.length c3) := (blk_cell hbx 3).trans rfl; have hx4 : w1.cell? ⟨w.heap.size, 4, none⟩ = some (.slice A4 E.length c4) := (blk_cell hbx 4).trans rfl; clear hb1 hbx) | (go_at_call 19; with_reducible refine (hb40 _ HB1.out).mono ?_; rintro e w3 ⟨rfl, hb3⟩; have HB3 := Aside0.mk (below_step HB1.out hb3); clear hb3) | (go_at_call 13; refine (hlv _).mono ?_; rintro e w2 ⟨rfl, hb2⟩))
      go_ret
      exact ⟨rfl, below_then HB3.out HB3.out.size hb2⟩
    · have hb' : b9 = false := by simpa using hb
      subst hb'
      clear q hb
      go_enter Try.func5, Try.ntmps5
      go_wp2_with (first | (go_at_call 19; with_reducible refine (hb9 _ (below_alloc (Below.refl _ _) _)).mono ?_; rintro e w1 ⟨rfl, hb1⟩; have HB1 := Aside0.mk (below_step (below_alloc (Below.refl w.heap.size w) (.cells #[.int .i64 K, .int .i64 N, .slice A2 S.length c2, .slice A3 F.length c3, .slice A4 E.length c4] 25)) hb1); have hbx := blk_below (blk_new w (.cells #[.int .i64 K, .int .i64 N, .slice A2 S.length c2, .slice A3 F.length c3, .slice A4 E.length c4] 25)) hb1; have hx0 : w1.cell? ⟨w.heap.size, 0, none⟩ = some (.int .i64 K) := (blk_cell hbx 0).trans rfl; have hx1 : w1.cell? ⟨w.heap.size, 1, none⟩ = some (.int .i64 N) := (blk_cell hbx 1).trans rfl; have hx2 : w1.cell? ⟨w.heap.size, 2, none⟩ = some (.slice A2 S.length c2) := (blk_cell hbx 2).trans rfl; have hx3 : w1.cell? ⟨w.heap.size, 3, none⟩ = some (.slice A3 F.length c3) := (blk_cell hbx 3).trans rfl; have hx4 : w1.cell? ⟨w.heap.size, 4, none⟩ = some (.slice A4 E.length c4) := (blk_cell hbx 4).trans rfl; clear hb1 hbx) | (go_at_call 19; with_reducible refine (hb40 _ HB1.out).mono ?_; rintro e w3 ⟨rfl, hb3⟩; have HB3 := Aside0.mk (below_step HB1.out hb3); clear hb3) | (go_at_call 13; refine (hlv _).mono ?_; rintro e w2 ⟨rfl, hb2⟩))
      go_ret
      exact ⟨rfl, below_then HB3.out HB3.out.size hb2⟩
theorem det_sizes (K N : Int) (S F : List Int) (E : List S80) : ∃ r1 r2 r3 r4 r5 r6 r7, detG big K N S F E = some (r1, r2, r3, r4, r5, r6, r7) ∧ tutorref17_Determine.f 1000000000 K N S F E = some (r1, r2, r3, r4, r5, r6, r7) ∧ r5.length ≤ 65536 ∧ r6.length ≤ 65536 := by
  obtain ⟨⟨r1, r2, r3, r4, r5, r6, r7⟩, h1, h2⟩ := det_ref (K := K) (N := N) (S := S) (F := F) (E := E) (q := big) (k := 1000000000) (by unfold big; omega) (by omega)
  refine ⟨r1, r2, r3, r4, r5, r6, r7, h1, h2, ?_⟩
  rcases detG_is (K := K) (N := N) (S := S) (F := F) (E := E) (k := big) (by unfold big; omega) with ⟨_, h⟩ | ⟨R, _, s0, _, _, ⟨h, _⟩ | ⟨row, nx, out, h, D⟩⟩
  · rw [h1] at h
    simp only [Option.some.injEq, Prod.mk.injEq] at h
    obtain ⟨_, _, _, _, rfl, rfl, _⟩ := h
    simp
  · rw [h1] at h
    simp only [Option.some.injEq, Prod.mk.injEq] at h
    obtain ⟨_, _, _, _, rfl, rfl, _⟩ := h
    simp
  · rw [h1] at h
    simp only [Option.some.injEq, Prod.mk.injEq] at h
    obtain ⟨_, _, _, _, rfl, rfl, _⟩ := h
    have hR := D.right R
    have h3 := hR.size
    have h4 := hR.outl
    have h5 := hR.n
    exact ⟨h3, by omega⟩
theorem same03_refl (a b c d : Int) {x y : List Int} (hx : x.length ≤ 65536) (hy : y.length ≤ 65536) : tutorref03_Same.f 100000 a b c d x y a b c d x y = some true := by
  unfold tutorref03_Same.f
  rw [if_pos rfl, if_pos rfl, if_pos rfl, if_pos rfl, same_f (by omega) (by omega), same_f (by omega) (by omega)]
  simp
theorem info25b : (Try.prog.info? 25).map (fun i => (i.zero, i.size)) = some (some (.agg #[.int .i64 0, .int .i64 0, .slice none 0 0, .slice none 0 0, .slice none 0 0]), 5) := by kernel_rfl
theorem apart_of {W : World} {base : Nat} {v5 v6 : Value} {r5 : List Int} (h5 : Kd.R (Kd.int .i64) 3 W base (fun k_ => some k_ ≠ (v6 : Value).ownBlock) v5 r5) : v5.ownBlock = none ∨ v5.ownBlock ≠ v6.ownBlock := by
  cases hq : v5.ownBlock with
  | none => exact .inl rfl
  | some b => exact .inr (h5.1 b hq)
theorem two_lists {w W : World} {v5 v6 : Value} {r5 r6 : List Int} {ok5 ok6 : Nat → Prop} (h5 : Kd.R (Kd.int .i64) 3 W w.heap.size ok5 v5 r5) (h6 : Kd.R (Kd.int .i64) 3 W w.heap.size ok6 v6 r6) (ha : v5.ownBlock = none ∨ v5.ownBlock ≠ v6.ownBlock) (hw : w.heap.size ≤ W.heap.size) :
    Lists (W.alloc (.cells #[v5, v6] 22)) w.heap.size W.heap.size [v5, v6] [r5, r6] := by
  refine ⟨blk_new W _, hw, rfl, fun j v l hv hl => ?_, fun i j v v' hij hv hv' => ?_⟩
  · match j, hv, hl with
    | 0, hv, hl =>
      simp only [List.getElem?_cons_zero, Option.some.injEq] at hv hl
      subst hv; subst hl
      exact World.ownsRow.alloc (OR_of_R h5) _
    | 1, hv, hl =>
      simp only [List.getElem?_cons_succ, List.getElem?_cons_zero, Option.some.injEq] at hv hl
      subst hv; subst hl
      exact World.ownsRow.alloc (OR_of_R h6) _
    | j + 2, hv, _ => simp at hv
  · match i, j, hij, hv, hv' with
    | 0, 0, hij, _, _ => exact absurd rfl hij
    | 0, 1, _, hv, hv' =>
      simp only [List.getElem?_cons_succ, List.getElem?_cons_zero, Option.some.injEq] at hv hv'
      subst hv; subst hv'
      exact ha
    | 1, 0, _, hv, hv' =>
      simp only [List.getElem?_cons_succ, List.getElem?_cons_zero, Option.some.injEq] at hv hv'
      subst hv; subst hv'
      rcases ha with h | h
      · cases hq : v6.ownBlock with
        | none => exact .inl rfl
        | some b => exact .inr (by rw [h]; simp)
      · exact .inr fun e => h e.symm
    | 1, 1, hij, _, _ => exact absurd rfl hij
    | i + 2, _, _, hv, _ => simp at hv
    | _, j + 2, _, _, hv' => simp at hv'
set_option maxHeartbeats 16000000 in
set_option maxRecDepth 100000 in
theorem Determines_main (K N : Int) (A2 : Option Addr) (c2 : Nat) (S : List Int) (A3 : Option Addr) (c3 : Nat) (F : List Int) (A4 : Option Addr) (c4 : Nat) (E : List S80) (w : World)
    (hr2 : Kd.C (Kd.int .i64) w A2 S.length S) (hc2 : S.length ≤ c2) (hr3 : Kd.C (Kd.int .i64) w A3 F.length F) (hc3 : F.length ≤ c3) (hr4 : Kd.C k80 w A4 E.length E) (hc4 : E.length ≤ c4)
    (b9 : Bool) (h9 : decide (N > 9 ∨ (F.length : Int) > 2000 ∨ (S.length : Int) > 200 ∨ (E.length : Int) > 400) = b9) (hN : b9 = false ∨ (b9 = true ∧ ¬ N ≤ 1024)) (h40 : decide (N > 1099511627776 ∨ (F.length : Int) > 2000 ∨ (S.length : Int) > 200 ∨ (E.length : Int) > 400) = false) :
    Calls Try.prog 5 #[.agg #[.int .i64 K, .int .i64 N, .slice A2 S.length c2, .slice A3 F.length c3, .slice A4 E.length c4]] w fun e w' => e = .returned (.bool true) ∧ Below w.heap.size w w' := by
  have hu25 := Try.underlying25
  have hu43 := Try.underlying43
  have hu50 := Try.underlying50
  have hb9 := fun (W : World) (hb : Below w.heap.size w W) => tutorref17_Big.calls K N A2 c2 S A3 c3 F A4 c4 E 9 _ W (Kd.C_below hr2 hb) hc2 (Kd.C_below hr3 hb) hc3 (Kd.C_below hr4 hb) hc4 (big_f K N S F E 9)
  have hb40 := fun (W : World) (hb : Below w.heap.size w W) => tutorref17_Big.calls K N A2 c2 S A3 c3 F A4 c4 E 1099511627776 _ W (Kd.C_below hr2 hb) hc2 (Kd.C_below hr3 hb) hc3 (Kd.C_below hr4 hb) hc4 (big_f K N S F E 1099511627776)
  rw [h9] at hb9
  rw [h40] at hb40
  have hsz : (F.length : Int) ≤ 2000 ∧ (S.length : Int) ≤ 200 ∧ (E.length : Int) ≤ 400 := by
    have := of_decide_eq_false h40
    omega
  have hlv := live_walk
  have hcp := fun (W : World) (hb : Below w.heap.size w W) => tutorref17_Copy.calls K N A2 c2 S A3 c3 F A4 c4 E K N S F E W (Kd.C_below hr2 hb) hc2 (Kd.C_below hr3 hb) hc3 (Kd.C_below hr4 hb) hc4 (copy_f (by omega) (by omega) (by omega))
  obtain ⟨r1, r2, r3, r4, r5, r6, r7, hdp, hdr, hl5, hl6⟩ := det_sizes K N S F E
  have hrd := fun (W : World) (hb : Below w.heap.size w W) => tutorref17_Determine.calls 1000000000 K N A2 c2 S A3 c3 F A4 c4 E r1 r2 r3 r4 r5 r6 r7 W (Kd.C_below hr2 hb) hc2 (Kd.C_below hr3 hb) hc3 (Kd.C_below hr4 hb) hc4 hdr
  have hms := same03_refl r1 r2 r3 r4 hl5 hl6
  have hrs := same17_refl (K := K) (N := N) (S := S) (F := F) (E := E) (k := 200000) (by omega) (by omega) (by omega) (by omega)
  have HSZ := Aside0.mk hsz
  have HC := Aside0.mk (And.intro hr2 (And.intro hc2 (And.intro hr3 (And.intro hc3 (And.intro hr4 hc4)))))
  have HDP := Aside0.mk hdp
  have HMS := Aside0.mk hms
  have HRS := Aside0.mk hrs
  have HL := Aside0.mk (And.intro hl5 hl6)
  clear hr2 hr3 hr4 hc2 hc3 hc4 h9 h40 hsz hdp hdr hms hrs hl5 hl6
  obtain ⟨z25, i25⟩ := zero_of_info info25b
  obtain ⟨z43, i43⟩ := zero_of_info info43
  rcases hN with rfl | ⟨rfl, hNN⟩
  all_goals
    go_enter Try.func5, Try.ntmps5
    go_wp2_with (first
      | (go_at_call 19; with_reducible refine (hb9 _ (below_alloc (Below.refl _ _) _)).mono ?_
         rintro e w1 ⟨rfl, hb1⟩
         have HB1 := Aside0.mk (below_step (below_alloc (Below.refl w.heap.size w) (.cells #[.int .i64 K, .int .i64 N, .slice A2 S.length c2, .slice A3 F.length c3, .slice A4 E.length c4] 25)) hb1)
         have hbx := blk_below (blk_new w (.cells #[.int .i64 K, .int .i64 N, .slice A2 S.length c2, .slice A3 F.length c3, .slice A4 E.length c4] 25)) hb1
         have HX1 := Aside0.mk hbx
         have hx0 : w1.cell? ⟨w.heap.size, 0, none⟩ = some (.int .i64 K) := (blk_cell hbx 0).trans rfl
         have hx1 : w1.cell? ⟨w.heap.size, 1, none⟩ = some (.int .i64 N) := (blk_cell hbx 1).trans rfl
         have hx2 : w1.cell? ⟨w.heap.size, 2, none⟩ = some (.slice A2 S.length c2) := (blk_cell hbx 2).trans rfl
         have hx3 : w1.cell? ⟨w.heap.size, 3, none⟩ = some (.slice A3 F.length c3) := (blk_cell hbx 3).trans rfl
         have hx4 : w1.cell? ⟨w.heap.size, 4, none⟩ = some (.slice A4 E.length c4) := (blk_cell hbx 4).trans rfl
         clear hb1 hbx)
      | (go_at_call 19; with_reducible refine (hb40 _ HB1.out).mono ?_
         rintro e w3 ⟨rfl, hb3⟩
         have HB3 := Aside0.mk (below_step HB1.out hb3)
         have hbx := blk_below HX1.out hb3
         have HX3 := Aside0.mk hbx
         clear hx0 hx1 hx2 hx3 hx4
         have hx0 : w3.cell? ⟨w.heap.size, 0, none⟩ = some (.int .i64 K) := (blk_cell hbx 0).trans rfl
         have hx1 : w3.cell? ⟨w.heap.size, 1, none⟩ = some (.int .i64 N) := (blk_cell hbx 1).trans rfl
         have hx2 : w3.cell? ⟨w.heap.size, 2, none⟩ = some (.slice A2 S.length c2) := (blk_cell hbx 2).trans rfl
         have hx3 : w3.cell? ⟨w.heap.size, 3, none⟩ = some (.slice A3 F.length c3) := (blk_cell hbx 3).trans rfl
         have hx4 : w3.cell? ⟨w.heap.size, 4, none⟩ = some (.slice A4 E.length c4) := (blk_cell hbx 4).trans rfl
         clear hb3 hbx)
      | (go_at_call 14; with_reducible refine (hcp _ HB3.out).mono ?_
         rintro e w4 ⟨v2, v3, v4, rfl, hR2, hR3, hR4, hb4⟩
         have HB4 := Aside0.mk (below_step HB3.out hb4)
         have HX4 := Aside0.mk (blk_below HX3.out hb4)
         obtain ⟨Q2, d2, rfl, hd2, hC2⟩ := Kd.R_reads hR2
         obtain ⟨Q3, d3, rfl, hd3, hC3⟩ := Kd.R_reads hR3
         obtain ⟨Q4, d4, rfl, hd4, hC4⟩ := Kd.R_reads hR4
         have HQ := Aside0.mk (And.intro hC2 (And.intro hd2 (And.intro hC3 (And.intro hd3 (And.intro hC4 hd4)))))
         clear hb4 hR2 hR3 hR4 hC2 hC3 hC4 hd2 hd3 hd4 hx0 hx1 hx2 hx3 hx4)
      | ((with_reducible refine gate_store (t := 25) (p := 3) rfl ?_)
         refine wpList_store_rowTo rfl 25 (.tmp 3) (.tmp 20) rfl rfl w4.heap.size #[.int .i64 K, .int .i64 N, .slice Q2 S.length d2, .slice Q3 F.length d3, .slice Q4 E.length d4] rfl rfl 25 _ (blk_new w4 _) ?_ ?_ (by simp [Value.oneCell']) ?_
         (focus (rw [i25]; rfl))
         (focus rfl)
         rw [World.setRow_alloc_new]
         have HB5 := Aside0.mk (below_alloc HB4.out (.cells #[.int .i64 K, .int .i64 N, .slice Q2 S.length d2, .slice Q3 F.length d3, .slice Q4 E.length d4] 25))
         have HX5 := Aside0.mk (blk_alloc HX4.out (.cells #[.int .i64 K, .int .i64 N, .slice Q2 S.length d2, .slice Q3 F.length d3, .slice Q4 E.length d4] 25))
         have HY5 := Aside0.mk (blk_new w4 (.cells #[.int .i64 K, .int .i64 N, .slice Q2 S.length d2, .slice Q3 F.length d3, .slice Q4 E.length d4] 25))
         have HK5 := Aside0.mk (below_alloc (Below.refl w4.heap.size w4) (.cells #[.int .i64 K, .int .i64 N, .slice Q2 S.length d2, .slice Q3 F.length d3, .slice Q4 E.length d4] 25))
         generalize w4.alloc (.cells #[.int .i64 K, .int .i64 N, .slice Q2 S.length d2, .slice Q3 F.length d3, .slice Q4 E.length d4] 25) = w5 at HB5 HX5 HY5 HK5 ⊢
         have hdt := (fun (W : World) (hb : Below w4.heap.size w4 W) => nfa_Determine.calls K N Q2 d2 S Q3 d3 F Q4 d4 E r1 r2 r3 r4 r5 r6 r7 W (Kd.C_below HQ.out.1 hb) HQ.out.2.1 (Kd.C_below HQ.out.2.2.1 hb) HQ.out.2.2.2.1 (Kd.C_below HQ.out.2.2.2.2.1 hb) HQ.out.2.2.2.2.2 HDP.out) _ HK5.out
         have hz0 : w5.cell? ⟨w4.heap.size, 0, none⟩ = some (.int .i64 K) := (blk_cell HY5.out 0).trans rfl
         have hz1 : w5.cell? ⟨w4.heap.size, 1, none⟩ = some (.int .i64 N) := (blk_cell HY5.out 1).trans rfl
         have hz2 : w5.cell? ⟨w4.heap.size, 2, none⟩ = some (.slice Q2 S.length d2) := (blk_cell HY5.out 2).trans rfl
         have hz3 : w5.cell? ⟨w4.heap.size, 3, none⟩ = some (.slice Q3 F.length d3) := (blk_cell HY5.out 3).trans rfl
         have hz4 : w5.cell? ⟨w4.heap.size, 4, none⟩ = some (.slice Q4 E.length d4) := (blk_cell HY5.out 4).trans rfl)
      | (go_at_call 22; with_reducible refine hdt.mono ?_
         rintro e w6 ⟨v5, v6, rfl, hR5, hR6, hb6⟩
         have HB6 := Aside0.mk (below_step HB5.out hb6)
         have HK6 := Aside0.mk (below_step HK5.out hb6)
         have HX6 := Aside0.mk (blk_below HX5.out hb6)
         have HY6 := Aside0.mk (blk_below HY5.out hb6)
         obtain ⟨P5, e5, rfl⟩ := Kd.R_slice hR5
         obtain ⟨P6, e6, rfl⟩ := Kd.R_slice hR6
         have HR6 := Aside0.mk (And.intro hR5 hR6)
         clear hb6 hR5 hR6 hdt hz0 hz1 hz2 hz3 hz4)
      | ((with_reducible refine gate_store (t := 43) (p := 4) rfl ?_)
         refine wpList_store_rowTo rfl 43 (.tmp 4) (.tmp 24) rfl rfl w6.heap.size #[.int .i64 r1, .int .i64 r2, .int .i64 r3, .int .i64 r4, .slice P5 r5.length e5, .slice P6 r6.length e6] rfl rfl 43 _ (blk_new w6 _) ?_ ?_ (by simp [Value.oneCell']) ?_
         (focus (rw [i43]; rfl))
         (focus rfl)
         rw [World.setRow_alloc_new]
         have HB7 := Aside0.mk (below_alloc HB6.out (.cells #[.int .i64 r1, .int .i64 r2, .int .i64 r3, .int .i64 r4, .slice P5 r5.length e5, .slice P6 r6.length e6] 43))
         have HK7 := Aside0.mk (below_alloc HK6.out (.cells #[.int .i64 r1, .int .i64 r2, .int .i64 r3, .int .i64 r4, .slice P5 r5.length e5, .slice P6 r6.length e6] 43))
         have HX7 := Aside0.mk (blk_alloc HX6.out (.cells #[.int .i64 r1, .int .i64 r2, .int .i64 r3, .int .i64 r4, .slice P5 r5.length e5, .slice P6 r6.length e6] 43))
         have HY7 := Aside0.mk (blk_alloc HY6.out (.cells #[.int .i64 r1, .int .i64 r2, .int .i64 r3, .int .i64 r4, .slice P5 r5.length e5, .slice P6 r6.length e6] 43))
         have HZ7 := Aside0.mk (blk_new w6 (.cells #[.int .i64 r1, .int .i64 r2, .int .i64 r3, .int .i64 r4, .slice P5 r5.length e5, .slice P6 r6.length e6] 43))
         have HL7 := Aside0.mk (below_alloc (Below.refl w6.heap.size w6) (.cells #[.int .i64 r1, .int .i64 r2, .int .i64 r3, .int .i64 r4, .slice P5 r5.length e5, .slice P6 r6.length e6] 43))
         generalize w6.alloc (.cells #[.int .i64 r1, .int .i64 r2, .int .i64 r3, .int .i64 r4, .slice P5 r5.length e5, .slice P6 r6.length e6] 43) = w7 at HB7 HK7 HX7 HY7 HZ7 HL7 ⊢
         have hx0 : w7.cell? ⟨w.heap.size, 0, none⟩ = some (.int .i64 K) := (blk_cell HX7.out 0).trans rfl
         have hx1 : w7.cell? ⟨w.heap.size, 1, none⟩ = some (.int .i64 N) := (blk_cell HX7.out 1).trans rfl
         have hx2 : w7.cell? ⟨w.heap.size, 2, none⟩ = some (.slice A2 S.length c2) := (blk_cell HX7.out 2).trans rfl
         have hx3 : w7.cell? ⟨w.heap.size, 3, none⟩ = some (.slice A3 F.length c3) := (blk_cell HX7.out 3).trans rfl
         have hx4 : w7.cell? ⟨w.heap.size, 4, none⟩ = some (.slice A4 E.length c4) := (blk_cell HX7.out 4).trans rfl)
      | (go_at_call 23; with_reducible refine (hrd _ HB7.out).mono ?_
         rintro e w8 ⟨v7, v8, rfl, hR7, hR8, hb8⟩
         have HB8 := Aside0.mk (below_step HB7.out hb8)
         have HK8 := Aside0.mk (below_step HK7.out hb8)
         have HL8 := Aside0.mk (below_step HL7.out hb8)
         have HX8 := Aside0.mk (blk_below HX7.out hb8)
         have HY8 := Aside0.mk (blk_below HY7.out hb8)
         have HZ8 := Aside0.mk (blk_below HZ7.out hb8)
         obtain ⟨T5, f5, rfl, hf5, hC7⟩ := Kd.R_reads hR7
         obtain ⟨T6, f6, rfl, hf6, hC8⟩ := Kd.R_reads hR8
         have HR8 := Aside0.mk (And.intro hC7 (And.intro hf5 (And.intro hC8 hf6)))
         clear hb8 hR7 hR8 hC7 hC8 hf5 hf6 hx0 hx1 hx2 hx3 hx4)
      | ((with_reducible refine gate_store (t := 43) (p := 6) rfl ?_)
         refine wpList_store_rowTo rfl 43 (.tmp 6) (.tmp 29) rfl rfl w8.heap.size #[.int .i64 r1, .int .i64 r2, .int .i64 r3, .int .i64 r4, .slice T5 r5.length f5, .slice T6 r6.length f6] rfl rfl 43 _ (blk_new w8 _) ?_ ?_ (by simp [Value.oneCell']) ?_
         (focus (rw [i43]; rfl))
         (focus rfl)
         rw [World.setRow_alloc_new]
         have HB9 := Aside0.mk (below_alloc HB8.out (.cells #[.int .i64 r1, .int .i64 r2, .int .i64 r3, .int .i64 r4, .slice T5 r5.length f5, .slice T6 r6.length f6] 43))
         have HK9 := Aside0.mk (below_alloc HK8.out (.cells #[.int .i64 r1, .int .i64 r2, .int .i64 r3, .int .i64 r4, .slice T5 r5.length f5, .slice T6 r6.length f6] 43))
         have HL9 := Aside0.mk (below_alloc HL8.out (.cells #[.int .i64 r1, .int .i64 r2, .int .i64 r3, .int .i64 r4, .slice T5 r5.length f5, .slice T6 r6.length f6] 43))
         have HN9 := Aside0.mk (below_alloc (Below.refl w8.heap.size w8) (.cells #[.int .i64 r1, .int .i64 r2, .int .i64 r3, .int .i64 r4, .slice T5 r5.length f5, .slice T6 r6.length f6] 43))
         have HX9 := Aside0.mk (blk_alloc HX8.out (.cells #[.int .i64 r1, .int .i64 r2, .int .i64 r3, .int .i64 r4, .slice T5 r5.length f5, .slice T6 r6.length f6] 43))
         have HY9 := Aside0.mk (blk_alloc HY8.out (.cells #[.int .i64 r1, .int .i64 r2, .int .i64 r3, .int .i64 r4, .slice T5 r5.length f5, .slice T6 r6.length f6] 43))
         have HZ9 := Aside0.mk (blk_alloc HZ8.out (.cells #[.int .i64 r1, .int .i64 r2, .int .i64 r3, .int .i64 r4, .slice T5 r5.length f5, .slice T6 r6.length f6] 43))
         have hbx := blk_new w8 (.cells #[.int .i64 r1, .int .i64 r2, .int .i64 r3, .int .i64 r4, .slice T5 r5.length f5, .slice T6 r6.length f6] 43)
         generalize w8.alloc (.cells #[.int .i64 r1, .int .i64 r2, .int .i64 r3, .int .i64 r4, .slice T5 r5.length f5, .slice T6 r6.length f6] 43) = w9 at HB9 HK9 HL9 HN9 HX9 HY9 HZ9 hbx ⊢
         have hbz := HZ9.out
         have hm0 : w9.cell? ⟨w6.heap.size, 0, none⟩ = some (.int .i64 r1) := (blk_cell hbz 0).trans rfl
         have hm1 : w9.cell? ⟨w6.heap.size, 1, none⟩ = some (.int .i64 r2) := (blk_cell hbz 1).trans rfl
         have hm2 : w9.cell? ⟨w6.heap.size, 2, none⟩ = some (.int .i64 r3) := (blk_cell hbz 2).trans rfl
         have hm3 : w9.cell? ⟨w6.heap.size, 3, none⟩ = some (.int .i64 r4) := (blk_cell hbz 3).trans rfl
         have hm4 : w9.cell? ⟨w6.heap.size, 4, none⟩ = some (.slice P5 r5.length e5) := (blk_cell hbz 4).trans rfl
         have hm5 : w9.cell? ⟨w6.heap.size, 5, none⟩ = some (.slice P6 r6.length e6) := (blk_cell hbz 5).trans rfl
         have hn0 : w9.cell? ⟨w8.heap.size, 0, none⟩ = some (.int .i64 r1) := (blk_cell hbx 0).trans rfl
         have hn1 : w9.cell? ⟨w8.heap.size, 1, none⟩ = some (.int .i64 r2) := (blk_cell hbx 1).trans rfl
         have hn2 : w9.cell? ⟨w8.heap.size, 2, none⟩ = some (.int .i64 r3) := (blk_cell hbx 2).trans rfl
         have hn3 : w9.cell? ⟨w8.heap.size, 3, none⟩ = some (.int .i64 r4) := (blk_cell hbx 3).trans rfl
         have hn4 : w9.cell? ⟨w8.heap.size, 4, none⟩ = some (.slice T5 r5.length f5) := (blk_cell hbx 4).trans rfl
         have hn5 : w9.cell? ⟨w8.heap.size, 5, none⟩ = some (.slice T6 r6.length f6) := (blk_cell hbx 5).trans rfl
         have h24 := tutorref03_Same.calls 100000 r1 r2 r3 r4 P5 e5 r5 P6 e6 r6 r1 r2 r3 r4 T5 f5 r5 T6 f6 r6 true w9 (Kd.C_below (Kd.R_reads' HR6.out.1).2.2 HL9.out) (Kd.R_reads' HR6.out.1).2.1 (Kd.C_below (Kd.R_reads' HR6.out.2).2.2 HL9.out) (Kd.R_reads' HR6.out.2).2.1 (Kd.C_below HR8.out.1 HN9.out) HR8.out.2.1 (Kd.C_below HR8.out.2.2.1 HN9.out) HR8.out.2.2.2 HMS.out
         clear hbx hbz)
      | (go_at_call 24; with_reducible refine h24.mono ?_
         rintro e w10 ⟨rfl, hb10⟩
         have HB10 := Aside0.mk (below_step HB9.out hb10)
         have HK10 := Aside0.mk (below_step HK9.out hb10)
         have HL10 := Aside0.mk (below_step HL9.out hb10)
         have HX10 := Aside0.mk (blk_below HX9.out hb10)
         have HY10 := Aside0.mk (blk_below HY9.out hb10)
         have HZ10 := Aside0.mk (blk_below HZ9.out hb10)
         clear hb10 h24 hm0 hm1 hm2 hm3 hm4 hm5 hn0 hn1 hn2 hn3 hn4 hn5)
      | (go_at_call 17; with_reducible refine (tutorlaw17_num.calls r7 r7 _ rfl).mono ?_
         rintro e w11 ⟨rfl, hd11⟩
         have HB11 := Aside0.mk (below_step HB10.out hd11.below)
         have HK11 := Aside0.mk (below_step HK10.out hd11.below)
         have HL11 := Aside0.mk (below_step HL10.out hd11.below)
         have hbx := blk_below HX10.out hd11.below
         have hby := blk_below HY10.out hd11.below
         have HZ11 := Aside0.mk (blk_below HZ10.out hd11.below)
         have hx0 : w11.cell? ⟨w.heap.size, 0, none⟩ = some (.int .i64 K) := (blk_cell hbx 0).trans rfl
         have hx1 : w11.cell? ⟨w.heap.size, 1, none⟩ = some (.int .i64 N) := (blk_cell hbx 1).trans rfl
         have hx2 : w11.cell? ⟨w.heap.size, 2, none⟩ = some (.slice A2 S.length c2) := (blk_cell hbx 2).trans rfl
         have hx3 : w11.cell? ⟨w.heap.size, 3, none⟩ = some (.slice A3 F.length c3) := (blk_cell hbx 3).trans rfl
         have hx4 : w11.cell? ⟨w.heap.size, 4, none⟩ = some (.slice A4 E.length c4) := (blk_cell hbx 4).trans rfl
         have hz0 : w11.cell? ⟨w4.heap.size, 0, none⟩ = some (.int .i64 K) := (blk_cell hby 0).trans rfl
         have hz1 : w11.cell? ⟨w4.heap.size, 1, none⟩ = some (.int .i64 N) := (blk_cell hby 1).trans rfl
         have hz2 : w11.cell? ⟨w4.heap.size, 2, none⟩ = some (.slice Q2 S.length d2) := (blk_cell hby 2).trans rfl
         have hz3 : w11.cell? ⟨w4.heap.size, 3, none⟩ = some (.slice Q3 F.length d3) := (blk_cell hby 3).trans rfl
         have hz4 : w11.cell? ⟨w4.heap.size, 4, none⟩ = some (.slice Q4 E.length d4) := (blk_cell hby 4).trans rfl
         have h18 := tutorref17_Same.calls 200000 K N A2 c2 S A3 c3 F A4 c4 E K N Q2 d2 S Q3 d3 F Q4 d4 E true w11 (Kd.C_below HC.out.1 HB11.out) HC.out.2.1 (Kd.C_below HC.out.2.2.1 HB11.out) HC.out.2.2.2.1 (Kd.C_below HC.out.2.2.2.2.1 HB11.out) HC.out.2.2.2.2.2 (Kd.C_below HQ.out.1 HK11.out) HQ.out.2.1 (Kd.C_below HQ.out.2.2.1 HK11.out) HQ.out.2.2.2.1 (Kd.C_below HQ.out.2.2.2.2.1 HK11.out) HQ.out.2.2.2.2.2 HRS.out
         clear hd11 hbx hby)
      | (go_at_call 18; with_reducible refine h18.mono ?_
         rintro e w12 ⟨rfl, hb12⟩
         have HB12 := Aside0.mk (below_step HB11.out hb12)
         have HL12 := Aside0.mk (below_step HL11.out hb12)
         have hbz := blk_below HZ11.out hb12
         have hm4 : w12.cell? ⟨w6.heap.size, 4, none⟩ = some (.slice P5 r5.length e5) := (blk_cell hbz 4).trans rfl
         have hm5 : w12.cell? ⟨w6.heap.size, 5, none⟩ = some (.slice P6 r6.length e6) := (blk_cell hbz 5).trans rfl
         have hap := Apart_walk w.heap.size w12.heap.size 2 2 [.slice P5 r5.length e5, .slice P6 r6.length e6] [r5, r6] (w12.alloc (.cells #[.slice P5 r5.length e5, .slice P6 r6.length e6] 22)) (two_lists (Kd.R_below (Kd.R_lower HR6.out.1 HB5.out.size) HL12.out) (Kd.R_below (Kd.R_lower HR6.out.2 HB5.out.size) HL12.out) (apart_of HR6.out.1) HB12.out.size) rfl (by omega) (by have := HL.out; intro l hl; simp only [List.mem_cons, List.not_mem_nil, or_false] at hl; rcases hl with rfl | rfl <;> omega) (by have := HB12.out.size; simp; omega)
         clear hb12 h18 hbz hx0 hx1 hx2 hx3 hx4 hz0 hz1 hz2 hz3 hz4)
      | (go_at_call 25; with_reducible refine hap.mono ?_
         rintro e w13 ⟨rfl, hb13⟩
         have HB13 := Aside0.mk (hb13)
         clear hb13 hap hm4 hm5)
      | (go_at_call 13; with_reducible refine (hlv _).mono ?_
         rintro e w14 ⟨rfl, hb14⟩))
    go_ret
    exact ⟨rfl, below_then (below_weaken (below_alloc HB12.out _) (Nat.le_refl _) HB13.out) (Nat.le_trans HB12.out.size (Nat.le_trans (by simp) HB13.out.size)) hb14⟩
theorem tutorlaw17_NfaDetermines.calls (K N : Int) (A2 : Option Addr) (c2 : Nat) (S : List Int) (A3 : Option Addr) (c3 : Nat) (F : List Int) (A4 : Option Addr) (c4 : Nat) (E : List S80) (r : Bool) (w : World)
    (hr2 : Kd.C (Kd.int .i64) w A2 S.length S) (hc2 : S.length ≤ c2) (hr3 : Kd.C (Kd.int .i64) w A3 F.length F) (hc3 : F.length ≤ c3) (hr4 : Kd.C k80 w A4 E.length E) (hc4 : E.length ≤ c4) (h : r = true) :
    Calls Try.prog 5 #[.agg #[.int .i64 K, .int .i64 N, .slice A2 S.length c2, .slice A3 F.length c3, .slice A4 E.length c4]] w fun e w' => e = .returned (.bool r) ∧ Below w.heap.size w w' := by
  subst h
  by_cases q : (decide (N > 9 ∨ (F.length : Int) > 2000 ∨ (S.length : Int) > 200 ∨ (E.length : Int) > 400) = true ∧ N ≤ 1024) ∨ decide (N > 1099511627776 ∨ (F.length : Int) > 2000 ∨ (S.length : Int) > 200 ∨ (E.length : Int) > 400) = true
  · exact Determines_small K N A2 c2 S A3 c3 F A4 c4 E w hr2 hc2 hr3 hc3 hr4 hc4 q
  · have h40 : decide (N > 1099511627776 ∨ (F.length : Int) > 2000 ∨ (S.length : Int) > 200 ∨ (E.length : Int) > 400) = false := by
      cases hb : decide (N > 1099511627776 ∨ (F.length : Int) > 2000 ∨ (S.length : Int) > 200 ∨ (E.length : Int) > 400) with
      | false => rfl
      | true => exact absurd (.inr hb) q
    refine Determines_main K N A2 c2 S A3 c3 F A4 c4 E w hr2 hc2 hr3 hc3 hr4 hc4 _ rfl ?_ h40
    by_cases h9 : decide (N > 9 ∨ (F.length : Int) > 2000 ∨ (S.length : Int) > 200 ∨ (E.length : Int) > 400) = true
    · exact .inr ⟨h9, fun hh => q (.inl ⟨h9, hh⟩)⟩
    · exact .inl (by simpa using h9)
end Go.Proofs.Ytkaefgmgcghhiaa.X
end
