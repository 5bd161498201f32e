/- Texts of the statement NfaSays, one behind the other: Go functions as Lean functions, the machine's calls, the plain law. -/
import Derived.Test.YtkaefgmgcghhiaaMNfaSays4
import Derived.Test.YtkaefgmgcghhiaaMNfaSays5
import Derived.Test.YtkaefgmgcghhiaaMNfaSays6
import Derived.Test.YtkaefgmgcghhiaaMNfaSays11
import Derived.Test.YtkaefgmgcghhiaaMNfaSays12
import Derived.Carry
set_option linter.unusedVariables false
set_option linter.unusedSimpArgs false
section
namespace Go.Proofs.Ytkaefgmgcghhiaa.X
open Go.RowKit Go.Proofs.YtkaefgmgcghhiaaW.PrintWords Go.Proofs.YtkaefgmgcghhiaaW.PrintLast Go.Proofs.YtkaefgmgcghhiaaW.PrintMore
def detIn (k : Nat) (N : Int) (fr : List (List S80)) (s : List Nat) : List Nat → List (List Nat) → List Int → Option (Option (List (List Nat) × List Int))
  | [], row, nx => some (some (row, nx))
  | x :: r, row, nx => match stepF k N fr s (x : Int) with
    | none => none
    | some t => if nx.length < 1099511627776 then (match row.findIdx? (· == t) with
      | some j => detIn k N fr s r row (nx ++ [(j : Int)])
      | none => if row.length = 1024 then some none else detIn k N fr s r (row ++ [t]) (nx ++ [(row.length : Int)])) else none
def detF (k : Nat) (K N : Int) (F : List Int) (fr : List (List S80)) : Nat → Nat → List (List Nat) → List Int → List Int → Option (Option (List (List Nat) × List Int × List Int))
  | 0, _, _, _, _ => none
  | q + 1, i, row, nx, out => if i < row.length then (if out.length < 1099511627776 then (match detIn k N fr (row.getD i []) (List.range K.toNat) row nx with
    | none => none
    | some none => some none
    | some (some (row1, nx1)) => detF k K N F fr q (i + 1) row1 nx1 (out ++ [fiRow (row.getD i []) F 0])) else none) else some (some (row, nx, out))
def detG (k : Nat) (K N : Int) (S F : List Int) (E : List S80) : Option (Int × Int × Int × Int × List Int × List Int × Int) :=
  if (nfa_Check.g K N S F E).2 ≠ 0 then some (0, 0, 0, 0, [], [], (nfa_Check.g K N S F E).2) else
  match startF k N (rowsOf N.toNat E) S with
  | none => none
  | some s => match detF k K N F (rowsOf N.toNat E) k 0 [s] [] [] with
    | none => none
    | some none => some (0, 0, 0, 0, [], [], 3)
    | some (some (row, nx, out)) => some (1, K, 2, (row.length : Int), nx, out, 0)
theorem look_some {row : List (List Nat)} (hrow : ∀ s ∈ row, IsSet s) (hnd : row.Nodup) {t : List Nat} (ht : IsSet t) {j : Nat} (hj : row.findIdx? (· == t) = some j) {w : World} {b : Nat} (hp : PlaceAt w b row) :
    (Instr.lookup 92 (.map (some b)) (.agg (wordsOf t).toArray) true).run Try.prog w = .ok (.tuple #[.int .i64 (j : Int), .bool true]) w := by
  obtain ⟨hjl, hjt, _⟩ := List.findIdx?_eq_some_iff_getElem.1 hj
  have hjt' : row[j] = t := by simpa using hjt
  rcases place_lookup hrow ht hp with ⟨_, h2⟩ | ⟨i, h1, h2⟩
  · exact absurd (hjt' ▸ List.getElem_mem hjl) h2
  · obtain ⟨hil, hit⟩ := List.getElem?_eq_some_iff.1 h2
    have : i = j := (List.getElem_inj hnd).1 (hit.trans hjt'.symm)
    rw [h1, this]
theorem look_none {row : List (List Nat)} (hrow : ∀ s ∈ row, IsSet s) {t : List Nat} (ht : IsSet t) (hj : row.findIdx? (· == t) = none) {w : World} {b : Nat} (hp : PlaceAt w b row) :
    (Instr.lookup 92 (.map (some b)) (.agg (wordsOf t).toArray) true).run Try.prog w = .ok (.tuple #[.int .i64 0, .bool false]) w := by
  rcases place_lookup hrow ht hp with ⟨h1, _⟩ | ⟨i, _, h2⟩
  · exact h1
  · have := List.findIdx?_eq_none_iff.1 hj t (List.mem_of_getElem? h2)
    simp at this
theorem not_mem_of_none {row : List (List Nat)} {t : List Nat} (hj : row.findIdx? (· == t) = none) : t ∉ row := fun hm => by
  have := List.findIdx?_eq_none_iff.1 hj t hm
  simp at this
/-- A store into that map, at the operation. -/
theorem wpList_place_put {w : World} {ops : Array Oper} {rest : List Oper} {o : Oper} {a : Act} {Q : Exit → Act → World → Prop} {row : List (List Nat)} {t : List Nat} {b : Nat} (hg : o.guard = none) (m x v : Operand)
    (hop : o.op = .insert 92 m x v ∨ o.op = .mapUpdate 92 m x v) (hm : a.eval m = .map (some b)) (hx : a.eval x = .agg (wordsOf t).toArray) (hv : a.eval v = .int .i64 (row.length : Int)) (hd : o.dst = none)
    (hrow : ∀ s ∈ row, IsSet s) (ht : IsSet t) (hnew : t ∉ row) (hp : PlaceAt w b row)
    (h : ∀ w', PlaceAt w' b (row ++ [t]) → w.grownBy w' (some b) → wpList Try.prog ops Q rest a w') : wpList Try.prog ops Q (o :: rest) a w := by
  obtain ⟨w', h1, h2, h3⟩ := place_put hrow ht hnew hp
  refine wpList_plain hg fun K hK => ?_
  have hrun : (execOp a.eval o).run Try.prog w = .ok .skip w' := by
    unfold execOp
    rcases hop with hop | hop
    · simp [hop, hm, hx, hv, h1, Result.andThen]
    · simp [hop, hm, hx, hv, h1, Result.andThen]
  unfold Oper.wp
  rw [hrun]
  show K (a.put o.dst undef) w'
  rw [hd]
  exact hK _ _ (h w' h2 h3)
/-- A literal of one set. -/
theorem run_one_set (W : World) {s : List Nat} (hs : IsSet s) : (Instr.buildSlice 93 1 #[(0, .agg (wordsOf s).toArray)]).run Try.prog W = .ok (.slice (some ⟨W.heap.size, 0, none⟩) 1 1) (W.alloc (.cells (wordsOf s).toArray 88)) := by
  cases hi : Try.prog.info? 88 with
  | none => have := info88; rw [hi] at this; cases this
  | some ie =>
    have h88 := info88
    rw [hi] at h88
    simp only [Option.map_some, Option.some.injEq, Prod.mk.injEq] at h88
    refine run_buildSlice W 93 88 1 _ _ ie _ Try.underlying93 hi h88.1 (by rw [h88.2]; decide) (by rw [h88.2]; decide) ?_
    rw [h88.2]
    have h := Great.fill_whole (s := 16) (by decide) [.agg (wordsOf s).toArray] ((Array.range (1 * 16)).map ((Value.agg (Array.replicate 16 (.int .u64 0))).cells[· % (Value.agg (Array.replicate 16 (.int .u64 0))).cells.size]!)) (by
      intro v hv
      simp only [List.mem_singleton] at hv
      subst hv
      exact set_len hs) (by simp)
    simpa [Value.cells] using h
theorem exec_one_set {a : Act} {o : Oper} {x : Operand} {s : List Nat} (ho : o.op = .buildSlice 93 1 #[(0, x)]) (hx : a.eval x = .agg (wordsOf s).toArray) (hs : IsSet s) (W : World) :
    (execOp a.eval o).run Try.prog W = .ok (.value (.slice (some ⟨W.heap.size, 0, none⟩) 1 1)) (W.alloc (.cells (wordsOf s).toArray 88)) := by
  unfold execOp
  simp [ho, hx, run_one_set W hs, Result.andThen]
theorem reps_one_set {w : World} {base : Nat} {ok : Nat → Prop} {s : List Nat} (hs : IsSet s) : Reps (kset.M w base ok) kset.sz [s] (wordsOf s) := by
  have hl : (wordsOf s).length = 16 := by simp [wordsOf, hs.1]
  refine ⟨by rw [hl]; rfl, fun j p hj => ?_⟩
  cases j with
  | zero =>
    simp only [List.getElem?_cons_zero, Option.some.injEq] at hj
    subst hj
    refine ⟨hs, ?_⟩
    show List.take 16 (List.drop (0 * 16) (wordsOf s)) = wordsOf s
    rw [Nat.zero_mul, List.drop_zero, List.take_of_length_le (by omega)]
  | succ j => simp at hj
end Go.Proofs.Ytkaefgmgcghhiaa.X
end

section
namespace Go.Proofs.Ytkaefgmgcghhiaa.X
open Go.RowKit Go.Proofs.YtkaefgmgcghhiaaW.PrintWords Go.Proofs.YtkaefgmgcghhiaaW.PrintLast Go.Proofs.YtkaefgmgcghhiaaW.PrintMore
structure DetAt (w0 : World) (mb M : Nat) (K : Int) (pr row : List (List Nat)) (rv : Value) (nx : List Int) (nxv : Value) (out : List Int) (outv : Value) (w : World) : Prop where
  place : PlaceAt w mb pr
  row : Kd.R kset 88 w w0.heap.size (fun _ => True) rv row
  m : w.heap[M]? = some (.cells #[.int .i64 1, .int .i64 K, .int .i64 2, .int .i64 0, nxv, outv] 43 (0, 0))
  nx : Kd.R (Kd.int .i64) 3 w w0.heap.size (fun _ => True) nxv nx
  out : Kd.R (Kd.int .i64) 3 w w0.heap.size (fun _ => True) outv out
  apart : ∀ k, nxv.ownBlock = some k → outv.ownBlock ≠ some k
  below : Below w0.heap.size w0 w
  hmb : w0.heap.size ≤ mb
  hM : w0.heap.size ≤ M
theorem R_typed {α : Type} {d : Kd α} {e : Nat} {w : World} {base : Nat} {ok : Nat → Prop} {v : Value} {xs : List α} (h : d.R e w base ok v xs) (k : Nat) (hk : v.ownBlock = some k) : ∃ cells, w.heap[k]? = some (.cells cells e (0, 0)) := by
  obtain ⟨inner, ho⟩ := Kd.R_own h
  exact own_typed ho k hk
theorem R_R_ne {α β : Type} {d : Kd α} {d' : Kd β} {e e' : Nat} {w : World} {base base' : Nat} {ok ok' : Nat → Prop} {v v' : Value} {xs : List α} {ys : List β} (h : d.R e w base ok v xs) (h' : d'.R e' w base' ok' v' ys) (hne : e ≠ e') (k : Nat) (hk : v.ownBlock = some k) : some k ≠ v'.ownBlock := by
  intro he
  obtain ⟨c, h1⟩ := R_typed h k hk
  obtain ⟨c', h2⟩ := R_typed h' k he.symm
  rw [h1] at h2
  simp only [Option.some.injEq, Obj.cells.injEq] at h2
  exact hne h2.2.1
theorem place_R_ne {α : Type} {d : Kd α} {e : Nat} {w : World} {base : Nat} {ok : Nat → Prop} {v : Value} {xs : List α} {b : Nat} {row : List (List Nat)} (hp : PlaceAt w b row) (h : d.R e w base ok v xs) : some b ≠ v.ownBlock := by
  intro he
  obtain ⟨c, h1⟩ := R_typed h b he.symm
  unfold PlaceAt at hp
  rw [hp] at h1
  cases h1
theorem place_blk_ne {w : World} {b g t : Nat} {cs : Array Value} {row : List (List Nat)} (hp : PlaceAt w b row) (h : w.heap[g]? = some (.cells cs t (0, 0))) : b ≠ g := by
  rintro rfl
  unfold PlaceAt at hp
  rw [hp] at h
  cases h
theorem PlaceAt.grown {w w1 : World} {b : Nat} {row : List (List Nat)} {r : Option Nat} (hp : PlaceAt w b row) (hg : w.grownBy w1 r) (hne : some b ≠ r) : PlaceAt w1 b row := blk_grown hp hg hne
theorem PlaceAt.far {w : World} {b : Nat} {row : List (List Nat)} (hp : PlaceAt w b row) {p : Addr} (hne : b ≠ p.block) (u : Value) : PlaceAt (w.setCell p u) b row := (Below.heap_setCell w p u b hne).trans hp
theorem DetAt.low {w0 w w1 : World} {mb M : Nat} {K : Int} {pr row : List (List Nat)} {rv nxv outv : Value} {nx out : List Int} (h : DetAt w0 mb M K pr row rv nx nxv out outv w) (hb : Below w.heap.size w w1) : DetAt w0 mb M K pr row rv nx nxv out outv w1 :=
  ⟨blk_below h.place hb, Kd.R_below h.row hb, blk_below h.m hb, Kd.R_below h.nx hb, Kd.R_below h.out hb, h.apart, below_then h.below h.below.size hb, h.hmb, h.hM⟩
theorem R_after {α : Type} {d : Kd α} {e : Nat} {w w1 : World} {base M j : Nat} {v v1 : Value} {xs : List α} (h : d.R e w base (fun _ => True) v xs) (hE : d.E = []) {row : Option Nat} (hg : w.grownBy w1 row) (hne : ∀ k, row = some k → some k ≠ v.ownBlock) (hM : some M ≠ v.ownBlock) : d.R e (w1.setCell ⟨M, j, none⟩ v1) base (fun _ => True) v xs := by
  have h1 := Kd.R_grown2 h hE hg hne
  exact Kd.R_mono (Kd.R_far (Kd.R_tight hE h1) (p := ⟨M, j, none⟩) (fun k hk he => hM (by rw [← hk]; show some M = some k; rw [he])) v1) (fun _ _ => trivial)
theorem DetAt.outAp {w0 w w1 : World} {mb M : Nat} {K : Int} {pr row : List (List Nat)} {rv nxv outv v1 : Value} {nx out out1 : List Int} (h : DetAt w0 mb M K pr row rv nx nxv out outv w)
    (hr : Kd.R (Kd.int .i64) 3 w1 w0.heap.size (fun _ => True) v1 out1) (hb : Below w0.heap.size w0 w1) (hg : w.grownBy w1 outv.ownBlock) (hat : v1.ownBlock = outv.ownBlock ∨ ∃ b, v1.ownBlock = some b ∧ w.heap.size ≤ b) :
    DetAt w0 mb M K pr row rv nx nxv out1 v1 (w1.setCell ⟨M, 5, none⟩ v1) := by
  have hMo : some M ≠ outv.ownBlock := Kd.R_ne h.out h.m (by decide)
  have hm1 := blk_grown h.m hg hMo
  refine ⟨(h.place.grown hg (place_R_ne h.place h.out)).far (place_blk_ne h.place h.m) _, R_after h.row rfl hg (fun k hk => R_R_ne h.out h.row (by decide) k hk) (Kd.R_ne h.row h.m (by decide)), blk_put hm1 5 v1 rfl,
    R_after h.nx rfl hg (fun k hk he => h.apart k he.symm hk) (Kd.R_ne h.nx h.m (by decide)), ?_, ?_, below_set hb h.hM, h.hmb, h.hM⟩
  · exact Kd.R_mono (Kd.R_far (Kd.R_tight rfl hr) (p := ⟨M, 5, none⟩) (fun k hk he => Kd.R_ne hr hm1 (by decide) (by rw [← hk]; show some M = some k; rw [he])) v1) (fun _ _ => trivial)
  · intro k hk he
    rcases hat with h1 | ⟨b, h1, h2⟩
    · rw [h1] at he; exact h.apart k hk he
    · rw [h1] at he
      have := Kd.R_lt h.nx k hk
      have hbk : b = k := by injection he
      omega
theorem DetAt.nextAp {w0 w w1 : World} {mb M : Nat} {K : Int} {pr row : List (List Nat)} {rv nxv outv v1 : Value} {nx out nx1 : List Int} (h : DetAt w0 mb M K pr row rv nx nxv out outv w)
    (hr : Kd.R (Kd.int .i64) 3 w1 w0.heap.size (fun _ => True) v1 nx1) (hb : Below w0.heap.size w0 w1) (hg : w.grownBy w1 nxv.ownBlock) (hat : v1.ownBlock = nxv.ownBlock ∨ ∃ b, v1.ownBlock = some b ∧ w.heap.size ≤ b) :
    DetAt w0 mb M K pr row rv nx1 v1 out outv (w1.setCell ⟨M, 4, none⟩ v1) := by
  have hMo : some M ≠ nxv.ownBlock := Kd.R_ne h.nx h.m (by decide)
  have hm1 := blk_grown h.m hg hMo
  refine ⟨(h.place.grown hg (place_R_ne h.place h.nx)).far (place_blk_ne h.place h.m) _, R_after h.row rfl hg (fun k hk => R_R_ne h.nx h.row (by decide) k hk) (Kd.R_ne h.row h.m (by decide)), blk_put hm1 4 v1 rfl,
    ?_, R_after h.out rfl hg (fun k hk he => h.apart k hk he.symm) (Kd.R_ne h.out h.m (by decide)), ?_, below_set hb h.hM, h.hmb, h.hM⟩
  · exact Kd.R_mono (Kd.R_far (Kd.R_tight rfl hr) (p := ⟨M, 4, none⟩) (fun k hk he => Kd.R_ne hr hm1 (by decide) (by rw [← hk]; show some M = some k; rw [he])) v1) (fun _ _ => trivial)
  · intro k hk he
    rcases hat with h1 | ⟨b, h1, h2⟩
    · rw [h1] at hk; exact h.apart k hk he
    · rw [h1] at hk
      have := Kd.R_lt h.out k he
      have hbk : b = k := by injection hk
      omega
theorem DetAt.placed {w0 w w1 : World} {mb M : Nat} {K : Int} {pr pr1 row : List (List Nat)} {rv nxv outv : Value} {nx out : List Int} (h : DetAt w0 mb M K pr row rv nx nxv out outv w) (hp : PlaceAt w1 mb pr1) (hg : w.grownBy w1 (some mb)) :
    DetAt w0 mb M K pr1 row rv nx nxv out outv w1 :=
  ⟨hp, Kd.R_grown2 h.row rfl hg (fun k hk => by injection hk with hk; rw [← hk]; exact place_R_ne h.place h.row), blk_grown h.m hg (fun he => place_blk_ne h.place h.m (by injection he with he; exact he.symm)),
    Kd.R_grown2 h.nx rfl hg (fun k hk => by injection hk with hk; rw [← hk]; exact place_R_ne h.place h.nx), Kd.R_grown2 h.out rfl hg (fun k hk => by injection hk with hk; rw [← hk]; exact place_R_ne h.place h.out),
    h.apart, pw_below_grown h.below (some mb) h.below.size hg (fun k hk => by injection hk with hk; rw [← hk]; exact h.hmb), h.hmb, h.hM⟩
theorem DetAt.rowAp {w0 w w1 : World} {mb M : Nat} {K : Int} {pr row row1 : List (List Nat)} {rv rv1 nxv outv : Value} {nx out : List Int} (h : DetAt w0 mb M K pr row rv nx nxv out outv w)
    (hr : Kd.R kset 88 w1 w0.heap.size (fun _ => True) rv1 row1) (hb : Below w0.heap.size w0 w1) (hg : w.grownBy w1 rv.ownBlock) : DetAt w0 mb M K pr row1 rv1 nx nxv out outv w1 :=
  ⟨h.place.grown hg (place_R_ne h.place h.row), hr, blk_grown h.m hg (Kd.R_ne h.row h.m (by decide)), Kd.R_grown2 h.nx rfl hg (fun k hk => R_R_ne h.row h.nx (by decide) k hk), Kd.R_grown2 h.out rfl hg (fun k hk => R_R_ne h.row h.out (by decide) k hk), h.apart, hb, h.hmb, h.hM⟩
end Go.Proofs.Ytkaefgmgcghhiaa.X
end

section
namespace Go.Proofs.Ytkaefgmgcghhiaa.X
open Go.RowKit Go.Proofs.YtkaefgmgcghhiaaW.PrintWords Go.Proofs.YtkaefgmgcghhiaaW.PrintLast Go.Proofs.YtkaefgmgcghhiaaW.PrintMore
theorem gate_insert {P : Program} {ops : Array Oper} {rest : List Oper} {o : Oper} {a : Act} {Q : Exit → Act → World → Prop} {W : World} {t : TypeId} {m x v : Operand} (_ho : o.op = .insert t m x v) (h : wpList P ops Q (o :: rest) a W) : wpList P ops Q (o :: rest) a W := h
theorem gate_update {P : Program} {ops : Array Oper} {rest : List Oper} {o : Oper} {a : Act} {Q : Exit → Act → World → Prop} {W : World} {t : TypeId} {m x v : Operand} (_ho : o.op = .mapUpdate t m x v) (h : wpList P ops Q (o :: rest) a W) : wpList P ops Q (o :: rest) a W := h
theorem info43 : (Try.prog.info? 43).map (fun i => (i.zero, i.size)) = some (some (.agg #[.int .i64 0, .int .i64 0, .int .i64 0, .int .i64 0, .slice none 0 0, .slice none 0 0]), 6) := by kernel_rfl
theorem info88b : (Try.prog.info? 88).map (fun i => (i.zero, i.size, i.bytes)) = some (some (.agg (Array.replicate 16 (.int .u64 0))), kset.sz, 128) := by kernel_rfl
def DT12.T12 : Bool × List (List Nat × List Nat) := (true, [([], []), ([0], [0]), ([], []), ([], []), ([], []), ([3, 4], [3, 4]), ([5], [5]), ([2, 6], [2, 6]), ([7], [7]), ([1, 8, 7], [1, 8]), ([0, 1, 2, 3, 4, 5, 6, 7, 8, 9], []), ([10, 9, 9, 0, 1, 2, 3, 4, 5, 6, 7, 8, 9], [9, 10])])
def DT12.B12 : List Nat := [0, 1, 0, 0, 0, 24, 56, 124, 252, 511, 1023, 2047]
theorem DT12.tab12 : rtab .any (opsOf Try.f22 12) = DT12.T12 := by kernel_rfl
theorem DT12.bits12 : waitsOk DT12.T12.2 DT12.B12 = true := by kernel_rfl
theorem grown_setRow (w : World) (g : Nat) (cs : Array Value) : w.grownBy (w.setRow g cs) (some g) := ⟨rfl, rfl, rfl, by simp, fun i _ hi => setRow_other w g i cs (fun e => hi (by rw [e]))⟩
def zero43 : Array Value := #[.int .i64 0, .int .i64 0, .int .i64 0, .int .i64 0, .slice none 0 0, .slice none 0 0]
theorem zero43_one : zero43.all (·.oneCell') = true := by simp [zero43, Value.oneCell']
set_option maxHeartbeats 8000000 in
set_option maxRecDepth 100000 in
theorem Determine_walk (k : Nat) (K N : Int) (A2 : Option Addr) (c2 : Nat) (S : List Int) (A3 : Option Addr) (c3 : Nat) (F : List Int) (A4 : Option Addr) (c4 : Nat) (E : List S80) (r1 r2 r3 r4 : Int) (r5 r6 : List Int) (r7 : Int) (w : World)
    (hr2 : Kd.C (Kd.int .i64) w A2 S.length S) (hr3 : Kd.C (Kd.int .i64) w A3 F.length F) (hr4 : Kd.C k80 w A4 E.length E) (h : detG k K N S F E = some (r1, r2, r3, r4, r5, r6, r7)) :
    Calls Try.prog 22 #[.agg #[.int .i64 K, .int .i64 N, .slice A2 S.length c2, .slice A3 F.length c3, .slice A4 E.length c4]] w fun e w' => ∃ v4_ v5_ : Value, e = .returned (.tuple #[.agg #[.int .i64 r1, .int .i64 r2, .int .i64 r3, .int .i64 r4, v4_, v5_], .int .i64 r7]) ∧ Kd.R (Kd.int .i64) 3 w' w.heap.size (fun k_ => some k_ ≠ (v5_ : Value).ownBlock) v4_ r5 ∧ Kd.R (Kd.int .i64) 3 w' w.heap.size (fun k_ => some k_ ≠ (v4_ : Value).ownBlock) v5_ r6 ∧ Below w.heap.size w w' := by
  have hu25 := Try.underlying25
  have hu43 := Try.underlying43
  have hu80 := Try.underlying80
  have hu92 := Try.underlying92
  have hu93 := Try.underlying93
  unfold detG at h
  obtain ⟨p0, p1, hp⟩ : ∃ p0 p1, nfa_Check.g K N S F E = (p0, p1) := ⟨_, _, rfl⟩
  have hchk := fun (W : World) (hb : Below w.heap.size w W) => Check_walk K N A2 c2 S A3 c3 F A4 c4 E p0 p1 W (Kd.C_below hr2 hb) (Kd.C_below hr3 hb) (Kd.C_below hr4 hb) hp
  have hok : p1 = 0 → RightN K N S F E := fun he => check_ok (by rw [hp]; exact he)
  rw [hp] at h
  simp only [] at h
  have H2 := Aside0.mk hr2
  have H3 := Aside0.mk hr3
  have H4 := Aside0.mk hr4
  clear hr2 hr3 hr4 hp
  obtain ⟨z43, i43⟩ := zero_of_info info43
  have hZ : ∀ w1, Below ((w.alloc (.cells #[.int .i64 K, .int .i64 N, .slice A2 S.length c2, .slice A3 F.length c3, .slice A4 E.length c4] 25)).alloc (.cells zero43 43)).heap.size ((w.alloc (.cells #[.int .i64 K, .int .i64 N, .slice A2 S.length c2, .slice A3 F.length c3, .slice A4 E.length c4] 25)).alloc (.cells zero43 43)) w1 → w1.heap[w.heap.size + 1]? = some (.cells zero43 43 (0, 0)) := by
    intro w1 hb
    refine blk_below ?_ hb
    have h := blk_new (w.alloc (.cells #[.int .i64 K, .int .i64 N, .slice A2 S.length c2, .slice A3 F.length c3, .slice A4 E.length c4] 25)) (.cells zero43 43)
    simpa using h
  have HZ := Aside0.mk hZ
  clear hZ
  by_cases q1 : p1 ≠ 0
  · rw [if_pos q1] at h
    simp only [Option.some.injEq, Prod.mk.injEq] at h
    obtain ⟨rfl, rfl, rfl, rfl, rfl, rfl, rfl⟩ := h
    have q1b : (p1 != 0) = true := by simpa using q1
    clear hok q1
    go_enter Try.func22, Try.ntmps22
    go_wp2_with (first | (go_at_call 15; refine (hchk _ (below_alloc (below_alloc (Below.refl _ _) _) _)).mono ?_; rintro e w1 ⟨rfl, hb1⟩) | ((with_reducible refine gate_store (t := 43) (p := 2) rfl ?_); (refine wpList_store_rowTo rfl 43 (.tmp 2) (.tmp 23) rfl rfl (w.heap.size + 1) zero43 rfl rfl 43 _ (HZ.out _ hb1) ?_ rfl zero43_one ?_; (focus (rw [i43]; rfl)))))
    have hblk := setRow_heap w1 (w.heap.size + 1) _ zero43 43 (0, 0) (HZ.out _ hb1)
    try simp only [Exit.inBlock, Exit.then]
    refine bodyPost_ret (results_ct rfl _ _ (w.heap.size + 1) 43 zero43 (0, 0) _ rfl hblk Try.underlying43 rfl (by rw [i43]; rfl)) rfl ?_
    exact ⟨_, _, rfl, Kd.R_nil _ _ _ _ _, Kd.R_nil _ _ _ _ _, below_setRow (below_step (below_alloc (below_alloc (Below.refl _ _) _) _) hb1) (by omega) _⟩
  · rw [if_neg q1] at h
    have q0 : p1 = 0 := by omega
    subst q0
    have HOK := Aside0.mk (hok rfl)
    clear q1 hok
    have hfr : ((rowsOf N.toNat E).length : Int) = N := by rw [rows_length]; have := HOK.out.n; omega
    have hfl : ∀ j, ((rowsOf N.toNat E).getD j []).length ≤ 65536 := fun j => Nat.le_trans (rows_short _ _ _) HOK.out.el
    have hnr := fun (W : World) (hb : Below w.heap.size w W) => newRunner_walk K N A2 c2 S A3 c3 F A4 c4 E W (Kd.C_below H4.out hb) HOK.out.n HOK.out.el (fun x hx => ⟨(HOK.out.e x hx).1, (HOK.out.e x hx).2.1⟩)
    generalize rowsOf N.toNat E = fr at h hfr hfl hnr
    have HFR := Aside0.mk hfr
    have HFL := Aside0.mk hfl
    clear hfr hfl
    cases hs : startF k N fr S with
    | none => rw [hs] at h; exact absurd h (by simp)
    | some s =>
      rw [hs] at h
      simp only [] at h
      have HSF := Aside0.mk hs
      cases hd : detF k K N F fr k 0 [s] [] [] with
      | none => rw [hd] at h; exact absurd h (by simp)
      | some res =>
      rw [hd] at h
      have HD0 := Aside0.mk hd
      have HRES := Aside0.mk h
      clear hs h hd
      obtain ⟨z88, i88⟩ := zero_of_info info88
      have hmm := @run_makeMap Try.prog
      go_enter Try.func22, Try.ntmps22
      go_wp2_with (first | (go_at_call 15; refine (hchk _ (below_alloc (below_alloc (Below.refl _ _) _) _)).mono ?_; rintro e w1 ⟨rfl, hb1⟩; have HB1 := Aside0.mk (below_step (below_alloc (below_alloc (Below.refl w.heap.size w) (.cells #[.int .i64 K, .int .i64 N, .slice A2 S.length c2, .slice A3 F.length c3, .slice A4 E.length c4] 25)) (.cells zero43 43)) hb1); have HZ1 := Aside0.mk (HZ.out _ hb1); have hbx := blk_below (blk_alloc (blk_new w (.cells #[.int .i64 K, .int .i64 N, .slice A2 S.length c2, .slice A3 F.length c3, .slice A4 E.length c4] 25)) (.cells zero43 43)) hb1; have HBX := Aside0.mk hbx; have hx0 : w1.cell? ⟨w.heap.size, 0, none⟩ = some (.int .i64 K) := (blk_cell hbx 0).trans rfl; have hx1 : w1.cell? ⟨w.heap.size, 1, none⟩ = some (.int .i64 N) := (blk_cell hbx 1).trans rfl; have hx2 : w1.cell? ⟨w.heap.size, 2, none⟩ = some (.slice A2 S.length c2) := (blk_cell hbx 2).trans rfl; have hx3 : w1.cell? ⟨w.heap.size, 3, none⟩ = some (.slice A3 F.length c3) := (blk_cell hbx 3).trans rfl; have hx4 : w1.cell? ⟨w.heap.size, 4, none⟩ = some (.slice A4 E.length c4) := (blk_cell hbx 4).trans rfl; clear hb1 hbx) | (go_at_call 57; refine (hnr _ HB1.out).mono ?_; rintro e w3 ⟨rb, rfl, hR3, hb3⟩; have HR3 := Aside0.mk hR3; have HB3 := Aside0.mk (below_step HB1.out hb3); have HZ3 := Aside0.mk (blk_below HZ1.out hb3); have HBX3 := Aside0.mk (blk_below HBX.out hb3); clear hR3 hb3 hx0 hx1 hx2 hx3 hx4) | (go_at_call 58; refine (start_walk k rb K N A2 c2 S _ _ fr s w3 _ HOK.out.n HFR.out HFL.out HR3.out (Kd.C_below H2.out HB3.out) HOK.out.sl HSF.out).mono ?_; rintro e w4 ⟨rfl, hs4, hb4⟩; have HS4 := Aside0.mk hs4; have HR4 := Aside0.mk (HR3.out.below hb4); have HB4 := Aside0.mk (below_step HB3.out hb4); have HZ4 := Aside0.mk (blk_below HZ3.out hb4); have HBX4 := Aside0.mk (blk_below HBX3.out hb4); have hlit := fun (W : World) => run_one_set W hs4; have hpl0 : PlaceAt ((w4.alloc (.cells (wordsOf s).toArray 88)).alloc (.map #[] 0)) (w4.heap.size + 1) [] := (by have h := blk_new (w4.alloc (.cells (wordsOf s).toArray 88)) (.map #[] 0); simpa [PlaceAt] using h); clear hs4 hb4) | ((with_reducible refine gate_store (t := 88) (p := 7) rfl ?_); refine wpList_store_rowTo rfl 88 (.tmp 7) (.tmp 28) rfl rfl w4.heap.size (wordsOf s).toArray rfl rfl 88 _ (blk_new w4 _) ?_ ?_ (set_one s) ?_; (focus (rw [i88, set_len HS4.out])); (focus (rw [set_len HS4.out]; simp)); rw [World.setRow_alloc_new]) | ((with_reducible refine gate_dst (N := 30) rfl ?_); refine wpList_load_row rfl 88 (.tmp 7) rfl w4.heap.size rfl 88 (wordsOf s).toArray (0, 0) _ (blk_alloc (blk_new w4 _) _) Try.underlying88 rfl ?_ ?_; (focus (rw [i88, set_len HS4.out]))) | ((with_reducible refine gate_insert rfl ?_); (refine wpList_place_put (row := []) (t := s) (b := w4.heap.size + 1) rfl (.tmp 29) (.tmp 30) (.const (.int .i64 0)) (.inl rfl) rfl rfl rfl rfl (by simp) HS4.out (by simp) hpl0 ?_; intro w6 hp6 hg6; have HP6 := Aside0.mk hp6; have HF6 := Aside0.mk (blk_grown (blk_alloc (blk_new w4 (.cells (wordsOf s).toArray 88)) (.map #[] 0)) hg6 (fun he => by injection he with he; omega)); have HB6 := Aside0.mk ((below_alloc (Below.refl (w4.alloc (.cells (wordsOf s).toArray 88)).heap.size (w4.alloc (.cells (wordsOf s).toArray 88))) (.map #[] 0)).grown hg6 (by simp) (fun k hk => by injection hk with hk; rw [← hk]; simp)); clear hp6 hg6 hpl0)) | ((with_reducible refine gate_dst (N := 32) rfl ?_); refine wpList_load_row rfl 88 (.tmp 7) rfl w4.heap.size rfl 88 (wordsOf s).toArray (0, 0) _ HF6.out Try.underlying88 rfl ?_ ?_; (focus (rw [i88, set_len HS4.out]))) | ((with_reducible refine gate_dst (N := 33) rfl ?_); (refine Kd.R_lit kset (w0 := w4.alloc (.cells (wordsOf s).toArray 88)) (w4.alloc (.cells (wordsOf s).toArray 88)).heap.size 88 rfl (N := 33) rfl (xs := [s]) (inner := wordsOf s) (ok := fun _ => True) (okp := fun _ => True) ?hr ?hp (fun _ hk => hk) trivial HB6.out HB6.out.size (by simp) ?_; (case hr => exact exec_one_set rfl rfl HS4.out _); (case hp => exact reps_one_set HS4.out); intro v7 w7 ho7 hb7 hg7 hnew7; have HO7 := Aside0.mk ho7; have HB7 := Aside0.mk hb7; have HP7 := Aside0.mk (HP6.out.grown hg7 (by simp)); have hx0 : w7.cell? ⟨w.heap.size, 0, none⟩ = some (.int .i64 K) := (blk_cell ((hb7.block w.heap.size (by have := blk_lt HBX4.out; simp; omega)).trans (blk_alloc HBX4.out _)) 0).trans rfl; clear ho7 hb7 hg7 hnew7 hlit)))
      have hD0 : DetAt (w4.alloc (.cells (wordsOf s).toArray 88)) (w4.heap.size + 1) w7.heap.size K [s] [s] v7 [] (.slice none 0 0) [] (.slice none 0 0) (w7.alloc (.cells #[.int .i64 1, .int .i64 K, .int .i64 2, .int .i64 0, .slice none 0 0, .slice none 0 0] 43)) := by
        have hb := below_alloc (Below.refl w7.heap.size w7) (.cells #[.int .i64 1, .int .i64 K, .int .i64 2, .int .i64 0, .slice none 0 0, .slice none 0 0] 43)
        exact ⟨blk_below HP7.out hb, Kd.R_below HO7.out hb, blk_new w7 _, Kd.R_nil _ _ _ _ _, Kd.R_nil _ _ _ _ _, fun k hk => by simp [Value.ownBlock] at hk, below_then HB7.out HB7.out.size hb, by simp, HB7.out.size⟩
      have hb5 := below_alloc (Below.refl w4.heap.size w4) (.cells (wordsOf s).toArray 88)
      have HR5 := Aside0.mk (HR4.out.below hb5)
      have HB5 := Aside0.mk (below_step HB4.out hb5)
      have HZ5 := Aside0.mk (blk_below HZ4.out hb5)
      have HBX5 := Aside0.mk (blk_below HBX4.out hb5)
      have HSS0 : Aside0 (∀ q ∈ [s], IsSet q) := ⟨fun q hq => by simp only [List.mem_singleton] at hq; rw [hq]; exact HS4.out⟩
      have HN0 : Aside0 ([s].Nodup) := ⟨by simp⟩
      generalize hmbq : w4.heap.size + 1 = mb at hD0 ⊢
      generalize hW5q : w4.alloc (.cells (wordsOf s).toArray 88) = W5 at hD0 HR5 HB5 HZ5 HBX5
      clear hb5 HP7 HO7 HB7 HR4 HB4 HZ4 HBX4 HZ3 HBX3 HP6 HF6 HB6 hx0 hmm hchk hnr hW5q hmbq HR3 HB3 HZ1 HBX HB1 HZ HSF
      generalize w7.heap.size = M at hD0 ⊢
      go_loopg [9, 11] k (fun kq v9 v11 wr => ∃ (i : Nat) (row : List (List Nat)) (nx : List Int) (nxv : Value) (out : List Int) (outv : Value), v11 = .int .i64 (i : Int) ∧ Aside0 (detF k K N F fr kq i row nx out = some res) ∧ Aside0 (kq ≤ k) ∧ Aside0 (DetAt W5 mb M K row row v9 nx nxv out outv wr) ∧ Aside0 (∀ q ∈ row, IsSet q) ∧ Aside0 row.Nodup ∧ Aside0 (row.length ≤ 1024))
      case atStart => exact ⟨0, [s], [], _, [], _, rfl, HD0, ⟨Nat.le_refl _⟩, ⟨hD0⟩, HSS0, HN0, ⟨by simp⟩⟩
      case round =>
        clear hD0 HD0 HSS0 HN0
        obtain ⟨i, row, nx, nxv, out, outv, rfl, HF, HK1, HD, HSS, HND, HRL⟩ := hrel
        have hrl := HRL.out
        cases gk with
        | zero => exact absurd HF.out (by simp [detF])
        | succ k1 =>
          have H := HF.out
          clear HF
          simp only [detF] at H
          by_cases e1 : i < row.length
          · rw [if_pos e1] at H
            by_cases e2 : out.length < 1099511627776
            · rw [if_pos e2] at H
              obtain ⟨gr, cr, rfl, hrg, hsi⟩ := row_at HD.out.row i e1
              generalize hsiq : row.getD i [] = si at H hrg hsi
              cases hin : detIn k N fr si (List.range K.toNat) row nx with
              | none => rw [hin] at H; exact absurd H (by simp)
              | some ires =>
                rw [hin] at H
                have HIN := Aside0.mk hin
                have HNX := Aside0.mk H
                have HSI := Aside0.mk hsiq
                have HI1 := Aside0.mk e1
                have HSET := Aside0.mk hsi
                obtain ⟨Ao, co, rfl⟩ := Kd.R_slice HD.out.out
                clear hin H hsiq hsi
                have HOL := Aside0.mk e2
                go_wp2
                have HDD := Aside0.mk (HD.out.low (below_drew1 (Below.refl _ _)))
                have hrl2 : (row.length : Int) ≤ 1024 := by omega
                refine start_ (n := 12) (S := fun w' => w'.cell? ⟨M, 5, none⟩ = some (.slice Ao out.length co) ∧ w'.rangeAt gr (i * 16) (wordsOf si)) (ds := [9, 11]) #[false, false, false, false, false, false, false, false, false, false, false, false] (by kernel_rfl) rfl rfl ⟨(blk_cell (blk_drew HD.out.m) 5).trans rfl, hrg⟩ (fun hHeld => ?_)
                refine with_tabW DT12.tab12 DT12.bits12 (fun HT_ HW_ => ?_)
                generalize wr.drew = wd at HDD hHeld ⊢
                refine pure_ (i := 0) (N := (some 43)) (v := ?_) (a' := ?_) #[true, false, false, false, false, false, false, false, false, false, false, false] rfl rfl (any_of HT_.out (by kernel_rfl)) (fun _ _ _ h => h) (Or.inl ⟨by rfl, ?_⟩) ?_ ?_
                rotate_left
                · intro w'
                  go_simp
                  with_reducible rfl
                rotate_left
                · simp only [Act.put, List.setIfInBounds_toArray, List.set_cons_zero, List.set_cons_succ, i64_w, i32_w]
                  rfl
                refine pure_ (i := 2) (N := (some 45)) (v := ?_) (a' := ?_) #[true, false, true, false, false, false, false, false, false, false, false, false] rfl rfl (any_of HT_.out (by kernel_rfl)) (fun _ _ _ h => h) (Or.inl ⟨by rfl, ?_⟩) ?_ ?_
                rotate_left
                · intro w'
                  go_simp
                  with_reducible rfl
                rotate_left
                · simp only [Act.put, List.setIfInBounds_toArray, List.set_cons_zero, List.set_cons_succ, i64_w, i32_w]
                  rfl
                refine pure_ (i := 3) (N := (some 46)) (v := ?_) (a' := ?_) #[true, false, true, true, false, false, false, false, false, false, false, false] rfl rfl (any_of HT_.out (by kernel_rfl)) (fun _ _ _ h => h) (Or.inl ⟨by rfl, ?_⟩) ?_ ?_
                rotate_left
                · intro w'
                  go_simp
                  with_reducible rfl
                rotate_left
                · simp only [Act.put, List.setIfInBounds_toArray, List.set_cons_zero, List.set_cons_succ, i64_w, i32_w]
                  rfl
                refine pure_ (i := 4) (N := (some 47)) (v := ?_) (a' := ?_) #[true, false, true, true, true, false, false, false, false, false, false, false] rfl rfl (any_of HT_.out (by kernel_rfl)) (fun _ _ _ h => h) (Or.inl ⟨by rfl, ?_⟩) ?_ ?_
                rotate_left
                · intro w'
                  go_simp
                  with_reducible rfl
                rotate_left
                · simp only [Act.put, List.setIfInBounds_toArray, List.set_cons_zero, List.set_cons_succ, i64_w, i32_w]
                  rfl
                refine pure_ (i := 5) (N := (some 48)) (v := ?_) (a' := ?_) #[true, false, true, true, true, true, false, false, false, false, false, false] rfl rfl (any_of HT_.out (by kernel_rfl)) (fun _ _ _ h => h) (Or.inl ⟨by rfl, ?_⟩) ?_ ?_
                rotate_left
                · intro w'
                  go_simp
                  with_reducible rfl
                rotate_left
                · simp only [Act.put, List.setIfInBounds_toArray, List.set_cons_zero, List.set_cons_succ, i64_w, i32_w]
                  rfl
                refine take_ (i := 1) (N := (some 44)) (v := ?_) (a' := ?_) #[true, true, true, true, true, true, false, false, false, false, false, false] rfl rfl (take_ofW HT_.out HW_.out (by kernel_rfl)) (fun _ _ _ h => h) (Or.inl ⟨by rfl, ?_⟩) hHeld ?_ ?_
                rotate_left
                · rintro w' ⟨s0, s1⟩
                  go_simp
                  with_reducible rfl
                rotate_left
                · simp only [Act.put, List.setIfInBounds_toArray, List.set_cons_zero, List.set_cons_succ, i64_w, i32_w]
                  rfl
                refine take_ (i := 6) (N := (some 49)) (v := (.agg (wordsOf si).toArray)) (a' := ?_) #[true, true, true, true, true, true, true, false, false, false, false, false] rfl rfl (take_ofW HT_.out HW_.out (by kernel_rfl)) (fun _ _ _ h => h) (yieldsIf_load_mid (by rfl) 88 _ rfl gr (i * 16) rfl (wordsOf si) _ (fun w' h => h.2) Try.underlying88 rfl (by rw [i88]; simp [wordsOf, HSET.out.1])) hHeld ?_ ?_
                rotate_left
                · simp only [Act.put, List.setIfInBounds_toArray, List.set_cons_zero, List.set_cons_succ, i64_w, i32_w]
                  rfl
                refine one_ (i := 7) (N := (some 50)) #[true, true, true, true, true, true, true, true, false, false, false, false] rfl rfl (one_of HT_.out (by kernel_rfl)) (by decide) (fun K_ hK => ?_)
                have hrgd := hHeld.2
                refine goes_ Try.func60 (by kernel_rfl) rfl #[.pointer (some ⟨rb, 0, none⟩), .agg (wordsOf si).toArray] (by rfl) rfl rfl (by simp [Act.eval]) ?_
                refine (final_walk rb K N A3 c3 F _ _ fr si wd _ (by have h1 := HOK.out.fl; have h2 := HOK.out.n; omega) (HR5.out.below HDD.out.below) (Kd.C_below (Kd.C_below H3.out HB5.out) HDD.out.below) HSET.out).mono ?_
                rintro e w8 ⟨rfl, hb8⟩
                refine ⟨_, rfl, ?_⟩
                have HDE := Aside0.mk (HDD.out.low hb8)
                have hrg8 : w8.rangeAt gr (i * 16) (wordsOf si) := fun j v hv => (hb8.cell (p := ⟨gr, i * 16 + j, none⟩) (World.block_lt_of_cell? wd _ (hrgd j v hv))).trans (hrgd j v hv)
                refine hK.out _ _ ⟨(blk_cell HDE.out.m 5).trans rfl, hrg8⟩ (fun hHeld => ?_); clear hK K_ hrg hb8
                refine norm_ (a' := ?_) ?_ ?_
                rotate_left
                · show Act.put _ (some 50) _ = _
                  simp only [Act.put, List.setIfInBounds_toArray, List.set_cons_zero, List.set_cons_succ, i64_w, i32_w]
                  rfl
                refine one_ (i := 8) (N := (some 51)) #[true, true, true, true, true, true, true, true, true, false, false, false] rfl rfl (one_of HT_.out (by kernel_rfl)) (by decide) (fun K_ hK => ?_)
                refine value_ (w1 := ?_) (v := ?_) (by rfl) rfl ?_ ?_
                rotate_left 2
                · go_simp
                  constructor
                  · rfl
                  · rfl
                refine hK.out _ _ ⟨(blk_cell (blk_alloc HDE.out.m _) 5).trans rfl, fun j v hv => (World.cell?_alloc_lt _ _ _ (World.block_lt_of_cell? _ _ (hrg8 j v hv))).trans (hrg8 j v hv)⟩ (fun hHeld => ?_); clear hK K_
                refine norm_ (a' := ?_) ?_ ?_
                rotate_left
                · show Act.put _ (some 51) _ = _
                  simp only [Act.put, List.setIfInBounds_toArray, List.set_cons_zero, List.set_cons_succ, i64_w, i32_w]
                  rfl
                refine last_ (i := 9) (N := (some 52)) #[true, true, true, true, true, true, true, true, true, true, false, false] rfl rfl (one_of HT_.out (by kernel_rfl)) (by decide) (fun K_ hK => ?_)
                refine Kd.R_append_step (Kd.int .i64) (w0 := W5) W5.heap.size (by rfl) (.tmp 44) (.tmp 51) 22 3 (.int .i64 0) 8 rfl Try.underlying22 info3 rfl (by decide) (by omega) (.slice Ao out.length co) out (fiRow si F 0) [.int .i64 (fiRow si F 0)] (fun _ => True) (fun _ => False) rfl rfl rfl (fun _ hk => hk.elim) (fun _ _ => trivial) HDE.out.out HDE.out.below HDE.out.below.size (by have := HOL.out; omega) ?_
                intro v1 w1 ho hb hg hat
                obtain ⟨A9, c9, rfl⟩ := Kd.R_slice ho
                have hM1 := blk_grown HDE.out.m hg (Kd.R_ne HDE.out.out HDE.out.m (by decide))
                have hfz := blk_frozen hM1 5
                have hcl : w1.cell? ⟨M, 5, none⟩ = some (.slice Ao out.length co) := (blk_cell hM1 5).trans rfl
                refine hK.out _ _ ?_; clear hK K_
                refine norm_ (a' := ?_) ?_ ?_
                rotate_left
                · show Act.put _ (some 52) _ = _
                  simp only [Act.put, List.setIfInBounds_toArray, List.set_cons_zero, List.set_cons_succ, i64_w, i32_w]
                  rfl
                refine pure_ (i := 10) (N := (some 53)) (v := ?_) (a' := ?_) #[true, true, true, true, true, true, true, true, true, true, true, false] rfl rfl (any_of HT_.out (by kernel_rfl)) (fun _ _ _ h => h) (Or.inl ⟨by rfl, ?_⟩) ?_ ?_
                rotate_left
                · intro w'
                  go_simp
                  with_reducible rfl
                rotate_left
                · simp only [Act.put, List.setIfInBounds_toArray, List.set_cons_zero, List.set_cons_succ, i64_w, i32_w]
                  rfl
                refine last_ (i := 11) (N := none) #[true, true, true, true, true, true, true, true, true, true, true, true] rfl rfl (one_of HT_.out (by kernel_rfl)) (by decide) (fun K_ hK => ?_)
                refine skip_ (w1 := ?_) (by rfl) rfl ?_ ?_
                rotate_left
                · go_simp
                  rfl
                refine hK.out _ _ ?_; clear hK K_
                refine done_ (done_of HT_.out (by kernel_rfl)) ?_
                have HD2 := DetAt.outAp HDE.out ho hb hg hat
                simp only [List.length_append, List.length_singleton] at HD2
                clear ho hb hg hat hM1 hfz hcl
                generalize w1.setCell ⟨M, 5, none⟩ (.slice A9 (out.length + 1) c9) = w2 at HD2 ⊢
                generalize Value.slice A9 (out.length + 1) c9 = ov2 at HD2
                generalize hout2 : out ++ [fiRow si F 0] = out2 at HD2 HNX
                have hx0 : w2.cell? ⟨w.heap.size, 0, none⟩ = some (.int .i64 K) := (blk_cell (blk_below HBX5.out HD2.below) 0).trans rfl
                have HD3 := Aside0.mk HD2
                clear HD2 HDE HDD HD hHeld hrgd hrg8 hout2
                go_wp2
                clear hx0
                have hKb : K ≤ 64 := HOK.out.k.2
                have hKa : 1 ≤ K := HOK.out.k.1
                go_loopw [56, 9] (fun v56 v9 wr2 => ∃ (x : Nat) (row1 : List (List Nat)) (nx1 : List Int) (nxv1 : Value), v56 = .int .i64 (x : Int) ∧ Aside0 (x ≤ K.toNat) ∧ Aside0 (detIn k N fr si ((List.range K.toNat).drop x) row1 nx1 = some ires) ∧ Aside0 (DetAt W5 mb M K row1 row1 v9 nx1 nxv1 out2 ov2 wr2) ∧ Aside0 (∀ q ∈ row1, IsSet q) ∧ Aside0 row1.Nodup ∧ Aside0 (row1.length ≤ 1024) ∧ Aside0 (i < row1.length ∧ row1.getD i [] = si)) (fun v56 _ _ => K.toNat - (intOf v56).toNat)
                case atStart => exact ⟨0, row, nx, nxv, rfl, ⟨by omega⟩, HIN, HD3, HSS, HND, HRL, ⟨HI1.out, HSI.out⟩⟩
                case round =>
                  clear HIN HD3 HSS HND HRL HI1 HSI hrl hrl2
                  obtain ⟨x, row1, nx1, nxv1, rfl, HX, HIN, HD, HSS, HND, HRL, HRI⟩ := hrel
                  obtain ⟨gr2, cr2, rfl, hrg2, _⟩ := row_at HD.out.row i HRI.out.1
                  rw [HRI.out.2] at hrg2
                  obtain ⟨An, cn, rfl⟩ := Kd.R_slice HD.out.nx
                  have hrl := HRL.out
                  have hri := HRI.out.1
                  by_cases hlt : x < K.toNat
                  · have H := HIN.out
                    have hd : (List.range K.toNat).drop x = x :: (List.range K.toNat).drop (x + 1) := by
                      rw [List.drop_eq_getElem_cons (by simpa using hlt)]
                      simp
                    rw [hd] at H
                    clear HIN hd
                    simp only [detIn] at H
                    have hlt' : (x : Int) < K := by omega
                    have HLT := Aside0.mk hlt
                    cases hstp : stepF k N fr si (x : Int) with
                    | none => rw [hstp] at H; exact absurd H (by simp)
                    | some t =>
                      rw [hstp] at H
                      simp only [] at H
                      have hst := step_walk k rb K N _ _ _ fr si t (x : Int) wr _ HOK.out.n HFR.out HFL.out (HR5.out.below HD.out.below) HSET.out hstp
                      clear hstp
                      by_cases e3 : nx1.length < 1099511627776
                      · rw [if_pos e3] at H
                        cases hfi : row1.findIdx? (· == t) with
                        | some j =>
                          rw [hfi] at H
                          simp only [] at H
                          have HH2 := Aside0.mk H
                          clear H
                          go_wp2_with (first | ((with_reducible refine gate_dst (N := 63) rfl ?_); refine wpList_load_mid rfl 88 (.tmp 62) rfl gr2 (i * 16) rfl (wordsOf si) _ hrg2 Try.underlying88 rfl ?_ ?_; (focus (rw [i88]; simp [wordsOf, HSET.out.1]))) | (go_at_call 59; refine hst.mono ?_; rintro e w8 ⟨rfl, ht8, hb8⟩; have HT8 := Aside0.mk ht8; have HD9 := Aside0.mk ((HD.out.low hb8).low (below_alloc (Below.refl _ _) (.cells (wordsOf t).toArray 88))); have hlk := look_some HSS.out HND.out HT8.out hfi HD9.out.place; have hm4 : (w8.alloc (.cells (wordsOf t).toArray 88)).cell? ⟨M, 4, none⟩ = some (.slice An nx1.length cn) := (blk_cell HD9.out.m 4).trans rfl; clear ht8 hb8) | ((with_reducible refine gate_store (t := 88) (p := 13) rfl ?_); refine wpList_store_rowTo rfl 88 (.tmp 13) (.tmp 65) rfl rfl w8.heap.size (wordsOf t).toArray rfl rfl 88 _ (blk_new w8 _) ?_ ?_ (set_one t) ?_; (focus (rw [i88, set_len HT8.out])); (focus (rw [set_len HT8.out]; simp)); rw [World.setRow_alloc_new]; have hB9 := blk_new w8 (.cells (wordsOf t).toArray 88); generalize w8.alloc (.cells (wordsOf t).toArray 88) = w9 at HD9 hlk hm4 hB9 ⊢) | ((with_reducible refine gate_dst (N := 68) rfl ?_); refine wpList_load_row rfl 88 (.tmp 13) rfl w8.heap.size rfl 88 (wordsOf t).toArray (0, 0) _ hB9 Try.underlying88 rfl ?_ ?_; (focus (rw [i88, set_len HT8.out]))) | ((with_reducible refine gate_builtin (b := .append) (xs := #[.tmp 88, .tmp 90]) rfl ?_); at_builtin; (refine Kd.R_append (Kd.int .i64) (w0 := W5) W5.heap.size rfl (.tmp 88) (.tmp 90) 22 3 (.int .i64 0) 8 rfl Try.underlying22 info3 rfl (by decide) (by omega) (.slice An nx1.length cn) nx1 (j : Int) [.int .i64 (j : Int)] (fun _ => True) (fun _ => False) rfl rfl ?aP (fun _ hk => hk.elim) ?aF ?aO ?aB ?aS ?aL ?_; (case aP => exact rfl); (case aB => exact HD9.out.below); (case aF => exact (fun _ _ => trivial)); (case aO => exact HD9.out.nx); (case aS => exact HD9.out.below.size); (case aL => omega); intro v12 w12 ho hb hg hat; obtain ⟨A9, c9, rfl⟩ := Kd.R_slice ho; have hM1 := blk_grown HD9.out.m hg (Kd.R_ne HD9.out.nx HD9.out.m (by decide)); have hfz := blk_frozen hM1 4; have hcl : w12.cell? ⟨M, 4, none⟩ = some (.slice An nx1.length cn) := (blk_cell hM1 4).trans rfl; have HD12 := Aside0.mk (DetAt.nextAp HD9.out ho hb hg hat); clear ho hb hg hat hM1)))
                          clear hm4 hlk hcl hfz
                          go_roundw
                          case rel => exact ⟨x + 1, row1, nx1 ++ [(j : Int)], _, by go_num, ⟨by have := HLT.out; omega⟩, HH2, by simpa using HD12, HSS, HND, HRL, HRI⟩
                          case measure => have := HLT.out; simp [intOf]; omega
                        | none =>
                          rw [hfi] at H
                          simp only [] at H
                          by_cases e4 : row1.length = 1024
                          · rw [if_pos e4] at H
                            simp only [Option.some.injEq] at H
                            subst H
                            have hr0 := HNX.out
                            simp only [Option.some.injEq] at hr0
                            subst hr0
                            have hr := HRES.out
                            simp only [Option.some.injEq, Prod.mk.injEq] at hr
                            obtain ⟨rfl, rfl, rfl, rfl, rfl, rfl, rfl⟩ := hr
                            have e4b : (row1.length == 1024) = true := by simpa using e4
                            have e4c : ((row1.length : Int) == 1024) = true := by simp [e4]
                            go_wp2_with (first | ((with_reducible refine gate_dst (N := 63) rfl ?_); refine wpList_load_mid rfl 88 (.tmp 62) rfl gr2 (i * 16) rfl (wordsOf si) _ hrg2 Try.underlying88 rfl ?_ ?_; (focus (rw [i88]; simp [wordsOf, HSET.out.1]))) | (go_at_call 59; refine hst.mono ?_; rintro e w8 ⟨rfl, ht8, hb8⟩; have HT8 := Aside0.mk ht8; have HD9 := Aside0.mk ((HD.out.low hb8).low (below_alloc (Below.refl _ _) (.cells (wordsOf t).toArray 88))); have hlk := look_none HSS.out HT8.out hfi HD9.out.place; have hm4 : (w8.alloc (.cells (wordsOf t).toArray 88)).cell? ⟨M, 4, none⟩ = some (.slice An nx1.length cn) := (blk_cell HD9.out.m 4).trans rfl; clear ht8 hb8) | ((with_reducible refine gate_store (t := 88) (p := 13) rfl ?_); refine wpList_store_rowTo rfl 88 (.tmp 13) (.tmp 65) rfl rfl w8.heap.size (wordsOf t).toArray rfl rfl 88 _ (blk_new w8 _) ?_ ?_ (set_one t) ?_; (focus (rw [i88, set_len HT8.out])); (focus (rw [set_len HT8.out]; simp)); rw [World.setRow_alloc_new]; have hB9 := blk_new w8 (.cells (wordsOf t).toArray 88); generalize w8.alloc (.cells (wordsOf t).toArray 88) = w9 at HD9 hlk hm4 hB9 ⊢) | ((with_reducible refine gate_dst (N := 68) rfl ?_); refine wpList_load_row rfl 88 (.tmp 13) rfl w8.heap.size rfl 88 (wordsOf t).toArray (0, 0) _ hB9 Try.underlying88 rfl ?_ ?_; (focus (rw [i88, set_len HT8.out]))) | ((with_reducible refine gate_store (t := 43) (p := 2) rfl ?_); (refine wpList_store_rowTo rfl 43 (.tmp 2) (.tmp 77) rfl rfl (w.heap.size + 1) zero43 rfl rfl 43 _ (blk_below HZ5.out HD9.out.below) ?_ rfl zero43_one ?_; (focus (rw [i43]; rfl)))))
                            try simp only [Exit.inBlock, Exit.then]
                            refine bodyPost_ret (results_ct rfl _ _ (w.heap.size + 1) 43 zero43 (0, 0) _ rfl (setRow_heap _ (w.heap.size + 1) _ zero43 43 (0, 0) (blk_below HZ5.out HD9.out.below)) Try.underlying43 rfl (by rw [i43]; rfl)) rfl ?_
                            exact ⟨_, _, rfl, Kd.R_nil _ _ _ _ _, Kd.R_nil _ _ _ _ _, below_setRow (below_then HB5.out HB5.out.size HD9.out.below) (by omega) _⟩
                          · rw [if_neg e4] at H
                            have HH2 := Aside0.mk H
                            clear H
                            have e4b : (row1.length == 1024) = false := by simpa using e4
                            have e4c : ((row1.length : Int) == 1024) = false := by
                              have : ¬ ((row1.length : Int) = 1024) := by omega
                              simpa using this
                            go_wp2_with (first | ((with_reducible refine gate_dst (N := 63) rfl ?_); refine wpList_load_mid rfl 88 (.tmp 62) rfl gr2 (i * 16) rfl (wordsOf si) _ hrg2 Try.underlying88 rfl ?_ ?_; (focus (rw [i88]; simp [wordsOf, HSET.out.1]))) | (go_at_call 59; refine hst.mono ?_; rintro e w8 ⟨rfl, ht8, hb8⟩; have HT8 := Aside0.mk ht8; have HD9 := Aside0.mk ((HD.out.low hb8).low (below_alloc (Below.refl _ _) (.cells (wordsOf t).toArray 88))); have hlk := look_none HSS.out HT8.out hfi HD9.out.place; have hm4 : (w8.alloc (.cells (wordsOf t).toArray 88)).cell? ⟨M, 4, none⟩ = some (.slice An nx1.length cn) := (blk_cell HD9.out.m 4).trans rfl; clear ht8 hb8) | ((with_reducible refine gate_store (t := 88) (p := 13) rfl ?_); refine wpList_store_rowTo rfl 88 (.tmp 13) (.tmp 65) rfl rfl w8.heap.size (wordsOf t).toArray rfl rfl 88 _ (blk_new w8 _) ?_ ?_ (set_one t) ?_; (focus (rw [i88, set_len HT8.out])); (focus (rw [set_len HT8.out]; simp)); rw [World.setRow_alloc_new]; have hB9 := blk_new w8 (.cells (wordsOf t).toArray 88); generalize w8.alloc (.cells (wordsOf t).toArray 88) = w9 at HD9 hlk hm4 hB9 ⊢) | ((with_reducible refine gate_dst (N := 68) rfl ?_); refine wpList_load_row rfl 88 (.tmp 13) rfl w8.heap.size rfl 88 (wordsOf t).toArray (0, 0) _ hB9 Try.underlying88 rfl ?_ ?_; (focus (rw [i88, set_len HT8.out]))) | ((with_reducible refine gate_dst (N := 81) rfl ?_); refine wpList_load_row rfl 88 (.tmp 13) rfl w8.heap.size rfl 88 (wordsOf t).toArray (0, 0) _ hB9 Try.underlying88 rfl ?_ ?_; (focus (rw [i88, set_len HT8.out]))) | ((with_reducible refine gate_update rfl ?_); (refine wpList_place_put (row := row1) (t := t) (b := mb) rfl (.tmp 80) (.tmp 81) (.tmp 82) (.inr rfl) rfl rfl rfl rfl HSS.out HT8.out (not_mem_of_none hfi) HD9.out.place ?_; intro w10 hp10 hg10; have HD10 := Aside0.mk (HD9.out.placed hp10 hg10); have HT10 := Aside0.mk (blk_grown hB9 hg10 (fun he => place_blk_ne HD9.out.place hB9 (by injection he with he; exact he.symm))); clear hp10 hg10 hm4 hlk)) | ((with_reducible refine gate_dst (N := 84) rfl ?_); refine wpList_load_row rfl 88 (.tmp 13) rfl w8.heap.size rfl 88 (wordsOf t).toArray (0, 0) _ HT10.out Try.underlying88 rfl ?_ ?_; (focus (rw [i88, set_len HT8.out]))) | ((with_reducible refine gate_dst (N := 85) rfl ?_); (refine Kd.event_run rfl (exec_one_set rfl rfl HT8.out _) ?_)) | ((with_reducible refine gate_builtin (b := .append) (xs := #[.tmp 83, .tmp 85]) rfl ?_); at_builtin; (refine Kd.R_append kset (w0 := W5) W5.heap.size rfl (.tmp 83) (.tmp 85) 93 88 (.agg (Array.replicate 16 (.int .u64 0))) 128 rfl Try.underlying93 info88b rfl (by decide) (by omega) (.slice (some ⟨gr2, 0, none⟩) row1.length cr2) row1 t (wordsOf t) (fun _ => True) (fun _ => False) rfl rfl ?aP (fun _ hk => hk.elim) ?aF ?aO ?aB ?aS ?aL ?_; (case aP => exact ⟨HT8.out, rfl⟩); (case aB => exact HD10.out.below); (case aF => exact (fun _ _ => trivial)); (case aO => exact HD10.out.row); (case aS => exact HD10.out.below.size); (case aL => omega); intro v11 w11 ho hb hg hat; have HD11 := Aside0.mk (HD10.out.rowAp ho hb hg); have hm4 : w11.cell? ⟨M, 4, none⟩ = some (.slice An nx1.length cn) := (blk_cell HD11.out.m 4).trans rfl; clear ho hb hg hat)) | ((with_reducible refine gate_builtin (b := .append) (xs := #[.tmp 88, .tmp 90]) rfl ?_); at_builtin; (refine Kd.R_append (Kd.int .i64) (w0 := W5) W5.heap.size rfl (.tmp 88) (.tmp 90) 22 3 (.int .i64 0) 8 rfl Try.underlying22 info3 rfl (by decide) (by omega) (.slice An nx1.length cn) nx1 (row1.length : Int) [.int .i64 (row1.length : Int)] (fun _ => True) (fun _ => False) rfl rfl ?aP (fun _ hk => hk.elim) ?aF ?aO ?aB ?aS ?aL ?_; (case aP => exact rfl); (case aB => exact HD11.out.below); (case aF => exact (fun _ _ => trivial)); (case aO => exact HD11.out.nx); (case aS => exact HD11.out.below.size); (case aL => omega); intro v12 w12 ho hb hg hat; obtain ⟨A9, c9, rfl⟩ := Kd.R_slice ho; have hM1 := blk_grown HD11.out.m hg (Kd.R_ne HD11.out.nx HD11.out.m (by decide)); have hfz := blk_frozen hM1 4; have hcl : w12.cell? ⟨M, 4, none⟩ = some (.slice An nx1.length cn) := (blk_cell hM1 4).trans rfl; have HD12 := Aside0.mk (DetAt.nextAp HD11.out ho hb hg hat); clear ho hb hg hat hM1)))
                            clear hm4 hcl hfz
                            go_roundw
                            case rel =>
                              refine ⟨x + 1, row1 ++ [t], nx1 ++ [(row1.length : Int)], _, by go_num, ⟨by have := HLT.out; omega⟩, HH2, by simpa using HD12, ⟨?_⟩, ⟨?_⟩, ⟨?_⟩, ⟨?_, ?_⟩⟩
                              · intro q hq
                                rcases List.mem_append.1 hq with hq | hq
                                · exact HSS.out q hq
                                · simp only [List.mem_singleton] at hq; rw [hq]; exact HT8.out
                              · exact List.nodup_append.2 ⟨HND.out, by simp, fun a ha b hb he => by simp only [List.mem_singleton] at hb; exact not_mem_of_none hfi (by rw [← hb, ← he]; exact ha)⟩
                              · have h1 := HRL.out
                                have h2 : ¬ row1.length = 1024 := by intro h; rw [h] at e4b; cases e4b
                                simp only [List.length_append, List.length_singleton]
                                omega
                              · have := HRI.out.1
                                simp only [List.length_append, List.length_singleton]
                                omega
                              · rw [List.getD_eq_getElem?_getD, List.getElem?_append_left HRI.out.1, ← List.getD_eq_getElem?_getD]
                                exact HRI.out.2
                            case measure => have := HLT.out; simp [intOf]; omega
                      · rw [if_neg e3] at H; exact absurd H (by simp)
                  · have H := HIN.out
                    rw [List.drop_of_length_le (by simp; omega)] at H
                    simp only [detIn, Option.some.injEq] at H
                    subst H
                    have hlt' : ¬ ((x : Int) < K) := by omega
                    have hr := HNX.out
                    simp only [] at hr
                    go_wp2
                    go_roundg k1
                    case rel => exact ⟨i + 1, row1, nx1, _, out2, _, by go_num, ⟨hr⟩, ⟨by have := HK1.out; omega⟩, HD, HSS, HND, HRL⟩
                    case measure => have := HK1.out; omega
            · rw [if_neg e2] at H; exact absurd H (by simp)
          · rw [if_neg e1] at H
            have hlt' : ¬ ((i : Int) < (row.length : Int)) := by omega
            simp only [Option.some.injEq] at H
            subst H
            have hr := HRES.out
            simp only [Option.some.injEq, Prod.mk.injEq] at hr
            obtain ⟨rfl, rfl, rfl, rfl, rfl, rfl, rfl⟩ := hr
            obtain ⟨Ar, cr, rfl⟩ := Kd.R_slice HD.out.row
            obtain ⟨An, cn, rfl⟩ := Kd.R_slice HD.out.nx
            obtain ⟨Ao, co, rfl⟩ := Kd.R_slice HD.out.out
            have hfz := blk_frozen HD.out.m 3
            have hcl : wr.cell? ⟨M, 3, none⟩ = some (.int .i64 0) := (blk_cell HD.out.m 3).trans rfl
            have hM2 := blk_put HD.out.m 3 (.int .i64 (row.length : Int)) (cs' := #[.int .i64 1, .int .i64 K, .int .i64 2, .int .i64 (row.length : Int), .slice An nx.length cn, .slice Ao out.length co]) rfl
            have hZr := blk_below HZ5.out HD.out.below
            have hMZ : M ≠ w.heap.size + 1 := by
              have h1 := HD.out.hM
              have h2 := blk_lt HZ5.out
              omega
            have hZ2 := blk_far hZr (p := ⟨M, 3, none⟩) (fun e => hMZ e.symm) (.int .i64 (row.length : Int))
            have hone : (#[.int .i64 1, .int .i64 K, .int .i64 2, .int .i64 (row.length : Int), .slice An nx.length cn, .slice Ao out.length co] : Array Value).all (·.oneCell') = true := by simp [Value.oneCell']
            go_wp2_with (first | ((with_reducible refine gate_dst (N := 97) rfl ?_); (refine wpList_load_row rfl 43 (.tmp 10) rfl M rfl 43 #[.int .i64 1, .int .i64 K, .int .i64 2, .int .i64 (row.length : Int), .slice An nx.length cn, .slice Ao out.length co] (0, 0) _ hM2 Try.underlying43 rfl ?_ ?_; (focus (rw [i43]; rfl)))) | ((with_reducible refine gate_store (t := 43) (p := 2) rfl ?_); (refine wpList_store_rowTo rfl 43 (.tmp 2) (.tmp 97) rfl rfl (w.heap.size + 1) #[.int .i64 1, .int .i64 K, .int .i64 2, .int .i64 (row.length : Int), .slice An nx.length cn, .slice Ao out.length co] rfl rfl 43 _ hZ2 ?_ rfl hone ?_; (focus (rw [i43]; rfl)))))
            have hblk := setRow_heap _ (w.heap.size + 1) _ #[.int .i64 1, .int .i64 K, .int .i64 2, .int .i64 (row.length : Int), .slice An nx.length cn, .slice Ao out.length co] 43 (0, 0) hZ2
            try simp only [Exit.inBlock, Exit.then]
            refine bodyPost_ret (results_ct rfl _ _ (w.heap.size + 1) 43 #[.int .i64 1, .int .i64 K, .int .i64 2, .int .i64 (row.length : Int), .slice An nx.length cn, .slice Ao out.length co] (0, 0) _ rfl hblk Try.underlying43 rfl (by rw [i43]; rfl)) rfl ?_
            have hb5 : w.heap.size ≤ W5.heap.size := HB5.out.size
            have keep : ∀ (v : Value) (xs : List Int), Kd.R (Kd.int .i64) 3 wr W5.heap.size (fun _ => True) v xs → Kd.R (Kd.int .i64) 3 ((wr.setCell ⟨M, 3, none⟩ (.int .i64 (row.length : Int))).setRow (w.heap.size + 1) #[.int .i64 1, .int .i64 K, .int .i64 2, .int .i64 (row.length : Int), .slice An nx.length cn, .slice Ao out.length co]) w.heap.size (fun _ => True) v xs := by
              intro v xs h
              have h1 := Kd.R_far (Kd.R_tight rfl h) (p := ⟨M, 3, none⟩) (fun k hk he => Kd.R_ne h HD.out.m (by decide) (by rw [← hk]; show some M = some k; rw [he])) (.int .i64 (row.length : Int))
              have h2 := Kd.R_grown h1 (grown_setRow _ (w.heap.size + 1) #[.int .i64 1, .int .i64 K, .int .i64 2, .int .i64 (row.length : Int), .slice An nx.length cn, .slice Ao out.length co]) (fun k hk he => Kd.R_ne h hZr (by decide) (by rw [← hk]; exact he.symm))
              exact Kd.R_mono (Kd.R_lower h2 hb5) (fun _ _ => trivial)
            refine ⟨_, _, rfl, Kd.R_reok rfl (keep _ _ HD.out.nx) (fun k hk he => HD.out.apart k hk he.symm), Kd.R_reok rfl (keep _ _ HD.out.out) (fun k hk he => HD.out.apart k he.symm hk), ?_⟩
            exact below_setRow (below_then HB5.out hb5 (below_set HD.out.below HD.out.hM)) (by omega) _
end Go.Proofs.Ytkaefgmgcghhiaa.X
end

section
namespace Go.Proofs.Ytkaefgmgcghhiaa.X
open Go.RowKit Go.Proofs.YtkaefgmgcghhiaaW.PrintWords Go.Proofs.YtkaefgmgcghhiaaW.PrintLast Go.Proofs.YtkaefgmgcghhiaaW.PrintMore
def numsA (xs : List Int) : Array Value := (xs.map (Value.int .i64)).toArray
def cnX (K : Int) (nxl now : List Int) (s : Nat) : List Nat → Int → Option Int
  | [], sum => some sum
  | x :: r, sum => if (0 ≤ wrap64 (wrap64 ((s : Int) * K) + (x : Int)) ∧ wrap64 (wrap64 ((s : Int) * K) + (x : Int)) < (nxl.length : Int)) ∧ (0 ≤ rd nxl (wrap64 (wrap64 ((s : Int) * K) + (x : Int))) ∧ rd nxl (wrap64 (wrap64 ((s : Int) * K) + (x : Int))) < (now.length : Int))
    then cnX K nxl now s r (min (wrap64 (sum + rd now (rd nxl (wrap64 (wrap64 ((s : Int) * K) + (x : Int)))))) 1099511627777) else none
def cnS (K : Int) (nxl now : List Int) : List Nat → List Int → Option (List Int)
  | [], nx => some nx
  | s :: r, nx => match cnX K nxl now s (List.range K.toNat) 0 with
    | none => none
    | some sum => cnS K nxl now r (nx.set s sum)
def cnN (K N : Int) (nxl : List Int) : Nat → List Int → List Int → Option (List Int)
  | 0, now, _ => some now
  | n + 1, now, nx => match cnS K nxl now (List.range N.toNat) nx with
    | none => none
    | some nx1 => cnN K N nxl n nx1 nx1
def cnG (k : Nat) (kd K O N : Int) (nxl out : List Int) (n : Int) : Option (Int × Int) :=
  match nfa_dfa.f k kd K O N nxl out with
  | none => none
  | some e => if e ≠ 0 then some (0, e) else if n < 0 then some (0, 1) else if n > 4096 then some (0, 1) else
    if (1 ≤ N ∧ N ≤ 1024) ∧ (1 ≤ K ∧ K ≤ 64) ∧ (out.length : Int) = N then (match cnN K N nxl n.toNat out (List.replicate N.toNat 0) with
      | none => none
      | some now => if rd now 0 > 1099511627776 then some (0, 11) else some (rd now 0, 0)) else none
theorem nums_cell {w : World} {g : Nat} {xs : List Int} (h : w.heap[g]? = some (.cells (numsA xs) 3 (0, 0))) (j : Nat) (hj : j < xs.length) : w.cell? ⟨g, j, none⟩ = some (.int .i64 (rd xs j)) := by
  rw [blk_cell h]
  simp [numsA, rd, List.getD_eq_getElem?_getD, List.getElem?_eq_getElem hj]
theorem nums_set {w : World} {g : Nat} {xs : List Int} (h : w.heap[g]? = some (.cells (numsA xs) 3 (0, 0))) (j : Nat) (v : Int) : (w.setCell ⟨g, j, none⟩ (.int .i64 v)).heap[g]? = some (.cells (numsA (xs.set j v)) 3 (0, 0)) := by
  refine blk_put h j _ ?_
  simp [numsA, List.map_set]
theorem copy_row {d s : List Int} (h : s.length = d.length) : ((numsA d).toList.take 0 ++ (s.map (Value.int .i64) ++ (numsA d).toList.drop (0 + (s.map (Value.int .i64)).length))).toArray = numsA s := by
  simp [numsA, h]
theorem made_nums (n : Nat) : madeCells #[Value.int .i64 0] n = numsA (List.replicate n 0) := by
  apply Array.ext'
  simp only [madeCells, numsA]
  apply List.ext_getElem
  · simp
  · intro i h1 h2
    simp [Nat.mod_one]
theorem fresh_make {ops : Array Oper} {rest : List Oper} {o : Oper} {a : Act} {Q : Exit → Act → World → Prop} {W : World} (hgd : o.guard = none) {x : Operand} (ho : o.op = .makeSlice 22 x x) {N : Int} (hx : a.eval x = .int .i64 N) (h0 : 0 ≤ N) (h1 : N ≤ 1024)
    (h : ∀ w1, w1.heap[W.heap.size]? = some (.cells (numsA (List.replicate N.toNat 0)) 3 (0, 0)) → Below W.heap.size W w1 → wpList Try.prog ops Q rest (a.put o.dst (.slice (some ⟨W.heap.size, 0, none⟩) N.toNat N.toNat)) w1) : wpList Try.prog ops Q (o :: rest) a W := by
  have hmk := print_make_int 22 3 (.int .i64 0) 8 Try.underlying22 info3 rfl (by decide) N h0 (by omega) W
  refine Kd.event_run hgd (v := .slice (some ⟨W.heap.size, 0, none⟩) N.toNat N.toNat) (w1 := W.alloc (.cells (madeCells #[.int .i64 0] N.toNat) 3)) ?_ (h _ ?_ (below_alloc (Below.refl _ _) _))
  · unfold execOp
    simp [ho, hx, hmk, Result.andThen]
  · rw [← made_nums]
    exact blk_new W _
/-- copy(d, s) of two whole rows of one length. -/
theorem copy_whole {ops : Array Oper} {rest : List Oper} {o : Oper} {a : Act} {Q : Exit → Act → World → Prop} {W : World} (hgd : o.guard = none) (x y : Operand) (ho : o.op = .call { callee := .builtin .copy, args := #[x, y], argTypes := #[22, 22] })
    {g n m cd cs : Nat} {ad : Addr} {d s : List Int} (hx : a.eval x = .slice (some ⟨g, 0, none⟩) n cd) (hy : a.eval y = .slice (some ad) m cs) (hm : m = n) (hd : d.length = n) (hs : s.length = n)
    (hg : W.heap[g]? = some (.cells (numsA d) 3 (0, 0))) (hsrc : ∀ j v, (s.map (Value.int .i64))[j]? = some v → W.cell? (ad.add j) = some v)
    (h : ∀ w1, w1.heap[g]? = some (.cells (numsA s) 3 (0, 0)) → W.grownBy w1 (some g) → wpList Try.prog ops Q rest (a.put o.dst (goInt n)) w1) : wpList Try.prog ops Q (o :: rest) a W := by
  subst hm
  refine wpList_copy_own hgd x y 22 22 ho 3 Try.underlying22 (by kernel_rfl) g 0 m cd ad m cs hx hy (numsA d) 3 hg (s.map (Value.int .i64)) (by simp [hs]) hsrc (by simp [numsA, hs, hd]) (fun v hv => by
    obtain ⟨m, _, rfl⟩ := List.mem_map.1 hv
    rfl) ?_
  have hl : (s.map (Value.int .i64)).length = m := by simp [hs]
  rw [hl]
  refine h _ ?_ (grown_setRow _ _ _)
  have h2 := copy_row (d := d) (s := s) (by omega)
  rw [hl] at h2
  rw [h2]
  exact setRow_heap W g _ _ 3 (0, 0) hg
theorem nums_src {w : World} {g : Nat} {xs : List Int} (h : w.heap[g]? = some (.cells (numsA xs) 3 (0, 0))) : ∀ j v, (xs.map (Value.int .i64))[j]? = some v → w.cell? ((⟨g, 0, none⟩ : Addr).add j) = some v := by
  intro j v hj
  rw [Addr.add_mid, Nat.zero_add, blk_cell h]
  simpa [numsA] using hj
theorem args_src {w : World} {ad : Addr} {xs : List Int} {n : Nat} (h : Kd.C (Kd.int .i64) w (some ad) n xs) (hn : n = xs.length) : ∀ j v, (xs.map (Value.int .i64))[j]? = some v → w.cell? (ad.add j) = some v := by
  intro j v hj
  obtain ⟨x, hx, rfl⟩ := (by simpa using hj : ∃ x, xs[j]? = some x ∧ Value.int .i64 x = v)
  have hl := (List.getElem?_eq_some_iff.1 hx).1
  obtain ⟨ad2, e2, hc⟩ := Kd.at_int h (j : Int) (by omega) (by omega)
  cases e2
  rw [Int.toNat_natCast] at hc
  rw [hc]
  simp [rd, List.getD_eq_getElem?_getD, hx]
end Go.Proofs.Ytkaefgmgcghhiaa.X
end

section
namespace Go.Proofs.Ytkaefgmgcghhiaa.X
open Go.RowKit Go.Proofs.YtkaefgmgcghhiaaW.PrintWords Go.Proofs.YtkaefgmgcghhiaaW.PrintLast Go.Proofs.YtkaefgmgcghhiaaW.PrintMore
theorem min_flip (a c : Int) : (if c < a then c else a) = min a c := by
  split <;> omega
attribute [local go_sem] max2_int min2_int max_two min_two max_three min_three max_four min_four
set_option maxHeartbeats 8000000 in
set_option maxRecDepth 100000 in
theorem Count_walk (k : Nat) (kd K O N : Int) (A4 : Option Addr) (c4 : Nat) (nxl : List Int) (A5 : Option Addr) (c5 : Nat) (out : List Int) (n : Int) (r1 r2 : Int) (w : World)
    (hr4 : Kd.C (Kd.int .i64) w A4 nxl.length nxl) (hc4 : nxl.length ≤ c4) (hr5 : Kd.C (Kd.int .i64) w A5 out.length out) (hc5 : out.length ≤ c5) (h : cnG k kd K O N nxl out n = some (r1, r2)) :
    Calls Try.prog 39 #[.agg #[.int .i64 kd, .int .i64 K, .int .i64 O, .int .i64 N, .slice A4 nxl.length c4, .slice A5 out.length c5], .int .i64 n] w fun e w' => e = .returned (.tuple #[.int .i64 r1, .int .i64 r2]) ∧ Below w.heap.size w w' := by
  have hu43 := Try.underlying43
  have hu22 := Try.underlying22
  unfold cnG at h
  cases hd : nfa_dfa.f k kd K O N nxl out with
  | none => rw [hd] at h; exact absurd h (by simp)
  | some e0 =>
    rw [hd] at h
    simp only [] at h
    have hdf := fun (W : World) (hb : Below w.heap.size w W) => nfa_dfa.calls k kd K O N A4 c4 nxl A5 c5 out e0 W (Kd.C_below hr4 hb) hc4 (Kd.C_below hr5 hb) hc5 hd
    have H4 := Aside0.mk hr4
    have H5 := Aside0.mk hr5
    clear hr4 hr5 hd
    by_cases q1 : e0 ≠ 0
    · rw [if_pos q1] at h
      simp only [Option.some.injEq, Prod.mk.injEq] at h
      obtain ⟨rfl, rfl⟩ := h
      have q1b : (e0 != 0) = true := by simpa using q1
      clear q1
      go_enter Try.func39, Try.ntmps39
      go_wp2_with (go_at_call 68; refine (hdf _ (below_alloc (Below.refl _ _) _)).mono ?_; rintro e w1 ⟨rfl, hb1⟩)
      go_ret2
      exact ⟨rfl, below_step (below_alloc (Below.refl _ _) _) hb1⟩
    · rw [if_neg q1] at h
      have q0 : e0 = 0 := by omega
      subst q0
      clear q1
      by_cases q2 : n < 0
      · rw [if_pos q2] at h
        simp only [Option.some.injEq, Prod.mk.injEq] at h
        obtain ⟨rfl, rfl⟩ := h
        go_enter Try.func39, Try.ntmps39
        go_wp2_with (go_at_call 68; refine (hdf _ (below_alloc (Below.refl _ _) _)).mono ?_; rintro e w1 ⟨rfl, hb1⟩)
        go_ret2
        exact ⟨rfl, below_step (below_alloc (Below.refl _ _) _) hb1⟩
      · rw [if_neg q2] at h
        by_cases q3 : n > 4096
        · rw [if_pos q3] at h
          simp only [Option.some.injEq, Prod.mk.injEq] at h
          obtain ⟨rfl, rfl⟩ := h
          go_enter Try.func39, Try.ntmps39
          go_wp2_with (go_at_call 68; refine (hdf _ (below_alloc (Below.refl _ _) _)).mono ?_; rintro e w1 ⟨rfl, hb1⟩)
          go_ret2
          exact ⟨rfl, below_step (below_alloc (Below.refl _ _) _) hb1⟩
        · rw [if_neg q3] at h
          by_cases q4 : (1 ≤ N ∧ N ≤ 1024) ∧ (1 ≤ K ∧ K ≤ 64) ∧ (out.length : Int) = N
          · rw [if_pos q4] at h
            obtain ⟨⟨hN1, hN2⟩, ⟨hK1, hK2⟩, hol⟩ := q4
            cases hcn : cnN K N nxl n.toNat out (List.replicate N.toNat 0) with
            | none => rw [hcn] at h; exact absurd h (by simp)
            | some now0 =>
              rw [hcn] at h
              simp only [] at h
              have HH := Aside0.mk h
              have HCN := Aside0.mk hcn
              clear h hcn
              have HOL2 : Aside0 (out.length = N.toNat) := ⟨by omega⟩
              obtain ⟨ad5, e5, _⟩ := Kd.at_int H5.out 0 (by omega) (by omega)
              cases e5
              go_enter Try.func39, Try.ntmps39
              go_wp2_with (first | (go_at_call 68; refine (hdf _ (below_alloc (Below.refl _ _) _)).mono ?_; rintro e w1 ⟨rfl, hb1⟩; have HB1 := Aside0.mk (below_step (below_alloc (Below.refl w.heap.size w) (.cells #[.int .i64 kd, .int .i64 K, .int .i64 O, .int .i64 N, .slice A4 nxl.length c4, .slice (some ad5) out.length c5] 43)) hb1); have hbx := blk_below (blk_new w (.cells #[.int .i64 kd, .int .i64 K, .int .i64 O, .int .i64 N, .slice A4 nxl.length c4, .slice (some ad5) out.length c5] 43)) hb1; have HBX := Aside0.mk hbx; have hx3 : w1.cell? ⟨w.heap.size, 3, none⟩ = some (.int .i64 N) := (blk_cell hbx 3).trans rfl; have hx5 : w1.cell? ⟨w.heap.size, 5, none⟩ = some (.slice (some ad5) out.length c5) := (blk_cell hbx 5).trans rfl; clear hb1 hbx) | ((with_reducible refine gate_dst (N := 25) rfl ?_); (refine fresh_make rfl rfl rfl (by omega) hN2 ?_; intro w2 hg2 hb2; have HB2 := Aside0.mk (below_step HB1.out hb2); have HG2 := Aside0.mk hg2; have HBX2 := Aside0.mk (blk_below HBX.out hb2); have hx3 : w2.cell? ⟨w.heap.size, 3, none⟩ = some (.int .i64 N) := (blk_cell HBX2.out 3).trans rfl; have hx5 : w2.cell? ⟨w.heap.size, 5, none⟩ = some (.slice (some ad5) out.length c5) := (blk_cell HBX2.out 5).trans rfl; clear hg2 hb2)) | ((with_reducible refine gate_builtin (b := .copy) (xs := #[.tmp 26, .tmp 28]) rfl ?_); (refine copy_whole rfl (.tmp 26) (.tmp 28) rfl rfl rfl HOL2.out (by simp) HOL2.out HG2.out (args_src (Kd.C_below H5.out HB2.out) (by omega)) ?_; intro w3 hg3 hgr3; have HG3 := Aside0.mk hg3; have HB3 := Aside0.mk (pw_below_grown HB2.out _ HB2.out.size hgr3 (fun k hk => by injection hk with hk; rw [← hk]; exact HB1.out.size)); have HBX3 := Aside0.mk (blk_grown HBX2.out hgr3 (fun he => by injection he with he; have := blk_lt HBX.out; omega)); have hx3 : w3.cell? ⟨w.heap.size, 3, none⟩ = some (.int .i64 N) := (blk_cell HBX3.out 3).trans rfl; clear hg3 hgr3)) | ((with_reducible refine gate_dst (N := 32) rfl ?_); (refine fresh_make rfl rfl rfl (by omega) hN2 ?_; intro w4 hg4 hb4; have HB4 := Aside0.mk (below_step HB3.out hb4); have HG4 := Aside0.mk hg4; have HG34 := Aside0.mk (blk_below HG3.out hb4); have HBX4 := Aside0.mk (blk_below HBX3.out hb4); clear hg4 hb4)))
              clear hx3 hdf
              have HNB := Aside0.mk hol
              clear hol
              have hg1 : w1.heap.size ≠ w3.heap.size := by
                have := blk_lt HG3.out
                omega
              have hb12 : w.heap.size < w1.heap.size := blk_lt HBX.out
              generalize hg2q : w3.heap.size = g2 at HG4 hg1 ⊢
              have hlt2 : w.heap.size < g2 := by have := HB3.out.size; have := blk_lt HBX3.out; omega
              have hle2 : w.heap.size ≤ g2 := by omega
              generalize hg1q : w1.heap.size = g1 at HG34 hg1 hb12 ⊢
              clear hg1q hg2q
              go_loopw [34] (fun v34 wr => ∃ (i : Nat) (now nx : List Int), v34 = .int .i64 (i : Int) ∧ Aside0 (i ≤ n.toNat) ∧ Aside0 (cnN K N nxl (n.toNat - i) now nx = some now0) ∧ Aside0 (wr.heap[g1]? = some (.cells (numsA now) 3 (0, 0))) ∧ Aside0 (wr.heap[g2]? = some (.cells (numsA nx) 3 (0, 0))) ∧ Aside0 (wr.heap[w.heap.size]? = some (.cells #[.int .i64 kd, .int .i64 K, .int .i64 O, .int .i64 N, .slice A4 nxl.length c4, .slice (some ad5) out.length c5] 43 (0, 0))) ∧ Aside0 (Below w.heap.size w wr) ∧ Aside0 (now.length = N.toNat ∧ nx.length = N.toNat)) (fun v34 _ => n.toNat - (intOf v34).toNat)
              case atStart => exact ⟨0, out, List.replicate N.toNat 0, rfl, ⟨by omega⟩, by simpa using HCN, HG34, HG4, HBX4, HB4, ⟨HOL2.out, by simp⟩⟩
              case round =>
                clear HCN HG34 HG4 HBX4 HB4 HB3 HBX3 HG3 HBX2 HG2 HB2 HBX HB1 HOL2 HNB
                obtain ⟨i, now, nx, rfl, HI, HF, HG1, HG2, HBX, HB, HLN⟩ := hrel
                by_cases hlt : i < n.toNat
                · have H := HF.out
                  obtain ⟨m, hm⟩ : ∃ m, n.toNat - i = m + 1 := ⟨n.toNat - i - 1, by omega⟩
                  have hm2 : n.toNat - (i + 1) = m := by omega
                  rw [hm] at H
                  clear HF
                  simp only [cnN] at H
                  cases hcs : cnS K nxl now (List.range N.toNat) nx with
                  | none => rw [hcs] at H; exact absurd H (by simp)
                  | some nx1 =>
                    rw [hcs] at H
                    simp only [] at H
                    have HH2 := Aside0.mk H
                    have HCS := Aside0.mk hcs
                    have HM2 := Aside0.mk hm2
                    have HLT := Aside0.mk hlt
                    have hlt' : (i : Int) < n := by omega
                    have hx3 : wr.cell? ⟨w.heap.size, 3, none⟩ = some (.int .i64 N) := (blk_cell HBX.out 3).trans rfl
                    clear H hcs hm hm2
                    have hmx : max N 0 = N := by omega
                    go_wp2
                    clear hx3
                    go_loopw [38] (fun v38 wr2 => ∃ (q : Nat) (nx2 : List Int), v38 = .int .i64 (q : Int) ∧ Aside0 (q ≤ N.toNat) ∧ Aside0 (cnS K nxl now ((List.range N.toNat).drop q) nx2 = some nx1) ∧ Aside0 (wr2.heap[g1]? = some (.cells (numsA now) 3 (0, 0))) ∧ Aside0 (wr2.heap[g2]? = some (.cells (numsA nx2) 3 (0, 0))) ∧ Aside0 (wr2.heap[w.heap.size]? = some (.cells #[.int .i64 kd, .int .i64 K, .int .i64 O, .int .i64 N, .slice A4 nxl.length c4, .slice (some ad5) out.length c5] 43 (0, 0))) ∧ Aside0 (Below w.heap.size w wr2) ∧ Aside0 (now.length = N.toNat ∧ nx2.length = N.toNat)) (fun v38 _ => N.toNat - (intOf v38).toNat)
                    case atStart => exact ⟨0, nx, rfl, ⟨by omega⟩, HCS, HG1, HG2, HBX, HB, HLN⟩
                    case round =>
                      clear HCS HG1 HG2 HBX HB HLN
                      obtain ⟨q, nx2, rfl, HQI, HCS, HG1, HG2, HBX, HB, HLN⟩ := hrel
                      by_cases hq : q < N.toNat
                      · have H := HCS.out
                        have hd : (List.range N.toNat).drop q = q :: (List.range N.toNat).drop (q + 1) := by
                          rw [List.drop_eq_getElem_cons (by simpa using hq)]
                          simp
                        rw [hd] at H
                        clear HCS hd
                        simp only [cnS] at H
                        cases hcx : cnX K nxl now q (List.range K.toNat) 0 with
                        | none => rw [hcx] at H; exact absurd H (by simp)
                        | some sum =>
                          rw [hcx] at H
                          simp only [] at H
                          have HCS := Aside0.mk H
                          have HCX := Aside0.mk hcx
                          have HQ := Aside0.mk hq
                          have hq' : (q : Int) < N := by omega
                          have hx1 : wr.cell? ⟨w.heap.size, 1, none⟩ = some (.int .i64 K) := (blk_cell HBX.out 1).trans rfl
                          have hx4 : wr.cell? ⟨w.heap.size, 4, none⟩ = some (.slice A4 nxl.length c4) := (blk_cell HBX.out 4).trans rfl
                          clear H hcx
                          go_wp2
                          go_loopw [43, 10] (fun v43 v10 wr2 => ∃ (x : Nat) (sm : Int), v43 = .int .i64 (x : Int) ∧ v10 = .int .i64 sm ∧ Aside0 (x ≤ K.toNat) ∧ Aside0 (cnX K nxl now q ((List.range K.toNat).drop x) sm = some sum) ∧ Aside0 (wr2 = wr)) (fun v43 _ _ => K.toNat - (intOf v43).toNat)
                          case atStart => exact ⟨0, 0, rfl, rfl, ⟨by omega⟩, HCX, ⟨by first | trivial | rfl⟩⟩
                          case round =>
                            clear HCX
                            obtain ⟨x, sm, rfl, rfl, HXI, HCX, HWR⟩ := hrel
                            have hwr := HWR.out
                            subst hwr
                            clear HWR
                            by_cases hxk : x < K.toNat
                            · have H := HCX.out
                              have hd : (List.range K.toNat).drop x = x :: (List.range K.toNat).drop (x + 1) := by
                                rw [List.drop_eq_getElem_cons (by simpa using hxk)]
                                simp
                              rw [hd] at H
                              clear HCX hd
                              simp only [cnX] at H
                              obtain ⟨ji, hji⟩ : ∃ j_ : Int, wrap64 (wrap64 ((q : Int) * K) + (x : Int)) = j_ := ⟨_, rfl⟩
                              rw [hji] at H
                              have hjiw : IntKind.i64.wrap (wrap64 ((q : Int) * K) + (x : Int)) = ji := (i64_w _).trans hji
                              by_cases c1 : (0 ≤ ji ∧ ji < (nxl.length : Int)) ∧ (0 ≤ rd nxl ji ∧ rd nxl ji < (now.length : Int))
                              · rw [if_pos c1] at H
                                obtain ⟨⟨c1a, c1b⟩, c1c, c1d⟩ := c1
                                obtain ⟨ad4, e4, hxa⟩ := Kd.at_int (Kd.C_below H4.out HB.out) ji c1a c1b
                                cases e4
                                generalize rd nxl ji = t at H c1c c1d hxa
                                have ht : (t.toNat : Int) = t := Int.toNat_of_nonneg c1c
                                have hnt := nums_cell HG1.out t.toNat (by omega)
                                rw [ht] at hnt
                                have htN : t < N := by have := HLN.out.1; omega
                                generalize rd now t = y at H hnt
                                have HCX := Aside0.mk H
                                have HXK := Aside0.mk hxk
                                have hxk' : (x : Int) < K := by omega
                                clear H ht c1d
                                go_wp2
                                go_roundw
                                case rel => exact ⟨x + 1, min (wrap64 (sm + y)) 1099511627777, by go_num, by rw [min_flip], ⟨by have := HXK.out; omega⟩, HCX, ⟨trivial⟩⟩
                                case measure => have := HXK.out; simp [intOf]; omega
                              · rw [if_neg c1] at H; exact absurd H (by simp)
                            · have H := HCX.out
                              rw [List.drop_of_length_le (by simp; omega)] at H
                              simp only [cnX, Option.some.injEq] at H
                              subst H
                              have hxk' : ¬ ((x : Int) < K) := by omega
                              have hcl := nums_cell HG2.out q (by have := HLN.out.2; have := HQ.out; omega)
                              have hfz := blk_frozen HG2.out q
                              go_wp2
                              go_roundw
                              case rel => exact ⟨q + 1, nx2.set q sm, by go_num, ⟨by have := HQ.out; omega⟩, HCS, ⟨blk_far HG1.out (by show g1 ≠ g2; exact hg1) _⟩, ⟨nums_set HG2.out q sm⟩, ⟨blk_far HBX.out (by show w.heap.size ≠ g2; omega) _⟩, ⟨below_set HB.out hle2⟩, ⟨HLN.out.1, by rw [List.length_set]; exact HLN.out.2⟩⟩
                              case measure => have := HQ.out; simp [intOf]; omega
                      · have H := HCS.out
                        rw [List.drop_of_length_le (by simp; omega)] at H
                        simp only [cnS, Option.some.injEq] at H
                        subst H
                        have hq' : ¬ ((q : Int) < N) := by omega
                        go_wp2_with ((with_reducible refine gate_builtin (b := .copy) (xs := #[.tmp 68, .tmp 69]) rfl ?_); (refine copy_whole rfl (.tmp 68) (.tmp 69) rfl rfl rfl rfl HLN.out.1 HLN.out.2 HG1.out (nums_src HG2.out) ?_; intro w5 hg5 hgr5; have HG5 := Aside0.mk hg5; have HG25 := Aside0.mk (blk_grown HG2.out hgr5 (fun he => by injection he with he; exact hg1 he.symm)); have HBX5 := Aside0.mk (blk_grown HBX.out hgr5 (fun he => by injection he with he; omega)); have HB5 := Aside0.mk (pw_below_grown HB.out _ HB.out.size hgr5 (fun k hk => by injection hk with hk; omega)); clear hg5 hgr5))
                        have hlt3 := HLT.out
                        refine ⟨⟨_, _, _, _, ⟨i + 1, rfl, ⟨by omega⟩, nx2, nx2, ⟨by rw [HM2.out]; exact HH2.out⟩, HG5, HG25, ⟨HLN.out.2, HLN.out.2⟩⟩, rfl, rfl, rfl, by go_num⟩, ?_⟩
                        simp [intOf]
                        omega
                · have hlt' : ¬ ((i : Int) < n) := by omega
                  have H := HF.out
                  have h0 : n.toNat - i = 0 := by omega
                  rw [h0] at H
                  simp only [cnN, Option.some.injEq] at H
                  subst H
                  have hr := HH.out
                  have hnl := HLN.out.1
                  have hc0 := nums_cell HG1.out 0 (by omega)
                  rw [Int.natCast_zero] at hc0
                  clear hnl h0
                  by_cases q5 : rd now 0 > 1099511627776
                  · rw [if_pos q5] at hr
                    simp only [Option.some.injEq, Prod.mk.injEq] at hr
                    obtain ⟨rfl, rfl⟩ := hr
                    go_wp2
                    go_ret2
                    exact ⟨rfl, HB.out⟩
                  · rw [if_neg q5] at hr
                    simp only [Option.some.injEq, Prod.mk.injEq] at hr
                    obtain ⟨rfl, rfl⟩ := hr
                    go_wp2
                    go_ret2
                    exact ⟨rfl, HB.out⟩
          · rw [if_neg q4] at h; exact absurd h (by simp)
end Go.Proofs.Ytkaefgmgcghhiaa.X
end

section
namespace Go.Proofs.Ytkaefgmgcghhiaa.X
open Go.RowKit Go.Proofs.YtkaefgmgcghhiaaW.PrintWords Go.Proofs.YtkaefgmgcghhiaaW.PrintLast Go.Proofs.YtkaefgmgcghhiaaW.PrintMore
def big : Nat := 200000
def nfa_Accepts.f (a0_0 a0_1 : Int) (l0_2 l0_3 : List Int) (l0_4 : List S80) (l1 : List Int) : Option (Bool × Int) := accF big a0_0 a0_1 l0_2 l0_3 l0_4 l1
theorem nfa_Accepts.calls (a0_0 : Int) (a0_1 : Int) (A0_2 : Option Addr) (c0_2 : Nat) (l0_2 : List Int) (A0_3 : Option Addr) (c0_3 : Nat) (l0_3 : List Int) (A0_4 : Option Addr) (c0_4 : Nat) (l0_4 : List (S80)) (A1 : Option Addr) (c1 : Nat) (l1 : List Int) (r1 : Bool) (r2 : Int) (w : World) (hr0_2 : Kd.C (Kd.int .i64) w A0_2 l0_2.length l0_2) (hc0_2 : l0_2.length ≤ c0_2) (hr0_3 : Kd.C (Kd.int .i64) w A0_3 l0_3.length l0_3) (hc0_3 : l0_3.length ≤ c0_3) (hr0_4 : Kd.C k80 w A0_4 l0_4.length l0_4) (hc0_4 : l0_4.length ≤ c0_4) (hr1 : Kd.C (Kd.int .i64) w A1 l1.length l1) (hc1 : l1.length ≤ c1) (h : nfa_Accepts.f a0_0 a0_1 l0_2 l0_3 l0_4 l1 = some (r1, r2)) :
    Calls Try.prog 20 #[.agg #[.int .i64 a0_0, .int .i64 a0_1, .slice A0_2 l0_2.length c0_2, .slice A0_3 l0_3.length c0_3, .slice A0_4 l0_4.length c0_4], .slice A1 l1.length c1] w fun e w' => e = .returned (.tuple #[.bool r1, .int .i64 r2]) ∧ Below w.heap.size w w' :=
  Accepts_walk big a0_0 a0_1 A0_2 c0_2 l0_2 A0_3 c0_3 l0_3 A0_4 c0_4 l0_4 A1 c1 l1 r1 r2 w hr0_2 hr0_3 hr0_4 hr1 hc0_2 hc0_3 hc0_4 hc1 h
def nfa_Determine.f (a0_0 a0_1 : Int) (l0_2 l0_3 : List Int) (l0_4 : List S80) : Option (Int × Int × Int × Int × List Int × List Int × Int) := detG big a0_0 a0_1 l0_2 l0_3 l0_4
theorem nfa_Determine.calls (a0_0 : Int) (a0_1 : Int) (A0_2 : Option Addr) (c0_2 : Nat) (l0_2 : List Int) (A0_3 : Option Addr) (c0_3 : Nat) (l0_3 : List Int) (A0_4 : Option Addr) (c0_4 : Nat) (l0_4 : List (S80)) (r1 : Int) (r2 : Int) (r3 : Int) (r4 : Int) (r5 : List Int) (r6 : List Int) (r7 : Int) (w : World) (hr0_2 : Kd.C (Kd.int .i64) w A0_2 l0_2.length l0_2) (hc0_2 : l0_2.length ≤ c0_2) (hr0_3 : Kd.C (Kd.int .i64) w A0_3 l0_3.length l0_3) (hc0_3 : l0_3.length ≤ c0_3) (hr0_4 : Kd.C k80 w A0_4 l0_4.length l0_4) (hc0_4 : l0_4.length ≤ c0_4) (h : nfa_Determine.f a0_0 a0_1 l0_2 l0_3 l0_4 = some (r1, r2, r3, r4, r5, r6, r7)) :
    Calls Try.prog 22 #[.agg #[.int .i64 a0_0, .int .i64 a0_1, .slice A0_2 l0_2.length c0_2, .slice A0_3 l0_3.length c0_3, .slice A0_4 l0_4.length c0_4]] w fun e w' => ∃ v4_ v5_ : Value, e = .returned (.tuple #[.agg #[.int .i64 r1, .int .i64 r2, .int .i64 r3, .int .i64 r4, v4_, v5_], .int .i64 r7]) ∧ Kd.R (Kd.int .i64) 3 w' w.heap.size (fun k_ => some k_ ≠ (v5_ : Value).ownBlock) v4_ r5 ∧ Kd.R (Kd.int .i64) 3 w' w.heap.size (fun k_ => some k_ ≠ (v4_ : Value).ownBlock) v5_ r6 ∧ Below w.heap.size w w' :=
  Determine_walk big a0_0 a0_1 A0_2 c0_2 l0_2 A0_3 c0_3 l0_3 A0_4 c0_4 l0_4 r1 r2 r3 r4 r5 r6 r7 w hr0_2 hr0_3 hr0_4 h
def nfa_Count.f (a0_0 a0_1 a0_2 a0_3 : Int) (l0_4 l0_5 : List Int) (a1 : Int) : Option (Int × Int) := cnG big a0_0 a0_1 a0_2 a0_3 l0_4 l0_5 a1
theorem nfa_Count.calls (a0_0 : Int) (a0_1 : Int) (a0_2 : Int) (a0_3 : Int) (A0_4 : Option Addr) (c0_4 : Nat) (l0_4 : List Int) (A0_5 : Option Addr) (c0_5 : Nat) (l0_5 : List Int) (a1 : Int) (r1 : Int) (r2 : Int) (w : World) (hr0_4 : Kd.C (Kd.int .i64) w A0_4 l0_4.length l0_4) (hc0_4 : l0_4.length ≤ c0_4) (hr0_5 : Kd.C (Kd.int .i64) w A0_5 l0_5.length l0_5) (hc0_5 : l0_5.length ≤ c0_5) (h : nfa_Count.f a0_0 a0_1 a0_2 a0_3 l0_4 l0_5 a1 = some (r1, r2)) :
    Calls Try.prog 39 #[.agg #[.int .i64 a0_0, .int .i64 a0_1, .int .i64 a0_2, .int .i64 a0_3, .slice A0_4 l0_4.length c0_4, .slice A0_5 l0_5.length c0_5], .int .i64 a1] w fun e w' => e = .returned (.tuple #[.int .i64 r1, .int .i64 r2]) ∧ Below w.heap.size w w' :=
  Count_walk big a0_0 a0_1 a0_2 a0_3 A0_4 c0_4 l0_4 A0_5 c0_5 l0_5 a1 r1 r2 w hr0_4 hc0_4 hr0_5 hc0_5 h
end Go.Proofs.Ytkaefgmgcghhiaa.X
end

section
namespace Go.Proofs.Ytkaefgmgcghhiaa.X
set_option maxRecDepth 100000
theorem liveA : nfa_Accepts.f 2 2 [0] [0, 1] [⟨0, 0, 0⟩, ⟨0, 1, 0⟩, ⟨0, 1, 1⟩] [0, 1] = some (true, 0) := by decide +kernel
theorem liveD : nfa_Determine.f 2 2 [0] [0, 1] [⟨0, 0, 0⟩, ⟨0, 1, 0⟩, ⟨0, 1, 1⟩] = some (1, 2, 2, 2, [0, 1, 0, 1], [0, 1], 0) := by kernel_rfl
theorem liveC : nfa_Count.f 1 2 2 2 [0, 1, 0, 1] [0, 1] 3 = some (4, 0) := by decide +kernel
end Go.Proofs.Ytkaefgmgcghhiaa.X
end

section
namespace Go.Proofs.Ytkaefgmgcghhiaa.X
open Go.RowKit Go.Proofs.YtkaefgmgcghhiaaW.PrintWords Go.Proofs.YtkaefgmgcghhiaaW.PrintLast Go.Proofs.YtkaefgmgcghhiaaW.PrintMore
theorem w64 {i : Int} (h0 : -9223372036854775808 ≤ i) (h : i ≤ 9223372036854775807) : wrap64 i = i := by unfold wrap64; omega
end Go.Proofs.Ytkaefgmgcghhiaa.X
end

section
namespace Go.Proofs.Ytkaefgmgcghhiaa.X
open Go.RowKit Go.Proofs.YtkaefgmgcghhiaaW.PrintWords Go.Proofs.YtkaefgmgcghhiaaW.PrintLast Go.Proofs.YtkaefgmgcghhiaaW.PrintMore
/-- Which words are right, and where the first fault is. -/
def wordAt (K : Int) : List Int → Int → Int × Int
  | [], _ => (0, 0)
  | x :: r, i => if x < 0 then (i, 10) else if x ≥ K then (i, 10) else wordAt K r (i + 1)
theorem prog_l0 (K : Int) (u : List Int) (hb : u.length ≤ 100000) : ∀ (d k i : Nat), i + d = u.length → d < k → word_Check.l0 k u K (u.length : Int) (i : Int) = some (wordAt K (u.drop i) i) := by
  intro d
  induction d with
  | zero =>
    intro k i h hk
    obtain ⟨k, rfl⟩ : ∃ m, k = m + 1 := ⟨k - 1, by omega⟩
    rw [word_Check.l0, if_neg (by omega), List.drop_of_length_le (by omega)]
    rfl
  | succ d ih =>
    intro k i h hk
    obtain ⟨k, rfl⟩ : ∃ m, k = m + 1 := ⟨k - 1, by omega⟩
    have hi : i < u.length := by omega
    rw [word_Check.l0, if_pos (by omega), if_pos (by omega), if_pos (by omega), rdq hi, List.drop_eq_getElem_cons hi, w64q (by omega), ih k (i + 1) (by omega) (by omega), wordAt]
    split
    · rfl
    · split <;> rfl
theorem word_ref_l0 (K : Int) (u : List Int) (hb : u.length ≤ 100000) : ∀ (d k i : Nat), i + d = u.length → d < k → tutorref01_Check.l0 k u K (i : Int) = some (wordAt K (u.drop i) i) := by
  intro d
  induction d with
  | zero =>
    intro k i h hk
    obtain ⟨k, rfl⟩ : ∃ m, k = m + 1 := ⟨k - 1, by omega⟩
    rw [tutorref01_Check.l0, if_neg (by omega), List.drop_of_length_le (by omega)]
    rfl
  | succ d ih =>
    intro k i h hk
    obtain ⟨k, rfl⟩ : ∃ m, k = m + 1 := ⟨k - 1, by omega⟩
    have hi : i < u.length := by omega
    rw [tutorref01_Check.l0, if_pos (by omega), if_pos (by omega), rdq hi, List.drop_eq_getElem_cons hi, w64q (by omega), ih k (i + 1) (by omega) (by omega), wordAt]
    split
    · rfl
    · split <;> rfl
def wordCk (K : Int) (u : List Int) : Int × Int := if K < 1 ∨ K > 64 then (0, 1) else if (u.length : Int) > 4096 then (0, 2) else wordAt K u 0
theorem word_prog {K : Int} {u : List Int} {k : Nat} (hk : 5000 ≤ k) : word_Check.f k u K = some (wordCk K u) := by
  unfold word_Check.f word_alphabet.f wordCk
  by_cases h1 : K ≥ 1
  · rw [if_pos h1]
    by_cases h2 : K ≤ 64
    · rw [decide_eq_true h2, Option.bind_some, if_pos rfl, if_neg (show ¬ (K < 1 ∨ K > 64) by omega)]
      by_cases h3 : (u.length : Int) > 4096
      · rw [if_pos h3, if_pos h3]
      · rw [if_neg h3, if_neg h3]
        have := prog_l0 K u (by omega) u.length k 0 (by omega) (by omega)
        simpa using this
    · rw [decide_eq_false h2, Option.bind_some, if_neg (by simp), if_pos (by omega)]
  · rw [if_neg h1, Option.bind_some, if_neg (by simp), if_pos (by omega)]
theorem word_ref {K : Int} {u : List Int} {k : Nat} (hk : 5000 ≤ k) : tutorref01_Check.f k u K = some (wordCk K u) := by
  unfold tutorref01_Check.f wordCk
  obtain ⟨k, rfl⟩ : ∃ m, k = m + 1 := ⟨k - 1, by omega⟩
  by_cases h1 : K < 1
  · rw [if_pos h1, tutorref01_Check.j0, if_pos rfl, if_pos (by omega)]
  · rw [if_neg h1, tutorref01_Check.j0]
    by_cases h2 : K > 64
    · rw [decide_eq_true h2, if_pos rfl, if_pos (by omega)]
    · rw [decide_eq_false h2, if_neg (by simp), if_neg (show ¬ (K < 1 ∨ K > 64) by omega)]
      by_cases h3 : (u.length : Int) > 4096
      · rw [if_pos h3, if_pos h3]
      · rw [if_neg h3, if_neg h3]
        have := word_ref_l0 K u (by omega) u.length k 0 (by omega) (by omega)
        simpa using this
theorem wordCk_short {K : Int} {u : List Int} (h : (wordCk K u).2 = 0) : u.length ≤ 4096 := by
  unfold wordCk at h
  split at h
  · simp at h
  · split at h
    · simp at h
    · omega
end Go.Proofs.Ytkaefgmgcghhiaa.X
end

section
namespace Go.Proofs.Ytkaefgmgcghhiaa.X
open Go.RowKit Go.Proofs.YtkaefgmgcghhiaaW.PrintWords Go.Proofs.YtkaefgmgcghhiaaW.PrintLast Go.Proofs.YtkaefgmgcghhiaaW.PrintMore
/-- Rows of sets, and where their symbols lead, so far. -/
structure Det (k : Nat) (K N : Int) (F : List Int) (fr : List (List S80)) (s0 : List Nat) (i : Nat) (row : List (List Nat)) (nx out : List Int) : Prop where
  first : row[0]? = some s0
  sets : ∀ s ∈ row, ∃ P, SetIs N s P
  nodup : row.Nodup
  len : i ≤ row.length ∧ row.length ≤ 1024
  nxl : nx.length = i * K.toNat
  outl : out.length = i
  next : ∀ a x, a < i → x < K.toNat → ∃ s t n, row[a]? = some s ∧ stepF k N fr s (x : Int) = some t ∧ nx[a * K.toNat + x]? = some ((n : Nat) : Int) ∧ row[n]? = some t
  says : ∀ a, a < i → ∃ s, row[a]? = some s ∧ out[a]? = some (fiRow s F 0)
theorem get_app {α : Type} {l : List α} {i : Nat} {a : α} (h : l[i]? = some a) (r : List α) : (l ++ r)[i]? = some a := by
  have := (List.getElem?_eq_some_iff.1 h).1
  rw [List.getElem?_append_left this]
  exact h
end Go.Proofs.Ytkaefgmgcghhiaa.X
end

section
namespace Go.Proofs.Ytkaefgmgcghhiaa.X
open Go.RowKit Go.Proofs.YtkaefgmgcghhiaaW.PrintWords Go.Proofs.YtkaefgmgcghhiaaW.PrintLast Go.Proofs.YtkaefgmgcghhiaaW.PrintMore
/-- A right acceptor. -/
structure RightD (K N : Int) (nx out : List Int) : Prop where
  k : 1 ≤ K ∧ K ≤ 64
  n : 1 ≤ N ∧ N ≤ 1024
  nxl : nx.length = N.toNat * K.toNat
  outl : out.length = N.toNat
  nxr : ∀ x ∈ nx, 0 ≤ x ∧ x < N
  outr : ∀ x ∈ out, 0 ≤ x ∧ x < 2
theorem ck_l1 (kd K O N : Int) (nx out : List Int) (hb : out.length ≤ 100000) (ho : ∀ x ∈ out, 0 ≤ x ∧ x < O) : ∀ (d k i : Nat), i + d = out.length → d < k → tutorref03_Check.l1 k (i : Int) kd K O N nx out = some (0, 0) := by
  intro d
  induction d with
  | zero =>
    intro k i h hk
    obtain ⟨k, rfl⟩ : ∃ m, k = m + 1 := ⟨k - 1, by omega⟩
    rw [tutorref03_Check.l1, if_neg (by omega)]
  | succ d ih =>
    intro k i h hk
    obtain ⟨k, rfl⟩ : ∃ m, k = m + 1 := ⟨k - 1, by omega⟩
    have hi : i < out.length := by omega
    have := ho out[i] (List.getElem_mem hi)
    rw [tutorref03_Check.l1, if_pos (by omega), if_pos (by omega), rdq hi, if_neg (by omega), if_neg (by omega), w64q (by omega)]
    exact ih k (i + 1) (by omega) (by omega)
theorem ck_l0 (kd K O N : Int) (nx out : List Int) (hb : out.length ≤ 100000) (hb2 : nx.length ≤ 100000) (hn : ∀ x ∈ nx, 0 ≤ x ∧ x < N) (ho : ∀ x ∈ out, 0 ≤ x ∧ x < O) : ∀ (d k i : Nat), i + d = nx.length → d + out.length + 1 < k → tutorref03_Check.l0 k (i : Int) kd K O N nx out = some (0, 0) := by
  intro d
  induction d with
  | zero =>
    intro k i h hk
    obtain ⟨k, rfl⟩ : ∃ m, k = m + 1 := ⟨k - 1, by omega⟩
    rw [tutorref03_Check.l0, if_neg (by omega)]
    exact ck_l1 kd K O N nx out hb ho out.length k 0 (by omega) (by omega)
  | succ d ih =>
    intro k i h hk
    obtain ⟨k, rfl⟩ : ∃ m, k = m + 1 := ⟨k - 1, by omega⟩
    have hi : i < nx.length := by omega
    have := hn nx[i] (List.getElem_mem hi)
    rw [tutorref03_Check.l0, if_pos (by omega), if_pos (by omega), rdq hi, if_neg (by omega), if_neg (by omega), w64q (by omega)]
    exact ih k (i + 1) (by omega) (by omega)
theorem toNat_mul {a b : Int} (ha : 0 ≤ a) (hb : 0 ≤ b) : ((a.toNat * b.toNat : Nat) : Int) = a * b := by
  rw [Int.natCast_mul, Int.toNat_of_nonneg ha, Int.toNat_of_nonneg hb]
theorem RightD.size {K N : Int} {nx out : List Int} (R : RightD K N nx out) : nx.length ≤ 65536 := by
  have h1 := R.k
  have h2 := R.n
  rw [R.nxl]
  exact Nat.mul_le_mul (show N.toNat ≤ 1024 by omega) (show K.toNat ≤ 64 by omega)
theorem RightD.nk {K N : Int} {nx out : List Int} (R : RightD K N nx out) : ((nx.length : Nat) : Int) = N * K := by
  have h1 := R.k
  have h2 := R.n
  rw [R.nxl, toNat_mul (by omega) (by omega)]
theorem ck_ok {K N : Int} {nx out : List Int} (R : RightD K N nx out) {k : Nat} (hk : 200000 ≤ k) : tutorref03_Check.f k 1 K 2 N nx out = some (0, 0) := by
  have h1 := R.k
  have h2 := R.n
  have h3 := R.size
  have h4 := R.nk
  have h5 := R.outl
  obtain ⟨k, rfl⟩ : ∃ m, k = m + 6 := ⟨k - 6, by omega⟩
  unfold tutorref03_Check.f
  rw [if_pos rfl, tutorref03_Check.j0, if_neg (by simp), if_neg (by omega), tutorref03_Check.j1, decide_eq_false (by omega), if_neg (by simp), if_pos rfl, if_pos rfl, if_neg (by omega), decide_eq_false (by omega), tutorref03_Check.j2, if_neg (by simp),
    if_neg (by omega), decide_eq_false (by omega), tutorref03_Check.j3, if_neg (by simp), if_neg (by omega), tutorref03_Check.j4, ← h4, w64 (by omega) (by omega), if_pos rfl]
  have : ((out.length : Int) != N) = false := by simp; omega
  rw [this, tutorref03_Check.j5, if_neg (by simp)]
  exact ck_l0 1 K 2 N nx out (by omega) (by omega) R.nxr R.outr nx.length k 0 (by omega) (by omega)
/-- Where a word leads. -/
def goTo (K : Int) (nx : List Int) : Nat → List Int → Nat
  | a, [] => a
  | a, x :: u => goTo K nx (rd nx (((a * K.toNat + x.toNat : Nat) : Int))).toNat u
theorem idx_lt {K N : Int} {nx out : List Int} (R : RightD K N nx out) {a : Nat} {x : Int} (ha : a < N.toNat) (h0 : 0 ≤ x) (h1 : x < K) : a * K.toNat + x.toNat < nx.length := by
  rw [R.nxl]
  have : (a + 1) * K.toNat ≤ N.toNat * K.toNat := Nat.mul_le_mul_right _ ha
  rw [Nat.succ_mul] at this
  omega
theorem idx_eq {K N : Int} {nx out : List Int} (R : RightD K N nx out) {a : Nat} {x : Int} (ha : a < N.toNat) (h0 : 0 ≤ x) (h1 : x < K) : wrap64 (wrap64 ((a : Int) * K) + x) = ((a * K.toNat + x.toNat : Nat) : Int) := by
  have h2 := idx_lt R ha h0 h1
  have h3 := R.size
  have h4 := R.k
  have h5 : ((a * K.toNat : Nat) : Int) = (a : Int) * K := by rw [Int.natCast_mul, Int.toNat_of_nonneg (by omega)]
  have h6 : wrap64 ((a : Int) * K) = ((a * K.toNat : Nat) : Int) := by rw [← h5]; exact w64 (by omega) (by omega)
  rw [h6, w64 (by omega) (by omega)]
  omega
theorem go_l0 {K N : Int} {nx out : List Int} (R : RightD K N nx out) (w : List Int) (hw : w.length ≤ 100000) (hx : ∀ x ∈ w, 0 ≤ x ∧ x < K) : ∀ (d k i a : Nat), i + d = w.length → d < k → a < N.toNat →
    tutorref03_Go.l0 k (a : Int) w [] (i : Int) 1 K 2 N nx out = some (((goTo K nx a (w.drop i) : Nat) : Int), [rd out ((goTo K nx a (w.drop i) : Nat) : Int)]) := by
  intro d
  induction d with
  | zero =>
    intro k i a h hk ha
    obtain ⟨k, rfl⟩ : ∃ m, k = m + 1 := ⟨k - 1, by omega⟩
    have h5 := R.outl
    rw [tutorref03_Go.l0, if_neg (by omega), if_pos rfl, if_pos (by omega), if_pos (by omega), List.drop_of_length_le (by omega)]
    rfl
  | succ d ih =>
    intro k i a h hk ha
    obtain ⟨k, rfl⟩ : ∃ m, k = m + 1 := ⟨k - 1, by omega⟩
    have hi : i < w.length := by omega
    have hxi := hx w[i] (List.getElem_mem hi)
    have hl := idx_lt R ha hxi.1 hxi.2
    have hn := R.nxr _ (List.getElem_mem hl)
    rw [tutorref03_Go.l0, if_pos (by omega), if_neg (by omega), if_pos (by omega), rdq hi, idx_eq R ha hxi.1 hxi.2, if_pos (by omega), if_pos (by omega), rdq hl, w64q (by omega), List.drop_eq_getElem_cons hi]
    have hq := ih k (i + 1) (nx[a * K.toNat + w[i].toNat]).toNat (by omega) (by omega) (by omega)
    rw [Int.toNat_of_nonneg hn.1] at hq
    rw [hq, goTo, rdq hl]
theorem wordAt_ok {K : Int} : ∀ (u : List Int) (i : Int), (wordAt K u i).2 = 0 → ∀ x ∈ u, 0 ≤ x ∧ x < K
  | [], _, _, x, hx => by cases hx
  | y :: u, i, h, x, hx => by
    rw [wordAt] at h
    by_cases h1 : y < 0
    · rw [if_pos h1] at h; simp at h
    · rw [if_neg h1] at h
      by_cases h2 : y ≥ K
      · rw [if_pos h2] at h; simp at h
      · rw [if_neg h2] at h
        rcases List.mem_cons.1 hx with rfl | hx
        · omega
        · exact wordAt_ok u _ h x hx
theorem wordCk_ok {K : Int} {u : List Int} (h : (wordCk K u).2 = 0) : (1 ≤ K ∧ K ≤ 64) ∧ u.length ≤ 4096 ∧ ∀ x ∈ u, 0 ≤ x ∧ x < K := by
  have hs := wordCk_short h
  unfold wordCk at h
  split at h
  · simp at h
  · split at h
    · simp at h
    · exact ⟨by omega, hs, wordAt_ok u 0 h⟩
theorem run_ok {K N : Int} {nx out : List Int} (R : RightD K N nx out) {w : List Int} (hw : (wordCk K w).2 = 0) {k : Nat} (hk : 200000 ≤ k) : tutorref03_Run.f k 1 K 2 N nx out w = some ([rd out ((goTo K nx 0 w : Nat) : Int)], 0) := by
  obtain ⟨_, hl, hx⟩ := wordCk_ok hw
  have h2 := R.n
  unfold tutorref03_Run.f tutorref03_From.f
  obtain ⟨k, rfl⟩ : ∃ m, k = m + 1 := ⟨k - 1, by omega⟩
  rw [ck_ok R hk, Option.bind_some, if_pos rfl, if_neg (by omega), decide_eq_false (by omega), tutorref03_From.j0, if_neg (by simp), word_ref (by omega), Option.bind_some, if_pos hw]
  unfold tutorref03_Go.f
  have := go_l0 R w (by omega) hx w.length k 0 0 (by omega) (by omega) (by omega)
  rw [List.drop_zero] at this
  rw [show ((0 : Int)) = ((0 : Nat) : Int) from rfl, this]
  rfl
end Go.Proofs.Ytkaefgmgcghhiaa.X
end

section
namespace Go.Proofs.Ytkaefgmgcghhiaa.X
open Go.RowKit Go.Proofs.YtkaefgmgcghhiaaW.PrintWords Go.Proofs.YtkaefgmgcghhiaaW.PrintLast Go.Proofs.YtkaefgmgcghhiaaW.PrintMore
open Go.Proofs.Ytkaefgmgcghhiaa
def pairC (p : Int × Int) : List Value := [.int .i64 p.1, .int .i64 p.2]
def penc (p : Int × Int) : Value := .agg #[.int .i64 p.1, .int .i64 p.2]
def IsPair (p : Int × Int) : Prop := (0 ≤ p.1 ∧ p.1 < 1099511627776) ∧ (0 ≤ p.2 ∧ p.2 < 1099511627776)
theorem penc_cells (p : Int × Int) : penc p = .agg (pairC p).toArray := rfl
theorem row107 : (107 : TypeId) < Try.prog.types.size := of_decide_eq_true (by kernel_rfl)
theorem wide107 : (match Try.prog.underlying 107 with | some (.array _ _) | some (.struct _) => true | _ => false) = true := by rw [Try.underlying107]
set_option maxRecDepth 100000 in
theorem law107 : WideMaps.KeyLaw Try.prog 107 := deep_law_laid laidOut (m := 2) (by omega) row107 (by kernel_rfl) wide107
theorem cells107 : Try.prog.cellsOf 107 = 2 := by kernel_rfl
theorem cells3 : Try.prog.cellsOf 3 = 1 := by kernel_rfl
theorem keyType107 : Try.prog.keyType 107 = true := by kernel_rfl
theorem lit_int {n : Int} (h : 0 ≤ n ∧ n < 1099511627776) (k : Nat) : Try.prog.keyLits (k + 1) 3 [.int .i64 n] = some [.int .i64 n] := by
  unfold Program.keyLits
  rw [Try.underlying3]
  refine if_pos ⟨rfl, ?_⟩
  simp [Lit.wf, IntKind.min, IntKind.max, IntKind.signed, IntKind.bits]
  omega
theorem pair_key {p : Int × Int} (h : IsPair p) : ∃ l, keyOf Try.prog 107 (penc p) = some l := by
  unfold keyOf
  rw [Try.underlying107]
  have hf : (penc p).formed Try.prog 107 = true := by
    simp [Value.formed, Try.underlying107, cells107, penc]
  simp only [keyType107, hf, Bool.and_self, if_true]
  have hk : Try.prog.keyLits (Try.prog.types.size + 1) 107 (penc p).cells.toList = some [.int .i64 p.1, .int .i64 p.2] := by
    unfold Program.keyLits
    rw [Try.underlying107]
    have hc : (penc p).cells.toList = pairC p := rfl
    rw [hc]
    simp only [cells107, cells3]
    rw [if_pos (by simp [pairC])]
    obtain ⟨n, hn⟩ : ∃ n, Try.prog.types.size = n + 1 := ⟨Try.prog.types.size - 1, by kernel_rfl⟩
    rw [hn]
    have hr : List.range 2 = [0, 1] := rfl
    rw [hr]
    simp [pairC, lit_int h.1, lit_int h.2]
  rw [hk]
  exact ⟨_, rfl⟩
theorem pair_keys : Vm.KeyOk Try.prog 107 penc IsPair where
  keyed := Go.Maps.Keyed.of_law law107
  key := pair_key
  inj := fun {a b} h => by
    simp only [penc, Value.agg.injEq, Array.mk.injEq, List.cons.injEq, Value.int.injEq, true_and, and_true] at h
    exact Prod.ext h.1 h.2
def kpair : Kd (Int × Int) where
  sz := 2
  E := []
  K := fun _ s cs => cs = pairC s
  M := fun _ _ _ s cs => cs = pairC s
  K_len := fun h => by rw [h]; rfl
  K_one := fun h v hv => by
    rw [h] at hv
    simp only [pairC, List.mem_cons, List.not_mem_nil, or_false] at hv
    rcases hv with rfl | rfl <;> rfl
  K_below := fun _ h => h
  K_of_M := fun h => h
  M_mono := fun _ h => h
  M_bound := fun h => h
  M_move := fun _ h => h
  M_lower := fun _ h => h
/-- Element i of a row of pairs lies there. -/
theorem prow_at {w : World} {base : Nat} {ok : Nat → Prop} {v : Value} {row : List (Int × Int)} (h : Kd.R kpair 107 w base ok v row) (i : Nat) (p : Int × Int) (hp : row[i]? = some p) :
    ∃ g c, v = .slice (some ⟨g, 0, none⟩) row.length c ∧ w.cell? ⟨g, i * 2, none⟩ = some (.int .i64 p.1) ∧ w.cell? ⟨g, i * 2 + 1, none⟩ = some (.int .i64 p.2) := by
  obtain ⟨_, inner, ho, hr⟩ := h
  have hi := (List.getElem?_eq_some_iff.1 hp).1
  rcases ho.2 with ⟨rfl, h0⟩ | ⟨g, cap, cur, rfl, hb, hc, hle, hcap, hsz, htk⟩
  · omega
  · refine ⟨g, cap, rfl, ?_⟩
    have hw := hr.2 i p hp
    change List.take 2 (List.drop (i * 2) inner) = pairC p at hw
    change List.take (row.length * 2) cur.toList = inner at htk
    have hj : ∀ j, j < 2 → w.cell? ⟨g, i * 2 + j, none⟩ = (pairC p)[j]? := by
      intro j hj
      rw [cell_of_row w g _ cur 107 (0, 0) hc, ← hw, List.getElem?_take, if_pos hj, List.getElem?_drop, ← htk, List.getElem?_take, if_pos (by omega)]
      simp
    exact ⟨hj 0 (by omega), hj 1 (by omega)⟩
theorem mp_R_ne {α : Type} {d : Kd α} {e : Nat} {w : World} {base : Nat} {ok : Nat → Prop} {v : Value} {xs : List α} {b : Nat} {pr : List ((Int × Int) × Int)} (hp : Vm.MapAt w b penc (Value.int .i64) pr) (h : d.R e w base ok v xs) : some b ≠ v.ownBlock := by
  intro he
  obtain ⟨c, h1⟩ := R_typed h b he.symm
  exact hp.ne_cells h1 rfl
theorem mp_blk_ne {w : World} {b g t : Nat} {cs : Array Value} {pr : List ((Int × Int) × Int)} (hp : Vm.MapAt w b penc (Value.int .i64) pr) (h : w.heap[g]? = some (.cells cs t (0, 0))) : b ≠ g := hp.ne_cells h
theorem _root_.Go.Proofs.Ytkaefgmgcghhiaa.Vm.MapAt.far {α β : Type} {enc : α → Value} {venc : β → Value} {w : World} {b : Nat} {es : List (α × β)} (hp : Vm.MapAt w b enc venc es) {p : Addr} (hne : b ≠ p.block) (u : Value) : Vm.MapAt (w.setCell p u) b enc venc es := hp.block (Below.heap_setCell w p u b hne)
structure MeetAt (w0 : World) (mb M : Nat) (K : Int) (pr : List ((Int × Int) × Int)) (row : List (Int × Int)) (rv : Value) (nx : List Int) (nxv : Value) (out : List Int) (outv : Value) (w : World) : Prop where
  place : Vm.MapAt w mb penc (Value.int .i64) pr
  row : Kd.R kpair 107 w w0.heap.size (fun _ => True) rv row
  m : w.heap[M]? = some (.cells #[.int .i64 1, .int .i64 K, .int .i64 2, .int .i64 0, nxv, outv] 43 (0, 0))
  nx : Kd.R (Kd.int .i64) 3 w w0.heap.size (fun _ => True) nxv nx
  out : Kd.R (Kd.int .i64) 3 w w0.heap.size (fun _ => True) outv out
  apart : ∀ k, nxv.ownBlock = some k → outv.ownBlock ≠ some k
  below : Below w0.heap.size w0 w
  hmb : w0.heap.size ≤ mb
  hM : w0.heap.size ≤ M
theorem MeetAt.low {w0 w w1 : World} {mb M : Nat} {K : Int} {pr : List ((Int × Int) × Int)} {row : List (Int × Int)} {rv nxv outv : Value} {nx out : List Int} (h : MeetAt w0 mb M K pr row rv nx nxv out outv w) (hb : Below w.heap.size w w1) : MeetAt w0 mb M K pr row rv nx nxv out outv w1 :=
  ⟨h.place.below hb, Kd.R_below h.row hb, blk_below h.m hb, Kd.R_below h.nx hb, Kd.R_below h.out hb, h.apart, below_then h.below h.below.size hb, h.hmb, h.hM⟩
theorem MeetAt.outAp {w0 w w1 : World} {mb M : Nat} {K : Int} {pr : List ((Int × Int) × Int)} {row : List (Int × Int)} {rv nxv outv v1 : Value} {nx out out1 : List Int} (h : MeetAt w0 mb M K pr row rv nx nxv out outv w)
    (hr : Kd.R (Kd.int .i64) 3 w1 w0.heap.size (fun _ => True) v1 out1) (hb : Below w0.heap.size w0 w1) (hg : w.grownBy w1 outv.ownBlock) (hat : v1.ownBlock = outv.ownBlock ∨ ∃ b, v1.ownBlock = some b ∧ w.heap.size ≤ b) :
    MeetAt w0 mb M K pr row rv nx nxv out1 v1 (w1.setCell ⟨M, 5, none⟩ v1) := by
  have hMo : some M ≠ outv.ownBlock := Kd.R_ne h.out h.m (by decide)
  have hm1 := blk_grown h.m hg hMo
  refine ⟨(h.place.grown hg (mp_R_ne h.place h.out)).far (mp_blk_ne h.place h.m) _, R_after h.row rfl hg (fun k hk => R_R_ne h.out h.row (by decide) k hk) (Kd.R_ne h.row h.m (by decide)), blk_put hm1 5 v1 rfl,
    R_after h.nx rfl hg (fun k hk he => h.apart k he.symm hk) (Kd.R_ne h.nx h.m (by decide)), ?_, ?_, below_set hb h.hM, h.hmb, h.hM⟩
  · exact Kd.R_mono (Kd.R_far (Kd.R_tight rfl hr) (p := ⟨M, 5, none⟩) (fun k hk he => Kd.R_ne hr hm1 (by decide) (by rw [← hk]; show some M = some k; rw [he])) v1) (fun _ _ => trivial)
  · intro k hk he
    rcases hat with h1 | ⟨b, h1, h2⟩
    · rw [h1] at he; exact h.apart k hk he
    · rw [h1] at he
      have := Kd.R_lt h.nx k hk
      have hbk : b = k := by injection he
      omega
theorem MeetAt.nextAp {w0 w w1 : World} {mb M : Nat} {K : Int} {pr : List ((Int × Int) × Int)} {row : List (Int × Int)} {rv nxv outv v1 : Value} {nx out nx1 : List Int} (h : MeetAt w0 mb M K pr row rv nx nxv out outv w)
    (hr : Kd.R (Kd.int .i64) 3 w1 w0.heap.size (fun _ => True) v1 nx1) (hb : Below w0.heap.size w0 w1) (hg : w.grownBy w1 nxv.ownBlock) (hat : v1.ownBlock = nxv.ownBlock ∨ ∃ b, v1.ownBlock = some b ∧ w.heap.size ≤ b) :
    MeetAt w0 mb M K pr row rv nx1 v1 out outv (w1.setCell ⟨M, 4, none⟩ v1) := by
  have hMo : some M ≠ nxv.ownBlock := Kd.R_ne h.nx h.m (by decide)
  have hm1 := blk_grown h.m hg hMo
  refine ⟨(h.place.grown hg (mp_R_ne h.place h.nx)).far (mp_blk_ne h.place h.m) _, R_after h.row rfl hg (fun k hk => R_R_ne h.nx h.row (by decide) k hk) (Kd.R_ne h.row h.m (by decide)), blk_put hm1 4 v1 rfl,
    ?_, R_after h.out rfl hg (fun k hk he => h.apart k hk he.symm) (Kd.R_ne h.out h.m (by decide)), ?_, below_set hb h.hM, h.hmb, h.hM⟩
  · exact Kd.R_mono (Kd.R_far (Kd.R_tight rfl hr) (p := ⟨M, 4, none⟩) (fun k hk he => Kd.R_ne hr hm1 (by decide) (by rw [← hk]; show some M = some k; rw [he])) v1) (fun _ _ => trivial)
  · intro k hk he
    rcases hat with h1 | ⟨b, h1, h2⟩
    · rw [h1] at hk; exact h.apart k hk he
    · rw [h1] at hk
      have := Kd.R_lt h.out k he
      have hbk : b = k := by injection hk
      omega
theorem MeetAt.placed {w0 w w1 : World} {mb M : Nat} {K : Int} {pr pr1 : List ((Int × Int) × Int)} {row : List (Int × Int)} {rv nxv outv : Value} {nx out : List Int} (h : MeetAt w0 mb M K pr row rv nx nxv out outv w) (hp : Vm.MapAt w1 mb penc (Value.int .i64) pr1) (hg : w.grownBy w1 (some mb)) :
    MeetAt w0 mb M K pr1 row rv nx nxv out outv w1 :=
  ⟨hp, Kd.R_grown2 h.row rfl hg (fun k hk => by injection hk with hk; rw [← hk]; exact mp_R_ne h.place h.row), blk_grown h.m hg (fun he => mp_blk_ne h.place h.m (by injection he with he; exact he.symm)),
    Kd.R_grown2 h.nx rfl hg (fun k hk => by injection hk with hk; rw [← hk]; exact mp_R_ne h.place h.nx), Kd.R_grown2 h.out rfl hg (fun k hk => by injection hk with hk; rw [← hk]; exact mp_R_ne h.place h.out),
    h.apart, pw_below_grown h.below (some mb) h.below.size hg (fun k hk => by injection hk with hk; rw [← hk]; exact h.hmb), h.hmb, h.hM⟩
theorem MeetAt.rowAp {w0 w w1 : World} {mb M : Nat} {K : Int} {pr : List ((Int × Int) × Int)} {row row1 : List (Int × Int)} {rv rv1 nxv outv : Value} {nx out : List Int} (h : MeetAt w0 mb M K pr row rv nx nxv out outv w)
    (hr : Kd.R kpair 107 w1 w0.heap.size (fun _ => True) rv1 row1) (hb : Below w0.heap.size w0 w1) (hg : w.grownBy w1 rv.ownBlock) : MeetAt w0 mb M K pr row1 rv1 nx nxv out outv w1 :=
  ⟨h.place.grown hg (mp_R_ne h.place h.row), hr, blk_grown h.m hg (Kd.R_ne h.row h.m (by decide)), Kd.R_grown2 h.nx rfl hg (fun k hk => R_R_ne h.row h.nx (by decide) k hk), Kd.R_grown2 h.out rfl hg (fun k hk => R_R_ne h.row h.out (by decide) k hk), h.apart, hb, h.hmb, h.hM⟩
end Go.Proofs.Ytkaefgmgcghhiaa.X
end

section
namespace Go.Proofs.Ytkaefgmgcghhiaa.X
open Go.RowKit Go.Proofs.YtkaefgmgcghhiaaW.PrintWords Go.Proofs.YtkaefgmgcghhiaaW.PrintLast Go.Proofs.YtkaefgmgcghhiaaW.PrintMore
open Go.Proofs.Ytkaefgmgcghhiaa
theorem info107 : (Try.prog.info? 107).map (fun i => (i.zero, i.size)) = some (some (.agg #[.int .i64 0, .int .i64 0]), 2) := by kernel_rfl
theorem info107b : (Try.prog.info? 107).map (fun i => (i.zero, i.size, i.bytes)) = some (some (.agg #[.int .i64 0, .int .i64 0]), kpair.sz, 16) := by kernel_rfl
theorem run_one_pair (W : World) (p : Int × Int) : (Instr.buildSlice 109 1 #[(0, .agg (pairC p).toArray)]).run Try.prog W = .ok (.slice (some ⟨W.heap.size, 0, none⟩) 1 1) (W.alloc (.cells (pairC p).toArray 107)) := by
  cases hi : Try.prog.info? 107 with
  | none => have := info107; rw [hi] at this; cases this
  | some ie =>
    have h88 := info107
    rw [hi] at h88
    simp only [Option.map_some, Option.some.injEq, Prod.mk.injEq] at h88
    refine run_buildSlice W 109 107 1 _ _ ie _ Try.underlying109 hi h88.1 (by rw [h88.2]; decide) (by rw [h88.2]; decide) ?_
    rw [h88.2]
    have h := Great.fill_whole (s := 2) (by decide) [.agg (pairC p).toArray] ((Array.range (1 * 2)).map ((Value.agg #[.int .i64 0, .int .i64 0]).cells[· % (Value.agg #[.int .i64 0, .int .i64 0]).cells.size]!)) (by
      intro v hv
      simp only [List.mem_singleton] at hv
      subst hv
      rfl) (by simp)
    simpa [Value.cells] using h
theorem exec_one_pair {a : Act} {o : Oper} {x : Operand} {p : Int × Int} (ho : o.op = .buildSlice 109 1 #[(0, x)]) (hx : a.eval x = .agg (pairC p).toArray) (W : World) :
    (execOp a.eval o).run Try.prog W = .ok (.value (.slice (some ⟨W.heap.size, 0, none⟩) 1 1)) (W.alloc (.cells (pairC p).toArray 107)) := by
  unfold execOp
  simp [ho, hx, run_one_pair W p, Result.andThen]
theorem reps_one_pair {w : World} {base : Nat} {ok : Nat → Prop} (p : Int × Int) : Reps (kpair.M w base ok) kpair.sz [p] (pairC p) := by
  refine ⟨rfl, fun j q hj => ?_⟩
  cases j with
  | zero =>
    simp only [List.getElem?_cons_zero, Option.some.injEq] at hj
    subst hj
    show List.take 2 (List.drop (0 * 2) (pairC p)) = pairC p
    rfl
  | succ j => simp at hj
def prN (n : Nat) : List (Int × Int) → List ((Int × Int) × Int)
  | [] => []
  | p :: r => (p, (n : Int)) :: prN (n + 1) r
def prOf (row : List (Int × Int)) : List ((Int × Int) × Int) := prN 0 row
theorem prN_key {n : Nat} {row : List (Int × Int)} {q : (Int × Int) × Int} (h : q ∈ prN n row) : q.1 ∈ row := by
  induction row generalizing n with
  | nil => simp [prN] at h
  | cons p r ih =>
    simp only [prN, List.mem_cons] at h
    rcases h with rfl | h
    · simp
    · exact List.mem_cons_of_mem _ (ih h)
theorem prN_get (n : Nat) (row : List (Int × Int)) (p : Int × Int) : Vm.getK (prN n row) p = (row.findIdx? (· == p)).map (fun j => ((n + j : Nat) : Int)) := by
  induction row generalizing n with
  | nil => rfl
  | cons q r ih =>
    rw [prN, Vm.getK, List.findIdx?_cons]
    by_cases hq : q = p
    · rw [if_pos hq]
      simp [hq]
    · rw [if_neg hq, ih]
      have : (q == p) = false := by simpa using hq
      simp only [this]
      cases r.findIdx? (· == p) with
      | none => rfl
      | some j => simp; omega
theorem prN_snoc (n : Nat) (row : List (Int × Int)) (p : Int × Int) : prN n row ++ [(p, ((n + row.length : Nat) : Int))] = prN n (row ++ [p]) := by
  induction row generalizing n with
  | nil => simp [prN]
  | cons q r ih =>
    rw [List.cons_append, prN, prN, List.cons_append, ← ih (n + 1)]
    simp only [List.length_cons]
    congr 4
    omega
theorem pair_ok {row : List (Int × Int)} (hrow : ∀ q ∈ row, IsPair q) : ∀ q ∈ prOf row, IsPair q.1 := fun q hq => hrow _ (prN_key hq)
theorem pair_put {row : List (Int × Int)} {p : Int × Int} (h : row.findIdx? (· == p) = none) : Vm.putK (prOf row) p (row.length : Int) = prOf (row ++ [p]) := by
  rw [Vm.putK_new (fun q hq he => by
    have h1 := List.findIdx?_eq_none_iff.1 h p (he ▸ prN_key hq)
    simp at h1)]
  have := prN_snoc 0 row p
  simpa [prOf] using this
theorem info3p : (Try.prog.info? 3).map (fun i => (i.zero, i.size)) = some (some (.int .i64 0), 1) := by kernel_rfl
theorem zero3 (w : World) : (zeroValue 3).run Try.prog w = .ok (.int .i64 0) w := (zero_of_info info3p).1 w
theorem pair_some {row : List (Int × Int)} (hrow : ∀ q ∈ row, IsPair q) {p : Int × Int} (hp : IsPair p) {j : Nat} (hj : row.findIdx? (· == p) = some j) {w : World} {b : Nat} (hm : Vm.MapAt w b penc (Value.int .i64) (prOf row)) :
    (Instr.lookup 108 (.map (some b)) (.agg (pairC p).toArray) true).run Try.prog w = .ok (.tuple #[.int .i64 (j : Int), .bool true]) w := by
  have h := Vm.map_lookup pair_keys Try.underlying108 (zv := .int .i64 0) zero3 hm (pair_ok hrow) hp true
  rw [penc_cells, prOf, prN_get, hj] at h
  simpa using h
theorem pair_none {row : List (Int × Int)} (hrow : ∀ q ∈ row, IsPair q) {p : Int × Int} (hp : IsPair p) (hj : row.findIdx? (· == p) = none) {w : World} {b : Nat} (hm : Vm.MapAt w b penc (Value.int .i64) (prOf row)) :
    (Instr.lookup 108 (.map (some b)) (.agg (pairC p).toArray) true).run Try.prog w = .ok (.tuple #[.int .i64 0, .bool false]) w := by
  have h := Vm.map_lookup pair_keys Try.underlying108 (zv := .int .i64 0) zero3 hm (pair_ok hrow) hp true
  rw [penc_cells, prOf, prN_get, hj] at h
  simpa using h
def DM18.T18 : Bool × List (List Nat × List Nat) := (true, [([], []), ([], []), ([0, 1], [0, 1]), ([2], [2]), ([3], [3]), ([], []), ([], []), ([5, 6], [5, 6]), ([7], [7]), ([8], [8]), ([4, 0, 1, 2, 3, 4], [4]), ([9, 10, 0, 1, 2, 3, 4, 5, 6, 7, 8, 9, 10], [9])])
def DM18.B18 : List Nat := [0, 0, 3, 7, 15, 0, 0, 96, 224, 480, 31, 2047]
theorem DM18.tab18 : rtab .any (opsOf Try.f30 18) = DM18.T18 := by kernel_rfl
theorem DM18.bits18 : waitsOk DM18.T18.2 DM18.B18 = true := by kernel_rfl
def DM19.T19 : Bool × List (List Nat × List Nat) := (true, [([], []), ([0], [0]), ([], []), ([], []), ([3], [3]), ([], []), ([4, 5], [4, 5]), ([6], [6]), ([7], [7]), ([], []), ([9], [9]), ([], []), ([10, 11], [10, 11]), ([12], [12]), ([8, 13], [8, 13]), ([2, 14], [2, 14]), ([15], [15]), ([16], [16]), ([1, 17], [1, 17]), ([0, 1, 2, 3, 4, 5, 6, 7, 8, 9, 10, 11, 12, 13, 14, 15, 16, 17, 18], []), ([19, 18, 18, 0, 1, 2, 3, 4, 5, 6, 7, 8, 9, 10, 11, 12, 13, 14, 15, 16, 17, 18], [18, 19])])
def DM19.B19 : List Nat := [0, 1, 0, 0, 8, 0, 56, 120, 248, 0, 512, 0, 3584, 7680, 16376, 32764, 65532, 131068, 262143, 524287, 1048575]
theorem DM19.tab19 : rtab .any (opsOf Try.f30 19) = DM19.T19 := by kernel_rfl
theorem DM19.bits19 : waitsOk DM19.T19.2 DM19.B19 = true := by kernel_rfl
def DM23.T23 : Bool × List (List Nat × List Nat) := (true, [([], []), ([0], [0]), ([], []), ([], []), ([3], [3]), ([2, 4], [2, 4]), ([], []), ([5, 6], [5, 6]), ([1, 7], [1, 7]), ([8], [8]), ([], []), ([10], [10]), ([], []), ([], []), ([13], [13]), ([12, 14], [12, 14]), ([], []), ([15, 16], [15, 16]), ([11, 17], [11, 17]), ([18], [18]), ([9, 19], [9, 19]), ([], []), ([21, 20, 0, 1, 2, 3, 4, 5, 6, 7, 8, 9, 10, 11, 12, 13, 14, 15, 16, 17, 18, 19, 20, 21], [20, 21])])
def DM23.B23 : List Nat := [0, 1, 0, 0, 8, 28, 0, 124, 255, 511, 0, 1024, 0, 0, 8192, 28672, 0, 126976, 261120, 523264, 1048575, 0, 4194303]
theorem DM23.tab23 : rtab .any (opsOf Try.f30 23) = DM23.T23 := by kernel_rfl
theorem DM23.bits23 : waitsOk DM23.T23.2 DM23.B23 = true := by kernel_rfl
end Go.Proofs.Ytkaefgmgcghhiaa.X
end

section
namespace Go.Proofs.Ytkaefgmgcghhiaa.X
open Go.RowKit Go.Proofs.YtkaefgmgcghhiaaW.PrintWords Go.Proofs.YtkaefgmgcghhiaaW.PrintLast Go.Proofs.YtkaefgmgcghhiaaW.PrintMore
open Go.Proofs.Ytkaefgmgcghhiaa
def mtI (K s : Int) (x : Nat) : Int := wrap64 (wrap64 (s * K) + (x : Int))
def okP (q : Int × Int) : Bool := decide (0 ≤ q.1) && decide (q.1 < 1099511627776) && (decide (0 ≤ q.2) && decide (q.2 < 1099511627776))
theorem okP_is {q : Int × Int} (h : okP q = true) : IsPair q := by
  simp only [okP, Bool.and_eq_true, decide_eq_true_eq] at h
  exact ⟨h.1, h.2⟩
def mtIn (K : Int) (aN bN : List Int) (p : Int × Int) : List Nat → List (Int × Int) → List Int → Option (Option (List (Int × Int) × List Int))
  | [], row, nx => some (some (row, nx))
  | x :: r, row, nx => if (0 ≤ mtI K p.1 x ∧ mtI K p.1 x < (aN.length : Int)) ∧ (0 ≤ mtI K p.2 x ∧ mtI K p.2 x < (bN.length : Int)) then
      (if okP (rd aN (mtI K p.1 x), rd bN (mtI K p.2 x)) = true ∧ nx.length < 1099511627776 then (match row.findIdx? (· == (rd aN (mtI K p.1 x), rd bN (mtI K p.2 x))) with
        | some j => mtIn K aN bN p r row (nx ++ [(j : Int)])
        | none => if row.length = 1024 then some none else mtIn K aN bN p r (row ++ [(rd aN (mtI K p.1 x), rd bN (mtI K p.2 x))]) (nx ++ [(row.length : Int)])) else none) else none
def mtO (aO bO : List Int) (op : Int) (p : Int × Int) : Int := Go.bits .and .i64 (shr .i64 op (wrap64 (wrap64 (2 * rd aO p.1) + rd bO p.2))) 1
def mtF (K : Int) (aN aO bN bO : List Int) (op : Int) : Nat → Nat → List (Int × Int) → List Int → List Int → Option (Option (List (Int × Int) × List Int × List Int))
  | 0, _, _, _, _ => none
  | q + 1, i, row, nx, out => if i < row.length then
      (if ((0 ≤ (row.getD i (0, 0)).1 ∧ (row.getD i (0, 0)).1 < (aO.length : Int)) ∧ (0 ≤ (row.getD i (0, 0)).2 ∧ (row.getD i (0, 0)).2 < (bO.length : Int))) ∧ 0 ≤ wrap64 (wrap64 (2 * rd aO (row.getD i (0, 0)).1) + rd bO (row.getD i (0, 0)).2) ∧ out.length < 1099511627776 then
        (match mtIn K aN bN (row.getD i (0, 0)) (List.range K.toNat) row nx with
        | none => none
        | some none => some none
        | some (some (row1, nx1)) => mtF K aN aO bN bO op q (i + 1) row1 nx1 (out ++ [mtO aO bO op (row.getD i (0, 0))])) else none)
      else some (some (row, nx, out))
def mtG (k : Nat) (aK aS aO aN : Int) (anx aout : List Int) (bK bS bO bN : Int) (bnx bout : List Int) (op : Int) : Option (Int × Int × Int × Int × List Int × List Int × Int) :=
  match machine_Check.f k aK aS aO aN anx aout with
  | none => none
  | some (_, e1) => if e1 ≠ 0 then some (0, 0, 0, 0, [], [], e1) else match machine_Check.f k bK bS bO bN bnx bout with
    | none => none
    | some (_, e2) => if e2 ≠ 0 then some (0, 0, 0, 0, [], [], e2) else
      if aK ≠ 1 ∨ bK ≠ 1 then some (0, 0, 0, 0, [], [], 30) else if aS ≠ bS ∨ op < 0 ∨ op > 15 then some (0, 0, 0, 0, [], [], 1) else
      match mtF aS anx aout bnx bout op k 0 [(0, 0)] [] [] with
      | none => none
      | some none => some (0, 0, 0, 0, [], [], 3)
      | some (some (row, nx, out)) => some (1, aS, 2, (row.length : Int), nx, out, 0)
/-- The four blocks ahead of the looking. -/
structure MtAt (w : World) (A B : Array Value) (W : World) : Prop where
  below : Below w.heap.size w W
  a : W.heap[w.heap.size]? = some (.cells A 43 (0, 0))
  b : W.heap[w.heap.size + 1]? = some (.cells B 43 (0, 0))
  z : W.heap[w.heap.size + 1 + 1]? = some (.cells zero43 43 (0, 0))
  ab : W.heap[w.heap.size + 1 + 1 + 1]? = some (.cells (A ++ B) 43 (0, 0))
theorem MtAt.on {w W W1 : World} {A B : Array Value} (h : MtAt w A B W) (hb : Below W.heap.size W W1) : MtAt w A B W1 := ⟨below_step h.below hb, blk_below h.a hb, blk_below h.b hb, blk_below h.z hb, blk_below h.ab hb⟩
theorem mt_made (w : World) (A B : Array Value) : MtAt w A B ((((w.alloc (.cells A 43)).alloc (.cells B 43)).alloc (.cells zero43 43)).alloc (.cells (A ++ B) 43)) := by
  have ha := blk_new w (.cells A 43)
  have hb : ((w.alloc (.cells A 43)).alloc (.cells B 43)).heap[w.heap.size + 1]? = some (.cells B 43 (0, 0)) := by
    have h := blk_new (w.alloc (.cells A 43)) (.cells B 43)
    have e : (w.alloc (.cells A 43)).heap.size = w.heap.size + 1 := by simp
    rw [e] at h
    exact h
  have hz : (((w.alloc (.cells A 43)).alloc (.cells B 43)).alloc (.cells zero43 43)).heap[w.heap.size + 1 + 1]? = some (.cells zero43 43 (0, 0)) := by
    have h := blk_new ((w.alloc (.cells A 43)).alloc (.cells B 43)) (.cells zero43 43)
    have e : ((w.alloc (.cells A 43)).alloc (.cells B 43)).heap.size = w.heap.size + 1 + 1 := by simp
    rw [e] at h
    exact h
  have hab : ((((w.alloc (.cells A 43)).alloc (.cells B 43)).alloc (.cells zero43 43)).alloc (.cells (A ++ B) 43)).heap[w.heap.size + 1 + 1 + 1]? = some (.cells (A ++ B) 43 (0, 0)) := by
    have h := blk_new (((w.alloc (.cells A 43)).alloc (.cells B 43)).alloc (.cells zero43 43)) (.cells (A ++ B) 43)
    have e : (((w.alloc (.cells A 43)).alloc (.cells B 43)).alloc (.cells zero43 43)).heap.size = w.heap.size + 1 + 1 + 1 := by simp
    rw [e] at h
    exact h
  exact ⟨below_alloc (below_alloc (below_alloc (below_alloc (Below.refl _ _) _) _) _) _, blk_alloc (blk_alloc (blk_alloc ha _) _) _, blk_alloc (blk_alloc hb _) _, blk_alloc hz _, hab⟩
theorem cell_al {w : World} {o : Obj} {p : Addr} {v : Value} (h : w.cell? p = some v) : (w.alloc o).cell? p = some v := (World.cell?_alloc_lt _ _ _ (World.block_lt_of_cell? _ _ h)).trans h
def MtPost (w : World) (r1 r2 r3 r4 : Int) (r5 r6 : List Int) (r7 : Int) (e : Ending) (w' : World) : Prop := ∃ v4_ v5_ : Value, e = .returned (.tuple #[.agg #[.int .i64 r1, .int .i64 r2, .int .i64 r3, .int .i64 r4, v4_, v5_], .int .i64 r7]) ∧ Kd.R (Kd.int .i64) 3 w' w.heap.size (fun k_ => some k_ ≠ (v5_ : Value).ownBlock) v4_ r5 ∧ Kd.R (Kd.int .i64) 3 w' w.heap.size (fun k_ => some k_ ≠ (v4_ : Value).ownBlock) v5_ r6 ∧ Below w.heap.size w w'
set_option maxHeartbeats 8000000 in
set_option maxRecDepth 100000 in
theorem Meet_walk (k : Nat) (aK aS aO aN : Int) (A4 : Option Addr) (c4 : Nat) (anx : List Int) (A5 : Option Addr) (c5 : Nat) (aout : List Int) (bK bS bO bN : Int) (B4 : Option Addr) (d4 : Nat) (bnx : List Int) (B5 : Option Addr) (d5 : Nat) (bout : List Int) (op : Int) (r1 r2 r3 r4 : Int) (r5 r6 : List Int) (r7 : Int) (w : World)
    (ha4 : Kd.C (Kd.int .i64) w A4 anx.length anx) (hc4 : anx.length ≤ c4) (ha5 : Kd.C (Kd.int .i64) w A5 aout.length aout) (hc5 : aout.length ≤ c5) (hb4 : Kd.C (Kd.int .i64) w B4 bnx.length bnx) (hd4 : bnx.length ≤ d4) (hb5 : Kd.C (Kd.int .i64) w B5 bout.length bout) (hd5 : bout.length ≤ d5)
    (h : mtG k aK aS aO aN anx aout bK bS bO bN bnx bout op = some (r1, r2, r3, r4, r5, r6, r7)) :
    Calls Try.prog 30 #[.agg #[.int .i64 aK, .int .i64 aS, .int .i64 aO, .int .i64 aN, .slice A4 anx.length c4, .slice A5 aout.length c5], .agg #[.int .i64 bK, .int .i64 bS, .int .i64 bO, .int .i64 bN, .slice B4 bnx.length d4, .slice B5 bout.length d5], .int .i64 op] w (MtPost w r1 r2 r3 r4 r5 r6 r7) := by
  have hu43 := Try.underlying43
  have hu104 := Try.underlying104
  unfold mtG at h
  cases hk1 : machine_Check.f k aK aS aO aN anx aout with
  | none => rw [hk1] at h; exact absurd h (by simp)
  | some p1 =>
  obtain ⟨at1, e1⟩ := p1
  rw [hk1] at h
  simp only [] at h
  have hm1 := fun (W : World) (hb : Below w.heap.size w W) => machine_Check.calls k aK aS aO aN A4 c4 anx A5 c5 aout at1 e1 W (Kd.C_below ha4 hb) hc4 (Kd.C_below ha5 hb) hc5 hk1
  obtain ⟨at2, e2, hk2⟩ : ∃ at2 e2, e1 = 0 → machine_Check.f k bK bS bO bN bnx bout = some (at2, e2) := by
    by_cases q : e1 ≠ 0
    · exact ⟨0, 0, fun h => absurd h q⟩
    · rw [if_neg q] at h
      cases hk2 : machine_Check.f k bK bS bO bN bnx bout with
      | none => rw [hk2] at h; exact absurd h (by simp)
      | some p2 => exact ⟨p2.1, p2.2, fun _ => rfl⟩
  have hm2 := fun (hz : e1 = 0) (W : World) (hb : Below w.heap.size w W) => machine_Check.calls k bK bS bO bN B4 d4 bnx B5 d5 bout at2 e2 W (Kd.C_below hb4 hb) hd4 (Kd.C_below hb5 hb) hd5 (hk2 hz)
  have HH := Aside0.mk h
  have HM1 := Aside0.mk hm1
  have HM2 := Aside0.mk hm2
  have HK2 := Aside0.mk hk2
  have HAR := Aside0.mk (And.intro (And.intro ha4 ha5) (And.intro hb4 hb5))
  clear h hm1 hm2 hk1 hk2 ha4 ha5 hb4 hb5 hc4 hc5 hd4 hd5
  obtain ⟨z43, i43⟩ := zero_of_info info43
  go_enter Try.func30, Try.ntmps30
  go_wp2
  have HM0 : Aside0 (MtAt w #[.int .i64 aK, .int .i64 aS, .int .i64 aO, .int .i64 aN, .slice A4 anx.length c4, .slice A5 aout.length c5] #[.int .i64 bK, .int .i64 bS, .int .i64 bO, .int .i64 bN, .slice B4 bnx.length d4, .slice B5 bout.length d5] ((((w.alloc (.cells #[.int .i64 aK, .int .i64 aS, .int .i64 aO, .int .i64 aN, .slice A4 anx.length c4, .slice A5 aout.length c5] 43)).alloc (.cells #[.int .i64 bK, .int .i64 bS, .int .i64 bO, .int .i64 bN, .slice B4 bnx.length d4, .slice B5 bout.length d5] 43)).alloc (.cells zero43 43)).alloc (.cells (#[.int .i64 aK, .int .i64 aS, .int .i64 aO, .int .i64 aN, .slice A4 anx.length c4, .slice A5 aout.length c5] ++ #[.int .i64 bK, .int .i64 bS, .int .i64 bO, .int .i64 bN, .slice B4 bnx.length d4, .slice B5 bout.length d5]) 43))) := ⟨mt_made w _ _⟩
  go_loopw [26] (fun v26 wr => ∃ j : Nat, v26 = .int .i64 (j : Int) ∧ Aside0 (j ≤ 2) ∧ Aside0 (MtAt w #[.int .i64 aK, .int .i64 aS, .int .i64 aO, .int .i64 aN, .slice A4 anx.length c4, .slice A5 aout.length c5] #[.int .i64 bK, .int .i64 bS, .int .i64 bO, .int .i64 bN, .slice B4 bnx.length d4, .slice B5 bout.length d5] wr) ∧ Aside0 ((1 ≤ j → e1 = 0) ∧ (2 ≤ j → e2 = 0))) (fun v26 _ => 2 - (intOf v26).toNat)
  case atStart => exact ⟨0, rfl, ⟨by omega⟩, HM0, ⟨fun h => by omega, fun h => by omega⟩⟩
  case round =>
    clear HM0
    obtain ⟨j, rfl, HJ, HM, HE⟩ := hrel
    have hj3 : j = 0 ∨ j = 1 ∨ j = 2 := by have := HJ.out; omega
    rcases hj3 with rfl | rfl | rfl
    ·
      have hz := HM.out.z
      have hx0 : wr.cell? ⟨w.heap.size + 1 + 1 + 1, 0, none⟩ = some (.int .i64 aK) := (blk_cell HM.out.ab 0).trans rfl
      have hx1 : wr.cell? ⟨w.heap.size + 1 + 1 + 1, 1, none⟩ = some (.int .i64 aS) := (blk_cell HM.out.ab 1).trans rfl
      have hx2 : wr.cell? ⟨w.heap.size + 1 + 1 + 1, 2, none⟩ = some (.int .i64 aO) := (blk_cell HM.out.ab 2).trans rfl
      have hx3 : wr.cell? ⟨w.heap.size + 1 + 1 + 1, 3, none⟩ = some (.int .i64 aN) := (blk_cell HM.out.ab 3).trans rfl
      have hx4 : wr.cell? ⟨w.heap.size + 1 + 1 + 1, 4, none⟩ = some (.slice A4 anx.length c4) := (blk_cell HM.out.ab 4).trans rfl
      have hx5 : wr.cell? ⟨w.heap.size + 1 + 1 + 1, 5, none⟩ = some (.slice A5 aout.length c5) := (blk_cell HM.out.ab 5).trans rfl
      by_cases q : e1 ≠ 0
      · have qb : (e1 != 0) = true := by simpa using q
        go_wp2_with (first
          | (go_at_call 67; with_reducible refine (HM1.out _ (below_alloc HM.out.below _)).mono ?_
             rintro e w1 ⟨rfl, hb1⟩
             have HM1b := Aside0.mk ((HM.out.on (below_alloc (Below.refl _ _) _)).on hb1)
             clear hb1)
          | ((with_reducible refine gate_store (t := 43) (p := 6) rfl ?_)
             refine wpList_store_rowTo rfl 43 (.tmp 6) (.tmp 37) rfl rfl (w.heap.size + 1 + 1) zero43 rfl rfl 43 _ HM1b.out.z ?_ rfl zero43_one ?_
             (focus (rw [i43]; rfl))))
        have hblk := setRow_heap w1 (w.heap.size + 1 + 1) _ zero43 43 (0, 0) HM1b.out.z
        try simp only [Exit.inBlock, Exit.then]
        refine bodyPost_ret (results_ct rfl _ _ (w.heap.size + 1 + 1) 43 zero43 (0, 0) _ rfl hblk Try.underlying43 rfl (by rw [i43]; rfl)) rfl ?_
        have hr := HH.out
        rw [if_pos q] at hr
        simp only [Option.some.injEq, Prod.mk.injEq] at hr
        obtain ⟨rfl, rfl, rfl, rfl, rfl, rfl, rfl⟩ := hr
        exact ⟨_, _, rfl, Kd.R_nil _ _ _ _ _, Kd.R_nil _ _ _ _ _, below_setRow HM1b.out.below (by omega) _⟩
      · have qz : e1 = 0 := by omega
        have qb : (e1 != 0) = false := by simp [qz]
        go_wp2_with (first
            | (go_at_call 67; with_reducible refine (HM1.out _ (below_alloc HM.out.below _)).mono ?_
               rintro e w1 ⟨rfl, hb1⟩
               have HM1b := Aside0.mk ((HM.out.on (below_alloc (Below.refl _ _) _)).on hb1)
               clear hb1))
        go_roundw
        case rel => exact ⟨1, by go_num, ⟨by omega⟩, HM1b, ⟨fun _ => qz, fun h => by omega⟩⟩
        case measure => simp [intOf]
    ·
      have hz := HM.out.z
      have hx0 : wr.cell? ⟨w.heap.size + 1 + 1 + 1, 6, none⟩ = some (.int .i64 bK) := (blk_cell HM.out.ab 6).trans rfl
      have hx1 : wr.cell? ⟨w.heap.size + 1 + 1 + 1, 7, none⟩ = some (.int .i64 bS) := (blk_cell HM.out.ab 7).trans rfl
      have hx2 : wr.cell? ⟨w.heap.size + 1 + 1 + 1, 8, none⟩ = some (.int .i64 bO) := (blk_cell HM.out.ab 8).trans rfl
      have hx3 : wr.cell? ⟨w.heap.size + 1 + 1 + 1, 9, none⟩ = some (.int .i64 bN) := (blk_cell HM.out.ab 9).trans rfl
      have hx4 : wr.cell? ⟨w.heap.size + 1 + 1 + 1, 10, none⟩ = some (.slice B4 bnx.length d4) := (blk_cell HM.out.ab 10).trans rfl
      have hx5 : wr.cell? ⟨w.heap.size + 1 + 1 + 1, 11, none⟩ = some (.slice B5 bout.length d5) := (blk_cell HM.out.ab 11).trans rfl
      by_cases q : e2 ≠ 0
      · have qb : (e2 != 0) = true := by simpa using q
        go_wp2_with (first
          | (go_at_call 67; with_reducible refine ((HM2.out (HE.out.1 (by omega))) _ (below_alloc HM.out.below _)).mono ?_
             rintro e w1 ⟨rfl, hb1⟩
             have HM1b := Aside0.mk ((HM.out.on (below_alloc (Below.refl _ _) _)).on hb1)
             clear hb1)
          | ((with_reducible refine gate_store (t := 43) (p := 6) rfl ?_)
             refine wpList_store_rowTo rfl 43 (.tmp 6) (.tmp 37) rfl rfl (w.heap.size + 1 + 1) zero43 rfl rfl 43 _ HM1b.out.z ?_ rfl zero43_one ?_
             (focus (rw [i43]; rfl))))
        have hblk := setRow_heap w1 (w.heap.size + 1 + 1) _ zero43 43 (0, 0) HM1b.out.z
        try simp only [Exit.inBlock, Exit.then]
        refine bodyPost_ret (results_ct rfl _ _ (w.heap.size + 1 + 1) 43 zero43 (0, 0) _ rfl hblk Try.underlying43 rfl (by rw [i43]; rfl)) rfl ?_
        have hr := HH.out
        rw [if_neg (by have := HE.out.1 (by omega); omega), HK2.out (HE.out.1 (by omega))] at hr
        simp only [] at hr
        rw [if_pos q] at hr
        simp only [Option.some.injEq, Prod.mk.injEq] at hr
        obtain ⟨rfl, rfl, rfl, rfl, rfl, rfl, rfl⟩ := hr
        exact ⟨_, _, rfl, Kd.R_nil _ _ _ _ _, Kd.R_nil _ _ _ _ _, below_setRow HM1b.out.below (by omega) _⟩
      · have qz : e2 = 0 := by omega
        have qb : (e2 != 0) = false := by simp [qz]
        go_wp2_with (first
            | (go_at_call 67; with_reducible refine ((HM2.out (HE.out.1 (by omega))) _ (below_alloc HM.out.below _)).mono ?_
               rintro e w1 ⟨rfl, hb1⟩
               have HM1b := Aside0.mk ((HM.out.on (below_alloc (Below.refl _ _) _)).on hb1)
               clear hb1))
        go_roundw
        case rel => exact ⟨2, by go_num, ⟨by omega⟩, HM1b, ⟨fun _ => HE.out.1 (by omega), fun _ => qz⟩⟩
        case measure => simp [intOf]
    · have he1 := HE.out.1 (by omega)
      have he2 := HE.out.2 (by omega)
      have hr := HH.out
      rw [if_neg (by omega), HK2.out he1] at hr
      simp only [] at hr
      rw [if_neg (by omega)] at hr
      have HR := Aside0.mk hr
      clear he1 he2 HM1 HM2 HK2 HH HE HJ
      have p0 : wr.cell? ⟨w.heap.size, 0, none⟩ = some (.int .i64 aK) := (blk_cell HM.out.a 0).trans rfl
      have p1 : wr.cell? ⟨w.heap.size, 1, none⟩ = some (.int .i64 aS) := (blk_cell HM.out.a 1).trans rfl
      have p2 : wr.cell? ⟨w.heap.size, 2, none⟩ = some (.int .i64 aO) := (blk_cell HM.out.a 2).trans rfl
      have p3 : wr.cell? ⟨w.heap.size, 3, none⟩ = some (.int .i64 aN) := (blk_cell HM.out.a 3).trans rfl
      have p4 : wr.cell? ⟨w.heap.size, 4, none⟩ = some (.slice A4 anx.length c4) := (blk_cell HM.out.a 4).trans rfl
      have p5 : wr.cell? ⟨w.heap.size, 5, none⟩ = some (.slice A5 aout.length c5) := (blk_cell HM.out.a 5).trans rfl
      have q0 : wr.cell? ⟨w.heap.size + 1, 0, none⟩ = some (.int .i64 bK) := (blk_cell HM.out.b 0).trans rfl
      have q1 : wr.cell? ⟨w.heap.size + 1, 1, none⟩ = some (.int .i64 bS) := (blk_cell HM.out.b 1).trans rfl
      have q2 : wr.cell? ⟨w.heap.size + 1, 2, none⟩ = some (.int .i64 bO) := (blk_cell HM.out.b 2).trans rfl
      have q3 : wr.cell? ⟨w.heap.size + 1, 3, none⟩ = some (.int .i64 bN) := (blk_cell HM.out.b 3).trans rfl
      have q4 : wr.cell? ⟨w.heap.size + 1, 4, none⟩ = some (.slice B4 bnx.length d4) := (blk_cell HM.out.b 4).trans rfl
      have q5 : wr.cell? ⟨w.heap.size + 1, 5, none⟩ = some (.slice B5 bout.length d5) := (blk_cell HM.out.b 5).trans rfl
      by_cases qk : aK ≠ 1 ∨ bK ≠ 1
      · rw [if_pos qk] at hr
        simp only [Option.some.injEq, Prod.mk.injEq] at hr
        obtain ⟨rfl, rfl, rfl, rfl, rfl, rfl, rfl⟩ := hr
        clear HR
        by_cases qa : aK ≠ 1
        · have qa2 : (aK != 1) = true := by simpa using qa
          go_wp2_with (first
            | ((with_reducible refine gate_store (t := 43) (p := 6) rfl ?_)
               refine wpList_store_rowTo rfl 43 (.tmp 6) (.tmp 49) rfl rfl (w.heap.size + 1 + 1) zero43 rfl rfl 43 _ HM.out.z ?_ rfl zero43_one ?_
               (focus (rw [i43]; rfl))))
          have hblk := setRow_heap wr (w.heap.size + 1 + 1) _ zero43 43 (0, 0) HM.out.z
          try simp only [Exit.inBlock, Exit.then]
          refine bodyPost_ret (results_ct rfl _ _ (w.heap.size + 1 + 1) 43 zero43 (0, 0) _ rfl hblk Try.underlying43 rfl (by rw [i43]; rfl)) rfl ?_
          exact ⟨_, _, rfl, Kd.R_nil _ _ _ _ _, Kd.R_nil _ _ _ _ _, below_setRow HM.out.below (by omega) _⟩
        · have qa2 : (aK != 1) = false := by
            have : aK = 1 := by omega
            simp [this]
          have qb2 : (bK != 1) = true := by
            have : bK ≠ 1 := by omega
            simpa using this
          go_wp2_with (first
            | ((with_reducible refine gate_store (t := 43) (p := 6) rfl ?_)
               refine wpList_store_rowTo rfl 43 (.tmp 6) (.tmp 49) rfl rfl (w.heap.size + 1 + 1) zero43 rfl rfl 43 _ HM.out.z ?_ rfl zero43_one ?_
               (focus (rw [i43]; rfl))))
          have hblk := setRow_heap wr (w.heap.size + 1 + 1) _ zero43 43 (0, 0) HM.out.z
          try simp only [Exit.inBlock, Exit.then]
          refine bodyPost_ret (results_ct rfl _ _ (w.heap.size + 1 + 1) 43 zero43 (0, 0) _ rfl hblk Try.underlying43 rfl (by rw [i43]; rfl)) rfl ?_
          exact ⟨_, _, rfl, Kd.R_nil _ _ _ _ _, Kd.R_nil _ _ _ _ _, below_setRow HM.out.below (by omega) _⟩
      · rw [if_neg qk] at hr
        have hk1 : aK = 1 := by omega
        have hk2 : bK = 1 := by omega
        subst hk1
        subst hk2
        clear qk
        by_cases qo : aS ≠ bS ∨ op < 0 ∨ op > 15
        · rw [if_pos qo] at hr
          simp only [Option.some.injEq, Prod.mk.injEq] at hr
          obtain ⟨rfl, rfl, rfl, rfl, rfl, rfl, rfl⟩ := hr
          clear HR
          by_cases q1 : aS ≠ bS
          · have q2 : (aS != bS) = true := by simpa using q1
            go_wp2_with (first
              | ((with_reducible refine gate_store (t := 43) (p := 6) rfl ?_)
                 refine wpList_store_rowTo rfl 43 (.tmp 6) (.tmp 64) rfl rfl (w.heap.size + 1 + 1) zero43 rfl rfl 43 _ HM.out.z ?_ rfl zero43_one ?_
                 (focus (rw [i43]; rfl))))
            have hblk := setRow_heap wr (w.heap.size + 1 + 1) _ zero43 43 (0, 0) HM.out.z
            try simp only [Exit.inBlock, Exit.then]
            refine bodyPost_ret (results_ct rfl _ _ (w.heap.size + 1 + 1) 43 zero43 (0, 0) _ rfl hblk Try.underlying43 rfl (by rw [i43]; rfl)) rfl ?_
            exact ⟨_, _, rfl, Kd.R_nil _ _ _ _ _, Kd.R_nil _ _ _ _ _, below_setRow HM.out.below (by omega) _⟩
          · have q2 : (aS != bS) = false := by
              have : aS = bS := by omega
              simp [this]
            by_cases q3 : op < 0
            · go_wp2_with (first
                | ((with_reducible refine gate_store (t := 43) (p := 6) rfl ?_)
                   refine wpList_store_rowTo rfl 43 (.tmp 6) (.tmp 64) rfl rfl (w.heap.size + 1 + 1) zero43 rfl rfl 43 _ HM.out.z ?_ rfl zero43_one ?_
                   (focus (rw [i43]; rfl))))
              have hblk := setRow_heap wr (w.heap.size + 1 + 1) _ zero43 43 (0, 0) HM.out.z
              try simp only [Exit.inBlock, Exit.then]
              refine bodyPost_ret (results_ct rfl _ _ (w.heap.size + 1 + 1) 43 zero43 (0, 0) _ rfl hblk Try.underlying43 rfl (by rw [i43]; rfl)) rfl ?_
              exact ⟨_, _, rfl, Kd.R_nil _ _ _ _ _, Kd.R_nil _ _ _ _ _, below_setRow HM.out.below (by omega) _⟩
            · have q4 : 15 < op := by omega
              go_wp2_with (first
                | ((with_reducible refine gate_store (t := 43) (p := 6) rfl ?_)
                   refine wpList_store_rowTo rfl 43 (.tmp 6) (.tmp 64) rfl rfl (w.heap.size + 1 + 1) zero43 rfl rfl 43 _ HM.out.z ?_ rfl zero43_one ?_
                   (focus (rw [i43]; rfl))))
              have hblk := setRow_heap wr (w.heap.size + 1 + 1) _ zero43 43 (0, 0) HM.out.z
              try simp only [Exit.inBlock, Exit.then]
              refine bodyPost_ret (results_ct rfl _ _ (w.heap.size + 1 + 1) 43 zero43 (0, 0) _ rfl hblk Try.underlying43 rfl (by rw [i43]; rfl)) rfl ?_
              exact ⟨_, _, rfl, Kd.R_nil _ _ _ _ _, Kd.R_nil _ _ _ _ _, below_setRow HM.out.below (by omega) _⟩
        · rw [if_neg qo] at hr
          have hs : aS = bS := by omega
          subst hs
          have ho0 : 0 ≤ op := by omega
          have ho1 : op ≤ 15 := by omega
          clear HR qo
          have hmm := @run_makeMap Try.prog
          obtain ⟨z107, i107⟩ := zero_of_info info107
          rename World => W5
          have hp0 := Vm.map_new W5 penc (Value.int .i64)
          cases hd : mtF aS anx aout bnx bout op k 0 [(0, 0)] [] [] with
          | none => rw [hd] at hr; exact absurd hr (by simp)
          | some res =>
          rw [hd] at hr
          have HD0 := Aside0.mk hd
          have HRES := Aside0.mk hr
          clear hr hd
          go_wp2_with (first
            | ((with_reducible refine gate_insert rfl ?_)
               refine Vm.wpList_map_put pair_keys Try.underlying108 rfl (.tmp 65) (.tmp 66) (.const (.int .i64 0)) (.inl rfl) (0, 0) (0 : Int) rfl rfl rfl rfl hp0 (by simp) (by simp [IsPair]) ?_
               intro w6 hp6 hg6
               have HP6 := Aside0.mk (show Vm.MapAt w6 W5.heap.size penc (Value.int .i64) (prOf [(0, 0)]) from hp6)
               have HB6 := Aside0.mk ((below_alloc (Below.refl W5.heap.size W5) (.map #[] 0)).grown hg6 (by simp) (fun k hk => by injection hk with hk; rw [← hk]; exact Nat.le_refl _))
               clear hp6 hg6 hp0)
            | ((with_reducible refine gate_dst (N := 69) rfl ?_)
               refine Kd.R_lit kpair (w0 := W5) W5.heap.size 107 rfl (N := 69) rfl (xs := [((0 : Int), (0 : Int))]) (inner := pairC (0, 0)) (ok := fun _ => True) (okp := fun _ => True) ?hr ?hp (fun _ hk => hk) trivial HB6.out HB6.out.size (by simp) ?_
               (case hr => exact exec_one_pair rfl rfl _)
               (case hp => exact reps_one_pair _)
               intro v7 w7 ho7 hb7 hg7 hnew7
               have HO7 := Aside0.mk ho7
               have HB7 := Aside0.mk hb7
               have HP7 := Aside0.mk (HP6.out.grown hg7 (by simp))
               have hx0 : w7.cell? ⟨w.heap.size, 1, none⟩ = some (.int .i64 aS) := (blk_cell (HM.out.on hb7).a 1).trans rfl
               clear ho7 hb7 hg7 hnew7))
          have hD0 : MeetAt W5 W5.heap.size w7.heap.size aS (prOf [(0, 0)]) [(0, 0)] v7 [] (.slice none 0 0) [] (.slice none 0 0) (w7.alloc (.cells #[.int .i64 1, .int .i64 aS, .int .i64 2, .int .i64 0, .slice none 0 0, .slice none 0 0] 43)) := by
            have hb := below_alloc (Below.refl w7.heap.size w7) (.cells #[.int .i64 1, .int .i64 aS, .int .i64 2, .int .i64 0, .slice none 0 0, .slice none 0 0] 43)
            exact ⟨HP7.out.below hb, Kd.R_below HO7.out hb, blk_new w7 _, Kd.R_nil _ _ _ _ _, Kd.R_nil _ _ _ _ _, fun k hk => by simp [Value.ownBlock] at hk, below_then HB7.out HB7.out.size hb, Nat.le_refl _, HB7.out.size⟩
          have HSS0 : Aside0 (∀ q ∈ [((0 : Int), (0 : Int))], IsPair q) := ⟨fun q hq => by simp only [List.mem_singleton] at hq; rw [hq]; simp [IsPair]⟩
          generalize hmbq : W5.heap.size = mb at hD0 ⊢
          clear HP7 HO7 HB7 HP6 HB6 hx0 hmm hmbq p0 p1 p2 p3 p4 p5 q0 q1 q2 q3 q4 q5
          generalize w7.heap.size = M at hD0 ⊢
          go_loopg [13, 15] k (fun kq v13 v15 wr => ∃ (i : Nat) (row : List (Int × Int)) (nx : List Int) (nxv : Value) (out : List Int) (outv : Value), v15 = .int .i64 (i : Int) ∧ Aside0 (mtF aS anx aout bnx bout op kq i row nx out = some res) ∧ Aside0 (kq ≤ k) ∧ Aside0 (MeetAt W5 mb M aS (prOf row) row v13 nx nxv out outv wr) ∧ Aside0 (∀ q ∈ row, IsPair q) ∧ Aside0 (row.length ≤ 1024))
          case atStart => exact ⟨0, [(0, 0)], [], _, [], _, rfl, HD0, ⟨Nat.le_refl _⟩, ⟨hD0⟩, HSS0, ⟨by simp⟩⟩
          case round =>
            clear hD0 HD0 HSS0
            obtain ⟨i, row, nx, nxv, out, outv, rfl, HF, HK1, HD, HSS, HRL⟩ := hrel
            have hrl := HRL.out
            cases gk with
            | zero => exact absurd HF.out (by simp [mtF])
            | succ k1 =>
              have H := HF.out
              clear HF
              simp only [mtF] at H
              by_cases e1 : i < row.length
              · rw [if_pos e1] at H
                obtain ⟨p, hp⟩ : ∃ p, row.getD i (0, 0) = p := ⟨_, rfl⟩
                have hrow : row[i]? = some p := by rw [← hp]; simp [List.getD_eq_getElem?_getD, List.getElem?_eq_getElem e1]
                rw [hp] at H
                clear hp
                obtain ⟨ps, pt⟩ := p
                obtain ⟨gr, cr, rfl, hc0, hc1⟩ := prow_at HD.out.row i (ps, pt) hrow
                simp only [] at H hc0 hc1
                split at H
                · rename_i e2
                  obtain ⟨⟨⟨e2a, e2b⟩, e2c, e2d⟩, e2e, e2f⟩ := e2
                  cases hin : mtIn aS anx bnx (ps, pt) (List.range aS.toNat) row nx with
                  | none => rw [hin] at H; exact absurd H (by simp)
                  | some ires =>
                    rw [hin] at H
                    have HIN := Aside0.mk hin
                    have HNX := Aside0.mk H
                    have HOL := Aside0.mk e2f
                    clear hin H hrow
                    obtain ⟨Ao, co, rfl⟩ := Kd.R_slice HD.out.out
                    go_wp2
                    have HDD := Aside0.mk (HD.out.low (below_drew1 (Below.refl _ _)))
                    have hrl2 : (row.length : Int) ≤ 1024 := by omega
                    refine start_ (n := 12) (S := fun w' => w'.cell? ⟨gr, i * 2, none⟩ = some (.int .i64 ps) ∧ w'.cell? ⟨gr, i * 2 + 1, none⟩ = some (.int .i64 pt)) (ds := []) #[false, false, false, false, false, false, false, false, false, false, false, false] (by kernel_rfl) rfl rfl ⟨hc0, hc1⟩ (fun hHeld => ?_)
                    refine with_tabW DM18.tab18 DM18.bits18 (fun HT_ HW_ => ?_)
                    generalize wr.drew = wd at HDD hHeld ⊢
                    refine pure_ (i := 0) (N := (some 79)) (v := ?_) (a' := ?_) #[true, false, false, false, false, false, false, false, false, false, false, false] rfl rfl (any_of HT_.out (by kernel_rfl)) (fun _ _ _ h => h) (Or.inl ⟨by rfl, ?_⟩) ?_ ?_
                    rotate_left
                    · intro w'
                      go_simp
                      with_reducible rfl
                    rotate_left
                    · simp only [Act.put, List.setIfInBounds_toArray, List.set_cons_zero, List.set_cons_succ, i64_w, i32_w]
                      rfl
                    refine pure_ (i := 1) (N := (some 80)) (v := ?_) (a' := ?_) #[true, true, false, false, false, false, false, false, false, false, false, false] rfl rfl (any_of HT_.out (by kernel_rfl)) (fun _ _ _ h => h) (Or.inl ⟨by rfl, ?_⟩) ?_ ?_
                    rotate_left
                    · intro w'
                      go_simp
                      with_reducible rfl
                    rotate_left
                    · simp only [Act.put, List.setIfInBounds_toArray, List.set_cons_zero, List.set_cons_succ, i64_w, i32_w]
                      rfl
                    refine pure_ (i := 2) (N := (some 81)) (v := ?_) (a' := ?_) #[true, true, true, false, false, false, false, false, false, false, false, false] rfl rfl (any_of HT_.out (by kernel_rfl)) (fun _ _ _ h => h) (Or.inl ⟨by rfl, ?_⟩) ?_ ?_
                    rotate_left
                    · intro w'
                      go_simp
                      with_reducible rfl
                    rotate_left
                    · simp only [Act.put, List.setIfInBounds_toArray, List.set_cons_zero, List.set_cons_succ, i64_w, i32_w]
                      rfl
                    refine pure_ (i := 3) (N := (some 82)) (v := ?_) (a' := ?_) #[true, true, true, true, false, false, false, false, false, false, false, false] rfl rfl (any_of HT_.out (by kernel_rfl)) (fun _ _ _ h => h) (Or.inl ⟨by rfl, ?_⟩) ?_ ?_
                    rotate_left
                    · intro w'
                      go_simp
                      with_reducible rfl
                    rotate_left
                    · simp only [Act.put, List.setIfInBounds_toArray, List.set_cons_zero, List.set_cons_succ, i64_w, i32_w]
                      rfl
                    refine pure_ (i := 5) (N := (some 84)) (v := ?_) (a' := ?_) #[true, true, true, true, false, true, false, false, false, false, false, false] rfl rfl (any_of HT_.out (by kernel_rfl)) (fun _ _ _ h => h) (Or.inl ⟨by rfl, ?_⟩) ?_ ?_
                    rotate_left
                    · intro w'
                      go_simp
                      with_reducible rfl
                    rotate_left
                    · simp only [Act.put, List.setIfInBounds_toArray, List.set_cons_zero, List.set_cons_succ, i64_w, i32_w]
                      rfl
                    refine pure_ (i := 6) (N := (some 85)) (v := ?_) (a' := ?_) #[true, true, true, true, false, true, true, false, false, false, false, false] rfl rfl (any_of HT_.out (by kernel_rfl)) (fun _ _ _ h => h) (Or.inl ⟨by rfl, ?_⟩) ?_ ?_
                    rotate_left
                    · intro w'
                      go_simp
                      with_reducible rfl
                    rotate_left
                    · simp only [Act.put, List.setIfInBounds_toArray, List.set_cons_zero, List.set_cons_succ, i64_w, i32_w]
                      rfl
                    refine pure_ (i := 7) (N := (some 86)) (v := ?_) (a' := ?_) #[true, true, true, true, false, true, true, true, false, false, false, false] rfl rfl (any_of HT_.out (by kernel_rfl)) (fun _ _ _ h => h) (Or.inl ⟨by rfl, ?_⟩) ?_ ?_
                    rotate_left
                    · intro w'
                      go_simp
                      with_reducible rfl
                    rotate_left
                    · simp only [Act.put, List.setIfInBounds_toArray, List.set_cons_zero, List.set_cons_succ, i64_w, i32_w]
                      rfl
                    refine pure_ (i := 8) (N := (some 87)) (v := ?_) (a' := ?_) #[true, true, true, true, false, true, true, true, true, false, false, false] rfl rfl (any_of HT_.out (by kernel_rfl)) (fun _ _ _ h => h) (Or.inl ⟨by rfl, ?_⟩) ?_ ?_
                    rotate_left
                    · intro w'
                      go_simp
                      with_reducible rfl
                    rotate_left
                    · simp only [Act.put, List.setIfInBounds_toArray, List.set_cons_zero, List.set_cons_succ, i64_w, i32_w]
                      rfl
                    refine take_ (i := 4) (N := (some 83)) (v := ?_) (a' := ?_) #[true, true, true, true, true, true, true, true, true, false, false, false] rfl rfl (take_ofW HT_.out HW_.out (by kernel_rfl)) (fun _ _ _ h => h) (Or.inl ⟨by rfl, ?_⟩) hHeld ?_ ?_
                    rotate_left
                    · rintro w' ⟨s0, s1⟩
                      go_simp
                      with_reducible rfl
                    rotate_left
                    · simp only [Act.put, List.setIfInBounds_toArray, List.set_cons_zero, List.set_cons_succ, i64_w, i32_w]
                      rfl
                    refine pure_ (i := 10) (N := (some 16)) (v := ?_) (a' := ?_) #[true, true, true, true, true, true, true, true, true, false, true, false] rfl rfl (any_of HT_.out (by kernel_rfl)) (fun _ _ _ h => h) (Or.inl ⟨by rfl, ?_⟩) ?_ ?_
                    rotate_left
                    · intro w'
                      go_simp
                      with_reducible rfl
                    rotate_left
                    · simp only [Act.put, List.setIfInBounds_toArray, List.set_cons_zero, List.set_cons_succ, i64_w, i32_w]
                      rfl
                    refine take_ (i := 9) (N := (some 88)) (v := ?_) (a' := ?_) #[true, true, true, true, true, true, true, true, true, true, true, false] rfl rfl (take_ofW HT_.out HW_.out (by kernel_rfl)) (fun _ _ _ h => h) (Or.inl ⟨by rfl, ?_⟩) hHeld ?_ ?_
                    rotate_left
                    · rintro w' ⟨s0, s1⟩
                      go_simp
                      with_reducible rfl
                    rotate_left
                    · simp only [Act.put, List.setIfInBounds_toArray, List.set_cons_zero, List.set_cons_succ, i64_w, i32_w]
                      rfl
                    refine pure_ (i := 11) (N := (some 17)) (v := ?_) (a' := ?_) #[true, true, true, true, true, true, true, true, true, true, true, true] rfl rfl (any_of HT_.out (by kernel_rfl)) (fun _ _ _ h => h) (Or.inl ⟨by rfl, ?_⟩) ?_ ?_
                    rotate_left
                    · intro w'
                      go_simp
                      with_reducible rfl
                    rotate_left
                    · simp only [Act.put, List.setIfInBounds_toArray, List.set_cons_zero, List.set_cons_succ, i64_w, i32_w]
                      rfl
                    refine done_ (done_of HT_.out (by kernel_rfl)) ?_
                    clear hHeld hc0 hc1
                    obtain ⟨adA, eA, hvA⟩ := Kd.at_int (Kd.C_below HAR.out.1.2 (HM.out.on HDD.out.below).below) ps e2a e2b
                    obtain ⟨adB, eB, hvB⟩ := Kd.at_int (Kd.C_below HAR.out.2.2 (HM.out.on HDD.out.below).below) pt e2c e2d
                    subst eA
                    subst eB
                    have hcA : wd.cell? ⟨w.heap.size, 5, none⟩ = some (.slice (some adA) aout.length c5) := (blk_cell (HM.out.on HDD.out.below).a 5).trans rfl
                    have hcB : wd.cell? ⟨w.heap.size + 1, 5, none⟩ = some (.slice (some adB) bout.length d5) := (blk_cell (HM.out.on HDD.out.below).b 5).trans rfl
                    go_wp2
                    refine start_ (n := 21) (S := fun w' => w'.cell? ⟨M, 5, none⟩ = some (.slice Ao out.length co) ∧ w'.cell? ⟨w.heap.size, 5, none⟩ = some (.slice (some adA) aout.length c5) ∧ w'.cell? ⟨w.heap.size + 1, 5, none⟩ = some (.slice (some adB) bout.length d5) ∧ w'.cell? (adA.add ps.toNat) = some (.int .i64 (rd aout ps)) ∧ w'.cell? (adB.add pt.toNat) = some (.int .i64 (rd bout pt))) (ds := [18, 20]) #[false, false, false, false, false, false, false, false, false, false, false, false, false, false, false, false, false, false, false, false, false] (by kernel_rfl) rfl rfl ⟨(blk_cell HDD.out.m 5).trans rfl, hcA, hcB, hvA, hvB⟩ (fun hHeld => ?_)
                    refine with_tabW DM19.tab19 DM19.bits19 (fun HT_ HW_ => ?_)
                    have HDE := Aside0.mk (HDD.out.low (below_drew1 (Below.refl _ _)))
                    generalize wd.drew = we at HDE hHeld ⊢
                    refine pure_ (i := 0) (N := (some 89)) (v := ?_) (a' := ?_) #[true, false, false, false, false, false, false, false, false, false, false, false, false, false, false, false, false, false, false, false, false] rfl rfl (any_of HT_.out (by kernel_rfl)) (fun _ _ _ h => h) (Or.inl ⟨by rfl, ?_⟩) ?_ ?_
                    rotate_left
                    · intro w'
                      go_simp
                      with_reducible rfl
                    rotate_left
                    · simp only [Act.put, List.setIfInBounds_toArray, List.set_cons_zero, List.set_cons_succ, i64_w, i32_w]
                      rfl
                    refine pure_ (i := 2) (N := (some 91)) (v := ?_) (a' := ?_) #[true, false, true, false, false, false, false, false, false, false, false, false, false, false, false, false, false, false, false, false, false] rfl rfl (any_of HT_.out (by kernel_rfl)) (fun _ _ _ h => h) (Or.inl ⟨by rfl, ?_⟩) ?_ ?_
                    rotate_left
                    · intro w'
                      go_simp
                      with_reducible rfl
                    rotate_left
                    · simp only [Act.put, List.setIfInBounds_toArray, List.set_cons_zero, List.set_cons_succ, i64_w, i32_w]
                      rfl
                    refine pure_ (i := 3) (N := (some 92)) (v := ?_) (a' := ?_) #[true, false, true, true, false, false, false, false, false, false, false, false, false, false, false, false, false, false, false, false, false] rfl rfl (any_of HT_.out (by kernel_rfl)) (fun _ _ _ h => h) (Or.inl ⟨by rfl, ?_⟩) ?_ ?_
                    rotate_left
                    · intro w'
                      go_simp
                      with_reducible rfl
                    rotate_left
                    · simp only [Act.put, List.setIfInBounds_toArray, List.set_cons_zero, List.set_cons_succ, i64_w, i32_w]
                      rfl
                    refine pure_ (i := 5) (N := (some 94)) (v := ?_) (a' := ?_) #[true, false, true, true, false, true, false, false, false, false, false, false, false, false, false, false, false, false, false, false, false] rfl rfl (any_of HT_.out (by kernel_rfl)) (fun _ _ _ h => h) (Or.inl ⟨by rfl, ?_⟩) ?_ ?_
                    rotate_left
                    · intro w'
                      go_simp
                      with_reducible rfl
                    rotate_left
                    · simp only [Act.put, List.setIfInBounds_toArray, List.set_cons_zero, List.set_cons_succ, i64_w, i32_w]
                      rfl
                    refine pure_ (i := 9) (N := (some 98)) (v := ?_) (a' := ?_) #[true, false, true, true, false, true, false, false, false, true, false, false, false, false, false, false, false, false, false, false, false] rfl rfl (any_of HT_.out (by kernel_rfl)) (fun _ _ _ h => h) (Or.inl ⟨by rfl, ?_⟩) ?_ ?_
                    rotate_left
                    · intro w'
                      go_simp
                      with_reducible rfl
                    rotate_left
                    · simp only [Act.put, List.setIfInBounds_toArray, List.set_cons_zero, List.set_cons_succ, i64_w, i32_w]
                      rfl
                    refine pure_ (i := 11) (N := (some 100)) (v := ?_) (a' := ?_) #[true, false, true, true, false, true, false, false, false, true, false, true, false, false, false, false, false, false, false, false, false] rfl rfl (any_of HT_.out (by kernel_rfl)) (fun _ _ _ h => h) (Or.inl ⟨by rfl, ?_⟩) ?_ ?_
                    rotate_left
                    · intro w'
                      go_simp
                      with_reducible rfl
                    rotate_left
                    · simp only [Act.put, List.setIfInBounds_toArray, List.set_cons_zero, List.set_cons_succ, i64_w, i32_w]
                      rfl
                    refine take_ (i := 1) (N := (some 90)) (v := ?_) (a' := ?_) #[true, true, true, true, false, true, false, false, false, true, false, true, false, false, false, false, false, false, false, false, false] rfl rfl (take_ofW HT_.out HW_.out (by kernel_rfl)) (fun _ _ _ h => h) (Or.inl ⟨by rfl, ?_⟩) hHeld ?_ ?_
                    rotate_left
                    · rintro w' ⟨s0, s1, s2, s3, s4⟩
                      go_simp
                      with_reducible rfl
                    rotate_left
                    · simp only [Act.put, List.setIfInBounds_toArray, List.set_cons_zero, List.set_cons_succ, i64_w, i32_w]
                      rfl
                    refine take_ (i := 4) (N := (some 93)) (v := ?_) (a' := ?_) #[true, true, true, true, true, true, false, false, false, true, false, true, false, false, false, false, false, false, false, false, false] rfl rfl (take_ofW HT_.out HW_.out (by kernel_rfl)) (fun _ _ _ h => h) (Or.inl ⟨by rfl, ?_⟩) hHeld ?_ ?_
                    rotate_left
                    · rintro w' ⟨s0, s1, s2, s3, s4⟩
                      go_simp
                      with_reducible rfl
                    rotate_left
                    · simp only [Act.put, List.setIfInBounds_toArray, List.set_cons_zero, List.set_cons_succ, i64_w, i32_w]
                      rfl
                    refine pure_ (i := 6) (N := (some 95)) (v := ?_) (a' := ?_) #[true, true, true, true, true, true, true, false, false, true, false, true, false, false, false, false, false, false, false, false, false] rfl rfl (any_of HT_.out (by kernel_rfl)) (fun _ _ _ h => h) (Or.inl ⟨by rfl, ?_⟩) ?_ ?_
                    rotate_left
                    · intro w'
                      go_simp
                      with_reducible rfl
                    rotate_left
                    · simp only [Act.put, List.setIfInBounds_toArray, List.set_cons_zero, List.set_cons_succ, i64_w, i32_w]
                      rfl
                    refine take_ (i := 7) (N := (some 96)) (v := ?_) (a' := ?_) #[true, true, true, true, true, true, true, true, false, true, false, true, false, false, false, false, false, false, false, false, false] rfl rfl (take_ofW HT_.out HW_.out (by kernel_rfl)) (fun _ _ _ h => h) (Or.inl ⟨by rfl, ?_⟩) hHeld ?_ ?_
                    rotate_left
                    · rintro w' ⟨s0, s1, s2, s3, s4⟩
                      go_simp
                      with_reducible rfl
                    rotate_left
                    · simp only [Act.put, List.setIfInBounds_toArray, List.set_cons_zero, List.set_cons_succ, i64_w, i32_w]
                      rfl
                    refine pure_ (i := 8) (N := (some 97)) (v := ?_) (a' := ?_) #[true, true, true, true, true, true, true, true, true, true, false, true, false, false, false, false, false, false, false, false, false] rfl rfl (any_of HT_.out (by kernel_rfl)) (fun _ _ _ h => h) (Or.inl ⟨by rfl, ?_⟩) ?_ ?_
                    rotate_left
                    · intro w'
                      go_simp
                      with_reducible rfl
                    rotate_left
                    · simp only [Act.put, List.setIfInBounds_toArray, List.set_cons_zero, List.set_cons_succ, i64_w, i32_w]
                      rfl
                    refine take_ (i := 10) (N := (some 99)) (v := ?_) (a' := ?_) #[true, true, true, true, true, true, true, true, true, true, true, true, false, false, false, false, false, false, false, false, false] rfl rfl (take_ofW HT_.out HW_.out (by kernel_rfl)) (fun _ _ _ h => h) (Or.inl ⟨by rfl, ?_⟩) hHeld ?_ ?_
                    rotate_left
                    · rintro w' ⟨s0, s1, s2, s3, s4⟩
                      go_simp
                      with_reducible rfl
                    rotate_left
                    · simp only [Act.put, List.setIfInBounds_toArray, List.set_cons_zero, List.set_cons_succ, i64_w, i32_w]
                      rfl
                    refine pure_ (i := 12) (N := (some 101)) (v := ?_) (a' := ?_) #[true, true, true, true, true, true, true, true, true, true, true, true, true, false, false, false, false, false, false, false, false] rfl rfl (any_of HT_.out (by kernel_rfl)) (fun _ _ _ h => h) (Or.inl ⟨by rfl, ?_⟩) ?_ ?_
                    rotate_left
                    · intro w'
                      go_simp
                      with_reducible rfl
                    rotate_left
                    · simp only [Act.put, List.setIfInBounds_toArray, List.set_cons_zero, List.set_cons_succ, i64_w, i32_w]
                      rfl
                    refine take_ (i := 13) (N := (some 102)) (v := ?_) (a' := ?_) #[true, true, true, true, true, true, true, true, true, true, true, true, true, true, false, false, false, false, false, false, false] rfl rfl (take_ofW HT_.out HW_.out (by kernel_rfl)) (fun _ _ _ h => h) (Or.inl ⟨by rfl, ?_⟩) hHeld ?_ ?_
                    rotate_left
                    · rintro w' ⟨s0, s1, s2, s3, s4⟩
                      go_simp
                      with_reducible rfl
                    rotate_left
                    · simp only [Act.put, List.setIfInBounds_toArray, List.set_cons_zero, List.set_cons_succ, i64_w, i32_w]
                      rfl
                    refine pure_ (i := 14) (N := (some 103)) (v := ?_) (a' := ?_) #[true, true, true, true, true, true, true, true, true, true, true, true, true, true, true, false, false, false, false, false, false] rfl rfl (any_of HT_.out (by kernel_rfl)) (fun _ _ _ h => h) (Or.inl ⟨by rfl, ?_⟩) ?_ ?_
                    rotate_left
                    · intro w'
                      go_simp
                      with_reducible rfl
                    rotate_left
                    · simp only [Act.put, List.setIfInBounds_toArray, List.set_cons_zero, List.set_cons_succ, i64_w, i32_w]
                      rfl
                    refine pure_ (i := 15) (N := (some 104)) (v := ?_) (a' := ?_) #[true, true, true, true, true, true, true, true, true, true, true, true, true, true, true, true, false, false, false, false, false] rfl rfl (any_of HT_.out (by kernel_rfl)) (fun _ _ _ h => h) (Or.inl ⟨by rfl, ?_⟩) ?_ ?_
                    rotate_left
                    · intro w'
                      go_simp
                      with_reducible rfl
                    rotate_left
                    · simp only [Act.put, List.setIfInBounds_toArray, List.set_cons_zero, List.set_cons_succ, i64_w, i32_w]
                      rfl
                    refine pure_ (i := 16) (N := (some 105)) (v := ?_) (a' := ?_) #[true, true, true, true, true, true, true, true, true, true, true, true, true, true, true, true, true, false, false, false, false] rfl rfl (any_of HT_.out (by kernel_rfl)) (fun _ _ _ h => h) (Or.inl ⟨by rfl, ?_⟩) ?_ ?_
                    rotate_left
                    · intro w'
                      go_simp
                      with_reducible rfl
                    rotate_left
                    · simp only [Act.put, List.setIfInBounds_toArray, List.set_cons_zero, List.set_cons_succ, i64_w, i32_w]
                      rfl
                    refine one_ (i := 17) (N := (some 106)) #[true, true, true, true, true, true, true, true, true, true, true, true, true, true, true, true, true, true, false, false, false] rfl rfl (one_of HT_.out (by kernel_rfl)) (by decide) (fun K hK => ?_)
                    refine value_ (w1 := ?_) (v := ?_) (by rfl) rfl ?_ ?_
                    rotate_left 2
                    · go_simp
                      constructor
                      · rfl
                      · rfl
                    refine hK.out _ _ ⟨cell_al hHeld.1, cell_al hHeld.2.1, cell_al hHeld.2.2.1, cell_al hHeld.2.2.2.1, cell_al hHeld.2.2.2.2⟩ (fun hHeld => ?_); clear hK K
                    refine norm_ (a' := ?_) ?_ ?_
                    rotate_left
                    · show Act.put _ (some 106) _ = _
                      simp only [Act.put, List.setIfInBounds_toArray, List.set_cons_zero, List.set_cons_succ, i64_w, i32_w]
                      rfl
                    refine last_ (i := 18) (N := (some 107)) #[true, true, true, true, true, true, true, true, true, true, true, true, true, true, true, true, true, true, true, false, false] rfl rfl (one_of HT_.out (by kernel_rfl)) (by decide) (fun K hK => ?_)
                    refine Kd.R_append_step (Kd.int .i64) (w0 := W5) W5.heap.size (by rfl) (.tmp 90) (.tmp 106) 22 3 (.int .i64 0) 8 rfl Try.underlying22 info3 rfl (by decide) (by omega) (.slice Ao out.length co) out (mtO aout bout op (ps, pt)) [.int .i64 (mtO aout bout op (ps, pt))] (fun _ => True) (fun _ => False) rfl rfl rfl (fun _ hk => hk.elim) (fun _ _ => trivial) HDE.out.out HDE.out.below HDE.out.below.size (by have := HOL.out; omega) ?_
                    intro v1 w1 ho hb hg hat
                    obtain ⟨A9, c9, rfl⟩ := Kd.R_slice ho
                    have hM1 := blk_grown HDE.out.m hg (Kd.R_ne HDE.out.out HDE.out.m (by decide))
                    have hfz := blk_frozen hM1 5
                    have hcl : w1.cell? ⟨M, 5, none⟩ = some (.slice Ao out.length co) := (blk_cell hM1 5).trans rfl
                    refine hK.out _ _ ?_; clear hK K
                    refine norm_ (a' := ?_) ?_ ?_
                    rotate_left
                    · show Act.put _ (some 107) _ = _
                      simp only [Act.put, List.setIfInBounds_toArray, List.set_cons_zero, List.set_cons_succ, i64_w, i32_w]
                      rfl
                    refine pure_ (i := 19) (N := (some 108)) (v := ?_) (a' := ?_) #[true, true, true, true, true, true, true, true, true, true, true, true, true, true, true, true, true, true, true, true, false] rfl rfl (any_of HT_.out (by kernel_rfl)) (fun _ _ _ h => h) (Or.inl ⟨by rfl, ?_⟩) ?_ ?_
                    rotate_left
                    · intro w'
                      go_simp
                      with_reducible rfl
                    rotate_left
                    · simp only [Act.put, List.setIfInBounds_toArray, List.set_cons_zero, List.set_cons_succ, i64_w, i32_w]
                      rfl
                    refine last_ (i := 20) (N := none) #[true, true, true, true, true, true, true, true, true, true, true, true, true, true, true, true, true, true, true, true, true] rfl rfl (one_of HT_.out (by kernel_rfl)) (by decide) (fun K hK => ?_)
                    refine skip_ (w1 := ?_) (by rfl) rfl ?_ ?_
                    rotate_left
                    · go_simp
                      rfl
                    refine hK.out _ _ ?_; clear hK K
                    refine done_ (done_of HT_.out (by kernel_rfl)) ?_
                    have HD2 := MeetAt.outAp HDE.out ho hb hg hat
                    simp only [List.length_append, List.length_singleton] at HD2
                    clear ho hb hg hat hM1 hfz hcl hcA hcB hvA hvB hHeld
                    generalize w1.setCell ⟨M, 5, none⟩ (.slice A9 (out.length + 1) c9) = w2 at HD2 ⊢
                    generalize Value.slice A9 (out.length + 1) c9 = ov2 at HD2
                    generalize hout2 : out ++ [mtO aout bout op (ps, pt)] = out2 at HD2 HNX
                    have hx0 : w2.cell? ⟨w.heap.size, 1, none⟩ = some (.int .i64 aS) := (blk_cell (HM.out.on HD2.below).a 1).trans rfl
                    have HD3 := Aside0.mk HD2
                    clear HD2 HDE HDD HD hout2
                    go_wp2
                    clear hx0
                    go_loopw [111, 13] (fun v111 v13 wr2 => ∃ (x : Nat) (row1 : List (Int × Int)) (nx1 : List Int) (nxv1 : Value), v111 = .int .i64 (x : Int) ∧ Aside0 (x ≤ aS.toNat) ∧ Aside0 (mtIn aS anx bnx (ps, pt) ((List.range aS.toNat).drop x) row1 nx1 = some ires) ∧ Aside0 (MeetAt W5 mb M aS (prOf row1) row1 v13 nx1 nxv1 out2 ov2 wr2) ∧ Aside0 (∀ q ∈ row1, IsPair q) ∧ Aside0 (row1.length ≤ 1024) ∧ Aside0 (x ≤ nx1.length)) (fun v111 _ _ => aS.toNat - (intOf v111).toNat)
                    case atStart => exact ⟨0, row, nx, nxv, rfl, ⟨by omega⟩, HIN, HD3, HSS, HRL, ⟨by omega⟩⟩
                    case round =>
                      have hib : i < 1024 := by have := HRL.out; omega
                      clear HIN HD3 HSS HRL hrl hrl2 HOL e2a e2b e2c e2d e2e e2f e1
                      obtain ⟨x, row1, nx1, nxv1, rfl, HX, HIN, HD, HSS, HRL, HXN⟩ := hrel
                      obtain ⟨An, cn, rfl⟩ := Kd.R_slice HD.out.nx
                      obtain ⟨Ar, cr2, rfl⟩ := Kd.R_slice HD.out.row
                      have hrl := HRL.out
                      by_cases hlt : x < aS.toNat
                      · have H := HIN.out
                        have hd : (List.range aS.toNat).drop x = x :: (List.range aS.toNat).drop (x + 1) := by
                          rw [List.drop_eq_getElem_cons (by simpa using hlt)]
                          simp
                        rw [hd] at H
                        clear HIN hd
                        simp only [mtIn] at H
                        have hlt' : (x : Int) < aS := by omega
                        have HLT := Aside0.mk hlt
                        by_cases e3 : (0 ≤ mtI aS ps x ∧ mtI aS ps x < (anx.length : Int)) ∧ (0 ≤ mtI aS pt x ∧ mtI aS pt x < (bnx.length : Int))
                        · rw [if_pos e3] at H
                          obtain ⟨⟨e3a, e3b⟩, e3c, e3d⟩ := e3
                          obtain ⟨adA, eA, hvA⟩ := Kd.at_int (Kd.C_below HAR.out.1.1 (HM.out.on HD.out.below).below) _ e3a e3b
                          obtain ⟨adB, eB, hvB⟩ := Kd.at_int (Kd.C_below HAR.out.2.1 (HM.out.on HD.out.below).below) _ e3c e3d
                          subst eA
                          subst eB
                          generalize rd anx (mtI aS ps x) = na at H hvA
                          generalize rd bnx (mtI aS pt x) = nb at H hvB
                          simp only [mtI] at e3a e3b e3c e3d hvA hvB
                          have hcA : wr.cell? ⟨w.heap.size, 4, none⟩ = some (.slice (some adA) anx.length c4) := (blk_cell (HM.out.on HD.out.below).a 4).trans rfl
                          have hcS : wr.cell? ⟨w.heap.size, 1, none⟩ = some (.int .i64 aS) := (blk_cell (HM.out.on HD.out.below).a 1).trans rfl
                          have hcB : wr.cell? ⟨w.heap.size + 1, 4, none⟩ = some (.slice (some adB) bnx.length d4) := (blk_cell (HM.out.on HD.out.below).b 4).trans rfl
                          have hcT : wr.cell? ⟨w.heap.size + 1, 1, none⟩ = some (.int .i64 aS) := (blk_cell (HM.out.on HD.out.below).b 1).trans rfl
                          by_cases e4 : okP (na, nb) = true ∧ nx1.length < 1099511627776
                          · rw [if_pos e4] at H
                            obtain ⟨e4a, e4b⟩ := e4
                            have HPK := Aside0.mk (okP_is e4a)
                            have hxb : (x : Int) < 1099511627776 := by have := HXN.out; omega
                            have HNL := Aside0.mk e4b
                            have HH2 := Aside0.mk H
                            clear H e4a e4b
                            go_wp2
                            refine start_ (n := 23) (S := fun w' => w'.cell? ⟨w.heap.size, 4, none⟩ = some (.slice (some adA) anx.length c4) ∧ w'.cell? ⟨w.heap.size, 1, none⟩ = some (.int .i64 aS) ∧ w'.cell? ⟨w.heap.size + 1, 4, none⟩ = some (.slice (some adB) bnx.length d4) ∧ w'.cell? ⟨w.heap.size + 1, 1, none⟩ = some (.int .i64 aS) ∧ w'.cell? (adA.add (wrap64 (wrap64 (ps * aS) + (x : Int))).toNat) = some (.int .i64 na) ∧ w'.cell? (adB.add (wrap64 (wrap64 (pt * aS) + (x : Int))).toNat) = some (.int .i64 nb)) (ds := [22]) #[false, false, false, false, false, false, false, false, false, false, false, false, false, false, false, false, false, false, false, false, false, false, false] (by kernel_rfl) rfl rfl ⟨hcA, hcS, hcB, hcT, hvA, hvB⟩ (fun hHeld => ?_)
                            refine with_tabW DM23.tab23 DM23.bits23 (fun HT_ HW_ => ?_)
                            have HDE := Aside0.mk (HD.out.low (below_drew1 (Below.refl _ _)))
                            generalize wr.drew = we at HDE hHeld ⊢
                            refine pure_ (i := 0) (N := (some 114)) (v := ?_) (a' := ?_) #[true, false, false, false, false, false, false, false, false, false, false, false, false, false, false, false, false, false, false, false, false, false, false] rfl rfl (any_of HT_.out (by kernel_rfl)) (fun _ _ _ h => h) (Or.inl ⟨by rfl, ?_⟩) ?_ ?_
                            rotate_left
                            · intro w'
                              go_simp
                              with_reducible rfl
                            rotate_left
                            · simp only [Act.put, List.setIfInBounds_toArray, List.set_cons_zero, List.set_cons_succ, i64_w, i32_w]
                              rfl
                            refine pure_ (i := 2) (N := (some 116)) (v := ?_) (a' := ?_) #[true, false, true, false, false, false, false, false, false, false, false, false, false, false, false, false, false, false, false, false, false, false, false] rfl rfl (any_of HT_.out (by kernel_rfl)) (fun _ _ _ h => h) (Or.inl ⟨by rfl, ?_⟩) ?_ ?_
                            rotate_left
                            · intro w'
                              go_simp
                              with_reducible rfl
                            rotate_left
                            · simp only [Act.put, List.setIfInBounds_toArray, List.set_cons_zero, List.set_cons_succ, i64_w, i32_w]
                              rfl
                            refine pure_ (i := 3) (N := (some 117)) (v := ?_) (a' := ?_) #[true, false, true, true, false, false, false, false, false, false, false, false, false, false, false, false, false, false, false, false, false, false, false] rfl rfl (any_of HT_.out (by kernel_rfl)) (fun _ _ _ h => h) (Or.inl ⟨by rfl, ?_⟩) ?_ ?_
                            rotate_left
                            · intro w'
                              go_simp
                              with_reducible rfl
                            rotate_left
                            · simp only [Act.put, List.setIfInBounds_toArray, List.set_cons_zero, List.set_cons_succ, i64_w, i32_w]
                              rfl
                            refine pure_ (i := 6) (N := (some 120)) (v := ?_) (a' := ?_) #[true, false, true, true, false, false, true, false, false, false, false, false, false, false, false, false, false, false, false, false, false, false, false] rfl rfl (any_of HT_.out (by kernel_rfl)) (fun _ _ _ h => h) (Or.inl ⟨by rfl, ?_⟩) ?_ ?_
                            rotate_left
                            · intro w'
                              go_simp
                              with_reducible rfl
                            rotate_left
                            · simp only [Act.put, List.setIfInBounds_toArray, List.set_cons_zero, List.set_cons_succ, i64_w, i32_w]
                              rfl
                            refine pure_ (i := 10) (N := (some 124)) (v := ?_) (a' := ?_) #[true, false, true, true, false, false, true, false, false, false, true, false, false, false, false, false, false, false, false, false, false, false, false] rfl rfl (any_of HT_.out (by kernel_rfl)) (fun _ _ _ h => h) (Or.inl ⟨by rfl, ?_⟩) ?_ ?_
                            rotate_left
                            · intro w'
                              go_simp
                              with_reducible rfl
                            rotate_left
                            · simp only [Act.put, List.setIfInBounds_toArray, List.set_cons_zero, List.set_cons_succ, i64_w, i32_w]
                              rfl
                            refine pure_ (i := 12) (N := (some 126)) (v := ?_) (a' := ?_) #[true, false, true, true, false, false, true, false, false, false, true, false, true, false, false, false, false, false, false, false, false, false, false] rfl rfl (any_of HT_.out (by kernel_rfl)) (fun _ _ _ h => h) (Or.inl ⟨by rfl, ?_⟩) ?_ ?_
                            rotate_left
                            · intro w'
                              go_simp
                              with_reducible rfl
                            rotate_left
                            · simp only [Act.put, List.setIfInBounds_toArray, List.set_cons_zero, List.set_cons_succ, i64_w, i32_w]
                              rfl
                            refine pure_ (i := 13) (N := (some 127)) (v := ?_) (a' := ?_) #[true, false, true, true, false, false, true, false, false, false, true, false, true, true, false, false, false, false, false, false, false, false, false] rfl rfl (any_of HT_.out (by kernel_rfl)) (fun _ _ _ h => h) (Or.inl ⟨by rfl, ?_⟩) ?_ ?_
                            rotate_left
                            · intro w'
                              go_simp
                              with_reducible rfl
                            rotate_left
                            · simp only [Act.put, List.setIfInBounds_toArray, List.set_cons_zero, List.set_cons_succ, i64_w, i32_w]
                              rfl
                            refine pure_ (i := 16) (N := (some 130)) (v := ?_) (a' := ?_) #[true, false, true, true, false, false, true, false, false, false, true, false, true, true, false, false, true, false, false, false, false, false, false] rfl rfl (any_of HT_.out (by kernel_rfl)) (fun _ _ _ h => h) (Or.inl ⟨by rfl, ?_⟩) ?_ ?_
                            rotate_left
                            · intro w'
                              go_simp
                              with_reducible rfl
                            rotate_left
                            · simp only [Act.put, List.setIfInBounds_toArray, List.set_cons_zero, List.set_cons_succ, i64_w, i32_w]
                              rfl
                            refine take_ (i := 1) (N := (some 115)) (v := ?_) (a' := ?_) #[true, true, true, true, false, false, true, false, false, false, true, false, true, true, false, false, true, false, false, false, false, false, false] rfl rfl (take_ofW HT_.out HW_.out (by kernel_rfl)) (fun _ _ _ h => h) (Or.inl ⟨by rfl, ?_⟩) hHeld ?_ ?_
                            rotate_left
                            · rintro w' ⟨s0, s1, s2, s3, s4, s5⟩
                              go_simp
                              with_reducible rfl
                            rotate_left
                            · simp only [Act.put, List.setIfInBounds_toArray, List.set_cons_zero, List.set_cons_succ, i64_w, i32_w]
                              rfl
                            refine take_ (i := 4) (N := (some 118)) (v := ?_) (a' := ?_) #[true, true, true, true, true, false, true, false, false, false, true, false, true, true, false, false, true, false, false, false, false, false, false] rfl rfl (take_ofW HT_.out HW_.out (by kernel_rfl)) (fun _ _ _ h => h) (Or.inl ⟨by rfl, ?_⟩) hHeld ?_ ?_
                            rotate_left
                            · rintro w' ⟨s0, s1, s2, s3, s4, s5⟩
                              go_simp
                              with_reducible rfl
                            rotate_left
                            · simp only [Act.put, List.setIfInBounds_toArray, List.set_cons_zero, List.set_cons_succ, i64_w, i32_w]
                              rfl
                            refine pure_ (i := 5) (N := (some 119)) (v := ?_) (a' := ?_) #[true, true, true, true, true, true, true, false, false, false, true, false, true, true, false, false, true, false, false, false, false, false, false] rfl rfl (any_of HT_.out (by kernel_rfl)) (fun _ _ _ h => h) (Or.inl ⟨by rfl, ?_⟩) ?_ ?_
                            rotate_left
                            · intro w'
                              go_simp
                              with_reducible rfl
                            rotate_left
                            · simp only [Act.put, List.setIfInBounds_toArray, List.set_cons_zero, List.set_cons_succ, i64_w, i32_w]
                              rfl
                            refine pure_ (i := 7) (N := (some 121)) (v := ?_) (a' := ?_) #[true, true, true, true, true, true, true, true, false, false, true, false, true, true, false, false, true, false, false, false, false, false, false] rfl rfl (any_of HT_.out (by kernel_rfl)) (fun _ _ _ h => h) (Or.inl ⟨by rfl, ?_⟩) ?_ ?_
                            rotate_left
                            · intro w'
                              go_simp
                              with_reducible rfl
                            rotate_left
                            · simp only [Act.put, List.setIfInBounds_toArray, List.set_cons_zero, List.set_cons_succ, i64_w, i32_w]
                              rfl
                            refine pure_ (i := 8) (N := (some 122)) (v := ?_) (a' := ?_) #[true, true, true, true, true, true, true, true, true, false, true, false, true, true, false, false, true, false, false, false, false, false, false] rfl rfl (any_of HT_.out (by kernel_rfl)) (fun _ _ _ h => h) (Or.inl ⟨by rfl, ?_⟩) ?_ ?_
                            rotate_left
                            · intro w'
                              go_simp
                              with_reducible rfl
                            rotate_left
                            · simp only [Act.put, List.setIfInBounds_toArray, List.set_cons_zero, List.set_cons_succ, i64_w, i32_w]
                              rfl
                            refine take_ (i := 9) (N := (some 123)) (v := ?_) (a' := ?_) #[true, true, true, true, true, true, true, true, true, true, true, false, true, true, false, false, true, false, false, false, false, false, false] rfl rfl (take_ofW HT_.out HW_.out (by kernel_rfl)) (fun _ _ _ h => h) (Or.inl ⟨by rfl, ?_⟩) hHeld ?_ ?_
                            rotate_left
                            · rintro w' ⟨s0, s1, s2, s3, s4, s5⟩
                              go_simp
                              with_reducible rfl
                            rotate_left
                            · simp only [Act.put, List.setIfInBounds_toArray, List.set_cons_zero, List.set_cons_succ, i64_w, i32_w]
                              rfl
                            refine take_ (i := 11) (N := (some 125)) (v := ?_) (a' := ?_) #[true, true, true, true, true, true, true, true, true, true, true, true, true, true, false, false, true, false, false, false, false, false, false] rfl rfl (take_ofW HT_.out HW_.out (by kernel_rfl)) (fun _ _ _ h => h) (Or.inl ⟨by rfl, ?_⟩) hHeld ?_ ?_
                            rotate_left
                            · rintro w' ⟨s0, s1, s2, s3, s4, s5⟩
                              go_simp
                              with_reducible rfl
                            rotate_left
                            · simp only [Act.put, List.setIfInBounds_toArray, List.set_cons_zero, List.set_cons_succ, i64_w, i32_w]
                              rfl
                            refine take_ (i := 14) (N := (some 128)) (v := ?_) (a' := ?_) #[true, true, true, true, true, true, true, true, true, true, true, true, true, true, true, false, true, false, false, false, false, false, false] rfl rfl (take_ofW HT_.out HW_.out (by kernel_rfl)) (fun _ _ _ h => h) (Or.inl ⟨by rfl, ?_⟩) hHeld ?_ ?_
                            rotate_left
                            · rintro w' ⟨s0, s1, s2, s3, s4, s5⟩
                              go_simp
                              with_reducible rfl
                            rotate_left
                            · simp only [Act.put, List.setIfInBounds_toArray, List.set_cons_zero, List.set_cons_succ, i64_w, i32_w]
                              rfl
                            refine pure_ (i := 15) (N := (some 129)) (v := ?_) (a' := ?_) #[true, true, true, true, true, true, true, true, true, true, true, true, true, true, true, true, true, false, false, false, false, false, false] rfl rfl (any_of HT_.out (by kernel_rfl)) (fun _ _ _ h => h) (Or.inl ⟨by rfl, ?_⟩) ?_ ?_
                            rotate_left
                            · intro w'
                              go_simp
                              with_reducible rfl
                            rotate_left
                            · simp only [Act.put, List.setIfInBounds_toArray, List.set_cons_zero, List.set_cons_succ, i64_w, i32_w]
                              rfl
                            refine pure_ (i := 17) (N := (some 131)) (v := ?_) (a' := ?_) #[true, true, true, true, true, true, true, true, true, true, true, true, true, true, true, true, true, true, false, false, false, false, false] rfl rfl (any_of HT_.out (by kernel_rfl)) (fun _ _ _ h => h) (Or.inl ⟨by rfl, ?_⟩) ?_ ?_
                            rotate_left
                            · intro w'
                              go_simp
                              with_reducible rfl
                            rotate_left
                            · simp only [Act.put, List.setIfInBounds_toArray, List.set_cons_zero, List.set_cons_succ, i64_w, i32_w]
                              rfl
                            refine pure_ (i := 18) (N := (some 132)) (v := ?_) (a' := ?_) #[true, true, true, true, true, true, true, true, true, true, true, true, true, true, true, true, true, true, true, false, false, false, false] rfl rfl (any_of HT_.out (by kernel_rfl)) (fun _ _ _ h => h) (Or.inl ⟨by rfl, ?_⟩) ?_ ?_
                            rotate_left
                            · intro w'
                              go_simp
                              with_reducible rfl
                            rotate_left
                            · simp only [Act.put, List.setIfInBounds_toArray, List.set_cons_zero, List.set_cons_succ, i64_w, i32_w]
                              rfl
                            refine take_ (i := 19) (N := (some 133)) (v := ?_) (a' := ?_) #[true, true, true, true, true, true, true, true, true, true, true, true, true, true, true, true, true, true, true, true, false, false, false] rfl rfl (take_ofW HT_.out HW_.out (by kernel_rfl)) (fun _ _ _ h => h) (Or.inl ⟨by rfl, ?_⟩) hHeld ?_ ?_
                            rotate_left
                            · rintro w' ⟨s0, s1, s2, s3, s4, s5⟩
                              go_simp
                              with_reducible rfl
                            rotate_left
                            · simp only [Act.put, List.setIfInBounds_toArray, List.set_cons_zero, List.set_cons_succ, i64_w, i32_w]
                              rfl
                            refine pure_ (i := 20) (N := (some 134)) (v := ?_) (a' := ?_) #[true, true, true, true, true, true, true, true, true, true, true, true, true, true, true, true, true, true, true, true, true, false, false] rfl rfl (any_of HT_.out (by kernel_rfl)) (fun _ _ _ h => h) (Or.inl ⟨by rfl, ?_⟩) ?_ ?_
                            rotate_left
                            · intro w'
                              go_simp
                              with_reducible rfl
                            rotate_left
                            · simp only [Act.put, List.setIfInBounds_toArray, List.set_cons_zero, List.set_cons_succ, i64_w, i32_w]
                              rfl
                            refine one_ (i := 21) (N := (some 19)) #[true, true, true, true, true, true, true, true, true, true, true, true, true, true, true, true, true, true, true, true, true, true, false] rfl rfl (one_of HT_.out (by kernel_rfl)) (by decide) (fun K hK => ?_)
                            refine value_ (w1 := ?_) (v := ?_) (by rfl) rfl ?_ ?_
                            rotate_left 2
                            · go_simp
                              constructor
                              · rfl
                              · rfl
                            refine hK.out _ _ ⟨cell_al hHeld.1, cell_al hHeld.2.1, cell_al hHeld.2.2.1, cell_al hHeld.2.2.2.1, cell_al hHeld.2.2.2.2.1, cell_al hHeld.2.2.2.2.2⟩ (fun hHeld => ?_); clear hK K
                            refine norm_ (a' := ?_) ?_ ?_
                            rotate_left
                            · show Act.put _ (some 19) _ = _
                              simp only [Act.put, List.setIfInBounds_toArray, List.set_cons_zero, List.set_cons_succ, i64_w, i32_w]
                              rfl
                            refine last_ (i := 22) (N := none) #[true, true, true, true, true, true, true, true, true, true, true, true, true, true, true, true, true, true, true, true, true, true, true] rfl rfl (one_of HT_.out (by kernel_rfl)) (by decide) (fun K hK => ?_)
                            refine skip_ (w1 := ?_) (by rfl) rfl ?_ ?_
                            rotate_left
                            · go_simp
                              rfl
                            refine hK.out _ _ ?_; clear hK K
                            refine done_ (done_of HT_.out (by kernel_rfl)) ?_
                            have HD9 := Aside0.mk (HDE.out.low (below_alloc (Below.refl _ _) (.cells #[.int .i64 na, .int .i64 nb] 107)))
                            have hB9 := blk_new we (.cells #[.int .i64 na, .int .i64 nb] 107)
                            clear HDE HD hcA hcB hcS hcT hvA hvB hHeld e3a e3b e3c e3d
                            generalize we.alloc (.cells #[.int .i64 na, .int .i64 nb] 107) = w9 at HD9 hB9 ⊢
                            generalize we.heap.size = gb at hB9 ⊢
                            have hm4 : w9.cell? ⟨M, 4, none⟩ = some (.slice An nx1.length cn) := (blk_cell HD9.out.m 4).trans rfl
                            cases hfi : row1.findIdx? (· == (na, nb)) with
                            | some j =>
                              have H := HH2.out
                              clear HH2
                              rw [hfi] at H
                              simp only [] at H
                              have HH3 := Aside0.mk H
                              clear H
                              have hlk := pair_some HSS.out HPK.out hfi HD9.out.place
                              simp only [pairC] at hlk
                              go_wp2_with (first
                                | ((with_reducible refine gate_dst (N := 137) rfl ?_)
                                   refine wpList_load_row rfl 107 (.tmp 19) rfl gb rfl 107 #[.int .i64 na, .int .i64 nb] (0, 0) _ hB9 Try.underlying107 rfl ?_ ?_
                                   (focus (rw [i107]; rfl)))
                                | ((with_reducible refine gate_builtin (b := .append) (xs := #[.tmp 157, .tmp 159]) rfl ?_)
                                   at_builtin
                                   refine Kd.R_append (Kd.int .i64) (w0 := W5) W5.heap.size rfl (.tmp 157) (.tmp 159) 22 3 (.int .i64 0) 8 rfl Try.underlying22 info3 rfl (by decide) (by omega) (.slice An nx1.length cn) nx1 (j : Int) [.int .i64 (j : Int)] (fun _ => True) (fun _ => False) rfl rfl ?aP (fun _ hk => hk.elim) ?aF ?aO ?aB ?aS ?aL ?_
                                   (case aP => exact rfl)
                                   (case aB => exact HD9.out.below)
                                   (case aF => exact (fun _ _ => trivial))
                                   (case aO => exact HD9.out.nx)
                                   (case aS => exact HD9.out.below.size)
                                   (case aL => have := HNL.out; omega)
                                   intro v12 w12 ho hb hg hat
                                   obtain ⟨A9, c9, rfl⟩ := Kd.R_slice ho
                                   have hM1 := blk_grown HD9.out.m hg (Kd.R_ne HD9.out.nx HD9.out.m (by decide))
                                   have hfz := blk_frozen hM1 4
                                   have hcl : w12.cell? ⟨M, 4, none⟩ = some (.slice An nx1.length cn) := (blk_cell hM1 4).trans rfl
                                   have HD12 := Aside0.mk (MeetAt.nextAp HD9.out ho hb hg hat)
                                   clear ho hb hg hat hM1))
                              clear hm4 hlk hcl hfz
                              go_roundw
                              case rel => exact ⟨x + 1, row1, nx1 ++ [(j : Int)], _, by go_num, ⟨by have := HLT.out; omega⟩, HH3, by simpa using HD12, HSS, HRL, ⟨by have := HXN.out; simp; omega⟩⟩
                              case measure => have := HLT.out; simp [intOf]; omega
                            | none =>
                              have H := HH2.out
                              clear HH2
                              rw [hfi] at H
                              simp only [] at H
                              have hlk := pair_none HSS.out HPK.out hfi HD9.out.place
                              simp only [pairC] at hlk
                              have HFI := Aside0.mk hfi
                              clear hfi hm4
                              by_cases e5 : row1.length = 1024
                              · rw [if_pos e5] at H
                                have HH3 := Aside0.mk H
                                clear H
                                have e5c : ((row1.length : Int) == 1024) = true := by simp [e5]
                                have e5b : (row1.length == 1024) = true := by simp [e5]
                                go_wp2_with (first
                                  | ((with_reducible refine gate_dst (N := 137) rfl ?_)
                                     refine wpList_load_row rfl 107 (.tmp 19) rfl gb rfl 107 #[.int .i64 na, .int .i64 nb] (0, 0) _ hB9 Try.underlying107 rfl ?_ ?_
                                     (focus (rw [i107]; rfl)))
                                  | ((with_reducible refine gate_store (t := 43) (p := 6) rfl ?_)
                                     refine wpList_store_rowTo rfl 43 (.tmp 6) (.tmp 146) rfl rfl (w.heap.size + 1 + 1) zero43 rfl rfl 43 _ (HM.out.on HD9.out.below).z ?_ rfl zero43_one ?_
                                     (focus (rw [i43]; rfl))))
                                have H := HH3.out
                                simp only [Option.some.injEq] at H
                                subst H
                                have hr0 := HNX.out
                                simp only [Option.some.injEq] at hr0
                                subst hr0
                                have hr := HRES.out
                                simp only [Option.some.injEq, Prod.mk.injEq] at hr
                                obtain ⟨rfl, rfl, rfl, rfl, rfl, rfl, rfl⟩ := hr
                                have hblk := setRow_heap w9 (w.heap.size + 1 + 1) _ zero43 43 (0, 0) (HM.out.on HD9.out.below).z
                                try simp only [Exit.inBlock, Exit.then]
                                refine bodyPost_ret (results_ct rfl _ _ (w.heap.size + 1 + 1) 43 zero43 (0, 0) _ rfl hblk Try.underlying43 rfl (by rw [i43]; rfl)) rfl ?_
                                exact ⟨_, _, rfl, Kd.R_nil _ _ _ _ _, Kd.R_nil _ _ _ _ _, below_setRow (HM.out.on HD9.out.below).below (by omega) _⟩
                              · rw [if_neg e5] at H
                                have HH3 := Aside0.mk H
                                clear H
                                have e5b : (row1.length == 1024) = false := by simpa using e5
                                have e5c : ((row1.length : Int) == 1024) = false := by
                                  have : ¬ ((row1.length : Int) = 1024) := by omega
                                  simpa using this
                                go_wp2_with (first
                                  | ((with_reducible refine gate_dst (N := 137) rfl ?_)
                                     refine wpList_load_row rfl 107 (.tmp 19) rfl gb rfl 107 #[.int .i64 na, .int .i64 nb] (0, 0) _ hB9 Try.underlying107 rfl ?_ ?_
                                     (focus (rw [i107]; rfl)))
                                  | ((with_reducible refine gate_dst (N := 150) rfl ?_)
                                     refine wpList_load_row rfl 107 (.tmp 19) rfl gb rfl 107 #[.int .i64 na, .int .i64 nb] (0, 0) _ hB9 Try.underlying107 rfl ?_ ?_
                                     (focus (rw [i107]; rfl)))
                                  | ((with_reducible refine gate_update rfl ?_)
                                     refine Vm.wpList_map_put pair_keys Try.underlying108 rfl (.tmp 149) (.tmp 150) (.tmp 151) (.inr rfl) (na, nb) (row1.length : Int) rfl rfl rfl rfl HD9.out.place (pair_ok HSS.out) HPK.out ?_
                                     intro w10 hp10 hg10
                                     rw [pair_put HFI.out] at hp10
                                     have HT10 := Aside0.mk (blk_grown hB9 hg10 (fun he => mp_blk_ne HD9.out.place hB9 (by injection he with he; exact he.symm)))
                                     have HD10 := Aside0.mk (HD9.out.placed hp10 hg10)
                                     clear hp10 hg10 hlk)
                                  | ((with_reducible refine gate_dst (N := 153) rfl ?_)
                                     refine wpList_load_row rfl 107 (.tmp 19) rfl gb rfl 107 #[.int .i64 na, .int .i64 nb] (0, 0) _ HT10.out Try.underlying107 rfl ?_ ?_
                                     (focus (rw [i107]; rfl)))
                                  | ((with_reducible refine gate_dst (N := 154) rfl ?_)
                                     refine Kd.event_run rfl (exec_one_pair (p := (na, nb)) rfl rfl _) ?_)
                                  | ((with_reducible refine gate_builtin (b := .append) (xs := #[.tmp 152, .tmp 154]) rfl ?_)
                                     at_builtin
                                     refine Kd.R_append kpair (w0 := W5) W5.heap.size rfl (.tmp 152) (.tmp 154) 109 107 (.agg #[.int .i64 0, .int .i64 0]) 16 rfl Try.underlying109 info107b rfl (by decide) (by omega) (.slice Ar row1.length cr2) row1 (na, nb) (pairC (na, nb)) (fun _ => True) (fun _ => False) rfl rfl ?aP (fun _ hk => hk.elim) ?aF ?aO ?aB ?aS ?aL ?_
                                     (case aP => exact rfl)
                                     (case aB => exact HD10.out.below)
                                     (case aF => exact (fun _ _ => trivial))
                                     (case aO => exact HD10.out.row)
                                     (case aS => exact HD10.out.below.size)
                                     (case aL => omega)
                                     intro v11 w11 ho hb hg hat
                                     have HD11 := Aside0.mk (HD10.out.rowAp ho hb hg)
                                     have hm4 : w11.cell? ⟨M, 4, none⟩ = some (.slice An nx1.length cn) := (blk_cell HD11.out.m 4).trans rfl
                                     clear ho hb hg hat)
                                  | ((with_reducible refine gate_builtin (b := .append) (xs := #[.tmp 157, .tmp 159]) rfl ?_)
                                     at_builtin
                                     refine Kd.R_append (Kd.int .i64) (w0 := W5) W5.heap.size rfl (.tmp 157) (.tmp 159) 22 3 (.int .i64 0) 8 rfl Try.underlying22 info3 rfl (by decide) (by omega) (.slice An nx1.length cn) nx1 (row1.length : Int) [.int .i64 (row1.length : Int)] (fun _ => True) (fun _ => False) rfl rfl ?aP (fun _ hk => hk.elim) ?aF ?aO ?aB ?aS ?aL ?_
                                     (case aP => exact rfl)
                                     (case aB => exact HD11.out.below)
                                     (case aF => exact (fun _ _ => trivial))
                                     (case aO => exact HD11.out.nx)
                                     (case aS => exact HD11.out.below.size)
                                     (case aL => have := HNL.out; omega)
                                     intro v12 w12 ho hb hg hat
                                     obtain ⟨A9, c9, rfl⟩ := Kd.R_slice ho
                                     have hM1 := blk_grown HD11.out.m hg (Kd.R_ne HD11.out.nx HD11.out.m (by decide))
                                     have hfz := blk_frozen hM1 4
                                     have hcl : w12.cell? ⟨M, 4, none⟩ = some (.slice An nx1.length cn) := (blk_cell hM1 4).trans rfl
                                     have HD12 := Aside0.mk (MeetAt.nextAp HD11.out ho hb hg hat)
                                     clear ho hb hg hat hM1))
                                clear hm4 hcl hfz
                                go_roundw
                                case rel =>
                                  refine ⟨x + 1, row1 ++ [(na, nb)], nx1 ++ [(row1.length : Int)], _, by go_num, ⟨by have := HLT.out; omega⟩, HH3, by simpa using HD12, ⟨?_⟩, ⟨?_⟩, ⟨by have := HXN.out; simp; omega⟩⟩
                                  · intro q hq
                                    rcases List.mem_append.1 hq with hq | hq
                                    · exact HSS.out q hq
                                    · simp only [List.mem_singleton] at hq; rw [hq]; exact HPK.out
                                  · have h1 := HRL.out
                                    simp only [List.length_append, List.length_singleton]
                                    omega
                                case measure => have := HLT.out; simp [intOf]; omega
                          · rw [if_neg e4] at H; exact absurd H (by simp)
                        · rw [if_neg e3] at H; exact absurd H (by simp)
                      · have H := HIN.out
                        rw [List.drop_of_length_le (by simp; omega)] at H
                        simp only [mtIn, Option.some.injEq] at H
                        subst H
                        have hlt' : ¬ ((x : Int) < aS) := by omega
                        have hr := HNX.out
                        simp only [] at hr
                        go_wp2
                        go_roundg k1
                        case rel => exact ⟨i + 1, row1, nx1, _, out2, _, by go_num, ⟨hr⟩, ⟨by have := HK1.out; omega⟩, HD, HSS, HRL⟩
                        case measure => have := HK1.out; omega
                · exact absurd H (by simp)
              · rw [if_neg e1] at H
                have hlt' : ¬ ((i : Int) < (row.length : Int)) := by omega
                simp only [Option.some.injEq] at H
                subst H
                have hr := HRES.out
                simp only [Option.some.injEq, Prod.mk.injEq] at hr
                obtain ⟨rfl, rfl, rfl, rfl, rfl, rfl, rfl⟩ := hr
                obtain ⟨Ar, cr, rfl⟩ := Kd.R_slice HD.out.row
                obtain ⟨An, cn, rfl⟩ := Kd.R_slice HD.out.nx
                obtain ⟨Ao, co, rfl⟩ := Kd.R_slice HD.out.out
                have hfz := blk_frozen HD.out.m 3
                have hcl : wr.cell? ⟨M, 3, none⟩ = some (.int .i64 0) := (blk_cell HD.out.m 3).trans rfl
                have hM2 := blk_put HD.out.m 3 (.int .i64 (row.length : Int)) (cs' := #[.int .i64 1, .int .i64 aS, .int .i64 2, .int .i64 (row.length : Int), .slice An nx.length cn, .slice Ao out.length co]) rfl
                have hZr := (HM.out.on HD.out.below).z
                have hMZ : M ≠ w.heap.size + 1 + 1 := by
                  have h1 := HD.out.hM
                  have h2 := blk_lt HM.out.z
                  omega
                have hZ2 := blk_far hZr (p := ⟨M, 3, none⟩) (fun e => hMZ e.symm) (.int .i64 (row.length : Int))
                have hone : (#[.int .i64 1, .int .i64 aS, .int .i64 2, .int .i64 (row.length : Int), .slice An nx.length cn, .slice Ao out.length co] : Array Value).all (·.oneCell') = true := by simp [Value.oneCell']
                go_wp2_with (first
                  | ((with_reducible refine gate_dst (N := 166) rfl ?_)
                     refine wpList_load_row rfl 43 (.tmp 14) rfl M rfl 43 #[.int .i64 1, .int .i64 aS, .int .i64 2, .int .i64 (row.length : Int), .slice An nx.length cn, .slice Ao out.length co] (0, 0) _ hM2 Try.underlying43 rfl ?_ ?_
                     (focus (rw [i43]; rfl)))
                  | ((with_reducible refine gate_store (t := 43) (p := 6) rfl ?_)
                     refine wpList_store_rowTo rfl 43 (.tmp 6) (.tmp 166) rfl rfl (w.heap.size + 1 + 1) #[.int .i64 1, .int .i64 aS, .int .i64 2, .int .i64 (row.length : Int), .slice An nx.length cn, .slice Ao out.length co] rfl rfl 43 _ hZ2 ?_ rfl hone ?_
                     (focus (rw [i43]; rfl))))
                have hblk := setRow_heap _ (w.heap.size + 1 + 1) _ #[.int .i64 1, .int .i64 aS, .int .i64 2, .int .i64 (row.length : Int), .slice An nx.length cn, .slice Ao out.length co] 43 (0, 0) hZ2
                try simp only [Exit.inBlock, Exit.then]
                refine bodyPost_ret (results_ct rfl _ _ (w.heap.size + 1 + 1) 43 #[.int .i64 1, .int .i64 aS, .int .i64 2, .int .i64 (row.length : Int), .slice An nx.length cn, .slice Ao out.length co] (0, 0) _ rfl hblk Try.underlying43 rfl (by rw [i43]; rfl)) rfl ?_
                have hb5 : w.heap.size ≤ W5.heap.size := HM.out.below.size
                have keep : ∀ (v : Value) (xs : List Int), Kd.R (Kd.int .i64) 3 wr W5.heap.size (fun _ => True) v xs → Kd.R (Kd.int .i64) 3 ((wr.setCell ⟨M, 3, none⟩ (.int .i64 (row.length : Int))).setRow (w.heap.size + 1 + 1) #[.int .i64 1, .int .i64 aS, .int .i64 2, .int .i64 (row.length : Int), .slice An nx.length cn, .slice Ao out.length co]) w.heap.size (fun _ => True) v xs := by
                  intro v xs h
                  have h1 := Kd.R_far (Kd.R_tight rfl h) (p := ⟨M, 3, none⟩) (fun k hk he => Kd.R_ne h HD.out.m (by decide) (by rw [← hk]; show some M = some k; rw [he])) (.int .i64 (row.length : Int))
                  have h2 := Kd.R_grown h1 (grown_setRow _ (w.heap.size + 1 + 1) #[.int .i64 1, .int .i64 aS, .int .i64 2, .int .i64 (row.length : Int), .slice An nx.length cn, .slice Ao out.length co]) (fun k hk he => Kd.R_ne h hZr (by decide) (by rw [← hk]; exact he.symm))
                  exact Kd.R_mono (Kd.R_lower h2 hb5) (fun _ _ => trivial)
                refine ⟨_, _, rfl, Kd.R_reok rfl (keep _ _ HD.out.nx) (fun k hk he => HD.out.apart k hk he.symm), Kd.R_reok rfl (keep _ _ HD.out.out) (fun k hk he => HD.out.apart k he.symm hk), ?_⟩
                exact below_setRow (below_then HM.out.below hb5 (below_set HD.out.below HD.out.hM)) (by omega) _
end Go.Proofs.Ytkaefgmgcghhiaa.X
end

section
namespace Go.Proofs.Ytkaefgmgcghhiaa.X
open Go.RowKit Go.Proofs.YtkaefgmgcghhiaaW.PrintWords Go.Proofs.YtkaefgmgcghhiaaW.PrintLast Go.Proofs.YtkaefgmgcghhiaaW.PrintMore
def nfa_Meet.f (a0_0 a0_1 a0_2 a0_3 : Int) (l0_4 l0_5 : List Int) (a1_0 a1_1 a1_2 a1_3 : Int) (l1_4 l1_5 : List Int) (a2 : Int) : Option (Int × Int × Int × Int × List Int × List Int × Int) := mtG big a0_0 a0_1 a0_2 a0_3 l0_4 l0_5 a1_0 a1_1 a1_2 a1_3 l1_4 l1_5 a2
theorem nfa_Meet.calls (a0_0 : Int) (a0_1 : Int) (a0_2 : Int) (a0_3 : Int) (A0_4 : Option Addr) (c0_4 : Nat) (l0_4 : List Int) (A0_5 : Option Addr) (c0_5 : Nat) (l0_5 : List Int) (a1_0 : Int) (a1_1 : Int) (a1_2 : Int) (a1_3 : Int) (A1_4 : Option Addr) (c1_4 : Nat) (l1_4 : List Int) (A1_5 : Option Addr) (c1_5 : Nat) (l1_5 : List Int) (a2 : Int) (r1 : Int) (r2 : Int) (r3 : Int) (r4 : Int) (r5 : List Int) (r6 : List Int) (r7 : Int) (w : World) (hr0_4 : Kd.C (Kd.int .i64) w A0_4 l0_4.length l0_4) (hc0_4 : l0_4.length ≤ c0_4) (hr0_5 : Kd.C (Kd.int .i64) w A0_5 l0_5.length l0_5) (hc0_5 : l0_5.length ≤ c0_5) (hr1_4 : Kd.C (Kd.int .i64) w A1_4 l1_4.length l1_4) (hc1_4 : l1_4.length ≤ c1_4) (hr1_5 : Kd.C (Kd.int .i64) w A1_5 l1_5.length l1_5) (hc1_5 : l1_5.length ≤ c1_5) (h : nfa_Meet.f a0_0 a0_1 a0_2 a0_3 l0_4 l0_5 a1_0 a1_1 a1_2 a1_3 l1_4 l1_5 a2 = some (r1, r2, r3, r4, r5, r6, r7)) :
    Calls Try.prog 30 #[.agg #[.int .i64 a0_0, .int .i64 a0_1, .int .i64 a0_2, .int .i64 a0_3, .slice A0_4 l0_4.length c0_4, .slice A0_5 l0_5.length c0_5], .agg #[.int .i64 a1_0, .int .i64 a1_1, .int .i64 a1_2, .int .i64 a1_3, .slice A1_4 l1_4.length c1_4, .slice A1_5 l1_5.length c1_5], .int .i64 a2] w fun e w' => ∃ v4_ v5_ : Value, e = .returned (.tuple #[.agg #[.int .i64 r1, .int .i64 r2, .int .i64 r3, .int .i64 r4, v4_, v5_], .int .i64 r7]) ∧ Kd.R (Kd.int .i64) 3 w' w.heap.size (fun k_ => some k_ ≠ (v5_ : Value).ownBlock) v4_ r5 ∧ Kd.R (Kd.int .i64) 3 w' w.heap.size (fun k_ => some k_ ≠ (v4_ : Value).ownBlock) v5_ r6 ∧ Below w.heap.size w w' :=
  Meet_walk big a0_0 a0_1 a0_2 a0_3 A0_4 c0_4 l0_4 A0_5 c0_5 l0_5 a1_0 a1_1 a1_2 a1_3 A1_4 c1_4 l1_4 A1_5 c1_5 l1_5 a2 r1 r2 r3 r4 r5 r6 r7 w hr0_4 hc0_4 hr0_5 hc0_5 hr1_4 hc1_4 hr1_5 hc1_5 h
end Go.Proofs.Ytkaefgmgcghhiaa.X
end

section
namespace Go.Proofs.Ytkaefgmgcghhiaa.X
open Go.RowKit Go.Proofs.YtkaefgmgcghhiaaW.PrintWords Go.Proofs.YtkaefgmgcghhiaaW.PrintLast Go.Proofs.YtkaefgmgcghhiaaW.PrintMore
theorem right_of_mcheck {K N : Int} {nx out : List Int} (h : (mcheck 1 K 2 N nx out).2 = 0) : RightD K N nx out := by
  obtain ⟨h1, h2, h3⟩ := mcheck_ok h
  obtain ⟨_, hK, _, hN, _, h4, h5⟩ := head_bounds h1
  rw [if_pos rfl] at h5
  refine ⟨hK, hN, ?_, by omega, h2, h3⟩
  have := toNat_mul (a := N) (b := K) (by omega) (by omega)
  omega
theorem mtI_eq {K N : Int} {nx out : List Int} (R : RightD K N nx out) {s : Int} (h0 : 0 ≤ s) (h1 : s < N) {x : Nat} (hx : x < K.toNat) : mtI K s x = ((s.toNat * K.toNat + x : Nat) : Int) ∧ s.toNat * K.toNat + x < nx.length := by
  have hn := R.n
  have h2 := idx_eq R (a := s.toNat) (x := (x : Int)) (by omega) (by omega) (by omega)
  have h3 := idx_lt R (a := s.toNat) (x := (x : Int)) (by omega) (by omega) (by omega)
  rw [Int.toNat_natCast] at h2 h3
  rw [Int.toNat_of_nonneg h0] at h2
  exact ⟨h2, h3⟩
def stepP (K : Int) (aN bN : List Int) (p : Int × Int) (x : Nat) : Int × Int := (rd aN ((p.1.toNat * K.toNat + x : Nat) : Int), rd bN ((p.2.toNat * K.toNat + x : Nat) : Int))
structure PairOk (NA NB : Int) (p : Int × Int) : Prop where
  a0 : 0 ≤ p.1
  a1 : p.1 < NA
  b0 : 0 ≤ p.2
  b1 : p.2 < NB
structure Two (K NA NB : Int) (aN aO bN bO : List Int) : Prop where
  a : RightD K NA aN aO
  b : RightD K NB bN bO
theorem Two.step {K NA NB : Int} {aN aO bN bO : List Int} (R : Two K NA NB aN aO bN bO) {p : Int × Int} (hp : PairOk NA NB p) {x : Nat} (hx : x < K.toNat) : PairOk NA NB (stepP K aN bN p x) := by
  have h1 := (mtI_eq R.a hp.a0 hp.a1 hx).2
  have h2 := (mtI_eq R.b hp.b0 hp.b1 hx).2
  have h3 := R.a.nxr _ (List.getElem_mem h1)
  have h4 := R.b.nxr _ (List.getElem_mem h2)
  exact ⟨by show 0 ≤ rd aN _; rw [rdj h1]; omega, by show rd aN _ < _; rw [rdj h1]; omega, by show 0 ≤ rd bN _; rw [rdj h2]; omega, by show rd bN _ < _; rw [rdj h2]; omega⟩
theorem PairOk.key {NA NB : Int} (ha : NA ≤ 1024) (hb : NB ≤ 1024) {p : Int × Int} (h : PairOk NA NB p) : okP p = true := by
  have h1 := h.a0; have h2 := h.a1; have h3 := h.b0; have h4 := h.b1
  simp only [okP, Bool.and_eq_true, decide_eq_true_eq]
  omega
structure Met (K NA NB : Int) (aN aO bN bO : List Int) (op : Int) (i : Nat) (row : List (Int × Int)) (nx out : List Int) : Prop where
  first : row[0]? = some (0, 0)
  prs : ∀ p ∈ row, PairOk NA NB p
  nodup : row.Nodup
  len : i ≤ row.length ∧ row.length ≤ 1024
  nxl : nx.length = i * K.toNat
  outl : out.length = i
  next : ∀ a x, a < i → x < K.toNat → ∃ p n, row[a]? = some p ∧ nx[a * K.toNat + x]? = some ((n : Nat) : Int) ∧ row[n]? = some (stepP K aN bN p x)
  says : ∀ a, a < i → ∃ p, row[a]? = some p ∧ out[a]? = some (mtO aO bO op p)
theorem not_mem_of_none' {α : Type} [BEq α] [LawfulBEq α] {row : List α} {t : α} (h : row.findIdx? (· == t) = none) : t ∉ row := by
  intro hm
  have := List.findIdx?_eq_none_iff.1 h t hm
  simp at this
/-- One state's symbols. -/
theorem mtIn_spec {K NA NB : Int} {aN aO bN bO : List Int} (R : Two K NA NB aN aO bN bO) {p : Int × Int} (hp : PairOk NA NB p) (i : Nat) (hi : i < 1024) :
    ∀ (d x : Nat) (row : List (Int × Int)) (nx : List Int), x + d = K.toNat → row[i]? = some p → row.Nodup → row.length ≤ 1024 → (∀ p ∈ row, PairOk NA NB p) → nx.length = i * K.toNat + x →
      (∀ y, y < x → ∃ n, nx[i * K.toNat + y]? = some ((n : Nat) : Int) ∧ row[n]? = some (stepP K aN bN p y)) →
      mtIn K aN bN p ((List.range K.toNat).drop x) row nx = some none ∨
      ∃ row1 nx1, mtIn K aN bN p ((List.range K.toNat).drop x) row nx = some (some (row1, nx1)) ∧ row <+: row1 ∧ nx <+: nx1 ∧ row1.Nodup ∧ row1.length ≤ 1024 ∧ (∀ p ∈ row1, PairOk NA NB p) ∧ nx1.length = (i + 1) * K.toNat ∧
        (∀ y, y < K.toNat → ∃ n, nx1[i * K.toNat + y]? = some ((n : Nat) : Int) ∧ row1[n]? = some (stepP K aN bN p y)) := by
  intro d
  induction d with
  | zero =>
    intro x row nx hx hsi hnd hl hset hnx hdone
    rw [List.drop_of_length_le (by simp; omega), mtIn]
    refine .inr ⟨row, nx, rfl, List.prefix_refl _, List.prefix_refl _, hnd, hl, hset, ?_, fun y hy => hdone y (by omega)⟩
    rw [hnx, Nat.succ_mul]
    omega
  | succ d ih =>
    intro x row nx hx hsi hnd hl hset hnx hdone
    have hK := R.a.k
    have hNA := R.a.n
    have hNB := R.b.n
    have hxl : x < (List.range K.toNat).length := by simp; omega
    have hxk : x < K.toNat := by omega
    obtain ⟨e1, l1⟩ := mtI_eq R.a hp.a0 hp.a1 hxk
    obtain ⟨e2, l2⟩ := mtI_eq R.b hp.b0 hp.b1 hxk
    have hst := R.step hp hxk
    have hmul : i * K.toNat ≤ 1024 * 64 := Nat.mul_le_mul (by omega) (by omega)
    rw [List.drop_eq_getElem_cons hxl, mtIn, List.getElem_range, e1, e2, if_pos (by omega)]
    have ht : (rd aN ((p.1.toNat * K.toNat + x : Nat) : Int), rd bN ((p.2.toNat * K.toNat + x : Nat) : Int)) = stepP K aN bN p x := rfl
    rw [ht]
    generalize stepP K aN bN p x = t at hst ht ⊢
    rw [if_pos ⟨hst.key (by omega) (by omega), by omega⟩]
    cases hf : row.findIdx? (· == t) with
    | some j =>
      simp only []
      obtain ⟨hjl, hjt, _⟩ := List.findIdx?_eq_some_iff_getElem.1 hf
      have hjt' : row[j]? = some t := by rw [List.getElem?_eq_getElem hjl]; simpa using hjt
      have q1 : ∀ y, y < x + 1 → ∃ n, (nx ++ [(j : Int)])[i * K.toNat + y]? = some ((n : Nat) : Int) ∧ row[n]? = some (stepP K aN bN p y) := by
        intro y hy
        by_cases hy2 : y < x
        · obtain ⟨n, e2, e3⟩ := hdone y hy2
          exact ⟨n, get_app e2 _, e3⟩
        · obtain rfl : y = x := by omega
          exact ⟨j, by rw [← hnx, List.getElem?_concat_length], by rw [hjt', ← ht]; rfl⟩
      rcases ih (x + 1) row (nx ++ [(j : Int)]) (by omega) hsi hnd hl hset (by simp [hnx]; omega) q1 with h | ⟨row1, nx1, h1, h2, h3, h4⟩
      · exact .inl h
      · exact .inr ⟨row1, nx1, h1, h2, (List.prefix_append _ _).trans h3, h4⟩
    | none =>
      simp only []
      have hnot := not_mem_of_none' hf
      by_cases hfull : row.length = 1024
      · rw [if_pos hfull]
        exact .inl rfl
      · rw [if_neg hfull]
        have hnd1 : (row ++ [t]).Nodup := by
          rw [List.nodup_append]
          exact ⟨hnd, by simp, fun a ha b hb => by
            simp only [List.mem_singleton] at hb
            subst hb
            exact fun e => hnot (e ▸ ha)⟩
        have q1 : ∀ s ∈ row ++ [t], PairOk NA NB s := by
          intro s' hs'
          rcases List.mem_append.1 hs' with h | h
          · exact hset s' h
          · simp only [List.mem_singleton] at h
            exact h ▸ hst
        have q2 : ∀ y, y < x + 1 → ∃ n, (nx ++ [(row.length : Int)])[i * K.toNat + y]? = some ((n : Nat) : Int) ∧ (row ++ [t])[n]? = some (stepP K aN bN p y) := by
          intro y hy
          by_cases hy2 : y < x
          · obtain ⟨n, e2, e3⟩ := hdone y hy2
            exact ⟨n, get_app e2 _, get_app e3 _⟩
          · obtain rfl : y = x := by omega
            exact ⟨row.length, by rw [← hnx, List.getElem?_concat_length], by rw [List.getElem?_concat_length, ← ht]; rfl⟩
        rcases ih (x + 1) (row ++ [t]) (nx ++ [(row.length : Int)]) (by omega) (get_app hsi _) hnd1 (by simp; omega) q1 (by simp [hnx]; omega) q2 with h | ⟨row1, nx1, h1, h2, h3, h4⟩
        · exact .inl h
        · exact .inr ⟨row1, nx1, h1, (List.prefix_append _ _).trans h2, (List.prefix_append _ _).trans h3, h4⟩
/-- What is said is 0 or 1. -/
theorem said01 {op s : Int} (h0 : 0 ≤ op) (h1 : op ≤ 15) (h2 : 0 ≤ s) (h3 : s ≤ 3) : 0 ≤ Go.bits .and .i64 (shr .i64 op s) 1 ∧ Go.bits .and .i64 (shr .i64 op s) 1 < 2 := by
  have h : ∀ o : _root_.Fin 16, ∀ t : _root_.Fin 4, 0 ≤ Go.bits .and .i64 (shr .i64 (o.1 : Int) (t.1 : Int)) 1 ∧ Go.bits .and .i64 (shr .i64 (o.1 : Int) (t.1 : Int)) 1 < 2 := by decide +kernel
  have := h ⟨op.toNat, by omega⟩ ⟨s.toNat, by omega⟩
  simp only [Int.toNat_of_nonneg h0, Int.toNat_of_nonneg h2] at this
  exact this
theorem out_at' {K N : Int} {nx out : List Int} (R : RightD K N nx out) {s : Int} (h0 : 0 ≤ s) (h1 : s < N) : 0 ≤ rd out s ∧ rd out s < 2 := by
  have hl := R.outl
  have hs : s = ((s.toNat : Nat) : Int) := by omega
  rw [hs, rdj (by omega)]
  exact R.outr _ (List.getElem_mem _)
theorem Two.sh {K NA NB : Int} {aN aO bN bO : List Int} (R : Two K NA NB aN aO bN bO) {p : Int × Int} (hp : PairOk NA NB p) : wrap64 (wrap64 (2 * rd aO p.1) + rd bO p.2) = 2 * rd aO p.1 + rd bO p.2 ∧ 0 ≤ 2 * rd aO p.1 + rd bO p.2 ∧ 2 * rd aO p.1 + rd bO p.2 ≤ 3 := by
  have h1 := out_at' R.a hp.a0 hp.a1
  have h2 := out_at' R.b hp.b0 hp.b1
  rw [w64i (i := 2 * rd aO p.1) (by omega) (by omega), w64i (by omega) (by omega)]
  omega
theorem Two.out {K NA NB : Int} {aN aO bN bO : List Int} (R : Two K NA NB aN aO bN bO) {op : Int} (h0 : 0 ≤ op) (h1 : op ≤ 15) {p : Int × Int} (hp : PairOk NA NB p) : 0 ≤ mtO aO bO op p ∧ mtO aO bO op p < 2 := by
  obtain ⟨e, h2, h3⟩ := R.sh hp
  unfold mtO
  rw [e]
  exact said01 h0 h1 h2 h3
theorem mtF_spec {K NA NB : Int} {aN aO bN bO : List Int} (R : Two K NA NB aN aO bN bO) (op : Int) : ∀ (d q i : Nat) (row : List (Int × Int)) (nx out : List Int), i + d = 1024 → d < q → Met K NA NB aN aO bN bO op i row nx out →
    mtF K aN aO bN bO op q i row nx out = some none ∨
    ∃ row1 nx1 out1, mtF K aN aO bN bO op q i row nx out = some (some (row1, nx1, out1)) ∧ Met K NA NB aN aO bN bO op row1.length row1 nx1 out1 := by
  intro d
  induction d with
  | zero =>
    intro q i row nx out hi hq D
    obtain ⟨q, rfl⟩ : ∃ m, q = m + 1 := ⟨q - 1, by omega⟩
    have := D.len
    rw [mtF, if_neg (by omega)]
    have he : row.length = i := by omega
    exact .inr ⟨row, nx, out, rfl, by rw [he]; exact D⟩
  | succ d ih =>
    intro q i row nx out hi hq D
    obtain ⟨q, rfl⟩ : ∃ m, q = m + 1 := ⟨q - 1, by omega⟩
    have hlen := D.len
    have hNA := R.a.n
    have hNB := R.b.n
    rw [mtF]
    by_cases hlt : i < row.length
    · rw [if_pos hlt]
      have hgi : row[i]? = some row[i] := List.getElem?_eq_getElem hlt
      have hgd : row.getD i (0, 0) = row[i] := by rw [List.getD_eq_getElem?_getD, hgi]; rfl
      have hp := D.prs row[i] (List.getElem_mem hlt)
      rw [hgd]
      obtain ⟨e, h2, h3⟩ := R.sh hp
      have hol := D.outl
      have hal := R.a.outl
      have hbl := R.b.outl
      have h4 := hp.a0; have h5 := hp.a1; have h6 := hp.b0; have h7 := hp.b1
      rw [e, if_pos (by omega)]
      have hin := mtIn_spec R hp i (by omega) K.toNat 0 row nx (by omega) hgi D.nodup hlen.2 D.prs (by rw [D.nxl]; rfl) (fun y hy => by omega)
      rw [List.drop_zero] at hin
      rcases hin with h | ⟨row1, nx1, h1, h2, h3, h4, h5, h6, h7, h8⟩
      · rw [h]
        exact .inl rfl
      · rw [h1]
        simp only []
        have hpl := h2.length_le
        have hget : ∀ {a : Nat} {s : Int × Int}, row[a]? = some s → row1[a]? = some s := by
          intro a s h
          obtain ⟨r, rfl⟩ := h2
          exact get_app h r
        have hgetn : ∀ {a : Nat} {z : Int}, nx[a]? = some z → nx1[a]? = some z := by
          intro a z h
          obtain ⟨r, rfl⟩ := h3
          exact get_app h r
        have D1 : Met K NA NB aN aO bN bO op (i + 1) row1 nx1 (out ++ [mtO aO bO op row[i]]) := by
          refine ⟨hget D.first, h6, h4, ⟨by omega, h5⟩, h7, by simp [D.outl], fun a x ha hx => ?_, fun a ha => ?_⟩
          · by_cases hai : a < i
            · obtain ⟨p, n, e1, e3, e4⟩ := D.next a x hai hx
              exact ⟨p, n, hget e1, hgetn e3, hget e4⟩
            · obtain rfl : a = i := by omega
              obtain ⟨n, e2, e3⟩ := h8 x hx
              exact ⟨row[a], n, hget hgi, e2, e3⟩
          · by_cases hai : a < i
            · obtain ⟨s, e1, e2⟩ := D.says a hai
              exact ⟨s, hget e1, get_app e2 _⟩
            · obtain rfl : a = i := by omega
              have hc := List.getElem?_concat_length (l := out) (a := mtO aO bO op row[a])
              rw [D.outl] at hc
              exact ⟨row[a], hget hgi, hc⟩
        exact ih q (i + 1) row1 nx1 _ (by omega) (by omega) D1
    · rw [if_neg hlt]
      have he : row.length = i := by omega
      exact .inr ⟨row, nx, out, rfl, by rw [he]; exact D⟩
theorem met_start {K NA NB : Int} {aN aO bN bO : List Int} (R : Two K NA NB aN aO bN bO) (op : Int) : Met K NA NB aN aO bN bO op 0 [(0, 0)] [] [] :=
  ⟨rfl, fun p h => by
    simp only [List.mem_singleton] at h
    have h1 := R.a.n; have h2 := R.b.n
    subst h
    exact ⟨by simp, by simp; omega, by simp, by simp; omega⟩, by simp, by simp, by simp, rfl, fun a x ha => by omega, fun a ha => by omega⟩
theorem Met.right {K NA NB : Int} {aN aO bN bO : List Int} (R : Two K NA NB aN aO bN bO) {op : Int} (h0 : 0 ≤ op) (h1 : op ≤ 15) {row : List (Int × Int)} {nx out : List Int} (D : Met K NA NB aN aO bN bO op row.length row nx out) : RightD K (row.length : Int) nx out := by
  have hk := R.a.k
  have hl := D.len
  have hpos : 0 < row.length := (List.getElem?_eq_some_iff.1 D.first).1
  refine ⟨hk, by omega, by rw [D.nxl]; simp, by rw [D.outl]; simp, fun x hx => ?_, fun x hx => ?_⟩
  · obtain ⟨j, hj⟩ := List.getElem?_of_mem hx
    have hjl := (List.getElem?_eq_some_iff.1 hj).1
    rw [D.nxl] at hjl
    have hd : j / K.toNat < row.length := Nat.div_lt_of_lt_mul (by rw [Nat.mul_comm]; exact hjl)
    obtain ⟨s, n, _, e3, e4⟩ := D.next (j / K.toNat) (j % K.toNat) hd (Nat.mod_lt _ (by omega))
    rw [Nat.mul_comm, Nat.div_add_mod, hj] at e3
    have := (List.getElem?_eq_some_iff.1 e4).1
    have e5 := Option.some.inj e3
    omega
  · obtain ⟨j, hj⟩ := List.getElem?_of_mem hx
    have hjl := (List.getElem?_eq_some_iff.1 hj).1
    rw [D.outl] at hjl
    obtain ⟨s, e1, e2⟩ := D.says j hjl
    rw [hj] at e2
    have e5 := Option.some.inj e2
    rw [e5]
    exact R.out h0 h1 (D.prs s (List.mem_of_getElem? e1))
theorem Met.goTo {K NA NB : Int} {aN aO bN bO : List Int} (R : Two K NA NB aN aO bN bO) {op : Int} {row : List (Int × Int)} {nx out : List Int} (D : Met K NA NB aN aO bN bO op row.length row nx out) :
    ∀ (u : List Int) (a : Nat) (s : Int × Int), (∀ x ∈ u, 0 ≤ x ∧ x < K) → row[a]? = some s → row[X.goTo K nx a u]? = some (((X.goTo K aN s.1.toNat u : Nat) : Int), ((X.goTo K bN s.2.toNat u : Nat) : Int))
  | [], a, s, _, ha => by
    have hp := D.prs s (List.mem_of_getElem? ha)
    simp only [X.goTo]
    rw [ha, Int.toNat_of_nonneg hp.a0, Int.toNat_of_nonneg hp.b0]
  | x :: u, a, s, hu, ha => by
    have hx := hu x (by simp)
    have hal := (List.getElem?_eq_some_iff.1 ha).1
    obtain ⟨s', n, e1, e3, e4⟩ := D.next a x.toNat hal (by omega)
    rw [ha] at e1
    obtain rfl := Option.some.inj e1
    have hlt := (List.getElem?_eq_some_iff.1 e3).1
    have : rd nx ((a * K.toNat + x.toNat : Nat) : Int) = (n : Int) := by
      rw [rdq hlt]
      exact (List.getElem?_eq_some_iff.1 e3).2
    rw [X.goTo, this, Int.toNat_natCast]
    have h := Met.goTo R D u n (stepP K aN bN s x.toNat) (fun y hy => hu y (by simp [hy])) e4
    rw [h, X.goTo, X.goTo]
    rfl
theorem Met.out_at {K NA NB : Int} {aN aO bN bO : List Int} {op : Int} {row : List (Int × Int)} {nx out : List Int} (D : Met K NA NB aN aO bN bO op row.length row nx out) {b : Nat} {t : Int × Int} (hb : row[b]? = some t) : rd out (b : Int) = mtO aO bO op t := by
  have hbl := (List.getElem?_eq_some_iff.1 hb).1
  obtain ⟨s, e1, e2⟩ := D.says b hbl
  rw [hb] at e1
  obtain rfl := Option.some.inj e1
  rw [rdq (by rw [D.outl]; exact hbl)]
  exact (List.getElem?_eq_some_iff.1 e2).2
/-- What Meet answers. -/
theorem mtG_is {aK aS aO aN : Int} {anx aout : List Int} {bK bS bO bN : Int} {bnx bout : List Int} {op : Int} (ha4 : ∀ x ∈ anx, In64 x) (ha5 : ∀ x ∈ aout, In64 x) (hb4 : ∀ x ∈ bnx, In64 x) (hb5 : ∀ x ∈ bout, In64 x) {k : Nat} (hk : 200000 ≤ k) :
    (∃ e, e ≠ 0 ∧ mtG k aK aS aO aN anx aout bK bS bO bN bnx bout op = some (0, 0, 0, 0, [], [], e)) ∨
    (aK = 1 ∧ bK = 1 ∧ aO = 2 ∧ bO = 2 ∧ bS = aS ∧ 0 ≤ op ∧ op ≤ 15 ∧ Two aS aN bN anx aout bnx bout ∧ ∃ row nx out, mtG k aK aS aO aN anx aout bK bS bO bN bnx bout op = some (1, aS, 2, (row.length : Int), nx, out, 0) ∧ Met aS aN bN anx aout bnx bout op row.length row nx out) := by
  unfold mtG
  rw [mach_prog ha4 ha5 hk, mach_prog hb4 hb5 hk]
  simp only []
  by_cases h1 : (mcheck aK aS aO aN anx aout).2 = 0
  · by_cases h2 : (mcheck bK bS bO bN bnx bout).2 = 0
    · rw [if_neg (by simpa using h1), if_neg (by simpa using h2)]
      by_cases h3 : aK ≠ 1 ∨ bK ≠ 1
      · rw [if_pos h3]; exact .inl ⟨30, by decide, rfl⟩
      · rw [if_neg h3]
        by_cases h4 : aS ≠ bS ∨ op < 0 ∨ op > 15
        · rw [if_pos h4]; exact .inl ⟨1, by decide, rfl⟩
        · rw [if_neg h4]
          have e1 : aK = 1 := by omega
          have e2 : bK = 1 := by omega
          have e3 : bS = aS := by omega
          subst e1; subst e2; subst e3
          have e4 := (head_bounds (mcheck_ok h1).1).2.2.2.2.1 rfl
          have e5 := (head_bounds (mcheck_ok h2).1).2.2.2.2.1 rfl
          subst e4; subst e5
          have R : Two bS aN bN anx aout bnx bout := ⟨right_of_mcheck h1, right_of_mcheck h2⟩
          rcases mtF_spec R op 1024 k 0 [(0, 0)] [] [] (by omega) (by omega) (met_start R op) with h | ⟨row, nx, out, h, D⟩
          · rw [h]; exact .inl ⟨3, by decide, rfl⟩
          · rw [h]; exact .inr ⟨rfl, rfl, rfl, rfl, rfl, by omega, by omega, R, row, nx, out, rfl, D⟩
    · rw [if_neg (by simpa using h1), if_pos h2]; exact .inl ⟨_, h2, rfl⟩
  · rw [if_pos h1]; exact .inl ⟨_, h1, rfl⟩
end Go.Proofs.Ytkaefgmgcghhiaa.X
end

section
namespace Go.Proofs.Ytkaefgmgcghhiaa.X
open Go.RowKit Go.Proofs.YtkaefgmgcghhiaaW.PrintWords Go.Proofs.YtkaefgmgcghhiaaW.PrintLast Go.Proofs.YtkaefgmgcghhiaaW.PrintMore
/-- A world of which only this counts further on. -/
theorem gen_world {P : Program} {ops : Array Oper} {Q : Exit → Act → World → Prop} {rest : List Oper} {a : Act} (F : World → Prop) {W : World} (h : F W) (k : ∀ W', F W' → wpList P ops Q rest a W') : wpList P ops Q rest a W := k W h
theorem C_nums {w : World} {g : Nat} {xs : List Int} (h : w.heap[g]? = some (.cells (numsA xs) 3 (0, 0))) (hl : xs.length ≤ 9223372036854775807) : Kd.C (Kd.int .i64) w (some ⟨g, 0, none⟩) xs.length xs :=
  Kd.C_of_reads (d := (0 : Int)) (h1 := fun _ => rfl) ⟨rfl, hl, fun _ => ⟨_, rfl, fun j hj => by
    rw [add_plain, nums_cell h j hj]
    rfl⟩⟩
theorem blk_at {W : World} {cs : Array Value} {t n : Nat} (he : W.heap.size = n) : (W.alloc (.cells cs t)).heap[n]? = some (.cells cs t (0, 0)) := by
  subst he
  exact blk_new W _
def liveE : List S80 := [⟨0, 0, 0⟩, ⟨0, 1, 0⟩, ⟨0, 1, 1⟩]
def liveEA : Array Value := #[.int .i64 0, .int .i64 0, .int .i64 0, .int .i64 0, .int .i64 1, .int .i64 0, .int .i64 0, .int .i64 1, .int .i64 1]
theorem C_edges {w : World} {g : Nat} (h : w.heap[g]? = some (.cells liveEA 80 (0, 0))) : Kd.C k80 w (some ⟨g, 0, none⟩) 3 liveE := by
  refine ⟨rfl, by omega, fun _ => ⟨_, rfl, fun j p hj => ⟨_, rfl, k80_mk w p, fun i u hu => ?_⟩⟩⟩
  have hc : ∀ q u, liveEA[q]? = some u → w.cell? ((⟨g, 0, none⟩ : Addr).add q) = some u := fun q u hq => by rw [add_plain, blk_cell h q]; exact hq
  match j, hj with
  | 0, hj =>
    simp only [liveE, List.getElem?_cons_zero, Option.some.injEq] at hj
    subst hj
    match i, hu with
    | 0, hu => exact hc 0 u hu
    | 1, hu => exact hc 1 u hu
    | 2, hu => exact hc 2 u hu
    | i + 3, hu => simp at hu
  | 1, hj =>
    simp only [liveE, List.getElem?_cons_zero, List.getElem?_cons_succ, Option.some.injEq] at hj
    subst hj
    match i, hu with
    | 0, hu => exact hc 3 u hu
    | 1, hu => exact hc 4 u hu
    | 2, hu => exact hc 5 u hu
    | i + 3, hu => simp at hu
  | 2, hj =>
    simp only [liveE, List.getElem?_cons_zero, List.getElem?_cons_succ, Option.some.injEq] at hj
    subst hj
    match i, hu with
    | 0, hu => exact hc 6 u hu
    | 1, hu => exact hc 7 u hu
    | 2, hu => exact hc 8 u hu
    | i + 3, hu => simp at hu
  | j + 3, hj => simp [liveE] at hj
theorem info43c : (Try.prog.info? 43).map (fun i => (i.zero, i.size)) = some (some (.agg #[.int .i64 0, .int .i64 0, .int .i64 0, .int .i64 0, .slice none 0 0, .slice none 0 0]), 6) := by kernel_rfl
theorem same_next : tutorref01_Same.f 10 [0, 1, 0, 1] [0, 1, 0, 1] = some true := by decide +kernel
theorem same_out : tutorref01_Same.f 10 [0, 1] [0, 1] = some true := by decide +kernel
/-- What lies in memory behind the example's making. -/
structure LiveAt (w W : World) : Prop where
  below : Below w.heap.size w W
  s : W.heap[w.heap.size]? = some (.cells (numsA [0]) 3 (0, 0))
  f : W.heap[w.heap.size + 1]? = some (.cells (numsA [0, 1]) 3 (0, 0))
  e : W.heap[w.heap.size + 1 + 1]? = some (.cells liveEA 80 (0, 0))
  a : W.heap[w.heap.size + 1 + 1 + 1]? = some (.cells #[.int .i64 2, .int .i64 2, .slice (some ⟨w.heap.size, 0, none⟩) 1 1, .slice (some ⟨w.heap.size + 1, 0, none⟩) 2 2, .slice (some ⟨w.heap.size + 1 + 1, 0, none⟩) 3 3] 25 (0, 0))
theorem LiveAt.on {w W W1 : World} (h : LiveAt w W) (hb : Below W.heap.size W W1) : LiveAt w W1 := ⟨below_step h.below hb, blk_below h.s hb, blk_below h.f hb, blk_below h.e hb, blk_below h.a hb⟩
theorem live_made (w : World) : LiveAt w ((((w.alloc (.cells #[.int .i64 0] 3)).alloc (.cells #[.int .i64 0, .int .i64 1] 3)).alloc (.cells liveEA 80)).alloc (.cells #[.int .i64 2, .int .i64 2, .slice (some ⟨w.heap.size, 0, none⟩) 1 1, .slice (some ⟨w.heap.size + 1, 0, none⟩) 2 2, .slice (some ⟨w.heap.size + 1 + 1, 0, none⟩) 3 3] 25)) := by
  have hs := blk_new w (.cells (numsA [0]) 3)
  have hf : ((w.alloc (.cells (numsA [0]) 3)).alloc (.cells (numsA [0, 1]) 3)).heap[w.heap.size + 1]? = some (.cells (numsA [0, 1]) 3 (0, 0)) := by
    simpa using blk_new (w.alloc (.cells (numsA [0]) 3)) (.cells (numsA [0, 1]) 3)
  have he : (((w.alloc (.cells (numsA [0]) 3)).alloc (.cells (numsA [0, 1]) 3)).alloc (.cells liveEA 80)).heap[w.heap.size + 1 + 1]? = some (.cells liveEA 80 (0, 0)) := by
    simpa using blk_new ((w.alloc (.cells (numsA [0]) 3)).alloc (.cells (numsA [0, 1]) 3)) (.cells liveEA 80)
  have ha : ((((w.alloc (.cells #[.int .i64 0] 3)).alloc (.cells #[.int .i64 0, .int .i64 1] 3)).alloc (.cells liveEA 80)).alloc (.cells #[.int .i64 2, .int .i64 2, .slice (some ⟨w.heap.size, 0, none⟩) 1 1, .slice (some ⟨w.heap.size + 1, 0, none⟩) 2 2, .slice (some ⟨w.heap.size + 1 + 1, 0, none⟩) 3 3] 25)).heap[w.heap.size + 1 + 1 + 1]? = some (.cells #[.int .i64 2, .int .i64 2, .slice (some ⟨w.heap.size, 0, none⟩) 1 1, .slice (some ⟨w.heap.size + 1, 0, none⟩) 2 2, .slice (some ⟨w.heap.size + 1 + 1, 0, none⟩) 3 3] 25 (0, 0)) := by
    have h := blk_new (((w.alloc (.cells (numsA [0]) 3)).alloc (.cells (numsA [0, 1]) 3)).alloc (.cells liveEA 80)) (.cells #[.int .i64 2, .int .i64 2, .slice (some ⟨w.heap.size, 0, none⟩) 1 1, .slice (some ⟨w.heap.size + 1, 0, none⟩) 2 2, .slice (some ⟨w.heap.size + 1 + 1, 0, none⟩) 3 3] 25)
    have e : (((w.alloc (.cells (numsA [0]) 3)).alloc (.cells (numsA [0, 1]) 3)).alloc (.cells liveEA 80)).heap.size = w.heap.size + 1 + 1 + 1 := by simp
    rw [e] at h
    exact h
  exact ⟨below_alloc (below_alloc (below_alloc (below_alloc (Below.refl _ _) _) _) _) _, blk_alloc (blk_alloc (blk_alloc hs _) _) _, blk_alloc (blk_alloc hf _) _, blk_alloc he _, ha⟩
set_option maxHeartbeats 16000000 in
set_option maxRecDepth 100000 in
theorem live_walk (w : World) : Calls Try.prog 13 #[] w fun e w' => e = .returned (.bool true) ∧ Below w.heap.size w w' := by
  have hu80 := Try.underlying80
  have hu25 := Try.underlying25
  have hu43 := Try.underlying43
  obtain ⟨z43, i43⟩ := zero_of_info info43c
  go_enter Try.func13, Try.ntmps13
  go_wp2_with (first
    | (go_at_call 20; go_loud (
       have HL2 := Aside0.mk ((live_made w).on (below_alloc (Below.refl _ _) (.cells (numsA [0, 1]) 3)))
       have h20 : Calls Try.prog 20 #[.agg #[.int .i64 2, .int .i64 2, .slice (some ⟨w.heap.size, 0, none⟩) 1 1, .slice (some ⟨w.heap.size + 1, 0, none⟩) 2 2, .slice (some ⟨w.heap.size + 1 + 1, 0, none⟩) 3 3], .slice (some ⟨w.heap.size + 1 + 1 + 1 + 1, 0, none⟩) 2 2] (((((w.alloc (.cells #[.int .i64 0] 3)).alloc (.cells #[.int .i64 0, .int .i64 1] 3)).alloc (.cells liveEA 80)).alloc (.cells #[.int .i64 2, .int .i64 2, .slice (some ⟨w.heap.size, 0, none⟩) 1 1, .slice (some ⟨w.heap.size + 1, 0, none⟩) 2 2, .slice (some ⟨w.heap.size + 1 + 1, 0, none⟩) 3 3] 25)).alloc (.cells #[.int .i64 0, .int .i64 1] 3)) _ := nfa_Accepts.calls 2 2 _ 1 [0] _ 2 [0, 1] _ 3 liveE _ 2 [0, 1] true 0 _ (C_nums HL2.out.s (by simp)) (Nat.le_refl _) (C_nums HL2.out.f (by simp)) (Nat.le_refl _) (C_edges HL2.out.e) (Nat.le_refl _) (C_nums (blk_at (by simp)) (by simp)) (Nat.le_refl _) liveA
       refine h20.mono ?_
       rintro e w2 ⟨rfl, hb2⟩
       have HL3 := Aside0.mk (HL2.out.on hb2)
       have hy0 : w2.cell? ⟨w.heap.size + 1 + 1 + 1, 0, none⟩ = some (.int .i64 2) := (blk_cell HL3.out.a 0).trans rfl
       have hy1 : w2.cell? ⟨w.heap.size + 1 + 1 + 1, 1, none⟩ = some (.int .i64 2) := (blk_cell HL3.out.a 1).trans rfl
       have hy2 : w2.cell? ⟨w.heap.size + 1 + 1 + 1, 2, none⟩ = some (.slice (some ⟨w.heap.size, 0, none⟩) 1 1) := (blk_cell HL3.out.a 2).trans rfl
       have hy3 : w2.cell? ⟨w.heap.size + 1 + 1 + 1, 3, none⟩ = some (.slice (some ⟨w.heap.size + 1, 0, none⟩) 2 2) := (blk_cell HL3.out.a 3).trans rfl
       have hy4 : w2.cell? ⟨w.heap.size + 1 + 1 + 1, 4, none⟩ = some (.slice (some ⟨w.heap.size + 1 + 1, 0, none⟩) 3 3) := (blk_cell HL3.out.a 4).trans rfl
       have h22 : Calls Try.prog 22 #[.agg #[.int .i64 2, .int .i64 2, .slice (some ⟨w.heap.size, 0, none⟩) 1 1, .slice (some ⟨w.heap.size + 1, 0, none⟩) 2 2, .slice (some ⟨w.heap.size + 1 + 1, 0, none⟩) 3 3]] w2 _ := nfa_Determine.calls 2 2 _ 1 [0] _ 2 [0, 1] _ 3 liveE 1 2 2 2 [0, 1, 0, 1] [0, 1] 0 w2 (C_nums HL3.out.s (by simp)) (Nat.le_refl _) (C_nums HL3.out.f (by simp)) (Nat.le_refl _) (C_edges HL3.out.e) (Nat.le_refl _) liveD
       clear hb2 h20))
    | (go_at_call 22
       refine h22.mono ?_
       rintro e w3 ⟨v5, v6, rfl, hR5, hR6, hb3⟩
       have HL4 := Aside0.mk (HL3.out.on hb3)
       obtain ⟨P5, e5, rfl⟩ := Kd.R_slice hR5
       obtain ⟨P6, e6, rfl⟩ := Kd.R_slice hR6
       have HR := Aside0.mk (And.intro hR5 hR6)
       clear hb3 hR5 hR6 h22 hy0 hy1 hy2 hy3 hy4)
    | ((with_reducible refine gate_store (t := 43) (p := 4) rfl ?_)
       refine wpList_store_rowTo rfl 43 (.tmp 4) (.tmp 24) rfl rfl w3.heap.size #[.int .i64 1, .int .i64 2, .int .i64 2, .int .i64 2, .slice P5 4 e5, .slice P6 2 e6] rfl rfl 43 _ (blk_new w3 _) ?_ ?_ (by simp [Value.oneCell']) ?_
       (focus (rw [i43]; rfl))
       (focus rfl)
       rw [World.setRow_alloc_new]
       refine gen_world (fun W => Below w.heap.size w W ∧ Below w3.heap.size w3 W ∧ W.heap[w3.heap.size]? = some (.cells #[.int .i64 1, .int .i64 2, .int .i64 2, .int .i64 2, .slice P5 4 e5, .slice P6 2 e6] 43 (0, 0))) ⟨below_alloc HL4.out.below _, below_alloc (Below.refl _ _) _, blk_new w3 _⟩ (fun w5 h5 => ?_)
       have HM5 := Aside0.mk h5
       have hm0 : w5.cell? ⟨w3.heap.size, 0, none⟩ = some (.int .i64 1) := (blk_cell h5.2.2 0).trans rfl
       have hm1 : w5.cell? ⟨w3.heap.size, 1, none⟩ = some (.int .i64 2) := (blk_cell h5.2.2 1).trans rfl
       have hm2 : w5.cell? ⟨w3.heap.size, 2, none⟩ = some (.int .i64 2) := (blk_cell h5.2.2 2).trans rfl
       have hm3 : w5.cell? ⟨w3.heap.size, 3, none⟩ = some (.int .i64 2) := (blk_cell h5.2.2 3).trans rfl
       have hm4 : w5.cell? ⟨w3.heap.size, 4, none⟩ = some (.slice P5 4 e5) := (blk_cell h5.2.2 4).trans rfl
       have hm5 : w5.cell? ⟨w3.heap.size, 5, none⟩ = some (.slice P6 2 e6) := (blk_cell h5.2.2 5).trans rfl
       have h39 : Calls Try.prog 39 #[.agg #[.int .i64 1, .int .i64 2, .int .i64 2, .int .i64 2, .slice P5 4 e5, .slice P6 2 e6], .int .i64 3] w5 _ := nfa_Count.calls 1 2 2 2 P5 e5 [0, 1, 0, 1] P6 e6 [0, 1] 3 4 0 w5 (Kd.C_below (Kd.R_reads' HR.out.1).2.2 h5.2.1) (Kd.R_reads' HR.out.1).2.1 (Kd.C_below (Kd.R_reads' HR.out.2).2.2 h5.2.1) (Kd.R_reads' HR.out.2).2.1 liveC
       clear h5)
    | (go_at_call 39
       refine h39.mono ?_
       rintro e w6 ⟨rfl, hb6⟩
       have HM6 : Aside0 (Below w.heap.size w w6 ∧ Below w3.heap.size w3 w6 ∧ w6.heap[w3.heap.size]? = some (.cells #[.int .i64 1, .int .i64 2, .int .i64 2, .int .i64 2, .slice P5 4 e5, .slice P6 2 e6] 43 (0, 0))) := ⟨below_step HM5.out.1 hb6, below_step HM5.out.2.1 hb6, blk_below HM5.out.2.2 hb6⟩
       clear hb6 h39 hm0 hm1 hm2 hm3 hm4 hm5
       have hm0 : w6.cell? ⟨w3.heap.size, 0, none⟩ = some (.int .i64 1) := (blk_cell HM6.out.2.2 0).trans rfl
       have hm1 : w6.cell? ⟨w3.heap.size, 1, none⟩ = some (.int .i64 2) := (blk_cell HM6.out.2.2 1).trans rfl
       have hm2 : w6.cell? ⟨w3.heap.size, 2, none⟩ = some (.int .i64 2) := (blk_cell HM6.out.2.2 2).trans rfl
       have hm3 : w6.cell? ⟨w3.heap.size, 3, none⟩ = some (.int .i64 2) := (blk_cell HM6.out.2.2 3).trans rfl
       have hm4 : w6.cell? ⟨w3.heap.size, 4, none⟩ = some (.slice P5 4 e5) := (blk_cell HM6.out.2.2 4).trans rfl
       have hm5 : w6.cell? ⟨w3.heap.size, 5, none⟩ = some (.slice P6 2 e6) := (blk_cell HM6.out.2.2 5).trans rfl)
    | (go_at_call 17; with_reducible refine (tutorlaw17_num.calls 0 0 _ rfl).mono ?_
       rintro e wn ⟨rfl, ⟨nn, rfl⟩⟩)
    | (go_at_call 44
       refine (tutorref01_Same.calls 10 P6 e6 [0, 1] (some ⟨wn.heap.size, 0, none⟩) 2 [0, 1] true _ (Kd.C_below (Kd.R_reads' HR.out.2).2.2 (below_alloc HBN.out _)) (Kd.R_reads' HR.out.2).2.1 (C_nums (blk_at rfl) (by simp)) (Nat.le_refl _) same_out).mono ?_
       rintro e wz ⟨rfl, hdz⟩
       have HZ := Aside0.mk (below_step (below_alloc HBW.out _) hdz.below))
    | (go_at_call 44
       refine (tutorref01_Same.calls 10 P5 e5 [0, 1, 0, 1] (some ⟨w6.heap.size, 0, none⟩) 4 [0, 1, 0, 1] true _ (Kd.C_below (Kd.R_reads' HR.out.1).2.2 (below_alloc (pw_below_drewN HM6.out.2.1 _) _)) (Kd.R_reads' HR.out.1).2.1 (C_nums (blk_at rfl) (by simp)) (Nat.le_refl _) same_next).mono ?_
       rintro e wn ⟨rfl, hdn⟩
       have HN := Aside0.mk hdn
       have HBN := Aside0.mk (below_step (below_alloc (pw_below_drewN HM6.out.2.1 _) _) hdn.below)
       have HBW := Aside0.mk (below_step (below_alloc (pw_below_drewN HM6.out.1 _) _) hdn.below)
       have hq5 : wn.cell? ⟨w3.heap.size, 5, none⟩ = some (.slice P6 2 e6) := (blk_cell (blk_below (blk_alloc (blk_drewN HM6.out.2.2 _) _) hdn.below) 5).trans rfl
       clear hdn))
  go_ret
  exact ⟨rfl, HZ.out⟩
end Go.Proofs.Ytkaefgmgcghhiaa.X
end

section
namespace Go.Proofs.Ytkaefgmgcghhiaa.X
open Go.RowKit Go.Proofs.YtkaefgmgcghhiaaW.PrintWords Go.Proofs.YtkaefgmgcghhiaaW.PrintLast Go.Proofs.YtkaefgmgcghhiaaW.PrintMore
def tutorlaw17_live.f : Option Bool := some true
theorem tutorlaw17_live.calls (r1 : Bool) (w : World) (h : tutorlaw17_live.f = some r1) : Calls Try.prog 13 #[] w fun e w' => e = .returned (.bool r1) ∧ Below w.heap.size w w' := by
  obtain rfl := Option.some.inj h
  exact live_walk w
end Go.Proofs.Ytkaefgmgcghhiaa.X
end
