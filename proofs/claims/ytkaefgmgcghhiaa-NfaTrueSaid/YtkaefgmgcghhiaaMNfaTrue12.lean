/- Texts of the statement NfaTrue, one behind the other: Go functions as Lean functions, the machine's calls, the plain law. -/
import Derived.Test.YtkaefgmgcghhiaaMNfaTrue4
import Derived.Test.YtkaefgmgcghhiaaMNfaTrue11
import Derived.Carry
set_option linter.unusedVariables false
set_option linter.unusedSimpArgs false
section
namespace Go.Proofs.Ytkaefgmgcghhiaa.X
open Go.RowKit Go.Proofs.YtkaefgmgcghhiaaW.PrintWords Go.Proofs.YtkaefgmgcghhiaaW.PrintLast Go.Proofs.YtkaefgmgcghhiaaW.PrintMore
def detIn (k : Nat) (N : Int) (fr : List (List S80)) (s : List Nat) : List Nat → List (List Nat) → List Int → Option (Option (List (List Nat) × List Int))
  | [], row, nx => some (some (row, nx))
  | x :: r, row, nx => match stepF k N fr s (x : Int) with
    | none => none
    | some t => if nx.length < 1099511627776 then (match row.findIdx? (· == t) with
      | some j => detIn k N fr s r row (nx ++ [(j : Int)])
      | none => if row.length = 1024 then some none else detIn k N fr s r (row ++ [t]) (nx ++ [(row.length : Int)])) else none
def detF (k : Nat) (K N : Int) (F : List Int) (fr : List (List S80)) : Nat → Nat → List (List Nat) → List Int → List Int → Option (Option (List (List Nat) × List Int × List Int))
  | 0, _, _, _, _ => none
  | q + 1, i, row, nx, out => if i < row.length then (if out.length < 1099511627776 then (match detIn k N fr (row.getD i []) (List.range K.toNat) row nx with
    | none => none
    | some none => some none
    | some (some (row1, nx1)) => detF k K N F fr q (i + 1) row1 nx1 (out ++ [fiRow (row.getD i []) F 0])) else none) else some (some (row, nx, out))
def detG (k : Nat) (K N : Int) (S F : List Int) (E : List S80) : Option (Int × Int × Int × Int × List Int × List Int × Int) :=
  if (nfa_Check.g K N S F E).2 ≠ 0 then some (0, 0, 0, 0, [], [], (nfa_Check.g K N S F E).2) else
  match startF k N (rowsOf N.toNat E) S with
  | none => none
  | some s => match detF k K N F (rowsOf N.toNat E) k 0 [s] [] [] with
    | none => none
    | some none => some (0, 0, 0, 0, [], [], 3)
    | some (some (row, nx, out)) => some (1, K, 2, (row.length : Int), nx, out, 0)
theorem look_some {row : List (List Nat)} (hrow : ∀ s ∈ row, IsSet s) (hnd : row.Nodup) {t : List Nat} (ht : IsSet t) {j : Nat} (hj : row.findIdx? (· == t) = some j) {w : World} {b : Nat} (hp : PlaceAt w b row) :
    (Instr.lookup 92 (.map (some b)) (.agg (wordsOf t).toArray) true).run Try.prog w = .ok (.tuple #[.int .i64 (j : Int), .bool true]) w := by
  obtain ⟨hjl, hjt, _⟩ := List.findIdx?_eq_some_iff_getElem.1 hj
  have hjt' : row[j] = t := by simpa using hjt
  rcases place_lookup hrow ht hp with ⟨_, h2⟩ | ⟨i, h1, h2⟩
  · exact absurd (hjt' ▸ List.getElem_mem hjl) h2
  · obtain ⟨hil, hit⟩ := List.getElem?_eq_some_iff.1 h2
    have : i = j := (List.getElem_inj hnd).1 (hit.trans hjt'.symm)
    rw [h1, this]
theorem look_none {row : List (List Nat)} (hrow : ∀ s ∈ row, IsSet s) {t : List Nat} (ht : IsSet t) (hj : row.findIdx? (· == t) = none) {w : World} {b : Nat} (hp : PlaceAt w b row) :
    (Instr.lookup 92 (.map (some b)) (.agg (wordsOf t).toArray) true).run Try.prog w = .ok (.tuple #[.int .i64 0, .bool false]) w := by
  rcases place_lookup hrow ht hp with ⟨h1, _⟩ | ⟨i, _, h2⟩
  · exact h1
  · have := List.findIdx?_eq_none_iff.1 hj t (List.mem_of_getElem? h2)
    simp at this
theorem not_mem_of_none {row : List (List Nat)} {t : List Nat} (hj : row.findIdx? (· == t) = none) : t ∉ row := fun hm => by
  have := List.findIdx?_eq_none_iff.1 hj t hm
  simp at this
/-- A store into that map, at the operation. -/
theorem wpList_place_put {w : World} {ops : Array Oper} {rest : List Oper} {o : Oper} {a : Act} {Q : Exit → Act → World → Prop} {row : List (List Nat)} {t : List Nat} {b : Nat} (hg : o.guard = none) (m x v : Operand)
    (hop : o.op = .insert 92 m x v ∨ o.op = .mapUpdate 92 m x v) (hm : a.eval m = .map (some b)) (hx : a.eval x = .agg (wordsOf t).toArray) (hv : a.eval v = .int .i64 (row.length : Int)) (hd : o.dst = none)
    (hrow : ∀ s ∈ row, IsSet s) (ht : IsSet t) (hnew : t ∉ row) (hp : PlaceAt w b row)
    (h : ∀ w', PlaceAt w' b (row ++ [t]) → w.grownBy w' (some b) → wpList Try.prog ops Q rest a w') : wpList Try.prog ops Q (o :: rest) a w := by
  obtain ⟨w', h1, h2, h3⟩ := place_put hrow ht hnew hp
  refine wpList_plain hg fun K hK => ?_
  have hrun : (execOp a.eval o).run Try.prog w = .ok .skip w' := by
    unfold execOp
    rcases hop with hop | hop
    · simp [hop, hm, hx, hv, h1, Result.andThen]
    · simp [hop, hm, hx, hv, h1, Result.andThen]
  unfold Oper.wp
  rw [hrun]
  show K (a.put o.dst undef) w'
  rw [hd]
  exact hK _ _ (h w' h2 h3)
/-- A literal of one set. -/
theorem run_one_set (W : World) {s : List Nat} (hs : IsSet s) : (Instr.buildSlice 93 1 #[(0, .agg (wordsOf s).toArray)]).run Try.prog W = .ok (.slice (some ⟨W.heap.size, 0, none⟩) 1 1) (W.alloc (.cells (wordsOf s).toArray 88)) := by
  cases hi : Try.prog.info? 88 with
  | none => have := info88; rw [hi] at this; cases this
  | some ie =>
    have h88 := info88
    rw [hi] at h88
    simp only [Option.map_some, Option.some.injEq, Prod.mk.injEq] at h88
    refine run_buildSlice W 93 88 1 _ _ ie _ Try.underlying93 hi h88.1 (by rw [h88.2]; decide) (by rw [h88.2]; decide) ?_
    rw [h88.2]
    have h := Great.fill_whole (s := 16) (by decide) [.agg (wordsOf s).toArray] ((Array.range (1 * 16)).map ((Value.agg (Array.replicate 16 (.int .u64 0))).cells[· % (Value.agg (Array.replicate 16 (.int .u64 0))).cells.size]!)) (by
      intro v hv
      simp only [List.mem_singleton] at hv
      subst hv
      exact set_len hs) (by simp)
    simpa [Value.cells] using h
theorem exec_one_set {a : Act} {o : Oper} {x : Operand} {s : List Nat} (ho : o.op = .buildSlice 93 1 #[(0, x)]) (hx : a.eval x = .agg (wordsOf s).toArray) (hs : IsSet s) (W : World) :
    (execOp a.eval o).run Try.prog W = .ok (.value (.slice (some ⟨W.heap.size, 0, none⟩) 1 1)) (W.alloc (.cells (wordsOf s).toArray 88)) := by
  unfold execOp
  simp [ho, hx, run_one_set W hs, Result.andThen]
theorem reps_one_set {w : World} {base : Nat} {ok : Nat → Prop} {s : List Nat} (hs : IsSet s) : Reps (kset.M w base ok) kset.sz [s] (wordsOf s) := by
  have hl : (wordsOf s).length = 16 := by simp [wordsOf, hs.1]
  refine ⟨by rw [hl]; rfl, fun j p hj => ?_⟩
  cases j with
  | zero =>
    simp only [List.getElem?_cons_zero, Option.some.injEq] at hj
    subst hj
    refine ⟨hs, ?_⟩
    show List.take 16 (List.drop (0 * 16) (wordsOf s)) = wordsOf s
    rw [Nat.zero_mul, List.drop_zero, List.take_of_length_le (by omega)]
  | succ j => simp at hj
end Go.Proofs.Ytkaefgmgcghhiaa.X
end

section
namespace Go.Proofs.Ytkaefgmgcghhiaa.X
open Go.RowKit Go.Proofs.YtkaefgmgcghhiaaW.PrintWords Go.Proofs.YtkaefgmgcghhiaaW.PrintLast Go.Proofs.YtkaefgmgcghhiaaW.PrintMore
structure DetAt (w0 : World) (mb M : Nat) (K : Int) (pr row : List (List Nat)) (rv : Value) (nx : List Int) (nxv : Value) (out : List Int) (outv : Value) (w : World) : Prop where
  place : PlaceAt w mb pr
  row : Kd.R kset 88 w w0.heap.size (fun _ => True) rv row
  m : w.heap[M]? = some (.cells #[.int .i64 1, .int .i64 K, .int .i64 2, .int .i64 0, nxv, outv] 43 (0, 0))
  nx : Kd.R (Kd.int .i64) 3 w w0.heap.size (fun _ => True) nxv nx
  out : Kd.R (Kd.int .i64) 3 w w0.heap.size (fun _ => True) outv out
  apart : ∀ k, nxv.ownBlock = some k → outv.ownBlock ≠ some k
  below : Below w0.heap.size w0 w
  hmb : w0.heap.size ≤ mb
  hM : w0.heap.size ≤ M
theorem R_typed {α : Type} {d : Kd α} {e : Nat} {w : World} {base : Nat} {ok : Nat → Prop} {v : Value} {xs : List α} (h : d.R e w base ok v xs) (k : Nat) (hk : v.ownBlock = some k) : ∃ cells, w.heap[k]? = some (.cells cells e (0, 0)) := by
  obtain ⟨inner, ho⟩ := Kd.R_own h
  exact own_typed ho k hk
theorem R_R_ne {α β : Type} {d : Kd α} {d' : Kd β} {e e' : Nat} {w : World} {base base' : Nat} {ok ok' : Nat → Prop} {v v' : Value} {xs : List α} {ys : List β} (h : d.R e w base ok v xs) (h' : d'.R e' w base' ok' v' ys) (hne : e ≠ e') (k : Nat) (hk : v.ownBlock = some k) : some k ≠ v'.ownBlock := by
  intro he
  obtain ⟨c, h1⟩ := R_typed h k hk
  obtain ⟨c', h2⟩ := R_typed h' k he.symm
  rw [h1] at h2
  simp only [Option.some.injEq, Obj.cells.injEq] at h2
  exact hne h2.2.1
theorem place_R_ne {α : Type} {d : Kd α} {e : Nat} {w : World} {base : Nat} {ok : Nat → Prop} {v : Value} {xs : List α} {b : Nat} {row : List (List Nat)} (hp : PlaceAt w b row) (h : d.R e w base ok v xs) : some b ≠ v.ownBlock := by
  intro he
  obtain ⟨c, h1⟩ := R_typed h b he.symm
  unfold PlaceAt at hp
  rw [hp] at h1
  cases h1
theorem place_blk_ne {w : World} {b g t : Nat} {cs : Array Value} {row : List (List Nat)} (hp : PlaceAt w b row) (h : w.heap[g]? = some (.cells cs t (0, 0))) : b ≠ g := by
  rintro rfl
  unfold PlaceAt at hp
  rw [hp] at h
  cases h
theorem PlaceAt.grown {w w1 : World} {b : Nat} {row : List (List Nat)} {r : Option Nat} (hp : PlaceAt w b row) (hg : w.grownBy w1 r) (hne : some b ≠ r) : PlaceAt w1 b row := blk_grown hp hg hne
theorem PlaceAt.far {w : World} {b : Nat} {row : List (List Nat)} (hp : PlaceAt w b row) {p : Addr} (hne : b ≠ p.block) (u : Value) : PlaceAt (w.setCell p u) b row := (Below.heap_setCell w p u b hne).trans hp
theorem DetAt.low {w0 w w1 : World} {mb M : Nat} {K : Int} {pr row : List (List Nat)} {rv nxv outv : Value} {nx out : List Int} (h : DetAt w0 mb M K pr row rv nx nxv out outv w) (hb : Below w.heap.size w w1) : DetAt w0 mb M K pr row rv nx nxv out outv w1 :=
  ⟨blk_below h.place hb, Kd.R_below h.row hb, blk_below h.m hb, Kd.R_below h.nx hb, Kd.R_below h.out hb, h.apart, below_then h.below h.below.size hb, h.hmb, h.hM⟩
theorem R_after {α : Type} {d : Kd α} {e : Nat} {w w1 : World} {base M j : Nat} {v v1 : Value} {xs : List α} (h : d.R e w base (fun _ => True) v xs) (hE : d.E = []) {row : Option Nat} (hg : w.grownBy w1 row) (hne : ∀ k, row = some k → some k ≠ v.ownBlock) (hM : some M ≠ v.ownBlock) : d.R e (w1.setCell ⟨M, j, none⟩ v1) base (fun _ => True) v xs := by
  have h1 := Kd.R_grown2 h hE hg hne
  exact Kd.R_mono (Kd.R_far (Kd.R_tight hE h1) (p := ⟨M, j, none⟩) (fun k hk he => hM (by rw [← hk]; show some M = some k; rw [he])) v1) (fun _ _ => trivial)
theorem DetAt.outAp {w0 w w1 : World} {mb M : Nat} {K : Int} {pr row : List (List Nat)} {rv nxv outv v1 : Value} {nx out out1 : List Int} (h : DetAt w0 mb M K pr row rv nx nxv out outv w)
    (hr : Kd.R (Kd.int .i64) 3 w1 w0.heap.size (fun _ => True) v1 out1) (hb : Below w0.heap.size w0 w1) (hg : w.grownBy w1 outv.ownBlock) (hat : v1.ownBlock = outv.ownBlock ∨ ∃ b, v1.ownBlock = some b ∧ w.heap.size ≤ b) :
    DetAt w0 mb M K pr row rv nx nxv out1 v1 (w1.setCell ⟨M, 5, none⟩ v1) := by
  have hMo : some M ≠ outv.ownBlock := Kd.R_ne h.out h.m (by decide)
  have hm1 := blk_grown h.m hg hMo
  refine ⟨(h.place.grown hg (place_R_ne h.place h.out)).far (place_blk_ne h.place h.m) _, R_after h.row rfl hg (fun k hk => R_R_ne h.out h.row (by decide) k hk) (Kd.R_ne h.row h.m (by decide)), blk_put hm1 5 v1 rfl,
    R_after h.nx rfl hg (fun k hk he => h.apart k he.symm hk) (Kd.R_ne h.nx h.m (by decide)), ?_, ?_, below_set hb h.hM, h.hmb, h.hM⟩
  · exact Kd.R_mono (Kd.R_far (Kd.R_tight rfl hr) (p := ⟨M, 5, none⟩) (fun k hk he => Kd.R_ne hr hm1 (by decide) (by rw [← hk]; show some M = some k; rw [he])) v1) (fun _ _ => trivial)
  · intro k hk he
    rcases hat with h1 | ⟨b, h1, h2⟩
    · rw [h1] at he; exact h.apart k hk he
    · rw [h1] at he
      have := Kd.R_lt h.nx k hk
      have hbk : b = k := by injection he
      omega
theorem DetAt.nextAp {w0 w w1 : World} {mb M : Nat} {K : Int} {pr row : List (List Nat)} {rv nxv outv v1 : Value} {nx out nx1 : List Int} (h : DetAt w0 mb M K pr row rv nx nxv out outv w)
    (hr : Kd.R (Kd.int .i64) 3 w1 w0.heap.size (fun _ => True) v1 nx1) (hb : Below w0.heap.size w0 w1) (hg : w.grownBy w1 nxv.ownBlock) (hat : v1.ownBlock = nxv.ownBlock ∨ ∃ b, v1.ownBlock = some b ∧ w.heap.size ≤ b) :
    DetAt w0 mb M K pr row rv nx1 v1 out outv (w1.setCell ⟨M, 4, none⟩ v1) := by
  have hMo : some M ≠ nxv.ownBlock := Kd.R_ne h.nx h.m (by decide)
  have hm1 := blk_grown h.m hg hMo
  refine ⟨(h.place.grown hg (place_R_ne h.place h.nx)).far (place_blk_ne h.place h.m) _, R_after h.row rfl hg (fun k hk => R_R_ne h.nx h.row (by decide) k hk) (Kd.R_ne h.row h.m (by decide)), blk_put hm1 4 v1 rfl,
    ?_, R_after h.out rfl hg (fun k hk he => h.apart k hk he.symm) (Kd.R_ne h.out h.m (by decide)), ?_, below_set hb h.hM, h.hmb, h.hM⟩
  · exact Kd.R_mono (Kd.R_far (Kd.R_tight rfl hr) (p := ⟨M, 4, none⟩) (fun k hk he => Kd.R_ne hr hm1 (by decide) (by rw [← hk]; show some M = some k; rw [he])) v1) (fun _ _ => trivial)
  · intro k hk he
    rcases hat with h1 | ⟨b, h1, h2⟩
    · rw [h1] at hk; exact h.apart k hk he
    · rw [h1] at hk
      have := Kd.R_lt h.out k he
      have hbk : b = k := by injection hk
      omega
theorem DetAt.placed {w0 w w1 : World} {mb M : Nat} {K : Int} {pr pr1 row : List (List Nat)} {rv nxv outv : Value} {nx out : List Int} (h : DetAt w0 mb M K pr row rv nx nxv out outv w) (hp : PlaceAt w1 mb pr1) (hg : w.grownBy w1 (some mb)) :
    DetAt w0 mb M K pr1 row rv nx nxv out outv w1 :=
  ⟨hp, Kd.R_grown2 h.row rfl hg (fun k hk => by injection hk with hk; rw [← hk]; exact place_R_ne h.place h.row), blk_grown h.m hg (fun he => place_blk_ne h.place h.m (by injection he with he; exact he.symm)),
    Kd.R_grown2 h.nx rfl hg (fun k hk => by injection hk with hk; rw [← hk]; exact place_R_ne h.place h.nx), Kd.R_grown2 h.out rfl hg (fun k hk => by injection hk with hk; rw [← hk]; exact place_R_ne h.place h.out),
    h.apart, pw_below_grown h.below (some mb) h.below.size hg (fun k hk => by injection hk with hk; rw [← hk]; exact h.hmb), h.hmb, h.hM⟩
theorem DetAt.rowAp {w0 w w1 : World} {mb M : Nat} {K : Int} {pr row row1 : List (List Nat)} {rv rv1 nxv outv : Value} {nx out : List Int} (h : DetAt w0 mb M K pr row rv nx nxv out outv w)
    (hr : Kd.R kset 88 w1 w0.heap.size (fun _ => True) rv1 row1) (hb : Below w0.heap.size w0 w1) (hg : w.grownBy w1 rv.ownBlock) : DetAt w0 mb M K pr row1 rv1 nx nxv out outv w1 :=
  ⟨h.place.grown hg (place_R_ne h.place h.row), hr, blk_grown h.m hg (Kd.R_ne h.row h.m (by decide)), Kd.R_grown2 h.nx rfl hg (fun k hk => R_R_ne h.row h.nx (by decide) k hk), Kd.R_grown2 h.out rfl hg (fun k hk => R_R_ne h.row h.out (by decide) k hk), h.apart, hb, h.hmb, h.hM⟩
end Go.Proofs.Ytkaefgmgcghhiaa.X
end

section
namespace Go.Proofs.Ytkaefgmgcghhiaa.X
open Go.RowKit Go.Proofs.YtkaefgmgcghhiaaW.PrintWords Go.Proofs.YtkaefgmgcghhiaaW.PrintLast Go.Proofs.YtkaefgmgcghhiaaW.PrintMore
theorem gate_insert {P : Program} {ops : Array Oper} {rest : List Oper} {o : Oper} {a : Act} {Q : Exit → Act → World → Prop} {W : World} {t : TypeId} {m x v : Operand} (_ho : o.op = .insert t m x v) (h : wpList P ops Q (o :: rest) a W) : wpList P ops Q (o :: rest) a W := h
theorem gate_update {P : Program} {ops : Array Oper} {rest : List Oper} {o : Oper} {a : Act} {Q : Exit → Act → World → Prop} {W : World} {t : TypeId} {m x v : Operand} (_ho : o.op = .mapUpdate t m x v) (h : wpList P ops Q (o :: rest) a W) : wpList P ops Q (o :: rest) a W := h
theorem info43 : (Try.prog.info? 43).map (fun i => (i.zero, i.size)) = some (some (.agg #[.int .i64 0, .int .i64 0, .int .i64 0, .int .i64 0, .slice none 0 0, .slice none 0 0]), 6) := by kernel_rfl
theorem info88b : (Try.prog.info? 88).map (fun i => (i.zero, i.size, i.bytes)) = some (some (.agg (Array.replicate 16 (.int .u64 0))), kset.sz, 128) := by kernel_rfl
def DT12.T12 : Bool × List (List Nat × List Nat) := (true, [([], []), ([0], [0]), ([], []), ([], []), ([], []), ([3, 4], [3, 4]), ([5], [5]), ([2, 6], [2, 6]), ([7], [7]), ([1, 8, 7], [1, 8]), ([0, 1, 2, 3, 4, 5, 6, 7, 8, 9], []), ([10, 9, 9, 0, 1, 2, 3, 4, 5, 6, 7, 8, 9], [9, 10])])
def DT12.B12 : List Nat := [0, 1, 0, 0, 0, 24, 56, 124, 252, 511, 1023, 2047]
theorem DT12.tab12 : rtab .any (opsOf Try.f22 12) = DT12.T12 := by kernel_rfl
theorem DT12.bits12 : waitsOk DT12.T12.2 DT12.B12 = true := by kernel_rfl
theorem grown_setRow (w : World) (g : Nat) (cs : Array Value) : w.grownBy (w.setRow g cs) (some g) := ⟨rfl, rfl, rfl, by simp, fun i _ hi => setRow_other w g i cs (fun e => hi (by rw [e]))⟩
def zero43 : Array Value := #[.int .i64 0, .int .i64 0, .int .i64 0, .int .i64 0, .slice none 0 0, .slice none 0 0]
theorem zero43_one : zero43.all (·.oneCell') = true := by simp [zero43, Value.oneCell']
set_option maxHeartbeats 8000000 in
set_option maxRecDepth 100000 in
theorem Determine_walk (k : Nat) (K N : Int) (A2 : Option Addr) (c2 : Nat) (S : List Int) (A3 : Option Addr) (c3 : Nat) (F : List Int) (A4 : Option Addr) (c4 : Nat) (E : List S80) (r1 r2 r3 r4 : Int) (r5 r6 : List Int) (r7 : Int) (w : World)
    (hr2 : Kd.C (Kd.int .i64) w A2 S.length S) (hr3 : Kd.C (Kd.int .i64) w A3 F.length F) (hr4 : Kd.C k80 w A4 E.length E) (h : detG k K N S F E = some (r1, r2, r3, r4, r5, r6, r7)) :
    Calls Try.prog 22 #[.agg #[.int .i64 K, .int .i64 N, .slice A2 S.length c2, .slice A3 F.length c3, .slice A4 E.length c4]] w fun e w' => ∃ v4_ v5_ : Value, e = .returned (.tuple #[.agg #[.int .i64 r1, .int .i64 r2, .int .i64 r3, .int .i64 r4, v4_, v5_], .int .i64 r7]) ∧ Kd.R (Kd.int .i64) 3 w' w.heap.size (fun k_ => some k_ ≠ (v5_ : Value).ownBlock) v4_ r5 ∧ Kd.R (Kd.int .i64) 3 w' w.heap.size (fun k_ => some k_ ≠ (v4_ : Value).ownBlock) v5_ r6 ∧ Below w.heap.size w w' := by
  have hu25 := Try.underlying25
  have hu43 := Try.underlying43
  have hu80 := Try.underlying80
  have hu92 := Try.underlying92
  have hu93 := Try.underlying93
  unfold detG at h
  obtain ⟨p0, p1, hp⟩ : ∃ p0 p1, nfa_Check.g K N S F E = (p0, p1) := ⟨_, _, rfl⟩
  have hchk := fun (W : World) (hb : Below w.heap.size w W) => Check_walk K N A2 c2 S A3 c3 F A4 c4 E p0 p1 W (Kd.C_below hr2 hb) (Kd.C_below hr3 hb) (Kd.C_below hr4 hb) hp
  have hok : p1 = 0 → RightN K N S F E := fun he => check_ok (by rw [hp]; exact he)
  rw [hp] at h
  simp only [] at h
  have H2 := Aside0.mk hr2
  have H3 := Aside0.mk hr3
  have H4 := Aside0.mk hr4
  clear hr2 hr3 hr4 hp
  obtain ⟨z43, i43⟩ := zero_of_info info43
  have hZ : ∀ w1, Below ((w.alloc (.cells #[.int .i64 K, .int .i64 N, .slice A2 S.length c2, .slice A3 F.length c3, .slice A4 E.length c4] 25)).alloc (.cells zero43 43)).heap.size ((w.alloc (.cells #[.int .i64 K, .int .i64 N, .slice A2 S.length c2, .slice A3 F.length c3, .slice A4 E.length c4] 25)).alloc (.cells zero43 43)) w1 → w1.heap[w.heap.size + 1]? = some (.cells zero43 43 (0, 0)) := by
    intro w1 hb
    refine blk_below ?_ hb
    have h := blk_new (w.alloc (.cells #[.int .i64 K, .int .i64 N, .slice A2 S.length c2, .slice A3 F.length c3, .slice A4 E.length c4] 25)) (.cells zero43 43)
    simpa using h
  have HZ := Aside0.mk hZ
  clear hZ
  by_cases q1 : p1 ≠ 0
  · rw [if_pos q1] at h
    simp only [Option.some.injEq, Prod.mk.injEq] at h
    obtain ⟨rfl, rfl, rfl, rfl, rfl, rfl, rfl⟩ := h
    have q1b : (p1 != 0) = true := by simpa using q1
    clear hok q1
    go_enter Try.func22, Try.ntmps22
    go_wp2_with (first | (go_at_call 15; refine (hchk _ (below_alloc (below_alloc (Below.refl _ _) _) _)).mono ?_; rintro e w1 ⟨rfl, hb1⟩) | ((with_reducible refine gate_store (t := 43) (p := 2) rfl ?_); (refine wpList_store_rowTo rfl 43 (.tmp 2) (.tmp 23) rfl rfl (w.heap.size + 1) zero43 rfl rfl 43 _ (HZ.out _ hb1) ?_ rfl zero43_one ?_; (focus (rw [i43]; rfl)))))
    have hblk := setRow_heap w1 (w.heap.size + 1) _ zero43 43 (0, 0) (HZ.out _ hb1)
    try simp only [Exit.inBlock, Exit.then]
    refine bodyPost_ret (results_ct rfl _ _ (w.heap.size + 1) 43 zero43 (0, 0) _ rfl hblk Try.underlying43 rfl (by rw [i43]; rfl)) rfl ?_
    exact ⟨_, _, rfl, Kd.R_nil _ _ _ _ _, Kd.R_nil _ _ _ _ _, below_setRow (below_step (below_alloc (below_alloc (Below.refl _ _) _) _) hb1) (by omega) _⟩
  · rw [if_neg q1] at h
    have q0 : p1 = 0 := by omega
    subst q0
    have HOK := Aside0.mk (hok rfl)
    clear q1 hok
    have hfr : ((rowsOf N.toNat E).length : Int) = N := by rw [rows_length]; have := HOK.out.n; omega
    have hfl : ∀ j, ((rowsOf N.toNat E).getD j []).length ≤ 65536 := fun j => Nat.le_trans (rows_short _ _ _) HOK.out.el
    have hnr := fun (W : World) (hb : Below w.heap.size w W) => newRunner_walk K N A2 c2 S A3 c3 F A4 c4 E W (Kd.C_below H4.out hb) HOK.out.n HOK.out.el (fun x hx => ⟨(HOK.out.e x hx).1, (HOK.out.e x hx).2.1⟩)
    generalize rowsOf N.toNat E = fr at h hfr hfl hnr
    have HFR := Aside0.mk hfr
    have HFL := Aside0.mk hfl
    clear hfr hfl
    cases hs : startF k N fr S with
    | none => rw [hs] at h; exact absurd h (by simp)
    | some s =>
      rw [hs] at h
      simp only [] at h
      have HSF := Aside0.mk hs
      cases hd : detF k K N F fr k 0 [s] [] [] with
      | none => rw [hd] at h; exact absurd h (by simp)
      | some res =>
      rw [hd] at h
      have HD0 := Aside0.mk hd
      have HRES := Aside0.mk h
      clear hs h hd
      obtain ⟨z88, i88⟩ := zero_of_info info88
      have hmm := @run_makeMap Try.prog
      go_enter Try.func22, Try.ntmps22
      go_wp2_with (first | (go_at_call 15; refine (hchk _ (below_alloc (below_alloc (Below.refl _ _) _) _)).mono ?_; rintro e w1 ⟨rfl, hb1⟩; have HB1 := Aside0.mk (below_step (below_alloc (below_alloc (Below.refl w.heap.size w) (.cells #[.int .i64 K, .int .i64 N, .slice A2 S.length c2, .slice A3 F.length c3, .slice A4 E.length c4] 25)) (.cells zero43 43)) hb1); have HZ1 := Aside0.mk (HZ.out _ hb1); have hbx := blk_below (blk_alloc (blk_new w (.cells #[.int .i64 K, .int .i64 N, .slice A2 S.length c2, .slice A3 F.length c3, .slice A4 E.length c4] 25)) (.cells zero43 43)) hb1; have HBX := Aside0.mk hbx; have hx0 : w1.cell? ⟨w.heap.size, 0, none⟩ = some (.int .i64 K) := (blk_cell hbx 0).trans rfl; have hx1 : w1.cell? ⟨w.heap.size, 1, none⟩ = some (.int .i64 N) := (blk_cell hbx 1).trans rfl; have hx2 : w1.cell? ⟨w.heap.size, 2, none⟩ = some (.slice A2 S.length c2) := (blk_cell hbx 2).trans rfl; have hx3 : w1.cell? ⟨w.heap.size, 3, none⟩ = some (.slice A3 F.length c3) := (blk_cell hbx 3).trans rfl; have hx4 : w1.cell? ⟨w.heap.size, 4, none⟩ = some (.slice A4 E.length c4) := (blk_cell hbx 4).trans rfl; clear hb1 hbx) | (go_at_call 57; refine (hnr _ HB1.out).mono ?_; rintro e w3 ⟨rb, rfl, hR3, hb3⟩; have HR3 := Aside0.mk hR3; have HB3 := Aside0.mk (below_step HB1.out hb3); have HZ3 := Aside0.mk (blk_below HZ1.out hb3); have HBX3 := Aside0.mk (blk_below HBX.out hb3); clear hR3 hb3 hx0 hx1 hx2 hx3 hx4) | (go_at_call 58; refine (start_walk k rb K N A2 c2 S _ _ fr s w3 _ HOK.out.n HFR.out HFL.out HR3.out (Kd.C_below H2.out HB3.out) HOK.out.sl HSF.out).mono ?_; rintro e w4 ⟨rfl, hs4, hb4⟩; have HS4 := Aside0.mk hs4; have HR4 := Aside0.mk (HR3.out.below hb4); have HB4 := Aside0.mk (below_step HB3.out hb4); have HZ4 := Aside0.mk (blk_below HZ3.out hb4); have HBX4 := Aside0.mk (blk_below HBX3.out hb4); have hlit := fun (W : World) => run_one_set W hs4; have hpl0 : PlaceAt ((w4.alloc (.cells (wordsOf s).toArray 88)).alloc (.map #[] 0)) (w4.heap.size + 1) [] := (by have h := blk_new (w4.alloc (.cells (wordsOf s).toArray 88)) (.map #[] 0); simpa [PlaceAt] using h); clear hs4 hb4) | ((with_reducible refine gate_store (t := 88) (p := 7) rfl ?_); refine wpList_store_rowTo rfl 88 (.tmp 7) (.tmp 28) rfl rfl w4.heap.size (wordsOf s).toArray rfl rfl 88 _ (blk_new w4 _) ?_ ?_ (set_one s) ?_; (focus (rw [i88, set_len HS4.out])); (focus (rw [set_len HS4.out]; simp)); rw [World.setRow_alloc_new]) | ((with_reducible refine gate_dst (N := 30) rfl ?_); refine wpList_load_row rfl 88 (.tmp 7) rfl w4.heap.size rfl 88 (wordsOf s).toArray (0, 0) _ (blk_alloc (blk_new w4 _) _) Try.underlying88 rfl ?_ ?_; (focus (rw [i88, set_len HS4.out]))) | ((with_reducible refine gate_insert rfl ?_); (refine wpList_place_put (row := []) (t := s) (b := w4.heap.size + 1) rfl (.tmp 29) (.tmp 30) (.const (.int .i64 0)) (.inl rfl) rfl rfl rfl rfl (by simp) HS4.out (by simp) hpl0 ?_; intro w6 hp6 hg6; have HP6 := Aside0.mk hp6; have HF6 := Aside0.mk (blk_grown (blk_alloc (blk_new w4 (.cells (wordsOf s).toArray 88)) (.map #[] 0)) hg6 (fun he => by injection he with he; omega)); have HB6 := Aside0.mk ((below_alloc (Below.refl (w4.alloc (.cells (wordsOf s).toArray 88)).heap.size (w4.alloc (.cells (wordsOf s).toArray 88))) (.map #[] 0)).grown hg6 (by simp) (fun k hk => by injection hk with hk; rw [← hk]; simp)); clear hp6 hg6 hpl0)) | ((with_reducible refine gate_dst (N := 32) rfl ?_); refine wpList_load_row rfl 88 (.tmp 7) rfl w4.heap.size rfl 88 (wordsOf s).toArray (0, 0) _ HF6.out Try.underlying88 rfl ?_ ?_; (focus (rw [i88, set_len HS4.out]))) | ((with_reducible refine gate_dst (N := 33) rfl ?_); (refine Kd.R_lit kset (w0 := w4.alloc (.cells (wordsOf s).toArray 88)) (w4.alloc (.cells (wordsOf s).toArray 88)).heap.size 88 rfl (N := 33) rfl (xs := [s]) (inner := wordsOf s) (ok := fun _ => True) (okp := fun _ => True) ?hr ?hp (fun _ hk => hk) trivial HB6.out HB6.out.size (by simp) ?_; (case hr => exact exec_one_set rfl rfl HS4.out _); (case hp => exact reps_one_set HS4.out); intro v7 w7 ho7 hb7 hg7 hnew7; have HO7 := Aside0.mk ho7; have HB7 := Aside0.mk hb7; have HP7 := Aside0.mk (HP6.out.grown hg7 (by simp)); have hx0 : w7.cell? ⟨w.heap.size, 0, none⟩ = some (.int .i64 K) := (blk_cell ((hb7.block w.heap.size (by have := blk_lt HBX4.out; simp; omega)).trans (blk_alloc HBX4.out _)) 0).trans rfl; clear ho7 hb7 hg7 hnew7 hlit)))
      have hD0 : DetAt (w4.alloc (.cells (wordsOf s).toArray 88)) (w4.heap.size + 1) w7.heap.size K [s] [s] v7 [] (.slice none 0 0) [] (.slice none 0 0) (w7.alloc (.cells #[.int .i64 1, .int .i64 K, .int .i64 2, .int .i64 0, .slice none 0 0, .slice none 0 0] 43)) := by
        have hb := below_alloc (Below.refl w7.heap.size w7) (.cells #[.int .i64 1, .int .i64 K, .int .i64 2, .int .i64 0, .slice none 0 0, .slice none 0 0] 43)
        exact ⟨blk_below HP7.out hb, Kd.R_below HO7.out hb, blk_new w7 _, Kd.R_nil _ _ _ _ _, Kd.R_nil _ _ _ _ _, fun k hk => by simp [Value.ownBlock] at hk, below_then HB7.out HB7.out.size hb, by simp, HB7.out.size⟩
      have hb5 := below_alloc (Below.refl w4.heap.size w4) (.cells (wordsOf s).toArray 88)
      have HR5 := Aside0.mk (HR4.out.below hb5)
      have HB5 := Aside0.mk (below_step HB4.out hb5)
      have HZ5 := Aside0.mk (blk_below HZ4.out hb5)
      have HBX5 := Aside0.mk (blk_below HBX4.out hb5)
      have HSS0 : Aside0 (∀ q ∈ [s], IsSet q) := ⟨fun q hq => by simp only [List.mem_singleton] at hq; rw [hq]; exact HS4.out⟩
      have HN0 : Aside0 ([s].Nodup) := ⟨by simp⟩
      generalize hmbq : w4.heap.size + 1 = mb at hD0 ⊢
      generalize hW5q : w4.alloc (.cells (wordsOf s).toArray 88) = W5 at hD0 HR5 HB5 HZ5 HBX5
      clear hb5 HP7 HO7 HB7 HR4 HB4 HZ4 HBX4 HZ3 HBX3 HP6 HF6 HB6 hx0 hmm hchk hnr hW5q hmbq HR3 HB3 HZ1 HBX HB1 HZ HSF
      generalize w7.heap.size = M at hD0 ⊢
      go_loopg [9, 11] k (fun kq v9 v11 wr => ∃ (i : Nat) (row : List (List Nat)) (nx : List Int) (nxv : Value) (out : List Int) (outv : Value), v11 = .int .i64 (i : Int) ∧ Aside0 (detF k K N F fr kq i row nx out = some res) ∧ Aside0 (kq ≤ k) ∧ Aside0 (DetAt W5 mb M K row row v9 nx nxv out outv wr) ∧ Aside0 (∀ q ∈ row, IsSet q) ∧ Aside0 row.Nodup ∧ Aside0 (row.length ≤ 1024))
      case atStart => exact ⟨0, [s], [], _, [], _, rfl, HD0, ⟨Nat.le_refl _⟩, ⟨hD0⟩, HSS0, HN0, ⟨by simp⟩⟩
      case round =>
        clear hD0 HD0 HSS0 HN0
        obtain ⟨i, row, nx, nxv, out, outv, rfl, HF, HK1, HD, HSS, HND, HRL⟩ := hrel
        have hrl := HRL.out
        cases gk with
        | zero => exact absurd HF.out (by simp [detF])
        | succ k1 =>
          have H := HF.out
          clear HF
          simp only [detF] at H
          by_cases e1 : i < row.length
          · rw [if_pos e1] at H
            by_cases e2 : out.length < 1099511627776
            · rw [if_pos e2] at H
              obtain ⟨gr, cr, rfl, hrg, hsi⟩ := row_at HD.out.row i e1
              generalize hsiq : row.getD i [] = si at H hrg hsi
              cases hin : detIn k N fr si (List.range K.toNat) row nx with
              | none => rw [hin] at H; exact absurd H (by simp)
              | some ires =>
                rw [hin] at H
                have HIN := Aside0.mk hin
                have HNX := Aside0.mk H
                have HSI := Aside0.mk hsiq
                have HI1 := Aside0.mk e1
                have HSET := Aside0.mk hsi
                obtain ⟨Ao, co, rfl⟩ := Kd.R_slice HD.out.out
                clear hin H hsiq hsi
                have HOL := Aside0.mk e2
                go_wp2
                have HDD := Aside0.mk (HD.out.low (below_drew1 (Below.refl _ _)))
                have hrl2 : (row.length : Int) ≤ 1024 := by omega
                refine start_ (n := 12) (S := fun w' => w'.cell? ⟨M, 5, none⟩ = some (.slice Ao out.length co) ∧ w'.rangeAt gr (i * 16) (wordsOf si)) (ds := [9, 11]) #[false, false, false, false, false, false, false, false, false, false, false, false] (by kernel_rfl) rfl rfl ⟨(blk_cell (blk_drew HD.out.m) 5).trans rfl, hrg⟩ (fun hHeld => ?_)
                refine with_tabW DT12.tab12 DT12.bits12 (fun HT_ HW_ => ?_)
                generalize wr.drew = wd at HDD hHeld ⊢
                refine pure_ (i := 0) (N := (some 43)) (v := ?_) (a' := ?_) #[true, false, false, false, false, false, false, false, false, false, false, false] rfl rfl (any_of HT_.out (by kernel_rfl)) (fun _ _ _ h => h) (Or.inl ⟨by rfl, ?_⟩) ?_ ?_
                rotate_left
                · intro w'
                  go_simp
                  with_reducible rfl
                rotate_left
                · simp only [Act.put, List.setIfInBounds_toArray, List.set_cons_zero, List.set_cons_succ, i64_w, i32_w]
                  rfl
                refine pure_ (i := 2) (N := (some 45)) (v := ?_) (a' := ?_) #[true, false, true, false, false, false, false, false, false, false, false, false] rfl rfl (any_of HT_.out (by kernel_rfl)) (fun _ _ _ h => h) (Or.inl ⟨by rfl, ?_⟩) ?_ ?_
                rotate_left
                · intro w'
                  go_simp
                  with_reducible rfl
                rotate_left
                · simp only [Act.put, List.setIfInBounds_toArray, List.set_cons_zero, List.set_cons_succ, i64_w, i32_w]
                  rfl
                refine pure_ (i := 3) (N := (some 46)) (v := ?_) (a' := ?_) #[true, false, true, true, false, false, false, false, false, false, false, false] rfl rfl (any_of HT_.out (by kernel_rfl)) (fun _ _ _ h => h) (Or.inl ⟨by rfl, ?_⟩) ?_ ?_
                rotate_left
                · intro w'
                  go_simp
                  with_reducible rfl
                rotate_left
                · simp only [Act.put, List.setIfInBounds_toArray, List.set_cons_zero, List.set_cons_succ, i64_w, i32_w]
                  rfl
                refine pure_ (i := 4) (N := (some 47)) (v := ?_) (a' := ?_) #[true, false, true, true, true, false, false, false, false, false, false, false] rfl rfl (any_of HT_.out (by kernel_rfl)) (fun _ _ _ h => h) (Or.inl ⟨by rfl, ?_⟩) ?_ ?_
                rotate_left
                · intro w'
                  go_simp
                  with_reducible rfl
                rotate_left
                · simp only [Act.put, List.setIfInBounds_toArray, List.set_cons_zero, List.set_cons_succ, i64_w, i32_w]
                  rfl
                refine pure_ (i := 5) (N := (some 48)) (v := ?_) (a' := ?_) #[true, false, true, true, true, true, false, false, false, false, false, false] rfl rfl (any_of HT_.out (by kernel_rfl)) (fun _ _ _ h => h) (Or.inl ⟨by rfl, ?_⟩) ?_ ?_
                rotate_left
                · intro w'
                  go_simp
                  with_reducible rfl
                rotate_left
                · simp only [Act.put, List.setIfInBounds_toArray, List.set_cons_zero, List.set_cons_succ, i64_w, i32_w]
                  rfl
                refine take_ (i := 1) (N := (some 44)) (v := ?_) (a' := ?_) #[true, true, true, true, true, true, false, false, false, false, false, false] rfl rfl (take_ofW HT_.out HW_.out (by kernel_rfl)) (fun _ _ _ h => h) (Or.inl ⟨by rfl, ?_⟩) hHeld ?_ ?_
                rotate_left
                · rintro w' ⟨s0, s1⟩
                  go_simp
                  with_reducible rfl
                rotate_left
                · simp only [Act.put, List.setIfInBounds_toArray, List.set_cons_zero, List.set_cons_succ, i64_w, i32_w]
                  rfl
                refine take_ (i := 6) (N := (some 49)) (v := (.agg (wordsOf si).toArray)) (a' := ?_) #[true, true, true, true, true, true, true, false, false, false, false, false] rfl rfl (take_ofW HT_.out HW_.out (by kernel_rfl)) (fun _ _ _ h => h) (yieldsIf_load_mid (by rfl) 88 _ rfl gr (i * 16) rfl (wordsOf si) _ (fun w' h => h.2) Try.underlying88 rfl (by rw [i88]; simp [wordsOf, HSET.out.1])) hHeld ?_ ?_
                rotate_left
                · simp only [Act.put, List.setIfInBounds_toArray, List.set_cons_zero, List.set_cons_succ, i64_w, i32_w]
                  rfl
                refine one_ (i := 7) (N := (some 50)) #[true, true, true, true, true, true, true, true, false, false, false, false] rfl rfl (one_of HT_.out (by kernel_rfl)) (by decide) (fun K_ hK => ?_)
                have hrgd := hHeld.2
                refine goes_ Try.func60 (by kernel_rfl) rfl #[.pointer (some ⟨rb, 0, none⟩), .agg (wordsOf si).toArray] (by rfl) rfl rfl (by simp [Act.eval]) ?_
                refine (final_walk rb K N A3 c3 F _ _ fr si wd _ (by have h1 := HOK.out.fl; have h2 := HOK.out.n; omega) (HR5.out.below HDD.out.below) (Kd.C_below (Kd.C_below H3.out HB5.out) HDD.out.below) HSET.out).mono ?_
                rintro e w8 ⟨rfl, hb8⟩
                refine ⟨_, rfl, ?_⟩
                have HDE := Aside0.mk (HDD.out.low hb8)
                have hrg8 : w8.rangeAt gr (i * 16) (wordsOf si) := fun j v hv => (hb8.cell (p := ⟨gr, i * 16 + j, none⟩) (World.block_lt_of_cell? wd _ (hrgd j v hv))).trans (hrgd j v hv)
                refine hK.out _ _ ⟨(blk_cell HDE.out.m 5).trans rfl, hrg8⟩ (fun hHeld => ?_); clear hK K_ hrg hb8
                refine norm_ (a' := ?_) ?_ ?_
                rotate_left
                · show Act.put _ (some 50) _ = _
                  simp only [Act.put, List.setIfInBounds_toArray, List.set_cons_zero, List.set_cons_succ, i64_w, i32_w]
                  rfl
                refine one_ (i := 8) (N := (some 51)) #[true, true, true, true, true, true, true, true, true, false, false, false] rfl rfl (one_of HT_.out (by kernel_rfl)) (by decide) (fun K_ hK => ?_)
                refine value_ (w1 := ?_) (v := ?_) (by rfl) rfl ?_ ?_
                rotate_left 2
                · go_simp
                  constructor
                  · rfl
                  · rfl
                refine hK.out _ _ ⟨(blk_cell (blk_alloc HDE.out.m _) 5).trans rfl, fun j v hv => (World.cell?_alloc_lt _ _ _ (World.block_lt_of_cell? _ _ (hrg8 j v hv))).trans (hrg8 j v hv)⟩ (fun hHeld => ?_); clear hK K_
                refine norm_ (a' := ?_) ?_ ?_
                rotate_left
                · show Act.put _ (some 51) _ = _
                  simp only [Act.put, List.setIfInBounds_toArray, List.set_cons_zero, List.set_cons_succ, i64_w, i32_w]
                  rfl
                refine last_ (i := 9) (N := (some 52)) #[true, true, true, true, true, true, true, true, true, true, false, false] rfl rfl (one_of HT_.out (by kernel_rfl)) (by decide) (fun K_ hK => ?_)
                refine Kd.R_append_step (Kd.int .i64) (w0 := W5) W5.heap.size (by rfl) (.tmp 44) (.tmp 51) 22 3 (.int .i64 0) 8 rfl Try.underlying22 info3 rfl (by decide) (by omega) (.slice Ao out.length co) out (fiRow si F 0) [.int .i64 (fiRow si F 0)] (fun _ => True) (fun _ => False) rfl rfl rfl (fun _ hk => hk.elim) (fun _ _ => trivial) HDE.out.out HDE.out.below HDE.out.below.size (by have := HOL.out; omega) ?_
                intro v1 w1 ho hb hg hat
                obtain ⟨A9, c9, rfl⟩ := Kd.R_slice ho
                have hM1 := blk_grown HDE.out.m hg (Kd.R_ne HDE.out.out HDE.out.m (by decide))
                have hfz := blk_frozen hM1 5
                have hcl : w1.cell? ⟨M, 5, none⟩ = some (.slice Ao out.length co) := (blk_cell hM1 5).trans rfl
                refine hK.out _ _ ?_; clear hK K_
                refine norm_ (a' := ?_) ?_ ?_
                rotate_left
                · show Act.put _ (some 52) _ = _
                  simp only [Act.put, List.setIfInBounds_toArray, List.set_cons_zero, List.set_cons_succ, i64_w, i32_w]
                  rfl
                refine pure_ (i := 10) (N := (some 53)) (v := ?_) (a' := ?_) #[true, true, true, true, true, true, true, true, true, true, true, false] rfl rfl (any_of HT_.out (by kernel_rfl)) (fun _ _ _ h => h) (Or.inl ⟨by rfl, ?_⟩) ?_ ?_
                rotate_left
                · intro w'
                  go_simp
                  with_reducible rfl
                rotate_left
                · simp only [Act.put, List.setIfInBounds_toArray, List.set_cons_zero, List.set_cons_succ, i64_w, i32_w]
                  rfl
                refine last_ (i := 11) (N := none) #[true, true, true, true, true, true, true, true, true, true, true, true] rfl rfl (one_of HT_.out (by kernel_rfl)) (by decide) (fun K_ hK => ?_)
                refine skip_ (w1 := ?_) (by rfl) rfl ?_ ?_
                rotate_left
                · go_simp
                  rfl
                refine hK.out _ _ ?_; clear hK K_
                refine done_ (done_of HT_.out (by kernel_rfl)) ?_
                have HD2 := DetAt.outAp HDE.out ho hb hg hat
                simp only [List.length_append, List.length_singleton] at HD2
                clear ho hb hg hat hM1 hfz hcl
                generalize w1.setCell ⟨M, 5, none⟩ (.slice A9 (out.length + 1) c9) = w2 at HD2 ⊢
                generalize Value.slice A9 (out.length + 1) c9 = ov2 at HD2
                generalize hout2 : out ++ [fiRow si F 0] = out2 at HD2 HNX
                have hx0 : w2.cell? ⟨w.heap.size, 0, none⟩ = some (.int .i64 K) := (blk_cell (blk_below HBX5.out HD2.below) 0).trans rfl
                have HD3 := Aside0.mk HD2
                clear HD2 HDE HDD HD hHeld hrgd hrg8 hout2
                go_wp2
                clear hx0
                have hKb : K ≤ 64 := HOK.out.k.2
                have hKa : 1 ≤ K := HOK.out.k.1
                go_loopw [56, 9] (fun v56 v9 wr2 => ∃ (x : Nat) (row1 : List (List Nat)) (nx1 : List Int) (nxv1 : Value), v56 = .int .i64 (x : Int) ∧ Aside0 (x ≤ K.toNat) ∧ Aside0 (detIn k N fr si ((List.range K.toNat).drop x) row1 nx1 = some ires) ∧ Aside0 (DetAt W5 mb M K row1 row1 v9 nx1 nxv1 out2 ov2 wr2) ∧ Aside0 (∀ q ∈ row1, IsSet q) ∧ Aside0 row1.Nodup ∧ Aside0 (row1.length ≤ 1024) ∧ Aside0 (i < row1.length ∧ row1.getD i [] = si)) (fun v56 _ _ => K.toNat - (intOf v56).toNat)
                case atStart => exact ⟨0, row, nx, nxv, rfl, ⟨by omega⟩, HIN, HD3, HSS, HND, HRL, ⟨HI1.out, HSI.out⟩⟩
                case round =>
                  clear HIN HD3 HSS HND HRL HI1 HSI hrl hrl2
                  obtain ⟨x, row1, nx1, nxv1, rfl, HX, HIN, HD, HSS, HND, HRL, HRI⟩ := hrel
                  obtain ⟨gr2, cr2, rfl, hrg2, _⟩ := row_at HD.out.row i HRI.out.1
                  rw [HRI.out.2] at hrg2
                  obtain ⟨An, cn, rfl⟩ := Kd.R_slice HD.out.nx
                  have hrl := HRL.out
                  have hri := HRI.out.1
                  by_cases hlt : x < K.toNat
                  · have H := HIN.out
                    have hd : (List.range K.toNat).drop x = x :: (List.range K.toNat).drop (x + 1) := by
                      rw [List.drop_eq_getElem_cons (by simpa using hlt)]
                      simp
                    rw [hd] at H
                    clear HIN hd
                    simp only [detIn] at H
                    have hlt' : (x : Int) < K := by omega
                    have HLT := Aside0.mk hlt
                    cases hstp : stepF k N fr si (x : Int) with
                    | none => rw [hstp] at H; exact absurd H (by simp)
                    | some t =>
                      rw [hstp] at H
                      simp only [] at H
                      have hst := step_walk k rb K N _ _ _ fr si t (x : Int) wr _ HOK.out.n HFR.out HFL.out (HR5.out.below HD.out.below) HSET.out hstp
                      clear hstp
                      by_cases e3 : nx1.length < 1099511627776
                      · rw [if_pos e3] at H
                        cases hfi : row1.findIdx? (· == t) with
                        | some j =>
                          rw [hfi] at H
                          simp only [] at H
                          have HH2 := Aside0.mk H
                          clear H
                          go_wp2_with (first | ((with_reducible refine gate_dst (N := 63) rfl ?_); refine wpList_load_mid rfl 88 (.tmp 62) rfl gr2 (i * 16) rfl (wordsOf si) _ hrg2 Try.underlying88 rfl ?_ ?_; (focus (rw [i88]; simp [wordsOf, HSET.out.1]))) | (go_at_call 59; refine hst.mono ?_; rintro e w8 ⟨rfl, ht8, hb8⟩; have HT8 := Aside0.mk ht8; have HD9 := Aside0.mk ((HD.out.low hb8).low (below_alloc (Below.refl _ _) (.cells (wordsOf t).toArray 88))); have hlk := look_some HSS.out HND.out HT8.out hfi HD9.out.place; have hm4 : (w8.alloc (.cells (wordsOf t).toArray 88)).cell? ⟨M, 4, none⟩ = some (.slice An nx1.length cn) := (blk_cell HD9.out.m 4).trans rfl; clear ht8 hb8) | ((with_reducible refine gate_store (t := 88) (p := 13) rfl ?_); refine wpList_store_rowTo rfl 88 (.tmp 13) (.tmp 65) rfl rfl w8.heap.size (wordsOf t).toArray rfl rfl 88 _ (blk_new w8 _) ?_ ?_ (set_one t) ?_; (focus (rw [i88, set_len HT8.out])); (focus (rw [set_len HT8.out]; simp)); rw [World.setRow_alloc_new]; have hB9 := blk_new w8 (.cells (wordsOf t).toArray 88); generalize w8.alloc (.cells (wordsOf t).toArray 88) = w9 at HD9 hlk hm4 hB9 ⊢) | ((with_reducible refine gate_dst (N := 68) rfl ?_); refine wpList_load_row rfl 88 (.tmp 13) rfl w8.heap.size rfl 88 (wordsOf t).toArray (0, 0) _ hB9 Try.underlying88 rfl ?_ ?_; (focus (rw [i88, set_len HT8.out]))) | ((with_reducible refine gate_builtin (b := .append) (xs := #[.tmp 88, .tmp 90]) rfl ?_); at_builtin; (refine Kd.R_append (Kd.int .i64) (w0 := W5) W5.heap.size rfl (.tmp 88) (.tmp 90) 22 3 (.int .i64 0) 8 rfl Try.underlying22 info3 rfl (by decide) (by omega) (.slice An nx1.length cn) nx1 (j : Int) [.int .i64 (j : Int)] (fun _ => True) (fun _ => False) rfl rfl ?aP (fun _ hk => hk.elim) ?aF ?aO ?aB ?aS ?aL ?_; (case aP => exact rfl); (case aB => exact HD9.out.below); (case aF => exact (fun _ _ => trivial)); (case aO => exact HD9.out.nx); (case aS => exact HD9.out.below.size); (case aL => omega); intro v12 w12 ho hb hg hat; obtain ⟨A9, c9, rfl⟩ := Kd.R_slice ho; have hM1 := blk_grown HD9.out.m hg (Kd.R_ne HD9.out.nx HD9.out.m (by decide)); have hfz := blk_frozen hM1 4; have hcl : w12.cell? ⟨M, 4, none⟩ = some (.slice An nx1.length cn) := (blk_cell hM1 4).trans rfl; have HD12 := Aside0.mk (DetAt.nextAp HD9.out ho hb hg hat); clear ho hb hg hat hM1)))
                          clear hm4 hlk hcl hfz
                          go_roundw
                          case rel => exact ⟨x + 1, row1, nx1 ++ [(j : Int)], _, by go_num, ⟨by have := HLT.out; omega⟩, HH2, by simpa using HD12, HSS, HND, HRL, HRI⟩
                          case measure => have := HLT.out; simp [intOf]; omega
                        | none =>
                          rw [hfi] at H
                          simp only [] at H
                          by_cases e4 : row1.length = 1024
                          · rw [if_pos e4] at H
                            simp only [Option.some.injEq] at H
                            subst H
                            have hr0 := HNX.out
                            simp only [Option.some.injEq] at hr0
                            subst hr0
                            have hr := HRES.out
                            simp only [Option.some.injEq, Prod.mk.injEq] at hr
                            obtain ⟨rfl, rfl, rfl, rfl, rfl, rfl, rfl⟩ := hr
                            have e4b : (row1.length == 1024) = true := by simpa using e4
                            have e4c : ((row1.length : Int) == 1024) = true := by simp [e4]
                            go_wp2_with (first | ((with_reducible refine gate_dst (N := 63) rfl ?_); refine wpList_load_mid rfl 88 (.tmp 62) rfl gr2 (i * 16) rfl (wordsOf si) _ hrg2 Try.underlying88 rfl ?_ ?_; (focus (rw [i88]; simp [wordsOf, HSET.out.1]))) | (go_at_call 59; refine hst.mono ?_; rintro e w8 ⟨rfl, ht8, hb8⟩; have HT8 := Aside0.mk ht8; have HD9 := Aside0.mk ((HD.out.low hb8).low (below_alloc (Below.refl _ _) (.cells (wordsOf t).toArray 88))); have hlk := look_none HSS.out HT8.out hfi HD9.out.place; have hm4 : (w8.alloc (.cells (wordsOf t).toArray 88)).cell? ⟨M, 4, none⟩ = some (.slice An nx1.length cn) := (blk_cell HD9.out.m 4).trans rfl; clear ht8 hb8) | ((with_reducible refine gate_store (t := 88) (p := 13) rfl ?_); refine wpList_store_rowTo rfl 88 (.tmp 13) (.tmp 65) rfl rfl w8.heap.size (wordsOf t).toArray rfl rfl 88 _ (blk_new w8 _) ?_ ?_ (set_one t) ?_; (focus (rw [i88, set_len HT8.out])); (focus (rw [set_len HT8.out]; simp)); rw [World.setRow_alloc_new]; have hB9 := blk_new w8 (.cells (wordsOf t).toArray 88); generalize w8.alloc (.cells (wordsOf t).toArray 88) = w9 at HD9 hlk hm4 hB9 ⊢) | ((with_reducible refine gate_dst (N := 68) rfl ?_); refine wpList_load_row rfl 88 (.tmp 13) rfl w8.heap.size rfl 88 (wordsOf t).toArray (0, 0) _ hB9 Try.underlying88 rfl ?_ ?_; (focus (rw [i88, set_len HT8.out]))) | ((with_reducible refine gate_store (t := 43) (p := 2) rfl ?_); (refine wpList_store_rowTo rfl 43 (.tmp 2) (.tmp 77) rfl rfl (w.heap.size + 1) zero43 rfl rfl 43 _ (blk_below HZ5.out HD9.out.below) ?_ rfl zero43_one ?_; (focus (rw [i43]; rfl)))))
                            try simp only [Exit.inBlock, Exit.then]
                            refine bodyPost_ret (results_ct rfl _ _ (w.heap.size + 1) 43 zero43 (0, 0) _ rfl (setRow_heap _ (w.heap.size + 1) _ zero43 43 (0, 0) (blk_below HZ5.out HD9.out.below)) Try.underlying43 rfl (by rw [i43]; rfl)) rfl ?_
                            exact ⟨_, _, rfl, Kd.R_nil _ _ _ _ _, Kd.R_nil _ _ _ _ _, below_setRow (below_then HB5.out HB5.out.size HD9.out.below) (by omega) _⟩
                          · rw [if_neg e4] at H
                            have HH2 := Aside0.mk H
                            clear H
                            have e4b : (row1.length == 1024) = false := by simpa using e4
                            have e4c : ((row1.length : Int) == 1024) = false := by
                              have : ¬ ((row1.length : Int) = 1024) := by omega
                              simpa using this
                            go_wp2_with (first | ((with_reducible refine gate_dst (N := 63) rfl ?_); refine wpList_load_mid rfl 88 (.tmp 62) rfl gr2 (i * 16) rfl (wordsOf si) _ hrg2 Try.underlying88 rfl ?_ ?_; (focus (rw [i88]; simp [wordsOf, HSET.out.1]))) | (go_at_call 59; refine hst.mono ?_; rintro e w8 ⟨rfl, ht8, hb8⟩; have HT8 := Aside0.mk ht8; have HD9 := Aside0.mk ((HD.out.low hb8).low (below_alloc (Below.refl _ _) (.cells (wordsOf t).toArray 88))); have hlk := look_none HSS.out HT8.out hfi HD9.out.place; have hm4 : (w8.alloc (.cells (wordsOf t).toArray 88)).cell? ⟨M, 4, none⟩ = some (.slice An nx1.length cn) := (blk_cell HD9.out.m 4).trans rfl; clear ht8 hb8) | ((with_reducible refine gate_store (t := 88) (p := 13) rfl ?_); refine wpList_store_rowTo rfl 88 (.tmp 13) (.tmp 65) rfl rfl w8.heap.size (wordsOf t).toArray rfl rfl 88 _ (blk_new w8 _) ?_ ?_ (set_one t) ?_; (focus (rw [i88, set_len HT8.out])); (focus (rw [set_len HT8.out]; simp)); rw [World.setRow_alloc_new]; have hB9 := blk_new w8 (.cells (wordsOf t).toArray 88); generalize w8.alloc (.cells (wordsOf t).toArray 88) = w9 at HD9 hlk hm4 hB9 ⊢) | ((with_reducible refine gate_dst (N := 68) rfl ?_); refine wpList_load_row rfl 88 (.tmp 13) rfl w8.heap.size rfl 88 (wordsOf t).toArray (0, 0) _ hB9 Try.underlying88 rfl ?_ ?_; (focus (rw [i88, set_len HT8.out]))) | ((with_reducible refine gate_dst (N := 81) rfl ?_); refine wpList_load_row rfl 88 (.tmp 13) rfl w8.heap.size rfl 88 (wordsOf t).toArray (0, 0) _ hB9 Try.underlying88 rfl ?_ ?_; (focus (rw [i88, set_len HT8.out]))) | ((with_reducible refine gate_update rfl ?_); (refine wpList_place_put (row := row1) (t := t) (b := mb) rfl (.tmp 80) (.tmp 81) (.tmp 82) (.inr rfl) rfl rfl rfl rfl HSS.out HT8.out (not_mem_of_none hfi) HD9.out.place ?_; intro w10 hp10 hg10; have HD10 := Aside0.mk (HD9.out.placed hp10 hg10); have HT10 := Aside0.mk (blk_grown hB9 hg10 (fun he => place_blk_ne HD9.out.place hB9 (by injection he with he; exact he.symm))); clear hp10 hg10 hm4 hlk)) | ((with_reducible refine gate_dst (N := 84) rfl ?_); refine wpList_load_row rfl 88 (.tmp 13) rfl w8.heap.size rfl 88 (wordsOf t).toArray (0, 0) _ HT10.out Try.underlying88 rfl ?_ ?_; (focus (rw [i88, set_len HT8.out]))) | ((with_reducible refine gate_dst (N := 85) rfl ?_); (refine Kd.event_run rfl (exec_one_set rfl rfl HT8.out _) ?_)) | ((with_reducible refine gate_builtin (b := .append) (xs := #[.tmp 83, .tmp 85]) rfl ?_); at_builtin; (refine Kd.R_append kset (w0 := W5) W5.heap.size rfl (.tmp 83) (.tmp 85) 93 88 (.agg (Array.replicate 16 (.int .u64 0))) 128 rfl Try.underlying93 info88b rfl (by decide) (by omega) (.slice (some ⟨gr2, 0, none⟩) row1.length cr2) row1 t (wordsOf t) (fun _ => True) (fun _ => False) rfl rfl ?aP (fun _ hk => hk.elim) ?aF ?aO ?aB ?aS ?aL ?_; (case aP => exact ⟨HT8.out, rfl⟩); (case aB => exact HD10.out.below); (case aF => exact (fun _ _ => trivial)); (case aO => exact HD10.out.row); (case aS => exact HD10.out.below.size); (case aL => omega); intro v11 w11 ho hb hg hat; have HD11 := Aside0.mk (HD10.out.rowAp ho hb hg); have hm4 : w11.cell? ⟨M, 4, none⟩ = some (.slice An nx1.length cn) := (blk_cell HD11.out.m 4).trans rfl; clear ho hb hg hat)) | ((with_reducible refine gate_builtin (b := .append) (xs := #[.tmp 88, .tmp 90]) rfl ?_); at_builtin; (refine Kd.R_append (Kd.int .i64) (w0 := W5) W5.heap.size rfl (.tmp 88) (.tmp 90) 22 3 (.int .i64 0) 8 rfl Try.underlying22 info3 rfl (by decide) (by omega) (.slice An nx1.length cn) nx1 (row1.length : Int) [.int .i64 (row1.length : Int)] (fun _ => True) (fun _ => False) rfl rfl ?aP (fun _ hk => hk.elim) ?aF ?aO ?aB ?aS ?aL ?_; (case aP => exact rfl); (case aB => exact HD11.out.below); (case aF => exact (fun _ _ => trivial)); (case aO => exact HD11.out.nx); (case aS => exact HD11.out.below.size); (case aL => omega); intro v12 w12 ho hb hg hat; obtain ⟨A9, c9, rfl⟩ := Kd.R_slice ho; have hM1 := blk_grown HD11.out.m hg (Kd.R_ne HD11.out.nx HD11.out.m (by decide)); have hfz := blk_frozen hM1 4; have hcl : w12.cell? ⟨M, 4, none⟩ = some (.slice An nx1.length cn) := (blk_cell hM1 4).trans rfl; have HD12 := Aside0.mk (DetAt.nextAp HD11.out ho hb hg hat); clear ho hb hg hat hM1)))
                            clear hm4 hcl hfz
                            go_roundw
                            case rel =>
                              refine ⟨x + 1, row1 ++ [t], nx1 ++ [(row1.length : Int)], _, by go_num, ⟨by have := HLT.out; omega⟩, HH2, by simpa using HD12, ⟨?_⟩, ⟨?_⟩, ⟨?_⟩, ⟨?_, ?_⟩⟩
                              · intro q hq
                                rcases List.mem_append.1 hq with hq | hq
                                · exact HSS.out q hq
                                · simp only [List.mem_singleton] at hq; rw [hq]; exact HT8.out
                              · exact List.nodup_append.2 ⟨HND.out, by simp, fun a ha b hb he => by simp only [List.mem_singleton] at hb; exact not_mem_of_none hfi (by rw [← hb, ← he]; exact ha)⟩
                              · have h1 := HRL.out
                                have h2 : ¬ row1.length = 1024 := by intro h; rw [h] at e4b; cases e4b
                                simp only [List.length_append, List.length_singleton]
                                omega
                              · have := HRI.out.1
                                simp only [List.length_append, List.length_singleton]
                                omega
                              · rw [List.getD_eq_getElem?_getD, List.getElem?_append_left HRI.out.1, ← List.getD_eq_getElem?_getD]
                                exact HRI.out.2
                            case measure => have := HLT.out; simp [intOf]; omega
                      · rw [if_neg e3] at H; exact absurd H (by simp)
                  · have H := HIN.out
                    rw [List.drop_of_length_le (by simp; omega)] at H
                    simp only [detIn, Option.some.injEq] at H
                    subst H
                    have hlt' : ¬ ((x : Int) < K) := by omega
                    have hr := HNX.out
                    simp only [] at hr
                    go_wp2
                    go_roundg k1
                    case rel => exact ⟨i + 1, row1, nx1, _, out2, _, by go_num, ⟨hr⟩, ⟨by have := HK1.out; omega⟩, HD, HSS, HND, HRL⟩
                    case measure => have := HK1.out; omega
            · rw [if_neg e2] at H; exact absurd H (by simp)
          · rw [if_neg e1] at H
            have hlt' : ¬ ((i : Int) < (row.length : Int)) := by omega
            simp only [Option.some.injEq] at H
            subst H
            have hr := HRES.out
            simp only [Option.some.injEq, Prod.mk.injEq] at hr
            obtain ⟨rfl, rfl, rfl, rfl, rfl, rfl, rfl⟩ := hr
            obtain ⟨Ar, cr, rfl⟩ := Kd.R_slice HD.out.row
            obtain ⟨An, cn, rfl⟩ := Kd.R_slice HD.out.nx
            obtain ⟨Ao, co, rfl⟩ := Kd.R_slice HD.out.out
            have hfz := blk_frozen HD.out.m 3
            have hcl : wr.cell? ⟨M, 3, none⟩ = some (.int .i64 0) := (blk_cell HD.out.m 3).trans rfl
            have hM2 := blk_put HD.out.m 3 (.int .i64 (row.length : Int)) (cs' := #[.int .i64 1, .int .i64 K, .int .i64 2, .int .i64 (row.length : Int), .slice An nx.length cn, .slice Ao out.length co]) rfl
            have hZr := blk_below HZ5.out HD.out.below
            have hMZ : M ≠ w.heap.size + 1 := by
              have h1 := HD.out.hM
              have h2 := blk_lt HZ5.out
              omega
            have hZ2 := blk_far hZr (p := ⟨M, 3, none⟩) (fun e => hMZ e.symm) (.int .i64 (row.length : Int))
            have hone : (#[.int .i64 1, .int .i64 K, .int .i64 2, .int .i64 (row.length : Int), .slice An nx.length cn, .slice Ao out.length co] : Array Value).all (·.oneCell') = true := by simp [Value.oneCell']
            go_wp2_with (first | ((with_reducible refine gate_dst (N := 97) rfl ?_); (refine wpList_load_row rfl 43 (.tmp 10) rfl M rfl 43 #[.int .i64 1, .int .i64 K, .int .i64 2, .int .i64 (row.length : Int), .slice An nx.length cn, .slice Ao out.length co] (0, 0) _ hM2 Try.underlying43 rfl ?_ ?_; (focus (rw [i43]; rfl)))) | ((with_reducible refine gate_store (t := 43) (p := 2) rfl ?_); (refine wpList_store_rowTo rfl 43 (.tmp 2) (.tmp 97) rfl rfl (w.heap.size + 1) #[.int .i64 1, .int .i64 K, .int .i64 2, .int .i64 (row.length : Int), .slice An nx.length cn, .slice Ao out.length co] rfl rfl 43 _ hZ2 ?_ rfl hone ?_; (focus (rw [i43]; rfl)))))
            have hblk := setRow_heap _ (w.heap.size + 1) _ #[.int .i64 1, .int .i64 K, .int .i64 2, .int .i64 (row.length : Int), .slice An nx.length cn, .slice Ao out.length co] 43 (0, 0) hZ2
            try simp only [Exit.inBlock, Exit.then]
            refine bodyPost_ret (results_ct rfl _ _ (w.heap.size + 1) 43 #[.int .i64 1, .int .i64 K, .int .i64 2, .int .i64 (row.length : Int), .slice An nx.length cn, .slice Ao out.length co] (0, 0) _ rfl hblk Try.underlying43 rfl (by rw [i43]; rfl)) rfl ?_
            have hb5 : w.heap.size ≤ W5.heap.size := HB5.out.size
            have keep : ∀ (v : Value) (xs : List Int), Kd.R (Kd.int .i64) 3 wr W5.heap.size (fun _ => True) v xs → Kd.R (Kd.int .i64) 3 ((wr.setCell ⟨M, 3, none⟩ (.int .i64 (row.length : Int))).setRow (w.heap.size + 1) #[.int .i64 1, .int .i64 K, .int .i64 2, .int .i64 (row.length : Int), .slice An nx.length cn, .slice Ao out.length co]) w.heap.size (fun _ => True) v xs := by
              intro v xs h
              have h1 := Kd.R_far (Kd.R_tight rfl h) (p := ⟨M, 3, none⟩) (fun k hk he => Kd.R_ne h HD.out.m (by decide) (by rw [← hk]; show some M = some k; rw [he])) (.int .i64 (row.length : Int))
              have h2 := Kd.R_grown h1 (grown_setRow _ (w.heap.size + 1) #[.int .i64 1, .int .i64 K, .int .i64 2, .int .i64 (row.length : Int), .slice An nx.length cn, .slice Ao out.length co]) (fun k hk he => Kd.R_ne h hZr (by decide) (by rw [← hk]; exact he.symm))
              exact Kd.R_mono (Kd.R_lower h2 hb5) (fun _ _ => trivial)
            refine ⟨_, _, rfl, Kd.R_reok rfl (keep _ _ HD.out.nx) (fun k hk he => HD.out.apart k hk he.symm), Kd.R_reok rfl (keep _ _ HD.out.out) (fun k hk he => HD.out.apart k he.symm hk), ?_⟩
            exact below_setRow (below_then HB5.out hb5 (below_set HD.out.below HD.out.hM)) (by omega) _
end Go.Proofs.Ytkaefgmgcghhiaa.X
end

section
namespace Go.Proofs.Ytkaefgmgcghhiaa.X
open Go.RowKit Go.Proofs.YtkaefgmgcghhiaaW.PrintWords Go.Proofs.YtkaefgmgcghhiaaW.PrintLast Go.Proofs.YtkaefgmgcghhiaaW.PrintMore
def numsA (xs : List Int) : Array Value := (xs.map (Value.int .i64)).toArray
def cnX (K : Int) (nxl now : List Int) (s : Nat) : List Nat → Int → Option Int
  | [], sum => some sum
  | x :: r, sum => if (0 ≤ wrap64 (wrap64 ((s : Int) * K) + (x : Int)) ∧ wrap64 (wrap64 ((s : Int) * K) + (x : Int)) < (nxl.length : Int)) ∧ (0 ≤ rd nxl (wrap64 (wrap64 ((s : Int) * K) + (x : Int))) ∧ rd nxl (wrap64 (wrap64 ((s : Int) * K) + (x : Int))) < (now.length : Int))
    then cnX K nxl now s r (min (wrap64 (sum + rd now (rd nxl (wrap64 (wrap64 ((s : Int) * K) + (x : Int)))))) 1099511627777) else none
def cnS (K : Int) (nxl now : List Int) : List Nat → List Int → Option (List Int)
  | [], nx => some nx
  | s :: r, nx => match cnX K nxl now s (List.range K.toNat) 0 with
    | none => none
    | some sum => cnS K nxl now r (nx.set s sum)
def cnN (K N : Int) (nxl : List Int) : Nat → List Int → List Int → Option (List Int)
  | 0, now, _ => some now
  | n + 1, now, nx => match cnS K nxl now (List.range N.toNat) nx with
    | none => none
    | some nx1 => cnN K N nxl n nx1 nx1
def cnG (k : Nat) (kd K O N : Int) (nxl out : List Int) (n : Int) : Option (Int × Int) :=
  match nfa_dfa.f k kd K O N nxl out with
  | none => none
  | some e => if e ≠ 0 then some (0, e) else if n < 0 then some (0, 1) else if n > 4096 then some (0, 1) else
    if (1 ≤ N ∧ N ≤ 1024) ∧ (1 ≤ K ∧ K ≤ 64) ∧ (out.length : Int) = N then (match cnN K N nxl n.toNat out (List.replicate N.toNat 0) with
      | none => none
      | some now => if rd now 0 > 1099511627776 then some (0, 11) else some (rd now 0, 0)) else none
theorem nums_cell {w : World} {g : Nat} {xs : List Int} (h : w.heap[g]? = some (.cells (numsA xs) 3 (0, 0))) (j : Nat) (hj : j < xs.length) : w.cell? ⟨g, j, none⟩ = some (.int .i64 (rd xs j)) := by
  rw [blk_cell h]
  simp [numsA, rd, List.getD_eq_getElem?_getD, List.getElem?_eq_getElem hj]
theorem nums_set {w : World} {g : Nat} {xs : List Int} (h : w.heap[g]? = some (.cells (numsA xs) 3 (0, 0))) (j : Nat) (v : Int) : (w.setCell ⟨g, j, none⟩ (.int .i64 v)).heap[g]? = some (.cells (numsA (xs.set j v)) 3 (0, 0)) := by
  refine blk_put h j _ ?_
  simp [numsA, List.map_set]
theorem copy_row {d s : List Int} (h : s.length = d.length) : ((numsA d).toList.take 0 ++ (s.map (Value.int .i64) ++ (numsA d).toList.drop (0 + (s.map (Value.int .i64)).length))).toArray = numsA s := by
  simp [numsA, h]
theorem made_nums (n : Nat) : madeCells #[Value.int .i64 0] n = numsA (List.replicate n 0) := by
  apply Array.ext'
  simp only [madeCells, numsA]
  apply List.ext_getElem
  · simp
  · intro i h1 h2
    simp [Nat.mod_one]
theorem fresh_make {ops : Array Oper} {rest : List Oper} {o : Oper} {a : Act} {Q : Exit → Act → World → Prop} {W : World} (hgd : o.guard = none) {x : Operand} (ho : o.op = .makeSlice 22 x x) {N : Int} (hx : a.eval x = .int .i64 N) (h0 : 0 ≤ N) (h1 : N ≤ 1024)
    (h : ∀ w1, w1.heap[W.heap.size]? = some (.cells (numsA (List.replicate N.toNat 0)) 3 (0, 0)) → Below W.heap.size W w1 → wpList Try.prog ops Q rest (a.put o.dst (.slice (some ⟨W.heap.size, 0, none⟩) N.toNat N.toNat)) w1) : wpList Try.prog ops Q (o :: rest) a W := by
  have hmk := print_make_int 22 3 (.int .i64 0) 8 Try.underlying22 info3 rfl (by decide) N h0 (by omega) W
  refine Kd.event_run hgd (v := .slice (some ⟨W.heap.size, 0, none⟩) N.toNat N.toNat) (w1 := W.alloc (.cells (madeCells #[.int .i64 0] N.toNat) 3)) ?_ (h _ ?_ (below_alloc (Below.refl _ _) _))
  · unfold execOp
    simp [ho, hx, hmk, Result.andThen]
  · rw [← made_nums]
    exact blk_new W _
/-- copy(d, s) of two whole rows of one length. -/
theorem copy_whole {ops : Array Oper} {rest : List Oper} {o : Oper} {a : Act} {Q : Exit → Act → World → Prop} {W : World} (hgd : o.guard = none) (x y : Operand) (ho : o.op = .call { callee := .builtin .copy, args := #[x, y], argTypes := #[22, 22] })
    {g n m cd cs : Nat} {ad : Addr} {d s : List Int} (hx : a.eval x = .slice (some ⟨g, 0, none⟩) n cd) (hy : a.eval y = .slice (some ad) m cs) (hm : m = n) (hd : d.length = n) (hs : s.length = n)
    (hg : W.heap[g]? = some (.cells (numsA d) 3 (0, 0))) (hsrc : ∀ j v, (s.map (Value.int .i64))[j]? = some v → W.cell? (ad.add j) = some v)
    (h : ∀ w1, w1.heap[g]? = some (.cells (numsA s) 3 (0, 0)) → W.grownBy w1 (some g) → wpList Try.prog ops Q rest (a.put o.dst (goInt n)) w1) : wpList Try.prog ops Q (o :: rest) a W := by
  subst hm
  refine wpList_copy_own hgd x y 22 22 ho 3 Try.underlying22 (by kernel_rfl) g 0 m cd ad m cs hx hy (numsA d) 3 hg (s.map (Value.int .i64)) (by simp [hs]) hsrc (by simp [numsA, hs, hd]) (fun v hv => by
    obtain ⟨m, _, rfl⟩ := List.mem_map.1 hv
    rfl) ?_
  have hl : (s.map (Value.int .i64)).length = m := by simp [hs]
  rw [hl]
  refine h _ ?_ (grown_setRow _ _ _)
  have h2 := copy_row (d := d) (s := s) (by omega)
  rw [hl] at h2
  rw [h2]
  exact setRow_heap W g _ _ 3 (0, 0) hg
theorem nums_src {w : World} {g : Nat} {xs : List Int} (h : w.heap[g]? = some (.cells (numsA xs) 3 (0, 0))) : ∀ j v, (xs.map (Value.int .i64))[j]? = some v → w.cell? ((⟨g, 0, none⟩ : Addr).add j) = some v := by
  intro j v hj
  rw [Addr.add_mid, Nat.zero_add, blk_cell h]
  simpa [numsA] using hj
theorem args_src {w : World} {ad : Addr} {xs : List Int} {n : Nat} (h : Kd.C (Kd.int .i64) w (some ad) n xs) (hn : n = xs.length) : ∀ j v, (xs.map (Value.int .i64))[j]? = some v → w.cell? (ad.add j) = some v := by
  intro j v hj
  obtain ⟨x, hx, rfl⟩ := (by simpa using hj : ∃ x, xs[j]? = some x ∧ Value.int .i64 x = v)
  have hl := (List.getElem?_eq_some_iff.1 hx).1
  obtain ⟨ad2, e2, hc⟩ := Kd.at_int h (j : Int) (by omega) (by omega)
  cases e2
  rw [Int.toNat_natCast] at hc
  rw [hc]
  simp [rd, List.getD_eq_getElem?_getD, hx]
end Go.Proofs.Ytkaefgmgcghhiaa.X
end

section
namespace Go.Proofs.Ytkaefgmgcghhiaa.X
open Go.RowKit Go.Proofs.YtkaefgmgcghhiaaW.PrintWords Go.Proofs.YtkaefgmgcghhiaaW.PrintLast Go.Proofs.YtkaefgmgcghhiaaW.PrintMore
theorem min_flip (a c : Int) : (if c < a then c else a) = min a c := by
  split <;> omega
attribute [local go_sem] max2_int min2_int max_two min_two max_three min_three max_four min_four
set_option maxHeartbeats 8000000 in
set_option maxRecDepth 100000 in
theorem Count_walk (k : Nat) (kd K O N : Int) (A4 : Option Addr) (c4 : Nat) (nxl : List Int) (A5 : Option Addr) (c5 : Nat) (out : List Int) (n : Int) (r1 r2 : Int) (w : World)
    (hr4 : Kd.C (Kd.int .i64) w A4 nxl.length nxl) (hc4 : nxl.length ≤ c4) (hr5 : Kd.C (Kd.int .i64) w A5 out.length out) (hc5 : out.length ≤ c5) (h : cnG k kd K O N nxl out n = some (r1, r2)) :
    Calls Try.prog 39 #[.agg #[.int .i64 kd, .int .i64 K, .int .i64 O, .int .i64 N, .slice A4 nxl.length c4, .slice A5 out.length c5], .int .i64 n] w fun e w' => e = .returned (.tuple #[.int .i64 r1, .int .i64 r2]) ∧ Below w.heap.size w w' := by
  have hu43 := Try.underlying43
  have hu22 := Try.underlying22
  unfold cnG at h
  cases hd : nfa_dfa.f k kd K O N nxl out with
  | none => rw [hd] at h; exact absurd h (by simp)
  | some e0 =>
    rw [hd] at h
    simp only [] at h
    have hdf := fun (W : World) (hb : Below w.heap.size w W) => nfa_dfa.calls k kd K O N A4 c4 nxl A5 c5 out e0 W (Kd.C_below hr4 hb) hc4 (Kd.C_below hr5 hb) hc5 hd
    have H4 := Aside0.mk hr4
    have H5 := Aside0.mk hr5
    clear hr4 hr5 hd
    by_cases q1 : e0 ≠ 0
    · rw [if_pos q1] at h
      simp only [Option.some.injEq, Prod.mk.injEq] at h
      obtain ⟨rfl, rfl⟩ := h
      have q1b : (e0 != 0) = true := by simpa using q1
      clear q1
      go_enter Try.func39, Try.ntmps39
      go_wp2_with (go_at_call 68; refine (hdf _ (below_alloc (Below.refl _ _) _)).mono ?_; rintro e w1 ⟨rfl, hb1⟩)
      go_ret2
      exact ⟨rfl, below_step (below_alloc (Below.refl _ _) _) hb1⟩
    · rw [if_neg q1] at h
      have q0 : e0 = 0 := by omega
      subst q0
      clear q1
      by_cases q2 : n < 0
      · rw [if_pos q2] at h
        simp only [Option.some.injEq, Prod.mk.injEq] at h
        obtain ⟨rfl, rfl⟩ := h
        go_enter Try.func39, Try.ntmps39
        go_wp2_with (go_at_call 68; refine (hdf _ (below_alloc (Below.refl _ _) _)).mono ?_; rintro e w1 ⟨rfl, hb1⟩)
        go_ret2
        exact ⟨rfl, below_step (below_alloc (Below.refl _ _) _) hb1⟩
      · rw [if_neg q2] at h
        by_cases q3 : n > 4096
        · rw [if_pos q3] at h
          simp only [Option.some.injEq, Prod.mk.injEq] at h
          obtain ⟨rfl, rfl⟩ := h
          go_enter Try.func39, Try.ntmps39
          go_wp2_with (go_at_call 68; refine (hdf _ (below_alloc (Below.refl _ _) _)).mono ?_; rintro e w1 ⟨rfl, hb1⟩)
          go_ret2
          exact ⟨rfl, below_step (below_alloc (Below.refl _ _) _) hb1⟩
        · rw [if_neg q3] at h
          by_cases q4 : (1 ≤ N ∧ N ≤ 1024) ∧ (1 ≤ K ∧ K ≤ 64) ∧ (out.length : Int) = N
          · rw [if_pos q4] at h
            obtain ⟨⟨hN1, hN2⟩, ⟨hK1, hK2⟩, hol⟩ := q4
            cases hcn : cnN K N nxl n.toNat out (List.replicate N.toNat 0) with
            | none => rw [hcn] at h; exact absurd h (by simp)
            | some now0 =>
              rw [hcn] at h
              simp only [] at h
              have HH := Aside0.mk h
              have HCN := Aside0.mk hcn
              clear h hcn
              have HOL2 : Aside0 (out.length = N.toNat) := ⟨by omega⟩
              obtain ⟨ad5, e5, _⟩ := Kd.at_int H5.out 0 (by omega) (by omega)
              cases e5
              go_enter Try.func39, Try.ntmps39
              go_wp2_with (first | (go_at_call 68; refine (hdf _ (below_alloc (Below.refl _ _) _)).mono ?_; rintro e w1 ⟨rfl, hb1⟩; have HB1 := Aside0.mk (below_step (below_alloc (Below.refl w.heap.size w) (.cells #[.int .i64 kd, .int .i64 K, .int .i64 O, .int .i64 N, .slice A4 nxl.length c4, .slice (some ad5) out.length c5] 43)) hb1); have hbx := blk_below (blk_new w (.cells #[.int .i64 kd, .int .i64 K, .int .i64 O, .int .i64 N, .slice A4 nxl.length c4, .slice (some ad5) out.length c5] 43)) hb1; have HBX := Aside0.mk hbx; have hx3 : w1.cell? ⟨w.heap.size, 3, none⟩ = some (.int .i64 N) := (blk_cell hbx 3).trans rfl; have hx5 : w1.cell? ⟨w.heap.size, 5, none⟩ = some (.slice (some ad5) out.length c5) := (blk_cell hbx 5).trans rfl; clear hb1 hbx) | ((with_reducible refine gate_dst (N := 25) rfl ?_); (refine fresh_make rfl rfl rfl (by omega) hN2 ?_; intro w2 hg2 hb2; have HB2 := Aside0.mk (below_step HB1.out hb2); have HG2 := Aside0.mk hg2; have HBX2 := Aside0.mk (blk_below HBX.out hb2); have hx3 : w2.cell? ⟨w.heap.size, 3, none⟩ = some (.int .i64 N) := (blk_cell HBX2.out 3).trans rfl; have hx5 : w2.cell? ⟨w.heap.size, 5, none⟩ = some (.slice (some ad5) out.length c5) := (blk_cell HBX2.out 5).trans rfl; clear hg2 hb2)) | ((with_reducible refine gate_builtin (b := .copy) (xs := #[.tmp 26, .tmp 28]) rfl ?_); (refine copy_whole rfl (.tmp 26) (.tmp 28) rfl rfl rfl HOL2.out (by simp) HOL2.out HG2.out (args_src (Kd.C_below H5.out HB2.out) (by omega)) ?_; intro w3 hg3 hgr3; have HG3 := Aside0.mk hg3; have HB3 := Aside0.mk (pw_below_grown HB2.out _ HB2.out.size hgr3 (fun k hk => by injection hk with hk; rw [← hk]; exact HB1.out.size)); have HBX3 := Aside0.mk (blk_grown HBX2.out hgr3 (fun he => by injection he with he; have := blk_lt HBX.out; omega)); have hx3 : w3.cell? ⟨w.heap.size, 3, none⟩ = some (.int .i64 N) := (blk_cell HBX3.out 3).trans rfl; clear hg3 hgr3)) | ((with_reducible refine gate_dst (N := 32) rfl ?_); (refine fresh_make rfl rfl rfl (by omega) hN2 ?_; intro w4 hg4 hb4; have HB4 := Aside0.mk (below_step HB3.out hb4); have HG4 := Aside0.mk hg4; have HG34 := Aside0.mk (blk_below HG3.out hb4); have HBX4 := Aside0.mk (blk_below HBX3.out hb4); clear hg4 hb4)))
              clear hx3 hdf
              have HNB := Aside0.mk hol
              clear hol
              have hg1 : w1.heap.size ≠ w3.heap.size := by
                have := blk_lt HG3.out
                omega
              have hb12 : w.heap.size < w1.heap.size := blk_lt HBX.out
              generalize hg2q : w3.heap.size = g2 at HG4 hg1 ⊢
              have hlt2 : w.heap.size < g2 := by have := HB3.out.size; have := blk_lt HBX3.out; omega
              have hle2 : w.heap.size ≤ g2 := by omega
              generalize hg1q : w1.heap.size = g1 at HG34 hg1 hb12 ⊢
              clear hg1q hg2q
              go_loopw [34] (fun v34 wr => ∃ (i : Nat) (now nx : List Int), v34 = .int .i64 (i : Int) ∧ Aside0 (i ≤ n.toNat) ∧ Aside0 (cnN K N nxl (n.toNat - i) now nx = some now0) ∧ Aside0 (wr.heap[g1]? = some (.cells (numsA now) 3 (0, 0))) ∧ Aside0 (wr.heap[g2]? = some (.cells (numsA nx) 3 (0, 0))) ∧ Aside0 (wr.heap[w.heap.size]? = some (.cells #[.int .i64 kd, .int .i64 K, .int .i64 O, .int .i64 N, .slice A4 nxl.length c4, .slice (some ad5) out.length c5] 43 (0, 0))) ∧ Aside0 (Below w.heap.size w wr) ∧ Aside0 (now.length = N.toNat ∧ nx.length = N.toNat)) (fun v34 _ => n.toNat - (intOf v34).toNat)
              case atStart => exact ⟨0, out, List.replicate N.toNat 0, rfl, ⟨by omega⟩, by simpa using HCN, HG34, HG4, HBX4, HB4, ⟨HOL2.out, by simp⟩⟩
              case round =>
                clear HCN HG34 HG4 HBX4 HB4 HB3 HBX3 HG3 HBX2 HG2 HB2 HBX HB1 HOL2 HNB
                obtain ⟨i, now, nx, rfl, HI, HF, HG1, HG2, HBX, HB, HLN⟩ := hrel
                by_cases hlt : i < n.toNat
                · have H := HF.out
                  obtain ⟨m, hm⟩ : ∃ m, n.toNat - i = m + 1 := ⟨n.toNat - i - 1, by omega⟩
                  have hm2 : n.toNat - (i + 1) = m := by omega
                  rw [hm] at H
                  clear HF
                  simp only [cnN] at H
                  cases hcs : cnS K nxl now (List.range N.toNat) nx with
                  | none => rw [hcs] at H; exact absurd H (by simp)
                  | some nx1 =>
                    rw [hcs] at H
                    simp only [] at H
                    have HH2 := Aside0.mk H
                    have HCS := Aside0.mk hcs
                    have HM2 := Aside0.mk hm2
                    have HLT := Aside0.mk hlt
                    have hlt' : (i : Int) < n := by omega
                    have hx3 : wr.cell? ⟨w.heap.size, 3, none⟩ = some (.int .i64 N) := (blk_cell HBX.out 3).trans rfl
                    clear H hcs hm hm2
                    have hmx : max N 0 = N := by omega
                    go_wp2
                    clear hx3
                    go_loopw [38] (fun v38 wr2 => ∃ (q : Nat) (nx2 : List Int), v38 = .int .i64 (q : Int) ∧ Aside0 (q ≤ N.toNat) ∧ Aside0 (cnS K nxl now ((List.range N.toNat).drop q) nx2 = some nx1) ∧ Aside0 (wr2.heap[g1]? = some (.cells (numsA now) 3 (0, 0))) ∧ Aside0 (wr2.heap[g2]? = some (.cells (numsA nx2) 3 (0, 0))) ∧ Aside0 (wr2.heap[w.heap.size]? = some (.cells #[.int .i64 kd, .int .i64 K, .int .i64 O, .int .i64 N, .slice A4 nxl.length c4, .slice (some ad5) out.length c5] 43 (0, 0))) ∧ Aside0 (Below w.heap.size w wr2) ∧ Aside0 (now.length = N.toNat ∧ nx2.length = N.toNat)) (fun v38 _ => N.toNat - (intOf v38).toNat)
                    case atStart => exact ⟨0, nx, rfl, ⟨by omega⟩, HCS, HG1, HG2, HBX, HB, HLN⟩
                    case round =>
                      clear HCS HG1 HG2 HBX HB HLN
                      obtain ⟨q, nx2, rfl, HQI, HCS, HG1, HG2, HBX, HB, HLN⟩ := hrel
                      by_cases hq : q < N.toNat
                      · have H := HCS.out
                        have hd : (List.range N.toNat).drop q = q :: (List.range N.toNat).drop (q + 1) := by
                          rw [List.drop_eq_getElem_cons (by simpa using hq)]
                          simp
                        rw [hd] at H
                        clear HCS hd
                        simp only [cnS] at H
                        cases hcx : cnX K nxl now q (List.range K.toNat) 0 with
                        | none => rw [hcx] at H; exact absurd H (by simp)
                        | some sum =>
                          rw [hcx] at H
                          simp only [] at H
                          have HCS := Aside0.mk H
                          have HCX := Aside0.mk hcx
                          have HQ := Aside0.mk hq
                          have hq' : (q : Int) < N := by omega
                          have hx1 : wr.cell? ⟨w.heap.size, 1, none⟩ = some (.int .i64 K) := (blk_cell HBX.out 1).trans rfl
                          have hx4 : wr.cell? ⟨w.heap.size, 4, none⟩ = some (.slice A4 nxl.length c4) := (blk_cell HBX.out 4).trans rfl
                          clear H hcx
                          go_wp2
                          go_loopw [43, 10] (fun v43 v10 wr2 => ∃ (x : Nat) (sm : Int), v43 = .int .i64 (x : Int) ∧ v10 = .int .i64 sm ∧ Aside0 (x ≤ K.toNat) ∧ Aside0 (cnX K nxl now q ((List.range K.toNat).drop x) sm = some sum) ∧ Aside0 (wr2 = wr)) (fun v43 _ _ => K.toNat - (intOf v43).toNat)
                          case atStart => exact ⟨0, 0, rfl, rfl, ⟨by omega⟩, HCX, ⟨by first | trivial | rfl⟩⟩
                          case round =>
                            clear HCX
                            obtain ⟨x, sm, rfl, rfl, HXI, HCX, HWR⟩ := hrel
                            have hwr := HWR.out
                            subst hwr
                            clear HWR
                            by_cases hxk : x < K.toNat
                            · have H := HCX.out
                              have hd : (List.range K.toNat).drop x = x :: (List.range K.toNat).drop (x + 1) := by
                                rw [List.drop_eq_getElem_cons (by simpa using hxk)]
                                simp
                              rw [hd] at H
                              clear HCX hd
                              simp only [cnX] at H
                              obtain ⟨ji, hji⟩ : ∃ j_ : Int, wrap64 (wrap64 ((q : Int) * K) + (x : Int)) = j_ := ⟨_, rfl⟩
                              rw [hji] at H
                              have hjiw : IntKind.i64.wrap (wrap64 ((q : Int) * K) + (x : Int)) = ji := (i64_w _).trans hji
                              by_cases c1 : (0 ≤ ji ∧ ji < (nxl.length : Int)) ∧ (0 ≤ rd nxl ji ∧ rd nxl ji < (now.length : Int))
                              · rw [if_pos c1] at H
                                obtain ⟨⟨c1a, c1b⟩, c1c, c1d⟩ := c1
                                obtain ⟨ad4, e4, hxa⟩ := Kd.at_int (Kd.C_below H4.out HB.out) ji c1a c1b
                                cases e4
                                generalize rd nxl ji = t at H c1c c1d hxa
                                have ht : (t.toNat : Int) = t := Int.toNat_of_nonneg c1c
                                have hnt := nums_cell HG1.out t.toNat (by omega)
                                rw [ht] at hnt
                                have htN : t < N := by have := HLN.out.1; omega
                                generalize rd now t = y at H hnt
                                have HCX := Aside0.mk H
                                have HXK := Aside0.mk hxk
                                have hxk' : (x : Int) < K := by omega
                                clear H ht c1d
                                go_wp2
                                go_roundw
                                case rel => exact ⟨x + 1, min (wrap64 (sm + y)) 1099511627777, by go_num, by rw [min_flip], ⟨by have := HXK.out; omega⟩, HCX, ⟨trivial⟩⟩
                                case measure => have := HXK.out; simp [intOf]; omega
                              · rw [if_neg c1] at H; exact absurd H (by simp)
                            · have H := HCX.out
                              rw [List.drop_of_length_le (by simp; omega)] at H
                              simp only [cnX, Option.some.injEq] at H
                              subst H
                              have hxk' : ¬ ((x : Int) < K) := by omega
                              have hcl := nums_cell HG2.out q (by have := HLN.out.2; have := HQ.out; omega)
                              have hfz := blk_frozen HG2.out q
                              go_wp2
                              go_roundw
                              case rel => exact ⟨q + 1, nx2.set q sm, by go_num, ⟨by have := HQ.out; omega⟩, HCS, ⟨blk_far HG1.out (by show g1 ≠ g2; exact hg1) _⟩, ⟨nums_set HG2.out q sm⟩, ⟨blk_far HBX.out (by show w.heap.size ≠ g2; omega) _⟩, ⟨below_set HB.out hle2⟩, ⟨HLN.out.1, by rw [List.length_set]; exact HLN.out.2⟩⟩
                              case measure => have := HQ.out; simp [intOf]; omega
                      · have H := HCS.out
                        rw [List.drop_of_length_le (by simp; omega)] at H
                        simp only [cnS, Option.some.injEq] at H
                        subst H
                        have hq' : ¬ ((q : Int) < N) := by omega
                        go_wp2_with ((with_reducible refine gate_builtin (b := .copy) (xs := #[.tmp 68, .tmp 69]) rfl ?_); (refine copy_whole rfl (.tmp 68) (.tmp 69) rfl rfl rfl rfl HLN.out.1 HLN.out.2 HG1.out (nums_src HG2.out) ?_; intro w5 hg5 hgr5; have HG5 := Aside0.mk hg5; have HG25 := Aside0.mk (blk_grown HG2.out hgr5 (fun he => by injection he with he; exact hg1 he.symm)); have HBX5 := Aside0.mk (blk_grown HBX.out hgr5 (fun he => by injection he with he; omega)); have HB5 := Aside0.mk (pw_below_grown HB.out _ HB.out.size hgr5 (fun k hk => by injection hk with hk; omega)); clear hg5 hgr5))
                        have hlt3 := HLT.out
                        refine ⟨⟨_, _, _, _, ⟨i + 1, rfl, ⟨by omega⟩, nx2, nx2, ⟨by rw [HM2.out]; exact HH2.out⟩, HG5, HG25, ⟨HLN.out.2, HLN.out.2⟩⟩, rfl, rfl, rfl, by go_num⟩, ?_⟩
                        simp [intOf]
                        omega
                · have hlt' : ¬ ((i : Int) < n) := by omega
                  have H := HF.out
                  have h0 : n.toNat - i = 0 := by omega
                  rw [h0] at H
                  simp only [cnN, Option.some.injEq] at H
                  subst H
                  have hr := HH.out
                  have hnl := HLN.out.1
                  have hc0 := nums_cell HG1.out 0 (by omega)
                  rw [Int.natCast_zero] at hc0
                  clear hnl h0
                  by_cases q5 : rd now 0 > 1099511627776
                  · rw [if_pos q5] at hr
                    simp only [Option.some.injEq, Prod.mk.injEq] at hr
                    obtain ⟨rfl, rfl⟩ := hr
                    go_wp2
                    go_ret2
                    exact ⟨rfl, HB.out⟩
                  · rw [if_neg q5] at hr
                    simp only [Option.some.injEq, Prod.mk.injEq] at hr
                    obtain ⟨rfl, rfl⟩ := hr
                    go_wp2
                    go_ret2
                    exact ⟨rfl, HB.out⟩
          · rw [if_neg q4] at h; exact absurd h (by simp)
end Go.Proofs.Ytkaefgmgcghhiaa.X
end

section
namespace Go.Proofs.Ytkaefgmgcghhiaa.X
open Go.RowKit Go.Proofs.YtkaefgmgcghhiaaW.PrintWords Go.Proofs.YtkaefgmgcghhiaaW.PrintLast Go.Proofs.YtkaefgmgcghhiaaW.PrintMore
def big : Nat := 200000
def nfa_Accepts.f (a0_0 a0_1 : Int) (l0_2 l0_3 : List Int) (l0_4 : List S80) (l1 : List Int) : Option (Bool × Int) := accF big a0_0 a0_1 l0_2 l0_3 l0_4 l1
theorem nfa_Accepts.calls (a0_0 : Int) (a0_1 : Int) (A0_2 : Option Addr) (c0_2 : Nat) (l0_2 : List Int) (A0_3 : Option Addr) (c0_3 : Nat) (l0_3 : List Int) (A0_4 : Option Addr) (c0_4 : Nat) (l0_4 : List (S80)) (A1 : Option Addr) (c1 : Nat) (l1 : List Int) (r1 : Bool) (r2 : Int) (w : World) (hr0_2 : Kd.C (Kd.int .i64) w A0_2 l0_2.length l0_2) (hc0_2 : l0_2.length ≤ c0_2) (hr0_3 : Kd.C (Kd.int .i64) w A0_3 l0_3.length l0_3) (hc0_3 : l0_3.length ≤ c0_3) (hr0_4 : Kd.C k80 w A0_4 l0_4.length l0_4) (hc0_4 : l0_4.length ≤ c0_4) (hr1 : Kd.C (Kd.int .i64) w A1 l1.length l1) (hc1 : l1.length ≤ c1) (h : nfa_Accepts.f a0_0 a0_1 l0_2 l0_3 l0_4 l1 = some (r1, r2)) :
    Calls Try.prog 20 #[.agg #[.int .i64 a0_0, .int .i64 a0_1, .slice A0_2 l0_2.length c0_2, .slice A0_3 l0_3.length c0_3, .slice A0_4 l0_4.length c0_4], .slice A1 l1.length c1] w fun e w' => e = .returned (.tuple #[.bool r1, .int .i64 r2]) ∧ Below w.heap.size w w' :=
  Accepts_walk big a0_0 a0_1 A0_2 c0_2 l0_2 A0_3 c0_3 l0_3 A0_4 c0_4 l0_4 A1 c1 l1 r1 r2 w hr0_2 hr0_3 hr0_4 hr1 hc0_2 hc0_3 hc0_4 hc1 h
def nfa_Determine.f (a0_0 a0_1 : Int) (l0_2 l0_3 : List Int) (l0_4 : List S80) : Option (Int × Int × Int × Int × List Int × List Int × Int) := detG big a0_0 a0_1 l0_2 l0_3 l0_4
theorem nfa_Determine.calls (a0_0 : Int) (a0_1 : Int) (A0_2 : Option Addr) (c0_2 : Nat) (l0_2 : List Int) (A0_3 : Option Addr) (c0_3 : Nat) (l0_3 : List Int) (A0_4 : Option Addr) (c0_4 : Nat) (l0_4 : List (S80)) (r1 : Int) (r2 : Int) (r3 : Int) (r4 : Int) (r5 : List Int) (r6 : List Int) (r7 : Int) (w : World) (hr0_2 : Kd.C (Kd.int .i64) w A0_2 l0_2.length l0_2) (hc0_2 : l0_2.length ≤ c0_2) (hr0_3 : Kd.C (Kd.int .i64) w A0_3 l0_3.length l0_3) (hc0_3 : l0_3.length ≤ c0_3) (hr0_4 : Kd.C k80 w A0_4 l0_4.length l0_4) (hc0_4 : l0_4.length ≤ c0_4) (h : nfa_Determine.f a0_0 a0_1 l0_2 l0_3 l0_4 = some (r1, r2, r3, r4, r5, r6, r7)) :
    Calls Try.prog 22 #[.agg #[.int .i64 a0_0, .int .i64 a0_1, .slice A0_2 l0_2.length c0_2, .slice A0_3 l0_3.length c0_3, .slice A0_4 l0_4.length c0_4]] w fun e w' => ∃ v4_ v5_ : Value, e = .returned (.tuple #[.agg #[.int .i64 r1, .int .i64 r2, .int .i64 r3, .int .i64 r4, v4_, v5_], .int .i64 r7]) ∧ Kd.R (Kd.int .i64) 3 w' w.heap.size (fun k_ => some k_ ≠ (v5_ : Value).ownBlock) v4_ r5 ∧ Kd.R (Kd.int .i64) 3 w' w.heap.size (fun k_ => some k_ ≠ (v4_ : Value).ownBlock) v5_ r6 ∧ Below w.heap.size w w' :=
  Determine_walk big a0_0 a0_1 A0_2 c0_2 l0_2 A0_3 c0_3 l0_3 A0_4 c0_4 l0_4 r1 r2 r3 r4 r5 r6 r7 w hr0_2 hr0_3 hr0_4 h
def nfa_Count.f (a0_0 a0_1 a0_2 a0_3 : Int) (l0_4 l0_5 : List Int) (a1 : Int) : Option (Int × Int) := cnG big a0_0 a0_1 a0_2 a0_3 l0_4 l0_5 a1
theorem nfa_Count.calls (a0_0 : Int) (a0_1 : Int) (a0_2 : Int) (a0_3 : Int) (A0_4 : Option Addr) (c0_4 : Nat) (l0_4 : List Int) (A0_5 : Option Addr) (c0_5 : Nat) (l0_5 : List Int) (a1 : Int) (r1 : Int) (r2 : Int) (w : World) (hr0_4 : Kd.C (Kd.int .i64) w A0_4 l0_4.length l0_4) (hc0_4 : l0_4.length ≤ c0_4) (hr0_5 : Kd.C (Kd.int .i64) w A0_5 l0_5.length l0_5) (hc0_5 : l0_5.length ≤ c0_5) (h : nfa_Count.f a0_0 a0_1 a0_2 a0_3 l0_4 l0_5 a1 = some (r1, r2)) :
    Calls Try.prog 39 #[.agg #[.int .i64 a0_0, .int .i64 a0_1, .int .i64 a0_2, .int .i64 a0_3, .slice A0_4 l0_4.length c0_4, .slice A0_5 l0_5.length c0_5], .int .i64 a1] w fun e w' => e = .returned (.tuple #[.int .i64 r1, .int .i64 r2]) ∧ Below w.heap.size w w' :=
  Count_walk big a0_0 a0_1 a0_2 a0_3 A0_4 c0_4 l0_4 A0_5 c0_5 l0_5 a1 r1 r2 w hr0_4 hc0_4 hr0_5 hc0_5 h
end Go.Proofs.Ytkaefgmgcghhiaa.X
end
