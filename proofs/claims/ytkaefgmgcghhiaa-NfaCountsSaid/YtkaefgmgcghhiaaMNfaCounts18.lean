/- Texts of the statement NfaCounts, one behind the other: Go functions as Lean functions, the machine's calls, the plain law. -/
import Derived.Test.YtkaefgmgcghhiaaMNfaCounts4
import Derived.Test.YtkaefgmgcghhiaaMNfaCounts5
import Derived.Test.YtkaefgmgcghhiaaMNfaCounts6
import Derived.Test.YtkaefgmgcghhiaaMNfaCounts7
import Derived.Test.YtkaefgmgcghhiaaMNfaCounts8
import Derived.Test.YtkaefgmgcghhiaaMNfaCounts13
import Derived.Test.YtkaefgmgcghhiaaMNfaCounts16
import Derived.Test.YtkaefgmgcghhiaaMNfaCounts17
set_option linter.unusedVariables false
set_option linter.unusedSimpArgs false
section
namespace Go.Proofs.Ytkaefgmgcghhiaa.X
open Go.RowKit Go.Proofs.YtkaefgmgcghhiaaW.PrintWords Go.Proofs.YtkaefgmgcghhiaaW.PrintLast Go.Proofs.YtkaefgmgcghhiaaW.PrintMore
def detIn (k : Nat) (N : Int) (fr : List (List S80)) (s : List Nat) : List Nat → List (List Nat) → List Int → Option (Option (List (List Nat) × List Int))
  | [], row, nx => some (some (row, nx))
  | x :: r, row, nx => match stepF k N fr s (x : Int) with
    | none => none
    | some t => if nx.length < 1099511627776 then (match row.findIdx? (· == t) with
      | some j => detIn k N fr s r row (nx ++ [(j : Int)])
      | none => if row.length = 1024 then some none else detIn k N fr s r (row ++ [t]) (nx ++ [(row.length : Int)])) else none
def detF (k : Nat) (K N : Int) (F : List Int) (fr : List (List S80)) : Nat → Nat → List (List Nat) → List Int → List Int → Option (Option (List (List Nat) × List Int × List Int))
  | 0, _, _, _, _ => none
  | q + 1, i, row, nx, out => if i < row.length then (if out.length < 1099511627776 then (match detIn k N fr (row.getD i []) (List.range K.toNat) row nx with
    | none => none
    | some none => some none
    | some (some (jc, nx1)) => detF k K N F fr q (i + 1) jc nx1 (out ++ [fiRow (row.getD i []) F 0])) else none) else some (some (row, nx, out))
def detG (k : Nat) (K N : Int) (S F : List Int) (E : List S80) : Option (Int × Int × Int × Int × List Int × List Int × Int) :=
  if (fI.g K N S F E).2 ≠ 0 then some (0, 0, 0, 0, [], [], (fI.g K N S F E).2) else
  match startF k N (rowsOf N.toNat E) S with
  | none => none
  | some s => match detF k K N F (rowsOf N.toNat E) k 0 [s] [] [] with
    | none => none
    | some none => some (0, 0, 0, 0, [], [], 3)
    | some (some (row, nx, out)) => some (1, K, 2, (row.length : Int), nx, out, 0)
theorem look_some {row : List (List Nat)} (hrow : ∀ s ∈ row, IsSet s) (hnd : row.Nodup) {t : List Nat} (ht : IsSet t) {j : Nat} (hj : row.findIdx? (· == t) = some j) {w : World} {b : Nat} (hp : PlaceAt w b row) :
    (Instr.lookup 92 (.map (some b)) (.agg (wordsOf t).toArray) true).run Try.prog w = .ok (.tuple #[.int .i64 (j : Int), .bool true]) w := by
  obtain ⟨hjl, hjt, _⟩ := List.findIdx?_eq_some_iff_getElem.1 hj
  have hjt' : row[j] = t := by simpa using hjt
  rcases place_lookup hrow ht hp with ⟨_, h2⟩ | ⟨i, h1, h2⟩
  · exact absurd (hjt' ▸ List.getElem_mem hjl) h2
  · obtain ⟨hil, hit⟩ := List.getElem?_eq_some_iff.1 h2
    have : i = j := (List.getElem_inj hnd).1 (hit.trans hjt'.symm)
    rw [h1, this]
theorem look_none {row : List (List Nat)} (hrow : ∀ s ∈ row, IsSet s) {t : List Nat} (ht : IsSet t) (hj : row.findIdx? (· == t) = none) {w : World} {b : Nat} (hp : PlaceAt w b row) :
    (Instr.lookup 92 (.map (some b)) (.agg (wordsOf t).toArray) true).run Try.prog w = .ok (.tuple #[.int .i64 0, .bool false]) w := by
  rcases place_lookup hrow ht hp with ⟨h1, _⟩ | ⟨i, _, h2⟩
  · exact h1
  · have := List.findIdx?_eq_none_iff.1 hj t (List.mem_of_getElem? h2)
    simp at this
theorem not_mem_of_none {row : List (List Nat)} {t : List Nat} (hj : row.findIdx? (· == t) = none) : t ∉ row := fun hm => by
  have := List.findIdx?_eq_none_iff.1 hj t hm
  simp at this
/-- A store into that map, at the operation. -/
theorem wpList_place_put {w : World} {ops : Array Oper} {rest : List Oper} {o : Oper} {a : Act} {Q : Exit → Act → World → Prop} {row : List (List Nat)} {t : List Nat} {b : Nat} (hg : o.guard = none) (m x v : Operand)
    (hop : o.op = .insert 92 m x v ∨ o.op = .mapUpdate 92 m x v) (hm : a.eval m = .map (some b)) (hx : a.eval x = .agg (wordsOf t).toArray) (hv : a.eval v = .int .i64 (row.length : Int)) (hd : o.dst = none)
    (hrow : ∀ s ∈ row, IsSet s) (ht : IsSet t) (hnew : t ∉ row) (hp : PlaceAt w b row)
    (h : ∀ w', PlaceAt w' b (row ++ [t]) → w.grownBy w' (some b) → wpList Try.prog ops Q rest a w') : wpList Try.prog ops Q (o :: rest) a w := by
  obtain ⟨w', h1, h2, h3⟩ := place_put hrow ht hnew hp
  refine wpList_plain hg fun K hK => ?_
  have hrun : (execOp a.eval o).run Try.prog w = .ok .skip w' := by
    unfold execOp
    rcases hop with hop | hop
    · simp [hop, hm, hx, hv, h1, Result.andThen]
    · simp [hop, hm, hx, hv, h1, Result.andThen]
  unfold Oper.wp
  rw [hrun]
  show K (a.put o.dst undef) w'
  rw [hd]
  exact hK _ _ (h w' h2 h3)
/-- A literal of one set. -/
theorem run_one_set (W : World) {s : List Nat} (hs : IsSet s) : (Instr.buildSlice 93 1 #[(0, .agg (wordsOf s).toArray)]).run Try.prog W = .ok (.slice (some ⟨W.heap.size, 0, none⟩) 1 1) (W.alloc (.cells (wordsOf s).toArray 88)) := by
  cases hi : Try.prog.info? 88 with
  | none => have := info88; rw [hi] at this; cases this
  | some ie =>
    have h88 := info88
    rw [hi] at h88
    simp only [Option.map_some, Option.some.injEq, Prod.mk.injEq] at h88
    refine run_buildSlice W 93 88 1 _ _ ie _ Try.underlying93 hi h88.1 (by rw [h88.2]; decide) (by rw [h88.2]; decide) ?_
    rw [h88.2]
    have h := Great.fill_whole (s := 16) (by decide) [.agg (wordsOf s).toArray] ((Array.range (1 * 16)).map ((Value.agg (Array.replicate 16 (.int .u64 0))).cells[· % (Value.agg (Array.replicate 16 (.int .u64 0))).cells.size]!)) (by
      intro v hv
      simp only [List.mem_singleton] at hv
      subst hv
      exact dx hs) (by simp)
    simpa [Value.cells] using h
theorem exec_one_set {a : Act} {o : Oper} {x : Operand} {s : List Nat} (ho : o.op = .buildSlice 93 1 #[(0, x)]) (hx : a.eval x = .agg (wordsOf s).toArray) (hs : IsSet s) (W : World) :
    (execOp a.eval o).run Try.prog W = .ok (.value (.slice (some ⟨W.heap.size, 0, none⟩) 1 1)) (W.alloc (.cells (wordsOf s).toArray 88)) := by
  unfold execOp
  simp [ho, hx, run_one_set W hs, Result.andThen]
theorem reps_one_set {w : World} {base : Nat} {ok : Nat → Prop} {s : List Nat} (hs : IsSet s) : Reps (kset.M w base ok) kset.sz [s] (wordsOf s) := by
  have hl : (wordsOf s).length = 16 := by simp [wordsOf, hs.1]
  refine ⟨by rw [hl]; rfl, fun j p hj => ?_⟩
  cases j with
  | zero =>
    simp only [List.getElem?_cons_zero, Option.some.injEq] at hj
    subst hj
    refine ⟨hs, ?_⟩
    show List.take 16 (List.drop (0 * 16) (wordsOf s)) = wordsOf s
    rw [Nat.zero_mul, List.drop_zero, List.take_of_length_le (by omega)]
  | succ j => simp at hj
end Go.Proofs.Ytkaefgmgcghhiaa.X
end

section
namespace Go.Proofs.Ytkaefgmgcghhiaa.X
open Go.RowKit Go.Proofs.YtkaefgmgcghhiaaW.PrintWords Go.Proofs.YtkaefgmgcghhiaaW.PrintLast Go.Proofs.YtkaefgmgcghhiaaW.PrintMore
structure DetAt (w0 : World) (mb M : Nat) (K : Int) (pr row : List (List Nat)) (rv : Value) (nx : List Int) (nxv : Value) (out : List Int) (outv : Value) (w : World) : Prop where
  place : PlaceAt w mb pr
  row : Kd.R kset 88 w w0.heap.size (fun _ => True) rv row
  m : w.heap[M]? = some (.cells #[.int .i64 1, .int .i64 K, .int .i64 2, .int .i64 0, nxv, outv] 43 (0, 0))
  nx : Kd.R (Kd.int .i64) 3 w w0.heap.size (fun _ => True) nxv nx
  out : Kd.R (Kd.int .i64) 3 w w0.heap.size (fun _ => True) outv out
  apart : ∀ k, nxv.ownBlock = some k → outv.ownBlock ≠ some k
  below : Below w0.heap.size w0 w
  hmb : w0.heap.size ≤ mb
  hM : w0.heap.size ≤ M
theorem gN {α : Type} {d : Kd α} {e : Nat} {w : World} {base : Nat} {ok : Nat → Prop} {v : Value} {xs : List α} (h : d.R e w base ok v xs) (k : Nat) (hk : v.ownBlock = some k) : ∃ cells, w.heap[k]? = some (.cells cells e (0, 0)) := by
  obtain ⟨inner, ho⟩ := Kd.R_own h
  exact own_typed ho k hk
theorem R_R_ne {α β : Type} {d : Kd α} {d' : Kd β} {e e' : Nat} {w : World} {base base' : Nat} {ok ok' : Nat → Prop} {v v' : Value} {xs : List α} {ys : List β} (h : d.R e w base ok v xs) (h' : d'.R e' w base' ok' v' ys) (hne : e ≠ e') (k : Nat) (hk : v.ownBlock = some k) : some k ≠ v'.ownBlock := by
  intro he
  obtain ⟨c, h1⟩ := gN h k hk
  obtain ⟨c', h2⟩ := gN h' k he.symm
  rw [h1] at h2
  simp only [Option.some.injEq, Obj.cells.injEq] at h2
  exact hne h2.2.1
theorem place_R_ne {α : Type} {d : Kd α} {e : Nat} {w : World} {base : Nat} {ok : Nat → Prop} {v : Value} {xs : List α} {b : Nat} {row : List (List Nat)} (hp : PlaceAt w b row) (h : d.R e w base ok v xs) : some b ≠ v.ownBlock := by
  intro he
  obtain ⟨c, h1⟩ := gN h b he.symm
  unfold PlaceAt at hp
  rw [hp] at h1
  cases h1
theorem place_blk_ne {w : World} {b g t : Nat} {cs : Array Value} {row : List (List Nat)} (hp : PlaceAt w b row) (h : w.heap[g]? = some (.cells cs t (0, 0))) : b ≠ g := by
  rintro rfl
  unfold PlaceAt at hp
  rw [hp] at h
  cases h
theorem PlaceAt.grown {w w1 : World} {b : Nat} {row : List (List Nat)} {r : Option Nat} (hp : PlaceAt w b row) (hg : w.grownBy w1 r) (hne : some b ≠ r) : PlaceAt w1 b row := cZ hp hg hne
theorem PlaceAt.far {w : World} {b : Nat} {row : List (List Nat)} (hp : PlaceAt w b row) {p : Addr} (hne : b ≠ p.block) (u : Value) : PlaceAt (w.setCell p u) b row := (Below.heap_setCell w p u b hne).trans hp
theorem DetAt.low {w0 w w1 : World} {mb M : Nat} {K : Int} {pr row : List (List Nat)} {rv nxv outv : Value} {nx out : List Int} (h : DetAt w0 mb M K pr row rv nx nxv out outv w) (hb : Below w.heap.size w w1) : DetAt w0 mb M K pr row rv nx nxv out outv w1 :=
  ⟨av h.place hb, Kd.dz h.row hb, av h.m hb, Kd.dz h.nx hb, Kd.dz h.out hb, h.apart, di h.below h.below.size hb, h.hmb, h.hM⟩
theorem R_after {α : Type} {d : Kd α} {e : Nat} {w w1 : World} {base M j : Nat} {v v1 : Value} {xs : List α} (h : d.R e w base (fun _ => True) v xs) (hE : d.E = []) {row : Option Nat} (hg : w.grownBy w1 row) (hne : ∀ k, row = some k → some k ≠ v.ownBlock) (hM : some M ≠ v.ownBlock) : d.R e (w1.setCell ⟨M, j, none⟩ v1) base (fun _ => True) v xs := by
  have h1 := Kd.R_grown2 h hE hg hne
  exact Kd.dB (Kd.R_far (Kd.j6 hE h1) (p := ⟨M, j, none⟩) (fun k hk he => hM (by rw [← hk]; show some M = some k; rw [he])) v1) (fun _ _ => trivial)
theorem DetAt.outAp {w0 w w1 : World} {mb M : Nat} {K : Int} {pr row : List (List Nat)} {rv nxv outv v1 : Value} {nx out out1 : List Int} (h : DetAt w0 mb M K pr row rv nx nxv out outv w)
    (hr : Kd.R (Kd.int .i64) 3 w1 w0.heap.size (fun _ => True) v1 out1) (hb : Below w0.heap.size w0 w1) (hg : w.grownBy w1 outv.ownBlock) (hat : v1.ownBlock = outv.ownBlock ∨ ∃ b, v1.ownBlock = some b ∧ w.heap.size ≤ b) :
    DetAt w0 mb M K pr row rv nx nxv out1 v1 (w1.setCell ⟨M, 5, none⟩ v1) := by
  have hMo : some M ≠ outv.ownBlock := Kd.jL h.out h.m (by decide)
  have hm1 := cZ h.m hg hMo
  refine ⟨(h.place.grown hg (place_R_ne h.place h.out)).far (place_blk_ne h.place h.m) _, R_after h.row rfl hg (fun k hk => R_R_ne h.out h.row (by decide) k hk) (Kd.jL h.row h.m (by decide)), blk_put hm1 5 v1 rfl,
    R_after h.nx rfl hg (fun k hk he => h.apart k he.symm hk) (Kd.jL h.nx h.m (by decide)), ?_, ?_, aJ hb h.hM, h.hmb, h.hM⟩
  · exact Kd.dB (Kd.R_far (Kd.j6 rfl hr) (p := ⟨M, 5, none⟩) (fun k hk he => Kd.jL hr hm1 (by decide) (by rw [← hk]; show some M = some k; rw [he])) v1) (fun _ _ => trivial)
  · intro k hk he
    rcases hat with h1 | ⟨b, h1, h2⟩
    · rw [h1] at he; exact h.apart k hk he
    · rw [h1] at he
      have := Kd.jD h.nx k hk
      have hbk : b = k := by injection he
      omega
theorem DetAt.nextAp {w0 w w1 : World} {mb M : Nat} {K : Int} {pr row : List (List Nat)} {rv nxv outv v1 : Value} {nx out nx1 : List Int} (h : DetAt w0 mb M K pr row rv nx nxv out outv w)
    (hr : Kd.R (Kd.int .i64) 3 w1 w0.heap.size (fun _ => True) v1 nx1) (hb : Below w0.heap.size w0 w1) (hg : w.grownBy w1 nxv.ownBlock) (hat : v1.ownBlock = nxv.ownBlock ∨ ∃ b, v1.ownBlock = some b ∧ w.heap.size ≤ b) :
    DetAt w0 mb M K pr row rv nx1 v1 out outv (w1.setCell ⟨M, 4, none⟩ v1) := by
  have hMo : some M ≠ nxv.ownBlock := Kd.jL h.nx h.m (by decide)
  have hm1 := cZ h.m hg hMo
  refine ⟨(h.place.grown hg (place_R_ne h.place h.nx)).far (place_blk_ne h.place h.m) _, R_after h.row rfl hg (fun k hk => R_R_ne h.nx h.row (by decide) k hk) (Kd.jL h.row h.m (by decide)), blk_put hm1 4 v1 rfl,
    ?_, R_after h.out rfl hg (fun k hk he => h.apart k hk he.symm) (Kd.jL h.out h.m (by decide)), ?_, aJ hb h.hM, h.hmb, h.hM⟩
  · exact Kd.dB (Kd.R_far (Kd.j6 rfl hr) (p := ⟨M, 4, none⟩) (fun k hk he => Kd.jL hr hm1 (by decide) (by rw [← hk]; show some M = some k; rw [he])) v1) (fun _ _ => trivial)
  · intro k hk he
    rcases hat with h1 | ⟨b, h1, h2⟩
    · rw [h1] at hk; exact h.apart k hk he
    · rw [h1] at hk
      have := Kd.jD h.out k he
      have hbk : b = k := by injection hk
      omega
theorem DetAt.placed {w0 w w1 : World} {mb M : Nat} {K : Int} {pr pr1 row : List (List Nat)} {rv nxv outv : Value} {nx out : List Int} (h : DetAt w0 mb M K pr row rv nx nxv out outv w) (hp : PlaceAt w1 mb pr1) (hg : w.grownBy w1 (some mb)) :
    DetAt w0 mb M K pr1 row rv nx nxv out outv w1 :=
  ⟨hp, Kd.R_grown2 h.row rfl hg (fun k hk => by injection hk with hk; rw [← hk]; exact place_R_ne h.place h.row), cZ h.m hg (fun he => place_blk_ne h.place h.m (by injection he with he; exact he.symm)),
    Kd.R_grown2 h.nx rfl hg (fun k hk => by injection hk with hk; rw [← hk]; exact place_R_ne h.place h.nx), Kd.R_grown2 h.out rfl hg (fun k hk => by injection hk with hk; rw [← hk]; exact place_R_ne h.place h.out),
    h.apart, jd h.below (some mb) h.below.size hg (fun k hk => by injection hk with hk; rw [← hk]; exact h.hmb), h.hmb, h.hM⟩
theorem DetAt.rowAp {w0 w w1 : World} {mb M : Nat} {K : Int} {pr row jc : List (List Nat)} {rv rv1 nxv outv : Value} {nx out : List Int} (h : DetAt w0 mb M K pr row rv nx nxv out outv w)
    (hr : Kd.R kset 88 w1 w0.heap.size (fun _ => True) rv1 jc) (hb : Below w0.heap.size w0 w1) (hg : w.grownBy w1 rv.ownBlock) : DetAt w0 mb M K pr jc rv1 nx nxv out outv w1 :=
  ⟨h.place.grown hg (place_R_ne h.place h.row), hr, cZ h.m hg (Kd.jL h.row h.m (by decide)), Kd.R_grown2 h.nx rfl hg (fun k hk => R_R_ne h.row h.nx (by decide) k hk), Kd.R_grown2 h.out rfl hg (fun k hk => R_R_ne h.row h.out (by decide) k hk), h.apart, hb, h.hmb, h.hM⟩
end Go.Proofs.Ytkaefgmgcghhiaa.X
end

section
namespace Go.Proofs.Ytkaefgmgcghhiaa.X
open Go.RowKit Go.Proofs.YtkaefgmgcghhiaaW.PrintWords Go.Proofs.YtkaefgmgcghhiaaW.PrintLast Go.Proofs.YtkaefgmgcghhiaaW.PrintMore
theorem gate_insert {P : Program} {ops : Array Oper} {rest : List Oper} {o : Oper} {a : Act} {Q : Exit → Act → World → Prop} {W : World} {t : TypeId} {m x v : Operand} (_ho : o.op = .insert t m x v) (h : wpList P ops Q (o :: rest) a W) : wpList P ops Q (o :: rest) a W := h
theorem gate_update {P : Program} {ops : Array Oper} {rest : List Oper} {o : Oper} {a : Act} {Q : Exit → Act → World → Prop} {W : World} {t : TypeId} {m x v : Operand} (_ho : o.op = .mapUpdate t m x v) (h : wpList P ops Q (o :: rest) a W) : wpList P ops Q (o :: rest) a W := h
theorem info43 : (Try.prog.info? 43).map (fun i => (i.zero, i.size)) = some (some (.agg #[.int .i64 0, .int .i64 0, .int .i64 0, .int .i64 0, .slice none 0 0, .slice none 0 0]), 6) := by kernel_rfl
theorem info88b : (Try.prog.info? 88).map (fun i => (i.zero, i.size, i.bytes)) = some (some (.agg (Array.replicate 16 (.int .u64 0))), kset.sz, 128) := by kernel_rfl
def DT12.T12 : Bool × List (List Nat × List Nat) := (true, [([], []), ([0], [0]), ([], []), ([], []), ([], []), ([3, 4], [3, 4]), ([5], [5]), ([2, 6], [2, 6]), ([7], [7]), ([1, 8, 7], [1, 8]), ([0, 1, 2, 3, 4, 5, 6, 7, 8, 9], []), ([10, 9, 9, 0, 1, 2, 3, 4, 5, 6, 7, 8, 9], [9, 10])])
def DT12.B12 : List Nat := [0, 1, 0, 0, 0, 24, 56, 124, 252, 511, 1023, 2047]
theorem DT12.tab12 : rtab .any (opsOf Try.f22 12) = DT12.T12 := by kernel_rfl
theorem DT12.bits12 : waitsOk DT12.T12.2 DT12.B12 = true := by kernel_rfl
theorem grown_setRow (w : World) (g : Nat) (cs : Array Value) : w.grownBy (w.setRow g cs) (some g) := ⟨rfl, rfl, rfl, by simp, fun i _ hi => setRow_other w g i cs (fun e => hi (by rw [e]))⟩
def kr : Array Value := #[.int .i64 0, .int .i64 0, .int .i64 0, .int .i64 0, .slice none 0 0, .slice none 0 0]
theorem zero43_one : kr.all (·.oneCell') = true := by simp [kr, Value.oneCell']
set_option maxHeartbeats 8000000 in
set_option maxRecDepth 100000 in
theorem Determine_walk (k : Nat) (K N : Int) (A2 : Option Addr) (c2 : Nat) (S : List Int) (A3 : Option Addr) (c3 : Nat) (F : List Int) (A4 : Option Addr) (c4 : Nat) (E : List S80) (r1 r2 r3 r4 : Int) (r5 r6 : List Int) (r7 : Int) (w : World)
    (hr2 : Kd.C (Kd.int .i64) w A2 S.length S) (hr3 : Kd.C (Kd.int .i64) w A3 F.length F) (hr4 : Kd.C k80 w A4 E.length E) (h : detG k K N S F E = some (r1, r2, r3, r4, r5, r6, r7)) :
    Calls Try.prog 22 #[.agg #[.int .i64 K, .int .i64 N, .slice A2 S.length c2, .slice A3 F.length c3, .slice A4 E.length c4]] w fun e w' => ∃ v4_ v5_ : Value, e = .returned (.tuple #[.agg #[.int .i64 r1, .int .i64 r2, .int .i64 r3, .int .i64 r4, v4_, v5_], .int .i64 r7]) ∧ Kd.R (Kd.int .i64) 3 w' w.heap.size (fun k_ => some k_ ≠ (v5_ : Value).ownBlock) v4_ r5 ∧ Kd.R (Kd.int .i64) 3 w' w.heap.size (fun k_ => some k_ ≠ (v4_ : Value).ownBlock) v5_ r6 ∧ Below w.heap.size w w' := by
  have hu25 := Try.underlying25
  have hu43 := Try.underlying43
  have hu80 := Try.underlying80
  have hu92 := Try.underlying92
  have hu93 := Try.underlying93
  unfold detG at h
  obtain ⟨p0, p1, hp⟩ : ∃ p0 p1, fI.g K N S F E = (p0, p1) := ⟨_, _, rfl⟩
  have hchk := fun (W : World) (hb : Below w.heap.size w W) => Check_walk K N A2 c2 S A3 c3 F A4 c4 E p0 p1 W (Kd.ak hr2 hb) (Kd.ak hr3 hb) (Kd.ak hr4 hb) hp
  have hok : p1 = 0 → RightN K N S F E := fun he => check_ok (by rw [hp]; exact he)
  rw [hp] at h
  simp only [] at h
  have H2 := aC.mk hr2
  have H3 := aC.mk hr3
  have H4 := aC.mk hr4
  clear hr2 hr3 hr4 hp
  obtain ⟨z43, i43⟩ := zero_of_info info43
  have hZ : ∀ w1, Below ((w.alloc (.cells #[.int .i64 K, .int .i64 N, .slice A2 S.length c2, .slice A3 F.length c3, .slice A4 E.length c4] 25)).alloc (.cells kr 43)).heap.size ((w.alloc (.cells #[.int .i64 K, .int .i64 N, .slice A2 S.length c2, .slice A3 F.length c3, .slice A4 E.length c4] 25)).alloc (.cells kr 43)) w1 → w1.heap[w.heap.size + 1]? = some (.cells kr 43 (0, 0)) := by
    intro w1 hb
    refine av ?_ hb
    have h := dH (w.alloc (.cells #[.int .i64 K, .int .i64 N, .slice A2 S.length c2, .slice A3 F.length c3, .slice A4 E.length c4] 25)) (.cells kr 43)
    simpa using h
  have HZ := aC.mk hZ
  clear hZ
  by_cases q1 : p1 ≠ 0
  · rw [if_pos q1] at h
    simp only [Option.some.injEq, Prod.mk.injEq] at h
    obtain ⟨rfl, rfl, rfl, rfl, rfl, rfl, rfl⟩ := h
    have q1b : (p1 != 0) = true := by simpa using q1
    clear hok q1
    go_enter Try.func22, Try.ntmps22
    go_wp2_with (first | (go_at_call 15; refine (hchk _ (aH (aH (Below.refl _ _) _) _)).mono ?_; rintro e w1 ⟨rfl, hb1⟩) | ((with_reducible refine dW (t := 43) (p := 2) rfl ?_); (refine wpList_store_rowTo rfl 43 (.tmp 2) (.tmp 23) rfl rfl (w.heap.size + 1) kr rfl rfl 43 _ (HZ.out _ hb1) ?_ rfl zero43_one ?_; (focus (rw [i43]; rfl)))))
    have hblk := setRow_heap w1 (w.heap.size + 1) _ kr 43 (0, 0) (HZ.out _ hb1)
    try simp only [Exit.inBlock, Exit.then]
    refine bodyPost_ret (results_ct rfl _ _ (w.heap.size + 1) 43 kr (0, 0) _ rfl hblk Try.underlying43 rfl (by rw [i43]; rfl)) rfl ?_
    exact ⟨_, _, rfl, Kd.jq _ _ _ _ _, Kd.jq _ _ _ _ _, below_setRow (ah (aH (aH (Below.refl _ _) _) _) hb1) (by omega) _⟩
  · rw [if_neg q1] at h
    have q0 : p1 = 0 := by omega
    subst q0
    have HOK := aC.mk (hok rfl)
    clear q1 hok
    have hfr : ((rowsOf N.toNat E).length : Int) = N := by rw [rows_length]; have := HOK.out.n; omega
    have hfl : ∀ j, ((rowsOf N.toNat E).getD j []).length ≤ 65536 := fun j => Nat.le_trans (rows_short _ _ _) HOK.out.el
    have hnr := fun (W : World) (hb : Below w.heap.size w W) => newRunner_walk K N A2 c2 S A3 c3 F A4 c4 E W (Kd.ak H4.out hb) HOK.out.n HOK.out.el (fun x hx => ⟨(HOK.out.e x hx).1, (HOK.out.e x hx).2.1⟩)
    generalize rowsOf N.toNat E = fr at h hfr hfl hnr
    have HFR := aC.mk hfr
    have HFL := aC.mk hfl
    clear hfr hfl
    cases hs : startF k N fr S with
    | none => rw [hs] at h; exact absurd h (by simp)
    | some s =>
      rw [hs] at h
      simp only [] at h
      have HSF := aC.mk hs
      cases hd : detF k K N F fr k 0 [s] [] [] with
      | none => rw [hd] at h; exact absurd h (by simp)
      | some res =>
      rw [hd] at h
      have HD0 := aC.mk hd
      have HRES := aC.mk h
      clear hs h hd
      obtain ⟨z88, i88⟩ := zero_of_info info88
      have hmm := @run_makeMap Try.prog
      go_enter Try.func22, Try.ntmps22
      go_wp2_with (first | (go_at_call 15; refine (hchk _ (aH (aH (Below.refl _ _) _) _)).mono ?_; rintro e w1 ⟨rfl, hb1⟩; have HB1 := aC.mk (ah (aH (aH (Below.refl w.heap.size w) (.cells #[.int .i64 K, .int .i64 N, .slice A2 S.length c2, .slice A3 F.length c3, .slice A4 E.length c4] 25)) (.cells kr 43)) hb1); have HZ1 := aC.mk (HZ.out _ hb1); have hbx := av (aW (dH w (.cells #[.int .i64 K, .int .i64 N, .slice A2 S.length c2, .slice A3 F.length c3, .slice A4 E.length c4] 25)) (.cells kr 43)) hb1; have HBX := aC.mk hbx; have hx0 : w1.cell? ⟨w.heap.size, 0, none⟩ = some (.int .i64 K) := (aD hbx 0).trans rfl; have hx1 : w1.cell? ⟨w.heap.size, 1, none⟩ = some (.int .i64 N) := (aD hbx 1).trans rfl; have hx2 : w1.cell? ⟨w.heap.size, 2, none⟩ = some (.slice A2 S.length c2) := (aD hbx 2).trans rfl; have hx3 : w1.cell? ⟨w.heap.size, 3, none⟩ = some (.slice A3 F.length c3) := (aD hbx 3).trans rfl; have hx4 : w1.cell? ⟨w.heap.size, 4, none⟩ = some (.slice A4 E.length c4) := (aD hbx 4).trans rfl; clear hb1 hbx) | (go_at_call 57; refine (hnr _ HB1.out).mono ?_; rintro e w3 ⟨rb, rfl, hR3, hb3⟩; have HR3 := aC.mk hR3; have HB3 := aC.mk (ah HB1.out hb3); have HZ3 := aC.mk (av HZ1.out hb3); have HBX3 := aC.mk (av HBX.out hb3); clear hR3 hb3 hx0 hx1 hx2 hx3 hx4) | (go_at_call 58; refine (start_walk k rb K N A2 c2 S _ _ fr s w3 _ HOK.out.n HFR.out HFL.out HR3.out (Kd.ak H2.out HB3.out) HOK.out.sl HSF.out).mono ?_; rintro e w4 ⟨rfl, hs4, hb4⟩; have HS4 := aC.mk hs4; have HR4 := aC.mk (HR3.out.below hb4); have HB4 := aC.mk (ah HB3.out hb4); have HZ4 := aC.mk (av HZ3.out hb4); have HBX4 := aC.mk (av HBX3.out hb4); have hlit := fun (W : World) => run_one_set W hs4; have hpl0 : PlaceAt ((w4.alloc (.cells (wordsOf s).toArray 88)).alloc (.map #[] 0)) (w4.heap.size + 1) [] := (by have h := dH (w4.alloc (.cells (wordsOf s).toArray 88)) (.map #[] 0); simpa [PlaceAt] using h); clear hs4 hb4) | ((with_reducible refine dW (t := 88) (p := 7) rfl ?_); refine wpList_store_rowTo rfl 88 (.tmp 7) (.tmp 28) rfl rfl w4.heap.size (wordsOf s).toArray rfl rfl 88 _ (dH w4 _) ?_ ?_ (set_one s) ?_; (focus (rw [i88, dx HS4.out])); (focus (rw [dx HS4.out]; simp)); rw [World.setRow_alloc_new]) | ((with_reducible refine bK (N := 30) rfl ?_); refine wpList_load_row rfl 88 (.tmp 7) rfl w4.heap.size rfl 88 (wordsOf s).toArray (0, 0) _ (aW (dH w4 _) _) Try.underlying88 rfl ?_ ?_; (focus (rw [i88, dx HS4.out]))) | ((with_reducible refine gate_insert rfl ?_); (refine wpList_place_put (row := []) (t := s) (b := w4.heap.size + 1) rfl (.tmp 29) (.tmp 30) (.const (.int .i64 0)) (.inl rfl) rfl rfl rfl rfl (by simp) HS4.out (by simp) hpl0 ?_; intro w6 hp6 hg6; have HP6 := aC.mk hp6; have HF6 := aC.mk (cZ (aW (dH w4 (.cells (wordsOf s).toArray 88)) (.map #[] 0)) hg6 (fun he => by injection he with he; omega)); have HB6 := aC.mk ((aH (Below.refl (w4.alloc (.cells (wordsOf s).toArray 88)).heap.size (w4.alloc (.cells (wordsOf s).toArray 88))) (.map #[] 0)).grown hg6 (by simp) (fun k hk => by injection hk with hk; rw [← hk]; simp)); clear hp6 hg6 hpl0)) | ((with_reducible refine bK (N := 32) rfl ?_); refine wpList_load_row rfl 88 (.tmp 7) rfl w4.heap.size rfl 88 (wordsOf s).toArray (0, 0) _ HF6.out Try.underlying88 rfl ?_ ?_; (focus (rw [i88, dx HS4.out]))) | ((with_reducible refine bK (N := 33) rfl ?_); (refine Kd.R_lit kset (w0 := w4.alloc (.cells (wordsOf s).toArray 88)) (w4.alloc (.cells (wordsOf s).toArray 88)).heap.size 88 rfl (N := 33) rfl (xs := [s]) (inner := wordsOf s) (ok := fun _ => True) (okp := fun _ => True) ?hr ?hp (fun _ hk => hk) trivial HB6.out HB6.out.size (by simp) ?_; (case hr => exact exec_one_set rfl rfl HS4.out _); (case hp => exact reps_one_set HS4.out); intro v7 w7 ho7 hb7 hg7 hnew7; have HO7 := aC.mk ho7; have HB7 := aC.mk hb7; have HP7 := aC.mk (HP6.out.grown hg7 (by simp)); have hx0 : w7.cell? ⟨w.heap.size, 0, none⟩ = some (.int .i64 K) := (aD ((hb7.block w.heap.size (by have := gq HBX4.out; simp; omega)).trans (aW HBX4.out _)) 0).trans rfl; clear ho7 hb7 hg7 hnew7 hlit)))
      have hD0 : DetAt (w4.alloc (.cells (wordsOf s).toArray 88)) (w4.heap.size + 1) w7.heap.size K [s] [s] v7 [] (.slice none 0 0) [] (.slice none 0 0) (w7.alloc (.cells #[.int .i64 1, .int .i64 K, .int .i64 2, .int .i64 0, .slice none 0 0, .slice none 0 0] 43)) := by
        have hb := aH (Below.refl w7.heap.size w7) (.cells #[.int .i64 1, .int .i64 K, .int .i64 2, .int .i64 0, .slice none 0 0, .slice none 0 0] 43)
        exact ⟨av HP7.out hb, Kd.dz HO7.out hb, dH w7 _, Kd.jq _ _ _ _ _, Kd.jq _ _ _ _ _, fun k hk => by simp [Value.ownBlock] at hk, di HB7.out HB7.out.size hb, by simp, HB7.out.size⟩
      have hb5 := aH (Below.refl w4.heap.size w4) (.cells (wordsOf s).toArray 88)
      have HR5 := aC.mk (HR4.out.below hb5)
      have HB5 := aC.mk (ah HB4.out hb5)
      have HZ5 := aC.mk (av HZ4.out hb5)
      have HBX5 := aC.mk (av HBX4.out hb5)
      have HSS0 : aC (∀ q ∈ [s], IsSet q) := ⟨fun q hq => by simp only [List.mem_singleton] at hq; rw [hq]; exact HS4.out⟩
      have HN0 : aC ([s].Nodup) := ⟨by simp⟩
      generalize hmbq : w4.heap.size + 1 = mb at hD0 ⊢
      generalize hW5q : w4.alloc (.cells (wordsOf s).toArray 88) = W5 at hD0 HR5 HB5 HZ5 HBX5
      clear hb5 HP7 HO7 HB7 HR4 HB4 HZ4 HBX4 HZ3 HBX3 HP6 HF6 HB6 hx0 hmm hchk hnr hW5q hmbq HR3 HB3 HZ1 HBX HB1 HZ HSF
      generalize w7.heap.size = M at hD0 ⊢
      go_loopg [9, 11] k (fun kq v9 v11 wr => ∃ (i : Nat) (row : List (List Nat)) (nx : List Int) (nxv : Value) (out : List Int) (outv : Value), v11 = .int .i64 (i : Int) ∧ aC (detF k K N F fr kq i row nx out = some res) ∧ aC (kq ≤ k) ∧ aC (DetAt W5 mb M K row row v9 nx nxv out outv wr) ∧ aC (∀ q ∈ row, IsSet q) ∧ aC row.Nodup ∧ aC (row.length ≤ 1024))
      case atStart => exact ⟨0, [s], [], _, [], _, rfl, HD0, ⟨Nat.le_refl _⟩, ⟨hD0⟩, HSS0, HN0, ⟨by simp⟩⟩
      case round =>
        clear hD0 HD0 HSS0 HN0
        obtain ⟨i, row, nx, nxv, out, outv, rfl, HF, HK1, HD, HSS, HND, HRL⟩ := hrel
        have hrl := HRL.out
        cases gk with
        | zero => exact absurd HF.out (by simp [detF])
        | succ k1 =>
          have H := HF.out
          clear HF
          simp only [detF] at H
          by_cases e1 : i < row.length
          · rw [if_pos e1] at H
            by_cases e2 : out.length < 1099511627776
            · rw [if_pos e2] at H
              obtain ⟨gr, cr, rfl, hrg, hsi⟩ := row_at HD.out.row i e1
              generalize hsiq : row.getD i [] = si at H hrg hsi
              cases hin : detIn k N fr si (List.range K.toNat) row nx with
              | none => rw [hin] at H; exact absurd H (by simp)
              | some ires =>
                rw [hin] at H
                have HIN := aC.mk hin
                have HNX := aC.mk H
                have HSI := aC.mk hsiq
                have HI1 := aC.mk e1
                have HSET := aC.mk hsi
                obtain ⟨Ao, co, rfl⟩ := Kd.bu HD.out.out
                clear hin H hsiq hsi
                have HOL := aC.mk e2
                go_wp2
                have HDD := aC.mk (HD.out.low (aI (Below.refl _ _)))
                have hrl2 : (row.length : Int) ≤ 1024 := by omega
                refine start_ (n := 12) (S := fun w' => w'.cell? ⟨M, 5, none⟩ = some (.slice Ao out.length co) ∧ w'.rangeAt gr (i * 16) (wordsOf si)) (ds := [9, 11]) #[false, false, false, false, false, false, false, false, false, false, false, false] (by kernel_rfl) rfl rfl ⟨(aD (af HD.out.m) 5).trans rfl, hrg⟩ (fun hHeld => ?_)
                refine with_tabW DT12.tab12 DT12.bits12 (fun HT_ HW_ => ?_)
                generalize wr.drew = wd at HDD hHeld ⊢
                refine dM (i := 0) (N := (some 43)) (v := ?_) (a' := ?_) #[true, false, false, false, false, false, false, false, false, false, false, false] rfl rfl (dE HT_.out (by kernel_rfl)) (fun _ _ _ h => h) (Or.inl ⟨by rfl, ?_⟩) ?_ ?_
                rotate_left
                · intro w'
                  go_simp
                  with_reducible rfl
                rotate_left
                · simp only [Act.put, List.setIfInBounds_toArray, List.set_cons_zero, List.set_cons_succ, bT, bU]
                  rfl
                refine dM (i := 2) (N := (some 45)) (v := ?_) (a' := ?_) #[true, false, true, false, false, false, false, false, false, false, false, false] rfl rfl (dE HT_.out (by kernel_rfl)) (fun _ _ _ h => h) (Or.inl ⟨by rfl, ?_⟩) ?_ ?_
                rotate_left
                · intro w'
                  go_simp
                  with_reducible rfl
                rotate_left
                · simp only [Act.put, List.setIfInBounds_toArray, List.set_cons_zero, List.set_cons_succ, bT, bU]
                  rfl
                refine dM (i := 3) (N := (some 46)) (v := ?_) (a' := ?_) #[true, false, true, true, false, false, false, false, false, false, false, false] rfl rfl (dE HT_.out (by kernel_rfl)) (fun _ _ _ h => h) (Or.inl ⟨by rfl, ?_⟩) ?_ ?_
                rotate_left
                · intro w'
                  go_simp
                  with_reducible rfl
                rotate_left
                · simp only [Act.put, List.setIfInBounds_toArray, List.set_cons_zero, List.set_cons_succ, bT, bU]
                  rfl
                refine dM (i := 4) (N := (some 47)) (v := ?_) (a' := ?_) #[true, false, true, true, true, false, false, false, false, false, false, false] rfl rfl (dE HT_.out (by kernel_rfl)) (fun _ _ _ h => h) (Or.inl ⟨by rfl, ?_⟩) ?_ ?_
                rotate_left
                · intro w'
                  go_simp
                  with_reducible rfl
                rotate_left
                · simp only [Act.put, List.setIfInBounds_toArray, List.set_cons_zero, List.set_cons_succ, bT, bU]
                  rfl
                refine dM (i := 5) (N := (some 48)) (v := ?_) (a' := ?_) #[true, false, true, true, true, true, false, false, false, false, false, false] rfl rfl (dE HT_.out (by kernel_rfl)) (fun _ _ _ h => h) (Or.inl ⟨by rfl, ?_⟩) ?_ ?_
                rotate_left
                · intro w'
                  go_simp
                  with_reducible rfl
                rotate_left
                · simp only [Act.put, List.setIfInBounds_toArray, List.set_cons_zero, List.set_cons_succ, bT, bU]
                  rfl
                refine jB (i := 1) (N := (some 44)) (v := ?_) (a' := ?_) #[true, true, true, true, true, true, false, false, false, false, false, false] rfl rfl (ek HT_.out HW_.out (by kernel_rfl)) (fun _ _ _ h => h) (Or.inl ⟨by rfl, ?_⟩) hHeld ?_ ?_
                rotate_left
                · rintro w' ⟨s0, s1⟩
                  go_simp
                  with_reducible rfl
                rotate_left
                · simp only [Act.put, List.setIfInBounds_toArray, List.set_cons_zero, List.set_cons_succ, bT, bU]
                  rfl
                refine jB (i := 6) (N := (some 49)) (v := (.agg (wordsOf si).toArray)) (a' := ?_) #[true, true, true, true, true, true, true, false, false, false, false, false] rfl rfl (ek HT_.out HW_.out (by kernel_rfl)) (fun _ _ _ h => h) (yieldsIf_load_mid (by rfl) 88 _ rfl gr (i * 16) rfl (wordsOf si) _ (fun w' h => h.2) Try.underlying88 rfl (by rw [i88]; simp [wordsOf, HSET.out.1])) hHeld ?_ ?_
                rotate_left
                · simp only [Act.put, List.setIfInBounds_toArray, List.set_cons_zero, List.set_cons_succ, bT, bU]
                  rfl
                refine one_ (i := 7) (N := (some 50)) #[true, true, true, true, true, true, true, true, false, false, false, false] rfl rfl (one_of HT_.out (by kernel_rfl)) (by decide) (fun K_ hK => ?_)
                have hrgd := hHeld.2
                refine goes_ Try.func60 (by kernel_rfl) rfl #[.pointer (some ⟨rb, 0, none⟩), .agg (wordsOf si).toArray] (by rfl) rfl rfl (by simp [Act.eval]) ?_
                refine (final_walk rb K N A3 c3 F _ _ fr si wd _ (by have h1 := HOK.out.fl; have h2 := HOK.out.n; omega) (HR5.out.below HDD.out.below) (Kd.ak (Kd.ak H3.out HB5.out) HDD.out.below) HSET.out).mono ?_
                rintro e w8 ⟨rfl, hb8⟩
                refine ⟨_, rfl, ?_⟩
                have HDE := aC.mk (HDD.out.low hb8)
                have hrg8 : w8.rangeAt gr (i * 16) (wordsOf si) := fun j v hv => (hb8.cell (p := ⟨gr, i * 16 + j, none⟩) (World.block_lt_of_cell? wd _ (hrgd j v hv))).trans (hrgd j v hv)
                refine hK.out _ _ ⟨(aD HDE.out.m 5).trans rfl, hrg8⟩ (fun hHeld => ?_); clear hK K_ hrg hb8
                refine norm_ (a' := ?_) ?_ ?_
                rotate_left
                · show Act.put _ (some 50) _ = _
                  simp only [Act.put, List.setIfInBounds_toArray, List.set_cons_zero, List.set_cons_succ, bT, bU]
                  rfl
                refine one_ (i := 8) (N := (some 51)) #[true, true, true, true, true, true, true, true, true, false, false, false] rfl rfl (one_of HT_.out (by kernel_rfl)) (by decide) (fun K_ hK => ?_)
                refine value_ (w1 := ?_) (v := ?_) (by rfl) rfl ?_ ?_
                rotate_left 2
                · go_simp
                  constructor
                  · rfl
                  · rfl
                refine hK.out _ _ ⟨(aD (aW HDE.out.m _) 5).trans rfl, fun j v hv => (World.cell?_alloc_lt _ _ _ (World.block_lt_of_cell? _ _ (hrg8 j v hv))).trans (hrg8 j v hv)⟩ (fun hHeld => ?_); clear hK K_
                refine norm_ (a' := ?_) ?_ ?_
                rotate_left
                · show Act.put _ (some 51) _ = _
                  simp only [Act.put, List.setIfInBounds_toArray, List.set_cons_zero, List.set_cons_succ, bT, bU]
                  rfl
                refine last_ (i := 9) (N := (some 52)) #[true, true, true, true, true, true, true, true, true, true, false, false] rfl rfl (one_of HT_.out (by kernel_rfl)) (by decide) (fun K_ hK => ?_)
                refine Kd.R_append_step (Kd.int .i64) (w0 := W5) W5.heap.size (by rfl) (.tmp 44) (.tmp 51) 22 3 (.int .i64 0) 8 rfl Try.underlying22 info3 rfl (by decide) (by omega) (.slice Ao out.length co) out (fiRow si F 0) [.int .i64 (fiRow si F 0)] (fun _ => True) (fun _ => False) rfl rfl rfl (fun _ hk => hk.elim) (fun _ _ => trivial) HDE.out.out HDE.out.below HDE.out.below.size (by have := HOL.out; omega) ?_
                intro v1 w1 ho hb hg hat
                obtain ⟨A9, c9, rfl⟩ := Kd.bu ho
                have hM1 := cZ HDE.out.m hg (Kd.jL HDE.out.out HDE.out.m (by decide))
                have hfz := aA hM1 5
                have hcl : w1.cell? ⟨M, 5, none⟩ = some (.slice Ao out.length co) := (aD hM1 5).trans rfl
                refine hK.out _ _ ?_; clear hK K_
                refine norm_ (a' := ?_) ?_ ?_
                rotate_left
                · show Act.put _ (some 52) _ = _
                  simp only [Act.put, List.setIfInBounds_toArray, List.set_cons_zero, List.set_cons_succ, bT, bU]
                  rfl
                refine dM (i := 10) (N := (some 53)) (v := ?_) (a' := ?_) #[true, true, true, true, true, true, true, true, true, true, true, false] rfl rfl (dE HT_.out (by kernel_rfl)) (fun _ _ _ h => h) (Or.inl ⟨by rfl, ?_⟩) ?_ ?_
                rotate_left
                · intro w'
                  go_simp
                  with_reducible rfl
                rotate_left
                · simp only [Act.put, List.setIfInBounds_toArray, List.set_cons_zero, List.set_cons_succ, bT, bU]
                  rfl
                refine last_ (i := 11) (N := none) #[true, true, true, true, true, true, true, true, true, true, true, true] rfl rfl (one_of HT_.out (by kernel_rfl)) (by decide) (fun K_ hK => ?_)
                refine skip_ (w1 := ?_) (by rfl) rfl ?_ ?_
                rotate_left
                · go_simp
                  rfl
                refine hK.out _ _ ?_; clear hK K_
                refine done_ (done_of HT_.out (by kernel_rfl)) ?_
                have HD2 := DetAt.outAp HDE.out ho hb hg hat
                simp only [List.length_append, List.length_singleton] at HD2
                clear ho hb hg hat hM1 hfz hcl
                generalize w1.setCell ⟨M, 5, none⟩ (.slice A9 (out.length + 1) c9) = w2 at HD2 ⊢
                generalize Value.slice A9 (out.length + 1) c9 = ov2 at HD2
                generalize hout2 : out ++ [fiRow si F 0] = out2 at HD2 HNX
                have hx0 : w2.cell? ⟨w.heap.size, 0, none⟩ = some (.int .i64 K) := (aD (av HBX5.out HD2.below) 0).trans rfl
                have HD3 := aC.mk HD2
                clear HD2 HDE HDD HD hHeld hrgd hrg8 hout2
                go_wp2
                clear hx0
                have hKb : K ≤ 64 := HOK.out.k.2
                have hKa : 1 ≤ K := HOK.out.k.1
                go_loopw [56, 9] (fun v56 v9 wr2 => ∃ (x : Nat) (jc : List (List Nat)) (nx1 : List Int) (nxv1 : Value), v56 = .int .i64 (x : Int) ∧ aC (x ≤ K.toNat) ∧ aC (detIn k N fr si ((List.range K.toNat).drop x) jc nx1 = some ires) ∧ aC (DetAt W5 mb M K jc jc v9 nx1 nxv1 out2 ov2 wr2) ∧ aC (∀ q ∈ jc, IsSet q) ∧ aC jc.Nodup ∧ aC (jc.length ≤ 1024) ∧ aC (i < jc.length ∧ jc.getD i [] = si)) (fun v56 _ _ => K.toNat - (intOf v56).toNat)
                case atStart => exact ⟨0, row, nx, nxv, rfl, ⟨by omega⟩, HIN, HD3, HSS, HND, HRL, ⟨HI1.out, HSI.out⟩⟩
                case round =>
                  clear HIN HD3 HSS HND HRL HI1 HSI hrl hrl2
                  obtain ⟨x, jc, nx1, nxv1, rfl, HX, HIN, HD, HSS, HND, HRL, HRI⟩ := hrel
                  obtain ⟨gr2, cr2, rfl, hrg2, _⟩ := row_at HD.out.row i HRI.out.1
                  rw [HRI.out.2] at hrg2
                  obtain ⟨An, cn, rfl⟩ := Kd.bu HD.out.nx
                  have hrl := HRL.out
                  have hri := HRI.out.1
                  by_cases hlt : x < K.toNat
                  · have H := HIN.out
                    have hd : (List.range K.toNat).drop x = x :: (List.range K.toNat).drop (x + 1) := by
                      rw [List.drop_eq_getElem_cons (by simpa using hlt)]
                      simp
                    rw [hd] at H
                    clear HIN hd
                    simp only [detIn] at H
                    have hlt' : (x : Int) < K := by omega
                    have HLT := aC.mk hlt
                    cases hstp : stepF k N fr si (x : Int) with
                    | none => rw [hstp] at H; exact absurd H (by simp)
                    | some t =>
                      rw [hstp] at H
                      simp only [] at H
                      have hst := step_walk k rb K N _ _ _ fr si t (x : Int) wr _ HOK.out.n HFR.out HFL.out (HR5.out.below HD.out.below) HSET.out hstp
                      clear hstp
                      by_cases e3 : nx1.length < 1099511627776
                      · rw [if_pos e3] at H
                        cases hfi : jc.findIdx? (· == t) with
                        | some j =>
                          rw [hfi] at H
                          simp only [] at H
                          have HH2 := aC.mk H
                          clear H
                          go_wp2_with (first | ((with_reducible refine bK (N := 63) rfl ?_); refine wpList_load_mid rfl 88 (.tmp 62) rfl gr2 (i * 16) rfl (wordsOf si) _ hrg2 Try.underlying88 rfl ?_ ?_; (focus (rw [i88]; simp [wordsOf, HSET.out.1]))) | (go_at_call 59; refine hst.mono ?_; rintro e w8 ⟨rfl, ht8, hb8⟩; have HT8 := aC.mk ht8; have HD9 := aC.mk ((HD.out.low hb8).low (aH (Below.refl _ _) (.cells (wordsOf t).toArray 88))); have hlk := look_some HSS.out HND.out HT8.out hfi HD9.out.place; have hm4 : (w8.alloc (.cells (wordsOf t).toArray 88)).cell? ⟨M, 4, none⟩ = some (.slice An nx1.length cn) := (aD HD9.out.m 4).trans rfl; clear ht8 hb8) | ((with_reducible refine dW (t := 88) (p := 13) rfl ?_); refine wpList_store_rowTo rfl 88 (.tmp 13) (.tmp 65) rfl rfl w8.heap.size (wordsOf t).toArray rfl rfl 88 _ (dH w8 _) ?_ ?_ (set_one t) ?_; (focus (rw [i88, dx HT8.out])); (focus (rw [dx HT8.out]; simp)); rw [World.setRow_alloc_new]; have hB9 := dH w8 (.cells (wordsOf t).toArray 88); generalize w8.alloc (.cells (wordsOf t).toArray 88) = w9 at HD9 hlk hm4 hB9 ⊢) | ((with_reducible refine bK (N := 68) rfl ?_); refine wpList_load_row rfl 88 (.tmp 13) rfl w8.heap.size rfl 88 (wordsOf t).toArray (0, 0) _ hB9 Try.underlying88 rfl ?_ ?_; (focus (rw [i88, dx HT8.out]))) | ((with_reducible refine dF (b := .append) (xs := #[.tmp 88, .tmp 90]) rfl ?_); at_builtin; (refine Kd.iP (Kd.int .i64) (w0 := W5) W5.heap.size rfl (.tmp 88) (.tmp 90) 22 3 (.int .i64 0) 8 rfl Try.underlying22 info3 rfl (by decide) (by omega) (.slice An nx1.length cn) nx1 (j : Int) [.int .i64 (j : Int)] (fun _ => True) (fun _ => False) rfl rfl ?aP (fun _ hk => hk.elim) ?aF ?aO ?aB ?aS ?aL ?_; (case aP => exact rfl); (case aB => exact HD9.out.below); (case aF => exact (fun _ _ => trivial)); (case aO => exact HD9.out.nx); (case aS => exact HD9.out.below.size); (case aL => omega); intro v12 w12 ho hb hg hat; obtain ⟨A9, c9, rfl⟩ := Kd.bu ho; have hM1 := cZ HD9.out.m hg (Kd.jL HD9.out.nx HD9.out.m (by decide)); have hfz := aA hM1 4; have hcl : w12.cell? ⟨M, 4, none⟩ = some (.slice An nx1.length cn) := (aD hM1 4).trans rfl; have HD12 := aC.mk (DetAt.nextAp HD9.out ho hb hg hat); clear ho hb hg hat hM1)))
                          clear hm4 hlk hcl hfz
                          go_roundw
                          case rel => exact ⟨x + 1, jc, nx1 ++ [(j : Int)], _, by go_num, ⟨by have := HLT.out; omega⟩, HH2, by simpa using HD12, HSS, HND, HRL, HRI⟩
                          case measure => have := HLT.out; simp [intOf]; omega
                        | none =>
                          rw [hfi] at H
                          simp only [] at H
                          by_cases e4 : jc.length = 1024
                          · rw [if_pos e4] at H
                            simp only [Option.some.injEq] at H
                            subst H
                            have hr0 := HNX.out
                            simp only [Option.some.injEq] at hr0
                            subst hr0
                            have hr := HRES.out
                            simp only [Option.some.injEq, Prod.mk.injEq] at hr
                            obtain ⟨rfl, rfl, rfl, rfl, rfl, rfl, rfl⟩ := hr
                            have e4b : (jc.length == 1024) = true := by simpa using e4
                            have e4c : ((jc.length : Int) == 1024) = true := by simp [e4]
                            go_wp2_with (first | ((with_reducible refine bK (N := 63) rfl ?_); refine wpList_load_mid rfl 88 (.tmp 62) rfl gr2 (i * 16) rfl (wordsOf si) _ hrg2 Try.underlying88 rfl ?_ ?_; (focus (rw [i88]; simp [wordsOf, HSET.out.1]))) | (go_at_call 59; refine hst.mono ?_; rintro e w8 ⟨rfl, ht8, hb8⟩; have HT8 := aC.mk ht8; have HD9 := aC.mk ((HD.out.low hb8).low (aH (Below.refl _ _) (.cells (wordsOf t).toArray 88))); have hlk := look_none HSS.out HT8.out hfi HD9.out.place; have hm4 : (w8.alloc (.cells (wordsOf t).toArray 88)).cell? ⟨M, 4, none⟩ = some (.slice An nx1.length cn) := (aD HD9.out.m 4).trans rfl; clear ht8 hb8) | ((with_reducible refine dW (t := 88) (p := 13) rfl ?_); refine wpList_store_rowTo rfl 88 (.tmp 13) (.tmp 65) rfl rfl w8.heap.size (wordsOf t).toArray rfl rfl 88 _ (dH w8 _) ?_ ?_ (set_one t) ?_; (focus (rw [i88, dx HT8.out])); (focus (rw [dx HT8.out]; simp)); rw [World.setRow_alloc_new]; have hB9 := dH w8 (.cells (wordsOf t).toArray 88); generalize w8.alloc (.cells (wordsOf t).toArray 88) = w9 at HD9 hlk hm4 hB9 ⊢) | ((with_reducible refine bK (N := 68) rfl ?_); refine wpList_load_row rfl 88 (.tmp 13) rfl w8.heap.size rfl 88 (wordsOf t).toArray (0, 0) _ hB9 Try.underlying88 rfl ?_ ?_; (focus (rw [i88, dx HT8.out]))) | ((with_reducible refine dW (t := 43) (p := 2) rfl ?_); (refine wpList_store_rowTo rfl 43 (.tmp 2) (.tmp 77) rfl rfl (w.heap.size + 1) kr rfl rfl 43 _ (av HZ5.out HD9.out.below) ?_ rfl zero43_one ?_; (focus (rw [i43]; rfl)))))
                            try simp only [Exit.inBlock, Exit.then]
                            refine bodyPost_ret (results_ct rfl _ _ (w.heap.size + 1) 43 kr (0, 0) _ rfl (setRow_heap _ (w.heap.size + 1) _ kr 43 (0, 0) (av HZ5.out HD9.out.below)) Try.underlying43 rfl (by rw [i43]; rfl)) rfl ?_
                            exact ⟨_, _, rfl, Kd.jq _ _ _ _ _, Kd.jq _ _ _ _ _, below_setRow (di HB5.out HB5.out.size HD9.out.below) (by omega) _⟩
                          · rw [if_neg e4] at H
                            have HH2 := aC.mk H
                            clear H
                            have e4b : (jc.length == 1024) = false := by simpa using e4
                            have e4c : ((jc.length : Int) == 1024) = false := by
                              have : ¬ ((jc.length : Int) = 1024) := by omega
                              simpa using this
                            go_wp2_with (first | ((with_reducible refine bK (N := 63) rfl ?_); refine wpList_load_mid rfl 88 (.tmp 62) rfl gr2 (i * 16) rfl (wordsOf si) _ hrg2 Try.underlying88 rfl ?_ ?_; (focus (rw [i88]; simp [wordsOf, HSET.out.1]))) | (go_at_call 59; refine hst.mono ?_; rintro e w8 ⟨rfl, ht8, hb8⟩; have HT8 := aC.mk ht8; have HD9 := aC.mk ((HD.out.low hb8).low (aH (Below.refl _ _) (.cells (wordsOf t).toArray 88))); have hlk := look_none HSS.out HT8.out hfi HD9.out.place; have hm4 : (w8.alloc (.cells (wordsOf t).toArray 88)).cell? ⟨M, 4, none⟩ = some (.slice An nx1.length cn) := (aD HD9.out.m 4).trans rfl; clear ht8 hb8) | ((with_reducible refine dW (t := 88) (p := 13) rfl ?_); refine wpList_store_rowTo rfl 88 (.tmp 13) (.tmp 65) rfl rfl w8.heap.size (wordsOf t).toArray rfl rfl 88 _ (dH w8 _) ?_ ?_ (set_one t) ?_; (focus (rw [i88, dx HT8.out])); (focus (rw [dx HT8.out]; simp)); rw [World.setRow_alloc_new]; have hB9 := dH w8 (.cells (wordsOf t).toArray 88); generalize w8.alloc (.cells (wordsOf t).toArray 88) = w9 at HD9 hlk hm4 hB9 ⊢) | ((with_reducible refine bK (N := 68) rfl ?_); refine wpList_load_row rfl 88 (.tmp 13) rfl w8.heap.size rfl 88 (wordsOf t).toArray (0, 0) _ hB9 Try.underlying88 rfl ?_ ?_; (focus (rw [i88, dx HT8.out]))) | ((with_reducible refine bK (N := 81) rfl ?_); refine wpList_load_row rfl 88 (.tmp 13) rfl w8.heap.size rfl 88 (wordsOf t).toArray (0, 0) _ hB9 Try.underlying88 rfl ?_ ?_; (focus (rw [i88, dx HT8.out]))) | ((with_reducible refine gate_update rfl ?_); (refine wpList_place_put (row := jc) (t := t) (b := mb) rfl (.tmp 80) (.tmp 81) (.tmp 82) (.inr rfl) rfl rfl rfl rfl HSS.out HT8.out (not_mem_of_none hfi) HD9.out.place ?_; intro w10 hp10 hg10; have HD10 := aC.mk (HD9.out.placed hp10 hg10); have HT10 := aC.mk (cZ hB9 hg10 (fun he => place_blk_ne HD9.out.place hB9 (by injection he with he; exact he.symm))); clear hp10 hg10 hm4 hlk)) | ((with_reducible refine bK (N := 84) rfl ?_); refine wpList_load_row rfl 88 (.tmp 13) rfl w8.heap.size rfl 88 (wordsOf t).toArray (0, 0) _ HT10.out Try.underlying88 rfl ?_ ?_; (focus (rw [i88, dx HT8.out]))) | ((with_reducible refine bK (N := 85) rfl ?_); (refine Kd.event_run rfl (exec_one_set rfl rfl HT8.out _) ?_)) | ((with_reducible refine dF (b := .append) (xs := #[.tmp 83, .tmp 85]) rfl ?_); at_builtin; (refine Kd.iP kset (w0 := W5) W5.heap.size rfl (.tmp 83) (.tmp 85) 93 88 (.agg (Array.replicate 16 (.int .u64 0))) 128 rfl Try.underlying93 info88b rfl (by decide) (by omega) (.slice (some ⟨gr2, 0, none⟩) jc.length cr2) jc t (wordsOf t) (fun _ => True) (fun _ => False) rfl rfl ?aP (fun _ hk => hk.elim) ?aF ?aO ?aB ?aS ?aL ?_; (case aP => exact ⟨HT8.out, rfl⟩); (case aB => exact HD10.out.below); (case aF => exact (fun _ _ => trivial)); (case aO => exact HD10.out.row); (case aS => exact HD10.out.below.size); (case aL => omega); intro v11 w11 ho hb hg hat; have HD11 := aC.mk (HD10.out.rowAp ho hb hg); have hm4 : w11.cell? ⟨M, 4, none⟩ = some (.slice An nx1.length cn) := (aD HD11.out.m 4).trans rfl; clear ho hb hg hat)) | ((with_reducible refine dF (b := .append) (xs := #[.tmp 88, .tmp 90]) rfl ?_); at_builtin; (refine Kd.iP (Kd.int .i64) (w0 := W5) W5.heap.size rfl (.tmp 88) (.tmp 90) 22 3 (.int .i64 0) 8 rfl Try.underlying22 info3 rfl (by decide) (by omega) (.slice An nx1.length cn) nx1 (jc.length : Int) [.int .i64 (jc.length : Int)] (fun _ => True) (fun _ => False) rfl rfl ?aP (fun _ hk => hk.elim) ?aF ?aO ?aB ?aS ?aL ?_; (case aP => exact rfl); (case aB => exact HD11.out.below); (case aF => exact (fun _ _ => trivial)); (case aO => exact HD11.out.nx); (case aS => exact HD11.out.below.size); (case aL => omega); intro v12 w12 ho hb hg hat; obtain ⟨A9, c9, rfl⟩ := Kd.bu ho; have hM1 := cZ HD11.out.m hg (Kd.jL HD11.out.nx HD11.out.m (by decide)); have hfz := aA hM1 4; have hcl : w12.cell? ⟨M, 4, none⟩ = some (.slice An nx1.length cn) := (aD hM1 4).trans rfl; have HD12 := aC.mk (DetAt.nextAp HD11.out ho hb hg hat); clear ho hb hg hat hM1)))
                            clear hm4 hcl hfz
                            go_roundw
                            case rel =>
                              refine ⟨x + 1, jc ++ [t], nx1 ++ [(jc.length : Int)], _, by go_num, ⟨by have := HLT.out; omega⟩, HH2, by simpa using HD12, ⟨?_⟩, ⟨?_⟩, ⟨?_⟩, ⟨?_, ?_⟩⟩
                              · intro q hq
                                rcases List.mem_append.1 hq with hq | hq
                                · exact HSS.out q hq
                                · simp only [List.mem_singleton] at hq; rw [hq]; exact HT8.out
                              · exact List.nodup_append.2 ⟨HND.out, by simp, fun a ha b hb he => by simp only [List.mem_singleton] at hb; exact not_mem_of_none hfi (by rw [← hb, ← he]; exact ha)⟩
                              · have h1 := HRL.out
                                have h2 : ¬ jc.length = 1024 := by intro h; rw [h] at e4b; cases e4b
                                simp only [List.length_append, List.length_singleton]
                                omega
                              · have := HRI.out.1
                                simp only [List.length_append, List.length_singleton]
                                omega
                              · rw [List.getD_eq_getElem?_getD, List.getElem?_append_left HRI.out.1, ← List.getD_eq_getElem?_getD]
                                exact HRI.out.2
                            case measure => have := HLT.out; simp [intOf]; omega
                      · rw [if_neg e3] at H; exact absurd H (by simp)
                  · have H := HIN.out
                    rw [List.drop_of_length_le (by simp; omega)] at H
                    simp only [detIn, Option.some.injEq] at H
                    subst H
                    have hlt' : ¬ ((x : Int) < K) := by omega
                    have hr := HNX.out
                    simp only [] at hr
                    go_wp2
                    go_roundg k1
                    case rel => exact ⟨i + 1, jc, nx1, _, out2, _, by go_num, ⟨hr⟩, ⟨by have := HK1.out; omega⟩, HD, HSS, HND, HRL⟩
                    case measure => have := HK1.out; omega
            · rw [if_neg e2] at H; exact absurd H (by simp)
          · rw [if_neg e1] at H
            have hlt' : ¬ ((i : Int) < (row.length : Int)) := by omega
            simp only [Option.some.injEq] at H
            subst H
            have hr := HRES.out
            simp only [Option.some.injEq, Prod.mk.injEq] at hr
            obtain ⟨rfl, rfl, rfl, rfl, rfl, rfl, rfl⟩ := hr
            obtain ⟨Ar, cr, rfl⟩ := Kd.bu HD.out.row
            obtain ⟨An, cn, rfl⟩ := Kd.bu HD.out.nx
            obtain ⟨Ao, co, rfl⟩ := Kd.bu HD.out.out
            have hfz := aA HD.out.m 3
            have hcl : wr.cell? ⟨M, 3, none⟩ = some (.int .i64 0) := (aD HD.out.m 3).trans rfl
            have hM2 := blk_put HD.out.m 3 (.int .i64 (row.length : Int)) (cs' := #[.int .i64 1, .int .i64 K, .int .i64 2, .int .i64 (row.length : Int), .slice An nx.length cn, .slice Ao out.length co]) rfl
            have hZr := av HZ5.out HD.out.below
            have hMZ : M ≠ w.heap.size + 1 := by
              have h1 := HD.out.hM
              have h2 := gq HZ5.out
              omega
            have hZ2 := blk_far hZr (p := ⟨M, 3, none⟩) (fun e => hMZ e.symm) (.int .i64 (row.length : Int))
            have hone : (#[.int .i64 1, .int .i64 K, .int .i64 2, .int .i64 (row.length : Int), .slice An nx.length cn, .slice Ao out.length co] : Array Value).all (·.oneCell') = true := by simp [Value.oneCell']
            go_wp2_with (first | ((with_reducible refine bK (N := 97) rfl ?_); (refine wpList_load_row rfl 43 (.tmp 10) rfl M rfl 43 #[.int .i64 1, .int .i64 K, .int .i64 2, .int .i64 (row.length : Int), .slice An nx.length cn, .slice Ao out.length co] (0, 0) _ hM2 Try.underlying43 rfl ?_ ?_; (focus (rw [i43]; rfl)))) | ((with_reducible refine dW (t := 43) (p := 2) rfl ?_); (refine wpList_store_rowTo rfl 43 (.tmp 2) (.tmp 97) rfl rfl (w.heap.size + 1) #[.int .i64 1, .int .i64 K, .int .i64 2, .int .i64 (row.length : Int), .slice An nx.length cn, .slice Ao out.length co] rfl rfl 43 _ hZ2 ?_ rfl hone ?_; (focus (rw [i43]; rfl)))))
            have hblk := setRow_heap _ (w.heap.size + 1) _ #[.int .i64 1, .int .i64 K, .int .i64 2, .int .i64 (row.length : Int), .slice An nx.length cn, .slice Ao out.length co] 43 (0, 0) hZ2
            try simp only [Exit.inBlock, Exit.then]
            refine bodyPost_ret (results_ct rfl _ _ (w.heap.size + 1) 43 #[.int .i64 1, .int .i64 K, .int .i64 2, .int .i64 (row.length : Int), .slice An nx.length cn, .slice Ao out.length co] (0, 0) _ rfl hblk Try.underlying43 rfl (by rw [i43]; rfl)) rfl ?_
            have hb5 : w.heap.size ≤ W5.heap.size := HB5.out.size
            have keep : ∀ (v : Value) (xs : List Int), Kd.R (Kd.int .i64) 3 wr W5.heap.size (fun _ => True) v xs → Kd.R (Kd.int .i64) 3 ((wr.setCell ⟨M, 3, none⟩ (.int .i64 (row.length : Int))).setRow (w.heap.size + 1) #[.int .i64 1, .int .i64 K, .int .i64 2, .int .i64 (row.length : Int), .slice An nx.length cn, .slice Ao out.length co]) w.heap.size (fun _ => True) v xs := by
              intro v xs h
              have h1 := Kd.R_far (Kd.j6 rfl h) (p := ⟨M, 3, none⟩) (fun k hk he => Kd.jL h HD.out.m (by decide) (by rw [← hk]; show some M = some k; rw [he])) (.int .i64 (row.length : Int))
              have h2 := Kd.R_grown h1 (grown_setRow _ (w.heap.size + 1) #[.int .i64 1, .int .i64 K, .int .i64 2, .int .i64 (row.length : Int), .slice An nx.length cn, .slice Ao out.length co]) (fun k hk he => Kd.jL h hZr (by decide) (by rw [← hk]; exact he.symm))
              exact Kd.dB (Kd.dn h2 hb5) (fun _ _ => trivial)
            refine ⟨_, _, rfl, Kd.R_reok rfl (keep _ _ HD.out.nx) (fun k hk he => HD.out.apart k hk he.symm), Kd.R_reok rfl (keep _ _ HD.out.out) (fun k hk he => HD.out.apart k he.symm hk), ?_⟩
            exact below_setRow (di HB5.out hb5 (aJ HD.out.below HD.out.hM)) (by omega) _
end Go.Proofs.Ytkaefgmgcghhiaa.X
end

section
namespace Go.Proofs.Ytkaefgmgcghhiaa.X
open Go.RowKit Go.Proofs.YtkaefgmgcghhiaaW.PrintWords Go.Proofs.YtkaefgmgcghhiaaW.PrintLast Go.Proofs.YtkaefgmgcghhiaaW.PrintMore
def numsA (xs : List Int) : Array Value := (xs.map (Value.int .i64)).toArray
def cnX (K : Int) (nxl now : List Int) (s : Nat) : List Nat → Int → Option Int
  | [], sum => some sum
  | x :: r, sum => if (0 ≤ wrap64 (wrap64 ((s : Int) * K) + (x : Int)) ∧ wrap64 (wrap64 ((s : Int) * K) + (x : Int)) < (nxl.length : Int)) ∧ (0 ≤ rd nxl (wrap64 (wrap64 ((s : Int) * K) + (x : Int))) ∧ rd nxl (wrap64 (wrap64 ((s : Int) * K) + (x : Int))) < (now.length : Int))
    then cnX K nxl now s r (min (wrap64 (sum + rd now (rd nxl (wrap64 (wrap64 ((s : Int) * K) + (x : Int)))))) 1099511627777) else none
def cnS (K : Int) (nxl now : List Int) : List Nat → List Int → Option (List Int)
  | [], nx => some nx
  | s :: r, nx => match cnX K nxl now s (List.range K.toNat) 0 with
    | none => none
    | some sum => cnS K nxl now r (nx.set s sum)
def cnN (K N : Int) (nxl : List Int) : Nat → List Int → List Int → Option (List Int)
  | 0, now, _ => some now
  | n + 1, now, nx => match cnS K nxl now (List.range N.toNat) nx with
    | none => none
    | some nx1 => cnN K N nxl n nx1 nx1
def cnG (k : Nat) (kd K O N : Int) (nxl out : List Int) (n : Int) : Option (Int × Int) :=
  match iT.f k kd K O N nxl out with
  | none => none
  | some e => if e ≠ 0 then some (0, e) else if n < 0 then some (0, 1) else if n > 4096 then some (0, 1) else
    if (1 ≤ N ∧ N ≤ 1024) ∧ (1 ≤ K ∧ K ≤ 64) ∧ (out.length : Int) = N then (match cnN K N nxl n.toNat out (List.replicate N.toNat 0) with
      | none => none
      | some now => if rd now 0 > 1099511627776 then some (0, 11) else some (rd now 0, 0)) else none
theorem iV {w : World} {g : Nat} {xs : List Int} (h : w.heap[g]? = some (.cells (numsA xs) 3 (0, 0))) (j : Nat) (hj : j < xs.length) : w.cell? ⟨g, j, none⟩ = some (.int .i64 (rd xs j)) := by
  rw [aD h]
  simp [numsA, rd, List.getD_eq_getElem?_getD, List.getElem?_eq_getElem hj]
theorem nums_set {w : World} {g : Nat} {xs : List Int} (h : w.heap[g]? = some (.cells (numsA xs) 3 (0, 0))) (j : Nat) (v : Int) : (w.setCell ⟨g, j, none⟩ (.int .i64 v)).heap[g]? = some (.cells (numsA (xs.set j v)) 3 (0, 0)) := by
  refine blk_put h j _ ?_
  simp [numsA, List.map_set]
theorem copy_row {d s : List Int} (h : s.length = d.length) : ((numsA d).toList.take 0 ++ (s.map (Value.int .i64) ++ (numsA d).toList.drop (0 + (s.map (Value.int .i64)).length))).toArray = numsA s := by
  simp [numsA, h]
theorem made_nums (n : Nat) : madeCells #[Value.int .i64 0] n = numsA (List.replicate n 0) := by
  apply Array.ext'
  simp only [madeCells, numsA]
  apply List.ext_getElem
  · simp
  · intro i h1 h2
    simp [Nat.mod_one]
theorem fresh_make {ops : Array Oper} {rest : List Oper} {o : Oper} {a : Act} {Q : Exit → Act → World → Prop} {W : World} (hgd : o.guard = none) {x : Operand} (ho : o.op = .makeSlice 22 x x) {N : Int} (hx : a.eval x = .int .i64 N) (h0 : 0 ≤ N) (h1 : N ≤ 1024)
    (h : ∀ w1, w1.heap[W.heap.size]? = some (.cells (numsA (List.replicate N.toNat 0)) 3 (0, 0)) → Below W.heap.size W w1 → wpList Try.prog ops Q rest (a.put o.dst (.slice (some ⟨W.heap.size, 0, none⟩) N.toNat N.toNat)) w1) : wpList Try.prog ops Q (o :: rest) a W := by
  have hmk := print_make_int 22 3 (.int .i64 0) 8 Try.underlying22 info3 rfl (by decide) N h0 (by omega) W
  refine Kd.event_run hgd (v := .slice (some ⟨W.heap.size, 0, none⟩) N.toNat N.toNat) (w1 := W.alloc (.cells (madeCells #[.int .i64 0] N.toNat) 3)) ?_ (h _ ?_ (aH (Below.refl _ _) _))
  · unfold execOp
    simp [ho, hx, hmk, Result.andThen]
  · rw [← made_nums]
    exact dH W _
/-- copy(d, s) of two whole rows of one length. -/
theorem copy_whole {ops : Array Oper} {rest : List Oper} {o : Oper} {a : Act} {Q : Exit → Act → World → Prop} {W : World} (hgd : o.guard = none) (x y : Operand) (ho : o.op = .call { callee := .builtin .copy, args := #[x, y], argTypes := #[22, 22] })
    {g n m cd cs : Nat} {ad : Addr} {d s : List Int} (hx : a.eval x = .slice (some ⟨g, 0, none⟩) n cd) (hy : a.eval y = .slice (some ad) m cs) (hm : m = n) (hd : d.length = n) (hs : s.length = n)
    (hg : W.heap[g]? = some (.cells (numsA d) 3 (0, 0))) (hsrc : ∀ j v, (s.map (Value.int .i64))[j]? = some v → W.cell? (ad.add j) = some v)
    (h : ∀ w1, w1.heap[g]? = some (.cells (numsA s) 3 (0, 0)) → W.grownBy w1 (some g) → wpList Try.prog ops Q rest (a.put o.dst (goInt n)) w1) : wpList Try.prog ops Q (o :: rest) a W := by
  subst hm
  refine wpList_copy_own hgd x y 22 22 ho 3 Try.underlying22 (by kernel_rfl) g 0 m cd ad m cs hx hy (numsA d) 3 hg (s.map (Value.int .i64)) (by simp [hs]) hsrc (by simp [numsA, hs, hd]) (fun v hv => by
    obtain ⟨m, _, rfl⟩ := List.mem_map.1 hv
    rfl) ?_
  have hl : (s.map (Value.int .i64)).length = m := by simp [hs]
  rw [hl]
  refine h _ ?_ (grown_setRow _ _ _)
  have h2 := copy_row (d := d) (s := s) (by omega)
  rw [hl] at h2
  rw [h2]
  exact setRow_heap W g _ _ 3 (0, 0) hg
theorem nums_src {w : World} {g : Nat} {xs : List Int} (h : w.heap[g]? = some (.cells (numsA xs) 3 (0, 0))) : ∀ j v, (xs.map (Value.int .i64))[j]? = some v → w.cell? ((⟨g, 0, none⟩ : Addr).add j) = some v := by
  intro j v hj
  rw [Addr.add_mid, Nat.zero_add, aD h]
  simpa [numsA] using hj
theorem args_src {w : World} {ad : Addr} {xs : List Int} {n : Nat} (h : Kd.C (Kd.int .i64) w (some ad) n xs) (hn : n = xs.length) : ∀ j v, (xs.map (Value.int .i64))[j]? = some v → w.cell? (ad.add j) = some v := by
  intro j v hj
  obtain ⟨x, hx, rfl⟩ := (by simpa using hj : ∃ x, xs[j]? = some x ∧ Value.int .i64 x = v)
  have hl := (List.getElem?_eq_some_iff.1 hx).1
  obtain ⟨ad2, e2, hc⟩ := Kd.cz h (j : Int) (by omega) (by omega)
  cases e2
  rw [Int.toNat_natCast] at hc
  rw [hc]
  simp [rd, List.getD_eq_getElem?_getD, hx]
end Go.Proofs.Ytkaefgmgcghhiaa.X
end

section
namespace Go.Proofs.Ytkaefgmgcghhiaa.X
open Go.RowKit Go.Proofs.YtkaefgmgcghhiaaW.PrintWords Go.Proofs.YtkaefgmgcghhiaaW.PrintLast Go.Proofs.YtkaefgmgcghhiaaW.PrintMore
theorem min_flip (a c : Int) : (if c < a then c else a) = min a c := by
  split <;> omega
attribute [local go_sem] eP eH fQ fP d9 dZ eO eG
set_option maxHeartbeats 8000000 in
set_option maxRecDepth 100000 in
theorem Count_walk (k : Nat) (kd K O N : Int) (A4 : Option Addr) (c4 : Nat) (nxl : List Int) (A5 : Option Addr) (c5 : Nat) (out : List Int) (n : Int) (r1 r2 : Int) (w : World)
    (hr4 : Kd.C (Kd.int .i64) w A4 nxl.length nxl) (hc4 : nxl.length ≤ c4) (hr5 : Kd.C (Kd.int .i64) w A5 out.length out) (hc5 : out.length ≤ c5) (h : cnG k kd K O N nxl out n = some (r1, r2)) :
    Calls Try.prog 39 #[.agg #[.int .i64 kd, .int .i64 K, .int .i64 O, .int .i64 N, .slice A4 nxl.length c4, .slice A5 out.length c5], .int .i64 n] w fun e w' => e = .returned (.tuple #[.int .i64 r1, .int .i64 r2]) ∧ Below w.heap.size w w' := by
  have hu43 := Try.underlying43
  have hu22 := Try.underlying22
  unfold cnG at h
  cases hd : iT.f k kd K O N nxl out with
  | none => rw [hd] at h; exact absurd h (by simp)
  | some e0 =>
    rw [hd] at h
    simp only [] at h
    have hdf := fun (W : World) (hb : Below w.heap.size w W) => iT.calls k kd K O N A4 c4 nxl A5 c5 out e0 W (Kd.ak hr4 hb) hc4 (Kd.ak hr5 hb) hc5 hd
    have H4 := aC.mk hr4
    have H5 := aC.mk hr5
    clear hr4 hr5 hd
    by_cases q1 : e0 ≠ 0
    · rw [if_pos q1] at h
      simp only [Option.some.injEq, Prod.mk.injEq] at h
      obtain ⟨rfl, rfl⟩ := h
      have q1b : (e0 != 0) = true := by simpa using q1
      clear q1
      go_enter Try.func39, Try.ntmps39
      go_wp2_with (go_at_call 68; refine (hdf _ (aH (Below.refl _ _) _)).mono ?_; rintro e w1 ⟨rfl, hb1⟩)
      go_ret2
      exact ⟨rfl, ah (aH (Below.refl _ _) _) hb1⟩
    · rw [if_neg q1] at h
      have q0 : e0 = 0 := by omega
      subst q0
      clear q1
      by_cases q2 : n < 0
      · rw [if_pos q2] at h
        simp only [Option.some.injEq, Prod.mk.injEq] at h
        obtain ⟨rfl, rfl⟩ := h
        go_enter Try.func39, Try.ntmps39
        go_wp2_with (go_at_call 68; refine (hdf _ (aH (Below.refl _ _) _)).mono ?_; rintro e w1 ⟨rfl, hb1⟩)
        go_ret2
        exact ⟨rfl, ah (aH (Below.refl _ _) _) hb1⟩
      · rw [if_neg q2] at h
        by_cases q3 : n > 4096
        · rw [if_pos q3] at h
          simp only [Option.some.injEq, Prod.mk.injEq] at h
          obtain ⟨rfl, rfl⟩ := h
          go_enter Try.func39, Try.ntmps39
          go_wp2_with (go_at_call 68; refine (hdf _ (aH (Below.refl _ _) _)).mono ?_; rintro e w1 ⟨rfl, hb1⟩)
          go_ret2
          exact ⟨rfl, ah (aH (Below.refl _ _) _) hb1⟩
        · rw [if_neg q3] at h
          by_cases q4 : (1 ≤ N ∧ N ≤ 1024) ∧ (1 ≤ K ∧ K ≤ 64) ∧ (out.length : Int) = N
          · rw [if_pos q4] at h
            obtain ⟨⟨hN1, hN2⟩, ⟨hK1, hK2⟩, hol⟩ := q4
            cases hcn : cnN K N nxl n.toNat out (List.replicate N.toNat 0) with
            | none => rw [hcn] at h; exact absurd h (by simp)
            | some now0 =>
              rw [hcn] at h
              simp only [] at h
              have HH := aC.mk h
              have HCN := aC.mk hcn
              clear h hcn
              have HOL2 : aC (out.length = N.toNat) := ⟨by omega⟩
              obtain ⟨ad5, e5, _⟩ := Kd.cz H5.out 0 (by omega) (by omega)
              cases e5
              go_enter Try.func39, Try.ntmps39
              go_wp2_with (first | (go_at_call 68; refine (hdf _ (aH (Below.refl _ _) _)).mono ?_; rintro e w1 ⟨rfl, hb1⟩; have HB1 := aC.mk (ah (aH (Below.refl w.heap.size w) (.cells #[.int .i64 kd, .int .i64 K, .int .i64 O, .int .i64 N, .slice A4 nxl.length c4, .slice (some ad5) out.length c5] 43)) hb1); have hbx := av (dH w (.cells #[.int .i64 kd, .int .i64 K, .int .i64 O, .int .i64 N, .slice A4 nxl.length c4, .slice (some ad5) out.length c5] 43)) hb1; have HBX := aC.mk hbx; have hx3 : w1.cell? ⟨w.heap.size, 3, none⟩ = some (.int .i64 N) := (aD hbx 3).trans rfl; have hx5 : w1.cell? ⟨w.heap.size, 5, none⟩ = some (.slice (some ad5) out.length c5) := (aD hbx 5).trans rfl; clear hb1 hbx) | ((with_reducible refine bK (N := 25) rfl ?_); (refine fresh_make rfl rfl rfl (by omega) hN2 ?_; intro w2 hg2 hb2; have HB2 := aC.mk (ah HB1.out hb2); have HG2 := aC.mk hg2; have HBX2 := aC.mk (av HBX.out hb2); have hx3 : w2.cell? ⟨w.heap.size, 3, none⟩ = some (.int .i64 N) := (aD HBX2.out 3).trans rfl; have hx5 : w2.cell? ⟨w.heap.size, 5, none⟩ = some (.slice (some ad5) out.length c5) := (aD HBX2.out 5).trans rfl; clear hg2 hb2)) | ((with_reducible refine dF (b := .copy) (xs := #[.tmp 26, .tmp 28]) rfl ?_); (refine copy_whole rfl (.tmp 26) (.tmp 28) rfl rfl rfl HOL2.out (by simp) HOL2.out HG2.out (args_src (Kd.ak H5.out HB2.out) (by omega)) ?_; intro w3 hg3 hgr3; have HG3 := aC.mk hg3; have HB3 := aC.mk (jd HB2.out _ HB2.out.size hgr3 (fun k hk => by injection hk with hk; rw [← hk]; exact HB1.out.size)); have HBX3 := aC.mk (cZ HBX2.out hgr3 (fun he => by injection he with he; have := gq HBX.out; omega)); have hx3 : w3.cell? ⟨w.heap.size, 3, none⟩ = some (.int .i64 N) := (aD HBX3.out 3).trans rfl; clear hg3 hgr3)) | ((with_reducible refine bK (N := 32) rfl ?_); (refine fresh_make rfl rfl rfl (by omega) hN2 ?_; intro w4 hg4 hb4; have HB4 := aC.mk (ah HB3.out hb4); have HG4 := aC.mk hg4; have HG34 := aC.mk (av HG3.out hb4); have HBX4 := aC.mk (av HBX3.out hb4); clear hg4 hb4)))
              clear hx3 hdf
              have HNB := aC.mk hol
              clear hol
              have hg1 : w1.heap.size ≠ w3.heap.size := by
                have := gq HG3.out
                omega
              have hb12 : w.heap.size < w1.heap.size := gq HBX.out
              generalize hg2q : w3.heap.size = g2 at HG4 hg1 ⊢
              have hlt2 : w.heap.size < g2 := by have := HB3.out.size; have := gq HBX3.out; omega
              have hle2 : w.heap.size ≤ g2 := by omega
              generalize hg1q : w1.heap.size = g1 at HG34 hg1 hb12 ⊢
              clear hg1q hg2q
              go_loopw [34] (fun v34 wr => ∃ (i : Nat) (now nx : List Int), v34 = .int .i64 (i : Int) ∧ aC (i ≤ n.toNat) ∧ aC (cnN K N nxl (n.toNat - i) now nx = some now0) ∧ aC (wr.heap[g1]? = some (.cells (numsA now) 3 (0, 0))) ∧ aC (wr.heap[g2]? = some (.cells (numsA nx) 3 (0, 0))) ∧ aC (wr.heap[w.heap.size]? = some (.cells #[.int .i64 kd, .int .i64 K, .int .i64 O, .int .i64 N, .slice A4 nxl.length c4, .slice (some ad5) out.length c5] 43 (0, 0))) ∧ aC (Below w.heap.size w wr) ∧ aC (now.length = N.toNat ∧ nx.length = N.toNat)) (fun v34 _ => n.toNat - (intOf v34).toNat)
              case atStart => exact ⟨0, out, List.replicate N.toNat 0, rfl, ⟨by omega⟩, by simpa using HCN, HG34, HG4, HBX4, HB4, ⟨HOL2.out, by simp⟩⟩
              case round =>
                clear HCN HG34 HG4 HBX4 HB4 HB3 HBX3 HG3 HBX2 HG2 HB2 HBX HB1 HOL2 HNB
                obtain ⟨i, now, nx, rfl, HI, HF, HG1, HG2, HBX, HB, HLN⟩ := hrel
                by_cases hlt : i < n.toNat
                · have H := HF.out
                  obtain ⟨m, hm⟩ : ∃ m, n.toNat - i = m + 1 := ⟨n.toNat - i - 1, by omega⟩
                  have hm2 : n.toNat - (i + 1) = m := by omega
                  rw [hm] at H
                  clear HF
                  simp only [cnN] at H
                  cases hcs : cnS K nxl now (List.range N.toNat) nx with
                  | none => rw [hcs] at H; exact absurd H (by simp)
                  | some nx1 =>
                    rw [hcs] at H
                    simp only [] at H
                    have HH2 := aC.mk H
                    have HCS := aC.mk hcs
                    have HM2 := aC.mk hm2
                    have HLT := aC.mk hlt
                    have hlt' : (i : Int) < n := by omega
                    have hx3 : wr.cell? ⟨w.heap.size, 3, none⟩ = some (.int .i64 N) := (aD HBX.out 3).trans rfl
                    clear H hcs hm hm2
                    have hmx : max N 0 = N := by omega
                    go_wp2
                    clear hx3
                    go_loopw [38] (fun v38 wr2 => ∃ (q : Nat) (nx2 : List Int), v38 = .int .i64 (q : Int) ∧ aC (q ≤ N.toNat) ∧ aC (cnS K nxl now ((List.range N.toNat).drop q) nx2 = some nx1) ∧ aC (wr2.heap[g1]? = some (.cells (numsA now) 3 (0, 0))) ∧ aC (wr2.heap[g2]? = some (.cells (numsA nx2) 3 (0, 0))) ∧ aC (wr2.heap[w.heap.size]? = some (.cells #[.int .i64 kd, .int .i64 K, .int .i64 O, .int .i64 N, .slice A4 nxl.length c4, .slice (some ad5) out.length c5] 43 (0, 0))) ∧ aC (Below w.heap.size w wr2) ∧ aC (now.length = N.toNat ∧ nx2.length = N.toNat)) (fun v38 _ => N.toNat - (intOf v38).toNat)
                    case atStart => exact ⟨0, nx, rfl, ⟨by omega⟩, HCS, HG1, HG2, HBX, HB, HLN⟩
                    case round =>
                      clear HCS HG1 HG2 HBX HB HLN
                      obtain ⟨q, nx2, rfl, HQI, HCS, HG1, HG2, HBX, HB, HLN⟩ := hrel
                      by_cases hq : q < N.toNat
                      · have H := HCS.out
                        have hd : (List.range N.toNat).drop q = q :: (List.range N.toNat).drop (q + 1) := by
                          rw [List.drop_eq_getElem_cons (by simpa using hq)]
                          simp
                        rw [hd] at H
                        clear HCS hd
                        simp only [cnS] at H
                        cases hcx : cnX K nxl now q (List.range K.toNat) 0 with
                        | none => rw [hcx] at H; exact absurd H (by simp)
                        | some sum =>
                          rw [hcx] at H
                          simp only [] at H
                          have HCS := aC.mk H
                          have HCX := aC.mk hcx
                          have HQ := aC.mk hq
                          have hq' : (q : Int) < N := by omega
                          have hx1 : wr.cell? ⟨w.heap.size, 1, none⟩ = some (.int .i64 K) := (aD HBX.out 1).trans rfl
                          have hx4 : wr.cell? ⟨w.heap.size, 4, none⟩ = some (.slice A4 nxl.length c4) := (aD HBX.out 4).trans rfl
                          clear H hcx
                          go_wp2
                          go_loopw [43, 10] (fun v43 v10 wr2 => ∃ (x : Nat) (sm : Int), v43 = .int .i64 (x : Int) ∧ v10 = .int .i64 sm ∧ aC (x ≤ K.toNat) ∧ aC (cnX K nxl now q ((List.range K.toNat).drop x) sm = some sum) ∧ aC (wr2 = wr)) (fun v43 _ _ => K.toNat - (intOf v43).toNat)
                          case atStart => exact ⟨0, 0, rfl, rfl, ⟨by omega⟩, HCX, ⟨by first | trivial | rfl⟩⟩
                          case round =>
                            clear HCX
                            obtain ⟨x, sm, rfl, rfl, HXI, HCX, HWR⟩ := hrel
                            have hwr := HWR.out
                            subst hwr
                            clear HWR
                            by_cases hxk : x < K.toNat
                            · have H := HCX.out
                              have hd : (List.range K.toNat).drop x = x :: (List.range K.toNat).drop (x + 1) := by
                                rw [List.drop_eq_getElem_cons (by simpa using hxk)]
                                simp
                              rw [hd] at H
                              clear HCX hd
                              simp only [cnX] at H
                              obtain ⟨ji, hji⟩ : ∃ j_ : Int, wrap64 (wrap64 ((q : Int) * K) + (x : Int)) = j_ := ⟨_, rfl⟩
                              rw [hji] at H
                              have hjiw : IntKind.i64.wrap (wrap64 ((q : Int) * K) + (x : Int)) = ji := (bT _).trans hji
                              by_cases c1 : (0 ≤ ji ∧ ji < (nxl.length : Int)) ∧ (0 ≤ rd nxl ji ∧ rd nxl ji < (now.length : Int))
                              · rw [if_pos c1] at H
                                obtain ⟨⟨c1a, c1b⟩, c1c, c1d⟩ := c1
                                obtain ⟨ad4, e4, hxa⟩ := Kd.cz (Kd.ak H4.out HB.out) ji c1a c1b
                                cases e4
                                generalize rd nxl ji = t at H c1c c1d hxa
                                have ht : (t.toNat : Int) = t := Int.toNat_of_nonneg c1c
                                have hnt := iV HG1.out t.toNat (by omega)
                                rw [ht] at hnt
                                have htN : t < N := by have := HLN.out.1; omega
                                generalize rd now t = y at H hnt
                                have HCX := aC.mk H
                                have HXK := aC.mk hxk
                                have hxk' : (x : Int) < K := by omega
                                clear H ht c1d
                                go_wp2
                                go_roundw
                                case rel => exact ⟨x + 1, min (wrap64 (sm + y)) 1099511627777, by go_num, by rw [min_flip], ⟨by have := HXK.out; omega⟩, HCX, ⟨trivial⟩⟩
                                case measure => have := HXK.out; simp [intOf]; omega
                              · rw [if_neg c1] at H; exact absurd H (by simp)
                            · have H := HCX.out
                              rw [List.drop_of_length_le (by simp; omega)] at H
                              simp only [cnX, Option.some.injEq] at H
                              subst H
                              have hxk' : ¬ ((x : Int) < K) := by omega
                              have hcl := iV HG2.out q (by have := HLN.out.2; have := HQ.out; omega)
                              have hfz := aA HG2.out q
                              go_wp2
                              go_roundw
                              case rel => exact ⟨q + 1, nx2.set q sm, by go_num, ⟨by have := HQ.out; omega⟩, HCS, ⟨blk_far HG1.out (by show g1 ≠ g2; exact hg1) _⟩, ⟨nums_set HG2.out q sm⟩, ⟨blk_far HBX.out (by show w.heap.size ≠ g2; omega) _⟩, ⟨aJ HB.out hle2⟩, ⟨HLN.out.1, by rw [List.length_set]; exact HLN.out.2⟩⟩
                              case measure => have := HQ.out; simp [intOf]; omega
                      · have H := HCS.out
                        rw [List.drop_of_length_le (by simp; omega)] at H
                        simp only [cnS, Option.some.injEq] at H
                        subst H
                        have hq' : ¬ ((q : Int) < N) := by omega
                        go_wp2_with ((with_reducible refine dF (b := .copy) (xs := #[.tmp 68, .tmp 69]) rfl ?_); (refine copy_whole rfl (.tmp 68) (.tmp 69) rfl rfl rfl rfl HLN.out.1 HLN.out.2 HG1.out (nums_src HG2.out) ?_; intro w5 hg5 hgr5; have HG5 := aC.mk hg5; have HG25 := aC.mk (cZ HG2.out hgr5 (fun he => by injection he with he; exact hg1 he.symm)); have HBX5 := aC.mk (cZ HBX.out hgr5 (fun he => by injection he with he; omega)); have HB5 := aC.mk (jd HB.out _ HB.out.size hgr5 (fun k hk => by injection hk with hk; omega)); clear hg5 hgr5))
                        have hlt3 := HLT.out
                        refine ⟨⟨_, _, _, _, ⟨i + 1, rfl, ⟨by omega⟩, nx2, nx2, ⟨by rw [HM2.out]; exact HH2.out⟩, HG5, HG25, ⟨HLN.out.2, HLN.out.2⟩⟩, rfl, rfl, rfl, by go_num⟩, ?_⟩
                        simp [intOf]
                        omega
                · have hlt' : ¬ ((i : Int) < n) := by omega
                  have H := HF.out
                  have h0 : n.toNat - i = 0 := by omega
                  rw [h0] at H
                  simp only [cnN, Option.some.injEq] at H
                  subst H
                  have hr := HH.out
                  have hnl := HLN.out.1
                  have hc0 := iV HG1.out 0 (by omega)
                  rw [Int.natCast_zero] at hc0
                  clear hnl h0
                  by_cases q5 : rd now 0 > 1099511627776
                  · rw [if_pos q5] at hr
                    simp only [Option.some.injEq, Prod.mk.injEq] at hr
                    obtain ⟨rfl, rfl⟩ := hr
                    go_wp2
                    go_ret2
                    exact ⟨rfl, HB.out⟩
                  · rw [if_neg q5] at hr
                    simp only [Option.some.injEq, Prod.mk.injEq] at hr
                    obtain ⟨rfl, rfl⟩ := hr
                    go_wp2
                    go_ret2
                    exact ⟨rfl, HB.out⟩
          · rw [if_neg q4] at h; exact absurd h (by simp)
end Go.Proofs.Ytkaefgmgcghhiaa.X
end

section
namespace Go.Proofs.Ytkaefgmgcghhiaa.X
open Go.RowKit Go.Proofs.YtkaefgmgcghhiaaW.PrintWords Go.Proofs.YtkaefgmgcghhiaaW.PrintLast Go.Proofs.YtkaefgmgcghhiaaW.PrintMore
def big : Nat := 200000
def nfa_Accepts.f (aX aY : Int) (l0_2 l0_3 : List Int) (aM : List S80) (l1 : List Int) : Option (Bool × Int) := accF big aX aY l0_2 l0_3 aM l1
theorem nfa_Accepts.calls (aX : Int) (aY : Int) (A0_2 : Option Addr) (c0_2 : Nat) (l0_2 : List Int) (A0_3 : Option Addr) (c0_3 : Nat) (l0_3 : List Int) (bH : Option Addr) (bC : Nat) (aM : List (S80)) (A1 : Option Addr) (c1 : Nat) (l1 : List Int) (r1 : Bool) (r2 : Int) (w : World) (hr0_2 : Kd.C (Kd.int .i64) w A0_2 l0_2.length l0_2) (hc0_2 : l0_2.length ≤ c0_2) (hr0_3 : Kd.C (Kd.int .i64) w A0_3 l0_3.length l0_3) (hc0_3 : l0_3.length ≤ c0_3) (eQ : Kd.C k80 w bH aM.length aM) (eu : aM.length ≤ bC) (hr1 : Kd.C (Kd.int .i64) w A1 l1.length l1) (hc1 : l1.length ≤ c1) (h : nfa_Accepts.f aX aY l0_2 l0_3 aM l1 = some (r1, r2)) :
    Calls Try.prog 20 #[.agg #[.int .i64 aX, .int .i64 aY, .slice A0_2 l0_2.length c0_2, .slice A0_3 l0_3.length c0_3, .slice bH aM.length bC], .slice A1 l1.length c1] w fun e w' => e = .returned (.tuple #[.bool r1, .int .i64 r2]) ∧ Below w.heap.size w w' :=
  Accepts_walk big aX aY A0_2 c0_2 l0_2 A0_3 c0_3 l0_3 bH bC aM A1 c1 l1 r1 r2 w hr0_2 hr0_3 eQ hr1 hc0_2 hc0_3 eu hc1 h
def nfa_Determine.f (aX aY : Int) (l0_2 l0_3 : List Int) (aM : List S80) : Option (Int × Int × Int × Int × List Int × List Int × Int) := detG big aX aY l0_2 l0_3 aM
theorem nfa_Determine.calls (aX : Int) (aY : Int) (A0_2 : Option Addr) (c0_2 : Nat) (l0_2 : List Int) (A0_3 : Option Addr) (c0_3 : Nat) (l0_3 : List Int) (bH : Option Addr) (bC : Nat) (aM : List (S80)) (r1 : Int) (r2 : Int) (r3 : Int) (r4 : Int) (r5 : List Int) (r6 : List Int) (r7 : Int) (w : World) (hr0_2 : Kd.C (Kd.int .i64) w A0_2 l0_2.length l0_2) (hc0_2 : l0_2.length ≤ c0_2) (hr0_3 : Kd.C (Kd.int .i64) w A0_3 l0_3.length l0_3) (hc0_3 : l0_3.length ≤ c0_3) (eQ : Kd.C k80 w bH aM.length aM) (eu : aM.length ≤ bC) (h : nfa_Determine.f aX aY l0_2 l0_3 aM = some (r1, r2, r3, r4, r5, r6, r7)) :
    Calls Try.prog 22 #[.agg #[.int .i64 aX, .int .i64 aY, .slice A0_2 l0_2.length c0_2, .slice A0_3 l0_3.length c0_3, .slice bH aM.length bC]] w fun e w' => ∃ v4_ v5_ : Value, e = .returned (.tuple #[.agg #[.int .i64 r1, .int .i64 r2, .int .i64 r3, .int .i64 r4, v4_, v5_], .int .i64 r7]) ∧ Kd.R (Kd.int .i64) 3 w' w.heap.size (fun k_ => some k_ ≠ (v5_ : Value).ownBlock) v4_ r5 ∧ Kd.R (Kd.int .i64) 3 w' w.heap.size (fun k_ => some k_ ≠ (v4_ : Value).ownBlock) v5_ r6 ∧ Below w.heap.size w w' :=
  Determine_walk big aX aY A0_2 c0_2 l0_2 A0_3 c0_3 l0_3 bH bC aM r1 r2 r3 r4 r5 r6 r7 w hr0_2 hr0_3 eQ h
def iW.f (aX aY ae aT : Int) (aM aU : List Int) (a1 : Int) : Option (Int × Int) := cnG big aX aY ae aT aM aU a1
theorem iW.calls (aX : Int) (aY : Int) (ae : Int) (aT : Int) (bH : Option Addr) (bC : Nat) (aM : List Int) (bE : Option Addr) (bD : Nat) (aU : List Int) (a1 : Int) (r1 : Int) (r2 : Int) (w : World) (eQ : Kd.C (Kd.int .i64) w bH aM.length aM) (eu : aM.length ≤ bC) (fD : Kd.C (Kd.int .i64) w bE aU.length aU) (fG : aU.length ≤ bD) (h : iW.f aX aY ae aT aM aU a1 = some (r1, r2)) :
    Calls Try.prog 39 #[.agg #[.int .i64 aX, .int .i64 aY, .int .i64 ae, .int .i64 aT, .slice bH aM.length bC, .slice bE aU.length bD], .int .i64 a1] w fun e w' => e = .returned (.tuple #[.int .i64 r1, .int .i64 r2]) ∧ Below w.heap.size w w' :=
  Count_walk big aX aY ae aT bH bC aM bE bD aU a1 r1 r2 w eQ eu fD fG h
end Go.Proofs.Ytkaefgmgcghhiaa.X
end

section
namespace Go.Proofs.Ytkaefgmgcghhiaa.X
set_option maxRecDepth 100000
theorem liveA : nfa_Accepts.f 2 2 [0] [0, 1] [⟨0, 0, 0⟩, ⟨0, 1, 0⟩, ⟨0, 1, 1⟩] [0, 1] = some (true, 0) := by decide +kernel
theorem liveD : nfa_Determine.f 2 2 [0] [0, 1] [⟨0, 0, 0⟩, ⟨0, 1, 0⟩, ⟨0, 1, 1⟩] = some (1, 2, 2, 2, [0, 1, 0, 1], [0, 1], 0) := by kernel_rfl
theorem liveC : iW.f 1 2 2 2 [0, 1, 0, 1] [0, 1] 3 = some (4, 0) := by decide +kernel
end Go.Proofs.Ytkaefgmgcghhiaa.X
end

section
namespace Go.Proofs.Ytkaefgmgcghhiaa.X
open Go.RowKit Go.Proofs.YtkaefgmgcghhiaaW.PrintWords Go.Proofs.YtkaefgmgcghhiaaW.PrintLast Go.Proofs.YtkaefgmgcghhiaaW.PrintMore
theorem w64 {i : Int} (h0 : -9223372036854775808 ≤ i) (h : i ≤ 9223372036854775807) : wrap64 i = i := by unfold wrap64; omega
theorem w64s {i : Nat} (h : i < 4611686018427387904) : wrap64 ((i : Int) + 1) = ((i + 1 : Nat) : Int) := by rw [w64 (by omega) (by omega)]; rfl
theorem rd_nat {xs : List Int} {i : Nat} (h : i < xs.length) : rd xs (i : Int) = xs[i] := by simp [rd, List.getD_eq_getElem?_getD, List.getElem?_eq_getElem h]
theorem same_l0 (a b : List Int) (hl : a.length = b.length) (hb : a.length ≤ 4611686018427387903) : ∀ (d k i : Nat), i + d = a.length → d < k → cB.l0 k a b (i : Int) = some (decide (a.drop i = b.drop i)) := by
  intro d
  induction d with
  | zero =>
    intro k i h hk
    obtain ⟨k, rfl⟩ : ∃ m, k = m + 1 := ⟨k - 1, by omega⟩
    simp only [cB.l0]
    rw [if_neg (by omega), List.drop_of_length_le (by omega), List.drop_of_length_le (by omega)]
    rfl
  | succ d ih =>
    intro k i h hk
    obtain ⟨k, rfl⟩ : ∃ m, k = m + 1 := ⟨k - 1, by omega⟩
    simp only [cB.l0]
    have hda : a.drop i = a[i]'(by omega) :: a.drop (i + 1) := List.drop_eq_getElem_cons (by omega)
    have hdb : b.drop i = b[i]'(by omega) :: b.drop (i + 1) := List.drop_eq_getElem_cons (by omega)
    rw [if_pos (by omega), if_pos (by omega), if_pos (by omega), rd_nat (by omega), rd_nat (by omega), hda, hdb]
    by_cases he : a[i]'(by omega) = b[i]'(by omega)
    · rw [if_pos he, w64s (by omega), ih k (i + 1) (by omega) (by omega), he]
      congr 1
      exact decide_eq_decide.2 ⟨fun h => by rw [h], fun h => (List.cons.inj h).2⟩
    · rw [if_neg he]
      congr 1
      exact (decide_eq_false (fun h => he (List.cons.inj h).1)).symm
theorem same_f {a b : List Int} {k : Nat} (hb : a.length ≤ 4611686018427387903) (hk : a.length < k) : cB.f k a b = some (decide (a = b)) := by
  unfold cB.f
  by_cases hl : a.length = b.length
  · rw [if_pos (by omega)]
    have := same_l0 a b hl hb a.length k 0 (by omega) hk
    simpa using this
  · rw [if_neg (by omega)]
    have : a ≠ b := fun h => hl (by rw [h])
    simp [this]
end Go.Proofs.Ytkaefgmgcghhiaa.X
end

section
namespace Go.Proofs.Ytkaefgmgcghhiaa.X
open Go.RowKit Go.Proofs.YtkaefgmgcghhiaaW.PrintWords Go.Proofs.YtkaefgmgcghhiaaW.PrintLast Go.Proofs.YtkaefgmgcghhiaaW.PrintMore
/-- Rows of sets, and where their symbols lead, so far. -/
structure Det (k : Nat) (K N : Int) (F : List Int) (fr : List (List S80)) (s0 : List Nat) (i : Nat) (row : List (List Nat)) (nx out : List Int) : Prop where
  first : row[0]? = some s0
  sets : ∀ s ∈ row, ∃ P, SetIs N s P
  nodup : row.Nodup
  len : i ≤ row.length ∧ row.length ≤ 1024
  nxl : nx.length = i * K.toNat
  outl : out.length = i
  next : ∀ a x, a < i → x < K.toNat → ∃ s t n, row[a]? = some s ∧ stepF k N fr s (x : Int) = some t ∧ nx[a * K.toNat + x]? = some ((n : Nat) : Int) ∧ row[n]? = some t
  says : ∀ a, a < i → ∃ s, row[a]? = some s ∧ out[a]? = some (fiRow s F 0)
end Go.Proofs.Ytkaefgmgcghhiaa.X
end

section
namespace Go.Proofs.Ytkaefgmgcghhiaa.X
open Go.RowKit Go.Proofs.YtkaefgmgcghhiaaW.PrintWords Go.Proofs.YtkaefgmgcghhiaaW.PrintLast Go.Proofs.YtkaefgmgcghhiaaW.PrintMore
/-- A right acceptor. -/
structure RightD (K N : Int) (nx out : List Int) : Prop where
  k : 1 ≤ K ∧ K ≤ 64
  n : 1 ≤ N ∧ N ≤ 1024
  nxl : nx.length = N.toNat * K.toNat
  outl : out.length = N.toNat
  nxr : ∀ x ∈ nx, 0 ≤ x ∧ x < N
  outr : ∀ x ∈ out, 0 ≤ x ∧ x < 2
theorem ck_l1 (kd K O N : Int) (nx out : List Int) (hb : out.length ≤ 100000) (ho : ∀ x ∈ out, 0 ≤ x ∧ x < O) : ∀ (d k i : Nat), i + d = out.length → d < k → aQ.l1 k (i : Int) kd K O N nx out = some (0, 0) := by
  intro d
  induction d with
  | zero =>
    intro k i h hk
    obtain ⟨k, rfl⟩ : ∃ m, k = m + 1 := ⟨k - 1, by omega⟩
    rw [aQ.l1, if_neg (by omega)]
  | succ d ih =>
    intro k i h hk
    obtain ⟨k, rfl⟩ : ∃ m, k = m + 1 := ⟨k - 1, by omega⟩
    have hi : i < out.length := by omega
    have := ho out[i] (List.getElem_mem hi)
    rw [aQ.l1, if_pos (by omega), if_pos (by omega), rdq hi, if_neg (by omega), if_neg (by omega), w64q (by omega)]
    exact ih k (i + 1) (by omega) (by omega)
theorem ck_l0 (kd K O N : Int) (nx out : List Int) (hb : out.length ≤ 100000) (hb2 : nx.length ≤ 100000) (hn : ∀ x ∈ nx, 0 ≤ x ∧ x < N) (ho : ∀ x ∈ out, 0 ≤ x ∧ x < O) : ∀ (d k i : Nat), i + d = nx.length → d + out.length + 1 < k → aQ.l0 k (i : Int) kd K O N nx out = some (0, 0) := by
  intro d
  induction d with
  | zero =>
    intro k i h hk
    obtain ⟨k, rfl⟩ : ∃ m, k = m + 1 := ⟨k - 1, by omega⟩
    rw [aQ.l0, if_neg (by omega)]
    exact ck_l1 kd K O N nx out hb ho out.length k 0 (by omega) (by omega)
  | succ d ih =>
    intro k i h hk
    obtain ⟨k, rfl⟩ : ∃ m, k = m + 1 := ⟨k - 1, by omega⟩
    have hi : i < nx.length := by omega
    have := hn nx[i] (List.getElem_mem hi)
    rw [aQ.l0, if_pos (by omega), if_pos (by omega), rdq hi, if_neg (by omega), if_neg (by omega), w64q (by omega)]
    exact ih k (i + 1) (by omega) (by omega)
theorem toNat_mul {a b : Int} (ha : 0 ≤ a) (hb : 0 ≤ b) : ((a.toNat * b.toNat : Nat) : Int) = a * b := by
  rw [Int.natCast_mul, Int.toNat_of_nonneg ha, Int.toNat_of_nonneg hb]
theorem RightD.size {K N : Int} {nx out : List Int} (R : RightD K N nx out) : nx.length ≤ 65536 := by
  have h1 := R.k
  have h2 := R.n
  rw [R.nxl]
  exact Nat.mul_le_mul (show N.toNat ≤ 1024 by omega) (show K.toNat ≤ 64 by omega)
theorem RightD.nk {K N : Int} {nx out : List Int} (R : RightD K N nx out) : ((nx.length : Nat) : Int) = N * K := by
  have h1 := R.k
  have h2 := R.n
  rw [R.nxl, toNat_mul (by omega) (by omega)]
theorem ck_ok {K N : Int} {nx out : List Int} (R : RightD K N nx out) {k : Nat} (hk : 200000 ≤ k) : aQ.f k 1 K 2 N nx out = some (0, 0) := by
  have h1 := R.k
  have h2 := R.n
  have h3 := R.size
  have h4 := R.nk
  have h5 := R.outl
  obtain ⟨k, rfl⟩ : ∃ m, k = m + 6 := ⟨k - 6, by omega⟩
  unfold aQ.f
  rw [if_pos rfl, aQ.j0, if_neg (by simp), if_neg (by omega), aQ.j1, decide_eq_false (by omega), if_neg (by simp), if_pos rfl, if_pos rfl, if_neg (by omega), decide_eq_false (by omega), aQ.j2, if_neg (by simp),
    if_neg (by omega), decide_eq_false (by omega), aQ.j3, if_neg (by simp), if_neg (by omega), aQ.j4, ← h4, w64 (by omega) (by omega), if_pos rfl]
  have : ((out.length : Int) != N) = false := by simp; omega
  rw [this, aQ.j5, if_neg (by simp)]
  exact ck_l0 1 K 2 N nx out (by omega) (by omega) R.nxr R.outr nx.length k 0 (by omega) (by omega)
theorem idx_lt {K N : Int} {nx out : List Int} (R : RightD K N nx out) {a : Nat} {x : Int} (ha : a < N.toNat) (h0 : 0 ≤ x) (h1 : x < K) : a * K.toNat + x.toNat < nx.length := by
  rw [R.nxl]
  have : (a + 1) * K.toNat ≤ N.toNat * K.toNat := Nat.mul_le_mul_right _ ha
  rw [Nat.succ_mul] at this
  omega
theorem idx_eq {K N : Int} {nx out : List Int} (R : RightD K N nx out) {a : Nat} {x : Int} (ha : a < N.toNat) (h0 : 0 ≤ x) (h1 : x < K) : wrap64 (wrap64 ((a : Int) * K) + x) = ((a * K.toNat + x.toNat : Nat) : Int) := by
  have h2 := idx_lt R ha h0 h1
  have h3 := R.size
  have h4 := R.k
  have h5 : ((a * K.toNat : Nat) : Int) = (a : Int) * K := by rw [Int.natCast_mul, Int.toNat_of_nonneg (by omega)]
  have h6 : wrap64 ((a : Int) * K) = ((a * K.toNat : Nat) : Int) := by rw [← h5]; exact w64 (by omega) (by omega)
  rw [h6, w64 (by omega) (by omega)]
  omega
end Go.Proofs.Ytkaefgmgcghhiaa.X
end

section
namespace Go.Proofs.Ytkaefgmgcghhiaa.X
open Go.RowKit Go.Proofs.YtkaefgmgcghhiaaW.PrintWords Go.Proofs.YtkaefgmgcghhiaaW.PrintLast Go.Proofs.YtkaefgmgcghhiaaW.PrintMore
open Go.Proofs.Ytkaefgmgcghhiaa
def pairC (p : Int × Int) : List Value := [.int .i64 p.1, .int .i64 p.2]
def penc (p : Int × Int) : Value := .agg #[.int .i64 p.1, .int .i64 p.2]
def kpair : Kd (Int × Int) where
  sz := 2
  E := []
  K := fun _ s cs => cs = pairC s
  M := fun _ _ _ s cs => cs = pairC s
  K_len := fun h => by rw [h]; rfl
  K_one := fun h v hv => by
    rw [h] at hv
    simp only [pairC, List.mem_cons, List.not_mem_nil, or_false] at hv
    rcases hv with rfl | rfl <;> rfl
  K_below := fun _ h => h
  K_of_M := fun h => h
  M_mono := fun _ h => h
  M_bound := fun h => h
  M_move := fun _ h => h
  M_lower := fun _ h => h
theorem _root_.Go.Proofs.Ytkaefgmgcghhiaa.Vm.MapAt.far {α β : Type} {enc : α → Value} {venc : β → Value} {w : World} {b : Nat} {es : List (α × β)} (hp : Vm.MapAt w b enc venc es) {p : Addr} (hne : b ≠ p.block) (u : Value) : Vm.MapAt (w.setCell p u) b enc venc es := hp.block (Below.heap_setCell w p u b hne)
structure MeetAt (w0 : World) (mb M : Nat) (K : Int) (pr : List ((Int × Int) × Int)) (row : List (Int × Int)) (rv : Value) (nx : List Int) (nxv : Value) (out : List Int) (outv : Value) (w : World) : Prop where
  place : Vm.MapAt w mb penc (Value.int .i64) pr
  row : Kd.R kpair 107 w w0.heap.size (fun _ => True) rv row
  m : w.heap[M]? = some (.cells #[.int .i64 1, .int .i64 K, .int .i64 2, .int .i64 0, nxv, outv] 43 (0, 0))
  nx : Kd.R (Kd.int .i64) 3 w w0.heap.size (fun _ => True) nxv nx
  out : Kd.R (Kd.int .i64) 3 w w0.heap.size (fun _ => True) outv out
  apart : ∀ k, nxv.ownBlock = some k → outv.ownBlock ≠ some k
  below : Below w0.heap.size w0 w
  hmb : w0.heap.size ≤ mb
  hM : w0.heap.size ≤ M
theorem MeetAt.low {w0 w w1 : World} {mb M : Nat} {K : Int} {pr : List ((Int × Int) × Int)} {row : List (Int × Int)} {rv nxv outv : Value} {nx out : List Int} (h : MeetAt w0 mb M K pr row rv nx nxv out outv w) (hb : Below w.heap.size w w1) : MeetAt w0 mb M K pr row rv nx nxv out outv w1 :=
  ⟨h.place.below hb, Kd.dz h.row hb, av h.m hb, Kd.dz h.nx hb, Kd.dz h.out hb, h.apart, di h.below h.below.size hb, h.hmb, h.hM⟩
end Go.Proofs.Ytkaefgmgcghhiaa.X
end

section
namespace Go.Proofs.Ytkaefgmgcghhiaa.X
open Go.RowKit Go.Proofs.YtkaefgmgcghhiaaW.PrintWords Go.Proofs.YtkaefgmgcghhiaaW.PrintLast Go.Proofs.YtkaefgmgcghhiaaW.PrintMore
open Go.Proofs.Ytkaefgmgcghhiaa
def DM19.T19 : Bool × List (List Nat × List Nat) := (true, [([], []), ([0], [0]), ([], []), ([], []), ([3], [3]), ([], []), ([4, 5], [4, 5]), ([6], [6]), ([7], [7]), ([], []), ([9], [9]), ([], []), ([10, 11], [10, 11]), ([12], [12]), ([8, 13], [8, 13]), ([2, 14], [2, 14]), ([15], [15]), ([16], [16]), ([1, 17], [1, 17]), ([0, 1, 2, 3, 4, 5, 6, 7, 8, 9, 10, 11, 12, 13, 14, 15, 16, 17, 18], []), ([19, 18, 18, 0, 1, 2, 3, 4, 5, 6, 7, 8, 9, 10, 11, 12, 13, 14, 15, 16, 17, 18], [18, 19])])
def DM19.B19 : List Nat := [0, 1, 0, 0, 8, 0, 56, 120, 248, 0, 512, 0, 3584, 7680, 16376, 32764, 65532, 131068, 262143, 524287, 1048575]
theorem DM19.tab19 : rtab .any (opsOf Try.f30 19) = DM19.T19 := by kernel_rfl
theorem DM19.bits19 : waitsOk DM19.T19.2 DM19.B19 = true := by kernel_rfl
end Go.Proofs.Ytkaefgmgcghhiaa.X
end

section
namespace Go.Proofs.Ytkaefgmgcghhiaa.X
open Go.RowKit Go.Proofs.YtkaefgmgcghhiaaW.PrintWords Go.Proofs.YtkaefgmgcghhiaaW.PrintLast Go.Proofs.YtkaefgmgcghhiaaW.PrintMore
open Go.Proofs.Ytkaefgmgcghhiaa
def mtI (K s : Int) (x : Nat) : Int := wrap64 (wrap64 (s * K) + (x : Int))
def mtO (aO bO : List Int) (op : Int) (p : Int × Int) : Int := Go.bits .and .i64 (shr .i64 op (wrap64 (wrap64 (2 * rd aO p.1) + rd bO p.2))) 1
/-- The four blocks ahead of the looking. -/
structure MtAt (w : World) (A B : Array Value) (W : World) : Prop where
  below : Below w.heap.size w W
  a : W.heap[w.heap.size]? = some (.cells A 43 (0, 0))
  b : W.heap[w.heap.size + 1]? = some (.cells B 43 (0, 0))
  z : W.heap[w.heap.size + 1 + 1]? = some (.cells kr 43 (0, 0))
  ab : W.heap[w.heap.size + 1 + 1 + 1]? = some (.cells (A ++ B) 43 (0, 0))
theorem MtAt.on {w W W1 : World} {A B : Array Value} (h : MtAt w A B W) (hb : Below W.heap.size W W1) : MtAt w A B W1 := ⟨ah h.below hb, av h.a hb, av h.b hb, av h.z hb, av h.ab hb⟩
end Go.Proofs.Ytkaefgmgcghhiaa.X
end

section
namespace Go.Proofs.Ytkaefgmgcghhiaa.X
open Go.RowKit Go.Proofs.YtkaefgmgcghhiaaW.PrintWords Go.Proofs.YtkaefgmgcghhiaaW.PrintLast Go.Proofs.YtkaefgmgcghhiaaW.PrintMore
theorem right_of_mcheck {K N : Int} {nx out : List Int} (h : (mcheck 1 K 2 N nx out).2 = 0) : RightD K N nx out := by
  obtain ⟨h1, h2, h3⟩ := mcheck_ok h
  obtain ⟨_, hK, _, hN, _, h4, h5⟩ := head_bounds h1
  rw [if_pos rfl] at h5
  refine ⟨hK, hN, ?_, by omega, h2, h3⟩
  have := toNat_mul (a := N) (b := K) (by omega) (by omega)
  omega
theorem mtI_eq {K N : Int} {nx out : List Int} (R : RightD K N nx out) {s : Int} (h0 : 0 ≤ s) (h1 : s < N) {x : Nat} (hx : x < K.toNat) : mtI K s x = ((s.toNat * K.toNat + x : Nat) : Int) ∧ s.toNat * K.toNat + x < nx.length := by
  have hn := R.n
  have h2 := idx_eq R (a := s.toNat) (x := (x : Int)) (by omega) (by omega) (by omega)
  have h3 := idx_lt R (a := s.toNat) (x := (x : Int)) (by omega) (by omega) (by omega)
  rw [Int.toNat_natCast] at h2 h3
  rw [Int.toNat_of_nonneg h0] at h2
  exact ⟨h2, h3⟩
def stepP (K : Int) (aN bN : List Int) (p : Int × Int) (x : Nat) : Int × Int := (rd aN ((p.1.toNat * K.toNat + x : Nat) : Int), rd bN ((p.2.toNat * K.toNat + x : Nat) : Int))
structure PairOk (NA NB : Int) (p : Int × Int) : Prop where
  a0 : 0 ≤ p.1
  a1 : p.1 < NA
  b0 : 0 ≤ p.2
  b1 : p.2 < NB
structure Two (K NA NB : Int) (aN aO bN bO : List Int) : Prop where
  a : RightD K NA aN aO
  b : RightD K NB bN bO
theorem Two.step {K NA NB : Int} {aN aO bN bO : List Int} (R : Two K NA NB aN aO bN bO) {p : Int × Int} (hp : PairOk NA NB p) {x : Nat} (hx : x < K.toNat) : PairOk NA NB (stepP K aN bN p x) := by
  have h1 := (mtI_eq R.a hp.a0 hp.a1 hx).2
  have h2 := (mtI_eq R.b hp.b0 hp.b1 hx).2
  have h3 := R.a.nxr _ (List.getElem_mem h1)
  have h4 := R.b.nxr _ (List.getElem_mem h2)
  exact ⟨by show 0 ≤ rd aN _; rw [rdj h1]; omega, by show rd aN _ < _; rw [rdj h1]; omega, by show 0 ≤ rd bN _; rw [rdj h2]; omega, by show rd bN _ < _; rw [rdj h2]; omega⟩
structure Met (K NA NB : Int) (aN aO bN bO : List Int) (op : Int) (i : Nat) (row : List (Int × Int)) (nx out : List Int) : Prop where
  first : row[0]? = some (0, 0)
  prs : ∀ p ∈ row, PairOk NA NB p
  nodup : row.Nodup
  len : i ≤ row.length ∧ row.length ≤ 1024
  nxl : nx.length = i * K.toNat
  outl : out.length = i
  next : ∀ a x, a < i → x < K.toNat → ∃ p n, row[a]? = some p ∧ nx[a * K.toNat + x]? = some ((n : Nat) : Int) ∧ row[n]? = some (stepP K aN bN p x)
  says : ∀ a, a < i → ∃ p, row[a]? = some p ∧ out[a]? = some (mtO aO bO op p)
/-- What is said is 0 or 1. -/
theorem said01 {op s : Int} (h0 : 0 ≤ op) (h1 : op ≤ 15) (h2 : 0 ≤ s) (h3 : s ≤ 3) : 0 ≤ Go.bits .and .i64 (shr .i64 op s) 1 ∧ Go.bits .and .i64 (shr .i64 op s) 1 < 2 := by
  have h : ∀ o : _root_.Fin 16, ∀ t : _root_.Fin 4, 0 ≤ Go.bits .and .i64 (shr .i64 (o.1 : Int) (t.1 : Int)) 1 ∧ Go.bits .and .i64 (shr .i64 (o.1 : Int) (t.1 : Int)) 1 < 2 := by decide +kernel
  have := h ⟨op.toNat, by omega⟩ ⟨s.toNat, by omega⟩
  simp only [Int.toNat_of_nonneg h0, Int.toNat_of_nonneg h2] at this
  exact this
theorem out_at' {K N : Int} {nx out : List Int} (R : RightD K N nx out) {s : Int} (h0 : 0 ≤ s) (h1 : s < N) : 0 ≤ rd out s ∧ rd out s < 2 := by
  have hl := R.outl
  have hs : s = ((s.toNat : Nat) : Int) := by omega
  rw [hs, rdj (by omega)]
  exact R.outr _ (List.getElem_mem _)
theorem Two.sh {K NA NB : Int} {aN aO bN bO : List Int} (R : Two K NA NB aN aO bN bO) {p : Int × Int} (hp : PairOk NA NB p) : wrap64 (wrap64 (2 * rd aO p.1) + rd bO p.2) = 2 * rd aO p.1 + rd bO p.2 ∧ 0 ≤ 2 * rd aO p.1 + rd bO p.2 ∧ 2 * rd aO p.1 + rd bO p.2 ≤ 3 := by
  have h1 := out_at' R.a hp.a0 hp.a1
  have h2 := out_at' R.b hp.b0 hp.b1
  rw [w64i (i := 2 * rd aO p.1) (by omega) (by omega), w64i (by omega) (by omega)]
  omega
theorem Two.out {K NA NB : Int} {aN aO bN bO : List Int} (R : Two K NA NB aN aO bN bO) {op : Int} (h0 : 0 ≤ op) (h1 : op ≤ 15) {p : Int × Int} (hp : PairOk NA NB p) : 0 ≤ mtO aO bO op p ∧ mtO aO bO op p < 2 := by
  obtain ⟨e, h2, h3⟩ := R.sh hp
  unfold mtO
  rw [e]
  exact said01 h0 h1 h2 h3
end Go.Proofs.Ytkaefgmgcghhiaa.X
end

section
namespace Go.Proofs.Ytkaefgmgcghhiaa.X
open Go.RowKit Go.Proofs.YtkaefgmgcghhiaaW.PrintWords Go.Proofs.YtkaefgmgcghhiaaW.PrintLast Go.Proofs.YtkaefgmgcghhiaaW.PrintMore
def rkA (K : Int) (a : Nat) (u : List Int) : Nat := u.foldl (fun a x => a * K.toNat + x.toNat + 1) a
theorem rkA_cons (K : Int) (a : Nat) (x : Int) (u : List Int) : rkA K a (x :: u) = rkA K (a * K.toNat + x.toNat + 1) u := rfl
def geo (K : Int) : Nat → Nat
  | 0 => 0
  | n + 1 => geo K n * K.toNat + 1
theorem geo_mono {K : Int} (hK : 1 ≤ K) : ∀ n, geo K n ≤ geo K (n + 1)
  | 0 => by simp [geo]
  | n + 1 => by
    rw [geo, geo]
    have := Nat.mul_le_mul_right K.toNat (geo_mono hK n)
    omega
theorem geo_le {K : Int} (hK : 1 ≤ K) {n m : Nat} (h : n ≤ m) : geo K n ≤ geo K m := by
  induction h with
  | refl => exact Nat.le_refl _
  | step _ ih => exact Nat.le_trans ih (geo_mono hK _)
theorem rk_bounds {K : Int} (hK : 1 ≤ K) : ∀ (n : Nat) (u : List Int), u.length = n → (∀ c ∈ u, 0 ≤ c ∧ c < K) → geo K n ≤ rk K u ∧ rk K u ≤ geo K n * K.toNat := by
  intro n
  induction n with
  | zero =>
    intro u hu _
    have : u = [] := List.eq_nil_of_length_eq_zero hu
    subst this
    simp [rk, geo]
  | succ n ih =>
    intro u hu hc
    rcases List.eq_nil_or_concat u with rfl | ⟨v, x, e⟩
    · simp at hu
    · rw [List.concat_eq_append] at e
      subst e
      obtain ⟨h1, h2⟩ := ih v (by simpa using hu) (fun c hu => hc c (List.mem_append_left _ hu))
      have hx := hc x (by simp)
      rw [rk_snoc, geo]
      have g1 := Nat.mul_le_mul_right K.toNat h1
      have g2 := Nat.mul_le_mul_right K.toNat h2
      rw [Nat.add_mul, Nat.one_mul]
      omega
theorem RightD.nx' {K N : Int} {nx out : List Int} (R : RightD K N nx out) : Nx K N nx := ⟨R.k, R.n, R.nxl, R.nxr⟩
theorem far_rng {K N : Int} {nx : List Int} (R : Nx K N nx) : ∀ (u : List Int) (s : Int), 0 ≤ s ∧ s < N → (∀ x ∈ u, 0 ≤ x ∧ x < K) → 0 ≤ far K nx s u ∧ far K nx s u < N
  | [], s, h, _ => h
  | x :: u, s, h, hu => by
    have hx := hu x (by simp)
    exact far_rng R u _ (R.step h.1 h.2 (by omega)) (fun y hy => hu y (List.mem_cons_of_mem _ hy))
/-- So many words of a length are accepted from a state. -/
def wcnt (K : Int) (nx out : List Int) : Nat → Int → Int
  | 0, s => rd out s
  | n + 1, s => ((List.range K.toNat).map fun x => wcnt K nx out n (nxt K nx s x)).sum
def accs (K : Int) (nx out : List Int) (s : Int) (u : List Int) : Bool := decide (rd out (far K nx s u) = 1)
theorem sum_cast (l : List Nat) (f : Nat → Nat) : ((((l.map f).sum : Nat)) : Int) = (l.map fun x => ((f x : Nat) : Int)).sum := by
  induction l with
  | nil => rfl
  | cons a r ih => simp [ih]
theorem wcnt_is {K N : Int} {nx out : List Int} (R : RightD K N nx out) : ∀ (n : Nat) (s : Int), 0 ≤ s ∧ s < N → wcnt K nx out n s = (((words K n).countP (accs K nx out s) : Nat) : Int)
  | 0, s, hs => by
    have := out_at' R hs.1 hs.2
    have h01 : rd out s = 0 ∨ rd out s = 1 := by omega
    rcases h01 with h | h <;> simp [wcnt, words, accs, far, h]
  | n + 1, s, hs => by
    rw [wcnt, words, List.countP_flatMap, sum_cast]
    congr 1
    refine List.map_congr_left (fun x hx => ?_)
    have hx := List.mem_range.1 hx
    rw [wcnt_is R n _ (R.nx'.step hs.1 hs.2 hx), Function.comp_apply, List.countP_map]
    rfl
theorem wcnt_nonneg {K N : Int} {nx out : List Int} (R : RightD K N nx out) (n : Nat) {s : Int} (hs : 0 ≤ s ∧ s < N) : 0 ≤ wcnt K nx out n s := by
  rw [wcnt_is R n s hs]
  omega
/-- now holds, of each state, so many words or the bound. -/
def Holds (K N : Int) (nx out : List Int) (n : Nat) (now : List Int) : Prop := (now.length : Int) = N ∧ ∀ s : Int, 0 ≤ s → s < N → rd now s = min (wcnt K nx out n s) 1099511627777
theorem cnX_is {K N : Int} {nx out : List Int} (R : RightD K N nx out) {n : Nat} {now : List Int} (H : Holds K N nx out n now) (s : Nat) (hs : (s : Int) < N) : ∀ (l : List Nat) (a : Int), 0 ≤ a → (∀ x ∈ l, x < K.toNat) → cnX K nx now s l (min a 1099511627777) = some (min (a + (l.map fun x => wcnt K nx out n (nxt K nx (s : Int) x)).sum) 1099511627777)
  | [], a, ha, _ => by simp [cnX]
  | x :: r, a, ha, hl => by
    have hx := hl x (by simp)
    obtain ⟨g1, g2⟩ := R.nx'.idx (s := (s : Int)) (by omega) hs hx
    have ht := R.nx'.step (s := (s : Int)) (by omega) hs hx
    unfold stI at g1
    have hrd : rd nx (((s : Int).toNat * K.toNat + x : Nat) : Int) = nxt K nx (s : Int) x := rfl
    rw [cnX, g1, hrd, if_pos ⟨⟨by omega, by omega⟩, ht.1, by have := H.1; omega⟩, H.2 _ ht.1 ht.2]
    have hc := wcnt_nonneg R n ht
    have e : min (wrap64 (min a 1099511627777 + min (wcnt K nx out n (nxt K nx (s : Int) x)) 1099511627777)) 1099511627777 = min (a + wcnt K nx out n (nxt K nx (s : Int) x)) 1099511627777 := by
      rw [w64a (by omega) (by omega)]
      omega
    rw [e, cnX_is R H s hs r _ (by omega) (fun x hx => hl x (List.mem_cons_of_mem _ hx))]
    simp only [List.map_cons, List.sum_cons, Int.add_assoc]
theorem rd_setQ {l : List Int} {i j : Nat} {v : Int} (hi : i < l.length) : rd (l.set i v) (j : Int) = if i = j then v else rd l (j : Int) := by
  simp only [rd, Int.toNat_natCast, List.getD_eq_getElem?_getD, List.getElem?_set]
  by_cases e : i = j
  · subst e
    simp [hi]
  · simp [e]
theorem cnS_is {K N : Int} {nx out : List Int} (R : RightD K N nx out) {n : Nat} {now : List Int} (H : Holds K N nx out n now) : ∀ (d j : Nat) (l : List Int), j + d = N.toNat → (l.length : Int) = N → (∀ s : Nat, s < j → rd l (s : Int) = min (wcnt K nx out (n + 1) (s : Int)) 1099511627777) →
    ∃ l1, cnS K nx now ((List.range N.toNat).drop j) l = some l1 ∧ Holds K N nx out (n + 1) l1
  | 0, j, l, hd, hl, h => by
    rw [List.drop_of_length_le (by simp; omega)]
    exact ⟨l, rfl, hl, fun s h0 h1 => by
      obtain ⟨a, rfl⟩ : ∃ a : Nat, s = (a : Int) := ⟨s.toNat, by omega⟩
      exact h a (by omega)⟩
  | d + 1, j, l, hd, hl, h => by
    have hn := R.n
    have hj : j < N.toNat := by omega
    have hc := cnX_is R H j (by omega) (List.range K.toNat) 0 (Int.le_refl _) (fun x hx => List.mem_range.1 hx)
    have e0 : min (0 : Int) 1099511627777 = 0 := by omega
    rw [e0, Int.zero_add] at hc
    rw [drop_range hj, cnS, hc]
    simp only []
    refine cnS_is R H d (j + 1) _ (by omega) (by simpa using hl) (fun s hs => ?_)
    rw [rd_setQ (by omega)]
    by_cases e : j = s
    · subst e
      rw [if_pos rfl]
      rfl
    · rw [if_neg e]
      exact h s (by omega)
theorem cnN_is {K N : Int} {nx out : List Int} (R : RightD K N nx out) : ∀ (n i : Nat) (now l : List Int), Holds K N nx out i now → (l.length : Int) = N → ∃ r, cnN K N nx n now l = some r ∧ Holds K N nx out (i + n) r
  | 0, i, now, l, H, _ => ⟨now, rfl, H⟩
  | n + 1, i, now, l, H, hl => by
    obtain ⟨l1, g1, g2⟩ := cnS_is R H N.toNat 0 l (by omega) hl (fun s hs => by omega)
    rw [List.drop_zero] at g1
    obtain ⟨r, g3, g4⟩ := cnN_is R n (i + 1) l1 l1 g2 g2.1
    refine ⟨r, ?_, by rw [show i + (n + 1) = i + 1 + n by omega]; exact g4⟩
    rw [cnN, g1]
    exact g3
theorem in64_of {l : List Int} {N : Int} (hN : N ≤ 1024) (h : ∀ x ∈ l, 0 ≤ x ∧ x < N) : ∀ x ∈ l, In64 x := fun x hx => by
  have := h x hx
  unfold In64
  omega
theorem mach_right {K N : Int} {nx out : List Int} (R : RightD K N nx out) {k : Nat} (hk : 200000 ≤ k) : dm.f k 1 K 2 N nx out = some (0, 0) := by
  have hn := R.n
  rw [mach_prog (in64_of hn.2 R.nxr) (in64_of (N := 2) (by omega) R.outr) hk]
  have h1 := ck_ok R (k := 300000) (by omega)
  rw [mach_ref (by omega)] at h1
  exact h1
theorem dfa_right {K N : Int} {nx out : List Int} (R : RightD K N nx out) {k : Nat} (hk : 200000 ≤ k) : iT.f k 1 K 2 N nx out = some 0 := by
  unfold iT.f
  rw [mach_right R hk, Option.bind_some, if_pos rfl, if_pos rfl]
theorem count_is {K N : Int} {nx out : List Int} (R : RightD K N nx out) {n : Int} (h0 : 0 ≤ n) (h1 : n ≤ 4096) : iW.f 1 K 2 N nx out n = some (if wcnt K nx out n.toNat 0 > 1099511627776 then (0, 11) else (wcnt K nx out n.toNat 0, 0)) := by
  have hn := R.n
  have hk := R.k
  unfold iW.f cnG
  rw [dfa_right R (by unfold big; omega)]
  simp only []
  have hol : (out.length : Int) = N := by have := R.outl; omega
  have H0 : Holds K N nx out 0 out := ⟨hol, fun s g0 g1 => by
    have := out_at' R g0 g1
    show rd out s = min (rd out s) 1099511627777
    omega⟩
  obtain ⟨r, g1, g2⟩ := cnN_is R n.toNat 0 out (List.replicate N.toNat 0) H0 (by simp; omega)
  rw [if_neg (by omega), if_neg (by omega), if_neg (by omega), if_pos ⟨hn, hk, hol⟩, g1]
  simp only []
  rw [g2.2 0 (by omega) (by omega), Nat.zero_add]
  by_cases hc : wcnt K nx out n.toNat 0 > 1099511627776
  · rw [if_pos hc, if_pos (by omega)]
  · rw [if_neg hc, if_neg (by omega)]
    congr 2
    omega
theorem least_l0 {K N : Int} {nx out : List Int} (R : RightD K N nx out) {st : List Int} {ws : List (List Int)} (h : Rch K N nx st ws) : ∀ (d k i : Nat), i + d = st.length → d < k → (∀ (j : Nat) (s : Int), j < i → st[j]? = some s → rd out s ≠ 1) →
    (dR.l0 k ws st (st.length : Int) (i : Int) 1 K 2 N nx out = some ([], false, 0) ∧ ∀ (j : Nat) (s : Int), st[j]? = some s → rd out s ≠ 1) ∨
    ∃ (m : Nat) (s : Int) (w : List Int), dR.l0 k ws st (st.length : Int) (i : Int) 1 K 2 N nx out = some (w, true, 0) ∧ st[m]? = some s ∧ ws[m]? = some w ∧ rd out s = 1 ∧ ∀ (j : Nat) (t : Int), j < m → st[j]? = some t → rd out t ≠ 1
  | 0, k, i, hd, hk, hj => by
    obtain ⟨k, rfl⟩ : ∃ m, k = m + 1 := ⟨k - 1, by omega⟩
    left
    refine ⟨by rw [dR.l0, if_neg (by omega)], fun j s hs => hj j s ?_ hs⟩
    have := (List.getElem?_eq_some_iff.1 hs).1
    omega
  | d + 1, k, i, hd, hk, hj => by
    obtain ⟨k, rfl⟩ : ∃ m, k = m + 1 := ⟨k - 1, by omega⟩
    have hi : i < st.length := by omega
    have hlen := h.len
    have hw := lY R.nx' h.toWay
    have hn := R.n
    have hr := h.rng _ (List.getElem_mem hi)
    have hs : st[i]? = some st[i] := List.getElem?_eq_getElem hi
    rw [dR.l0, if_pos (by omega), if_pos (by omega), if_pos (by omega), jm hi, if_pos hr.1, if_pos (by have := R.outl; omega)]
    by_cases ho : rd out st[i] = 1
    · right
      have hwi : ws[i]? = some ws[i] := List.getElem?_eq_getElem (by omega)
      refine ⟨i, st[i], ws[i], ?_, hs, hwi, ho, hj⟩
      rw [if_pos ho, if_pos (by omega)]
      congr 2
      simp [jX, List.getD_eq_getElem?_getD, hwi]
    · rw [if_neg ho, w64j (by omega)]
      refine least_l0 R h d k (i + 1) (by omega) (by omega) (fun j s hlt hjs => ?_)
      by_cases e : j = i
      · subst e
        rw [hs] at hjs
        injection hjs with hjs
        rw [← hjs]
        exact ho
      · exact hj j s (by omega) hjs
theorem least_is {K N : Int} {nx out : List Int} (R : RightD K N nx out) {k : Nat} (hk : 200000 ≤ k) :
    (dR.f k 1 K 2 N nx out = some ([], false, 0) ∧ ∀ u : List Int, (∀ c ∈ u, 0 ≤ c ∧ c < K) → rd out (far K nx 0 u) ≠ 1) ∨
    ∃ w : List Int, dR.f k 1 K 2 N nx out = some (w, true, 0) ∧ (∀ c ∈ w, 0 ≤ c ∧ c < K) ∧ w.length ≤ 1024 ∧ rd out (far K nx 0 w) = 1 ∧ ∀ u : List Int, (∀ c ∈ u, 0 ≤ c ∧ c < K) → rd out (far K nx 0 u) = 1 → rk K w ≤ rk K u := by
  obtain ⟨st, ws, g1, h⟩ := reach_spec R.nx' (q := rcBig) (by unfold rcBig; omega)
  have hf := lY R.nx' h.toWay
  have hn := R.n
  have hreach : fe.f 1 K 2 N nx out = some (st, ws, 0) := by
    unfold fe.f rcG
    rw [mach_right R (by unfold rcBig; omega)]
    simp only []
    rw [if_neg (by omega), g1]
  have e : dR.f k 1 K 2 N nx out = dR.l0 k ws st (st.length : Int) ((0 : Nat) : Int) 1 K 2 N nx out := by
    unfold dR.f
    rw [dfa_right R hk, Option.bind_some, if_pos rfl, hreach, Option.bind_some]
    rfl
  rw [e]
  rcases least_l0 R h st.length k 0 (by omega) (by omega) (fun j s hj _ => by omega) with ⟨h1, h2⟩ | ⟨m, s, w, h1, h2, h3, h4, h5⟩
  · refine .inl ⟨h1, fun u hu => ?_⟩
    obtain ⟨m, w, a, b, _⟩ := h.least u hu
    exact h2 m _ a
  · refine .inr ⟨w, h1, h.sym w (List.mem_of_getElem? h3), ?_, ?_, fun u hu ho => ?_⟩
    · have := h.wl m w h3
      have := (List.getElem?_eq_some_iff.1 h2).1
      omega
    · rw [h.go m s w h2 h3]
      exact h4
    · obtain ⟨m', w', a, b, c⟩ := h.least u hu
      have hmm : ¬ m' < m := fun hlt => h5 m' _ hlt a ho
      by_cases e : m = m'
      · subst e
        rw [h3] at b
        injection b with b
        rw [b]
        exact c
      · have := h.inc m m' w w' (by omega) h3 b
        omega
end Go.Proofs.Ytkaefgmgcghhiaa.X
end

section
namespace Go.Proofs.Ytkaefgmgcghhiaa.X
open Go.RowKit Go.Proofs.YtkaefgmgcghhiaaW.PrintWords Go.Proofs.YtkaefgmgcghhiaaW.PrintLast Go.Proofs.YtkaefgmgcghhiaaW.PrintMore
/-- known tells which states are there. -/
def Kn (N : Int) (known : List Bool) (st : List Int) : Prop := known.length = N.toNat ∧ ∀ t : Int, 0 ≤ t → t < N → (rdOf false known t = true ↔ t ∈ st)
theorem join_one {w : List Int} {x : Int} (h : w.length < 1000000) : dS.f w [x] = some (w ++ [x]) := by
  unfold dS.f
  rw [Option.bind_some, if_pos (by simp; omega), Option.bind_some, if_pos (by simp; omega)]
  rfl
theorem rdOf_set {l : List Bool} {a b : Int} (h0 : 0 ≤ a) (h1 : a < (l.length : Int)) (hb : 0 ≤ b) : rdOf false (l.set a.toNat true) b = (if a = b then true else rdOf false l b) := by
  obtain ⟨i, rfl⟩ : ∃ i : Nat, a = (i : Int) := ⟨a.toNat, by omega⟩
  obtain ⟨j, rfl⟩ : ∃ j : Nat, b = (j : Int) := ⟨b.toNat, by omega⟩
  simp only [rdOf, Int.toNat_natCast, List.getD_eq_getElem?_getD, List.getElem?_set]
  by_cases e : i = j
  · subst e
    have : i < l.length := by omega
    simp [this]
  · have : ¬ ((i : Int) = (j : Int)) := by omega
    simp [e, this]
theorem refReach_l2 {K N : Int} {nx out : List Int} (R : Nx K N nx) (kd O : Int) (i : Nat) (s : Int) (hi : i < 1024) (until_ : Int) : ∀ (e x m : Nat) (known : List Bool) (st : List Int) (ws : List (List Int)), x + e = K.toNat → st[i]? = some s → Bfs K N nx i x st ws → Kn N known st →
    ∃ known1 st1 ws1, au.l2 (m + e + 1) known st ws until_ (i : Int) (x : Int) kd K O N nx out = au.l1 m known1 st1 ws1 until_ ((i + 1 : Nat) : Int) kd K O N nx out ∧ Bfs K N nx i K.toNat st1 ws1 ∧ Kn N known1 st1 ∧ st.length ≤ st1.length ∧ st1[i]? = some s := by
  intro e
  induction e with
  | zero =>
    intro x m known st ws hx hs h hk
    have hK := R.k
    refine ⟨known, st, ws, ?_, ?_, hk, Nat.le_refl _, hs⟩
    · rw [au.l2, if_neg (by omega), w64j (by omega)]
    · have : x = K.toNat := by omega
      rw [← this]
      exact h
  | succ e ih =>
    intro x m known st ws hx hs h hk
    have hxk : x < K.toNat := by omega
    have hn := R.n
    have hK := R.k
    have hil := (List.getElem?_eq_some_iff.1 hs).1
    have hlen := h.len
    have hsr := h.rng s (List.mem_of_getElem? hs)
    obtain ⟨g1, g2⟩ := R.idx hsr.1 hsr.2 hxk
    have ht := R.step hsr.1 hsr.2 hxk
    have hw : ws[i]? = some ws[i] := List.getElem?_eq_getElem (by omega)
    have hwl := h.wl i _ hw
    have hf := lY R h.toWay
    have hrs : rd st (i : Int) = s := by
      rw [jm hil]
      have := hs
      rw [List.getElem?_eq_getElem hil] at this
      injection this
    have hrd : rd nx ((s.toNat * K.toNat + x : Nat) : Int) = nxt K nx s x := rfl
    have hrw : jX ws (i : Int) = ws[i] := by simp [jX, List.getD_eq_getElem?_getD, hw]
    unfold stI at g1
    rw [show m + (e + 1) + 1 = (m + e + 1) + 1 by omega, au.l2, hrs, g1, hrd, hrw]
    rw [if_pos (by omega), if_pos (by omega), if_pos (by omega), if_pos (by omega), if_pos (by omega), if_pos ht.1, if_pos (by have := hk.1; omega)]
    by_cases hm : nxt K nx s x ∈ st
    · rw [if_pos ((hk.2 _ ht.1 ht.2).2 hm), w64j (by omega)]
      exact ih (x + 1) m known st ws (by omega) hs (h.old hs hw hm) hk
    · rw [if_neg (fun hc => hm ((hk.2 _ ht.1 ht.2).1 hc)), if_pos (by omega), if_pos (by omega), join_one (by omega), Option.bind_some, if_pos (by omega), w64j (by omega)]
      obtain ⟨k1, s1, w1, a1, a2, a3, a4, a5⟩ := ih (x + 1) m (known.set (nxt K nx s x).toNat true) (st ++ [nxt K nx s x]) (ws ++ [ws[i] ++ [(x : Int)]]) (by omega) (get_app_l hs _) (h.new R hxk hs hw hm) ⟨by simp [hk.1], fun t h0 h1 => by
        rw [rdOf_set ht.1 (by have := hk.1; omega) h0]
        by_cases e : nxt K nx s x = t
        · rw [if_pos e]
          simp [e]
        · rw [if_neg e, hk.2 t h0 h1]
          simp only [List.mem_append, List.mem_singleton]
          exact ⟨fun h => .inl h, fun h => h.elim id (fun h => absurd h.symm e)⟩⟩
      exact ⟨k1, s1, w1, a1, a2, a3, by simp at a4; omega, a5⟩
theorem refReach_l1 {K N : Int} {nx out : List Int} (R : Nx K N nx) (kd O : Int) : ∀ (d i k u : Nat) (known : List Bool) (st : List Int) (ws : List (List Int)), i + d = 1025 → i ≤ u → u ≤ st.length → Bfs K N nx i 0 st ws → Kn N known st → d * 100 + 100 < k →
    ∃ st1 ws1, au.l1 k known st ws (u : Int) (i : Int) kd K O N nx out = some (st1, ws1, 0) ∧ Rch K N nx st1 ws1 := by
  intro d
  induction d with
  | zero =>
    intro i k u known st ws hd hiu hu h _ _
    have := lY R h.toWay
    have := R.n
    omega
  | succ d ih =>
    have main : ∀ (i k u : Nat) (known : List Bool) (st : List Int) (ws : List (List Int)), i + (d + 1) = 1025 → i < u → u ≤ st.length → Bfs K N nx i 0 st ws → Kn N known st → d * 100 + 190 < k →
        ∃ st1 ws1, au.l1 k known st ws (u : Int) (i : Int) kd K O N nx out = some (st1, ws1, 0) ∧ Rch K N nx st1 ws1 := by
      intro i k u known st ws hd hiu hu h hkn hk
      have hK := R.k
      have hs : st[i]? = some st[i] := List.getElem?_eq_getElem (by omega)
      have hfw := lY R h.toWay
      have hnn := R.n
      obtain ⟨m, rfl⟩ : ∃ m, k = (m + K.toNat + 1) + 1 := ⟨k - K.toNat - 2, by omega⟩
      rw [au.l1, if_pos (by omega)]
      obtain ⟨k1, s1, w1, a1, a2, a3, a4, a5⟩ := refReach_l2 (out := out) R kd O i st[i] (by omega) (u : Int) K.toNat 0 m known st ws (by omega) hs h hkn
      have a1' : au.l2 (m + K.toNat + 1) known st ws (u : Int) (i : Int) 0 kd K O N nx out = _ := a1
      rw [a1']
      have z1 : i + 1 + d = 1025 := by omega
      have z2 : i + 1 ≤ u := by omega
      have z3 : u ≤ s1.length := by omega
      have z4 : i < s1.length := by omega
      have z5 : d * 100 + 100 < m := by omega
      have z6 := a2.next z4
      exact ih (i + 1) m u k1 s1 w1 z1 z2 z3 z6 a3 z5
    intro i k u known st ws hd hiu hu h hkn hk
    by_cases hlt : i < u
    · have zk : d * 100 + 190 < k := by
        clear main ih h hkn R
        omega
      have zz := main i k u known st ws hd hlt hu h hkn zk
      exact zz
    · have : i = u := by omega
      subst this
      obtain ⟨k, rfl⟩ : ∃ m, k = m + 2 := ⟨k - 2, by omega⟩
      rw [au.l1, if_neg (by omega), au.l0]
      by_cases hl : i < st.length
      · rw [if_pos (by omega)]
        exact main i k st.length known st ws hd hl (Nat.le_refl _) h hkn (by omega)
      · rw [if_neg (by omega)]
        exact ⟨st, ws, rfl, h.ends hl⟩
theorem refReach_is {K N : Int} {nx out : List Int} (R : RightD K N nx out) {k : Nat} (hk : 400000 ≤ k) : ∃ st ws, au.f k 1 K 2 N nx out = some (st, ws, 0) ∧ Rch K N nx st ws := by
  have hn := R.n
  obtain ⟨k, rfl⟩ : ∃ m, k = m + 2 := ⟨k - 2, by omega⟩
  unfold au.f
  rw [ck_ok R (by omega), Option.bind_some, if_pos rfl, if_pos (by omega), if_pos (by omega), Option.bind_some, if_pos (by simp; omega), au.l0, if_pos (by simp)]
  have hkn : Kn N ((List.replicate N.toNat false).set (0 : Int).toNat true) [0] := ⟨by simp, fun t h0 h1 => by
    rw [rdOf_set (Int.le_refl _) (by simp; omega) h0]
    by_cases e : (0 : Int) = t
    · rw [if_pos e]
      simp [e]
    · rw [if_neg e]
      have : rdOf false (List.replicate N.toNat false) t = false := by
        simp only [rdOf, List.getD_eq_getElem?_getD, List.getElem?_replicate]
        split <;> rfl
      rw [this]
      simp only [List.mem_singleton, Bool.false_eq_true, false_iff]
      exact fun h => e h.symm⟩
  exact refReach_l1 R.nx' 1 2 1025 0 (k + 1) 1 _ [0] [[]] (by omega) (by omega) (by simp) (bfs_start R.nx') hkn (by omega)
theorem rkA_inj {K : Int} (hK : 1 ≤ K) : ∀ (u v : List Int) (a b : Nat), u.length = v.length → (∀ c ∈ u, 0 ≤ c ∧ c < K) → (∀ c ∈ v, 0 ≤ c ∧ c < K) → rkA K a u = rkA K b v → a = b ∧ u = v
  | [], [], a, b, _, _, _, h => ⟨h, rfl⟩
  | [], _ :: _, _, _, h, _, _, _ => by simp at h
  | _ :: _, [], _, _, h, _, _, _ => by simp at h
  | x :: u, y :: v, a, b, hl, hu, hv, h => by
    rw [rkA_cons, rkA_cons] at h
    have hx := hu x (by simp)
    have hy := hv y (by simp)
    obtain ⟨h1, h2⟩ := rkA_inj hK u v _ _ (by simpa using hl) (fun c hc => hu c (List.mem_cons_of_mem _ hc)) (fun c hc => hv c (List.mem_cons_of_mem _ hc)) h
    have hab : a = b := by
      rcases Nat.lt_trichotomy a b with hlt | e | hlt
      · have := Nat.mul_le_mul_right K.toNat hlt
        rw [Nat.succ_mul] at this
        omega
      · exact e
      · have := Nat.mul_le_mul_right K.toNat hlt
        rw [Nat.succ_mul] at this
        omega
    subst hab
    refine ⟨rfl, ?_⟩
    rw [h2, show x = y by omega]
theorem rk_inj {K : Int} (hK : 1 ≤ K) {u v : List Int} (hu : ∀ c ∈ u, 0 ≤ c ∧ c < K) (hv : ∀ c ∈ v, 0 ≤ c ∧ c < K) (h : rk K u = rk K v) : u = v := by
  obtain ⟨h1, h2⟩ := rk_bounds hK u.length u rfl hu
  obtain ⟨g1, g2⟩ := rk_bounds hK v.length v rfl hv
  have hl : u.length = v.length := by
    rcases Nat.lt_trichotomy u.length v.length with hlt | e | hlt
    · have := geo_le hK (n := u.length + 1) (m := v.length) hlt
      rw [geo] at this
      omega
    · exact e
    · have := geo_le hK (n := v.length + 1) (m := u.length) hlt
      rw [geo] at this
      omega
  exact (rkA_inj hK u v 0 0 hl hu hv h).2
theorem Rch.word {K N : Int} {nx : List Int} (hK : 1 ≤ K) {st st2 : List Int} {ws ws2 : List (List Int)} (h : Rch K N nx st ws) (h2 : Rch K N nx st2 ws2) {j : Nat} {w : List Int} (hw : ws[j]? = some w) : ∃ m : Nat, ws2[m]? = some w := by
  have hj : j < st.length := by
    have := (List.getElem?_eq_some_iff.1 hw).1
    have := h.len
    omega
  have hs : st[j]? = some st[j] := List.getElem?_eq_getElem hj
  have hsym := h.sym w (List.mem_of_getElem? hw)
  obtain ⟨m, v, a1, a2, a3⟩ := h2.least w hsym
  rw [h.go j _ w hs hw] at a1
  have hv := h2.sym v (List.mem_of_getElem? a2)
  obtain ⟨l, x, b1, b2, b3⟩ := h.least v hv
  rw [h2.go m _ v a1 a2] at b1
  -- l = j
  have hlj : l = j := by
    have hll := (List.getElem?_eq_some_iff.1 b1).1
    have e : st[l] = st[j] := by
      rw [List.getElem?_eq_getElem hll] at b1
      injection b1
    exact (List.getElem_inj h.nd).1 e
  subst hlj
  rw [hw] at b2
  injection b2 with b2
  subst b2
  have := rk_inj hK hsym hv (by omega)
  subst this
  exact ⟨m, a2⟩
theorem incr_eq {K : Int} : ∀ (n : Nat) (ws ws2 : List (List Int)), ws.length = n → (∀ (j l : Nat) (u v : List Int), j < l → ws[j]? = some u → ws[l]? = some v → rk K u < rk K v) → (∀ (j l : Nat) (u v : List Int), j < l → ws2[j]? = some u → ws2[l]? = some v → rk K u < rk K v) → (∀ w, w ∈ ws ↔ w ∈ ws2) → ws = ws2
  | 0, ws, ws2, hn, _, _, h => by
    have : ws = [] := List.eq_nil_of_length_eq_zero hn
    subst this
    cases ws2 with
    | nil => rfl
    | cons a r => exact absurd ((h a).2 (by simp)) (by simp)
  | n + 1, ws, ws2, hn, h1, h2, h => by
    cases ws with
    | nil => simp at hn
    | cons a r =>
      cases ws2 with
      | nil => exact absurd ((h a).1 (by simp)) (by simp)
      | cons b q =>
        have low1 : ∀ w ∈ r, rk K a < rk K w := fun w hw => by
          obtain ⟨j, hj⟩ := List.mem_iff_getElem?.1 hw
          exact h1 0 (j + 1) a w (by omega) rfl (by simpa using hj)
        have low2 : ∀ w ∈ q, rk K b < rk K w := fun w hw => by
          obtain ⟨j, hj⟩ := List.mem_iff_getElem?.1 hw
          exact h2 0 (j + 1) b w (by omega) rfl (by simpa using hj)
        have hab : a = b := by
          rcases List.mem_cons.1 ((h a).1 (by simp)) with e | e
          · exact e
          · rcases List.mem_cons.1 ((h b).2 (by simp)) with e2 | e2
            · exact e2.symm
            · have := low1 b e2
              have := low2 a e
              omega
        subst hab
        congr 1
        refine incr_eq n r q (by simpa using hn) (fun j l u v hjl hj hl => h1 (j + 1) (l + 1) u v (by omega) (by simpa using hj) (by simpa using hl)) (fun j l u v hjl hj hl => h2 (j + 1) (l + 1) u v (by omega) (by simpa using hj) (by simpa using hl)) (fun w => ⟨fun hw => ?_, fun hw => ?_⟩)
        · rcases List.mem_cons.1 ((h w).1 (List.mem_cons_of_mem _ hw)) with e | e
          · have := low1 w hw
            rw [e] at this
            omega
          · exact e
        · rcases List.mem_cons.1 ((h w).2 (List.mem_cons_of_mem _ hw)) with e | e
          · have := low2 w hw
            rw [e] at this
            omega
          · exact e
theorem Rch.uniq {K N : Int} {nx : List Int} (hK : 1 ≤ K) {st st2 : List Int} {ws ws2 : List (List Int)} (h : Rch K N nx st ws) (h2 : Rch K N nx st2 ws2) : st = st2 ∧ ws = ws2 := by
  have hws : ws = ws2 := incr_eq ws.length ws ws2 rfl h.inc h2.inc (fun w => ⟨fun hw => by
    obtain ⟨j, hj⟩ := List.mem_iff_getElem?.1 hw
    obtain ⟨m, hm⟩ := h.word hK h2 hj
    exact List.mem_of_getElem? hm, fun hw => by
    obtain ⟨j, hj⟩ := List.mem_iff_getElem?.1 hw
    obtain ⟨m, hm⟩ := h2.word hK h hj
    exact List.mem_of_getElem? hm⟩)
  refine ⟨?_, hws⟩
  subst hws
  have l1 := h.len
  have l2 := h2.len
  refine List.ext_getElem (by omega) (fun j g1 g2 => ?_)
  have hw : ws[j]? = some ws[j] := List.getElem?_eq_getElem (by omega)
  have e1 := h.go j _ _ (List.getElem?_eq_getElem g1) hw
  have e2 := h2.go j _ _ (List.getElem?_eq_getElem g2) hw
  rw [← e1, ← e2]
end Go.Proofs.Ytkaefgmgcghhiaa.X
end

section
namespace Go.Proofs.Ytkaefgmgcghhiaa.X
open Go.RowKit Go.Proofs.YtkaefgmgcghhiaaW.PrintWords Go.Proofs.YtkaefgmgcghhiaaW.PrintLast Go.Proofs.YtkaefgmgcghhiaaW.PrintMore
def sumN (f : Int → Int) : Nat → Int
  | 0 => 0
  | n + 1 => sumN f n + f (n : Int)
theorem sumN_zero : ∀ (n : Nat), sumN (fun _ => 0) n = 0
  | 0 => rfl
  | n + 1 => by rw [sumN, sumN_zero n]; rfl
def push (A : Int → Int) (c t0 : Int) : Int → Int := fun t => if t0 = t then A t + c else A t
theorem sum_push (A h : Int → Int) (c : Int) : ∀ (n : Nat) (t0 : Int), 0 ≤ t0 → sumN (fun t => push A c t0 t * h t) n = sumN (fun t => A t * h t) n + (if t0 < (n : Int) then c * h t0 else 0)
  | 0, t0, h0 => by rw [if_neg (by omega)]; rfl
  | n + 1, t0, h0 => by
    rw [sumN, sumN, sum_push A h c n t0 h0]
    by_cases e : t0 = (n : Int)
    · subst e
      rw [if_neg (by omega), if_pos (by omega)]
      simp only [push, if_true, Int.add_mul]
      omega
    · have hp : push A c t0 (n : Int) = A (n : Int) := if_neg e
      rw [hp]
      by_cases hl : t0 < (n : Int)
      · rw [if_pos hl, if_pos (by omega)]
        omega
      · rw [if_neg hl, if_neg (by omega)]
        omega
def stepX (K : Int) (nx : List Int) (F : Int → Int) (s : Nat) : List Nat → (Int → Int) → Int → Int
  | [], A => A
  | x :: r, A => stepX K nx F s r (push A (F (s : Int)) (nxt K nx (s : Int) x))
def stepS (K : Int) (nx : List Int) (F : Int → Int) : List Nat → (Int → Int) → Int → Int
  | [], A => A
  | s :: r, A => stepS K nx F r (stepX K nx F s (List.range K.toNat) A)
theorem sum_stepX {K N : Int} {nx : List Int} (R : Nx K N nx) (F h : Int → Int) {s : Nat} (hs : (s : Int) < N) : ∀ (l : List Nat) (A : Int → Int), (∀ x ∈ l, x < K.toNat) → sumN (fun t => stepX K nx F s l A t * h t) N.toNat = sumN (fun t => A t * h t) N.toNat + F (s : Int) * (l.map fun x => h (nxt K nx (s : Int) x)).sum
  | [], A, _ => by simp [stepX]
  | x :: r, A, hl => by
    have ht := R.step (s := (s : Int)) (by omega) hs (hl x (by simp))
    have := sum_stepX R F h hs r (push A (F (s : Int)) (nxt K nx (s : Int) x)) (fun y hy => hl y (List.mem_cons_of_mem _ hy))
    rw [stepX, this, sum_push A h _ N.toNat _ ht.1, if_pos (by omega), List.map_cons, List.sum_cons, Int.mul_add]
    omega
theorem sum_stepS {K N : Int} {nx : List Int} (R : Nx K N nx) (F h : Int → Int) : ∀ (l : List Nat) (A : Int → Int), (∀ s ∈ l, (s : Int) < N) → sumN (fun t => stepS K nx F l A t * h t) N.toNat = sumN (fun t => A t * h t) N.toNat + (l.map fun (s : Nat) => F (s : Int) * ((List.range K.toNat).map fun x => h (nxt K nx (s : Int) x)).sum).sum
  | [], A, _ => by simp [stepS]
  | s :: r, A, hl => by
    have := sum_stepS R F h r (stepX K nx F s (List.range K.toNat) A) (fun y hy => hl y (List.mem_cons_of_mem _ hy))
    rw [stepS, this, sum_stepX R F h (hl s (by simp)) _ A (fun x hx => List.mem_range.1 hx), List.map_cons, List.sum_cons]
    omega
theorem sum_range (f : Int → Int) : ∀ (n : Nat), ((List.range n).map fun (i : Nat) => f (i : Int)).sum = sumN f n
  | 0 => rfl
  | n + 1 => by
    rw [List.range_succ, List.map_append, List.sum_append, sum_range f n, sumN]
    simp
/-- So many words of a length lead to a state. -/
def fw (K N : Int) (nx : List Int) : Nat → Int → Int
  | 0 => fun t => if t = 0 then 1 else 0
  | i + 1 => stepS K nx (fw K N nx i) (List.range N.toNat) (fun _ => 0)
theorem fw_wcnt {K N : Int} {nx out : List Int} (R : RightD K N nx out) : ∀ (i j : Nat), sumN (fun t => fw K N nx i t * wcnt K nx out j t) N.toNat = wcnt K nx out (i + j) 0
  | 0, j => by
    have hn := R.n
    have e : (fun t => fw K N nx 0 t * wcnt K nx out j t) = fun t => push (fun _ => 0) 1 0 t * wcnt K nx out j t := by
      funext t
      simp only [fw, push]
      by_cases h : t = 0
      · rw [if_pos h, if_pos h.symm]
        omega
      · rw [if_neg h, if_neg (fun e => h e.symm)]
    rw [e, sum_push _ _ _ _ _ (Int.le_refl _), if_pos (by omega)]
    have : (fun t => (0 : Int) * wcnt K nx out j t) = fun _ => 0 := by
      funext t
      omega
    rw [this, sumN_zero]
    simp
  | i + 1, j => by
    have h := sum_stepS R.nx' (fw K N nx i) (wcnt K nx out j) (List.range N.toNat) (fun _ => 0) (fun s hs => by have := List.mem_range.1 hs; omega)
    have z : (fun t => (0 : Int) * wcnt K nx out j t) = fun _ => 0 := by
      funext t
      omega
    rw [z, sumN_zero, Int.zero_add] at h
    have h2 := sum_range (fun s => fw K N nx i s * wcnt K nx out (j + 1) s) N.toNat
    have h3 := fw_wcnt R i (j + 1)
    rw [show i + 1 + j = i + (j + 1) by omega, ← h3, ← h2]
    exact h
def Fwd (N : Int) (A : Int → Int) (now : List Int) : Prop := (now.length : Int) = N ∧ ∀ t : Int, 0 ≤ t → t < N → 0 ≤ A t ∧ rd now t = min (A t) 2199023255552
theorem rd_setI {l : List Int} {a b v : Int} (h0 : 0 ≤ a) (h1 : a < (l.length : Int)) (hb : 0 ≤ b) : rd (l.set a.toNat v) b = if a = b then v else rd l b := by
  obtain ⟨i, rfl⟩ : ∃ i : Nat, a = (i : Int) := ⟨a.toNat, by omega⟩
  obtain ⟨j, rfl⟩ : ∃ j : Nat, b = (j : Int) := ⟨b.toNat, by omega⟩
  rw [Int.toNat_natCast, rd_setQ (by omega)]
  by_cases e : i = j
  · rw [if_pos e, if_pos (by omega)]
  · rw [if_neg e, if_neg (by omega)]
theorem refCount_l2 {K N : Int} {nx out : List Int} (R : RightD K N nx out) (n : Int) (F : Int → Int) (now : List Int) (H : Fwd N F now) (i : Int) (s : Nat) (hs : (s : Int) < N) : ∀ (e x m : Nat) (l : List Int) (A : Int → Int), x + e = K.toNat → Fwd N A l →
    ∃ l1, aV.l2 (m + e + 1) n now i l (s : Int) (x : Int) 1 K 2 N nx out = aV.l1 m n now i l1 ((s + 1 : Nat) : Int) 1 K 2 N nx out ∧ Fwd N (stepX K nx F s ((List.range K.toNat).drop x) A) l1
  | 0, x, m, l, A, hx, HA => by
    have hk := R.k
    have hn := R.n
    rw [List.drop_of_length_le (by simp; omega)]
    refine ⟨l, ?_, HA⟩
    rw [aV.l2, if_neg (by omega), w64j (by omega)]
  | e + 1, x, m, l, A, hx, HA => by
    have hk := R.k
    have hn := R.n
    have hxk : x < K.toNat := by omega
    obtain ⟨g1, g2⟩ := R.nx'.idx (s := (s : Int)) (by omega) hs hxk
    have ht := R.nx'.step (s := (s : Int)) (by omega) hs hxk
    have hrd : rd nx (((s : Int).toNat * K.toNat + x : Nat) : Int) = nxt K nx (s : Int) x := rfl
    unfold stI at g1
    have hF := H.2 (s : Int) (by omega) hs
    have hA := HA.2 _ ht.1 ht.2
    rw [drop_range hxk, stepX, show m + (e + 1) + 1 = (m + e + 1) + 1 by omega, aV.l2, g1, hrd]
    rw [if_pos (by omega), if_pos (by omega), if_pos (by omega), if_pos ht.1, if_pos (by have := HA.1; omega), if_pos (by omega), if_pos (by have := H.1; omega), Option.bind_some]
    rw [w64a (i := rd l (nxt K nx (s : Int) x) + rd now (s : Int)) (by omega) (by omega), w64j (by omega)]
    by_cases hc : rd l (nxt K nx (s : Int) x) + rd now (s : Int) > 2199023255552
    · rw [if_pos hc]
      refine refCount_l2 R n F now H i s hs e (x + 1) m _ _ (by omega) ⟨by simpa using HA.1, fun t h0 h1 => ?_⟩
      have hAt := HA.2 t h0 h1
      rw [List.set_set, rd_setI ht.1 (by have := HA.1; omega) h0]
      unfold push
      by_cases e : nxt K nx (s : Int) x = t
      · rw [if_pos e, if_pos e, ← e]
        omega
      · rw [if_neg e, if_neg e]
        exact hAt
    · rw [if_neg hc]
      refine refCount_l2 R n F now H i s hs e (x + 1) m _ _ (by omega) ⟨by simpa using HA.1, fun t h0 h1 => ?_⟩
      have hAt := HA.2 t h0 h1
      rw [rd_setI ht.1 (by have := HA.1; omega) h0]
      unfold push
      by_cases e : nxt K nx (s : Int) x = t
      · rw [if_pos e, if_pos e, ← e]
        omega
      · rw [if_neg e, if_neg e]
        exact hAt
theorem refCount_l1 {K N : Int} {nx out : List Int} (R : RightD K N nx out) (n : Int) (F : Int → Int) (now : List Int) (H : Fwd N F now) (i : Nat) (hi : i < 100000) : ∀ (d s m : Nat) (l : List Int) (A : Int → Int), s + d = N.toNat → Fwd N A l →
    ∃ l1, aV.l1 (m + d * (K.toNat + 2) + 1) n now (i : Int) l (s : Int) 1 K 2 N nx out = aV.l0 m n l1 ((i + 1 : Nat) : Int) 1 K 2 N nx out ∧ Fwd N (stepS K nx F ((List.range N.toNat).drop s) A) l1
  | 0, s, m, l, A, hx, HA => by
    have hn := R.n
    rw [List.drop_of_length_le (by simp; omega)]
    refine ⟨l, ?_, HA⟩
    rw [Nat.zero_mul, aV.l1, if_neg (by omega), w64j (by omega)]
  | d + 1, s, m, l, A, hx, HA => by
    have hn := R.n
    rw [drop_range (by omega), stepS, show m + (d + 1) * (K.toNat + 2) + 1 = ((m + d * (K.toNat + 2) + 1) + K.toNat + 1) + 1 by rw [Nat.succ_mul]; omega, aV.l1, if_pos (by omega)]
    obtain ⟨l1, a1, a2⟩ := refCount_l2 R n F now H (i : Int) s (by omega) K.toNat 0 (m + d * (K.toNat + 2) + 1) l A (by omega) HA
    rw [List.drop_zero] at a2
    have a1' : aV.l2 (m + d * (K.toNat + 2) + 1 + K.toNat + 1) n now (i : Int) l (s : Int) 0 1 K 2 N nx out = _ := a1
    rw [a1']
    exact refCount_l1 R n F now H i hi d (s + 1) m l1 _ (by omega) a2
theorem fwd_zero {N : Int} (hN : 0 ≤ N) : Fwd N (fun _ => 0) (List.replicate N.toNat 0) := ⟨by simp; omega, fun t h0 h1 => ⟨Int.le_refl _, by
  have : rd (List.replicate N.toNat (0 : Int)) t = 0 := by
    simp only [rd, List.getD_eq_getElem?_getD, List.getElem?_replicate]
    split <;> rfl
  rw [this]
  rfl⟩⟩
theorem refCount_l0 {K N : Int} {nx out : List Int} (R : RightD K N nx out) (n : Nat) (hnb : n ≤ 4096) : ∀ (r i m : Nat) (now : List Int), i + r = n → Fwd N (fw K N nx i) now →
    ∃ now1, aV.l0 (m + r * (N.toNat * (K.toNat + 2) + 2) + 1) (n : Int) now (i : Int) 1 K 2 N nx out = aV.l3 m now1 0 0 1 K 2 N nx out ∧ Fwd N (fw K N nx n) now1
  | 0, i, m, now, hr, H => by
    have : i = n := by omega
    subst this
    refine ⟨now, ?_, H⟩
    rw [Nat.zero_mul, aV.l0, if_neg (by omega)]
  | r + 1, i, m, now, hr, H => by
    have hn := R.n
    obtain ⟨c, hc⟩ : ∃ c, N.toNat * (K.toNat + 2) = c := ⟨_, rfl⟩
    rw [hc]
    rw [show m + (r + 1) * (c + 2) + 1 = ((m + r * (c + 2) + 1) + c + 1) + 1 by rw [Nat.succ_mul]; omega, aV.l0, if_pos (by omega), if_pos (by omega), if_pos (by omega)]
    obtain ⟨l1, a1, a2⟩ := refCount_l1 R (n : Int) (fw K N nx i) now H i (by omega) N.toNat 0 (m + r * (c + 2) + 1) _ _ (by omega) (fwd_zero (by omega))
    rw [List.drop_zero] at a2
    rw [hc] at a1
    have a1' : aV.l1 (m + r * (c + 2) + 1 + c + 1) (n : Int) now (i : Int) (List.replicate N.toNat 0) 0 1 K 2 N nx out = _ := a1
    rw [a1']
    have := refCount_l0 R n hnb r (i + 1) m l1 (by omega) a2
    rw [hc] at this
    exact this
/-- What is left to add. -/
def restN (f : Int → Int) (n : Nat) : Nat → Int
  | 0 => 0
  | d + 1 => f ((n - (d + 1) : Nat) : Int) + restN f n d
theorem restN_sum (f : Int → Int) (n : Nat) : ∀ d, d ≤ n → sumN f (n - d) + restN f n d = sumN f n
  | 0, _ => by simp [restN]
  | d + 1, h => by
    have ih := restN_sum f n d (by omega)
    rw [show n - d = (n - (d + 1)) + 1 by omega, sumN] at ih
    rw [restN]
    omega
theorem restN_nonneg {f : Int → Int} {n : Nat} (h : ∀ i : Nat, i < n → 0 ≤ f (i : Int)) : ∀ d, d ≤ n → 0 ≤ restN f n d
  | 0, _ => Int.le_refl _
  | d + 1, hd => by
    have := restN_nonneg h d (by omega)
    have := h (n - (d + 1)) (by omega)
    rw [restN]
    omega
theorem refCount_l3 {K N : Int} {nx out : List Int} (R : RightD K N nx out) (A : Int → Int) (now : List Int) (H : Fwd N A now) : ∀ (d s k : Nat) (a : Int), s + d = N.toNat → d < k → 0 ≤ a → a ≤ 1099511627776 →
    aV.l3 k now a (s : Int) 1 K 2 N nx out = some (if a + restN (fun t => A t * rd out t) N.toNat d > 1099511627776 then (0, 11) else (a + restN (fun t => A t * rd out t) N.toNat d, 0))
  | 0, s, k, a, hd, hk, h0, h1 => by
    obtain ⟨k, rfl⟩ : ∃ m, k = m + 1 := ⟨k - 1, by omega⟩
    rw [aV.l3, if_neg (by omega), restN, Int.add_zero, if_neg (by omega)]
  | d + 1, s, k, a, hd, hk, h0, h1 => by
    obtain ⟨k, rfl⟩ : ∃ m, k = m + 1 := ⟨k - 1, by omega⟩
    have hn := R.n
    have hs : ((N.toNat - (d + 1) : Nat) : Int) = (s : Int) := by omega
    have ho := out_at' R (s := (s : Int)) (by omega) (by omega)
    have hA := H.2 (s : Int) (by omega) (by omega)
    have hr := restN_nonneg (f := fun t => A t * rd out t) (n := N.toNat) (fun i hi => Int.mul_nonneg (H.2 _ (by omega) (by omega)).1 (out_at' R (s := (i : Int)) (by omega) (by omega)).1) d (by omega)
    rw [aV.l3, if_pos (by omega), if_pos (by omega), if_pos (by have := R.outl; omega), restN, hs]
    by_cases h : rd out (s : Int) = 1
    · rw [if_pos h, if_pos (by have := H.1; omega), w64a (i := a + rd now (s : Int)) (by omega) (by omega), w64j (by omega)]
      simp only [h, Int.mul_one]
      by_cases hc : a + rd now (s : Int) > 1099511627776
      · rw [if_pos hc, if_pos (by omega)]
      · rw [if_neg hc, refCount_l3 R A now H d (s + 1) k _ (by omega) (by omega) (by omega) (by omega)]
        rw [show a + rd now (s : Int) + restN (fun t => A t * rd out t) N.toNat d = a + (A (s : Int) + restN (fun t => A t * rd out t) N.toNat d) by omega]
    · have h0' : rd out (s : Int) = 0 := by omega
      rw [if_neg h, if_neg (by omega), w64j (by omega), refCount_l3 R A now H d (s + 1) k _ (by omega) (by omega) (by omega) (by omega)]
      simp only [h0', Int.mul_zero, Int.zero_add]
theorem jh {K N : Int} {nx out : List Int} (R : RightD K N nx out) {k : Nat} (hk : 200000 ≤ k) : bV.f k 1 K 2 N nx out = some 0 := by
  unfold bV.f
  rw [ck_ok R hk, Option.bind_some, if_pos rfl, if_pos rfl]
theorem refCount_is {K N : Int} {nx out : List Int} (R : RightD K N nx out) {n : Int} (h0 : 0 ≤ n) (h1 : n ≤ 4096) {k : Nat} (hk : 300000000 ≤ k) : aV.f k 1 K 2 N nx out n = some (if wcnt K nx out n.toNat 0 > 1099511627776 then (0, 11) else (wcnt K nx out n.toNat 0, 0)) := by
  have hn := R.n
  have hK := R.k
  obtain ⟨q, rfl⟩ : ∃ q : Nat, n = (q : Int) := ⟨n.toNat, by omega⟩
  unfold aV.f
  rw [jh R (by omega), Option.bind_some, if_pos rfl, if_neg (by omega), decide_eq_false (by omega)]
  obtain ⟨k, rfl⟩ : ∃ m, k = m + 1 := ⟨k - 1, by omega⟩
  rw [aV.j0, if_neg (by simp), if_pos (by omega), if_pos (by omega), Option.bind_some, if_pos (by simp; omega)]
  have H0 : Fwd N (fw K N nx 0) ((List.replicate N.toNat 0).set (0 : Int).toNat 1) := ⟨by simp; omega, fun t g0 g1 => by
    rw [rd_setI (Int.le_refl _) (by simp; omega) g0]
    simp only [fw]
    have hz := ((fwd_zero (N := N) (by omega)).2 t g0 g1).2
    by_cases e : t = 0
    · rw [if_pos e, if_pos e.symm]
      omega
    · rw [if_neg e, if_neg (fun h => e h.symm), hz]
      exact ⟨Int.le_refl _, rfl⟩⟩
  have hc1 : N.toNat * (K.toNat + 2) ≤ 1024 * 66 := Nat.mul_le_mul (by omega) (by omega)
  obtain ⟨c, hc⟩ : ∃ c, N.toNat * (K.toNat + 2) = c := ⟨_, rfl⟩
  rw [hc] at hc1
  have hc2 : q * (c + 2) ≤ 4096 * (1024 * 66 + 2) := Nat.mul_le_mul (by omega) (by omega)
  obtain ⟨m, hm⟩ : ∃ m, k = m + q * (c + 2) + 1 := ⟨k - q * (c + 2) - 1, by omega⟩
  obtain ⟨now1, a1, a2⟩ := refCount_l0 R q (by omega) q 0 m _ (by omega) H0
  rw [hc, ← hm] at a1
  have a1' : aV.l0 k (q : Int) ((List.replicate N.toNat 0).set (0 : Int).toNat 1) 0 1 K 2 N nx out = _ := a1
  rw [a1']
  have h3 := refCount_l3 R (fw K N nx q) now1 a2 N.toNat 0 m 0 (by omega) (by omega) (Int.le_refl _) (by omega)
  have h3' : aV.l3 m now1 0 0 1 K 2 N nx out = _ := h3
  have hs := restN_sum (fun t => fw K N nx q t * rd out t) N.toNat N.toNat (Nat.le_refl _)
  rw [Nat.sub_self, sumN, Int.zero_add] at hs
  have hw : sumN (fun t => fw K N nx q t * rd out t) N.toNat = wcnt K nx out q 0 := fw_wcnt R q 0
  rw [h3', Int.zero_add, hs, hw, Int.toNat_natCast]
end Go.Proofs.Ytkaefgmgcghhiaa.X
end

section
namespace Go.Proofs.Ytkaefgmgcghhiaa.X
open Go.RowKit Go.Proofs.YtkaefgmgcghhiaaW.PrintWords Go.Proofs.YtkaefgmgcghhiaaW.PrintLast Go.Proofs.YtkaefgmgcghhiaaW.PrintMore
theorem least_l0_same {K N : Int} {nx out : List Int} (R : RightD K N nx out) {st : List Int} {ws : List (List Int)} (h : Rch K N nx st ws) : ∀ (d k q i : Nat), i + d = st.length → d < k → d < q →
    dR.l0 k ws st (st.length : Int) (i : Int) 1 K 2 N nx out = cK.l0 q st ws (i : Int) 1 K 2 N nx out
  | 0, k, q, i, hd, hk, hq => by
    obtain ⟨k, rfl⟩ : ∃ m, k = m + 1 := ⟨k - 1, by omega⟩
    obtain ⟨q, rfl⟩ : ∃ m, q = m + 1 := ⟨q - 1, by omega⟩
    rw [dR.l0, cK.l0, if_neg (by omega), if_neg (by omega)]
  | d + 1, k, q, i, hd, hk, hq => by
    obtain ⟨k, rfl⟩ : ∃ m, k = m + 1 := ⟨k - 1, by omega⟩
    obtain ⟨q, rfl⟩ : ∃ m, q = m + 1 := ⟨q - 1, by omega⟩
    have hi : i < st.length := by omega
    have hlen := h.len
    have hw := lY R.nx' h.toWay
    have hn := R.n
    have hr := h.rng _ (List.getElem_mem hi)
    have c1 : (i : Int) < (st.length : Int) := by omega
    have c2 : 0 ≤ (i : Int) := by omega
    have c3 : st[i] < (out.length : Int) := by have := R.outl; omega
    have c4 : (i : Int) < (ws.length : Int) := by omega
    rw [dR.l0, cK.l0, jm hi]
    simp only [if_pos c1, if_pos c2, if_pos c3, if_pos c4, if_pos hr.1]
    by_cases ho : rd out st[i] = 1
    · rw [if_pos ho, if_pos ho]
    · rw [if_neg ho, if_neg ho, w64j (by omega)]
      exact least_l0_same R h d k q (i + 1) (by omega) (by omega) (by omega)
theorem refLeast_is {K N : Int} {nx out : List Int} (R : RightD K N nx out) {k q : Nat} (hk : 400000 ≤ k) (hq : 400000 ≤ q) : cK.f q 1 K 2 N nx out = dR.f k 1 K 2 N nx out := by
  have hn := R.n
  obtain ⟨st, ws, g1, h⟩ := reach_spec R.nx' (q := rcBig) (by unfold rcBig; omega)
  have hf := lY R.nx' h.toWay
  have hreach : fe.f 1 K 2 N nx out = some (st, ws, 0) := by
    unfold fe.f rcG
    rw [mach_right R (by unfold rcBig; omega)]
    simp only []
    rw [if_neg (by omega), g1]
  obtain ⟨st2, ws2, g2, h2⟩ := refReach_is R hq
  obtain ⟨rfl, rfl⟩ := h.uniq R.k.1 h2
  unfold dR.f cK.f
  rw [dfa_right R (by omega), Option.bind_some, if_pos rfl, hreach, Option.bind_some, jh R (by omega), Option.bind_some, if_pos rfl, g2, Option.bind_some]
  exact (least_l0_same R h st.length k q 0 (by omega) (by omega) (by omega)).symm
end Go.Proofs.Ytkaefgmgcghhiaa.X
end

section
namespace Go.Proofs.Ytkaefgmgcghhiaa.X
open Go.RowKit Go.Proofs.YtkaefgmgcghhiaaW.PrintWords Go.Proofs.YtkaefgmgcghhiaaW.PrintLast Go.Proofs.YtkaefgmgcghhiaaW.PrintMore
/-- A state that is come to by a word of n symbols. -/
def At (K : Int) (nx : List Int) (n : Nat) (t : Int) : Prop := ∃ u : List Int, u.length = n ∧ (∀ c ∈ u, 0 ≤ c ∧ c < K) ∧ far K nx 0 u = t
def BoolAt (N : Int) (b : List Bool) (P : Int → Prop) : Prop := b.length = N.toNat ∧ ∀ t : Int, 0 ≤ t → t < N → (rdOf false b t = true ↔ P t)
theorem BoolAt.imp {N : Int} {b : List Bool} {P Q : Int → Prop} (h : BoolAt N b P) (hpq : ∀ t, 0 ≤ t → t < N → (P t ↔ Q t)) : BoolAt N b Q := ⟨h.1, fun t h0 h1 => (h.2 t h0 h1).trans (hpq t h0 h1)⟩
theorem boolAt_false {N : Int} : BoolAt N (List.replicate N.toNat false) (fun _ => False) := ⟨by simp, fun t _ _ => by
  have : rdOf false (List.replicate N.toNat false) t = false := by
    simp only [rdOf, List.getD_eq_getElem?_getD, List.getElem?_replicate]
    split <;> rfl
  rw [this]
  simp⟩
theorem boolAt_set {N : Int} {b : List Bool} {P : Int → Prop} (h : BoolAt N b P) {a : Int} (h0 : 0 ≤ a) (h1 : a < N) : BoolAt N (b.set a.toNat true) (fun t => P t ∨ a = t) := ⟨by simp [h.1], fun t g0 g1 => by
  have := h.1
  rw [rdOf_set h0 (by omega) g0]
  by_cases e : a = t
  · rw [if_pos e]
    simp [e]
  · rw [if_neg e, h.2 t g0 g1]
    simp [e]⟩
theorem refFin_l3 {K N : Int} {nx out : List Int} (R : RightD K N nx out) (now : List Bool) (hnl : now.length = N.toNat) (n : Int) (s : Nat) (hs : (s : Int) < N) : ∀ (e x k : Nat) (nl : List Bool) (P : Int → Prop), x + e = K.toNat → BoolAt N nl P → e + 1 ≤ k →
    ∃ k1 nl1, aa.l3 k now n nl (s : Int) (x : Int) 1 K 2 N nx out = aa.l2 k1 now n nl1 ((s + 1 : Nat) : Int) 1 K 2 N nx out ∧ k ≤ k1 + e + 1 ∧ BoolAt N nl1 (fun t => P t ∨ (rdOf false now (s : Int) = true ∧ ∃ y : Nat, x ≤ y ∧ y < K.toNat ∧ nxt K nx (s : Int) y = t))
  | 0, x, k, nl, P, hx, H, hk => by
    have hK := R.k
    have hn := R.n
    obtain ⟨k, rfl⟩ : ∃ m, k = m + 1 := ⟨k - 1, by omega⟩
    refine ⟨k, nl, ?_, by omega, H.imp (fun t _ _ => ⟨fun h => .inl h, fun h => h.elim id (fun ⟨_, y, h1, h2, _⟩ => by omega)⟩)⟩
    rw [aa.l3, if_neg (by omega), w64j (by omega)]
  | e + 1, x, k, nl, P, hx, H, hk => by
    have hK := R.k
    have hn := R.n
    obtain ⟨k, rfl⟩ : ∃ m, k = m + 1 := ⟨k - 1, by omega⟩
    have hxk : x < K.toNat := by omega
    obtain ⟨g1, g2⟩ := R.nx'.idx (s := (s : Int)) (by omega) hs hxk
    have ht := R.nx'.step (s := (s : Int)) (by omega) hs hxk
    have hrd : rd nx (((s : Int).toNat * K.toNat + x : Nat) : Int) = nxt K nx (s : Int) x := rfl
    unfold stI at g1
    rw [aa.l3, if_pos (by omega), if_pos (by omega), if_pos (by omega)]
    by_cases hb : rdOf false now (s : Int) = true
    · rw [if_pos hb, g1, hrd, if_pos (by omega), if_pos (by omega), if_pos ht.1, if_pos (by have := H.1; omega), w64j (by omega)]
      obtain ⟨k1, nl1, a1, a2, a3⟩ := refFin_l3 R now hnl n s hs e (x + 1) k _ _ (by omega) (boolAt_set H ht.1 ht.2) (by omega)
      refine ⟨k1, nl1, a1, by omega, a3.imp (fun t _ _ => ?_)⟩
      constructor
      · rintro ((h | h) | ⟨_, y, h1, h2, h3⟩)
        · exact .inl h
        · exact .inr ⟨hb, x, Nat.le_refl _, hxk, h⟩
        · exact .inr ⟨hb, y, by omega, h2, h3⟩
      · rintro (h | ⟨_, y, h1, h2, h3⟩)
        · exact .inl (.inl h)
        · by_cases e : y = x
          · subst e
            exact .inl (.inr h3)
          · exact .inr ⟨hb, y, by omega, h2, h3⟩
    · rw [if_neg hb, w64j (by omega)]
      refine ⟨k, nl, rfl, by omega, H.imp (fun t _ _ => ⟨fun h => .inl h, fun h => h.elim id (fun ⟨h, _⟩ => absurd h hb)⟩)⟩
theorem refFin_l2 {K N : Int} {nx out : List Int} (R : RightD K N nx out) (now : List Bool) (hnl : now.length = N.toNat) (n : Nat) (hnb : n < 100000) : ∀ (d s k : Nat) (nl : List Bool) (P : Int → Prop), s + d = N.toNat → BoolAt N nl P → d * 70 + 1 ≤ k →
    ∃ k1 nl1, aa.l2 k now (n : Int) nl (s : Int) 1 K 2 N nx out = aa.l0 k1 nl1 ((n + 1 : Nat) : Int) 1 K 2 N nx out ∧ k ≤ k1 + d * 70 + 1 ∧ BoolAt N nl1 (fun t => P t ∨ ∃ (s1 y : Nat), s ≤ s1 ∧ s1 < N.toNat ∧ rdOf false now (s1 : Int) = true ∧ y < K.toNat ∧ nxt K nx (s1 : Int) y = t)
  | 0, s, k, nl, P, hd, H, hk => by
    have hn := R.n
    obtain ⟨k, rfl⟩ : ∃ m, k = m + 1 := ⟨k - 1, by omega⟩
    refine ⟨k, nl, ?_, by omega, H.imp (fun t _ _ => ⟨fun h => .inl h, fun h => h.elim id (fun ⟨s1, y, h1, h2, _⟩ => by omega)⟩)⟩
    rw [aa.l2, if_neg (by omega), w64j (by omega)]
  | d + 1, s, k, nl, P, hd, H, hk => by
    have hn := R.n
    have hK := R.k
    obtain ⟨k, rfl⟩ : ∃ m, k = m + 1 := ⟨k - 1, by omega⟩
    obtain ⟨k1, nl1, a1, a2, a3⟩ := refFin_l3 R now hnl (n : Int) s (by omega) K.toNat 0 k nl P (by omega) H (by omega)
    obtain ⟨k2, nl2, b1, b2, b3⟩ := refFin_l2 R now hnl n hnb d (s + 1) k1 nl1 _ (by omega) a3 (by omega)
    have a1' : aa.l3 k now (n : Int) nl (s : Int) 0 1 K 2 N nx out = _ := a1
    refine ⟨k2, nl2, ?_, by omega, b3.imp (fun t _ _ => ?_)⟩
    · rw [aa.l2, if_pos (by omega), a1', b1]
    · constructor
      · rintro ((h | ⟨hb, y, _, h2, h3⟩) | ⟨s1, y, h1, h2, h3, h4, h5⟩)
        · exact .inl h
        · exact .inr ⟨s, y, Nat.le_refl _, by omega, hb, h2, h3⟩
        · exact .inr ⟨s1, y, by omega, h2, h3, h4, h5⟩
      · rintro (h | ⟨s1, y, h1, h2, h3, h4, h5⟩)
        · exact .inl (.inl h)
        · by_cases e : s1 = s
          · subst e
            exact .inl (.inr ⟨h3, y, by omega, h4, h5⟩)
          · exact .inr ⟨s1, y, by omega, h2, h3, h4, h5⟩
theorem refFin_l1 {K N : Int} {nx out : List Int} (R : RightD K N nx out) (now : List Bool) (hnl : now.length = N.toNat) (n : Nat) : ∀ (d s k : Nat), s + d = N.toNat → d + 1 ≤ k →
    ((N ≤ (n : Int) ∧ ∃ s1 : Nat, s ≤ s1 ∧ s1 < N.toNat ∧ rdOf false now (s1 : Int) = true ∧ rd out (s1 : Int) = 1) ∧ aa.l1 k now (n : Int) (s : Int) 1 K 2 N nx out = some (false, 0)) ∨
    (¬ (N ≤ (n : Int) ∧ ∃ s1 : Nat, s ≤ s1 ∧ s1 < N.toNat ∧ rdOf false now (s1 : Int) = true ∧ rd out (s1 : Int) = 1) ∧ ∃ k1, aa.l1 k now (n : Int) (s : Int) 1 K 2 N nx out = aa.l2 k1 now (n : Int) (List.replicate N.toNat false) 0 1 K 2 N nx out ∧ k ≤ k1 + d + 1)
  | 0, s, k, hd, hk => by
    have hn := R.n
    obtain ⟨k, rfl⟩ : ∃ m, k = m + 1 := ⟨k - 1, by omega⟩
    refine .inr ⟨fun ⟨_, s1, h1, h2, _⟩ => by omega, k, ?_, by omega⟩
    rw [aa.l1, if_neg (by omega), if_pos (by omega), if_pos (by omega)]
  | d + 1, s, k, hd, hk => by
    have hn := R.n
    have hol := R.outl
    obtain ⟨k, rfl⟩ : ∃ m, k = m + 1 := ⟨k - 1, by omega⟩
    rw [aa.l1, if_pos (by omega)]
    have next : ¬ (N ≤ (n : Int) ∧ rdOf false now (s : Int) = true ∧ rd out (s : Int) = 1) →
      ((N ≤ (n : Int) ∧ ∃ s1 : Nat, s ≤ s1 ∧ s1 < N.toNat ∧ rdOf false now (s1 : Int) = true ∧ rd out (s1 : Int) = 1) ∧ aa.l1 k now (n : Int) (wrap64 ((s : Int) + 1)) 1 K 2 N nx out = some (false, 0)) ∨
      (¬ (N ≤ (n : Int) ∧ ∃ s1 : Nat, s ≤ s1 ∧ s1 < N.toNat ∧ rdOf false now (s1 : Int) = true ∧ rd out (s1 : Int) = 1) ∧ ∃ k1, aa.l1 k now (n : Int) (wrap64 ((s : Int) + 1)) 1 K 2 N nx out = aa.l2 k1 now (n : Int) (List.replicate N.toNat false) 0 1 K 2 N nx out ∧ k + 1 ≤ k1 + (d + 1) + 1) := by
      intro hno
      rw [w64j (by omega)]
      rcases refFin_l1 R now hnl n d (s + 1) k (by omega) (by omega) with ⟨⟨h1, s1, h2, h3, h4, h5⟩, h6⟩ | ⟨h1, k1, h2, h3⟩
      · exact .inl ⟨⟨h1, s1, by omega, h3, h4, h5⟩, h6⟩
      · refine .inr ⟨fun ⟨g1, s1, g2, g3, g4, g5⟩ => ?_, k1, h2, by omega⟩
        by_cases e : s1 = s
        · subst e
          exact hno ⟨g1, g4, g5⟩
        · exact h1 ⟨g1, s1, by omega, g3, g4, g5⟩
    by_cases h1 : (n : Int) ≥ N
    · rw [if_pos h1, if_pos (by omega), if_pos (by omega)]
      by_cases hb : rdOf false now (s : Int) = true
      · rw [if_pos hb, if_pos (by omega)]
        by_cases ho : rd out (s : Int) = 1
        · rw [if_pos ho]
          exact .inl ⟨⟨h1, s, Nat.le_refl _, by omega, hb, ho⟩, rfl⟩
        · rw [if_neg ho]
          exact next (fun h => ho h.2.2)
      · rw [if_neg hb]
        exact next (fun h => hb h.2.1)
    · rw [if_neg h1]
      exact next (fun h => h1 h.1)
theorem at_next {K N : Int} {nx : List Int} (R : Nx K N nx) (n : Nat) (t : Int) : At K nx (n + 1) t ↔ ∃ (s1 y : Nat), s1 < N.toNat ∧ At K nx n (s1 : Int) ∧ y < K.toNat ∧ nxt K nx (s1 : Int) y = t := by
  have hn := R.n
  constructor
  · rintro ⟨u, h1, h2, h3⟩
    rcases List.eq_nil_or_concat u with rfl | ⟨v, x, e⟩
    · simp at h1
    · rw [List.concat_eq_append] at e
      subst e
      have hv : ∀ c ∈ v, 0 ≤ c ∧ c < K := fun c hc => h2 c (List.mem_append_left _ hc)
      have hx := h2 x (by simp)
      have hr := far_rng R v 0 (by omega) hv
      rw [far_app] at h3
      refine ⟨(far K nx 0 v).toNat, x.toNat, by omega, ⟨v, by simpa using h1, hv, by omega⟩, by omega, ?_⟩
      rw [show (((far K nx 0 v).toNat : Nat) : Int) = far K nx 0 v by omega]
      exact h3
  · rintro ⟨s1, y, h1, ⟨u, g1, g2, g3⟩, h2, h3⟩
    refine ⟨u ++ [(y : Int)], by simp [g1], fun c hc => ?_, ?_⟩
    · rcases List.mem_append.1 hc with hc | hc
      · exact g2 c hc
      · simp only [List.mem_singleton] at hc
        omega
    · rw [far_app, g3]
      simpa [far] using h3
/-- A word is accepted that has from n and N symbols on, fewer than 2 N. -/
def LongOne (K N : Int) (nx out : List Int) (n : Nat) : Prop := ∃ m : Nat, n ≤ m ∧ N ≤ (m : Int) ∧ (m : Int) < 2 * N ∧ ∃ t : Int, At K nx m t ∧ rd out t = 1
theorem refFin_l0 {K N : Int} {nx out : List Int} (R : RightD K N nx out) : ∀ (r n k : Nat) (now : List Bool), (n : Int) + r = 2 * N → BoolAt N now (At K nx n) → r * 80000 + 1 ≤ k →
    (LongOne K N nx out n ∧ aa.l0 k now (n : Int) 1 K 2 N nx out = some (false, 0)) ∨ (¬ LongOne K N nx out n ∧ aa.l0 k now (n : Int) 1 K 2 N nx out = some (true, 0)) := by
  intro r
  induction r with
  | zero =>
    intro n k now hr H hk
    have hn := R.n
    obtain ⟨k, rfl⟩ : ∃ m, k = m + 1 := ⟨k - 1, by omega⟩
    refine .inr ⟨fun ⟨m, h1, _, h3, _⟩ => by omega, ?_⟩
    rw [aa.l0, w64a (i := 2 * N) (by omega) (by omega), if_neg (by omega)]
  | succ r ih =>
    intro n k now hr H hk
    rw [Nat.succ_mul] at hk
    obtain ⟨c, hc⟩ : ∃ c, r * 80000 = c := ⟨_, rfl⟩
    rw [hc] at hk ih
    have hn := R.n
    obtain ⟨k, rfl⟩ : ∃ m, k = m + 1 := ⟨k - 1, by omega⟩
    rw [aa.l0, w64a (i := 2 * N) (by omega) (by omega), if_pos (by omega)]
    rcases refFin_l1 R now H.1 n N.toNat 0 k (by omega) (by omega) with ⟨⟨h1, s1, _, h3, h4, h5⟩, h6⟩ | ⟨h1, k1, h2, h3⟩
    · exact .inl ⟨⟨n, Nat.le_refl _, h1, by omega, (s1 : Int), (H.2 _ (by omega) (by omega)).1 h4, h5⟩, h6⟩
    · obtain ⟨k2, nl2, b1, b2, b3⟩ := refFin_l2 R now H.1 n (by omega) N.toNat 0 k1 _ _ (by omega) boolAt_false (by omega)
      have h2' : aa.l1 k now (n : Int) 0 1 K 2 N nx out = _ := h2
      have b1' : aa.l2 k1 now (n : Int) (List.replicate N.toNat false) 0 1 K 2 N nx out = _ := b1
      rw [h2', b1']
      have hat : BoolAt N nl2 (At K nx (n + 1)) := b3.imp (fun t _ _ => by
        rw [at_next R.nx']
        constructor
        · rintro (h | ⟨s1, y, _, g2, g3, g4, g5⟩)
          · exact h.elim
          · exact ⟨s1, y, g2, (H.2 _ (by omega) (by omega)).1 g3, g4, g5⟩
        · rintro ⟨s1, y, g2, g3, g4, g5⟩
          exact .inr ⟨s1, y, Nat.zero_le _, g2, (H.2 _ (by omega) (by omega)).2 g3, g4, g5⟩)
      have step : LongOne K N nx out (n + 1) ↔ LongOne K N nx out n := by
        constructor
        · rintro ⟨m, g1, g2, g3, g4⟩
          exact ⟨m, by omega, g2, g3, g4⟩
        · rintro ⟨m, g1, g2, g3, t, g4, g5⟩
          by_cases e : m = n
          · subst e
            obtain ⟨u, q1, q2, q3⟩ := g4
            have hrg := far_rng R.nx' u 0 (by omega) q2
            rw [q3] at hrg
            exact absurd ⟨g2, t.toNat, Nat.zero_le _, by omega, (by rw [show ((t.toNat : Nat) : Int) = t by omega]; exact (H.2 t hrg.1 hrg.2).2 ⟨u, q1, q2, q3⟩), (by rw [show ((t.toNat : Nat) : Int) = t by omega]; exact g5)⟩ h1
          · exact ⟨m, by omega, g2, g3, t, g4, g5⟩
      rcases ih (n + 1) k2 nl2 (by omega) hat (by omega) with ⟨g1, g2⟩ | ⟨g1, g2⟩
      · exact .inl ⟨step.1 g1, g2⟩
      · exact .inr ⟨fun h => g1 (step.2 h), g2⟩
theorem refFinite_is {K N : Int} {nx out : List Int} (R : RightD K N nx out) {k : Nat} (hk : 200000000 ≤ k) :
    (LongOne K N nx out 0 ∧ aa.f k 1 K 2 N nx out = some (false, 0)) ∨ (¬ LongOne K N nx out 0 ∧ aa.f k 1 K 2 N nx out = some (true, 0)) := by
  have hn := R.n
  unfold aa.f
  rw [jh R (by omega), Option.bind_some, if_pos rfl, if_pos (by omega), if_pos (by omega), Option.bind_some, if_pos (by simp; omega)]
  have H0 : BoolAt N ((List.replicate N.toNat false).set (0 : Int).toNat true) (At K nx 0) := (boolAt_set boolAt_false (Int.le_refl _) (by omega)).imp (fun t _ _ => by
    constructor
    · rintro (h | h)
      · exact h.elim
      · exact ⟨[], rfl, by simp, h⟩
    · rintro ⟨u, h1, _, h3⟩
      have : u = [] := List.eq_nil_of_length_eq_zero h1
      subst this
      exact .inr h3)
  exact refFin_l0 R (2 * N).toNat 0 k _ (by omega) H0 (by omega)
end Go.Proofs.Ytkaefgmgcghhiaa.X
end

section
namespace Go.Proofs.Ytkaefgmgcghhiaa.X
open Go.RowKit Go.Proofs.YtkaefgmgcghhiaaW.PrintWords Go.Proofs.YtkaefgmgcghhiaaW.PrintLast Go.Proofs.YtkaefgmgcghhiaaW.PrintMore
theorem pig {N : Int} (hN : 0 ≤ N) (f : Nat → Int) (h : ∀ i, i ≤ N.toNat → 0 ≤ f i ∧ f i < N) : ∃ i j, i < j ∧ j ≤ N.toNat ∧ f i = f j := by
  apply Classical.byContradiction
  intro hc
  have hnd : ((List.range (N.toNat + 1)).map f).Nodup := by
    rw [List.nodup_iff_pairwise_ne, List.pairwise_map]
    exact (List.pairwise_lt_range).imp_of_mem (fun {a b} ha hb hab e => hc ⟨a, b, hab, by have := List.mem_range.1 hb; omega, e⟩)
  have := few_int hN hnd (fun x hx => by
    obtain ⟨i, hi, rfl⟩ := List.mem_map.1 hx
    exact h i (by have := List.mem_range.1 hi; omega))
  simp at this
  omega
def Valid (K : Int) (u : List Int) : Prop := ∀ c ∈ u, 0 ≤ c ∧ c < K
theorem Valid.take {K : Int} {u : List Int} (h : Valid K u) (i : Nat) : Valid K (u.take i) := fun c hc => h c (List.mem_of_mem_take hc)
theorem Valid.drop {K : Int} {u : List Int} (h : Valid K u) (i : Nat) : Valid K (u.drop i) := fun c hc => h c (List.mem_of_mem_drop hc)
theorem Valid.app {K : Int} {u v : List Int} (h : Valid K u) (g : Valid K v) : Valid K (u ++ v) := fun c hc => (List.mem_append.1 hc).elim (h c) (g c)
theorem far_split (K : Int) (nx : List Int) (s : Int) (u : List Int) (i : Nat) : far K nx (far K nx s (u.take i)) (u.drop i) = far K nx s u := by
  rw [← far_app, List.take_append_drop]
/-- A word that leads on in fewer than N symbols. -/
theorem shorter {K N : Int} {nx : List Int} (R : Nx K N nx) {s f : Int} (hs : 0 ≤ s ∧ s < N) : ∀ (n : Nat) (v : List Int), v.length ≤ n → Valid K v → far K nx s v = f → ∃ w, Valid K w ∧ (w.length : Int) < N ∧ far K nx s w = f := by
  intro n
  induction n with
  | zero =>
    intro v hl hv hf
    have := R.n
    exact ⟨v, hv, by omega, hf⟩
  | succ n ih =>
    intro v hl hv hf
    have hn := R.n
    by_cases hlt : (v.length : Int) < N
    · exact ⟨v, hv, hlt, hf⟩
    · obtain ⟨i, j, h1, h2, h3⟩ := pig (N := N) (by omega) (fun i => far K nx s (v.take i)) (fun i _ => far_rng R _ s hs (hv.take i))
      refine ih (v.take i ++ v.drop j) ?_ ((hv.take i).app (hv.drop j)) ?_
      · simp only [List.length_append, List.length_take, List.length_drop]
        omega
      · rw [far_app]
        have h3' : far K nx s (v.take i) = far K nx s (v.take j) := h3
        rw [h3', far_split]
        exact hf
/-- States that are come to, lead to acceptance, and lead to one another. -/
structure Ring (K N : Int) (nx out : List Int) (C : Int → Prop) : Prop where
  come : ∀ t, C t → ∃ u, Valid K u ∧ far K nx 0 u = t
  use : ∀ t, C t → ∃ v, Valid K v ∧ rd out (far K nx t v) = 1
  next : ∀ t, C t → ∃ y : Nat, y < K.toNat ∧ C (nxt K nx t y)
theorem Ring.way {K N : Int} {nx out : List Int} {C : Int → Prop} (h : Ring K N nx out C) : ∀ (n : Nat) (t : Int), C t → ∃ p, Valid K p ∧ p.length = n ∧ C (far K nx t p)
  | 0, t, ht => ⟨[], by simp [Valid], rfl, ht⟩
  | n + 1, t, ht => by
    obtain ⟨y, hy, hc⟩ := h.next t ht
    obtain ⟨p, h1, h2, h3⟩ := h.way n _ hc
    refine ⟨(y : Int) :: p, fun c hc => ?_, by simp [h2], ?_⟩
    · rcases List.mem_cons.1 hc with rfl | hc
      · omega
      · exact h1 c hc
    · simpa [far] using h3
theorem ring_long {K N : Int} {nx out : List Int} (R : Nx K N nx) {C : Int → Prop} (h : Ring K N nx out C) {t : Int} (ht : C t) : LongOne K N nx out 0 := by
  have hn := R.n
  obtain ⟨u0, a0, a2⟩ := h.come t ht
  obtain ⟨u, b1, b2, b3⟩ := shorter R (s := 0) (by omega) u0.length u0 (Nat.le_refl _) a0 a2
  obtain ⟨p, c1, c2, c3⟩ := h.way (N.toNat - u.length) t ht
  have hpt : far K nx 0 (u ++ p) = far K nx t p := by rw [far_app, b3]
  have hr := far_rng R (u ++ p) 0 (by omega) (b1.app c1)
  rw [hpt] at hr
  obtain ⟨v0, d1, d2⟩ := h.use _ c3
  obtain ⟨v, e1, e2, e3⟩ := shorter R hr v0.length v0 (Nat.le_refl _) d1 rfl
  refine ⟨(u ++ p ++ v).length, Nat.zero_le _, ?_, ?_, far K nx 0 (u ++ p ++ v), ⟨u ++ p ++ v, rfl, (b1.app c1).app e1, rfl⟩, ?_⟩
  · simp only [List.length_append]
    omega
  · simp only [List.length_append]
    omega
  · rw [far_app, hpt, e3]
    exact d2
theorem far_snoc (K : Int) (nx : List Int) (s : Int) (u : List Int) {l : Nat} (hl : l < u.length) : far K nx s (u.take (l + 1)) = nxt K nx (far K nx s (u.take l)) (u[l]).toNat := by
  rw [List.take_succ_eq_append_getElem hl, far_app]
  rfl
theorem long_ring {K N : Int} {nx out : List Int} (R : Nx K N nx) (h : LongOne K N nx out 0) : ∃ C t, Ring K N nx out C ∧ C t := by
  obtain ⟨m, _, h1, h2, f, ⟨w, g1, g2, g3⟩, ho⟩ := h
  have hn := R.n
  have hv : Valid K w := g2
  obtain ⟨i, j, i1, i2, i3⟩ := pig (N := N) (by omega) (fun i => far K nx 0 (w.take i)) (fun i _ => far_rng R _ 0 (by omega) (hv.take i))
  have i3' : far K nx 0 (w.take i) = far K nx 0 (w.take j) := i3
  refine ⟨fun t => ∃ l, i ≤ l ∧ l < j ∧ t = far K nx 0 (w.take l), far K nx 0 (w.take i), ⟨?_, ?_, ?_⟩, i, Nat.le_refl _, i1, rfl⟩
  · rintro t ⟨l, _, _, rfl⟩
    exact ⟨w.take l, hv.take l, rfl⟩
  · rintro t ⟨l, _, _, rfl⟩
    exact ⟨w.drop l, hv.drop l, by rw [far_split, g3]; exact ho⟩
  · rintro t ⟨l, l1, l2, rfl⟩
    have hl : l < w.length := by omega
    have hx := hv _ (List.getElem_mem hl)
    refine ⟨(w[l]).toNat, by omega, ?_⟩
    rw [← far_snoc K nx 0 w hl]
    by_cases e : l + 1 = j
    · exact ⟨i, Nat.le_refl _, i1, by rw [e]; exact i3'.symm⟩
    · exact ⟨l + 1, by omega, by omega, rfl⟩
end Go.Proofs.Ytkaefgmgcghhiaa.X
end

section
namespace Go.Proofs.Ytkaefgmgcghhiaa.X
open Go.RowKit Go.Proofs.YtkaefgmgcghhiaaW.PrintWords Go.Proofs.YtkaefgmgcghhiaaW.PrintLast Go.Proofs.YtkaefgmgcghhiaaW.PrintMore
def Bits (l : List Int) : Prop := ∀ t : Nat, t < l.length → rd l (t : Int) = 0 ∨ rd l (t : Int) = 1
theorem rd_set {l : List Int} {s : Nat} (h : s < l.length) (v : Int) (t : Nat) : rd (l.set s v) (t : Int) = if t = s then v else rd l (t : Int) := by
  unfold rd
  simp only [Int.toNat_natCast, List.getD_eq_getElem?_getD, List.getElem?_set]
  by_cases e : s = t
  · subst e
    simp [h]
  · rw [if_neg e, if_neg (fun h => e h.symm)]
theorem Bits.set {l : List Int} (h : Bits l) {s : Nat} (hs : s < l.length) {v : Int} (hv : v = 0 ∨ v = 1) : Bits (l.set s v) := by
  intro t ht
  rw [List.length_set] at ht
  rw [rd_set hs]
  split
  · exact hv
  · exact h t ht
def Useful (K : Int) (nx out : List Int) (t : Int) : Prop := ∃ v, Valid K v ∧ rd out (far K nx t v) = 1
/-- After i rounds, in the next one the states ahead of s, of s the symbols ahead of x. -/
structure Us (K N : Int) (nx out : List Int) (i s x : Nat) (us : List Int) : Prop where
  len : us.length = N.toNat
  bit : Bits us
  sound : ∀ t : Nat, t < N.toNat → rd us (t : Int) = 1 → Useful K nx out t
  full : ∀ t : Nat, t < N.toNat → ∀ v, Valid K v → v.length ≤ i → rd out (far K nx t v) = 1 → rd us (t : Int) = 1
  done : ∀ t : Nat, t < s → t < N.toNat → ∀ v, Valid K v → v.length ≤ i + 1 → rd out (far K nx t v) = 1 → rd us (t : Int) = 1
  part : ∀ y : Nat, y < x → s < N.toNat → ∀ v, Valid K v → v.length ≤ i → rd out (far K nx (nxt K nx (s : Int) y) v) = 1 → rd us (s : Int) = 1
theorem us_start {K N : Int} {nx out : List Int} (R : RightD K N nx out) : Us K N nx out 0 0 0 out where
  len := R.outl
  bit := fun t ht => by
    have := R.outr _ (List.getElem_mem ht)
    rw [jm ht]
    omega
  sound := fun t _ h => ⟨[], by simp [Valid], h⟩
  full := fun t _ v _ hv ho => by
    have : v = [] := List.eq_nil_of_length_eq_zero (by omega)
    subst this
    exact ho
  done := fun t h => absurd h (Nat.not_lt_zero _)
  part := fun y h => absurd h (Nat.not_lt_zero _)
theorem max_bit {a b : Int} (ha : a = 0 ∨ a = 1) (hb : b = 0 ∨ b = 1) : max a b = 0 ∨ max a b = 1 := by omega
theorem Us.sym {K N : Int} {nx out : List Int} (R : RightD K N nx out) {i s x : Nat} {us : List Int} (h : Us K N nx out i s x us) (hs : s < N.toNat) (hx : x < K.toNat) : Us K N nx out i s (x + 1) (us.set s (max (rd us (s : Int)) (rd us (nxt K nx (s : Int) x)))) := by
  have hst := R.nx'.step (s := (s : Int)) (by omega) (by omega) hx
  obtain ⟨n, hn⟩ : ∃ n : Nat, nxt K nx (s : Int) x = (n : Int) := ⟨(nxt K nx (s : Int) x).toNat, by omega⟩
  rw [hn] at hst ⊢
  have hl := h.len
  have b1 := h.bit s (by omega)
  have b2 := h.bit n (by omega)
  have up : ∀ t : Nat, rd us (t : Int) = 1 → rd (us.set s (max (rd us (s : Int)) (rd us (n : Int)))) (t : Int) = 1 := by
    intro t ht
    rw [rd_set (by omega)]
    split
    · subst t
      omega
    · exact ht
  refine ⟨by rw [List.length_set]; exact hl, h.bit.set (by omega) (max_bit b1 b2), ?_, ?_, ?_, ?_⟩
  · intro t ht h1
    rw [rd_set (by omega)] at h1
    by_cases e : t = s
    · rw [if_pos e] at h1
      by_cases e1 : rd us (s : Int) = 1
      · exact h.sound t ht (by rw [e]; exact e1)
      · obtain ⟨v, g1, g2⟩ := h.sound n (by omega) (by omega)
        refine ⟨(x : Int) :: v, fun c hc => ?_, ?_⟩
        · rcases List.mem_cons.1 hc with rfl | hc
          · omega
          · exact g1 c hc
        · rw [far, Int.toNat_natCast, e, hn]
          exact g2
    · rw [if_neg e] at h1
      exact h.sound t ht h1
  · exact fun t ht v g1 g2 g3 => up t (h.full t ht v g1 g2 g3)
  · exact fun t hts ht v g1 g2 g3 => up t (h.done t hts ht v g1 g2 g3)
  · intro y hy hsN v g1 g2 g3
    by_cases e : y = x
    · subst e
      rw [hn] at g3
      have := h.full n (by omega) v g1 g2 g3
      rw [rd_set (by omega), if_pos rfl]
      omega
    · exact up s (h.part y (by omega) hsN v g1 g2 g3)
theorem Us.state {K N : Int} {nx out : List Int} {i s : Nat} {us : List Int} (h : Us K N nx out i s K.toNat us) : Us K N nx out i (s + 1) 0 us where
  len := h.len
  bit := h.bit
  sound := h.sound
  full := h.full
  done := fun t hts ht v g1 g2 g3 => by
    by_cases e : t = s
    · subst e
      cases v with
      | nil => exact h.full t ht [] g1 (Nat.zero_le _) g3
      | cons c v =>
        have hc := g1 c List.mem_cons_self
        exact h.part c.toNat (by omega) ht v (fun c hc => g1 c (List.mem_cons_of_mem _ hc)) (by simp at g2; omega) g3
    · exact h.done t (by omega) ht v g1 g2 g3
  part := fun y h => absurd h (Nat.not_lt_zero _)
theorem Us.round {K N : Int} {nx out : List Int} {i : Nat} {us : List Int} (h : Us K N nx out i N.toNat 0 us) : Us K N nx out (i + 1) 0 0 us where
  len := h.len
  bit := h.bit
  sound := h.sound
  full := fun t ht v g1 g2 g3 => h.done t ht ht v g1 g2 g3
  done := fun t h => absurd h (Nat.not_lt_zero _)
  part := fun y h => absurd h (Nat.not_lt_zero _)
theorem Us.ends {K N : Int} {nx out : List Int} (R : RightD K N nx out) {us : List Int} (h : Us K N nx out N.toNat 0 0 us) (t : Nat) (ht : t < N.toNat) : rd us (t : Int) = 1 ↔ Useful K nx out t := by
  have hn := R.n
  constructor
  · exact h.sound t ht
  · rintro ⟨v, g1, g2⟩
    obtain ⟨v', e1, e2, e3⟩ := shorter R.nx' (s := (t : Int)) ⟨by omega, by omega⟩ v.length v (Nat.le_refl _) g1 rfl
    exact h.full t ht v' e1 (by omega) (by rw [e3]; exact g2)
def Come (K : Int) (nx : List Int) (t : Int) : Prop := ∃ u, Valid K u ∧ far K nx 0 u = t
theorem Rch.come {K N : Int} {nx : List Int} {st : List Int} {ws : List (List Int)} (h : Rch K N nx st ws) (t : Int) : t ∈ st ↔ Come K nx t := by
  constructor
  · intro hm
    obtain ⟨j, hj, e⟩ := List.getElem_of_mem hm
    have h1 : st[j]? = some t := by rw [List.getElem?_eq_getElem hj, e]
    have hj2 : j < ws.length := by rw [h.len]; exact hj
    have h2 : ws[j]? = some ws[j] := List.getElem?_eq_getElem hj2
    exact ⟨ws[j], h.sym _ (List.getElem_mem hj2), h.go j t _ h1 h2⟩
  · rintro ⟨u, g1, rfl⟩
    obtain ⟨m, w, e1, _, _⟩ := h.least u g1
    exact List.mem_of_getElem? e1
/-- left, when the states of st ahead of j have been put in. -/
structure Put (N : Int) (us st : List Int) (j : Nat) (left : List Int) : Prop where
  len : left.length = N.toNat
  bit : Bits left
  at' : ∀ t : Nat, t < N.toNat → rd left (t : Int) = if (t : Int) ∈ st.take j then rd us (t : Int) else 0
theorem put_start (N : Int) (us st : List Int) : Put N us st 0 (List.replicate N.toNat 0) where
  len := by simp
  bit := fun t ht => by
    rw [jm ht]
    simp
  at' := fun t ht => by
    rw [jm (by simpa using ht)]
    simp
theorem Put.step {N : Int} {us st : List Int} {j : Nat} {left : List Int} (h : Put N us st j left) (hu : Bits us) (hul : us.length = N.toNat) {s : Nat} (hj : st[j]? = some (s : Int)) (hs : s < N.toNat) : Put N us st (j + 1) (left.set s (rd us (s : Int))) where
  len := by rw [List.length_set]; exact h.len
  bit := h.bit.set (by rw [h.len]; exact hs) (hu s (by omega))
  at' := fun t ht => by
    have hjl := (List.getElem?_eq_some_iff.1 hj).1
    rw [rd_set (by rw [h.len]; exact hs), List.take_add_one, hj, Option.toList_some]
    simp only [List.mem_append, List.mem_singleton]
    by_cases e : t = s
    · subst e
      simp
    · rw [if_neg e, h.at' t ht]
      have : ¬ ((t : Int) = (s : Int)) := by omega
      simp [this]
/-- What may be left. -/
structure Lf (K N : Int) (nx out left : List Int) : Prop where
  len : left.length = N.toNat
  bit : Bits left
  sub : ∀ t : Nat, t < N.toNat → rd left (t : Int) = 1 → Come K nx t ∧ Useful K nx out t
  ring : ∀ C : Int → Prop, Ring K N nx out C → ∀ t : Nat, t < N.toNat → C t → rd left (t : Int) = 1
theorem Put.ends {K N : Int} {nx out : List Int} (R : RightD K N nx out) {us st : List Int} {ws : List (List Int)} (hr : Rch K N nx st ws) (hu : Us K N nx out N.toNat 0 0 us) {left : List Int} (h : Put N us st st.length left) : Lf K N nx out left where
  len := h.len
  bit := h.bit
  sub := fun t ht h1 => by
    rw [h.at' t ht, List.take_length] at h1
    by_cases hm : (t : Int) ∈ st
    · rw [if_pos hm] at h1
      exact ⟨(hr.come _).1 hm, (hu.ends R t ht).1 h1⟩
    · rw [if_neg hm] at h1
      omega
  ring := fun C hC t ht hc => by
    rw [h.at' t ht, List.take_length, if_pos ((hr.come _).2 (hC.come _ hc))]
    exact (hu.ends R t ht).2 (hC.use _ hc)
def Goes (K : Int) (nx left : List Int) (s : Nat) (x : Nat) : Prop := ∃ y : Nat, y < x ∧ rd left (nxt K nx (s : Int) y) = 1
theorem Lf.out {K N : Int} {nx out left : List Int} (R : RightD K N nx out) (h : Lf K N nx out left) {s : Nat} (hs : s < N.toNat) (hg : ¬ Goes K nx left s K.toNat) : Lf K N nx out (left.set s 0) where
  len := by rw [List.length_set]; exact h.len
  bit := h.bit.set (by rw [h.len]; exact hs) (.inl rfl)
  sub := fun t ht h1 => by
    rw [rd_set (by rw [h.len]; exact hs)] at h1
    by_cases e : t = s
    · rw [if_pos e] at h1
      omega
    · rw [if_neg e] at h1
      exact h.sub t ht h1
  ring := fun C hC t ht hc => by
    rw [rd_set (by rw [h.len]; exact hs)]
    by_cases e : t = s
    · subst e
      exfalso
      obtain ⟨y, hy, h2⟩ := hC.next _ hc
      have hst := R.nx'.step (s := (t : Int)) (by omega) (by omega) hy
      obtain ⟨n, hn⟩ : ∃ n : Nat, nxt K nx (t : Int) y = (n : Int) := ⟨(nxt K nx (t : Int) y).toNat, by omega⟩
      refine hg ⟨y, hy, ?_⟩
      rw [hn] at h2 hst ⊢
      exact h.ring C hC n (by omega) h2
    · rw [if_neg e]
      exact h.ring C hC t ht hc
def ones (l : List Int) : Nat := l.countP (fun x => x = 1)
theorem ones_set : ∀ (l : List Int) (s : Nat), s < l.length → rd l (s : Int) = 1 → ones (l.set s 0) + 1 = ones l
  | [], s, h, _ => absurd h (Nat.not_lt_zero _)
  | a :: l, 0, _, h => by
    have : a = 1 := by simpa [rd] using h
    subst this
    simp [ones]
  | a :: l, s + 1, hs, h => by
    have hs' : s < l.length := by simpa using hs
    have := ones_set l s hs' (by
      rw [jm hs']
      rw [jm hs] at h
      simpa using h)
    unfold ones at this ⊢
    rw [List.set_cons_succ, List.countP_cons, List.countP_cons]
    omega
/-- One pass over the states ahead of s: what it began with, what is left, and whether anything changed. -/
structure Pass (K N : Int) (nx out jo : List Int) (s : Nat) (left : List Int) (ch : Bool) : Prop where
  lf : Lf K N nx out left
  no : ch = false → left = jo ∧ ∀ t : Nat, t < s → t < N.toNat → rd left (t : Int) = 1 → Goes K nx left t K.toNat
  yes : ch = true → ones left < ones jo
  le : ones left ≤ ones jo
theorem pass_start {K N : Int} {nx out left : List Int} (h : Lf K N nx out left) : Pass K N nx out left 0 left false :=
  ⟨h, fun _ => ⟨rfl, fun t h => absurd h (Nat.not_lt_zero _)⟩, fun h => by simp at h, Nat.le_refl _⟩
theorem Pass.skip {K N : Int} {nx out jo left : List Int} {s : Nat} {ch : Bool} (h : Pass K N nx out jo s left ch) (h0 : rd left (s : Int) = 1 → Goes K nx left s K.toNat) : Pass K N nx out jo (s + 1) left ch :=
  ⟨h.lf, fun hc => ⟨(h.no hc).1, fun t hts ht h1 => by
    by_cases e : t = s
    · subst e
      exact h0 h1
    · exact (h.no hc).2 t (by omega) ht h1⟩, h.yes, h.le⟩
theorem Pass.drop {K N : Int} {nx out jo left : List Int} (R : RightD K N nx out) {s : Nat} {ch : Bool} (h : Pass K N nx out jo s left ch) (hs : s < N.toNat) (h1 : rd left (s : Int) = 1) (hg : ¬ Goes K nx left s K.toNat) : Pass K N nx out jo (s + 1) (left.set s 0) true := by
  have := ones_set left s (by rw [h.lf.len]; exact hs) h1
  have h2 := h.le
  exact ⟨h.lf.out R hs hg, fun hc => by simp at hc, fun _ => by omega, by omega⟩
theorem Pass.ring {K N : Int} {nx out jo left : List Int} (R : RightD K N nx out) (h : Pass K N nx out jo N.toNat left false) : (1 : Int) ∈ left ↔ LongOne K N nx out 0 := by
  have hl := h.lf.len
  have hn := R.n
  constructor
  · intro hm
    obtain ⟨j, hj, e⟩ := List.getElem_of_mem hm
    have hC : Ring K N nx out (fun t => ∃ s : Nat, s < N.toNat ∧ t = (s : Int) ∧ rd left (s : Int) = 1) := by
      refine ⟨?_, ?_, ?_⟩
      · rintro t ⟨s, h1, rfl, h2⟩
        exact (h.lf.sub s h1 h2).1
      · rintro t ⟨s, h1, rfl, h2⟩
        exact (h.lf.sub s h1 h2).2
      · rintro t ⟨s, h1, rfl, h2⟩
        obtain ⟨y, hy, h3⟩ := (h.no rfl).2 s h1 h1 h2
        have hst := R.nx'.step (s := (s : Int)) (by omega) (by omega) hy
        obtain ⟨n, hn⟩ : ∃ n : Nat, nxt K nx (s : Int) y = (n : Int) := ⟨(nxt K nx (s : Int) y).toNat, by omega⟩
        refine ⟨y, hy, n, by omega, hn, ?_⟩
        rw [← hn]
        exact h3
    exact ring_long R.nx' hC (t := (j : Int)) ⟨j, by omega, rfl, by rw [jm hj]; exact e⟩
  · intro hlo
    obtain ⟨C, t, hC, ht⟩ := long_ring R.nx' hlo
    obtain ⟨u, g1, g2⟩ := hC.come t ht
    have hr := far_rng R.nx' u 0 (by omega) g1
    rw [g2] at hr
    obtain ⟨n, rfl⟩ : ∃ n : Nat, t = (n : Int) := ⟨t.toNat, by omega⟩
    have h1 := h.lf.ring C hC n (by omega) ht
    have hnl : n < left.length := by omega
    rw [jm hnl] at h1
    rw [← h1]
    exact List.getElem_mem hnl
end Go.Proofs.Ytkaefgmgcghhiaa.X
end

section
namespace Go.Proofs.Ytkaefgmgcghhiaa.X
open Go.RowKit Go.Proofs.YtkaefgmgcghhiaaW.PrintWords Go.Proofs.YtkaefgmgcghhiaaW.PrintLast Go.Proofs.YtkaefgmgcghhiaaW.PrintMore
open Go.Proofs.Ytkaefgmgcghhiaa
def fi15.T15 : Bool × List (List Nat × List Nat) := (true, [([], []), ([], []), ([0, 1], [0, 1]), ([2], [2]), ([], []), ([], []), ([5], [5]), ([], []), ([], []), ([8], [8]), ([7, 9], [7, 9]), ([], []), ([10, 11], [10, 11]), ([6, 12], [6, 12]), ([13], [13]), ([4, 14], [4, 14]), ([15], [15]), ([3, 16], [3, 16]), ([0, 1, 0, 1, 2, 3, 4, 5, 6, 7, 8, 9, 10, 11, 12, 13, 14, 15, 16, 17], [0, 1]), ([18, 17, 0, 1, 2, 3, 4, 5, 6, 7, 8, 9, 10, 11, 12, 13, 14, 15, 16, 17], [17, 18])])
def fi15.B15 : List Nat := [0, 0, 3, 7, 0, 0, 32, 0, 0, 256, 896, 0, 3968, 8160, 16352, 32752, 65520, 131071, 262143, 524287]
theorem fi15.tab15 : rtab .any (opsOf Try.f42 15) = fi15.T15 := by kernel_rfl
theorem fi15.bits15 : waitsOk fi15.T15.2 fi15.B15 = true := by kernel_rfl
theorem index_is (l : List Int) (c : Int) (hl : l.length ≤ 9223372036854775806) : ∀ d i, i + d = l.length → ∀ k, d < k →
    bg.l0 k l c (l.length : Int) (i : Int) = some (((l.drop i).findIdx? (· == c)).elim (-1) (fun j => ((i + j : Nat) : Int))) := by
  intro d
  induction d with
  | zero =>
    intro i hi k hk
    obtain ⟨k, rfl⟩ : ∃ m, k = m + 1 := ⟨k - 1, by omega⟩
    simp only [bg.l0]
    rw [if_neg (by omega), List.drop_of_length_le (by omega)]
    rfl
  | succ d ih =>
    intro i hi k hk
    obtain ⟨k, rfl⟩ : ∃ m, k = m + 1 := ⟨k - 1, by omega⟩
    simp only [bg.l0]
    rw [if_pos (by omega), if_pos (by omega), if_pos (by omega)]
    have hd : l.drop i = l[i]'(by omega) :: l.drop (i + 1) := (List.drop_eq_getElem_cons (by omega))
    have hr : rd l i = l[i]'(by omega) := by simp [rd, List.getD_eq_getElem?_getD, List.getElem?_eq_getElem (show i < l.length by omega)]
    rw [hd, hr, List.findIdx?_cons]
    by_cases h : c = l[i]'(by omega)
    · rw [if_pos h, if_pos (by simp [h])]; rfl
    · rw [if_neg h, if_neg (by simpa using fun e => h e.symm)]
      have hw : wrap64 ((i : Int) + 1) = ((i + 1 : Nat) : Int) := by unfold wrap64; omega
      rw [hw, ih (i + 1) (by omega) k (by omega)]
      cases (l.drop (i + 1)).findIdx? (· == c) with
      | none => rfl
      | some j => simp only [Option.map_some, Option.elim_some]; congr 2; omega
theorem contains_is (l : List Int) (c : Int) (hl : l.length ≤ 9223372036854775806) : fK.f (l.length + 1) l c = some (decide (c ∈ l)) := by
  unfold fK.f bg.f
  have h := index_is l c hl l.length 0 (by omega) (l.length + 1) (by omega)
  rw [show ((0 : Nat) : Int) = 0 from rfl] at h
  rw [h]
  simp only [Option.bind_some, List.drop_zero]
  congr 1
  cases hf : l.findIdx? (· == c) with
  | none =>
    rw [List.findIdx?_eq_none_iff] at hf
    have : ¬ c ∈ l := by
      intro hm
      have := hf c hm
      simp at this
    simp [this]
  | some j =>
    have hj := List.findIdx?_eq_some_iff_getElem.1 hf
    obtain ⟨hlt, he, _⟩ := hj
    have : c ∈ l := by
      have := eq_of_beq he
      rw [← this]
      exact List.getElem_mem _
    simp only [this, decide_true, Option.elim_some, ge_iff_le]
    simp
def onesAt (w : World) (g : Nat) : Nat := match w.heap[g]? with
  | some (.cells cs _ _) => cs.toList.countP (fun v => intOf v = 1)
  | _ => 0
theorem onesAt_is {w : World} {g : Nat} {l : List Int} (h : w.heap[g]? = some (.cells (numsA l) 3 (0, 0))) : onesAt w g = ones l := by
  unfold onesAt
  rw [h]
  simp only [numsA, ones]
  rw [List.countP_map]
  rfl
def flag : Value → Nat
  | .bool true => 1
  | _ => 0
theorem or_bit {a b : Int} (ha : a = 0 ∨ a = 1) (hb : b = 0 ∨ b = 1) : wrap64 ((BitVec.ofInt 64 a ||| BitVec.ofInt 64 b).toNat : Int) = max a b := by
  rcases ha with rfl | rfl <;> rcases hb with rfl | rfl <;> kernel_rfl
theorem numsA_set (xs : List Int) (j : Nat) (v : Int) : (numsA xs).setIfInBounds j (.int .i64 v) = numsA (xs.set j v) := by
  simp [numsA, List.map_set]
theorem nums_C {w : World} {g : Nat} {xs : List Int} (h : w.heap[g]? = some (.cells (numsA xs) 3 (0, 0))) (hm : xs.length ≤ 9223372036854775807) : Kd.C (Kd.int .i64) w (some ⟨g, 0, none⟩) xs.length xs :=
  Kd.C_of_reads (d := (0 : Int)) ⟨rfl, hm, fun _ => ⟨_, rfl, fun j hj => by
    have := iV h j hj
    rw [Addr.add_mid, Nat.zero_add]
    simpa [rd] using this⟩⟩
attribute [local go_sem] eP eH fQ fP d9 dZ eO eG Op.intBits
set_option maxHeartbeats 8000000 in
set_option maxRecDepth 100000 in
theorem Finite_walk (kd K O N : Int) (A4 : Option Addr) (c4 : Nat) (nxl : List Int) (A5 : Option Addr) (c5 : Nat) (out : List Int) (w : World) (R : RightD K N nxl out) (hkd : kd = 1) (hO : O = 2)
    (hr4 : Kd.C (Kd.int .i64) w A4 nxl.length nxl) (hc4 : nxl.length ≤ c4) (hr5 : Kd.C (Kd.int .i64) w A5 out.length out) (hc5 : out.length ≤ c5) (b : Bool) (hb : b = true ↔ ¬ LongOne K N nxl out 0) :
    Calls Try.prog 42 #[.agg #[.int .i64 kd, .int .i64 K, .int .i64 O, .int .i64 N, .slice A4 nxl.length c4, .slice A5 out.length c5]] w fun e w' => e = .returned (.tuple #[.bool b, .int .i64 0]) ∧ Below w.heap.size w w' := by
  have hu43 := Try.underlying43
  have hu22 := Try.underlying22
  obtain ⟨st, ws, grc, hrch⟩ := reach_spec R.nx' (q := rcBig) (by unfold rcBig; omega)
  have hreach : fe.f 1 K 2 N nxl out = some (st, ws, 0) := by
    unfold fe.f rcG
    rw [mach_right R (by unfold rcBig; omega)]
    simp only []
    rw [if_neg (by omega), grc]
  have hd := dfa_right R (k := 200000) (by omega)
  have hfew := lY R.nx' hrch.toWay
  subst hkd
  subst hO
  have hdf := fun (W : World) (hb : Below w.heap.size w W) => iT.calls 200000 1 K 2 N A4 c4 nxl A5 c5 out 0 W (Kd.ak hr4 hb) hc4 (Kd.ak hr5 hb) hc5 hd
  have hrf := fun (W : World) (hb : Below w.heap.size w W) => fe.calls 1 K 2 N A4 c4 nxl A5 c5 out st ws 0 W (Kd.ak hr4 hb) hc4 (Kd.ak hr5 hb) hc5 hreach
  have H4 := aC.mk hr4
  have H5 := aC.mk hr5
  have HR := aC.mk R
  have HRCH := aC.mk hrch
  have HB0 := aC.mk hb
  have HRNG : aC (∀ s ∈ st, 0 ≤ s ∧ s < N) := ⟨hrch.rng⟩
  obtain ⟨hN1, hN2⟩ := R.n
  obtain ⟨hK1, hK2⟩ := R.k
  have HOL2 : aC (out.length = N.toNat) := ⟨R.outl⟩
  have HNL : aC (nxl.length = N.toNat * K.toNat) := ⟨R.nxl⟩
  clear hr4 hr5 hd hreach grc hrch R hb
  obtain ⟨ad5, e5, _⟩ := Kd.cz H5.out 0 (by omega) (by have := HOL2.out; omega)
  cases e5
  obtain ⟨ad4, e4, _⟩ := Kd.cz H4.out 0 (by omega) (by have := (HR.out.nx'.idx (s := 0) (by omega) (by omega) (x := 0) (by omega)).2; omega)
  cases e4
  rename_i hz5 hz4
  clear hz5 hz4
  go_enter Try.func42, Try.ntmps42
  go_wp2_with (first | (go_at_call 68; refine (hdf _ (aH (Below.refl _ _) _)).mono ?_; rintro e w1 ⟨rfl, hb1⟩; have HB1 := aC.mk (ah (aH (Below.refl w.heap.size w) (.cells #[.int .i64 1, .int .i64 K, .int .i64 2, .int .i64 N, .slice (some ad4) nxl.length c4, .slice (some ad5) out.length c5] 43)) hb1); have hs0 := (((Sp.Sep.start w.heap.size 3 w).fillBlk 0 rfl rfl (dH w (.cells #[.int .i64 1, .int .i64 K, .int .i64 2, .int .i64 N, .slice (some ad4) nxl.length c4, .slice (some ad5) out.length c5] 43)) (aH (Below.refl w.heap.size w) (.cells #[.int .i64 1, .int .i64 K, .int .i64 2, .int .i64 N, .slice (some ad4) nxl.length c4, .slice (some ad5) out.length c5] 43)) (Nat.le_refl _)).low hb1); have hy0 : w1.cell? ⟨w.heap.size, 0, none⟩ = some (.int .i64 1) := (aD (hs0.get 0 rfl) 0).trans rfl; have hy1 : w1.cell? ⟨w.heap.size, 1, none⟩ = some (.int .i64 K) := (aD (hs0.get 0 rfl) 1).trans rfl; have hy2 : w1.cell? ⟨w.heap.size, 2, none⟩ = some (.int .i64 2) := (aD (hs0.get 0 rfl) 2).trans rfl; have hy3 : w1.cell? ⟨w.heap.size, 3, none⟩ = some (.int .i64 N) := (aD (hs0.get 0 rfl) 3).trans rfl; have hy4 : w1.cell? ⟨w.heap.size, 4, none⟩ = some (.slice (some ad4) nxl.length c4) := (aD (hs0.get 0 rfl) 4).trans rfl; have hy5 : w1.cell? ⟨w.heap.size, 5, none⟩ = some (.slice (some ad5) out.length c5) := (aD (hs0.get 0 rfl) 5).trans rfl; have HS1 := aC.mk hs0; clear hb1 hs0) | (go_at_call 73; refine (hrf _ HB1.out).mono ?_; rintro e w2 ⟨v0, v1, rfl, hR, hS, hb2⟩; have HB2 := aC.mk (ah HB1.out hb2); obtain ⟨As, cs, rfl⟩ := Kd.bu hR; have hs1 := HS1.out.fillRow 1 rfl rfl hR hb2 HB1.out.size; have hx3 : w2.cell? ⟨w.heap.size, 3, none⟩ = some (.int .i64 N) := (aD (hs1.get 0 rfl) 3).trans rfl; have hx5 : w2.cell? ⟨w.heap.size, 5, none⟩ = some (.slice (some ad5) out.length c5) := (aD (hs1.get 0 rfl) 5).trans rfl; have HS2 := aC.mk hs1; clear hb2 hR hS hs1 hy0 hy1 hy2 hy3 hy4 hy5) | ((with_reducible refine bK (N := 31) rfl ?_); (refine fresh_make rfl rfl rfl (by omega) hN2 ?_; intro w3 hg3 hb3; have HB3 := aC.mk (ah HB2.out hb3); have hs2 := HS2.out.fillBlk 2 rfl rfl hg3 hb3 HB2.out.size; have hx3 : w3.cell? ⟨w.heap.size, 3, none⟩ = some (.int .i64 N) := (aD (hs2.get 0 rfl) 3).trans rfl; have hx5 : w3.cell? ⟨w.heap.size, 5, none⟩ = some (.slice (some ad5) out.length c5) := (aD (hs2.get 0 rfl) 5).trans rfl; have HS3 := aC.mk hs2; clear hg3 hb3 hs2)) | ((with_reducible refine dF (b := .copy) (xs := #[.tmp 32, .tmp 34]) rfl ?_); (refine copy_whole rfl (.tmp 32) (.tmp 34) rfl rfl rfl HOL2.out (by simp) HOL2.out (HS3.out.get 2 rfl) (args_src (Kd.ak H5.out HB3.out) rfl) ?_; intro w4 hg4 hgr4; have hs3 := HS3.out.upd 2 rfl (r' := Sp.blk w2.heap.size (numsA out) 3) hg4 (fun k hk hlt => hgr4.block k hlt (fun e => hk (by injection e))) (fun k hk => ⟨.inl hk, by have := gq hg4; rw [show k = w2.heap.size from hk]; exact this⟩) HB3.out.size hgr4.size; have HB4 := aC.mk (jd HB3.out _ HB3.out.size hgr4 (fun k hk => by injection hk with hk; rw [← hk]; exact HB2.out.size)); have hx3 : w4.cell? ⟨w.heap.size, 3, none⟩ = some (.int .i64 N) := (aD (hs3.get 0 rfl) 3).trans rfl; have HS4 := aC.mk hs3; clear hg4 hgr4 hs3)))

  clear hdf hrf hx3
  have hmx : max N 0 = N := by omega
  have HLT1 : aC (w.heap.size ≤ w2.heap.size) := ⟨HB2.out.size⟩
  generalize hg1q : w2.heap.size = g1 at HS4 HLT1 ⊢
  clear hg1q HS1 HS2 HS3 HB1 HB2 HB3
  go_loopw [38] (fun v38 wr => ∃ (i : Nat) (us : List Int), v38 = .int .i64 (i : Int) ∧ aC (i ≤ N.toNat) ∧ aC (Us K N nxl out i 0 0 us) ∧ aC (Sp.Sep w.heap.size [Sp.blk w.heap.size #[.int .i64 1, .int .i64 K, .int .i64 2, .int .i64 N, .slice (some ad4) nxl.length c4, .slice (some ad5) out.length c5] 43, Sp.ints w.heap.size (.slice As st.length cs) st, Sp.blk g1 (numsA us) 3] wr) ∧ aC (Below w.heap.size w wr)) (fun v38 _ => N.toNat - (intOf v38).toNat)
  case atStart => exact ⟨0, out, rfl, ⟨by omega⟩, ⟨us_start HR.out⟩, HS4, HB4⟩
  case round =>
    clear HS4 HB4
    obtain ⟨i, us, rfl, HI, HU, HS, HB⟩ := hrel
    by_cases hlt : i < N.toNat
    · have HLT := aC.mk hlt
      have hlt' : (i : Int) < N := by omega
      have hx3 : wr.cell? ⟨w.heap.size, 3, none⟩ = some (.int .i64 N) := (aD (HS.out.get 0 rfl) 3).trans rfl
      clear hlt
      go_wp2
      clear hx3
      go_loopw [42] (fun v42 wr2 => ∃ (s : Nat) (us2 : List Int), v42 = .int .i64 (s : Int) ∧ aC (s ≤ N.toNat) ∧ aC (Us K N nxl out i s 0 us2) ∧ aC (Sp.Sep w.heap.size [Sp.blk w.heap.size #[.int .i64 1, .int .i64 K, .int .i64 2, .int .i64 N, .slice (some ad4) nxl.length c4, .slice (some ad5) out.length c5] 43, Sp.ints w.heap.size (.slice As st.length cs) st, Sp.blk g1 (numsA us2) 3] wr2) ∧ aC (Below w.heap.size w wr2)) (fun v42 _ => N.toNat - (intOf v42).toNat)
      case atStart => exact ⟨0, us, rfl, ⟨by omega⟩, HU, HS, HB⟩
      case round =>
        clear HU HS HB
        obtain ⟨s, us, rfl, HSI, HU, HS, HB⟩ := hrel
        by_cases hq : s < N.toNat
        · have HQ := aC.mk hq
          have hq' : (s : Int) < N := by omega
          have hx1 : wr.cell? ⟨w.heap.size, 1, none⟩ = some (.int .i64 K) := (aD (HS.out.get 0 rfl) 1).trans rfl
          clear hq
          go_wp2
          clear hx1
          go_loopw [47] (fun v47 wr2 => ∃ (x : Nat) (us2 : List Int), v47 = .int .i64 (x : Int) ∧ aC (x ≤ K.toNat) ∧ aC (Us K N nxl out i s x us2) ∧ aC (Sp.Sep w.heap.size [Sp.blk w.heap.size #[.int .i64 1, .int .i64 K, .int .i64 2, .int .i64 N, .slice (some ad4) nxl.length c4, .slice (some ad5) out.length c5] 43, Sp.ints w.heap.size (.slice As st.length cs) st, Sp.blk g1 (numsA us2) 3] wr2) ∧ aC (Below w.heap.size w wr2)) (fun v47 _ => K.toNat - (intOf v47).toNat)
          case atStart => exact ⟨0, us, rfl, ⟨by omega⟩, HU, HS, HB⟩
          case round =>
            clear HU HS HB
            obtain ⟨x, us, rfl, HXI, HU, HS, HB⟩ := hrel
            by_cases hxk : x < K.toNat
            · have HXK := aC.mk hxk
              have hxk' : (x : Int) < K := by omega
              obtain ⟨ji, hji⟩ : ∃ j_ : Int, wrap64 (wrap64 ((s : Int) * K) + (x : Int)) = j_ := ⟨_, rfl⟩
              have hix := HR.out.nx'.idx (s := (s : Int)) (by omega) hq' hxk
              rw [show stI K (s : Int) x = ji from hji] at hix
              have c1a : 0 ≤ ji := by omega
              have c1b : ji < (nxl.length : Int) := by omega
              have hnx := HR.out.nx'.step (s := (s : Int)) (by omega) hq' hxk
              have hnr : rd nxl ji = nxt K nxl (s : Int) x := by rw [hix.1]; rfl
              obtain ⟨nn, hnn⟩ : ∃ nn : Nat, nxt K nxl (s : Int) x = (nn : Int) := ⟨(nxt K nxl (s : Int) x).toNat, by omega⟩
              rw [hnn] at hnx hnr
              have HNN : aC (nn < N.toNat) := ⟨by omega⟩
              have hnw : IntKind.i64.wrap (wrap64 ((s : Int) * K) + (x : Int)) = ji := (bT _).trans hji
              obtain ⟨_, e4, hxa⟩ := Kd.cz (Kd.ak H4.out (aI HB.out)) ji c1a c1b
              cases e4
              rw [hnr] at hxa
              have HSYM := aC.mk (HU.out.sym HR.out HQ.out hxk)
              rw [hnn] at HSYM
              have hul : (us.length : Int) = N := by have := HU.out.len; omega
              have hnl : (nn : Int) < N := hnx.2
              have hor := or_bit (HU.out.bit s (by have := HU.out.len; have := HQ.out; omega)) (HU.out.bit nn (by have := HU.out.len; have := HNN.out; omega))
              clear hix hnx hnr hnn hxk
              go_wp2
              refine start_ (n := 20) (S := fun w' => w'.cell? ⟨w.heap.size, 4, none⟩ = some (.slice (some ad4) nxl.length c4) ∧ w'.cell? ⟨w.heap.size, 1, none⟩ = some (.int .i64 K) ∧ w'.cell? ⟨g1, s, none⟩ = some (.int .i64 (rd us (s : Int))) ∧ w'.cell? (ad4.add ji.toNat) = some (.int .i64 (nn : Int)) ∧ w'.cell? ⟨g1, nn, none⟩ = some (.int .i64 (rd us (nn : Int)))) (ds := [19]) #[false, false, false, false, false, false, false, false, false, false, false, false, false, false, false, false, false, false, false, false] (by kernel_rfl) rfl rfl ⟨(aD (af (HS.out.get 0 rfl)) 4).trans rfl, (aD (af (HS.out.get 0 rfl)) 1).trans rfl, iV (af (HS.out.get 2 rfl)) s (by have := HU.out.len; have := HQ.out; omega), hxa, iV (af (HS.out.get 2 rfl)) nn (by have := HU.out.len; have := HNN.out; omega)⟩ (fun hHeld => ?_)
              refine with_tabW fi15.tab15 fi15.bits15 (fun HT_ HW_ => ?_)
              refine dM (i := 0) (N := (some 50)) (v := ?_) (a' := ?_) #[true, false, false, false, false, false, false, false, false, false, false, false, false, false, false, false, false, false, false, false] rfl rfl (dE HT_.out (by kernel_rfl)) (fun _ _ _ h => h) (Or.inl ⟨by rfl, ?_⟩) ?_ ?_
              rotate_left
              · intro w'
                go_simp
                with_reducible rfl
              rotate_left
              · simp only [Act.put, List.setIfInBounds_toArray, List.set_cons_zero, List.set_cons_succ, bT, bU]
                rfl
              refine dM (i := 1) (N := (some 51)) (v := ?_) (a' := ?_) #[true, true, false, false, false, false, false, false, false, false, false, false, false, false, false, false, false, false, false, false] rfl rfl (dE HT_.out (by kernel_rfl)) (fun _ _ _ h => h) (Or.inl ⟨by rfl, ?_⟩) ?_ ?_
              rotate_left
              · intro w'
                go_simp
                with_reducible rfl
              rotate_left
              · simp only [Act.put, List.setIfInBounds_toArray, List.set_cons_zero, List.set_cons_succ, bT, bU]
                rfl
              refine dM (i := 2) (N := (some 52)) (v := ?_) (a' := ?_) #[true, true, true, false, false, false, false, false, false, false, false, false, false, false, false, false, false, false, false, false] rfl rfl (dE HT_.out (by kernel_rfl)) (fun _ _ _ h => h) (Or.inl ⟨by rfl, ?_⟩) ?_ ?_
              rotate_left
              · intro w'
                go_simp
                with_reducible rfl
              rotate_left
              · simp only [Act.put, List.setIfInBounds_toArray, List.set_cons_zero, List.set_cons_succ, bT, bU]
                rfl
              refine dM (i := 4) (N := (some 54)) (v := ?_) (a' := ?_) #[true, true, true, false, true, false, false, false, false, false, false, false, false, false, false, false, false, false, false, false] rfl rfl (dE HT_.out (by kernel_rfl)) (fun _ _ _ h => h) (Or.inl ⟨by rfl, ?_⟩) ?_ ?_
              rotate_left
              · intro w'
                go_simp
                with_reducible rfl
              rotate_left
              · simp only [Act.put, List.setIfInBounds_toArray, List.set_cons_zero, List.set_cons_succ, bT, bU]
                rfl
              refine dM (i := 5) (N := (some 55)) (v := ?_) (a' := ?_) #[true, true, true, false, true, true, false, false, false, false, false, false, false, false, false, false, false, false, false, false] rfl rfl (dE HT_.out (by kernel_rfl)) (fun _ _ _ h => h) (Or.inl ⟨by rfl, ?_⟩) ?_ ?_
              rotate_left
              · intro w'
                go_simp
                with_reducible rfl
              rotate_left
              · simp only [Act.put, List.setIfInBounds_toArray, List.set_cons_zero, List.set_cons_succ, bT, bU]
                rfl
              refine dM (i := 7) (N := (some 57)) (v := ?_) (a' := ?_) #[true, true, true, false, true, true, false, true, false, false, false, false, false, false, false, false, false, false, false, false] rfl rfl (dE HT_.out (by kernel_rfl)) (fun _ _ _ h => h) (Or.inl ⟨by rfl, ?_⟩) ?_ ?_
              rotate_left
              · intro w'
                go_simp
                with_reducible rfl
              rotate_left
              · simp only [Act.put, List.setIfInBounds_toArray, List.set_cons_zero, List.set_cons_succ, bT, bU]
                rfl
              refine dM (i := 8) (N := (some 58)) (v := ?_) (a' := ?_) #[true, true, true, false, true, true, false, true, true, false, false, false, false, false, false, false, false, false, false, false] rfl rfl (dE HT_.out (by kernel_rfl)) (fun _ _ _ h => h) (Or.inl ⟨by rfl, ?_⟩) ?_ ?_
              rotate_left
              · intro w'
                go_simp
                with_reducible rfl
              rotate_left
              · simp only [Act.put, List.setIfInBounds_toArray, List.set_cons_zero, List.set_cons_succ, bT, bU]
                rfl
              refine dM (i := 11) (N := (some 61)) (v := ?_) (a' := ?_) #[true, true, true, false, true, true, false, true, true, false, false, true, false, false, false, false, false, false, false, false] rfl rfl (dE HT_.out (by kernel_rfl)) (fun _ _ _ h => h) (Or.inl ⟨by rfl, ?_⟩) ?_ ?_
              rotate_left
              · intro w'
                go_simp
                with_reducible rfl
              rotate_left
              · simp only [Act.put, List.setIfInBounds_toArray, List.set_cons_zero, List.set_cons_succ, bT, bU]
                rfl
              refine jB (i := 3) (N := (some 53)) (v := ?_) (a' := ?_) #[true, true, true, true, true, true, false, true, true, false, false, true, false, false, false, false, false, false, false, false] rfl rfl (ek HT_.out HW_.out (by kernel_rfl)) (fun _ _ _ h => h) (Or.inl ⟨by rfl, ?_⟩) hHeld ?_ ?_
              rotate_left
              · rintro w' ⟨s0, s1, s2, s3, s4⟩
                go_simp
                with_reducible rfl
              rotate_left
              · simp only [Act.put, List.setIfInBounds_toArray, List.set_cons_zero, List.set_cons_succ, bT, bU]
                rfl
              refine jB (i := 6) (N := (some 56)) (v := ?_) (a' := ?_) #[true, true, true, true, true, true, true, true, true, false, false, true, false, false, false, false, false, false, false, false] rfl rfl (ek HT_.out HW_.out (by kernel_rfl)) (fun _ _ _ h => h) (Or.inl ⟨by rfl, ?_⟩) hHeld ?_ ?_
              rotate_left
              · rintro w' ⟨s0, s1, s2, s3, s4⟩
                go_simp
                with_reducible rfl
              rotate_left
              · simp only [Act.put, List.setIfInBounds_toArray, List.set_cons_zero, List.set_cons_succ, bT, bU]
                rfl
              refine jB (i := 9) (N := (some 59)) (v := ?_) (a' := ?_) #[true, true, true, true, true, true, true, true, true, true, false, true, false, false, false, false, false, false, false, false] rfl rfl (ek HT_.out HW_.out (by kernel_rfl)) (fun _ _ _ h => h) (Or.inl ⟨by rfl, ?_⟩) hHeld ?_ ?_
              rotate_left
              · rintro w' ⟨s0, s1, s2, s3, s4⟩
                go_simp
                with_reducible rfl
              rotate_left
              · simp only [Act.put, List.setIfInBounds_toArray, List.set_cons_zero, List.set_cons_succ, bT, bU]
                rfl
              refine dM (i := 10) (N := (some 60)) (v := ?_) (a' := ?_) #[true, true, true, true, true, true, true, true, true, true, true, true, false, false, false, false, false, false, false, false] rfl rfl (dE HT_.out (by kernel_rfl)) (fun _ _ _ h => h) (Or.inl ⟨by rfl, ?_⟩) ?_ ?_
              rotate_left
              · intro w'
                go_simp
                with_reducible rfl
              rotate_left
              · simp only [Act.put, List.setIfInBounds_toArray, List.set_cons_zero, List.set_cons_succ, bT, bU]
                rfl
              refine dM (i := 12) (N := (some 62)) (v := ?_) (a' := ?_) #[true, true, true, true, true, true, true, true, true, true, true, true, true, false, false, false, false, false, false, false] rfl rfl (dE HT_.out (by kernel_rfl)) (fun _ _ _ h => h) (Or.inl ⟨by rfl, ?_⟩) ?_ ?_
              rotate_left
              · intro w'
                go_simp
                with_reducible rfl
              rotate_left
              · simp only [Act.put, List.setIfInBounds_toArray, List.set_cons_zero, List.set_cons_succ, bT, bU]
                rfl
              refine dM (i := 13) (N := (some 63)) (v := ?_) (a' := ?_) #[true, true, true, true, true, true, true, true, true, true, true, true, true, true, false, false, false, false, false, false] rfl rfl (dE HT_.out (by kernel_rfl)) (fun _ _ _ h => h) (Or.inl ⟨by rfl, ?_⟩) ?_ ?_
              rotate_left
              · intro w'
                go_simp
                with_reducible rfl
              rotate_left
              · simp only [Act.put, List.setIfInBounds_toArray, List.set_cons_zero, List.set_cons_succ, bT, bU]
                rfl
              refine jB (i := 14) (N := (some 64)) (v := ?_) (a' := ?_) #[true, true, true, true, true, true, true, true, true, true, true, true, true, true, true, false, false, false, false, false] rfl rfl (ek HT_.out HW_.out (by kernel_rfl)) (fun _ _ _ h => h) (Or.inl ⟨by rfl, ?_⟩) hHeld ?_ ?_
              rotate_left
              · rintro w' ⟨s0, s1, s2, s3, s4⟩
                go_simp
                with_reducible rfl
              rotate_left
              · simp only [Act.put, List.setIfInBounds_toArray, List.set_cons_zero, List.set_cons_succ, bT, bU]
                rfl
              refine dM (i := 15) (N := (some 65)) (v := ?_) (a' := ?_) #[true, true, true, true, true, true, true, true, true, true, true, true, true, true, true, true, false, false, false, false] rfl rfl (dE HT_.out (by kernel_rfl)) (fun _ _ _ h => h) (Or.inl ⟨by rfl, ?_⟩) ?_ ?_
              rotate_left
              · intro w'
                go_simp
                with_reducible rfl
              rotate_left
              · simp only [Act.put, List.setIfInBounds_toArray, List.set_cons_zero, List.set_cons_succ, bT, bU]
                rfl
              refine jB (i := 16) (N := (some 66)) (v := ?_) (a' := ?_) #[true, true, true, true, true, true, true, true, true, true, true, true, true, true, true, true, true, false, false, false] rfl rfl (ek HT_.out HW_.out (by kernel_rfl)) (fun _ _ _ h => h) (Or.inl ⟨by rfl, ?_⟩) hHeld ?_ ?_
              rotate_left
              · rintro w' ⟨s0, s1, s2, s3, s4⟩
                go_simp
                with_reducible rfl
              rotate_left
              · simp only [Act.put, List.setIfInBounds_toArray, List.set_cons_zero, List.set_cons_succ, bT, bU]
                rfl
              refine dM (i := 17) (N := (some 67)) (v := ?_) (a' := ?_) #[true, true, true, true, true, true, true, true, true, true, true, true, true, true, true, true, true, true, false, false] rfl rfl (dE HT_.out (by kernel_rfl)) (fun _ _ _ h => h) (Or.inl ⟨by rfl, ?_⟩) ?_ ?_
              rotate_left
              · intro w'
                go_simp
                with_reducible rfl
              rotate_left
              · simp only [Act.put, List.setIfInBounds_toArray, List.set_cons_zero, List.set_cons_succ, bT, bU]
                rfl
              refine dM (i := 18) (N := (some 68)) (v := ?_) (a' := ?_) #[true, true, true, true, true, true, true, true, true, true, true, true, true, true, true, true, true, true, true, false] rfl rfl (dE HT_.out (by kernel_rfl)) (fun _ _ _ h => h) (Or.inl ⟨by rfl, ?_⟩) ?_ ?_
              rotate_left
              · intro w'
                go_simp
                with_reducible rfl
              rotate_left
              · simp only [Act.put, List.setIfInBounds_toArray, List.set_cons_zero, List.set_cons_succ, bT, bU]
                rfl
              refine last_ (i := 19) (N := none) #[true, true, true, true, true, true, true, true, true, true, true, true, true, true, true, true, true, true, true, true] rfl rfl (one_of HT_.out (by kernel_rfl)) (by decide) (fun K_ hK => ?_)
              have hfz := aA (af (HS.out.get 2 rfl)) s
              have hcl := iV (af (HS.out.get 2 rfl)) s (by have := HU.out.len; have := HQ.out; omega)
              refine skip_ (w1 := ?_) (by rfl) rfl ?_ ?_
              rotate_left
              · go_simp
                rfl
              refine hK.out _ _ ?_; clear hK K_
              refine done_ (done_of HT_.out (by kernel_rfl)) ?_
              go_wp2
              go_roundw
              case rel =>
                refine ⟨x + 1, _, by go_num, ⟨by have := HXK.out; omega⟩, HSYM, ⟨(HS.out.low (aI (Below.refl _ _))).cell 2 rfl s _ ((congrArg (fun z => (numsA us).setIfInBounds s (.int .i64 z)) hor).trans (numsA_set _ _ _)) (by have := HB.out.size; simpa using this)⟩, ⟨aJ (aI HB.out) HLT1.out⟩⟩
              case measure => have := HXK.out; simp [intOf]; omega
            · have hxk' : ¬ ((x : Int) < K) := by omega
              have hxe : x = K.toNat := by have := HXI.out; omega
              go_wp2
              go_roundw
              case rel => exact ⟨s + 1, us, by go_num, ⟨by have := HQ.out; omega⟩, ⟨(by have h := HU.out; rw [hxe] at h; exact h.state)⟩, HS, HB⟩
              case measure => have := HQ.out; simp [intOf]; omega
        · have hq' : ¬ ((s : Int) < N) := by omega
          have hse : s = N.toNat := by have := HSI.out; omega
          go_wp2
          go_roundw
          case rel => exact ⟨i + 1, us, by go_num, ⟨by have := HLT.out; omega⟩, ⟨(by have h := HU.out; rw [hse] at h; exact h.round)⟩, HS, HB⟩
          case measure => have := HLT.out; simp [intOf]; omega
    · have hlt' : ¬ ((i : Int) < N) := by omega
      have hie : i = N.toNat := by have := HI.out; omega
      have HUE : aC (Us K N nxl out N.toNat 0 0 us) := ⟨by have h := HU.out; rw [hie] at h; exact h⟩
      have hx3 : wr.cell? ⟨w.heap.size, 3, none⟩ = some (.int .i64 N) := (aD (HS.out.get 0 rfl) 3).trans rfl
      clear HU HI hie hlt
      go_wp2_with ((with_reducible refine bK (N := 74) rfl ?_); (refine fresh_make rfl rfl rfl (by omega) hN2 ?_; intro w5 hg5 hb5; have HB5 := aC.mk (ah HB.out hb5); have hs5 := (HS.out.free Sp.none_ trivial (fun _ hk => hk.elim)).fillBlk 0 rfl rfl hg5 hb5 HB.out.size; have HS5 := aC.mk hs5; clear hg5 hb5 hs5))
      have HLT2 : aC (w.heap.size ≤ wr.heap.size) := ⟨HB.out.size⟩
      generalize hg2q : wr.heap.size = g2 at HS5 HLT2 ⊢
      clear hg2q hx3 HS HB
      go_loopw [77] (fun v77 wr => ∃ (j : Nat) (left : List Int), v77 = .int .i64 (j : Int) ∧ aC (j ≤ st.length) ∧ aC (Put N us st j left) ∧ aC (Sp.Sep w.heap.size [Sp.blk g2 (numsA left) 3, Sp.blk w.heap.size #[.int .i64 1, .int .i64 K, .int .i64 2, .int .i64 N, .slice (some ad4) nxl.length c4, .slice (some ad5) out.length c5] 43, Sp.ints w.heap.size (.slice As st.length cs) st, Sp.blk g1 (numsA us) 3] wr) ∧ aC (Below w.heap.size w wr)) (fun v77 _ => st.length - (intOf v77).toNat)
      case atStart => exact ⟨0, List.replicate N.toNat 0, rfl, ⟨by omega⟩, ⟨put_start _ _ _⟩, HS5, HB5⟩
      case round =>
        clear HS5 HB5
        obtain ⟨j, left, rfl, HJI, HP, HS, HB⟩ := hrel
        by_cases hj : j < st.length
        · have HJ := aC.mk hj
          have hj' : (j : Int) < (st.length : Int) := by omega
          have hsr := HRNG.out st[j] (List.getElem_mem hj)
          obtain ⟨s, hs⟩ : ∃ s : Nat, st[j] = (s : Int) := ⟨st[j].toNat, by omega⟩
          rw [hs] at hsr
          have hsj : st[j]? = some (s : Int) := by rw [List.getElem?_eq_getElem hj, hs]
          obtain ⟨ads, es, hxs⟩ := Kd.cz (Kd.bX (HS.out.get 2 rfl)).2.2 (j : Int) (by omega) hj'
          cases es
          rw [jm hj, hs, Int.toNat_natCast] at hxs
          have HUB := HUE.out.bit
          have hul : (us.length : Int) = N := by have := HUE.out.len; omega
          have hll : (left.length : Int) = N := by have := HP.out.len; omega
          have hxu := iV (HS.out.get 3 rfl) s (by omega)
          have hxl := iV (HS.out.get 0 rfl) s (by omega)
          have hfz := aA (HS.out.get 0 rfl) s
          have hsN : (s : Int) < N := hsr.2
          have HPS := aC.mk (HP.out.step HUE.out.bit HUE.out.len hsj (by omega))
          clear hsr hs hsj hj HUB
          go_wp2
          go_roundw
          case rel => exact ⟨j + 1, _, by go_num, ⟨by have := HJ.out; omega⟩, HPS, ⟨HS.out.cell 0 rfl s _ (numsA_set _ _ _) HB.out.size⟩, ⟨aJ HB.out HLT2.out⟩⟩
          case measure => have := HJ.out; simp [intOf]; omega
        · have hj' : ¬ ((j : Int) < (st.length : Int)) := by omega
          have hje : j = st.length := by have := HJI.out; omega
          have HLF : aC (Lf K N nxl out left) := ⟨by have h := HP.out; rw [hje] at h; exact h.ends HR.out HRCH.out HUE.out⟩
          clear HP hje hj
          go_wp2
          clear HUE
          go_loopw [14] (fun v14 wr => ∃ (ch : Bool) (left : List Int), v14 = .bool ch ∧ aC (Lf K N nxl out left) ∧ aC (ch = false → ((1 : Int) ∈ left ↔ LongOne K N nxl out 0)) ∧ aC (Sp.Sep w.heap.size [Sp.blk g2 (numsA left) 3, Sp.blk w.heap.size #[.int .i64 1, .int .i64 K, .int .i64 2, .int .i64 N, .slice (some ad4) nxl.length c4, .slice (some ad5) out.length c5] 43, Sp.ints w.heap.size (.slice As st.length cs) st, Sp.blk g1 (numsA us) 3] wr) ∧ aC (Below w.heap.size w wr)) (fun v14 wr => 2 * onesAt wr g2 + flag v14)
          case atStart => exact ⟨true, left, rfl, HLF, ⟨fun h => by cases h⟩, HS, HB⟩
          case round =>
            clear HLF HS HB
            obtain ⟨ch, jo, rfl, HLF, HEND, HS, HB⟩ := hrel
            cases ch with
            | true =>
              have hx3 : wr.cell? ⟨w.heap.size, 3, none⟩ = some (.int .i64 N) := (aD (HS.out.get 1 rfl) 3).trans rfl
              have HON := aC.mk (onesAt_is (HS.out.get 0 rfl))
              go_wp2
              clear hx3
              go_loopw [92, 14] (fun v92 v14 wr2 => ∃ (s : Nat) (ch : Bool) (left : List Int), v92 = .int .i64 (s : Int) ∧ v14 = .bool ch ∧ aC (s ≤ N.toNat) ∧ aC (Pass K N nxl out jo s left ch) ∧ aC (Sp.Sep w.heap.size [Sp.blk g2 (numsA left) 3, Sp.blk w.heap.size #[.int .i64 1, .int .i64 K, .int .i64 2, .int .i64 N, .slice (some ad4) nxl.length c4, .slice (some ad5) out.length c5] 43, Sp.ints w.heap.size (.slice As st.length cs) st, Sp.blk g1 (numsA us) 3] wr2) ∧ aC (Below w.heap.size w wr2)) (fun v92 _ _ => N.toNat - (intOf v92).toNat)
              case atStart => exact ⟨0, false, jo, rfl, rfl, ⟨by omega⟩, ⟨pass_start HLF.out⟩, HS, HB⟩
              case round =>
                clear HLF HEND HS HB
                obtain ⟨s, ch, left, rfl, rfl, HSI, HP, HS, HB⟩ := hrel
                by_cases hq : s < N.toNat
                · have HQ := aC.mk hq
                  have hq' : (s : Int) < N := by omega
                  have hll : (left.length : Int) = N := by have := HP.out.lf.len; omega
                  have hxl := iV (HS.out.get 0 rfl) s (by omega)
                  have hbit := HP.out.lf.bit s (by omega)
                  clear hq
                  by_cases h0 : rd left (s : Int) = 0
                  · have HSK := aC.mk (HP.out.skip (fun h1 => by omega))
                    clear hbit
                    rw [h0] at hxl
                    go_wp2
                    go_roundw
                    case rel => exact ⟨s + 1, ch, left, by go_num, rfl, ⟨by have := HQ.out; omega⟩, HSK, HS, HB⟩
                    case measure => have := HQ.out; simp [intOf]; omega
                  · have H1 : aC (rd left (s : Int) = 1) := ⟨by omega⟩
                    clear hbit
                    have hx1 : wr.cell? ⟨w.heap.size, 1, none⟩ = some (.int .i64 K) := (aD (HS.out.get 1 rfl) 1).trans rfl
                    have hfz := aA (HS.out.get 0 rfl) s
                    go_wp2
                    go_loopw [102, 16] (fun v102 v16 wr2 => ∃ (x : Nat) (on : Int), v102 = .int .i64 (x : Int) ∧ v16 = .int .i64 on ∧ aC (x ≤ K.toNat) ∧ aC (on = 0 ∨ on = 1) ∧ aC (on = 1 ↔ Goes K nxl left s x) ∧ aC (wr2 = wr)) (fun v102 _ _ => K.toNat - (intOf v102).toNat)
                    case atStart => exact ⟨0, 0, rfl, rfl, ⟨by omega⟩, ⟨.inl rfl⟩, ⟨by constructor; (intro h; omega); (rintro ⟨y, hy, _⟩; omega)⟩, ⟨by first | trivial | rfl⟩⟩
                    case round =>
                      obtain ⟨x, on, rfl, rfl, HXI, HBIT, HGO, HWR⟩ := hrel
                      have hwr := HWR.out
                      subst hwr
                      clear HWR
                      by_cases hxk : x < K.toNat
                      · have HXK := aC.mk hxk
                        have hxk' : (x : Int) < K := by omega
                        obtain ⟨ji, hji⟩ : ∃ j_ : Int, wrap64 (wrap64 ((s : Int) * K) + (x : Int)) = j_ := ⟨_, rfl⟩
                        have hix := HR.out.nx'.idx (s := (s : Int)) (by omega) hq' hxk
                        rw [show stI K (s : Int) x = ji from hji] at hix
                        have c1a : 0 ≤ ji := by omega
                        have c1b : ji < (nxl.length : Int) := by omega
                        have hnx := HR.out.nx'.step (s := (s : Int)) (by omega) hq' hxk
                        have hnr : rd nxl ji = nxt K nxl (s : Int) x := by rw [hix.1]; rfl
                        obtain ⟨nn, hnn⟩ : ∃ nn : Nat, nxt K nxl (s : Int) x = (nn : Int) := ⟨(nxt K nxl (s : Int) x).toNat, by omega⟩
                        rw [hnn] at hnx hnr
                        have hnw : IntKind.i64.wrap (wrap64 ((s : Int) * K) + (x : Int)) = ji := (bT _).trans hji
                        obtain ⟨_, e4, hxa⟩ := Kd.cz (Kd.ak H4.out HB.out) ji c1a c1b
                        cases e4
                        rw [hnr] at hxa
                        have hx4 : wr.cell? ⟨w.heap.size, 4, none⟩ = some (.slice (some ad4) nxl.length c4) := (aD (HS.out.get 1 rfl) 4).trans rfl
                        have hnl : (nn : Int) < N := hnx.2
                        have hxn := iV (HS.out.get 0 rfl) nn (by omega)
                        have hnb := HP.out.lf.bit nn (by omega)
                        have hor := or_bit HBIT.out hnb
                        have HB2 := aC.mk (max_bit HBIT.out hnb)
                        have HGO2 : aC (max on (rd left (nn : Int)) = 1 ↔ Goes K nxl left s (x + 1)) := ⟨by
                          have h1 := HBIT.out
                          have h2 := HGO.out
                          constructor
                          · intro hm
                            by_cases ho : on = 1
                            · obtain ⟨y, hy, h3⟩ := h2.1 ho
                              exact ⟨y, by omega, h3⟩
                            · exact ⟨x, by omega, by rw [hnn]; omega⟩
                          · rintro ⟨y, hy, h3⟩
                            by_cases he : y = x
                            · subst he
                              rw [hnn] at h3
                              omega
                            · have := h2.2 ⟨y, by omega, h3⟩
                              omega⟩
                        clear hix hnx hnr hnn hxk hnb
                        go_wp2
                        go_roundw
                        case rel => exact ⟨x + 1, max on (rd left (nn : Int)), by go_num, congrArg (Value.int .i64) hor, ⟨by have := HXK.out; omega⟩, HB2, HGO2, ⟨trivial⟩⟩
                        case measure => have := HXK.out; simp [intOf]; omega
                      · have hxk' : ¬ ((x : Int) < K) := by omega
                        have hxe : x = K.toNat := by have := HXI.out; omega
                        have hgo := HGO.out
                        rw [hxe] at hgo
                        clear HGO
                        by_cases ho : on = 0
                        · have HDR := aC.mk (HP.out.drop HR.out HQ.out H1.out (fun h => by have := hgo.2 h; omega))
                          subst ho
                          clear hgo
                          go_wp2
                          go_roundw
                          case rel => exact ⟨s + 1, true, _, by go_num, rfl, ⟨by have := HQ.out; omega⟩, HDR, ⟨HS.out.cell 0 rfl s _ (numsA_set _ _ _) HB.out.size⟩, ⟨aJ HB.out HLT2.out⟩⟩
                          case measure => have := HQ.out; simp [intOf]; omega
                        · have HSK := aC.mk (HP.out.skip (fun _ => hgo.1 (by have := HBIT.out; omega)))
                          clear hgo
                          go_wp2
                          go_roundw
                          case rel => exact ⟨s + 1, ch, left, by go_num, rfl, ⟨by have := HQ.out; omega⟩, HSK, HS, HB⟩
                          case measure => have := HQ.out; simp [intOf]; omega
                · have hq' : ¬ ((s : Int) < N) := by omega
                  have hse : s = N.toNat := by have := HSI.out; omega
                  have hP := HP.out
                  rw [hse] at hP
                  have HP2 := aC.mk hP
                  have HON2 := aC.mk (onesAt_is (HS.out.get 0 rfl))
                  clear hP hse HP
                  go_wp2
                  go_roundw
                  case rel => exact ⟨ch, left, rfl, ⟨HP2.out.lf⟩, ⟨fun h => by subst h; exact HP2.out.ring HR.out⟩, HS, HB⟩
                  case measure =>
                    have h1 := HON.out
                    have h2 := HON2.out
                    have h3 := HP2.out.yes
                    have h4 := HP2.out.le
                    cases ch with
                    | true =>
                      have := h3 rfl
                      simp only [flag]
                      omega
                    | false =>
                      simp only [flag]
                      omega
            | false =>
              have hE := HEND.out rfl
              have hco := contains_is jo 1 (by have := HLF.out.len; omega)
              have HCS := aC.mk (nums_C (HS.out.get 0 rfl) (by have := HLF.out.len; omega))
              have hfin : (!decide ((1 : Int) ∈ jo)) = b := by
                have h1 := HB0.out
                cases b with
                | true => simp [hE, h1.1 rfl]
                | false =>
                  have : LongOne K N nxl out 0 := Classical.byContradiction fun h => by have := h1.2 h; cases this
                  simp [hE, this]
              clear hE HEND
              have hcc : ∀ W, Kd.C (Kd.int .i64) W (some ⟨g2, 0, none⟩) jo.length jo → Calls Try.prog 77 #[.slice (some ⟨g2, 0, none⟩) N.toNat N.toNat, .int .i64 1] W fun e w' => e = .returned (.bool (decide ((1 : Int) ∈ jo))) ∧ bY W w' := fun W h => by
                have hll : jo.length = N.toNat := HLF.out.len
                have := fK.calls (jo.length + 1) _ N.toNat jo 1 _ W h (by omega) hco
                rw [hll] at this
                exact this
              clear hco
              go_wp2_with (go_at_call 77; refine (hcc _ HCS.out).mono ?_; rintro e w8 ⟨rfl, ⟨nd, rfl⟩⟩)
              go_ret2
              exact ⟨rfl, aG HB.out _⟩
end Go.Proofs.Ytkaefgmgcghhiaa.X
end

section
namespace Go.Proofs.Ytkaefgmgcghhiaa.X
open Go.RowKit Go.Proofs.YtkaefgmgcghhiaaW.PrintWords Go.Proofs.YtkaefgmgcghhiaaW.PrintLast Go.Proofs.YtkaefgmgcghhiaaW.PrintMore
open Go.Proofs.Ytkaefgmgcghhiaa
open Classical in
noncomputable def je.f (aX aY ae aT : Int) (aM aU : List Int) : Option (Bool × Int) :=
  match iT.f 200000 aX aY ae aT aM aU with
  | none => none
  | some e => if e ≠ 0 then some (false, e) else if aX = 1 ∧ ae = 2 ∧ RightD aY aT aM aU then some (decide (¬ LongOne aY aT aM aU 0), 0) else none
set_option maxHeartbeats 8000000 in
set_option maxRecDepth 100000 in
theorem je.calls (aX : Int) (aY : Int) (ae : Int) (aT : Int) (bH : Option Addr) (bC : Nat) (aM : List Int) (bE : Option Addr) (bD : Nat) (aU : List Int) (r1 : Bool) (r2 : Int) (w : World)
    (eQ : Kd.C (Kd.int .i64) w bH aM.length aM) (eu : aM.length ≤ bC) (fD : Kd.C (Kd.int .i64) w bE aU.length aU) (fG : aU.length ≤ bD) (h : je.f aX aY ae aT aM aU = some (r1, r2)) :
    Calls Try.prog 42 #[.agg #[.int .i64 aX, .int .i64 aY, .int .i64 ae, .int .i64 aT, .slice bH aM.length bC, .slice bE aU.length bD]] w fun e w' => e = .returned (.tuple #[.bool r1, .int .i64 r2]) ∧ Below w.heap.size w w' := by
  unfold je.f at h
  cases hd : iT.f 200000 aX aY ae aT aM aU with
  | none => rw [hd] at h; exact absurd h (by simp)
  | some e0 =>
    rw [hd] at h
    simp only [] at h
    by_cases q1 : e0 ≠ 0
    · rw [if_pos q1] at h
      simp only [Option.some.injEq, Prod.mk.injEq] at h
      obtain ⟨rfl, rfl⟩ := h
      have hdf := fun (W : World) (hb : Below w.heap.size w W) => iT.calls 200000 aX aY ae aT bH bC aM bE bD aU e0 W (Kd.ak eQ hb) eu (Kd.ak fD hb) fG hd
      have hu43 := Try.underlying43
      have q1b : (e0 != 0) = true := by simpa using q1
      clear q1 eQ fD hd
      go_enter Try.func42, Try.ntmps42
      go_wp2_with (go_at_call 68; refine (hdf _ (aH (Below.refl _ _) _)).mono ?_; rintro e w1 ⟨rfl, hb1⟩)
      go_ret2
      exact ⟨rfl, ah (aH (Below.refl _ _) _) hb1⟩
    · rw [if_neg q1] at h
      by_cases q2 : aX = 1 ∧ ae = 2 ∧ RightD aY aT aM aU
      · rw [if_pos q2] at h
        simp only [Option.some.injEq, Prod.mk.injEq] at h
        obtain ⟨h1, rfl⟩ := h
        refine Finite_walk aX aY ae aT bH bC aM bE bD aU w q2.2.2 q2.1 q2.2.1 eQ eu fD fG r1 ?_
        rw [← h1]
        simp
      · rw [if_neg q2] at h; exact absurd h (by simp)
end Go.Proofs.Ytkaefgmgcghhiaa.X
end

section
namespace Go.Proofs.Ytkaefgmgcghhiaa.X
open Go.RowKit Go.Proofs.YtkaefgmgcghhiaaW.PrintWords Go.Proofs.YtkaefgmgcghhiaaW.PrintLast Go.Proofs.YtkaefgmgcghhiaaW.PrintMore
/-- The check that all begin with. -/
def dfaE (a0 : Int) (e : Int) : Int := if e = 0 then (if a0 = 1 then 0 else 30) else e
theorem dfa_is {a0 a1 a2 a3 : Int} {nx out : List Int} (hn : ∀ x ∈ nx, In64 x) (ho : ∀ x ∈ out, In64 x) {k : Nat} (hk : 200000 ≤ k) : iT.f k a0 a1 a2 a3 nx out = some (dfaE a0 (mcheck a0 a1 a2 a3 nx out).2) := by
  unfold iT.f dfaE
  rw [mach_prog hn ho hk, Option.bind_some]
  split
  · split <;> rfl
  · rfl
theorem acceptor_is {a0 a1 a2 a3 : Int} {nx out : List Int} {k : Nat} (hk : 300000 ≤ k) : bV.f k a0 a1 a2 a3 nx out = some (dfaE a0 (mcheck a0 a1 a2 a3 nx out).2) := by
  unfold bV.f dfaE
  rw [mach_ref hk, Option.bind_some]
  split
  · split <;> rfl
  · rfl
theorem refFin_same {K N : Int} {nx out : List Int} (R : RightD K N nx out) {k : Nat} (hk : 200000000 ≤ k) : je.f 1 K 2 N nx out = aa.f k 1 K 2 N nx out := by
  unfold je.f
  rw [dfa_right R (by omega)]
  simp only []
  rw [if_neg (by simp), if_pos ⟨rfl, rfl, R⟩]
  rcases refFinite_is R hk with ⟨h1, h2⟩ | ⟨h1, h2⟩
  · rw [h2]
    simp [h1]
  · rw [h2]
    simp [h1]
theorem counts_same {K N : Int} {nx out : List Int} (R : RightD K N nx out) (n : Int) {k : Nat} (hk : 300000000 ≤ k) : ∃ a e, iW.f 1 K 2 N nx out n = some (a, e) ∧ aV.f k 1 K 2 N nx out n = some (a, e) := by
  by_cases h0 : n < 0
  · refine ⟨0, 1, ?_, ?_⟩
    · unfold iW.f cnG
      rw [dfa_right R (by unfold big; omega)]
      simp only []
      rw [if_neg (by omega), if_pos h0]
    · unfold aV.f
      obtain ⟨k, rfl⟩ : ∃ m, k = m + 1 := ⟨k - 1, by omega⟩
      rw [jh R (by omega), Option.bind_some, if_pos rfl, if_pos h0, aV.j0, if_pos rfl]
  · by_cases h1 : n > 4096
    · refine ⟨0, 1, ?_, ?_⟩
      · unfold iW.f cnG
        rw [dfa_right R (by unfold big; omega)]
        simp only []
        rw [if_neg (by omega), if_neg h0, if_pos h1]
      · unfold aV.f
        obtain ⟨k, rfl⟩ : ∃ m, k = m + 1 := ⟨k - 1, by omega⟩
        rw [jh R (by omega), Option.bind_some, if_pos rfl, if_neg h0, decide_eq_true h1, aV.j0, if_pos rfl]
    · have g1 := count_is R (n := n) (by omega) (by omega)
      have g2 := refCount_is R (n := n) (by omega) (by omega) hk
      exact ⟨_, _, g1.trans rfl, g2.trans rfl⟩
theorem counts_all (a0 a1 a2 a3 : Int) (nx out : List Int) (n : Int) (hnx : ∀ x ∈ nx, In64 x) (hout : ∀ x ∈ out, In64 x) {k : Nat} (hk : 300000000 ≤ k) :
    ∃ (a e : Int) (w : List Int) (ok : Bool) (g : Int) (p : Bool) (i : Int), w.length ≤ 4096 ∧ iW.f a0 a1 a2 a3 nx out n = some (a, e) ∧ aV.f k a0 a1 a2 a3 nx out n = some (a, e) ∧ dR.f k a0 a1 a2 a3 nx out = some (w, ok, g) ∧ cK.f k a0 a1 a2 a3 nx out = some (w, ok, g) ∧ je.f a0 a1 a2 a3 nx out = some (p, i) ∧ aa.f k a0 a1 a2 a3 nx out = some (p, i) := by
  by_cases hE : dfaE a0 (mcheck a0 a1 a2 a3 nx out).2 = 0
  · have hm : (mcheck a0 a1 a2 a3 nx out).2 = 0 := by
      unfold dfaE at hE
      split at hE
      · assumption
      · exact hE
    have h1 : a0 = 1 := by
      unfold dfaE at hE
      rw [if_pos hm] at hE
      split at hE
      · assumption
      · omega
    subst h1
    obtain ⟨hh, _, _⟩ := mcheck_ok hm
    have hO : a2 = 2 := (head_bounds hh).2.2.2.2.1 rfl
    subst hO
    have R := right_of_mcheck hm
    obtain ⟨a, e, c1, c2⟩ := counts_same R n (k := k) (by omega)
    have hl := refLeast_is R (k := k) (q := k) (by omega) (by omega)
    have hf := refFin_same R (k := k) (by omega)
    have hff : ∃ p i, aa.f (k) 1 a1 2 a3 nx out = some (p, i) := by
      rcases refFinite_is R (k := k) (by omega) with ⟨_, h2⟩ | ⟨_, h2⟩
      · exact ⟨_, _, h2⟩
      · exact ⟨_, _, h2⟩
    obtain ⟨p, i, hf2⟩ := hff
    rcases least_is R (k := k) (by omega) with ⟨g1, _⟩ | ⟨w, g1, _, g3, _, _⟩
    · exact ⟨a, e, [], false, 0, p, i, by simp, c1, c2, g1, hl.trans g1, hf.trans hf2, hf2⟩
    · exact ⟨a, e, w, true, 0, p, i, by omega, c1, c2, g1, hl.trans g1, hf.trans hf2, hf2⟩
  · obtain ⟨e, he⟩ : ∃ e, dfaE a0 (mcheck a0 a1 a2 a3 nx out).2 = e := ⟨_, rfl⟩
    have hd : ∀ k, 200000 ≤ k → iT.f k a0 a1 a2 a3 nx out = some e := fun k hk => by rw [dfa_is hnx hout hk, he]
    have ha := acceptor_is (a0 := a0) (a1 := a1) (a2 := a2) (a3 := a3) (nx := nx) (out := out) (k := k) (by omega)
    rw [he] at hE ha
    refine ⟨0, e, [], false, e, false, e, by simp, ?_, ?_, ?_, ?_, ?_, ?_⟩
    · unfold iW.f cnG
      rw [hd _ (by unfold big; omega)]
      simp only []
      rw [if_pos hE]
    · unfold aV.f
      rw [ha, Option.bind_some, if_neg hE]
    · unfold dR.f
      rw [hd _ (by omega), Option.bind_some, if_neg hE]
    · unfold cK.f
      rw [ha, Option.bind_some, if_neg hE]
    · unfold je.f
      rw [hd _ (by omega)]
      simp only []
      rw [if_pos hE]
    · unfold aa.f
      rw [ha, Option.bind_some, if_neg hE]
end Go.Proofs.Ytkaefgmgcghhiaa.X
end

section
namespace Go.Proofs.Ytkaefgmgcghhiaa.X
open Go.RowKit Go.Proofs.YtkaefgmgcghhiaaW.PrintWords Go.Proofs.YtkaefgmgcghhiaaW.PrintLast Go.Proofs.YtkaefgmgcghhiaaW.PrintMore
/-- A world of which only this counts further on. -/
theorem gen_world {P : Program} {ops : Array Oper} {Q : Exit → Act → World → Prop} {rest : List Oper} {a : Act} (F : World → Prop) {W : World} (h : F W) (k : ∀ W', F W' → wpList P ops Q rest a W') : wpList P ops Q rest a W := k W h
theorem C_nums {w : World} {g : Nat} {xs : List Int} (h : w.heap[g]? = some (.cells (numsA xs) 3 (0, 0))) (hl : xs.length ≤ 9223372036854775807) : Kd.C (Kd.int .i64) w (some ⟨g, 0, none⟩) xs.length xs :=
  Kd.C_of_reads (d := (0 : Int)) (h1 := fun _ => rfl) ⟨rfl, hl, fun _ => ⟨_, rfl, fun j hj => by
    rw [add_plain, iV h j hj]
    rfl⟩⟩
theorem blk_at {W : World} {cs : Array Value} {t n : Nat} (he : W.heap.size = n) : (W.alloc (.cells cs t)).heap[n]? = some (.cells cs t (0, 0)) := by
  subst he
  exact dH W _
def liveE : List S80 := [⟨0, 0, 0⟩, ⟨0, 1, 0⟩, ⟨0, 1, 1⟩]
def liveEA : Array Value := #[.int .i64 0, .int .i64 0, .int .i64 0, .int .i64 0, .int .i64 1, .int .i64 0, .int .i64 0, .int .i64 1, .int .i64 1]
theorem C_edges {w : World} {g : Nat} (h : w.heap[g]? = some (.cells liveEA 80 (0, 0))) : Kd.C k80 w (some ⟨g, 0, none⟩) 3 liveE := by
  refine ⟨rfl, by omega, fun _ => ⟨_, rfl, fun j p hj => ⟨_, rfl, k80_mk w p, fun i u hu => ?_⟩⟩⟩
  have hc : ∀ q u, liveEA[q]? = some u → w.cell? ((⟨g, 0, none⟩ : Addr).add q) = some u := fun q u hq => by rw [add_plain, aD h q]; exact hq
  match j, hj with
  | 0, hj =>
    simp only [liveE, List.getElem?_cons_zero, Option.some.injEq] at hj
    subst hj
    match i, hu with
    | 0, hu => exact hc 0 u hu
    | 1, hu => exact hc 1 u hu
    | 2, hu => exact hc 2 u hu
    | i + 3, hu => simp at hu
  | 1, hj =>
    simp only [liveE, List.getElem?_cons_zero, List.getElem?_cons_succ, Option.some.injEq] at hj
    subst hj
    match i, hu with
    | 0, hu => exact hc 3 u hu
    | 1, hu => exact hc 4 u hu
    | 2, hu => exact hc 5 u hu
    | i + 3, hu => simp at hu
  | 2, hj =>
    simp only [liveE, List.getElem?_cons_zero, List.getElem?_cons_succ, Option.some.injEq] at hj
    subst hj
    match i, hu with
    | 0, hu => exact hc 6 u hu
    | 1, hu => exact hc 7 u hu
    | 2, hu => exact hc 8 u hu
    | i + 3, hu => simp at hu
  | j + 3, hj => simp [liveE] at hj
theorem info43c : (Try.prog.info? 43).map (fun i => (i.zero, i.size)) = some (some (.agg #[.int .i64 0, .int .i64 0, .int .i64 0, .int .i64 0, .slice none 0 0, .slice none 0 0]), 6) := by kernel_rfl
theorem same_next : cB.f 10 [0, 1, 0, 1] [0, 1, 0, 1] = some true := by decide +kernel
theorem same_out : cB.f 10 [0, 1] [0, 1] = some true := by decide +kernel
/-- What lies in memory behind the example's making. -/
structure LiveAt (w W : World) : Prop where
  below : Below w.heap.size w W
  s : W.heap[w.heap.size]? = some (.cells (numsA [0]) 3 (0, 0))
  f : W.heap[w.heap.size + 1]? = some (.cells (numsA [0, 1]) 3 (0, 0))
  e : W.heap[w.heap.size + 1 + 1]? = some (.cells liveEA 80 (0, 0))
  a : W.heap[w.heap.size + 1 + 1 + 1]? = some (.cells #[.int .i64 2, .int .i64 2, .slice (some ⟨w.heap.size, 0, none⟩) 1 1, .slice (some ⟨w.heap.size + 1, 0, none⟩) 2 2, .slice (some ⟨w.heap.size + 1 + 1, 0, none⟩) 3 3] 25 (0, 0))
theorem LiveAt.on {w W W1 : World} (h : LiveAt w W) (hb : Below W.heap.size W W1) : LiveAt w W1 := ⟨ah h.below hb, av h.s hb, av h.f hb, av h.e hb, av h.a hb⟩
theorem live_made (w : World) : LiveAt w ((((w.alloc (.cells #[.int .i64 0] 3)).alloc (.cells #[.int .i64 0, .int .i64 1] 3)).alloc (.cells liveEA 80)).alloc (.cells #[.int .i64 2, .int .i64 2, .slice (some ⟨w.heap.size, 0, none⟩) 1 1, .slice (some ⟨w.heap.size + 1, 0, none⟩) 2 2, .slice (some ⟨w.heap.size + 1 + 1, 0, none⟩) 3 3] 25)) := by
  have hs := dH w (.cells (numsA [0]) 3)
  have hf : ((w.alloc (.cells (numsA [0]) 3)).alloc (.cells (numsA [0, 1]) 3)).heap[w.heap.size + 1]? = some (.cells (numsA [0, 1]) 3 (0, 0)) := by
    simpa using dH (w.alloc (.cells (numsA [0]) 3)) (.cells (numsA [0, 1]) 3)
  have he : (((w.alloc (.cells (numsA [0]) 3)).alloc (.cells (numsA [0, 1]) 3)).alloc (.cells liveEA 80)).heap[w.heap.size + 1 + 1]? = some (.cells liveEA 80 (0, 0)) := by
    simpa using dH ((w.alloc (.cells (numsA [0]) 3)).alloc (.cells (numsA [0, 1]) 3)) (.cells liveEA 80)
  have ha : ((((w.alloc (.cells #[.int .i64 0] 3)).alloc (.cells #[.int .i64 0, .int .i64 1] 3)).alloc (.cells liveEA 80)).alloc (.cells #[.int .i64 2, .int .i64 2, .slice (some ⟨w.heap.size, 0, none⟩) 1 1, .slice (some ⟨w.heap.size + 1, 0, none⟩) 2 2, .slice (some ⟨w.heap.size + 1 + 1, 0, none⟩) 3 3] 25)).heap[w.heap.size + 1 + 1 + 1]? = some (.cells #[.int .i64 2, .int .i64 2, .slice (some ⟨w.heap.size, 0, none⟩) 1 1, .slice (some ⟨w.heap.size + 1, 0, none⟩) 2 2, .slice (some ⟨w.heap.size + 1 + 1, 0, none⟩) 3 3] 25 (0, 0)) := by
    have h := dH (((w.alloc (.cells (numsA [0]) 3)).alloc (.cells (numsA [0, 1]) 3)).alloc (.cells liveEA 80)) (.cells #[.int .i64 2, .int .i64 2, .slice (some ⟨w.heap.size, 0, none⟩) 1 1, .slice (some ⟨w.heap.size + 1, 0, none⟩) 2 2, .slice (some ⟨w.heap.size + 1 + 1, 0, none⟩) 3 3] 25)
    have e : (((w.alloc (.cells (numsA [0]) 3)).alloc (.cells (numsA [0, 1]) 3)).alloc (.cells liveEA 80)).heap.size = w.heap.size + 1 + 1 + 1 := by simp
    rw [e] at h
    exact h
  exact ⟨aH (aH (aH (aH (Below.refl _ _) _) _) _) _, aW (aW (aW hs _) _) _, aW (aW hf _) _, aW he _, ha⟩
set_option maxHeartbeats 16000000 in
set_option maxRecDepth 100000 in
theorem live_walk (w : World) : Calls Try.prog 13 #[] w fun e w' => e = .returned (.bool true) ∧ Below w.heap.size w w' := by
  have hu80 := Try.underlying80
  have hu25 := Try.underlying25
  have hu43 := Try.underlying43
  obtain ⟨z43, i43⟩ := zero_of_info info43c
  go_enter Try.func13, Try.ntmps13
  go_wp2_with (first
    | (go_at_call 20; go_loud (
       have HL2 := aC.mk ((live_made w).on (aH (Below.refl _ _) (.cells (numsA [0, 1]) 3)))
       have h20 : Calls Try.prog 20 #[.agg #[.int .i64 2, .int .i64 2, .slice (some ⟨w.heap.size, 0, none⟩) 1 1, .slice (some ⟨w.heap.size + 1, 0, none⟩) 2 2, .slice (some ⟨w.heap.size + 1 + 1, 0, none⟩) 3 3], .slice (some ⟨w.heap.size + 1 + 1 + 1 + 1, 0, none⟩) 2 2] (((((w.alloc (.cells #[.int .i64 0] 3)).alloc (.cells #[.int .i64 0, .int .i64 1] 3)).alloc (.cells liveEA 80)).alloc (.cells #[.int .i64 2, .int .i64 2, .slice (some ⟨w.heap.size, 0, none⟩) 1 1, .slice (some ⟨w.heap.size + 1, 0, none⟩) 2 2, .slice (some ⟨w.heap.size + 1 + 1, 0, none⟩) 3 3] 25)).alloc (.cells #[.int .i64 0, .int .i64 1] 3)) _ := nfa_Accepts.calls 2 2 _ 1 [0] _ 2 [0, 1] _ 3 liveE _ 2 [0, 1] true 0 _ (C_nums HL2.out.s (by simp)) (Nat.le_refl _) (C_nums HL2.out.f (by simp)) (Nat.le_refl _) (C_edges HL2.out.e) (Nat.le_refl _) (C_nums (blk_at (by simp)) (by simp)) (Nat.le_refl _) liveA
       refine h20.mono ?_
       rintro e w2 ⟨rfl, hb2⟩
       have HL3 := aC.mk (HL2.out.on hb2)
       have hy0 : w2.cell? ⟨w.heap.size + 1 + 1 + 1, 0, none⟩ = some (.int .i64 2) := (aD HL3.out.a 0).trans rfl
       have hy1 : w2.cell? ⟨w.heap.size + 1 + 1 + 1, 1, none⟩ = some (.int .i64 2) := (aD HL3.out.a 1).trans rfl
       have hy2 : w2.cell? ⟨w.heap.size + 1 + 1 + 1, 2, none⟩ = some (.slice (some ⟨w.heap.size, 0, none⟩) 1 1) := (aD HL3.out.a 2).trans rfl
       have hy3 : w2.cell? ⟨w.heap.size + 1 + 1 + 1, 3, none⟩ = some (.slice (some ⟨w.heap.size + 1, 0, none⟩) 2 2) := (aD HL3.out.a 3).trans rfl
       have hy4 : w2.cell? ⟨w.heap.size + 1 + 1 + 1, 4, none⟩ = some (.slice (some ⟨w.heap.size + 1 + 1, 0, none⟩) 3 3) := (aD HL3.out.a 4).trans rfl
       have h22 : Calls Try.prog 22 #[.agg #[.int .i64 2, .int .i64 2, .slice (some ⟨w.heap.size, 0, none⟩) 1 1, .slice (some ⟨w.heap.size + 1, 0, none⟩) 2 2, .slice (some ⟨w.heap.size + 1 + 1, 0, none⟩) 3 3]] w2 _ := nfa_Determine.calls 2 2 _ 1 [0] _ 2 [0, 1] _ 3 liveE 1 2 2 2 [0, 1, 0, 1] [0, 1] 0 w2 (C_nums HL3.out.s (by simp)) (Nat.le_refl _) (C_nums HL3.out.f (by simp)) (Nat.le_refl _) (C_edges HL3.out.e) (Nat.le_refl _) liveD
       clear hb2 h20))
    | (go_at_call 22
       refine h22.mono ?_
       rintro e w3 ⟨v5, v6, rfl, hR5, hR6, hb3⟩
       have HL4 := aC.mk (HL3.out.on hb3)
       obtain ⟨P5, e5, rfl⟩ := Kd.bu hR5
       obtain ⟨P6, e6, rfl⟩ := Kd.bu hR6
       have HR := aC.mk (And.intro hR5 hR6)
       clear hb3 hR5 hR6 h22 hy0 hy1 hy2 hy3 hy4)
    | ((with_reducible refine dW (t := 43) (p := 4) rfl ?_)
       refine wpList_store_rowTo rfl 43 (.tmp 4) (.tmp 24) rfl rfl w3.heap.size #[.int .i64 1, .int .i64 2, .int .i64 2, .int .i64 2, .slice P5 4 e5, .slice P6 2 e6] rfl rfl 43 _ (dH w3 _) ?_ ?_ (by simp [Value.oneCell']) ?_
       (focus (rw [i43]; rfl))
       (focus rfl)
       rw [World.setRow_alloc_new]
       refine gen_world (fun W => Below w.heap.size w W ∧ Below w3.heap.size w3 W ∧ W.heap[w3.heap.size]? = some (.cells #[.int .i64 1, .int .i64 2, .int .i64 2, .int .i64 2, .slice P5 4 e5, .slice P6 2 e6] 43 (0, 0))) ⟨aH HL4.out.below _, aH (Below.refl _ _) _, dH w3 _⟩ (fun w5 h5 => ?_)
       have HM5 := aC.mk h5
       have hm0 : w5.cell? ⟨w3.heap.size, 0, none⟩ = some (.int .i64 1) := (aD h5.2.2 0).trans rfl
       have hm1 : w5.cell? ⟨w3.heap.size, 1, none⟩ = some (.int .i64 2) := (aD h5.2.2 1).trans rfl
       have hm2 : w5.cell? ⟨w3.heap.size, 2, none⟩ = some (.int .i64 2) := (aD h5.2.2 2).trans rfl
       have hm3 : w5.cell? ⟨w3.heap.size, 3, none⟩ = some (.int .i64 2) := (aD h5.2.2 3).trans rfl
       have hm4 : w5.cell? ⟨w3.heap.size, 4, none⟩ = some (.slice P5 4 e5) := (aD h5.2.2 4).trans rfl
       have hm5 : w5.cell? ⟨w3.heap.size, 5, none⟩ = some (.slice P6 2 e6) := (aD h5.2.2 5).trans rfl
       have h39 : Calls Try.prog 39 #[.agg #[.int .i64 1, .int .i64 2, .int .i64 2, .int .i64 2, .slice P5 4 e5, .slice P6 2 e6], .int .i64 3] w5 _ := iW.calls 1 2 2 2 P5 e5 [0, 1, 0, 1] P6 e6 [0, 1] 3 4 0 w5 (Kd.ak (Kd.bX HR.out.1).2.2 h5.2.1) (Kd.bX HR.out.1).2.1 (Kd.ak (Kd.bX HR.out.2).2.2 h5.2.1) (Kd.bX HR.out.2).2.1 liveC
       clear h5)
    | (go_at_call 39
       refine h39.mono ?_
       rintro e w6 ⟨rfl, hb6⟩
       have HM6 : aC (Below w.heap.size w w6 ∧ Below w3.heap.size w3 w6 ∧ w6.heap[w3.heap.size]? = some (.cells #[.int .i64 1, .int .i64 2, .int .i64 2, .int .i64 2, .slice P5 4 e5, .slice P6 2 e6] 43 (0, 0))) := ⟨ah HM5.out.1 hb6, ah HM5.out.2.1 hb6, av HM5.out.2.2 hb6⟩
       clear hb6 h39 hm0 hm1 hm2 hm3 hm4 hm5
       have hm0 : w6.cell? ⟨w3.heap.size, 0, none⟩ = some (.int .i64 1) := (aD HM6.out.2.2 0).trans rfl
       have hm1 : w6.cell? ⟨w3.heap.size, 1, none⟩ = some (.int .i64 2) := (aD HM6.out.2.2 1).trans rfl
       have hm2 : w6.cell? ⟨w3.heap.size, 2, none⟩ = some (.int .i64 2) := (aD HM6.out.2.2 2).trans rfl
       have hm3 : w6.cell? ⟨w3.heap.size, 3, none⟩ = some (.int .i64 2) := (aD HM6.out.2.2 3).trans rfl
       have hm4 : w6.cell? ⟨w3.heap.size, 4, none⟩ = some (.slice P5 4 e5) := (aD HM6.out.2.2 4).trans rfl
       have hm5 : w6.cell? ⟨w3.heap.size, 5, none⟩ = some (.slice P6 2 e6) := (aD HM6.out.2.2 5).trans rfl)
    | (go_at_call 17; with_reducible refine (fZ.calls 0 0 _ rfl).mono ?_
       rintro e wn ⟨rfl, ⟨nn, rfl⟩⟩)
    | (go_at_call 44
       refine (cB.calls 10 P6 e6 [0, 1] (some ⟨wn.heap.size, 0, none⟩) 2 [0, 1] true _ (Kd.ak (Kd.bX HR.out.2).2.2 (aH HBN.out _)) (Kd.bX HR.out.2).2.1 (C_nums (blk_at rfl) (by simp)) (Nat.le_refl _) same_out).mono ?_
       rintro e wz ⟨rfl, hdz⟩
       have HZ := aC.mk (ah (aH HBW.out _) hdz.below))
    | (go_at_call 44
       refine (cB.calls 10 P5 e5 [0, 1, 0, 1] (some ⟨w6.heap.size, 0, none⟩) 4 [0, 1, 0, 1] true _ (Kd.ak (Kd.bX HR.out.1).2.2 (aH (aG HM6.out.2.1 _) _)) (Kd.bX HR.out.1).2.1 (C_nums (blk_at rfl) (by simp)) (Nat.le_refl _) same_next).mono ?_
       rintro e wn ⟨rfl, hdn⟩
       have HN := aC.mk hdn
       have HBN := aC.mk (ah (aH (aG HM6.out.2.1 _) _) hdn.below)
       have HBW := aC.mk (ah (aH (aG HM6.out.1 _) _) hdn.below)
       have hq5 : wn.cell? ⟨w3.heap.size, 5, none⟩ = some (.slice P6 2 e6) := (aD (av (aW (ag HM6.out.2.2 _) _) hdn.below) 5).trans rfl
       clear hdn))
  go_ret
  exact ⟨rfl, HZ.out⟩
end Go.Proofs.Ytkaefgmgcghhiaa.X
end

section
namespace Go.Proofs.Ytkaefgmgcghhiaa.X
open Go.RowKit Go.Proofs.YtkaefgmgcghhiaaW.PrintWords Go.Proofs.YtkaefgmgcghhiaaW.PrintLast Go.Proofs.YtkaefgmgcghhiaaW.PrintMore
open Go.Proofs.Ytkaefgmgcghhiaa
structure B1At (w : World) (A : Array Value) (W : World) : Prop where
  below : Below w.heap.size w W
  a : W.heap[w.heap.size]? = some (.cells A 43 (0, 0))
theorem B1At.on {w W W1 : World} {A : Array Value} (h : B1At w A W) (hb : Below W.heap.size W W1) : B1At w A W1 := ⟨ah h.below hb, av h.a hb⟩
theorem b1_made (w : World) (A : Array Value) : B1At w A (w.alloc (.cells A 43)) := ⟨aH (Below.refl _ _) _, dH w _⟩
def bigD (N : Int) (nx out : List Int) (m : Int) : Bool := decide (N > m ∨ (nx.length : Int) > 70000 ∨ (out.length : Int) > 70000)
theorem big_is (kd K O N : Int) (nx out : List Int) (m : Int) : jA.f kd K O N nx out m = some (bigD N nx out m) := by
  unfold jA.f bigD
  grind
set_option maxHeartbeats 8000000 in
set_option maxRecDepth 100000 in
theorem Counts_small (kd K O N : Int) (A4 : Option Addr) (c4 : Nat) (nx : List Int) (A5 : Option Addr) (c5 : Nat) (out : List Int) (n : Int) (w : World)
    (ha4 : Kd.C (Kd.int .i64) w A4 nx.length nx) (hc4 : nx.length ≤ c4) (ha5 : Kd.C (Kd.int .i64) w A5 out.length out) (hc5 : out.length ≤ c5)
    (h : bigD N nx out 60 = true ∨ (n > 300 ∧ n ≤ 4096)) : Calls Try.prog 11 #[.agg #[.int .i64 kd, .int .i64 K, .int .i64 O, .int .i64 N, .slice A4 nx.length c4, .slice A5 out.length c5], .int .i64 n] w fun e w' => e = .returned (.bool true) ∧ Below w.heap.size w w' := by
  have hu43 := Try.underlying43
  have hbA := fun (W : World) (hb : Below w.heap.size w W) => jA.calls kd K O N A4 c4 nx A5 c5 out 60 _ W (Kd.ak ha4 hb) hc4 (Kd.ak ha5 hb) hc5 (big_is kd K O N nx out 60)
  have hlv := live_walk
  generalize bigD N nx out 60 = bA at hbA h
  clear ha4 ha5 hc4 hc5
  have HX0 := aC.mk (b1_made w #[.int .i64 kd, .int .i64 K, .int .i64 O, .int .i64 N, .slice A4 nx.length c4, .slice A5 out.length c5])
  cases bA with
  | true =>
    clear h
    go_enter Try.func11, Try.ntmps11
    go_wp2_with (first
      | (go_at_call 28; with_reducible refine (hbA _ HX0.out.below).mono ?_
         rintro e w1 ⟨rfl, hb1⟩
         have HX1 := aC.mk (HX0.out.on hb1)
         clear hb1)
      | (go_at_call 13; refine (hlv _).mono ?_; rintro e w3 ⟨rfl, hb3⟩))
    go_ret
    exact ⟨rfl, ah HX1.out.below hb3⟩
  | false =>
    obtain ⟨h1, h2⟩ : n > 300 ∧ n ≤ 4096 := by simpa using h
    clear h
    go_enter Try.func11, Try.ntmps11
    go_wp2_with (first
      | (go_at_call 28; with_reducible refine (hbA _ HX0.out.below).mono ?_
         rintro e w1 ⟨rfl, hb1⟩
         have HX1 := aC.mk (HX0.out.on hb1)
         clear hb1)
      | (go_at_call 13; refine (hlv _).mono ?_; rintro e w3 ⟨rfl, hb3⟩))
    go_ret
    exact ⟨rfl, ah HX1.out.below hb3⟩
set_option maxHeartbeats 16000000 in
set_option maxRecDepth 100000 in
theorem Counts_main (kd K O N : Int) (A4 : Option Addr) (c4 : Nat) (nx : List Int) (A5 : Option Addr) (c5 : Nat) (out : List Int) (n : Int) (w : World)
    (ha4 : Kd.C (Kd.int .i64) w A4 nx.length nx) (hc4 : nx.length ≤ c4) (ha5 : Kd.C (Kd.int .i64) w A5 out.length out) (hc5 : out.length ≤ c5)
    (hnx : ∀ x ∈ nx, In64 x) (hout : ∀ x ∈ out, In64 x) (hbig : bigD N nx out 60 = false) (hnn : ¬ (n > 300 ∧ n ≤ 4096)) : Calls Try.prog 11 #[.agg #[.int .i64 kd, .int .i64 K, .int .i64 O, .int .i64 N, .slice A4 nx.length c4, .slice A5 out.length c5], .int .i64 n] w fun e w' => e = .returned (.bool true) ∧ Below w.heap.size w w' := by
  have hu43 := Try.underlying43
  have hbA := fun (W : World) (hb : Below w.heap.size w W) => jA.calls kd K O N A4 c4 nx A5 c5 out 60 _ W (Kd.ak ha4 hb) hc4 (Kd.ak ha5 hb) hc5 (big_is kd K O N nx out 60)
  rw [hbig] at hbA
  have hlv := live_walk
  obtain ⟨a, e0, l, ok, g, p, i, hl, f39, f40, f36, f41, f42, f43⟩ := counts_all kd K O N nx out n hnx hout (k := 300000000) (Nat.le_refl _)
  have h39 := fun (W : World) (hb : Below w.heap.size w W) => iW.calls kd K O N A4 c4 nx A5 c5 out n a e0 W (Kd.ak ha4 hb) hc4 (Kd.ak ha5 hb) hc5 f39
  have h40 := fun (W : World) (hb : Below w.heap.size w W) => aV.calls 300000000 kd K O N A4 c4 nx A5 c5 out n a e0 W (Kd.ak ha4 hb) hc4 (Kd.ak ha5 hb) hc5 f40
  have h36 := fun (W : World) (hb : Below w.heap.size w W) => dR.calls 300000000 kd K O N A4 c4 nx A5 c5 out l ok g W (Kd.ak ha4 hb) hc4 (Kd.ak ha5 hb) hc5 f36
  have h41 := fun (W : World) (hb : Below w.heap.size w W) => cK.calls 300000000 kd K O N A4 c4 nx A5 c5 out l ok g W (Kd.ak ha4 hb) hc4 (Kd.ak ha5 hb) hc5 f41
  have h42 := fun (W : World) (hb : Below w.heap.size w W) => je.calls kd K O N A4 c4 nx A5 c5 out p i W (Kd.ak ha4 hb) hc4 (Kd.ak ha5 hb) hc5 f42
  have h43 := fun (W : World) (hb : Below w.heap.size w W) => aa.calls 300000000 kd K O N A4 c4 nx A5 c5 out p i W (Kd.ak ha4 hb) hc4 (Kd.ak ha5 hb) hc5 f43
  have hsm : cB.f 100000 l l = some true := by rw [same_f (by omega) (by omega), decide_eq_true rfl]
  clear ha4 ha5 hc4 hc5 hbig f39 f40 f36 f41 f42 f43 hl hnx hout
  obtain ⟨z43, i43⟩ := zero_of_info info43
  have HX0 := aC.mk (b1_made w #[.int .i64 kd, .int .i64 K, .int .i64 O, .int .i64 N, .slice A4 nx.length c4, .slice A5 out.length c5])
  by_cases h300 : n > 300
  · have h4 : ¬ n ≤ 4096 := fun h => hnn ⟨h300, h⟩
    clear hnn
    go_enter Try.func11, Try.ntmps11
    go_wp2_with (first
      | (go_at_call 13; with_reducible refine (hlv _).mono ?_
         rintro e w12 ⟨rfl, hb12⟩)
      | (go_at_call 17; with_reducible refine (fZ.calls i i _ rfl).mono ?_
         rintro e w11 ⟨rfl, hd11⟩
         have HX11 := aC.mk (HX10.out.on hd11.below)
         clear hd11)
      | (go_at_call 17; (fail_if_success have := HX10); with_reducible refine (fZ.calls g g _ rfl).mono ?_
         rintro e w10 ⟨rfl, hd10⟩
         have HX10 := aC.mk (HX9.out.on hd10.below)
         clear hd10)
      | (go_at_call 44; with_reducible refine hS.mono ?_
         rintro e w9 ⟨rfl, hd9⟩
         have HX9 := aC.mk (HX8.out.on hd9.below)
         clear hd9 hS)
      | (go_at_call 17; (fail_if_success have := HX8); with_reducible refine (fZ.calls e0 e0 _ rfl).mono ?_
         rintro e w8 ⟨rfl, hd8⟩
         have HX8 := aC.mk (HX7.out.on hd8.below)
         have hS := cB.calls 100000 P4 p4 l P5 p5 l true w8 (Kd.ak HS4.out.2 hd8.below) HS4.out.1 (Kd.ak HS5.out.2 hd8.below) HS5.out.1 hsm
         clear hd8)
      | (go_at_call 43; with_reducible refine (h43 _ HX6.out.below).mono ?_
         rintro e w7 ⟨rfl, hb7⟩
         have HX7 := aC.mk (HX6.out.on hb7)
         have HS4 : aC (l.length ≤ p4 ∧ Kd.C (Kd.int .i64) w7 P4 l.length l) := ⟨HR4.out.1, Kd.ak HR4.out.2 hb7⟩
         have HS5 : aC (l.length ≤ p5 ∧ Kd.C (Kd.int .i64) w7 P5 l.length l) := ⟨HR5.out.1, Kd.ak HR5.out.2 hb7⟩
         clear hb7)
      | ((with_reducible refine bK (N := 60) rfl ?_)
         refine wpList_load_row rfl 43 (.tmp 2) rfl w.heap.size rfl 43 #[.int .i64 kd, .int .i64 K, .int .i64 O, .int .i64 N, .slice A4 nx.length c4, .slice A5 out.length c5] (0, 0) _ HX6.out.a Try.underlying43 rfl ?_ ?_
         (focus (rw [i43]; rfl)))
      | (go_at_call 42; with_reducible refine (h42 _ HX5.out.below).mono ?_
         rintro e w6 ⟨rfl, hb6⟩
         have HX6 := aC.mk (HX5.out.on hb6)
         have HR4 : aC (l.length ≤ p4 ∧ Kd.C (Kd.int .i64) w6 P4 l.length l) := ⟨HQ4.out.1, Kd.ak HQ4.out.2 hb6⟩
         have HR5 : aC (l.length ≤ p5 ∧ Kd.C (Kd.int .i64) w6 P5 l.length l) := ⟨HP5.out.1, Kd.ak HP5.out.2 hb6⟩
         clear hb6)
      | ((with_reducible refine bK (N := 55) rfl ?_)
         refine wpList_load_row rfl 43 (.tmp 2) rfl w.heap.size rfl 43 #[.int .i64 kd, .int .i64 K, .int .i64 O, .int .i64 N, .slice A4 nx.length c4, .slice A5 out.length c5] (0, 0) _ HX5.out.a Try.underlying43 rfl ?_ ?_
         (focus (rw [i43]; rfl)))
      | (go_at_call 41; with_reducible refine (h41 _ HX4.out.below).mono ?_
         rintro e w5 ⟨v5, rfl, hR5, hb5⟩
         obtain ⟨P5, p5, rfl⟩ := Kd.V_slice hR5
         have HX5 := aC.mk (HX4.out.on hb5)
         have HQ4 : aC (l.length ≤ p4 ∧ Kd.C (Kd.int .i64) w5 P4 l.length l) := ⟨HP4.out.1, Kd.ak HP4.out.2 hb5⟩
         have HP5 := aC.mk (Kd.V_reads' hR5).2
         clear hb5 hR5)
      | ((with_reducible refine bK (N := 49) rfl ?_)
         refine wpList_load_row rfl 43 (.tmp 2) rfl w.heap.size rfl 43 #[.int .i64 kd, .int .i64 K, .int .i64 O, .int .i64 N, .slice A4 nx.length c4, .slice A5 out.length c5] (0, 0) _ HX4.out.a Try.underlying43 rfl ?_ ?_
         (focus (rw [i43]; rfl)))
      | (go_at_call 36; with_reducible refine (h36 _ HX3.out.below).mono ?_
         rintro e w4 ⟨v4, rfl, hR4, hb4⟩
         obtain ⟨P4, p4, rfl⟩ := Kd.bu hR4
         have HX4 := aC.mk (HX3.out.on hb4)
         have HP4 := aC.mk (Kd.bX hR4).2
         clear hb4 hR4)
      | ((with_reducible refine bK (N := 43) rfl ?_)
         refine wpList_load_row rfl 43 (.tmp 2) rfl w.heap.size rfl 43 #[.int .i64 kd, .int .i64 K, .int .i64 O, .int .i64 N, .slice A4 nx.length c4, .slice A5 out.length c5] (0, 0) _ HX3.out.a Try.underlying43 rfl ?_ ?_
         (focus (rw [i43]; rfl)))
      | (go_at_call 40; with_reducible refine (h40 _ HX2.out.below).mono ?_
         rintro e w3 ⟨rfl, hb3⟩
         have HX3 := aC.mk (HX2.out.on hb3)
         clear hb3)
      | ((with_reducible refine bK (N := 37) rfl ?_)
         refine wpList_load_row rfl 43 (.tmp 2) rfl w.heap.size rfl 43 #[.int .i64 kd, .int .i64 K, .int .i64 O, .int .i64 N, .slice A4 nx.length c4, .slice A5 out.length c5] (0, 0) _ HX2.out.a Try.underlying43 rfl ?_ ?_
         (focus (rw [i43]; rfl)))
      | (go_at_call 39; with_reducible refine (h39 _ HX1.out.below).mono ?_
         rintro e w2 ⟨rfl, hb2⟩
         have HX2 := aC.mk (HX1.out.on hb2)
         clear hb2)
      | ((with_reducible refine bK (N := 31) rfl ?_)
         refine wpList_load_row rfl 43 (.tmp 2) rfl w.heap.size rfl 43 #[.int .i64 kd, .int .i64 K, .int .i64 O, .int .i64 N, .slice A4 nx.length c4, .slice A5 out.length c5] (0, 0) _ HX1.out.a Try.underlying43 rfl ?_ ?_
         (focus (rw [i43]; rfl)))
      | (go_at_call 28; with_reducible refine (hbA _ HX0.out.below).mono ?_
         rintro e w1 ⟨rfl, hb1⟩
         have HX1 := aC.mk (HX0.out.on hb1)
         clear hb1))
    go_ret
    exact ⟨rfl, ah HX11.out.below hb12⟩
  · clear hnn
    go_enter Try.func11, Try.ntmps11
    go_wp2_with (first
      | (go_at_call 13; with_reducible refine (hlv _).mono ?_
         rintro e w12 ⟨rfl, hb12⟩)
      | (go_at_call 17; with_reducible refine (fZ.calls i i _ rfl).mono ?_
         rintro e w11 ⟨rfl, hd11⟩
         have HX11 := aC.mk (HX10.out.on hd11.below)
         clear hd11)
      | (go_at_call 17; (fail_if_success have := HX10); with_reducible refine (fZ.calls g g _ rfl).mono ?_
         rintro e w10 ⟨rfl, hd10⟩
         have HX10 := aC.mk (HX9.out.on hd10.below)
         clear hd10)
      | (go_at_call 44; with_reducible refine hS.mono ?_
         rintro e w9 ⟨rfl, hd9⟩
         have HX9 := aC.mk (HX8.out.on hd9.below)
         clear hd9 hS)
      | (go_at_call 17; (fail_if_success have := HX8); with_reducible refine (fZ.calls e0 e0 _ rfl).mono ?_
         rintro e w8 ⟨rfl, hd8⟩
         have HX8 := aC.mk (HX7.out.on hd8.below)
         have hS := cB.calls 100000 P4 p4 l P5 p5 l true w8 (Kd.ak HS4.out.2 hd8.below) HS4.out.1 (Kd.ak HS5.out.2 hd8.below) HS5.out.1 hsm
         clear hd8)
      | (go_at_call 43; with_reducible refine (h43 _ HX6.out.below).mono ?_
         rintro e w7 ⟨rfl, hb7⟩
         have HX7 := aC.mk (HX6.out.on hb7)
         have HS4 : aC (l.length ≤ p4 ∧ Kd.C (Kd.int .i64) w7 P4 l.length l) := ⟨HR4.out.1, Kd.ak HR4.out.2 hb7⟩
         have HS5 : aC (l.length ≤ p5 ∧ Kd.C (Kd.int .i64) w7 P5 l.length l) := ⟨HR5.out.1, Kd.ak HR5.out.2 hb7⟩
         clear hb7)
      | ((with_reducible refine bK (N := 60) rfl ?_)
         refine wpList_load_row rfl 43 (.tmp 2) rfl w.heap.size rfl 43 #[.int .i64 kd, .int .i64 K, .int .i64 O, .int .i64 N, .slice A4 nx.length c4, .slice A5 out.length c5] (0, 0) _ HX6.out.a Try.underlying43 rfl ?_ ?_
         (focus (rw [i43]; rfl)))
      | (go_at_call 42; with_reducible refine (h42 _ HX5.out.below).mono ?_
         rintro e w6 ⟨rfl, hb6⟩
         have HX6 := aC.mk (HX5.out.on hb6)
         have HR4 : aC (l.length ≤ p4 ∧ Kd.C (Kd.int .i64) w6 P4 l.length l) := ⟨HQ4.out.1, Kd.ak HQ4.out.2 hb6⟩
         have HR5 : aC (l.length ≤ p5 ∧ Kd.C (Kd.int .i64) w6 P5 l.length l) := ⟨HP5.out.1, Kd.ak HP5.out.2 hb6⟩
         clear hb6)
      | ((with_reducible refine bK (N := 55) rfl ?_)
         refine wpList_load_row rfl 43 (.tmp 2) rfl w.heap.size rfl 43 #[.int .i64 kd, .int .i64 K, .int .i64 O, .int .i64 N, .slice A4 nx.length c4, .slice A5 out.length c5] (0, 0) _ HX5.out.a Try.underlying43 rfl ?_ ?_
         (focus (rw [i43]; rfl)))
      | (go_at_call 41; with_reducible refine (h41 _ HX4.out.below).mono ?_
         rintro e w5 ⟨v5, rfl, hR5, hb5⟩
         obtain ⟨P5, p5, rfl⟩ := Kd.V_slice hR5
         have HX5 := aC.mk (HX4.out.on hb5)
         have HQ4 : aC (l.length ≤ p4 ∧ Kd.C (Kd.int .i64) w5 P4 l.length l) := ⟨HP4.out.1, Kd.ak HP4.out.2 hb5⟩
         have HP5 := aC.mk (Kd.V_reads' hR5).2
         clear hb5 hR5)
      | ((with_reducible refine bK (N := 49) rfl ?_)
         refine wpList_load_row rfl 43 (.tmp 2) rfl w.heap.size rfl 43 #[.int .i64 kd, .int .i64 K, .int .i64 O, .int .i64 N, .slice A4 nx.length c4, .slice A5 out.length c5] (0, 0) _ HX4.out.a Try.underlying43 rfl ?_ ?_
         (focus (rw [i43]; rfl)))
      | (go_at_call 36; with_reducible refine (h36 _ HX3.out.below).mono ?_
         rintro e w4 ⟨v4, rfl, hR4, hb4⟩
         obtain ⟨P4, p4, rfl⟩ := Kd.bu hR4
         have HX4 := aC.mk (HX3.out.on hb4)
         have HP4 := aC.mk (Kd.bX hR4).2
         clear hb4 hR4)
      | ((with_reducible refine bK (N := 43) rfl ?_)
         refine wpList_load_row rfl 43 (.tmp 2) rfl w.heap.size rfl 43 #[.int .i64 kd, .int .i64 K, .int .i64 O, .int .i64 N, .slice A4 nx.length c4, .slice A5 out.length c5] (0, 0) _ HX3.out.a Try.underlying43 rfl ?_ ?_
         (focus (rw [i43]; rfl)))
      | (go_at_call 40; with_reducible refine (h40 _ HX2.out.below).mono ?_
         rintro e w3 ⟨rfl, hb3⟩
         have HX3 := aC.mk (HX2.out.on hb3)
         clear hb3)
      | ((with_reducible refine bK (N := 37) rfl ?_)
         refine wpList_load_row rfl 43 (.tmp 2) rfl w.heap.size rfl 43 #[.int .i64 kd, .int .i64 K, .int .i64 O, .int .i64 N, .slice A4 nx.length c4, .slice A5 out.length c5] (0, 0) _ HX2.out.a Try.underlying43 rfl ?_ ?_
         (focus (rw [i43]; rfl)))
      | (go_at_call 39; with_reducible refine (h39 _ HX1.out.below).mono ?_
         rintro e w2 ⟨rfl, hb2⟩
         have HX2 := aC.mk (HX1.out.on hb2)
         clear hb2)
      | ((with_reducible refine bK (N := 31) rfl ?_)
         refine wpList_load_row rfl 43 (.tmp 2) rfl w.heap.size rfl 43 #[.int .i64 kd, .int .i64 K, .int .i64 O, .int .i64 N, .slice A4 nx.length c4, .slice A5 out.length c5] (0, 0) _ HX1.out.a Try.underlying43 rfl ?_ ?_
         (focus (rw [i43]; rfl)))
      | (go_at_call 28; with_reducible refine (hbA _ HX0.out.below).mono ?_
         rintro e w1 ⟨rfl, hb1⟩
         have HX1 := aC.mk (HX0.out.on hb1)
         clear hb1))
    go_ret
    exact ⟨rfl, ah HX11.out.below hb12⟩
theorem tutorlaw17_NfaCounts.calls (kd K O N : Int) (A4 : Option Addr) (c4 : Nat) (nx : List Int) (A5 : Option Addr) (c5 : Nat) (out : List Int) (n : Int) (r : Bool) (w : World)
    (ha4 : Kd.C (Kd.int .i64) w A4 nx.length nx) (hc4 : nx.length ≤ c4) (ha5 : Kd.C (Kd.int .i64) w A5 out.length out) (hc5 : out.length ≤ c5)
    (h : r = true ∧ (∀ x ∈ nx, In64 x) ∧ (∀ x ∈ out, In64 x)) : Calls Try.prog 11 #[.agg #[.int .i64 kd, .int .i64 K, .int .i64 O, .int .i64 N, .slice A4 nx.length c4, .slice A5 out.length c5], .int .i64 n] w fun e w' => e = .returned (.bool r) ∧ Below w.heap.size w w' := by
  obtain ⟨rfl, hnx, hout⟩ := h
  by_cases h : bigD N nx out 60 = true ∨ (n > 300 ∧ n ≤ 4096)
  · exact Counts_small kd K O N A4 c4 nx A5 c5 out n w ha4 hc4 ha5 hc5 h
  · have h' := not_or.1 h
    exact Counts_main kd K O N A4 c4 nx A5 c5 out n w ha4 hc4 ha5 hc5 hnx hout (by simpa using h'.1) h'.2
end Go.Proofs.Ytkaefgmgcghhiaa.X
end
