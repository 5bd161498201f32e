/- Texts of the statement NfaCounts, one behind the other: Go functions as Lean functions, the machine's calls, the plain law. -/
import Derived.Test.YtkaefgmgcghhiaaMNfaCounts16
import Derived.Deep.MidRow
import Derived.DeepKeys4
import Derived.Great.FillDense
import Derived.Maps.Keyed
set_option linter.unusedVariables false
set_option linter.unusedSimpArgs false
section
namespace Go.Proofs.Ytkaefgmgcghhiaa.X
open Go.RowKit Go.Proofs.YtkaefgmgcghhiaaW.PrintWords Go.Proofs.YtkaefgmgcghhiaaW.PrintLast Go.Proofs.YtkaefgmgcghhiaaW.PrintMore
theorem laidOut : laidOutB Try.prog = true := by kernel_rfl
theorem row88 : (88 : TypeId) < Try.prog.types.size := of_decide_eq_true (by kernel_rfl)
theorem wide88 : (match Try.prog.underlying 88 with | some (.array _ _) | some (.struct _) => true | _ => false) = true := by rw [Try.underlying88]
set_option maxRecDepth 100000 in
theorem law88 : WideMaps.KeyLaw Try.prog 88 := deep_law_laid laidOut (m := 2) (by omega) row88 (by kernel_rfl) wide88
theorem keyed88 : Go.Maps.Keyed Try.prog 88 := Go.Maps.Keyed.of_law law88
def kset : Kd (List Nat) where
  sz := 16
  E := []
  K := fun _ s cs => IsSet s ∧ cs = wordsOf s
  M := fun _ _ _ s cs => IsSet s ∧ cs = wordsOf s
  K_len := fun h => by rw [h.2]; simp [wordsOf, h.1.1]
  K_one := fun h v hv => by
    rw [h.2] at hv
    simp only [wordsOf, List.mem_map] at hv
    obtain ⟨n, _, rfl⟩ := hv
    rfl
  K_below := fun _ h => h
  K_of_M := fun h => h
  M_mono := fun _ h => h
  M_bound := fun h => h
  M_move := fun _ h => h
  M_lower := fun _ h => h
/-- Element i of a row of sets lies there. -/
theorem row_at {w : World} {base : Nat} {ok : Nat → Prop} {v : Value} {row : List (List Nat)} (h : Kd.R kset 88 w base ok v row) (i : Nat) (hi : i < row.length) :
    ∃ g c, v = .slice (some ⟨g, 0, none⟩) row.length c ∧ w.rangeAt g (i * 16) (wordsOf (row.getD i [])) ∧ IsSet (row.getD i []) := by
  obtain ⟨_, inner, ho, hr⟩ := h
  rcases ho.2 with ⟨rfl, h0⟩ | ⟨g, cap, cur, rfl, hb, hc, hle, hcap, hsz, htk⟩
  · omega
  · refine ⟨g, cap, rfl, ?_⟩
    have hg : row[i]? = some (row.getD i []) := by
      rw [List.getD_eq_getElem?_getD, List.getElem?_eq_getElem hi]
      rfl
    obtain ⟨hs, hw⟩ := hr.2 i _ hg
    change List.take 16 (List.drop (i * 16) inner) = _ at hw
    change List.take (row.length * 16) cur.toList = inner at htk
    refine ⟨fun j u hj => ?_, hs⟩
    rw [← hw] at hj
    rw [cell_of_row w g _ cur 88 (0, 0) hc]
    have hj16 : j < 16 := by
      have := (List.getElem?_eq_some_iff.1 hj).1
      simp only [List.length_take] at this
      omega
    rw [List.getElem?_take, if_pos hj16, List.getElem?_drop] at hj
    rw [← htk, List.getElem?_take] at hj
    split at hj
    · simpa using hj
    · cases hj
theorem mapM_ex {β : Type} {f : Nat → Option β} : ∀ l : List Nat, (∀ i ∈ l, ∃ y, f i = some y) → ∃ ys, l.mapM f = some ys
  | [], _ => ⟨[], rfl⟩
  | i :: r, h => by
    obtain ⟨y, hy⟩ := h i (by simp)
    obtain ⟨ys, hys⟩ := mapM_ex r (fun j hj => h j (by simp [hj]))
    exact ⟨y :: ys, by rw [List.mapM_cons, hy, hys]; rfl⟩
theorem cells88 : Try.prog.cellsOf 88 = 16 := by kernel_rfl
theorem cells86 : Try.prog.cellsOf 86 = 1 := by kernel_rfl
theorem keyType88 : Try.prog.keyType 88 = true := by kernel_rfl
theorem set_key {s : List Nat} (h : IsSet s) : ∃ l, keyOf Try.prog 88 (.agg (wordsOf s).toArray) = some l := by
  unfold keyOf
  rw [Try.underlying88]
  have hf : (Value.agg (wordsOf s).toArray).formed Try.prog 88 = true := by
    simp [Value.formed, Try.underlying88, cells88, wordsOf, h.1]
  simp only [keyType88, hf, Bool.and_self, if_true]
  have hk : ∃ ls, Try.prog.keyLits (Try.prog.types.size + 1) 88 (Value.agg (wordsOf s).toArray).cells.toList = some ls := by
    unfold Program.keyLits
    rw [Try.underlying88]
    have hc : (Value.agg (wordsOf s).toArray).cells.toList = wordsOf s := by simp [Value.cells]
    rw [hc]
    simp only [cells88, cells86]
    rw [if_pos (by simp [wordsOf, h.1])]
    obtain ⟨ys, hys⟩ := mapM_ex (f := fun i => Try.prog.keyLits Try.prog.types.size 86 (List.take 1 (List.drop (i * 1) (wordsOf s)))) (List.range 16) (fun i hi => by
      have hi' : i < s.length := by rw [h.1]; simpa using hi
      have hd : List.take 1 (List.drop (i * 1) (wordsOf s)) = [.int .u64 ((s[i] : Nat) : Int)] := by
        rw [Nat.mul_one, List.drop_eq_getElem_cons (by simpa [wordsOf] using hi')]
        simp [wordsOf]
      rw [hd]
      obtain ⟨n, hn⟩ : ∃ n, Try.prog.types.size = n + 1 := ⟨Try.prog.types.size - 1, by kernel_rfl⟩
      rw [hn]
      unfold Program.keyLits
      rw [Try.underlying86]
      have hw := h.2 s[i] (List.getElem_mem hi')
      refine ⟨_, if_pos ⟨rfl, ?_⟩⟩
      simp [Lit.wf, IntKind.min, IntKind.max, IntKind.signed, IntKind.bits]
      omega)
    rw [hys]
    exact ⟨_, rfl⟩
  obtain ⟨ls, hls⟩ := hk
  rw [hls]
  exact ⟨_, rfl⟩
theorem words_inj {s t : List Nat} (h : (Value.agg (wordsOf s).toArray) = .agg (wordsOf t).toArray) : s = t := by
  injection h with h
  have h1 : wordsOf s = wordsOf t := by simpa using h
  unfold wordsOf at h1
  exact List.map_inj_right (fun a b hab => by injection hab with _ hab; exact_mod_cast hab) |>.1 h1
def entryOf (p : List Nat × Nat) : MapEntry := ⟨.agg (wordsOf p.1).toArray, .int .i64 (p.2 : Int), p.2⟩
/-- Block b is the map that tells of each set of the row its place. -/
def PlaceAt (w : World) (b : Nat) (row : List (List Nat)) : Prop := w.heap[b]? = some (.map (row.zipIdx.map entryOf).toArray row.length)
theorem place_find {row : List (List Nat)} (hrow : ∀ s ∈ row, IsSet s) {t : List Nat} (ht : IsSet t) (w : World) :
    ((Instr.findKey 88 (.agg (wordsOf t).toArray) (row.zipIdx.map entryOf)).run Try.prog w = .ok none w ∧ t ∉ row) ∨
    ∃ j : Nat, (Instr.findKey 88 (.agg (wordsOf t).toArray) (row.zipIdx.map entryOf)).run Try.prog w = .ok (some (j, .int .i64 (j : Int))) w ∧ row[j]? = some t := by
  obtain ⟨lx, hlx⟩ := set_key ht
  rcases keyed88.find w hlx (row.zipIdx.map entryOf) (fun e he => by
    obtain ⟨p, hp, rfl⟩ := List.mem_map.1 he
    exact set_key (hrow p.1 (List.fst_mem_of_mem_zipIdx hp))) with ⟨h1, h2⟩ | ⟨j, e, h1, h2, h3⟩
  · refine .inl ⟨h1, fun hm => ?_⟩
    obtain ⟨j, hj, hjt⟩ := List.mem_iff_getElem.1 hm
    exact h2 (entryOf (t, j)) (List.mem_map.2 ⟨(t, j), by rw [List.mk_mem_zipIdx_iff_getElem?]; rw [List.getElem?_eq_getElem hj, hjt], rfl⟩) rfl
  · rw [List.getElem?_map, List.getElem?_zipIdx] at h2
    cases hq : row[j]? with
    | none => rw [hq] at h2; cases h2
    | some s =>
      rw [hq] at h2
      simp only [Option.map_some, Option.some.injEq] at h2
      subst h2
      refine .inr ⟨j, ?_, ?_⟩
      · rw [h1]; simp [entryOf]
      · rw [hq, ← words_inj h3]
theorem place_lookup {row : List (List Nat)} (hrow : ∀ s ∈ row, IsSet s) {t : List Nat} (ht : IsSet t) {w : World} {b : Nat} (hp : PlaceAt w b row) :
    ((Instr.lookup 92 (.map (some b)) (.agg (wordsOf t).toArray) true).run Try.prog w = .ok (.tuple #[.int .i64 0, .bool false]) w ∧ t ∉ row) ∨
    ∃ j : Nat, (Instr.lookup 92 (.map (some b)) (.agg (wordsOf t).toArray) true).run Try.prog w = .ok (.tuple #[.int .i64 (j : Int), .bool true]) w ∧ row[j]? = some t := by
  obtain ⟨lx, hlx⟩ := set_key ht
  have hz : (zeroValue 3).run Try.prog w = .ok (.int .i64 0) w := (zero_of_info (n := 1) (by kernel_rfl)).1 w
  rcases place_find hrow ht w with ⟨h1, h2⟩ | ⟨j, h1, h2⟩
  · exact .inl ⟨by simp [Instr.lookup, run_underlying Try.underlying92, MapKept.run_getObj_map hp, keyed88.check w _ hlx, h1, hz, Result.andThen], h2⟩
  · exact .inr ⟨j, by simp [Instr.lookup, run_underlying Try.underlying92, MapKept.run_getObj_map hp, keyed88.check w _ hlx, h1, Result.andThen], h2⟩
theorem place_put {row : List (List Nat)} (hrow : ∀ s ∈ row, IsSet s) {t : List Nat} (ht : IsSet t) (hnew : t ∉ row) {w : World} {b : Nat} (hp : PlaceAt w b row) :
    ∃ w', (Instr.mapUpdate 92 (.map (some b)) (.agg (wordsOf t).toArray) (.int .i64 (row.length : Int))).run Try.prog w = .ok () w' ∧ PlaceAt w' b (row ++ [t]) ∧ w.grownBy w' (some b) := by
  obtain ⟨lx, hlx⟩ := set_key ht
  rcases place_find hrow ht w with ⟨h1, h2⟩ | ⟨j, h1, h2⟩
  · refine ⟨Go.ChangeMaps.setBlock w b (.map ((row.zipIdx.map entryOf).toArray.push ⟨.agg (wordsOf t).toArray, .int .i64 (row.length : Int), row.length⟩) (row.length + 1)), ?_, ?_, ?_⟩
    · simp [Instr.mapUpdate, run_underlying Try.underlying92, MapKept.run_getObj_map hp, keyed88.check w _ hlx, h1, MapKept.run_setObj_map _ hp, Result.andThen, Go.ChangeMaps.setBlock]
    · have := Go.ChangeMaps.heap_setBlock_same hp (.map ((row.zipIdx.map entryOf).toArray.push ⟨.agg (wordsOf t).toArray, .int .i64 (row.length : Int), row.length⟩) (row.length + 1))
      unfold PlaceAt
      rw [this]
      simp [List.zipIdx_append, entryOf]
    · exact ⟨rfl, rfl, rfl, by simp [Go.ChangeMaps.setBlock], fun i _ hi => Go.ChangeMaps.heap_setBlock_other hp _ (fun e => hi (by rw [e]))⟩
  · exact absurd (List.mem_of_getElem? h2) hnew
end Go.Proofs.Ytkaefgmgcghhiaa.X
end
