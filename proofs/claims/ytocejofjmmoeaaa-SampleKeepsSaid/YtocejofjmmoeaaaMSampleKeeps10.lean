/- Texts of the statement SampleKeeps, one behind the other: Go functions as Lean functions, the machine's calls, the plain law. -/
import Derived.Test.YtocejofjmmoeaaaMSampleKeeps4
import Derived.Test.YtocejofjmmoeaaaMSampleKeeps5
import Derived.Test.YtocejofjmmoeaaaMSampleKeeps8
import Derived.StringKeys
set_option linter.unusedVariables false
set_option linter.unusedSimpArgs false
section
namespace Go.Proofs.Ytocejofjmmoeaaa.X
open Go.RowKit Go.Proofs.YtocejofjmmoeaaaW.PrintWords Go.Proofs.YtocejofjmmoeaaaW.PrintLast Go.Proofs.YtocejofjmmoeaaaW.PrintMore
open Go.Proofs.Ytocejofjmmoeaaa Go.Proofs.Ytocejofjmmoeaaa.Sp
def wordErr (K : Nat) (l : List Int) : Int := if l.length > 4096 then 2 else if ∃ x ∈ l, x < 0 ∨ x ≥ (K : Int) then 10 else 0
theorem wordErr_ok {K : Nat} {l : List Int} (h : wordErr K l = 0) : l.length ≤ 4096 ∧ ∀ x ∈ l, 0 ≤ x ∧ x < (K : Int) := by
  unfold wordErr at h
  by_cases h1 : l.length > 4096
  · rw [if_pos h1] at h; cases h
  · rw [if_neg h1] at h
    by_cases h2 : ∃ x ∈ l, x < 0 ∨ x ≥ (K : Int)
    · rw [if_pos h2] at h; cases h
    · exact ⟨by omega, fun x hx => by
        refine Classical.byContradiction fun h3 => h2 ⟨x, hx, by omega⟩⟩
theorem word_l0 (K : Nat) (l : List Int) (hl : l.length ≤ 4096) : ∀ (d k i : Nat), i + d = l.length → d < k → ∃ a, word_Check.l0 k l (K : Int) (l.length : Int) (i : Int) = some (a, if ∃ x ∈ l.drop i, x < 0 ∨ x ≥ (K : Int) then 10 else 0) := by
  intro d
  induction d with
  | zero =>
    intro k i h hk
    obtain ⟨k, rfl⟩ : ∃ m, k = m + 1 := ⟨k - 1, by omega⟩
    rw [word_Check.l0, if_neg (by omega), List.drop_of_length_le (by omega), if_neg (by simp)]
    exact ⟨_, rfl⟩
  | succ d ih =>
    intro k i h hk
    obtain ⟨k, rfl⟩ : ∃ m, k = m + 1 := ⟨k - 1, by omega⟩
    have hi : i < l.length := by omega
    rw [word_Check.l0, if_pos (by omega), if_pos (by omega), if_pos (by omega), rd_nat hi, List.drop_eq_getElem_cons hi]
    by_cases h1 : l[i] < 0
    · rw [if_pos h1, if_pos ⟨_, List.mem_cons_self, .inl h1⟩]
      exact ⟨_, rfl⟩
    · by_cases h2 : l[i] ≥ (K : Int)
      · rw [if_neg h1, if_pos h2, if_pos ⟨_, List.mem_cons_self, .inr h2⟩]
        exact ⟨_, rfl⟩
      · obtain ⟨a, ha⟩ := ih k (i + 1) (by omega) (by omega)
        rw [if_neg h1, if_neg h2, w64s (by omega), ha]
        refine ⟨a, ?_⟩
        congr 2
        by_cases h3 : ∃ x ∈ l.drop (i + 1), x < 0 ∨ x ≥ (K : Int)
        · obtain ⟨x, hx, h4⟩ := h3
          rw [if_pos ⟨x, hx, h4⟩, if_pos ⟨x, List.mem_cons_of_mem _ hx, h4⟩]
        · rw [if_neg h3, if_neg]
          rintro ⟨x, hx, h4⟩
          rcases List.mem_cons.1 hx with rfl | hx
          · omega
          · exact h3 ⟨x, hx, h4⟩
theorem word_is {K : Nat} {l : List Int} (hK0 : 1 ≤ K) (hK : K ≤ 64) : ∃ a, word_Check.f 5000 l (K : Int) = some (a, wordErr K l) := by
  unfold word_Check.f word_alphabet.f wordErr
  rw [if_pos (by omega), Option.bind_some, if_pos (decide_eq_true (by omega))]
  by_cases h1 : l.length > 4096
  · rw [if_pos (by omega), if_pos h1]
    exact ⟨_, rfl⟩
  · rw [if_neg (by omega), if_neg h1]
    exact word_l0 K l (by omega) l.length 5000 0 (by omega) (by omega)
def spellB (l : List Int) : ByteArray := strOfNums (l.map (· % 256))
theorem spell_l0 (l : List Int) (hl : l.length ≤ 1000000000) : ∀ (d k i : Nat), i + d = l.length → d < k → sample_spell.l0 k ((l.take i).map (· % 256) ++ List.replicate d 0) l (l.length : Int) (i : Int) = some (spellB l) := by
  intro d
  induction d with
  | zero =>
    intro k i h hk
    obtain ⟨k, rfl⟩ : ∃ m, k = m + 1 := ⟨k - 1, by omega⟩
    rw [sample_spell.l0, if_neg (by omega), List.take_of_length_le (by omega), List.replicate_zero, List.append_nil]
    rfl
  | succ d ih =>
    intro k i h hk
    obtain ⟨k, rfl⟩ : ∃ m, k = m + 1 := ⟨k - 1, by omega⟩
    have hlen : (List.map (· % 256) (l.take i)).length = i := by rw [List.length_map, List.length_take]; omega
    have hset : ((l.take i).map (· % 256) ++ List.replicate (d + 1) 0).set i (l[i]'(by omega) % 256) = (l.take (i + 1)).map (· % 256) ++ List.replicate d 0 := by
      rw [List.set_append_right i _ (by omega), hlen, Nat.sub_self, List.replicate_succ, List.set_cons_zero, List.take_succ_eq_append_getElem (by omega), List.map_append, List.append_assoc]
      rfl
    rw [sample_spell.l0, if_pos (by omega), if_pos (by omega), if_pos (by omega), if_pos (by rw [List.length_append, hlen, List.length_replicate]; omega), Int.toNat_natCast, rd_nat (by omega), hset, w64s (by omega)]
    exact ih k (i + 1) (by omega) (by omega)
theorem spell_f (l : List Int) (hl : l.length ≤ 1000000000) : sample_spell.f (l.length + 2) l = some (spellB l) := by
  unfold sample_spell.f
  rw [if_pos (by omega), if_pos (by omega), Int.toNat_natCast]
  have := spell_l0 l hl l.length (l.length + 2) 0 (by omega) (by omega)
  exact this
theorem map_inj_on {α β : Type} {f : α → β} {p : α → Prop} (hf : ∀ x y, p x → p y → f x = f y → x = y) : ∀ (a b : List α), (∀ x ∈ a, p x) → (∀ x ∈ b, p x) → a.map f = b.map f → a = b
  | [], [], _, _, _ => rfl
  | [], _ :: _, _, _, h => by simp at h
  | _ :: _, [], _, _, h => by simp at h
  | x :: a, y :: b, ha, hb, h => by
    rw [List.map_cons, List.map_cons] at h
    injection h with h1 h2
    rw [hf x y (ha _ List.mem_cons_self) (hb _ List.mem_cons_self) h1, map_inj_on hf a b (fun z hz => ha z (List.mem_cons_of_mem _ hz)) (fun z hz => hb z (List.mem_cons_of_mem _ hz)) h2]
theorem spell_inj {a b : List Int} (ha : ∀ x ∈ a, 0 ≤ x ∧ x < 256) (hb : ∀ x ∈ b, 0 ≤ x ∧ x < 256) (h : spellB a = spellB b) : a = b := by
  have h1 : (strOfNums (a.map (· % 256))).data.toList = (strOfNums (b.map (· % 256))).data.toList := by
    show (spellB a).data.toList = (spellB b).data.toList
    rw [h]
  rw [strOfNums_data, strOfNums_data, List.map_map, List.map_map] at h1
  refine map_inj_on (p := fun x : Int => 0 ≤ x ∧ x < 256) (fun x y hx hy e => ?_) a b ha hb h1
  have e1 := congrArg UInt8.toNat e
  simp only [Function.comp] at e1
  rw [UInt8.toNat_ofNat', UInt8.toNat_ofNat'] at e1
  omega
theorem spell_size (l : List Int) : (spellB l).size = l.length := by
  unfold spellB
  rw [strOfNums_size, List.length_map]
theorem Spell_calls (A : Option Addr) (n c : Nat) (l : List Int) (w : World) (h : Kd.C (Kd.int .i64) w A n l) (hc : n ≤ c) (hl : l.length ≤ 1000000000) : Calls Try.prog 36 #[.slice A n c] w fun e w' => e = .returned (.string (spellB l)) ∧ Below w.heap.size w w' := by
  have e := Kd.C_len h
  subst e
  exact sample_spell.calls (l.length + 2) A c l _ w h hc (spell_f l hl)
theorem str_keys : Vm.KeyOk Try.prog 9 Value.string (fun s => s.size ≤ maxLen) where
  keyed := Go.Maps.string_keyed Try.underlying9
  key := fun {a} ha => ⟨_, Go.WideMaps.keyOf_string_mk Try.underlying9 ha⟩
  inj := fun h => by injection h
end Go.Proofs.Ytocejofjmmoeaaa.X
end
