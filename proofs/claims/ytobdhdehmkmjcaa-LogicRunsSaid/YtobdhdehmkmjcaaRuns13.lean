/- Words and walks for the row RowLogicRuns, put together: MR3, P8. -/
import Derived.Test.YtobdhdehmkmjcaaRuns11
import Derived.Maps.OwnSet
import Derived.Carry
import Derived.Test.YtobdhdehmkmjcaaRuns6
import Derived.Test.YtobdhdehmkmjcaaRuns3
import Derived.Deep.LoopGhost
import Derived.StillTailTactics
namespace Go.Proofs.Ytobdhdehmkmjcaa
set_option linter.unusedVariables false
set_option linter.unusedSimpArgs false
open Go Go.RowKit Go.Proofs.YtobdhdehmkmjcaaW.PrintWords Go.Proofs.YtobdhdehmkmjcaaW.PrintLast

theorem keyed3 : Maps.Keyed Try.prog 3 := Maps.int_keyed Try.underlying3
theorem zero4 (w : World) : (zeroValue 4).run Try.prog w = .ok (.bool false) w := by kernel_rfl
theorem key_int (n : Int) (h : (Lit.int .i64 n).wf = true) : keyOf Try.prog 3 (.int .i64 n) = some (.int .i64 n) := Maps.keyOf_int_mk Try.underlying3 h
theorem wf_nat (n : Nat) (h : n ≤ 1000) : (Lit.int .i64 (n : Int)).wf = true := by
  simp [Lit.wf, IntKind.min, IntKind.max, IntKind.signed, IntKind.bits]
  omega
theorem plainBool_inv {P : Program} {e : TypeId} (he : P.underlying e = some .bool) {v : Value} {x : Bool} {ps : List MemPlace} (h : plainElem (H := Unit) P e v = some (.lit (.bool x), ps)) : v = .bool x := by
  unfold plainElem at h
  rw [he] at h
  cases v <;> simp at h
  rw [h.1]
/-- The map's first k nets are marked as ch says. -/
def MapCh (w : World) (mb nn : Nat) (ch : List Bool) (k : Nat) : Prop := ∃ D : DataW Unit, w.ownsMap Try.prog 3 (plainElem Try.prog 4) mb k D ∧ Maps.Tidy D ∧ (decide (0 < Maps.size D) = (ch.take k).any id) ∧
  ∀ n : Nat, Maps.has D (.int .i64 n) = (decide (n < k) && ch.getD n false) ∧ D.atKey (.int .i64 n) (.lit (.bool false)) = .lit (.bool (decide (n < k) && ch.getD n false))
theorem MapCh.start (w : World) (nn : Nat) (ch : List Bool) : MapCh (w.alloc (.map #[] 0)) w.heap.size nn ch 0 :=
  ⟨.map [], World.ownsMap_made w Try.prog 3 _, Maps.tidy_empty, rfl, fun n => ⟨rfl, rfl⟩⟩
theorem MapCh.kept {w w' : World} {mb nn k : Nat} {ch : List Bool} {row : Option Nat} (h : MapCh w mb nn ch k) (hg : w.grownBy w' row) (hne : some mb ≠ row) : MapCh w' mb nn ch k := by
  obtain ⟨D, h1, h2⟩ := h
  exact ⟨D, h1.kept hg hne, h2⟩
theorem MapCh.blk {w w' : World} {mb nn k : Nat} {ch : List Bool} (h : MapCh w mb nn ch k) (hb : w'.heap[mb]? = w.heap[mb]?) : MapCh w' mb nn ch k := by
  obtain ⟨D, ⟨es, c, h1, h3⟩, h2⟩ := h
  exact ⟨D, ⟨es, c, hb.trans h1, h3⟩, h2⟩
theorem MapCh.lt {w : World} {mb nn k : Nat} {ch : List Bool} (h : MapCh w mb nn ch k) : mb < w.heap.size := by
  obtain ⟨D, h1, h2⟩ := h
  exact h1.lt
theorem MapCh.map {w : World} {mb nn k : Nat} {ch : List Bool} (h : MapCh w mb nn ch k) : ∃ es c, w.heap[mb]? = some (.map es c) := by
  obtain ⟨D, ⟨es, c, h1, h3⟩, h2⟩ := h
  exact ⟨es, c, h1⟩
theorem MapCh.skip {w : World} {mb nn k : Nat} {ch : List Bool} (h : MapCh w mb nn ch k) (hl : k < ch.length) (hf : ch.getD k false = false) : MapCh w mb nn ch (k + 1) := by
  obtain ⟨D, h1, h2, h3, h4⟩ := h
  have hk : ch.take (k + 1) = ch.take k ++ [false] := by
    rw [List.take_succ_eq_append_getElem hl]
    rw [List.getD_eq_getElem?_getD, List.getElem?_eq_getElem hl, Option.getD_some] at hf
    rw [hf]
  have hb : ∀ n : Nat, (decide (n < k + 1) && ch.getD n false) = (decide (n < k) && ch.getD n false) := fun n => by
    by_cases e : n = k
    · subst e; rw [hf]; simp
    · by_cases h5 : n < k
      · rw [decide_eq_true h5, decide_eq_true (by omega : n < k + 1)]
      · rw [decide_eq_false h5, decide_eq_false (by omega : ¬ n < k + 1)]
  refine ⟨D, h1.mono (Nat.le_succ k), h2, ?_, fun n => ?_⟩
  · rw [h3, hk, List.any_append]; simp
  · rw [hb]; exact h4 n
theorem MapCh.put {w : World} {mb nn k : Nat} {ch : List Bool} (h : MapCh w mb nn ch k) (hl : k < ch.length) (h40 : k ≤ 1000) (hf : ch.getD k false = true) :
    ∃ w', (Instr.mapUpdate 138 (.map (some mb)) (.int .i64 k) (.bool true)).run Try.prog w = .ok () w' ∧ MapCh w' mb nn ch (k + 1) ∧ w.grownBy w' (some mb) := by
  obtain ⟨D, h1, h2, h3, h4⟩ := h
  obtain ⟨w', hr, ho, hg⟩ := h1.update keyed3 Try.underlying138 (by unfold maxLen; omega) (key_int _ (wf_nat k h40)) (plainElem_bool Try.underlying4 true)
  have hkl : WideAt.IsKeyLit (Lit.int .i64 (k : Int)) := trivial
  have hk : ch.take (k + 1) = ch.take k ++ [true] := by
    rw [List.take_succ_eq_append_getElem hl]
    rw [List.getD_eq_getElem?_getD, List.getElem?_eq_getElem hl, Option.getD_some] at hf
    rw [hf]
  refine ⟨w', hr, ⟨_, ho, h2.put hkl _, ?_, fun n => ?_⟩, hg⟩
  · rw [Maps.size_put h2, (h4 k).1, decide_eq_false (Nat.lt_irrefl k), hk, List.any_append]
    simp
  · by_cases e : n = k
    · subst e
      rw [Maps.has_put_same h2.isMap hkl, Maps.atKey_put_same h2.isMap hkl, hf, decide_eq_true (Nat.lt_succ_self n)]
      exact ⟨rfl, rfl⟩
    · have hne : (Lit.int .i64 (n : Int)) ≠ (Lit.int .i64 (k : Int)) := fun e2 => by
        injection e2 with _ e2
        omega
      rw [Maps.has_put_other hne, Maps.atKey_put_other hne]
      have hb : (decide (n < k + 1) && ch.getD n false) = (decide (n < k) && ch.getD n false) := by
        by_cases h5 : n < k
        · rw [decide_eq_true h5, decide_eq_true (by omega : n < k + 1)]
        · rw [decide_eq_false h5, decide_eq_false (by omega : ¬ n < k + 1)]
      rw [hb]
      exact h4 n
theorem MapCh.look {w : World} {mb nn : Nat} {ch : List Bool} (h : MapCh w mb nn ch ch.length) (n : Nat) (hn : n ≤ 1000) : (Instr.lookup 138 (.map (some mb)) (.int .i64 n) false).run Try.prog w = .ok (.bool (ch.getD n false)) w := by
  obtain ⟨D, h1, h2, h3, h4⟩ := h
  obtain ⟨v, ps, hr, hv⟩ := h1.lookup keyed3 Try.underlying138 (zero4 w) (plainElem_bool Try.underlying4 false) (key_int _ (wf_nat n hn))
  rw [hr]
  rw [(h4 n).2] at hv
  have hb : (decide (n < ch.length) && ch.getD n false) = ch.getD n false := by
    by_cases h5 : n < ch.length
    · rw [decide_eq_true h5]; rfl
    · rw [List.getD_eq_getElem?_getD, List.getElem?_eq_none (by omega)]; simp
  rw [hb] at hv
  rw [plainBool_inv Try.underlying4 hv]
theorem MapCh.len {w : World} {mb nn k : Nat} {ch : List Bool} (h : MapCh w mb nn ch k) : ∃ c : Nat, (∀ W ty, W.heap[mb]? = w.heap[mb]? → (Builtin.len_ #[138] ty #[.map (some mb)]).run Try.prog W = .ok (.int .i64 c) W) ∧ decide (0 < c) = (ch.take k).any id := by
  obtain ⟨D, ⟨es, c, h1, h5⟩, h2, h3, h4⟩ := h
  exact ⟨Maps.size D, fun W ty hW => World.ownsMap.len (n := k) ⟨es, c, hW.trans h1, h5⟩ Try.underlying138 ty, h3⟩
end Go.Proofs.Ytobdhdehmkmjcaa
namespace Go.Proofs.Ytobdhdehmkmjcaa
set_option linter.unusedVariables false
set_option linter.unusedSimpArgs false
open Go.RowKit Go.Proofs.YtobdhdehmkmjcaaW.PrintWords Go.Proofs.YtobdhdehmkmjcaaW.PrintLast
open Rows0

theorem sources0 (ins : List Int) (out dl : Int) (AI : Option Addr) (ci : Nat) (w : World) :
    Calls Try.prog 103 #[.agg #[.int .i64 0, .slice AI ins.length ci, .int .i64 out, .int .i64 dl]] w fun e w' => e = .returned (.slice none 0 0) ∧ Below w.heap.size w w' := by
  have hB : Below w.heap.size w (w.alloc (.cells #[.int .i64 0, .slice AI ins.length ci, .int .i64 out, .int .i64 dl] 88)) := (Below.refl _ _).alloc (Nat.le_refl _) _
  have HB := Lib.hid hB; clear hB
  go_enter Try.func103, Try.ntmps103
  go_wp2
  go_ret
  exact ⟨rfl, HB.out⟩
theorem sources1 (kd : Int) (ins : List Int) (out dl : Int) (AI : Option Addr) (ci : Nat) (w : World) (h0 : kd ≠ 0) :
    Calls Try.prog 103 #[.agg #[.int .i64 kd, .slice AI ins.length ci, .int .i64 out, .int .i64 dl]] w fun e w' => e = .returned (.slice AI ins.length ci) ∧ Below w.heap.size w w' := by
  have hB : Below w.heap.size w (w.alloc (.cells #[.int .i64 kd, .slice AI ins.length ci, .int .i64 out, .int .i64 dl] 88)) := (Below.refl _ _).alloc (Nat.le_refl _) _
  have HB := Lib.hid hB; clear hB
  have h00 : (kd == 0) = false := by simpa using h0
  clear h0
  go_enter Try.func103, Try.ntmps103
  go_wp2
  go_ret
  exact ⟨rfl, HB.out⟩
theorem sources_any (kd : Int) (ins : List Int) (out dl : Int) (AI : Option Addr) (ci : Nat) (w : World) (hr : ReadsInt w .i64 AI ins.length ins) :
    Calls Try.prog 103 #[.agg #[.int .i64 kd, .slice AI ins.length ci, .int .i64 out, .int .i64 dl]] w fun e w' => (∃ LA ln lc, e = .returned (.slice LA ln lc) ∧ ReadsInt w' .i64 LA ln (if kd = 0 then [] else ins)) ∧ Below w.heap.size w w' := by
  by_cases h0 : kd = 0
  · subst h0
    refine (sources0 ins out dl AI ci w).mono ?_
    rintro e w' ⟨rfl, hb⟩
    exact ⟨⟨none, 0, 0, rfl, rfl, by simp, fun h => by omega⟩, hb⟩
  · refine (sources1 kd ins out dl AI ci w h0).mono ?_
    rintro e w' ⟨rfl, hb⟩
    refine ⟨⟨AI, ins.length, ci, rfl, ?_⟩, hb⟩
    rw [if_neg h0]
    exact hr.below hb

end Go.Proofs.Ytobdhdehmkmjcaa
