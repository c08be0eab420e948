/- The lists that were seen, in memory. -/
import Derived.Test.YtobdhdehmkmjcaaX4
import Derived.Deep.RegionHeld3
namespace Go.Proofs.Ytobdhdehmkmjcaa
set_option linter.unusedVariables false
set_option linter.unusedSimpArgs false
open Go.RowKit Go.Proofs.YtobdhdehmkmjcaaW.PrintWords Go.Proofs.YtobdhdehmkmjcaaW.PrintLast

def SeenOk (W : World) (b : Nat) (v : Value) (S : List (List Int)) : Prop :=
  S.length ≤ 9223372036854775807 ∧ ∃ cs : List Value, W.ownsRow b 22 1 v S.length cs ∧ ∀ i, i < S.length → W.ownsRow b 3 1 (cs.getD i uV) (S.getD i []).length (nums .i64 (S.getD i []))
theorem SeenOk.below {W W1 : World} {b : Nat} {v : Value} {S : List (List Int)} (h : SeenOk W b v S) (hb : Below W.heap.size W W1) : SeenOk W1 b v S := by
  obtain ⟨h0, cs, h1, h2⟩ := h
  exact ⟨h0, cs, pw_own_below h1 hb, fun i hi => pw_own_below (h2 i hi) hb⟩
theorem seen_new (W : World) (b : Nat) (v : Value) (xs : List Int) (hb : b ≤ W.heap.size) (h : W.ownsRow b 3 1 v xs.length (nums .i64 xs)) : SeenOk (W.alloc (.cells #[v] 22)) b (.slice (some ⟨W.heap.size, 0, none⟩) 1 1) [xs] := by
  refine ⟨by simp, [v], ?_, ?_⟩
  · have := World.ownsRow_lit (base := b) (e := 22) (size := 1) W #[v] 1 hb (by simp [maxLen]) (by simp)
    exact this
  · intro i hi
    obtain rfl : i = 0 := by simpa using hi
    exact h.alloc _
theorem SeenOk.reads {W : World} {b : Nat} {v : Value} {S : List (List Int)} (h : SeenOk W b v S) : ∃ A c, v = .slice A S.length c ∧ ReadsRows W A S.length S := by
  obtain ⟨h0, cs, ⟨h1, h2⟩, h3⟩ := h
  rcases h2 with ⟨rfl, hz⟩ | ⟨g, cap, cur, rfl, hg, hc, hn, hm, hs, ht⟩
  · exact ⟨none, 0, by rw [hz], rfl, h0, fun hp => absurd hp (by omega)⟩
  · refine ⟨some ⟨g, 0, none⟩, cap, rfl, rfl, h0, fun _ => ⟨_, rfl, fun i hi => ?_⟩⟩
    obtain ⟨A, c, e, hr⟩ := own_reads (h3 i hi)
    refine ⟨A, c, ?_, hr⟩
    rw [← e]
    have e1 : (⟨g, 0, none⟩ : Addr).add i = ⟨g, i, none⟩ := by simp [Addr.add]; exact Eq.symm
    rw [e1, blk_cell hc, ← ht]
    have hlt : i < cur.size := by omega
    simp [List.getD_eq_getElem?_getD, List.getElem?_take, hlt, hi]
theorem SeenOk.own {W : World} {b : Nat} {v : Value} {S : List (List Int)} (h : SeenOk W b v S) :
    ∃ cs, W.ownsRow b 22 1 v S.length cs ∧ ∀ Wb w1 v1 vn ys, Below W.heap.size W Wb → Wb.grownBy w1 v.ownBlock → S.length + 1 ≤ 9223372036854775807 → w1.ownsRow b 22 1 v1 (S.length + 1) (cs ++ [vn]) → w1.ownsRow b 3 1 vn ys.length (nums .i64 ys) → SeenOk w1 b v1 (S ++ [ys]) := by
  obtain ⟨h0, cs, h1, h2⟩ := h
  refine ⟨cs, h1, fun Wb w1 v1 vn ys hb hg hm ho hy => ⟨by simpa using hm, cs ++ [vn], by simpa using ho, fun i hi => ?_⟩⟩
  have hcl : cs.length = S.length := by have := h1.1; omega
  by_cases hlt : i < S.length
  · have e1 : (cs ++ [vn]).getD i uV = cs.getD i uV := by simp [List.getD_eq_getElem?_getD, List.getElem?_append_left (show i < cs.length by omega)]
    have e2 : (S ++ [ys]).getD i [] = S.getD i [] := by simp [List.getD_eq_getElem?_getD, List.getElem?_append_left hlt]
    rw [e1, e2]
    exact own_other (pw_own_below (h2 i hlt) hb) hg (own_type_ne (h2 i hlt) h1 (by decide))
  · obtain rfl : i = S.length := by simp at hi; omega
    have e1 : (cs ++ [vn]).getD S.length uV = vn := by simp [List.getD_eq_getElem?_getD, ← hcl]
    have e2 : (S ++ [ys]).getD S.length [] = ys := by simp [List.getD_eq_getElem?_getD]
    rw [e1, e2]
    exact hy
theorem info22 : (Try.prog.info? 22).map (fun i => (i.zero, i.size, i.bytes)) = some (some uV, 1, 24) := by kernel_rfl
theorem make94 (m : Nat) (hn : m * 24 ≤ 281474976710656) (W : World) :
    (Instr.makeSlice 94 (.int .i64 (m : Int)) (.int .i64 (m : Int))).run Try.prog W = .ok (.slice (some ⟨W.heap.size, 0, none⟩) m m) (W.alloc (.cells (madeCells #[uV] m) 22)) := by
  exact run_make_row' 94 22 uV 24 Try.underlying94 info22 rfl .i64 .i64 m (by rw [Nat.mul_comm]; exact hn) (by omega) W
theorem make22 (m : Nat) (hn : m * 8 ≤ 281474976710656) (W : World) :
    (Instr.makeSlice 22 (.int .i64 (m : Int)) (.int .i64 (m : Int))).run Try.prog W = .ok (.slice (some ⟨W.heap.size, 0, none⟩) m m) (W.alloc (.cells (madeCells #[.int .i64 0] m) 3)) :=
  print_make 22 3 .i64 8 Try.underlying22 info3 (by decide) m hn W
end Go.Proofs.Ytobdhdehmkmjcaa
