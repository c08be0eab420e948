/- Words and walks for the row RowLogicRuns, put together: MC. -/
import Derived.Test.YtobdhdehmkmjcaaRuns11
namespace Go.Proofs.Ytobdhdehmkmjcaa
set_option linter.unusedVariables false
set_option linter.unusedSimpArgs false
open Go Go.RowKit Go.Proofs.YtobdhdehmkmjcaaW.PrintWords Go.Proofs.YtobdhdehmkmjcaaW.PrintLast
theorem mk_wp {P : Program} {ops : Array Oper} {K : Act → World → Prop} {Q : Exit → Act → World → Prop} {a : Act} {w w2 : World} {v : Value} (t x d ty : Nat) (pos : String) (aft) (n : Int) (hx : a.eval (.tmp x) = .int .i64 n) (hrun : (Instr.makeSlice t (.int .i64 n) (.int .i64 n)).run P w = .ok v w2) (hK : K (a.put (some d) v) w2) :
    if Region.wanted { dst := some d, op := Op.makeSlice t (Operand.tmp x) (Operand.tmp x), type := ty, pos := pos, after := aft, guard := none } (yielded ops a.tmps) = true then Oper.wp P { dst := some d, op := Op.makeSlice t (Operand.tmp x) (Operand.tmp x), type := ty, pos := pos, after := aft, guard := none } a w K Q else K (a.put (some d) undef) w := by
  rw [if_pos (by rfl)]
  simp only [Oper.wp]
  go_simp
  have hx' : a.tmps[x]?.getD undef = .int .i64 n := by simpa [Act.eval] using hx
  rw [hx', hrun]
  exact hK
theorem mk22_step {ops : Array Oper} {K : Act → World → Prop} {Q : Exit → Act → World → Prop} {a : Act} {w : World} (B : Nat) (x d ty : Nat) (pos : String) (aft) (n : Nat) (hB : B ≤ w.heap.size) (hn : n ≤ 1000) (hx : a.eval (.tmp x) = .int .i64 (n : Int))
    (hK : ∀ g w2, g = w.heap.size → Below w.heap.size w w2 → w2.ownsRow B 3 1 (.slice (some ⟨g, 0, none⟩) n n) n (nums .i64 (List.replicate n 0)) → K (a.put (some d) (.slice (some ⟨g, 0, none⟩) n n)) w2) :
    if Region.wanted { dst := some d, op := Op.makeSlice 22 (Operand.tmp x) (Operand.tmp x), type := ty, pos := pos, after := aft, guard := none } (yielded ops a.tmps) = true then Oper.wp Try.prog { dst := some d, op := Op.makeSlice 22 (Operand.tmp x) (Operand.tmp x), type := ty, pos := pos, after := aft, guard := none } a w K Q else K (a.put (some d) undef) w := by
  have h1 := make22 n (by omega) w
  have h2 := own_made w B 3 .i64 n hB (by omega)
  have h3 : Below w.heap.size w (w.alloc (.cells (madeCells #[.int .i64 0] n) 3)) := (Below.refl _ _).alloc (Nat.le_refl _) _
  generalize w.alloc (.cells (madeCells #[.int .i64 0] n) 3) = w2 at h1 h2 h3
  have h4 := hK _ w2 rfl h3 h2
  clear hK h2 h3
  with_reducible exact mk_wp 22 x d ty pos aft n hx h1 h4
theorem mk105_step {ops : Array Oper} {K : Act → World → Prop} {Q : Exit → Act → World → Prop} {a : Act} {w : World} (B : Nat) (x d ty : Nat) (pos : String) (aft) (n : Nat) (hB : B ≤ w.heap.size) (hn : n ≤ 1000) (hx : a.eval (.tmp x) = .int .i64 (n : Int))
    (hK : ∀ g w2, g = w.heap.size → Below w.heap.size w w2 → w2.ownsRow B 4 1 (.slice (some ⟨g, 0, none⟩) n n) n (bools (List.replicate n false)) → K (a.put (some d) (.slice (some ⟨g, 0, none⟩) n n)) w2) :
    if Region.wanted { dst := some d, op := Op.makeSlice 105 (Operand.tmp x) (Operand.tmp x), type := ty, pos := pos, after := aft, guard := none } (yielded ops a.tmps) = true then Oper.wp Try.prog { dst := some d, op := Op.makeSlice 105 (Operand.tmp x) (Operand.tmp x), type := ty, pos := pos, after := aft, guard := none } a w K Q else K (a.put (some d) undef) w := by
  have h1 := make105 n (by omega) w
  have h2 := own_made4 w B n hB (by omega)
  have h3 : Below w.heap.size w (w.alloc (.cells (madeCells #[.bool false] n) 4)) := (Below.refl _ _).alloc (Nat.le_refl _) _
  generalize w.alloc (.cells (madeCells #[.bool false] n) 4) = w2 at h1 h2 h3
  have h4 := hK _ w2 rfl h3 h2
  clear hK h2 h3
  with_reducible exact mk_wp 105 x d ty pos aft n hx h1 h4
end Go.Proofs.Ytobdhdehmkmjcaa
