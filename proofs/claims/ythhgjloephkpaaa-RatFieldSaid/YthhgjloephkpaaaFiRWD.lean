/- Words and walks for the row RowRatField, put together: RWD. -/
import Derived.Test.YthhgjloephkpaaaFi5
import Derived.Test.YthhgjloephkpaaaFi4
namespace Go.Proofs.Ythhgjloephkpaaa
set_option linter.unusedVariables false
set_option linter.unusedSimpArgs false
open Go Go.RowKit Go.Proofs.YthhgjloephkpaaaW.PrintWords Go.Proofs.YthhgjloephkpaaaW.PrintLast
theorem wanted_off {o : Oper} {f : Nat → Option Bool} {i : Nat} {b c : Bool} (hg : o.guard = some (i, b)) (hf : f i = some c) (hc : (c == b) = false) : Region.wanted o f = false := by
 unfold Region.wanted
 rw [hg]
 simp only [hf]
 cases c <;> cases b <;> first | rfl | cases hc
theorem then_ret {K : Act → World → Prop} {Q : Exit → Act → World → Prop} {a : Act} {w : World} (h : Q .ret a w) : Exit.then K Q .ret a w := h
theorem inBlock_ret {n : Nat} {Q : Exit → Act → World → Prop} {a : Act} {w : World} (h : Q .ret a w) : Exit.inBlock n Q .ret a w := h
theorem guess_sub {q v1 r hd : Nat} (h0 : 0 < q) (h : q * v1 + r = hd) : (q - 1) * v1 + (r + v1) = hd := by
 obtain ⟨p, rfl⟩ : ∃ p, q = p + 1 := ⟨q - 1, by omega⟩
 rw [Nat.add_mul, Nat.one_mul] at h
 rw [Nat.add_sub_cancel]; omega
theorem word_sub {wl yl cur : List Nat} {k q cy br j : Nat} (hwl : wl.length = k + 1) (hyl : yl.length = k) (hj : j = k + 1) (hI : cur.length = wl.length ∧ Dig cur ∧ (∀ i, j ≤ i → cur.getD i 0 = wl.getD i 0) ∧ val (cur.take j) + q * val (yl.take j) = val (wl.take j) + BW ^ j * (cy + br)) :
  val cur + q * val yl = val wl + BW ^ (k + 1) * (cy + br) := by
 subst hj
 have h := hI.2.2.2
 rwa [val_take_le (by omega), val_take_le (by omega), val_take_le (by omega)] at h
end Go.Proofs.Ythhgjloephkpaaa
