/- Words and walks for the row RowRatLeast, put together: RUH, RWL. -/
import Derived.Test.YthhgjloephkpaaaLe7
import Derived.Test.YthhgjloephkpaaaLe4
namespace Go.Proofs.Ythhgjloephkpaaa
set_option linter.unusedVariables false
set_option linter.unusedSimpArgs false
open Go Go.RowKit Go.Proofs.YthhgjloephkpaaaW.PrintWords Go.Proofs.YthhgjloephkpaaaW.PrintLast
/-- Words as cells. -/
def wc (ls : List Nat) : Array Value := (ls.map fun x : Nat => Value.int .u32 (x : Int)).toArray
theorem wc_at {ls : List Nat} {j : Nat} (h : j < ls.length) : (wc ls)[j]? = some (.int .u32 ((ls.getD j 0 : Nat) : Int)) := by
  unfold wc
  rw [List.getElem?_toArray, List.getElem?_map, List.getElem?_eq_getElem h, List.getD_eq_getElem?_getD, List.getElem?_eq_getElem h]; rfl
theorem wc_size (ls : List Nat) : (wc ls).size = ls.length := by unfold wc; simp
theorem wc_set {ls : List Nat} {j x : Nat} (h : j < ls.length) : ((wc ls).toList.take j ++ [Value.int .u32 (x : Int)] ++ (wc ls).toList.drop (j + 1)).toArray = wc (ls.set j x) := by
  unfold wc
  congr 1
  rw [List.map_set]
  apply List.ext_getElem?
  intro k
  simp only [List.getElem?_append, List.length_append, List.length_take, List.length_map, List.getElem?_take, List.getElem?_drop, List.getElem?_map, List.length_singleton, List.getElem?_set]
  rcases Nat.lt_trichotomy k j with h1 | h1 | h1
  · simp [h1, show k < min j ls.length by omega, show k < min j ls.length + 1 by omega, show ¬ j = k by omega]
  · subst h1; simp [h, Nat.min_eq_left (Nat.le_of_lt h)]
  · simp [show ¬ k < min j ls.length + 1 by omega, show ¬ j = k by omega, Nat.min_eq_left (Nat.le_of_lt h), show j + 1 + (k - (j + 1)) = k by omega]
    intro hk; omega
theorem wds_wc {w : World} {g : Nat} {ls : List Nat} {t : TypeId} (h : w.heap[g]? = some (.cells (wc ls) t (0, 0))) (hm : ls.length ≤ 9223372036854775807) : Wds w (some ⟨g, 0, none⟩) ls.length ls.length ls := by
  refine ⟨⟨us_len ls, hm, fun _ => ⟨⟨g, 0, none⟩, rfl, fun j hj => ?_⟩⟩, Nat.le_refl _⟩
  have hadd : (⟨g, 0, none⟩ : Addr).add j = ⟨g, j, none⟩ := by unfold Addr.add; split <;> simp_all
  rw [hadd, cell_of_row w g j _ t (0, 0) h, wc_at hj, us_at]
/-- A window of a buffer. -/
theorem wds_win {w : World} {g o n c : Nat} {ls : List Nat} {t : TypeId} (h : w.heap[g]? = some (.cells (wc ls) t (0, 0))) (hl : o + n ≤ ls.length) (hm : ls.length ≤ 9223372036854775807) (hc : n ≤ c) : Wds w (some ⟨g, o, none⟩) n c ((ls.drop o).take n) := by
  have hlen : ((ls.drop o).take n).length = n := by rw [List.length_take, List.length_drop]; omega
  refine ⟨⟨by rw [us_len, hlen], by omega, fun _ => ⟨⟨g, o, none⟩, rfl, fun j hj => ?_⟩⟩, hc⟩
  have hadd : (⟨g, o, none⟩ : Addr).add j = ⟨g, o + j, none⟩ := by unfold Addr.add; split <;> simp_all
  rw [hadd, cell_of_row w g _ _ t (0, 0) h, wc_at (by omega), us_at]
  congr 3
  rw [List.getD_eq_getElem?_getD, List.getD_eq_getElem?_getD, List.getElem?_take_of_lt hj, List.getElem?_drop]
theorem Wds.cellA {w : World} {ad : Addr} {n c : Nat} {l : List Nat} (h : Wds w (some ad) n c l) {j : Nat} (hj : j < n) : w.cell? (ad.add j) = some (.int .u32 ((l.getD j 0 : Nat) : Int)) := by
  obtain ⟨a, e, hc⟩ := h.at_ j hj
  injection e with e
  subst e
  exact hc
theorem Wds.some_ {w : World} {A : Option Addr} {n c : Nat} {l : List Nat} (h : Wds w A n c l) (hn : 0 < n) : ∃ ad, A = some ad := by
  obtain ⟨a, e, _⟩ := h.at_ 0 hn; exact ⟨a, e⟩
section
variable {Q : Exit → Act → World → Prop} {o : Oper} {a : Act} {w w0 : World} {K : Act → World → Prop} {L : List Bx}
theorem made_wc (m : Nat) : madeCells #[.int .u32 0] m = wc (List.replicate m 0) := by
  apply Array.ext
  · simp [madeCells, wc]
  · intro i h1 h2
    simp [madeCells, wc, Nat.mod_one]
theorem o_make36 {x y : Operand} (m : Nat) (ho : o.op = .makeSlice 36 x y) (hx : a.eval x = .int .i64 (m : Int)) (hy : a.eval y = .int .i64 (m : Int)) (hm : m ≤ 10000000000) (hs : St w0 w L)
    (h : ∀ g w', St w0 w' (⟨g, wc (List.replicate m 0), 100⟩ :: L) → U w w' → K (a.put o.dst (.slice (some ⟨g, 0, none⟩) m m)) w') : o.wp Try.prog a w K Q := by
  have hr : (execOp a.eval o).run Try.prog w = .ok (.value (.slice (some ⟨w.heap.size, 0, none⟩) m m)) (w.alloc (.cells (wc (List.replicate m 0)) 100)) := by
    unfold execOp
    simp only [ho, hx, hy]
    rw [Sem.run_bind, make36 m hm w, made_wc]
    rfl
  unfold Oper.wp
  rw [hr]
  exact h w.heap.size _ (hs.box _ 100) (U.box w _)
theorem run_loadB {x : Operand} {g j : Nat} {ls : List Nat} {t : TypeId} (ho : o.op = .load 100 x) (hx : a.eval x = .pointer (some ⟨g, j, none⟩)) (hb : w.heap[g]? = some (.cells (wc ls) t (0, 0))) (hj : j < ls.length) : (execOp a.eval o).run Try.prog w = .ok (.value (.int .u32 ((ls.getD j 0 : Nat) : Int))) w :=
  run_load1 _ ho hx hb (wc_at hj) (ag100 w)
theorem o_stB {x y : Operand} {g j : Nat} (i : Nat) {ls : List Nat} (v : Nat) (L' : List Bx) (ho : o.op = .store 100 x y) (hx : a.eval x = .pointer (some ⟨g, j, none⟩)) (hy : a.eval y = .int .u32 (v : Int)) (hs : St w0 w L)
    (hi : L[i]? = some ⟨g, wc ls, 100⟩) (hj : j < ls.length) (hL : L.set i ⟨g, wc (ls.set j v), 100⟩ = L')
    (h : ∀ w', St w0 w' L' → K (a.put o.dst undef) w') : o.wp Try.prog a w K Q := by
  have hr := run_storeCells_at (P := Try.prog) g j 100 [.int .u32 (v : Int)] 0 (wc ls) w (hs.at_ _ (List.mem_of_getElem? hi)) (by rw [wc_size, List.length_singleton]; omega) (by simp [Value.oneCell'])
  simp only [Nat.add_zero, List.length_singleton, wc_set hj] at hr
  unfold Oper.wp execOp
  simp only [ho, hx, Instr.storeAt, Instr.sureAddr, Sem.run_bind, Sem.run_pure, Result.andThen_ok, storeVar, hy, Value.cells, List.size_toArray, List.length_singleton, sz100, ne_eq, not_true_eq_false, if_false, hr]
  subst hL
  exact h _ (hs.put i _ hi _)
theorem run_loadWin {x : Operand} {g j : Nat} {pre wl post : List Nat} {t : TypeId} (ho : o.op = .load 100 x) (hx : a.eval x = .pointer (some ⟨g, pre.length + j, none⟩)) (hb : w.heap[g]? = some (.cells (wc (pre ++ wl ++ post)) t (0, 0))) (hj : j < wl.length) : (execOp a.eval o).run Try.prog w = .ok (.value (.int .u32 ((wl.getD j 0 : Nat) : Int))) w := by
  rw [← win_at pre wl post j hj]
  exact run_loadB ho hx hb (by simp; omega)
theorem o_stWin {x y : Operand} {g j : Nat} (i : Nat) {pre wl post : List Nat} (v : Nat) (L' : List Bx) (ho : o.op = .store 100 x y) (hx : a.eval x = .pointer (some ⟨g, pre.length + j, none⟩)) (hy : a.eval y = .int .u32 (v : Int)) (hs : St w0 w L)
    (hi : L[i]? = some ⟨g, wc (pre ++ wl ++ post), 100⟩) (hj : j < wl.length) (hL : L.set i ⟨g, wc (pre ++ wl.set j v ++ post), 100⟩ = L')
    (h : ∀ w', St w0 w' L' → K (a.put o.dst undef) w') : o.wp Try.prog a w K Q :=
  o_stB i v L' ho hx hy hs hi (by simp; omega) (by rw [win_set _ _ _ _ _ hj]; exact hL) h
theorem run_idx {x y : Operand} {t : TypeId} {b : Addr} {n c j : Nat} (ho : o.op = .indexAddr 36 x y) (hx : a.eval x = .slice (some b) n c) (hy : a.eval y = .int .i64 (j : Int)) (hj : j < n) : (execOp a.eval o).run Try.prog w = .ok (.value (.pointer (some (b.add j)))) w := by
  have h0 : (0 : Int) ≤ (j : Int) ∧ (j : Int) < (n : Int) := ⟨by omega, by omega⟩
  unfold execOp
  simp only [ho, hx, hy]
  simp [go_sem, h0]
theorem run_idxB {x y : Operand} {g n c j : Nat} (ho : o.op = .indexAddr 36 x y) (hx : a.eval x = .slice (some ⟨g, 0, none⟩) n c) (hy : a.eval y = .int .i64 (j : Int)) (hj : j < n) : (execOp a.eval o).run Try.prog w = .ok (.value (.pointer (some ⟨g, j, none⟩))) w := by
  have h := run_idx (t := 36) (w := w) ho hx hy hj
  rwa [show (⟨g, 0, none⟩ : Addr).add j = ⟨g, j, none⟩ from by unfold Addr.add; split <;> simp_all] at h
theorem run_idxW {x y : Operand} {g k n c j : Nat} (ho : o.op = .indexAddr 36 x y) (hx : a.eval x = .slice (some ⟨g, k, none⟩) n c) (hy : a.eval y = .int .i64 (j : Int)) (hj : j < n) : (execOp a.eval o).run Try.prog w = .ok (.value (.pointer (some ⟨g, k + j, none⟩))) w := by
  have h := run_idx (t := 36) (w := w) ho hx hy hj
  rwa [show (⟨g, k, none⟩ : Addr).add j = ⟨g, k + j, none⟩ from by unfold Addr.add; split <;> simp_all] at h
end

/-! ### Words: conversions and arithmetic on natural numbers -/
section
variable {o : Oper} {a : Act} {w : World} {x y : Operand}
theorem conv_raw (s d : TypeId) (k k2 : IntKind) (n : Int) (hs : (Try.prog.underlying s).isSome = true) (hd : Try.prog.underlying d = some (.int k2)) : (convert s d (.int k n)).run Try.prog w = .ok (.int k2 (k2.wrap n)) w := by
  obtain ⟨d', hd'⟩ := Option.isSome_iff_exists.mp hs
  simp [convert, run_underlying hd', run_underlying hd, Conv.intToInt]
theorem run_cv {s d : TypeId} {k k2 : IntKind} {z : Int} (z2 : Int) (ho : o.op = .convert s d x) (hx : a.eval x = .int k z) (hs : (Try.prog.underlying s).isSome = true) (hd : Try.prog.underlying d = some (.int k2)) (hz : k2.wrap z = z2) : (execOp a.eval o).run Try.prog w = .ok (.value (.int k2 z2)) w := by
  unfold execOp
  simp only [ho, hx]
  rw [Sem.run_bind, conv_raw s d k k2 z hs hd, hz]
  rfl
theorem wrap_u64 {n : Nat} (h : n < 18446744073709551616) : IntKind.u64.wrap (n : Int) = (n : Int) := wrap64 h
theorem wrap_u32 {n : Nat} : IntKind.u32.wrap (n : Int) = ((n % BW : Nat) : Int) := by rw [IntKind.wrap_u32, BW_eq]; omega
theorem wrap_i64 {n : Nat} (h : n < 9223372036854775808) : IntKind.i64.wrap (n : Int) = (n : Int) := by rw [IntKind.wrap_i64]; omega
end
set_option maxRecDepth 100000
section
variable {w : World}
theorem bin_quo_104 (x y : Operand) (b c : Int) (hc : c ≠ 0) : (do eqGuard .quo 104 x y (.int .u64 b) (.int .u64 c); binOp .quo 104 (.int .u64 b) (.int .u64 c) : Sem Value).run Try.prog w = .ok (.int .u64 (IntKind.u64.wrap (b.tdiv c))) w := by simp [go_sem, hc]
theorem bin_rem_104 (x y : Operand) (b c : Int) (hc : c ≠ 0) : (do eqGuard .rem 104 x y (.int .u64 b) (.int .u64 c); binOp .rem 104 (.int .u64 b) (.int .u64 c) : Sem Value).run Try.prog w = .ok (.int .u64 (b.tmod c)) w := by simp [go_sem, hc]
theorem bin_quo_2 (x y : Operand) (b c : Int) (hc : c ≠ 0) : (do eqGuard .quo 2 x y (.int .i64 b) (.int .i64 c); binOp .quo 2 (.int .i64 b) (.int .i64 c) : Sem Value).run Try.prog w = .ok (.int .i64 (IntKind.i64.wrap (b.tdiv c))) w := by simp [go_sem, hc]
theorem bin_rem_2 (x y : Operand) (b c : Int) (hc : c ≠ 0) : (do eqGuard .rem 2 x y (.int .i64 b) (.int .i64 c); binOp .rem 2 (.int .i64 b) (.int .i64 c) : Sem Value).run Try.prog w = .ok (.int .i64 (b.tmod c)) w := by simp [go_sem, hc]
theorem bin_rem_3 (x y : Operand) (b c : Int) (hc : c ≠ 0) : (do eqGuard .rem 3 x y (.int .i64 b) (.int .i64 c); binOp .rem 3 (.int .i64 b) (.int .i64 c) : Sem Value).run Try.prog w = .ok (.int .i64 (b.tmod c)) w := by simp [go_sem, hc]
theorem bin_shl_104_u64 (x y : Operand) (b : Int) (n : Nat) : (do eqGuard .shl 104 x y (.int .u64 b) (.int .u64 (n : Int)); binOp .shl 104 (.int .u64 b) (.int .u64 (n : Int)) : Sem Value).run Try.prog w = .ok (.int .u64 (IntKind.u64.wrap (b * 2 ^ (min n 64)))) w := by simp [go_sem]
theorem bin_shr_104_u64 (x y : Operand) (b : Int) (n : Nat) : (do eqGuard .shr 104 x y (.int .u64 b) (.int .u64 (n : Int)); binOp .shr 104 (.int .u64 b) (.int .u64 (n : Int)) : Sem Value).run Try.prog w = .ok (.int .u64 (b / 2 ^ (min n 64))) w := by simp [go_sem]
theorem bin_or_104 (x y : Operand) (b c : Int) : (do eqGuard .or 104 x y (.int .u64 b) (.int .u64 c); binOp .or 104 (.int .u64 b) (.int .u64 c) : Sem Value).run Try.prog w = .ok (.int .u64 (bits BinOp.or IntKind.u64 b c)) w := by simp [go_sem]
theorem bin_shl_100_u64 (x y : Operand) (b : Int) (n : Nat) : (do eqGuard .shl 100 x y (.int .u32 b) (.int .u64 (n : Int)); binOp .shl 100 (.int .u32 b) (.int .u64 (n : Int)) : Sem Value).run Try.prog w = .ok (.int .u32 (IntKind.u32.wrap (b * 2 ^ (min n 32)))) w := by simp [go_sem]
theorem bin_shr_100_u64 (x y : Operand) (b : Int) (n : Nat) : (do eqGuard .shr 100 x y (.int .u32 b) (.int .u64 (n : Int)); binOp .shr 100 (.int .u32 b) (.int .u64 (n : Int)) : Sem Value).run Try.prog w = .ok (.int .u32 (b / 2 ^ (min n 32))) w := by simp [go_sem]
theorem bin_or_100 (x y : Operand) (b c : Int) : (do eqGuard .or 100 x y (.int .u32 b) (.int .u32 c); binOp .or 100 (.int .u32 b) (.int .u32 c) : Sem Value).run Try.prog w = .ok (.int .u32 (bits BinOp.or IntKind.u32 b c)) w := by simp [go_sem]
theorem bin_gtr_106 (x y : Operand) (b c : Int) : (do eqGuard .gtr 106 x y (.int .u64 b) (.int .u64 c); binOp .gtr 106 (.int .u64 b) (.int .u64 c) : Sem Value).run Try.prog w = .ok (.bool (decide (c < b))) w := by rfl
theorem bin_sub_106 (x y : Operand) (b c : Int) : (do eqGuard .sub 106 x y (.int .u64 b) (.int .u64 c); binOp .sub 106 (.int .u64 b) (.int .u64 c) : Sem Value).run Try.prog w = .ok (.int .u64 (IntKind.u64.wrap (b - c))) w := by rfl
theorem bin_mul_106 (x y : Operand) (b c : Int) : (do eqGuard .mul 106 x y (.int .u64 b) (.int .u64 c); binOp .mul 106 (.int .u64 b) (.int .u64 c) : Sem Value).run Try.prog w = .ok (.int .u64 (IntKind.u64.wrap (b * c))) w := by rfl
end
end Go.Proofs.Ythhgjloephkpaaa
namespace Go.Proofs.Ythhgjloephkpaaa
set_option linter.unusedVariables false
set_option linter.unusedSimpArgs false
open Go Go.RowKit Go.Proofs.YthhgjloephkpaaaW.PrintWords Go.Proofs.YthhgjloephkpaaaW.PrintLast
theorem vnat {k : IntKind} {m n : Nat} (h : m = n) : Value.int k (m : Int) = Value.int k (n : Int) := by rw [h]
theorem vint {k : IntKind} {x y : Int} (h : x = y) : Value.int k x = Value.int k y := by rw [h]
theorem w_shl32 {a : Nat} (h : a < 4294967296) : IntKind.u64.wrap (((a : Nat) : Int) * 2 ^ (min 32 64)) = ((a * BW : Nat) : Int) := by
  rw [show (((a : Nat) : Int) * 2 ^ (min 32 64)) = ((a * BW : Nat) : Int) from by rw [Int.natCast_mul]; rfl]
  exact wrap64 (by rw [BW_eq]; omega)
theorem w_shr32 {a : Nat} : ((a : Nat) : Int) / 2 ^ (min 32 64) = ((a / BW : Nat) : Int) := by
  rw [Int.natCast_ediv]; rfl
theorem w_shr63 {a : Nat} : ((a : Nat) : Int) / 2 ^ (min 63 64) = ((a / 9223372036854775808 : Nat) : Int) := by
  rw [Int.natCast_ediv]; rfl
theorem head_or {a b : Nat} (ha : a < BW) (hb : b < BW) : bits .or .u64 (((a * BW : Nat) : Int)) ((b : Nat) : Int) = ((a * BW + b : Nat) : Int) := by
  have h1 : a * BW < 18446744073709551616 := by rw [BW_eq] at *; omega
  rw [bits_or_u64_nat _ _ h1 (by rw [BW_eq] at hb; omega)]
  congr 1
  rw [Nat.or_comm, show a * BW = 2 ^ 32 * a by rw [Nat.mul_comm]; rfl]
  have := or_add (s := 32) (o := b) (q := a) hb
  omega
theorem w_quo {m n : Nat} (h : m < 18446744073709551616) : IntKind.u64.wrap (((m : Nat) : Int).tdiv ((n : Nat) : Int)) = ((m / n : Nat) : Int) := by
  rw [Int.tdiv_eq_ediv_of_nonneg (by omega), ← Int.natCast_ediv]
  exact wrap64 (Nat.lt_of_le_of_lt (Nat.div_le_self _ _) h)
theorem w_rem {m n : Nat} : (((m : Nat) : Int).tmod ((n : Nat) : Int)) = ((m % n : Nat) : Int) := by
  rw [Int.tmod_eq_emod_of_nonneg (by omega), ← Int.natCast_emod]
theorem w_mul {m n : Nat} (h : m * n < 18446744073709551616) : IntKind.u64.wrap (((m : Nat) : Int) * ((n : Nat) : Int)) = ((m * n : Nat) : Int) := by
  rw [← Int.natCast_mul]; exact wrap64 h
theorem w_add {m n : Nat} (h : m + n < 18446744073709551616) : IntKind.u64.wrap (((m : Nat) : Int) + ((n : Nat) : Int)) = ((m + n : Nat) : Int) := by
  rw [← Int.natCast_add]; exact wrap64 h
theorem w_sub {m n : Nat} (h : n ≤ m) (h2 : m < 18446744073709551616) : IntKind.u64.wrap (((m : Nat) : Int) - ((n : Nat) : Int)) = ((m - n : Nat) : Int) := by
  rw [← Int.natCast_sub h]; exact wrap64 (by omega)
/-- A difference that may wrap round. -/
theorem w_subw {m n : Nat} (h : m < 18446744073709551616) (h2 : n < 18446744073709551616) : IntKind.u64.wrap (((m : Nat) : Int) - ((n : Nat) : Int)) = (((m + (18446744073709551616 - n)) % 18446744073709551616 : Nat) : Int) := by
  rw [wrap64i]; omega
theorem i_add {m n : Nat} (h2 : m + n < 9223372036854775808) : IntKind.i64.wrap (((m : Nat) : Int) + ((n : Nat) : Int)) = ((m + n : Nat) : Int) := by
  rw [IntKind.wrap_i64]; omega
theorem mul_lt64 {a b : Nat} (ha : a < BW) (hb : b < BW) : a * b < 18446744073709551616 := by
  have h1 : a * b ≤ (BW - 1) * (BW - 1) := Nat.mul_le_mul (by omega) (by omega)
  rw [show (BW - 1) * (BW - 1) = 18446744065119617025 from rfl] at h1
  omega
theorem muladd_lt64 {a b c : Nat} (ha : a < BW) (hb : b < BW) (hc : c < BW) : c + a * b < 18446744073709551616 ∧ (c + a * b) / BW < BW := by
  have h1 : a * b ≤ (BW - 1) * (BW - 1) := Nat.mul_le_mul (by omega) (by omega)
  rw [show (BW - 1) * (BW - 1) = 18446744065119617025 from rfl] at h1
  rw [BW_eq] at *
  constructor <;> omega
/-- One word taken away with what was borrowed. -/
theorem take_word {x lo br : Nat} (hx : x < BW) (hlo : lo < BW) (hbr : br ≤ 1) :
    let d1 := (x + (18446744073709551616 - lo)) % 18446744073709551616
    let d := (d1 + (18446744073709551616 - br)) % 18446744073709551616
    d % BW < BW ∧ d / 9223372036854775808 ≤ 1 ∧ x + BW * (d / 9223372036854775808) = d % BW + lo + br := by
  rw [BW_eq] at *
  refine ⟨by omega, by omega, by omega⟩
theorem run_min {o : Oper} {ρ : Operand → Value} {w : World} {x y : Operand} {m n : Nat} (ho : o.op = .call { callee := .builtin .min, args := #[x, y], argTypes := #[104, 104] }) (hx : ρ x = .int .u64 (m : Int)) (hy : ρ y = .int .u64 (n : Int)) : (execOp ρ o).run Try.prog w = .ok (.value (.int .u64 ((Nat.min m n : Nat) : Int))) w := by
  have h : ∀ (ats : Array TypeId) (ty : TypeId), Builtin.min_ ats ty #[.int .u64 (m : Int), .int .u64 (n : Int)] = pure (.int .u64 ((Nat.min m n : Nat) : Int)) := by
    intro ats ty
    simp only [Builtin.min_, List.foldlM_cons, List.foldlM_nil, Builtin.min2, gt_iff_lt]
    by_cases h : (n : Int) < (m : Int)
    · rw [if_pos h]; rw [show Nat.min m n = n from Nat.min_eq_right (by omega)]; rfl
    · rw [if_neg h]; rw [show Nat.min m n = m from Nat.min_eq_left (by omega)]; rfl
  simp [execOp, ho, hx, hy, go_sem, h]
end Go.Proofs.Ythhgjloephkpaaa
