/- Words and walks for the row RowRatLeast, put together: RQL, RQH, RQA, RQK, RQV. -/
import Derived.Test.YthhgjloephkpaaaLeRWD
import Derived.Test.YthhgjloephkpaaaLe4
import Derived.Test.YthhgjloephkpaaaLeRZC
import Derived.Test.YthhgjloephkpaaaLe11
import Derived.Test.YthhgjloephkpaaaLe6
namespace Go.Proofs.Ythhgjloephkpaaa
set_option linter.unusedVariables false
set_option linter.unusedSimpArgs false
open Go Go.RowKit Go.Proofs.YthhgjloephkpaaaW.PrintWords Go.Proofs.YthhgjloephkpaaaW.PrintLast
/-- What goes over into word i in a shift to the left. -/
def cr (B : List Nat) (s : Nat) : Nat → Nat
  | 0 => 0
  | i + 1 => B.getD i 0 / 2 ^ (32 - s)
theorem cr_lt {B : List Nat} {s i : Nat} (hs : s ≤ 31) (hB : Dig B) : cr B s i < 2 ^ s := by
  cases i with
  | zero => exact Nat.two_pow_pos s
  | succ i =>
    obtain ⟨_, e2, h3, _⟩ := shl_parts (a := B.getD i 0) (by omega : s ≤ 32) (hB.at_ i)
    show B.getD i 0 / 2 ^ (32 - s) < 2 ^ s
    rw [← e2]; exact h3
/-- One word of a shift to the left, with what comes over. -/
theorem shl_word {B ls : List Nat} {i s b v : Nat} (hs : s ≤ 31) (hB : Dig B) (hd : Dig ls) (hi : i < ls.length) (hb : B.getD i 0 = b)
    (hv : val (ls.take i) + BW ^ i * cr B s i = val (B.take i) * 2 ^ s) (he : v = b * 2 ^ s % BW + cr B s i) :
    v < BW ∧ Dig (ls.set i v) ∧ val ((ls.set i v).take (i + 1)) + BW ^ (i + 1) * cr B s (i + 1) = val (B.take (i + 1)) * 2 ^ s := by
  subst hb he
  obtain ⟨_, h1, h2, _, h4⟩ := shl_step hs hB hd hi (cr_lt hs hB) hv
  obtain ⟨_, e2, _, _⟩ := shl_parts (a := B.getD i 0) (by omega : s ≤ 32) (hB.at_ i)
  rw [e2] at h4
  exact ⟨h1, h2, h4⟩
theorem or_cr {B : List Nat} {i s a : Nat} (hs : s ≤ 31) (hB : Dig B) (ha : a < BW) : (a * 2 ^ s % BW ||| cr B s i) = a * 2 ^ s % BW + cr B s i ∧ a * 2 ^ s % BW + cr B s i < BW := by
  obtain ⟨e1, _, _, h4⟩ := shl_parts (a := a) (by omega : s ≤ 32) ha
  have hc := cr_lt (i := i) hs hB
  refine ⟨by rw [e1, Nat.or_comm, or_sum hc]; omega, by omega⟩
theorem cr_s0 {B : List Nat} {i s : Nat} (hB : Dig B) (hs : s = 0) : cr B s i = 0 := by
  subst hs
  cases i with
  | zero => rfl
  | succ i => exact Nat.div_eq_of_lt (hB.at_ i)
theorem cr_ge {B : List Nat} {i s : Nat} (h : B.length ≤ i) : cr B s (i + 1) = 0 := by
  show B.getD i 0 / 2 ^ (32 - s) = 0
  rw [getD_ge h]; exact Nat.zero_div _
theorem bits_or32 {a b : Nat} (ha : a < BW) (hb : b < BW) : bits .or .u32 ((a : Nat) : Int) ((b : Nat) : Int) = ((a ||| b : Nat) : Int) := by
  rw [BW_eq] at *
  exact bits_or_u32_nat _ _ ha hb
theorem w_shl_32 {a s : Nat} : IntKind.u32.wrap (((a : Nat) : Int) * 2 ^ (min s 32)) = ((a * 2 ^ (min s 32) % BW : Nat) : Int) := by
  rw [show (((a : Nat) : Int) * 2 ^ (min s 32)) = ((a * 2 ^ (min s 32) : Nat) : Int) from by rw [Int.natCast_mul]; rfl]
  rw [IntKind.wrap_u32, BW_eq]; omega
theorem w_shr_s32 {a s : Nat} : ((a : Nat) : Int) / 2 ^ (min s 32) = ((a / 2 ^ (min s 32) : Nat) : Int) := by
  rw [Int.natCast_ediv]; rfl
/-- The shifted divisor has no more words. -/
theorem cr_top {B ls : List Nat} {k s : Nat} (hl : ls.length = k) (hB : B.length = k) (hd : Dig ls) (hv : val (ls.take k) + BW ^ k * cr B s k = val (B.take k) * 2 ^ s) (hlt : val B * 2 ^ s < BW ^ k) : val ls = val B * 2 ^ s := by
  rw [val_take_le (by omega), val_take_le (by omega)] at hv
  have h0 : cr B s k = 0 := by
    rcases Nat.eq_zero_or_pos (cr B s k) with h | h
    · exact h
    · have : BW ^ k * 1 ≤ BW ^ k * cr B s k := Nat.mul_le_mul_left _ h
      omega
  rw [h0, Nat.mul_zero, Nat.add_zero] at hv; exact hv
theorem cr_end {B ls : List Nat} {n s : Nat} (hl : ls.length = n + 1) (hB : B.length = n) (hv : val (ls.take (n + 1)) + BW ^ (n + 1) * cr B s (n + 1) = val (B.take (n + 1)) * 2 ^ s) : val ls = val B * 2 ^ s := by
  rw [val_take_le (by omega), val_take_le (by omega), cr_ge (by omega), Nat.mul_zero, Nat.add_zero] at hv
  exact hv
/-- The highest word of the window is at most the divisor's. -/
theorem Guess.head_lt {x y head v1 v2 u0 P : Nat} (h : Guess x y head v1 v2 u0 P) : head < v1 * BW + BW := by
  have h1 := h.hx
  have h2 := h.lt
  have h3 := h.hy2
  have h4 : BW * y < BW * ((v1 * BW + v2 + 1) * P) := Nat.mul_lt_mul_of_pos_left h3 BW_pos
  have h5 : (head * BW + u0) * P < (BW * (v1 * BW + v2 + 1)) * P := by rw [Nat.mul_assoc]; omega
  have h6 := Nat.lt_of_mul_lt_mul_right h5
  have h7 : BW * (v1 * BW + v2 + 1) ≤ BW * (v1 * BW + BW) := Nat.mul_le_mul_left _ (by have := h.hv2; omega)
  have h8 : head * BW < (v1 * BW + BW) * BW := by rw [Nat.mul_comm (v1 * BW + BW)]; omega
  exact Nat.lt_of_mul_lt_mul_right h8
/-- With a rest of a word and more the guess is below a word. -/
theorem Guess.big_rest {x y head v1 v2 u0 P q r : Nat} (h : Guess x y head v1 v2 u0 P) (hr : q * v1 + r = head) (hb : BW ≤ r) : q < BW := by
  have h1 := h.head_lt
  have h2 : q * v1 < BW * v1 := by rw [Nat.mul_comm BW]; omega
  exact Nat.lt_of_mul_lt_mul_right h2
theorem Guess.q_le {x y head v1 v2 u0 P q r : Nat} (h : Guess x y head v1 v2 u0 P) (hv : 2147483648 ≤ v1) (hr : q * v1 + r = head) : q ≤ BW + 1 := by
  have h1 := h.head_lt
  rcases Nat.lt_or_ge (BW + 1) q with h2 | h2
  · have h3 : (BW + 2) * v1 ≤ q * v1 := Nat.mul_le_mul_right _ h2
    rw [Nat.add_mul, Nat.mul_comm BW] at h3
    rw [BW_eq] at *
    omega
  · exact h2
/-- One word of a signed difference. -/
theorem take_word2 {x lo br : Nat} (hx : x < BW) (hlo : lo < BW) (hbr : br ≤ 1) :
    IntKind.i64.wrap (IntKind.i64.wrap (((x : Nat) : Int) - ((br : Nat) : Int)) - ((lo : Nat) : Int)) = ((x : Nat) : Int) - ((br : Nat) : Int) - ((lo : Nat) : Int) := by
  rw [IntKind.wrap_i64, IntKind.wrap_i64, BW_eq] at *; omega
end Go.Proofs.Ythhgjloephkpaaa
namespace Go.Proofs.Ythhgjloephkpaaa
set_option linter.unusedVariables false
set_option linter.unusedSimpArgs false
open Go Go.RowKit Go.Proofs.YthhgjloephkpaaaW.PrintWords Go.Proofs.YthhgjloephkpaaaW.PrintLast
section
variable {Q : Exit → Act → World → Prop} {o : Oper} {a : Act} {w w0 : World} {K : Act → World → Prop} {L : List Bx}
theorem u100 : Try.prog.underlying 36 = some (.slice 100) := by kernel_rfl
theorem info100' : ∃ i, Try.prog.info? 100 = some i ∧ i.zero = some (.int .u32 0) ∧ i.size = 1 ∧ i.bytes = 4 := by
  obtain ⟨i, hi, h⟩ := Option.map_eq_some_iff.1 info100
  injection h with h1 h
  injection h with h2 h3
  exact ⟨i, hi, h1, h2, h3⟩
theorem run_app0 (A : Option Addr) (c : Nat) (ty : TypeId) (w : World) : (Builtin.append_ #[36, 36] ty #[.slice none 0 0, .slice A 0 c]).run Try.prog w = .ok (.slice none 0 0) w := by
  obtain ⟨i, hi, hz, h1, h2⟩ := info100'
  have hf : (Builtin.firstCells i.size 0 (.slice A 0 c)).run Try.prog w = .ok #[] w := by
    cases A with
    | none => exact run_firstCells_none w _ _ _ _
    | some ad => exact run_firstCells_some w _ 0 ad 0 c [] (by simp) (fun j v h => by simp at h)
  simp [Builtin.append_, run_underlying u100, sizeOf, typeInfo, zeroValue, hi, hz, Builtin.lenOf, hf]
set_option maxRecDepth 100000 in
theorem o_app {x : Operand} {A : Option Addr} {n c : Nat} {l : List Nat} (ho : o.op = .call { callee := .builtin .append, args := #[.const (.slice none 0 0), x], argTypes := #[36, 36] }) (hx : a.eval x = .slice A n c) (hw : Wds w A n c l) (hn : n ≤ 1000000000) (hs : St w0 w L)
    (h : ∀ A' c' w', Wds w' A' n c' l → St w0 w' L → U w w' → K (a.put o.dst (.slice A' n c')) w') : o.wp Try.prog a w K Q := by
  have hl := hw.len
  have he : a.eval (.const (.slice none 0 0)) = .slice none 0 0 := by unfold Act.eval; rfl
  rcases Nat.eq_zero_or_pos n with h0 | h0
  · subst h0
    unfold Oper.wp execOp
    simp only [ho, resolve, invoke, builtin, Sem.run_bind, Sem.run_pure, Result.andThen_ok, List.map_toArray, List.map_cons, List.map_nil, he, hx, run_app0]
    refine h none 0 w ⟨⟨hw.1.1, Nat.zero_le _, fun h => absurd h (by omega)⟩, Nat.le_refl _⟩ hs (U.refl w)
  · obtain ⟨ad, rfl⟩ := hw.some_ h0
    obtain ⟨i, hi, hz, h1, h2⟩ := info100'
    have hr := run_append_nil (P := Try.prog) w 36 o.type 100 i (.int .u32 0) u100 hi hz ad n c (wc l).toList (by rw [h1, Array.length_toList, wc_size]; omega)
      (fun j v hj => by
        rw [Array.getElem?_toList] at hj
        have hjn : j < l.length := by
          rcases Nat.lt_or_ge j l.length with h3 | h3
          · exact h3
          · rw [Array.getElem?_eq_none (by rw [wc_size]; exact h3)] at hj; cases hj
        rw [wc_at hjn] at hj
        injection hj with hj
        subst hj
        exact hw.cellA (by omega)) h0 (by omega) (by rw [h2]; omega)
    unfold Oper.wp execOp
    simp only [ho, resolve, invoke, builtin, Sem.run_bind, Sem.run_pure, Result.andThen_ok, List.map_toArray, List.map_cons, List.map_nil, he, hx, hr]
    refine h _ _ _ ?_ ((hs.drew).below ((Below.refl _ _).alloc (Nat.le_refl _) _)) ((U.drew w).trans (U.box w.drew _))
    refine ⟨⟨by rw [us_len]; omega, by omega, fun _ => ⟨_, rfl, fun j hj => ?_⟩⟩, grownCap_ge _ _ _ _⟩
    have hadd : (⟨w.heap.size, 0, none⟩ : Addr).add j = ⟨w.heap.size, j, none⟩ := by unfold Addr.add; split <;> simp_all
    have hh : (w.drew.alloc (.cells ((wc l).toList.toArray ++ Builtin.zeroCells (Value.int .u32 0).cells (grownCap w n 0 100 - n)) 100)).heap[w.heap.size]? = some (.cells ((wc l).toList.toArray ++ Builtin.zeroCells (Value.int .u32 0).cells (grownCap w n 0 100 - n)) 100 (0, 0)) := Array.getElem?_push_size
    rw [hadd, cell_of_row _ _ j _ 100 (0, 0) hh, us_at, Array.getElem?_append_left (by simp [wc_size]; omega), List.getElem?_toArray, Array.getElem?_toList, wc_at (by omega)]
end
theorem Long.win {X Y k j M : Nat} {ls outs : List Nat} (h : Long X Y k (j + 1) M ls outs) (hY : Y < BW ^ k) :
    ∃ pre wl post, ls = pre ++ wl ++ post ∧ pre.length = j ∧ wl.length = k + 1 ∧ Dig wl ∧ val wl < BW * Y ∧ ∀ rl q, rl.length = k + 1 → Dig rl → val rl = val wl % Y → q = val wl / Y → Long X Y k j M (pre ++ rl ++ post) (outs.set j q) := by
  have hM := h.tM
  have hl := h.len
  have hj : j + k + 1 ≤ ls.length := by omega
  exact ⟨ls.take j, (ls.drop j).take (k + 1), ls.drop (j + k + 1), window hj, by rw [List.length_take]; omega, by rw [List.length_take, List.length_drop]; omega, (h.dig.drop j).take _, h.win_lt hY, fun rl q h1 h2 h3 h4 => h.step hY h4 h3 h1 h2⟩
theorem ytop {y s k : Nat} (hyl : (dg y).length = k) (hk : 1 ≤ k) (ht2 : (dg y).getD (k - 1) 0 * 2 ^ s < BW) (hs : s ≤ 31) : y * 2 ^ s < BW ^ k := by
  obtain ⟨j, rfl⟩ : ∃ j, k = j + 1 := ⟨k - 1, by omega⟩
  rw [Nat.add_sub_cancel] at ht2
  have h1 := val_take_step (dg y) j
  rw [val_take_le (by omega), val_dg] at h1
  have h2 := val_lt ((dg_dig y).take j)
  rw [List.length_take, Nat.min_eq_left (by omega)] at h2
  generalize (dg y).getD j 0 = t at *
  have e : BW = 2 ^ (32 - s) * 2 ^ s := by rw [BW_split (by omega : s ≤ 32), Nat.mul_comm]
  have h3 : t < 2 ^ (32 - s) := by
    rw [e] at ht2
    exact Nat.lt_of_mul_lt_mul_right ht2
  have h4 : (t + 1) * 2 ^ s ≤ BW := by rw [e]; exact Nat.mul_le_mul_right _ h3
  have h5 : y < BW ^ j * (t + 1) := by rw [Nat.mul_add, Nat.mul_one]; omega
  have h6 : y * 2 ^ s < BW ^ j * (t + 1) * 2 ^ s := Nat.mul_lt_mul_of_pos_right h5 (Nat.two_pow_pos s)
  rw [Nat.mul_assoc] at h6
  have h7 : BW ^ j * ((t + 1) * 2 ^ s) ≤ BW ^ j * BW := Nat.mul_le_mul_left _ h4
  rw [Nat.pow_succ]
  omega
/-- What holds of a shift to the left before word i. -/
def Shl (B : List Nat) (s i L : Nat) (ls : List Nat) : Prop := ls.length = L ∧ Dig ls ∧ val (ls.take i) + BW ^ i * cr B s i = val (B.take i) * 2 ^ s
theorem Shl.start {B : List Nat} {s L : Nat} : Shl B s 0 L (List.replicate L 0) := ⟨by simp, repl_dig L, by simp [cr, val]⟩
theorem Shl.next {B ls : List Nat} {s i L b v : Nat} (h : Shl B s i L ls) (hs : s ≤ 31) (hB : Dig B) (hi : i < L) (hb : B.getD i 0 = b) (he : v = b * 2 ^ s % BW + cr B s i) : Shl B s (i + 1) L (ls.set i v) := by
  obtain ⟨_, h2, h3⟩ := shl_word hs hB h.2.1 (by rw [h.1]; exact hi) hb h.2.2 he
  exact ⟨by rw [List.length_set]; exact h.1, h2, h3⟩
theorem cr_0 {B : List Nat} {s i : Nat} (h : ¬ (0 : Int) < ((i : Nat) : Int)) : cr B s i = 0 := by
  obtain rfl : i = 0 := by omega
  rfl
theorem cr_i {B : List Nat} {s i i1 b c : Nat} (hi : i = i1 + 1) (hb : B.getD i1 0 = b) (hc : b / 2 ^ (32 - s) = c) : cr B s i = c := by subst hi hb hc; rfl
theorem below_zero {ls : List Nat} {k Y : Nat} (hk : k ≤ ls.length) (h : val ls < Y) (hY : Y < BW ^ k) : val (ls.drop k) = 0 := by
  have h1 := val_drop_le hk
  rcases Nat.eq_zero_or_pos (val (ls.drop k)) with h0 | h0
  · exact h0
  · have : BW ^ k * 1 ≤ BW ^ k * val (ls.drop k) := Nat.mul_le_mul_left _ h0
    omega
theorem drop_zero {ls : List Nat} {k : Nat} (h : val (ls.drop k) = 0) : val (ls.drop (k + 1)) = 0 := by
  by_cases hk : k < ls.length
  · rw [drop_cons hk, val_cons] at h
    rcases Nat.mul_eq_zero.1 (by omega : BW * val (ls.drop (k + 1)) = 0) with h3 | h3
    · exact absurd h3 (by decide)
    · exact h3
  · rw [List.drop_of_length_le (by omega)]; rfl
/-- What holds of a shift to the right before word i. -/
def Shr (U : List Nat) (s i L : Nat) (ls : List Nat) : Prop := ls.length = L ∧ Dig ls ∧ val (U.take (i + 1)) / 2 ^ s = val (ls.take i) + BW ^ i * (U.getD i 0 / 2 ^ s)
theorem Shr.start {U : List Nat} {s L : Nat} : Shr U s 0 L (List.replicate L 0) := ⟨by simp, repl_dig L, by have := shr_start U s; simpa using this⟩
theorem Shr.next {U ls : List Nat} {s i L a b v : Nat} (h : Shr U s i L ls) (hs : s ≤ 31) (hU : Dig U) (hi : i < L) (ha : U.getD i 0 = a) (hb : U.getD (i + 1) 0 = b) (he : v = a / 2 ^ s + b * 2 ^ (32 - s) % BW) : Shr U s (i + 1) L (ls.set i v) := by
  subst ha hb he
  obtain ⟨h1, h2⟩ := shr_step hs hU h.2.1 (by rw [h.1]; exact hi) h.2.2
  exact ⟨by rw [List.length_set]; exact h.1, h1, h2⟩
/-- Two lists of words, new. -/
def RetRR (w : World) (x y : Nat) (e : Ending) (w' : World) : Prop := (∃ v, e = .returned v ∧ ∃ v1 v2, v = .tuple #[v1, v2] ∧ (∃ A n c ls, v1 = .slice A n c ∧ Wds w' A n c ls ∧ Dig ls ∧ val ls = x) ∧ (∃ A n c ls, v2 = .slice A n c ∧ Wds w' A n c ls ∧ Dig ls ∧ val ls = y)) ∧ Below w.heap.size w w'
end Go.Proofs.Ythhgjloephkpaaa
namespace Go.Proofs.Ythhgjloephkpaaa
set_option linter.unusedVariables false
set_option linter.unusedSimpArgs false
open Go Go.RowKit Go.Proofs.YthhgjloephkpaaaW.PrintWords Go.Proofs.YthhgjloephkpaaaW.PrintLast

section
variable {P : Program} {ops : Array Oper} {Q : Exit → Act → World → Prop} {md : Region.Mode} {f : Nat → Bool}
theorem anyT_off {i : Nat} {oi : Oper} {fuel : Nat} {listed : Array Bool} {a : Act} {w : World} (hi : ops.toList[i]? = some oi)
  (hs : Region.noSelect ops = true) (hf : Region.free md ops listed i = true) (hr : (Region.ready md ops listed).contains i = true) (hw : (waitsT md ops f i && shutT md ops listed) = true)
  (hQ : ∀ c a w, Q (.panic c) (a.put oi.dst undef) w → Q (.panic c) a w) (hwd : Region.wanted oi (yielded ops a.tmps) = false)
  (h : wpAnyT P md ops Q (· = w) f fuel (listed.setIfInBounds i true) (a.put oi.dst undef) w) : wpAnyT P md ops Q (· = w) f (fuel + 1) listed a w :=
 wpAnyT_first (by rw [← Array.getElem?_toList]; exact hi) (Region.noSelect_spec hs) hQ (waitsT_spec (Bool.and_eq_true_iff.1 hw).1).1 (waitsT_spec (Bool.and_eq_true_iff.1 hw).1).2 fuel listed a w (shutT_spec (Bool.and_eq_true_iff.1 hw).2) (Region.free_spec (by rw [← Array.getElem?_toList]; exact hi) hf) (by simpa using hr) (Or.inr ⟨hwd, rfl⟩) rfl h
end
set_option maxRecDepth 100000 in
theorem quo_A {A B:Option Addr} {n c m d x y:Nat} {w:World} (hx:Wds w A n c (dg x)) (hy:Wds w B m d (dg y)) (hn:n≤1000000000) (hxy:x<y):Calls Try.prog 117 #[E A n c,E B m d] w (RetRR w (x / y) (x % y)):=by
 go_enter Try.func117,Try.ntmps117
 have a:=St.start w
 refine wp_seq_k fun q b=>?_
 refine wp_region_lit ?_
 refine PV (E none 0 0) rfl rfl ?_
 simp only [PA]
 refine PV (E none 0 0) rfl rfl ?_
 simp only [PA]
 refine wpList_nil ?_
 refine b _ _ ?_
 refine wp_seq_k fun r s=>?_
 refine wp_seq_k fun t e=>?_
 refine wp_region_lit ?_
 refine PV (E A n c) rfl rfl ?_
 simp only [PA]
 refine PV (E B m d) rfl rfl ?_
 simp only [PA]
 refine wpList_plain rfl fun K hK=>o_call 114 _ #[E A n c,E B m d] Try.func114 (by kernel_rfl) rfl rfl rfl a (cmpWords_c hx hy) fun v z f g i=>?_
 subst f
 refine hK _ _ ?_
 simp only [PA]
 refine PV (T true) (CT (run_bin (I (cmpN (x) (y))) (I 0) _ rfl rfl rfl (bin_lss_3 _ _ _ _)) (congrArg Value.bool (cmpN_lss hxy))) rfl ?_
 simp only [PA]
 refine wpList_nil ?_
 refine e _ _ ?_
 refine cond_true rfl ?_
 refine wp_seq_k fun C j=>?_
 refine wp_region_lit ?_
 refine PV (E A n c) rfl rfl ?_
 simp only [PA]
 refine wpList_plain rfl fun K hK=>o_app rfl rfl (hx.u i) (by omega) g fun k l D o p F=>hK _ _ ?_
 simp only [PA]
 refine PV (E none 0 0) rfl rfl ?_
 simp only [PA]
 refine PV (E k n l) rfl rfl ?_
 simp only [PA]
 refine wpList_nil ?_
 refine j _ _ ?_
 refine wp_ret ?_
 repeat (with_reducible first | refine then_ret ?_ | refine inBlock_ret ?_)
 refine bodyPost_ret (results_tmp2 rfl _ _ _) rfl ?_
 exact ⟨⟨_,rfl,_,_,rfl,⟨none,0,0,[],rfl,⟨⟨rfl,by omega,fun h=>absurd h (by omega)⟩,Nat.le_refl _⟩,Dig.nil,by rw [Nat.div_eq_of_lt hxy]; rfl⟩,⟨_,_,_,_,rfl,o,dg_dig _,by rw [val_dg,Nat.mod_eq_of_lt hxy]⟩⟩,p.bl⟩
set_option maxRecDepth 100000 in
set_option maxHeartbeats 4000000 in
theorem quo_B {ad bd:Addr} {n c d x y b:Nat} {w:World} (hx:Wds w (some ad) n c (dg x)) (hy:Wds w (some bd) 1 d (dg y)) (hxy:¬ x<y) (hb_:(dg y).getD 0 0=b) (hby:b=y) (k:0<b) (hbB:b<BW) (hn:1≤n) (hnm:n≤1000000000) (hxl:(dg x).length=n):Calls Try.prog 117 #[E (some ad) n c,E (some bd) 1 d] w (RetRR w (x / y) (x % y)):=by
 go_enter Try.func117,Try.ntmps117
 have p:=St.start w
 refine wp_seq_k fun K1 q=>?_
 refine wp_region_lit ?_
 refine PV (E none 0 0) rfl rfl ?_
 simp only [PA]
 refine PV (E none 0 0) rfl rfl ?_
 simp only [PA]
 refine wpList_nil ?_
 refine q _ _ ?_
 refine wp_seq_k fun K3 r=>?_
 refine wp_seq_k fun K5 v=>?_
 refine wp_region_lit ?_
 refine PV (E (some ad) n c) rfl rfl ?_
 simp only [PA]
 refine PV (E (some bd) 1 d) rfl rfl ?_
 simp only [PA]
 refine wpList_plain rfl fun K hK=>o_call 114 _ #[E (some ad) n c,E (some bd) 1 d] Try.func114 (by kernel_rfl) rfl rfl rfl p (cmpWords_c hx hy) fun v7 w9 A C ai=>?_
 subst A
 refine hK _ _ ?_
 simp only [PA]
 refine PV (T false) (CT (run_bin (I (cmpN (x) (y))) (I 0) _ rfl rfl rfl (bin_lss_3 _ _ _ _)) (congrArg Value.bool (cmpN_nlss hxy))) rfl ?_
 simp only [PA]
 refine wpList_nil ?_
 refine v _ _ ?_
 refine cond_false rfl ?_
 refine wp_skip ?_
 refine r _ _ ?_
 refine wp_seq_k fun aj al=>?_
 refine wp_seq_k fun am D=>?_
 refine wp_region_lit ?_
 refine PV (E (some bd) 1 d) rfl rfl ?_
 simp only [PA]
 refine PV (I 1) (run_len36 rfl rfl) rfl ?_
 simp only [PA]
 refine PV (T true) (CT (run_bin (I 1) (I 1) _ rfl rfl rfl (bin_eql_3 _ _ _ _)) (rfl)) rfl ?_
 simp only [PA]
 refine wpList_nil ?_
 refine D _ _ ?_
 refine cond_true rfl ?_
 refine wp_seq_k fun an F=>?_
 refine wp_region_lit ?_
 refine PV (E (some ad) n c) rfl rfl ?_
 simp only [PA]
 refine PV (I ((n:Nat):Int)) (CT (run_len36 rfl rfl) (rfl)) rfl ?_
 simp only [PA]
 refine wpList_plain rfl fun K hK=>o_make36 (n) rfl rfl rfl (by omega) C fun g ao G ap=>hK _ _ ?_
 simp only [PA]
 refine PV (E (some ⟨g,0,none⟩) n n) rfl rfl ?_
 simp only [PA]
 refine wpList_nil ?_
 refine F _ _ ?_
 refine wp_seq_k fun aq H=>?_
 refine wp_region_lit ?_
 refine PV (J 0) rfl rfl ?_
 simp only [PA]
 refine wpList_nil ?_
 refine H _ _ ?_
 refine wp_seq_k fun ar L=>?_
 refine wp_seq_k fun au M=>?_
 refine wp_region_lit ?_
 refine PV (E (some ad) n c) rfl rfl ?_
 simp only [PA]
 refine PV (I ((n:Nat):Int)) (CT (run_len36 rfl rfl) (rfl)) rfl ?_
 simp only [PA]
 refine PV (I (((n:Nat):Int) - 1)) (CT (run_bin (I ((n:Nat):Int)) (I 1) _ rfl rfl rfl (bin_sub_3 _ _ _ _)) (vint (by rw [IntKind.wrap_i64]; omega))) rfl ?_
 simp only [PA]
 refine PV (I (((n:Nat):Int) - 1)) rfl rfl ?_
 simp only [PA]
 refine wpList_nil ?_
 refine M _ _ ?_
 refine wp_block ?_
 refine wp_loop_g (fun mm aa_ w'=>∃ (t:Nat) (rest:Nat) (ls:List Nat) (e:List Value),aa_=⟨#[E (some ad) n c,E (some bd) 1 d,O,O,E none 0 0,E none 0 0,E (some ⟨g,0,none⟩) n n,J ((rest:Nat):Int),I (((t:Nat):Int) - 1),(GD e 0),O,O,O,O,O,O,O,O,O,O,O,O,O,O,O,O,O,O,O,O,O,O,E (some ad) n c,E (some bd) 1 d,I (cmpN (x) (y)),T false,O,O,E (some bd) 1 d,I 1,T true,E (some ad) n c,I ((n:Nat):Int),E (some ⟨g,0,none⟩) n n,E (some ad) n c,I ((n:Nat):Int),I (((n:Nat):Int) - 1),(GD e 1),(GD e 2),(GD e 3),(GD e 4),(GD e 5),(GD e 6),(GD e 7),(GD e 8),(GD e 9),(GD e 10),(GD e 11),(GD e 12),(GD e 13),(GD e 14),(GD e 15),(GD e 16),(GD e 17),(GD e 18),(GD e 19),(GD e 20),(GD e 21),(GD e 22),(GD e 23),(GD e 24),(GD e 25),(GD e 26),(GD e 27),(GD e 28),O,O,O,O,O,O,O,O,O,O,O,O,O,O,O,O,O,O,O,O,O,O,O,O,O,O,O,O,O,O,O,O,O,O,O,O,O,O,O,O,O,O,O,O,O,O,O,O,O,O,O,O,O,O,O,O,O,O,O,O,O,O,O,O,O,O,O,O,O,O,O,O,O,O,O,O,O,O,O,O,O,O,O,O,O,O,O,O,O,O,O,O,O,O,O,O,O,O,O,O,O,O,O,O,O,O,O,O,O,O,O,O,O,O,O,O,O,O,O,O,O,O,O,O,O,O,O,O,O,O,O,O,O,O,O,O,O,O,O,O,O,O,O,O,O,O,O,O,O,O,O,O,O,O,O,O,O,O,O,O,O,O,O,O,O,O,O,O,O,O,O,O,O,O,O,O,O,O,O,O,O,O,O,O,O,O,O,O,O,O,O,O,O,O,O,O,O,O,O,O,O,O,O,O,O,O,O,O,O,O,O,O,O,O,O,O,O,O,O,O,O,O,O,O,O,O,O,O,O,O,O,O,O,O,O,O,O,O,O,O,O,O,O,O,O,O,O,O,O,O,O,O,O,O,O,O,O,O,O,O,O,O,O,O,O,O,O,O,O,O,O,O,O,O,O,O,O,O,O,O,O,O,O,O,O,O,O,O,O,O,O,O,O,O,O,O,O,O,O,O,O,O,O,O,O,O,O,O,O,O,O,O,O,O,O,O,O],[]⟩∧St w w' [⟨g,wc (ls),100⟩]∧(t≤n)∧(ls.length=n∧Dig ls∧val ((dg x).drop t)=val (ls.drop t) * b+rest∧rest<b)∧t=mm) (n) ⟨n,0,List.replicate n 0,[O,O,O,O,O,O,O,O,O,O,O,O,O,O,O,O,O,O,O,O,O,O,O,O,O,O,O,O,O],rfl,G,Nat.le_refl _,⟨by simp,repl_dig n,by rw [drop_repl,List.drop_of_length_le (by rw [hxl]; exact Nat.le_refl _)]; simp [val],k⟩,rfl⟩ ?_
 rintro _ _ av ⟨t,rest,ls,e,rfl,h,htn,hI,rfl⟩
 have hrB:rest<BW:=by omega
 refine wp_seq_k fun aw N=>?_
 refine wp_seq_k fun ax l=>?_
 refine wp_region_lit ?_
 refine PV (I (((t:Nat):Int) - 1)) rfl rfl ?_
 simp only [PA]
 by_cases hge:(0:Int)≤(((t:Nat):Int) - 1)
 ·skip
  refine PV (T true) (CT (run_bin (I (((t:Nat):Int) - 1)) (I 0) _ rfl rfl rfl (bin_geq_3 _ _ _ _)) (congrArg Value.bool (decide_eq_true hge))) rfl ?_
  simp only [PA]
  refine wpList_nil ?_
  refine l _ _ ?_
  refine cond_true rfl ?_
  refine wp_skip ?_
  refine N _ _ ?_
  refine wp_seq_k fun ay P=>?_
  refine wp_block ?_
  refine wp_seq_k fun az Q=>?_
  refine wp_region_lit ?_
  refine PV (J ((rest:Nat):Int)) rfl rfl ?_
  simp only [PA]
  obtain ⟨rb,hrb⟩:∃ x:Nat,rest * BW=x:=⟨_,rfl⟩
  refine PV (J ((rb:Nat):Int)) (CT (run_bin (J ((rest:Nat):Int)) (J 32) _ rfl rfl rfl (bin_shl_104_u64 _ _ _ _)) ((vint (w_shl32 (a:=rest) hrB)).trans (vnat hrb))) rfl ?_
  simp only [PA]
  refine PV (E (some ad) n c) rfl rfl ?_
  simp only [PA]
  obtain ⟨f,R⟩:∃ x,t=x+1:=⟨t - 1,by omega⟩
  have hDV:=div1_step (i:=f) (by rw [hxl]; omega) (by rw [hI.1,hxl]) k hbB hI.2.2.2 hI.2.1 (dg_dig x) (by rw [← R]; exact hI.2.2.1)
  refine PV (I ((f:Nat):Int)) (CT rfl (vint (by omega))) rfl ?_
  simp only [PA]
  refine PV (.pointer (some (ad.add f))) (run_idx (t:=36) rfl rfl rfl (by omega)) rfl ?_
  simp only [PA]
  obtain ⟨xi,hxi⟩:∃ z:Nat,(dg x).getD f 0=z:=⟨_,rfl⟩
  have hxiB:xi<BW:=hxi▸(dg_dig x).at_ f
  rw [hxi] at hDV
  refine PV (.int .u32 ((xi:Nat):Int)) (CT (run_loadW _ rfl rfl ((hx.below h.bl).cellA (by omega)) (ag100 _)) (vnat hxi)) rfl ?_
  simp only [PA]
  refine PV (J ((xi:Nat):Int)) (run_cv _ rfl rfl rfl rfl (wrap_u64 (by rw [BW_eq] at hxiB; omega))) rfl ?_
  simp only [PA]
  obtain ⟨s,hs_⟩:∃ z:Nat,rb+xi=z:=⟨_,rfl⟩
  rw [hrb,hs_] at hDV
  refine PV (J ((s:Nat):Int)) (CT (run_bin (J ((rb:Nat):Int)) (J ((xi:Nat):Int)) _ rfl rfl rfl (bin_or_104 _ _ _ _)) ((vint (hrb▸head_or (a:=rest) (b:=xi) hrB hxiB)).trans (vnat hs_))) rfl ?_
  simp only [PA]
  refine PV (J ((s:Nat):Int)) rfl rfl ?_
  simp only [PA]
  refine wpList_nil ?_
  refine Q _ _ ?_
  refine wp_seq_k fun aA S=>?_
  refine wp_region_lit ?_
  refine PV (E (some ⟨g,0,none⟩) n n) rfl rfl ?_
  simp only [PA]
  refine PV (I ((f:Nat):Int)) (CT rfl (vint (by omega))) rfl ?_
  simp only [PA]
  refine PV (J ((s:Nat):Int)) rfl rfl ?_
  simp only [PA]
  refine PV (E (some bd) 1 d) rfl rfl ?_
  simp only [PA]
  refine PV (.pointer (some (bd.add 0))) (by kernel_rfl) rfl ?_
  simp only [PA]
  refine PV (.int .u32 ((b:Nat):Int)) (CT (run_loadW _ rfl rfl ((hy.below h.bl).cellA (by omega)) (ag100 _)) (vnat hb_)) rfl ?_
  simp only [PA]
  refine PV (J ((b:Nat):Int)) (run_cv _ rfl rfl rfl rfl (wrap_u64 (by rw [BW_eq] at hbB; omega))) rfl ?_
  simp only [PA]
  obtain ⟨qd,hqd⟩:∃ z:Nat,s / b=z:=⟨_,rfl⟩
  rw [hqd] at hDV
  refine PV (J ((qd:Nat):Int)) (CT (run_bin (J ((s:Nat):Int)) (J ((b:Nat):Int)) _ rfl rfl rfl (bin_quo_104 _ _ _ _ (by omega))) ((vint (w_quo (m:=s) (n:=b) hDV.2.2.1)).trans (vnat hqd))) rfl ?_
  simp only [PA]
  refine PV (.int .u32 ((qd:Nat):Int)) (CT (run_cv _ rfl rfl rfl rfl (wrap_u32)) (vnat (Nat.mod_eq_of_lt hDV.1))) rfl ?_
  simp only [PA]
  refine PV (.pointer (some ⟨g,f,none⟩)) (run_idxB rfl rfl rfl (by omega)) rfl ?_
  simp only [PA]
  refine wpList_plain rfl fun K hK=>o_stB 0 (qd) ([⟨g,wc (((ls).set (f) (qd))),100⟩]) rfl rfl rfl h rfl (by rw [hI.1]; omega) rfl fun aC o=>hK _ _ ?_
  simp only [PA]
  refine wpList_nil ?_
  refine S _ _ ?_
  refine wp_region_lit ?_
  refine PV (J ((s:Nat):Int)) rfl rfl ?_
  simp only [PA]
  refine PV (E (some bd) 1 d) rfl rfl ?_
  simp only [PA]
  refine PV (.pointer (some (bd.add 0))) (by kernel_rfl) rfl ?_
  simp only [PA]
  refine PV (.int .u32 ((b:Nat):Int)) (CT (run_loadW _ rfl rfl ((hy.below o.bl).cellA (by omega)) (ag100 _)) (vnat hb_)) rfl ?_
  simp only [PA]
  refine PV (J ((b:Nat):Int)) (run_cv _ rfl rfl rfl rfl (wrap_u64 (by rw [BW_eq] at hbB; omega))) rfl ?_
  simp only [PA]
  obtain ⟨rm,hrm⟩:∃ z:Nat,s % b=z:=⟨_,rfl⟩
  rw [hrm] at hDV
  refine PV (J ((rm:Nat):Int)) (CT (run_bin (J ((s:Nat):Int)) (J ((b:Nat):Int)) _ rfl rfl rfl (bin_rem_104 _ _ _ _ (by omega))) ((vint (w_rem (m:=s) (n:=b))).trans (vnat hrm))) rfl ?_
  simp only [PA]
  refine PV (J ((rm:Nat):Int)) rfl rfl ?_
  simp only [PA]
  refine wpList_nil ?_
  refine P _ _ ?_
  refine wp_region_lit ?_
  refine PV (I ((f:Nat):Int)) (CT rfl (vint (by omega))) rfl ?_
  simp only [PA]
  refine PV (I (((f:Nat):Int) - 1)) (CT (run_bin (I ((f:Nat):Int)) (I 1) _ rfl rfl rfl (bin_sub_3 _ _ _ _)) (vint (by rw [IntKind.wrap_i64]; omega))) rfl ?_
  simp only [PA]
  refine PV (I (((f:Nat):Int) - 1)) rfl rfl ?_
  simp only [PA]
  refine wpList_nil ?_
  exact ⟨f,by omega,f,rm,((ls).set (f) (qd)),[J ((s:Nat):Int),I (((t:Nat):Int) - 1),T true,I ((f:Nat):Int),I (((f:Nat):Int) - 1),J ((rest:Nat):Int),J ((rb:Nat):Int),E (some ad) n c,I ((f:Nat):Int),.pointer (some (ad.add f)),.int .u32 ((xi:Nat):Int),J ((xi:Nat):Int),J ((s:Nat):Int),E (some ⟨g,0,none⟩) n n,I ((f:Nat):Int),J ((s:Nat):Int),E (some bd) 1 d,.pointer (some (bd.add 0)),.int .u32 ((b:Nat):Int),J ((b:Nat):Int),J ((qd:Nat):Int),.int .u32 ((qd:Nat):Int),.pointer (some ⟨g,f,none⟩),J ((s:Nat):Int),E (some bd) 1 d,.pointer (some (bd.add 0)),.int .u32 ((b:Nat):Int),J ((b:Nat):Int),J ((rm:Nat):Int)],rfl,o,by omega,⟨by rw [hDV.2.2.2.2.1,hxl],hDV.2.2.2.1,hDV.2.2.2.2.2,hDV.2.1⟩,rfl⟩
 ·skip
  refine PV (T false) (CT (run_bin (I (((t:Nat):Int) - 1)) (I 0) _ rfl rfl rfl (bin_geq_3 _ _ _ _)) (congrArg Value.bool (decide_eq_false hge))) rfl ?_
  simp only [PA]
  refine wpList_nil ?_
  refine l _ _ ?_
  refine cond_false rfl ?_
  refine wp_exit ?_
  refine L _ _ ?_
  refine wp_seq_k fun aD V=>?_
  refine wp_region_lit ?_
  refine PV (E (some ⟨g,0,none⟩) n n) rfl rfl ?_
  simp only [PA]
  refine PV (J ((rest:Nat):Int)) rfl rfl ?_
  simp only [PA]
  refine PV (.int .u32 ((rest:Nat):Int)) (CT (run_cv _ rfl rfl rfl rfl (wrap_u32)) (vnat (Nat.mod_eq_of_lt hrB))) rfl ?_
  simp only [PA]
  refine wpList_plain rfl fun K hK=>o_lit (rest) rfl rfl h fun W aF j aG=>hK _ _ ?_
  simp only [PA]
  refine PV (E (some ⟨g,0,none⟩) n n) rfl rfl ?_
  simp only [PA]
  refine PV (E (some ⟨W,0,none⟩) 1 1) rfl rfl ?_
  simp only [PA]
  refine wpList_nil ?_
  refine V _ _ ?_
  refine wp_ret ?_
  repeat (with_reducible first | refine then_ret ?_ | refine inBlock_ret ?_)
  refine bodyPost_ret (results_tmp2 rfl _ _ _) rfl ?_
  have X:t=0:=by omega
  subst X
  obtain ⟨Y,e2⟩:=div1_end hI.2.2.2 hI.2.2.1
  have e3:val [rest]=rest:=by simp [val]
  exact ⟨⟨_,rfl,_,_,rfl,⟨_,_,_,_,rfl,wds_len (j.at_ _ (List.mem_of_getElem? (i:=1) rfl)) ⟨hI.1,by omega⟩,hI.2.1,hby▸Y⟩,⟨_,_,_,_,rfl,wds_len (j.at_ _ (List.mem_of_getElem? (i:=0) rfl)) ⟨rfl,by omega⟩,Dig.cons hrB Dig.nil,hby▸e3.trans e2⟩⟩,j.bl⟩
end Go.Proofs.Ythhgjloephkpaaa
namespace Go.Proofs.Ythhgjloephkpaaa
set_option linter.unusedVariables false
set_option linter.unusedSimpArgs false
open Go Go.RowKit Go.Proofs.YthhgjloephkpaaaW.PrintWords Go.Proofs.YthhgjloephkpaaaW.PrintLast

/-- Ways into a code. -/
def pF (f : Func) : Code := f.body.getD .skip
def pL : Code → Code | .seq a _ => a | c => c
def pR : Code → Code | .seq _ b => b | c => c
def pB : Code → Code | .block _ c => c | .loop c => c | c => c
theorem sdiff {x lo br e : Nat} (hx : x < BW) (hlo : lo < BW) (hbr : br ≤ 1) (he : (x + BW - br - lo) % BW = e) :
    IntKind.u32.wrap (((x : Nat) : Int) - ((br : Nat) : Int) - ((lo : Nat) : Int)) = ((e : Nat) : Int) ∧ e < BW := by
  rw [IntKind.wrap_u32, BW_eq] at *; omega
theorem sdiff_n {x lo br e : Nat} (hx : x < BW) (hlo : lo < BW) (hbr : br ≤ 1) (he : (x + BW - br - lo) % BW = e) (h : (((x : Nat) : Int) - ((br : Nat) : Int) - ((lo : Nat) : Int)) < 0) : x + BW * 1 = e + lo + br := by
  rw [BW_eq] at *; omega
theorem sdiff_p {x lo br e : Nat} (hx : x < BW) (hlo : lo < BW) (hbr : br ≤ 1) (he : (x + BW - br - lo) % BW = e) (h : ¬ (((x : Nat) : Int) - ((br : Nat) : Int) - ((lo : Nat) : Int)) < 0) : x + BW * 0 = e + lo + br := by
  rw [BW_eq] at *; omega
/-- Taking away, up to word j. -/
def Sub (wl yl : List Nat) (q j cy br : Nat) (cur : List Nat) : Prop := cur.length = wl.length ∧ Dig cur ∧ (∀ i, j ≤ i → cur.getD i 0 = wl.getD i 0) ∧ val (cur.take j) + q * val (yl.take j) = val (wl.take j) + BW ^ j * (cy + br)
theorem Sub.start {wl yl : List Nat} {q : Nat} (hD : Dig wl) : Sub wl yl q 0 0 0 wl := ⟨rfl, hD, fun _ _ => rfl, by simp [val]⟩
theorem Sub.next {wl yl cur : List Nat} {q j cy br lo e cy' br' x y : Nat} (h : Sub wl yl q j cy br cur) (hj : j < wl.length) (hx : wl.getD j 0 = x) (hy : yl.getD j 0 = y) (he : e < BW) (h1 : cy + q * y = lo + BW * cy') (h2 : x + BW * br' = e + lo + br) : Sub wl yl q (j + 1) cy' br' (cur.set j e) := by
  subst hx hy
  exact sub_step h.1 hj h.2.1 h.2.2.1 h.2.2.2 he h1 h2
theorem Sub.done {wl yl cur : List Nat} {q k cy br : Nat} (h : Sub wl yl q (k + 1) cy br cur) (hwl : wl.length = k + 1) (hyl : yl.length = k) : val cur + q * val yl = val wl + BW ^ (k + 1) * (cy + br) := word_sub hwl hyl rfl h
/-- Giving back, up to word j. -/
def Back (c0 yl : List Nat) (j cy : Nat) (cur : List Nat) : Prop := cur.length = c0.length ∧ Dig cur ∧ (∀ i, j ≤ i → cur.getD i 0 = c0.getD i 0) ∧ val (cur.take j) + BW ^ j * cy = val (c0.take j) + val (yl.take j)
theorem Back.start {c0 yl : List Nat} (hD : Dig c0) : Back c0 yl 0 0 c0 := ⟨rfl, hD, fun _ _ => rfl, by simp [val]⟩
theorem Back.next {c0 yl cur : List Nat} {j cy x y s e : Nat} (h : Back c0 yl j cy cur) (hj : j < c0.length) (hx : c0.getD j 0 = x) (hy : yl.getD j 0 = y) (hs : cy + x + y = s) (he : s % BW = e) : Back c0 yl (j + 1) (s / BW) (cur.set j e) := by
  subst hx hy hs he
  exact add_step h.1 hj h.2.1 h.2.2.1 h.2.2.2
theorem word0 {wl yl cur : List Nat} {k q r hd v1 v2 a2 P : Nat} (G : Guess (val wl) (val yl) hd v1 v2 a2 P) (hq : val wl / val yl ≤ q) (NR : q ≤ val wl / val yl + 1) (h : Sub wl yl q (k + 1) 0 0 cur) (hwl : wl.length = k + 1) (hyl : yl.length = k) :
    q = val wl / val yl ∧ cur.length = k + 1 ∧ Dig cur ∧ val cur = val wl % val yl := by
  have hS := h.done hwl hyl
  rw [Nat.mul_zero, Nat.add_zero] at hS
  rcases G.or hq NR with ⟨h1, h2, h3⟩ | ⟨h1, _⟩
  · refine ⟨h3, by rw [h.1]; exact hwl, h.2.1, ?_⟩
    have := Nat.div_add_mod (val wl) (val yl)
    rw [← h3, Nat.mul_comm] at this
    omega
  · omega
theorem word1 {wl yl cur cu3 : List Nat} {k q r hd v1 v2 a2 P c3 : Nat} (G : Guess (val wl) (val yl) hd v1 v2 a2 P) (hq : val wl / val yl ≤ q) (NR : q ≤ val wl / val yl + 1) (h : Sub wl yl q (k + 1) 0 1 cur) (hB : Back cur yl (k + 1) c3 cu3) (hc3 : c3 ≤ 1) (hwl : wl.length = k + 1) (hyl : yl.length = k) (hYD : Dig yl) :
    0 < q ∧ q - 1 = val wl / val yl ∧ cu3.length = k + 1 ∧ Dig cu3 ∧ val cu3 = val wl % val yl := by
  have hS := h.done hwl hyl
  rw [Nat.zero_add, Nat.mul_one] at hS
  have hlc := val_lt h.2.1
  rw [h.1, hwl] at hlc
  have h3 := hB.2.2.2
  have hcl : cur.length = k + 1 := by rw [h.1]; exact hwl
  have hcl3 : cu3.length = k + 1 := by rw [hB.1]; exact hcl
  rw [val_take_le (by omega), val_take_le (by omega), val_take_le (by omega)] at h3
  rcases G.or hq NR with ⟨h1, _⟩ | ⟨h1, h2, h4, h5, h6⟩
  · omega
  · have hY : val yl < BW ^ (k + 1) := by
      have h7 : BW ^ k ≤ BW ^ (k + 1) := Nat.pow_le_pow_right BW_pos (by omega)
      have h8 := val_lt hYD
      rw [hyl] at h8
      omega
    refine ⟨h2, h6, hcl3, hB.2.1, ?_⟩
    have e := add_end (cur := cu3) (n := k + 1) (V := val cur) (q := q) (X := val wl) (Y := val yl) (cy := c3) hcl3 hB.2.1 hS h3 h2 h4 (by omega) hc3
    have := Nat.div_add_mod (val wl) (val yl)
    rw [← h6, Nat.mul_comm] at this
    omega
theorem sub_pos {wl yl cur : List Nat} {q k : Nat} (h : Sub wl yl q (k + 1) 0 1 cur) (hwl : wl.length = k + 1) (hyl : yl.length = k) : 1 ≤ q := by
  have hS := h.done hwl hyl
  rw [Nat.zero_add, Nat.mul_one] at hS
  have h2 := val_lt h.2.1
  rw [h.1, hwl] at h2
  rcases Nat.eq_zero_or_pos q with h0 | h0
  · subst h0; rw [Nat.zero_mul] at hS; omega
  · exact h0
theorem sub_top {wl yl cur : List Nat} {q k cy br e br' x : Nat} (h : Sub wl yl q k cy br cur) (hk : k < wl.length) (hyl : yl.length = k) (hx : wl.getD k 0 = x) (he : e < BW) (hcy : cy < BW) (h2 : x + BW * br' = e + cy + br) : Sub wl yl q (k + 1) 0 br' (cur.set k e) :=
  h.next hk hx (y := 0) (lo := cy) (cy' := 0) (getD_ge (by omega)) he (by omega) h2
theorem back_top {c0 yl cur : List Nat} {k cy x e : Nat} (h : Back c0 yl k cy cur) (hk : k < c0.length) (hyl : yl.length = k) (hx : c0.getD k 0 = x) (he : (x + cy) % BW = e) : Back c0 yl (k + 1) ((x + cy) / BW) (cur.set k e) :=
  h.next hk hx (y := 0) (getD_ge (by omega)) (by omega) he
theorem w_add32 {a b : Nat} : IntKind.u32.wrap (((a : Nat) : Int) + ((b : Nat) : Int)) = (((a + b) % BW : Nat) : Int) := by
  rw [IntKind.wrap_u32, BW_eq]; omega
theorem guess_big {x y hd v1 v2 u0 P q : Nat} (G : Guess x y hd v1 v2 u0 P) (h : BW ≤ q) : x / y ≤ q - 1 ∧ 0 < q := by
  have h1 := G.q_lt; have := BW_pos; omega
theorem top_big {ly : List Nat} {k kk v : Nat} (hD : Dig ly) (hl : ly.length = k) (hk : kk + 1 = k) (h1 : BW ^ (k - 1) * 2 ^ 31 ≤ val ly) (h : ly.getD kk 0 = v) : 2147483648 ≤ v := by
  subst hk h
  rw [Nat.add_sub_cancel] at h1
  have h2 := val_take_step ly kk
  rw [val_take_le (by omega)] at h2
  have h3 := val_lt (hD.take kk)
  rw [List.length_take, Nat.min_eq_left (by omega)] at h3
  have h4 : BW ^ kk * 2 ^ 31 < BW ^ kk * (ly.getD kk 0 + 1) := by rw [Nat.mul_add, Nat.mul_one]; omega
  have h5 := Nat.lt_of_mul_lt_mul_left h4
  rw [show (2 : Nat) ^ 31 = 2147483648 from rfl] at h5
  omega
theorem set_self {l : List Nat} {i v : Nat} (h : l.getD i 0 = v) : l = l.set i v := by
  apply List.ext_getElem?
  intro j
  rw [List.getElem?_set]
  by_cases hj : i = j
  · subst hj
    rw [if_pos rfl]
    by_cases hl : i < l.length
    · rw [if_pos hl, List.getElem?_eq_getElem hl, ← h, List.getD_eq_getElem?_getD, List.getElem?_eq_getElem hl]; rfl
    · rw [if_neg hl, List.getElem?_eq_none (by omega)]
  · rw [if_neg hj]
theorem shr_s0 {a b s v : Nat} (hs : s = 0) (h : a / 2 ^ s = v) : v = a / 2 ^ s + b * 2 ^ (32 - s) % BW := by
  subst hs
  rw [show b * 2 ^ (32 - 0) % BW = 0 from Nat.mul_mod_left b BW, Nat.add_zero]; exact h.symm
theorem guess_break {x y hd v1 v2 u0 P q r : Nat} (G : Guess x y hd v1 v2 u0 P) (hr : q * v1 + r = hd) (hq : x / y ≤ q) (hb : BW ≤ r) : q < BW ∧ x / y ≤ q ∧ q ≤ x / y + 1 :=
  have h := G.big_rest hr hb
  ⟨h, hq, G.near hr h (near_big h G.hv2 hb)⟩
end Go.Proofs.Ythhgjloephkpaaa
namespace Go.Proofs.Ythhgjloephkpaaa
set_option linter.unusedVariables false
set_option linter.unusedSimpArgs false
open Go Go.RowKit Go.Proofs.YthhgjloephkpaaaW.PrintWords Go.Proofs.YthhgjloephkpaaaW.PrintLast
set_option maxRecDepth 100000 in
set_option maxHeartbeats 8000000 in
theorem qc_v {ad bd:Addr} {n n1 k c d x y kk k2 nk M yt s:Nat} {w:World} (hx:Wds w (some ad) n c (dg x)) (hy:Wds w (some bd) k d (dg y)) (hk:2≤k) (hkn:k≤n) (hnm:n≤1000000000) (hkk:kk+1=k) (aa:k2+2=k) (ab:n1=n+1) (hnk:nk+k=n) (hM:M=nk+1) (hxl:(dg x).length=n) (hyl:(dg y).length=k) (o:s≤31) (N:min s 32=s) (P:min (32 - s) 32=32 - s) (hYB:y * 2 ^ s<BW ^ k) {f g:Nat} {F:World} (R:St w F [⟨f,wc (List.replicate k 0),100⟩,⟨g,wc (List.replicate n1 0),100⟩]) {Q:Exit→Act→World→Prop} (hQp:∀ c (a:Act) d v w,Q (.panic c) (a.put d v) w→Q (.panic c) a w) :
  (pR (pL (pR (pR (pR (pR (pR (pR (pF Try.f117))))))))).wp Try.prog (Exit.then (fun aa_ w'=>∃ (vl:List Nat) (e:List Value),aa_=⟨#[E (some ad) n c,E (some bd) k d,O,O,E none 0 0,E none 0 0,O,O,O,O,J ((s:Nat):Int),E (some ⟨g,0,none⟩) n1 n1,E (some ⟨f,0,none⟩) k k,(GD e 0),O,O,O,O,O,O,O,O,O,O,O,O,O,O,O,O,O,O,E (some ad) n c,E (some bd) k d,I (cmpN (x) (y)),T false,O,O,E (some bd) k d,I (k:Int),T false,O,O,O,O,O,O,O,O,O,O,O,O,O,O,O,O,O,O,O,O,O,O,O,O,O,O,O,O,O,O,O,O,O,O,O,O,O,O,E (some bd) k d,E (some bd) k d,I (k:Int),I ((kk:Nat):Int),.pointer (some (bd.add kk)),.int .u32 ((yt:Nat):Int),I ((s:Nat):Int),J ((s:Nat):Int),E (some ad) n c,I (n:Int),I ((n1:Nat):Int),E (some ⟨g,0,none⟩) n1 n1,E (some bd) k d,I (k:Int),E (some ⟨f,0,none⟩) k k,E (some bd) k d,I (k:Int),(GD e 1),(GD e 2),(GD e 3),(GD e 4),(GD e 5),(GD e 6),(GD e 7),(GD e 8),(GD e 9),(GD e 10),(GD e 11),(GD e 12),(GD e 13),(GD e 14),(GD e 15),(GD e 16),(GD e 17),(GD e 18),(GD e 19),(GD e 20),(GD e 21),(GD e 22),(GD e 23),(GD e 24),(GD e 25),(GD e 26),(GD e 27),(GD e 28),(GD e 29),(GD e 30),(GD e 31),(GD e 32),(GD e 33),O,O,O,O,O,O,O,O,O,O,O,O,O,O,O,O,O,O,O,O,O,O,O,O,O,O,O,O,O,O,O,O,O,O,O,O,O,O,O,O,O,O,O,O,O,O,O,O,O,O,O,O,O,O,O,O,O,O,O,O,O,O,O,O,O,O,O,O,O,O,O,O,O,O,O,O,O,O,O,O,O,O,O,O,O,O,O,O,O,O,O,O,O,O,O,O,O,O,O,O,O,O,O,O,O,O,O,O,O,O,O,O,O,O,O,O,O,O,O,O,O,O,O,O,O,O,O,O,O,O,O,O,O,O,O,O,O,O,O,O,O,O,O,O,O,O,O,O,O,O,O,O,O,O,O,O,O,O,O,O,O,O,O,O,O,O,O,O,O,O,O,O,O,O,O,O,O,O,O,O,O,O,O,O,O,O,O,O,O,O,O,O,O,O,O,O,O,O,O,O,O,O,O,O,O,O,O,O,O,O,O,O,O,O,O,O,O,O,O,O,O,O,O,O,O,O,O,O,O,O,O,O,O,O,O,O,O,O,O,O,O,O,O,O,O,O,O,O,O,O,O,O,O,O,O,O,O,O,O,O,O,O,O],[]⟩∧St w w' [⟨f,wc (vl),100⟩,⟨g,wc (List.replicate n1 0),100⟩]∧(vl.length=k)∧(Dig vl)∧(val vl=y * 2 ^ s)∧True) Q) ⟨#[E (some ad) n c,E (some bd) k d,O,O,E none 0 0,E none 0 0,O,O,O,O,J ((s:Nat):Int),E (some ⟨g,0,none⟩) n1 n1,E (some ⟨f,0,none⟩) k k,O,O,O,O,O,O,O,O,O,O,O,O,O,O,O,O,O,O,O,E (some ad) n c,E (some bd) k d,I (cmpN (x) (y)),T false,O,O,E (some bd) k d,I (k:Int),T false,O,O,O,O,O,O,O,O,O,O,O,O,O,O,O,O,O,O,O,O,O,O,O,O,O,O,O,O,O,O,O,O,O,O,O,O,O,O,E (some bd) k d,E (some bd) k d,I (k:Int),I ((kk:Nat):Int),.pointer (some (bd.add kk)),.int .u32 ((yt:Nat):Int),I ((s:Nat):Int),J ((s:Nat):Int),E (some ad) n c,I (n:Int),I ((n1:Nat):Int),E (some ⟨g,0,none⟩) n1 n1,E (some bd) k d,I (k:Int),E (some ⟨f,0,none⟩) k k,E (some bd) k d,I (k:Int),I 0,O,O,O,O,O,O,O,O,O,O,O,O,O,O,O,O,O,O,O,O,O,O,O,O,O,O,O,O,O,O,O,O,O,O,O,O,O,O,O,O,O,O,O,O,O,O,O,O,O,O,O,O,O,O,O,O,O,O,O,O,O,O,O,O,O,O,O,O,O,O,O,O,O,O,O,O,O,O,O,O,O,O,O,O,O,O,O,O,O,O,O,O,O,O,O,O,O,O,O,O,O,O,O,O,O,O,O,O,O,O,O,O,O,O,O,O,O,O,O,O,O,O,O,O,O,O,O,O,O,O,O,O,O,O,O,O,O,O,O,O,O,O,O,O,O,O,O,O,O,O,O,O,O,O,O,O,O,O,O,O,O,O,O,O,O,O,O,O,O,O,O,O,O,O,O,O,O,O,O,O,O,O,O,O,O,O,O,O,O,O,O,O,O,O,O,O,O,O,O,O,O,O,O,O,O,O,O,O,O,O,O,O,O,O,O,O,O,O,O,O,O,O,O,O,O,O,O,O,O,O,O,O,O,O,O,O,O,O,O,O,O,O,O,O,O,O,O,O,O,O,O,O,O,O,O,O,O,O,O,O,O,O,O,O,O,O,O,O,O,O,O,O,O,O,O,O,O,O,O,O,O,O,O,O,O,O,O,O,O,O,O,O,O,O,O],[]⟩ F:=by
 show (Code.block 2 _).wp _ _ _ _
 refine wp_block ?_
 refine wp_loop_g (fun mm aa_ w'=>∃ (i:Nat) (vl:List Nat) (b:List Value),aa_=⟨#[E (some ad) n c,E (some bd) k d,O,O,E none 0 0,E none 0 0,O,O,O,O,J ((s:Nat):Int),E (some ⟨g,0,none⟩) n1 n1,E (some ⟨f,0,none⟩) k k,(GD b 0),O,O,O,O,O,O,O,O,O,O,O,O,O,O,O,O,O,O,E (some ad) n c,E (some bd) k d,I (cmpN (x) (y)),T false,O,O,E (some bd) k d,I (k:Int),T false,O,O,O,O,O,O,O,O,O,O,O,O,O,O,O,O,O,O,O,O,O,O,O,O,O,O,O,O,O,O,O,O,O,O,O,O,O,O,E (some bd) k d,E (some bd) k d,I (k:Int),I ((kk:Nat):Int),.pointer (some (bd.add kk)),.int .u32 ((yt:Nat):Int),I ((s:Nat):Int),J ((s:Nat):Int),E (some ad) n c,I (n:Int),I ((n1:Nat):Int),E (some ⟨g,0,none⟩) n1 n1,E (some bd) k d,I (k:Int),E (some ⟨f,0,none⟩) k k,E (some bd) k d,I (k:Int),I ((i:Nat):Int),(GD b 1),(GD b 2),(GD b 3),(GD b 4),(GD b 5),(GD b 6),(GD b 7),(GD b 8),(GD b 9),(GD b 10),(GD b 11),(GD b 12),(GD b 13),(GD b 14),(GD b 15),(GD b 16),(GD b 17),(GD b 18),(GD b 19),(GD b 20),(GD b 21),(GD b 22),(GD b 23),(GD b 24),(GD b 25),(GD b 26),(GD b 27),(GD b 28),(GD b 29),(GD b 30),(GD b 31),(GD b 32),O,O,O,O,O,O,O,O,O,O,O,O,O,O,O,O,O,O,O,O,O,O,O,O,O,O,O,O,O,O,O,O,O,O,O,O,O,O,O,O,O,O,O,O,O,O,O,O,O,O,O,O,O,O,O,O,O,O,O,O,O,O,O,O,O,O,O,O,O,O,O,O,O,O,O,O,O,O,O,O,O,O,O,O,O,O,O,O,O,O,O,O,O,O,O,O,O,O,O,O,O,O,O,O,O,O,O,O,O,O,O,O,O,O,O,O,O,O,O,O,O,O,O,O,O,O,O,O,O,O,O,O,O,O,O,O,O,O,O,O,O,O,O,O,O,O,O,O,O,O,O,O,O,O,O,O,O,O,O,O,O,O,O,O,O,O,O,O,O,O,O,O,O,O,O,O,O,O,O,O,O,O,O,O,O,O,O,O,O,O,O,O,O,O,O,O,O,O,O,O,O,O,O,O,O,O,O,O,O,O,O,O,O,O,O,O,O,O,O,O,O,O,O,O,O,O,O,O,O,O,O,O,O,O,O,O,O,O,O,O,O,O,O,O,O,O,O,O,O,O,O,O,O,O,O,O,O,O,O,O,O,O,O],[]⟩∧St w w' [⟨f,wc (vl),100⟩,⟨g,wc (List.replicate n1 0),100⟩]∧(i≤k)∧(Shl (dg y) s i k vl)∧k - i=mm) (k) ⟨0,List.replicate k 0,[O,O,O,O,O,O,O,O,O,O,O,O,O,O,O,O,O,O,O,O,O,O,O,O,O,O,O,O,O,O,O,O,O],rfl,R,by omega,Shl.start,rfl⟩ ?_
 rintro _ _ ac ⟨i,vl,b,rfl,q,hik,hV,rfl⟩
 refine wp_seq_k fun ae G=>?_
 refine wp_region_lit ?_
 by_cases H:(((i:Nat):Int):Int)<(k:Int)
 ·skip
  refine PV (T true) (CT (run_bin (I ((i:Nat):Int)) (I (k:Int)) _ rfl rfl rfl (bin_lss_3 _ _ _ _)) (congrArg Value.bool (decide_eq_true H))) rfl ?_
  simp only [PA]
  refine wpList_nil ?_
  refine G _ _ ?_
  refine wp_seq_k fun af S=>?_
  refine cond_true rfl ?_
  refine wp_skip ?_
  refine S _ _ ?_
  refine wp_seq_k fun ag r=>?_
  refine wp_block ?_
  refine wp_seq_k fun ah V=>?_
  refine wp_region_lit ?_
  refine PV (I ((i:Nat):Int)) rfl rfl ?_
  simp only [PA]
  refine PV (I ((i:Nat):Int)) rfl rfl ?_
  simp only [PA]
  refine wpList_nil ?_
  refine V _ _ ?_
  refine wp_seq_k fun ai W=>?_
  refine wp_region_lit ?_
  refine PV (E (some ⟨f,0,none⟩) k k) rfl rfl ?_
  simp only [PA]
  refine PV (I ((i:Nat):Int)) rfl rfl ?_
  simp only [PA]
  refine PV (E (some bd) k d) rfl rfl ?_
  simp only [PA]
  refine PV (I ((i:Nat):Int)) rfl rfl ?_
  simp only [PA]
  refine PV (.pointer (some (bd.add i))) (run_idx (t:=36) rfl rfl rfl (by omega)) rfl ?_
  simp only [PA]
  obtain ⟨bi,hbi⟩:∃ z:Nat,(dg y).getD i 0=z:=⟨_,rfl⟩
  have hbiB:bi<BW:=hbi▸(dg_dig y).at_ i
  refine PV (.int .u32 ((bi:Nat):Int)) (CT (run_loadW _ rfl rfl ((hy.below q.bl).cellA (by first | omega)) (ag100 _)) (vnat hbi)) rfl ?_
  simp only [PA]
  refine PV (J ((s:Nat):Int)) rfl rfl ?_
  simp only [PA]
  obtain ⟨sh,hsh⟩:∃ z:Nat,bi * 2 ^ s % BW=z:=⟨_,rfl⟩
  refine PV (.int .u32 ((sh:Nat):Int)) (CT (run_bin (.int .u32 ((bi:Nat):Int)) (J ((s:Nat):Int)) _ rfl rfl rfl (bin_shl_100_u64 _ _ _ _)) ((vint w_shl_32).trans (vnat (by rw [N]; exact hsh)))) rfl ?_
  simp only [PA]
  refine PV (.pointer (some ⟨f,i,none⟩)) (run_idxB rfl rfl rfl (by omega)) rfl ?_
  simp only [PA]
  refine wpList_plain rfl fun K hK=>o_stB 0 (sh) ([⟨f,wc (((vl).set (i) (sh))),100⟩,⟨g,wc (List.replicate n1 0),100⟩]) rfl rfl rfl q rfl (by first | omega | (have:=hV.1; omega)) rfl fun aj A=>hK _ _ ?_
  simp only [PA]
  refine wpList_nil ?_
  refine W _ _ ?_
  refine wp_seq_k fun al C=>?_
  refine wp_region_lit ?_
  refine PV (I ((i:Nat):Int)) rfl rfl ?_
  simp only [PA]
  by_cases p:(0:Int)<((i:Nat):Int)
  ·skip
   refine PV (T true) (CT (run_bin (I ((i:Nat):Int)) (I 0) _ rfl rfl rfl (bin_gtr_3 _ _ _ _)) (congrArg Value.bool (decide_eq_true p))) rfl ?_
   simp only [PA]
   refine PV (T true) rfl rfl ?_
   simp only [PA]
   refine wpList_on (by kernel_rfl) fun K hK=>o_val (J ((s:Nat):Int)) rfl (hK _ _ ?_)
   simp only [PA]
   by_cases hs0_:(0:Int)<((s:Nat):Int)
   ·skip
    refine wpList_on (by kernel_rfl) fun K hK=>o_val (T true) (CT (run_bin (J ((s:Nat):Int)) (J 0) _ rfl rfl rfl (bin_gtr_106 _ _ _ _)) (congrArg Value.bool (decide_eq_true hs0_))) (hK _ _ ?_)
    simp only [PA]
    refine PV (T true) rfl rfl ?_
    simp only [PA]
    refine wpList_nil ?_
    refine C _ _ ?_
    refine cond_true rfl ?_
    refine region_drawnP 15 (fun j=>decide (14≤j)) (by kernel_rfl) rfl A fun am D an=>?_
    refine anyT_here (i:=0) (E (some ⟨f,0,none⟩) k k) rfl (by kernel_rfl) (by kernel_rfl) (by kernel_rfl) (by kernel_rfl) (fun _ _ _ h=>hQp _ _ _ _ _ h) rfl rfl ?_
    simp only [PA]
    refine anyT_here (i:=1) (I ((i:Nat):Int)) rfl (by kernel_rfl) (by kernel_rfl) (by kernel_rfl) (by kernel_rfl) (fun _ _ _ h=>hQp _ _ _ _ _ h) rfl rfl ?_
    simp only [PA]
    refine anyT_here (i:=2) (.pointer (some ⟨f,i,none⟩)) rfl (by kernel_rfl) (by kernel_rfl) (by kernel_rfl) (by kernel_rfl) (fun _ _ _ h=>hQp _ _ _ _ _ h) rfl (run_idxB rfl rfl rfl (by omega)) ?_
    simp only [PA]
    refine anyT_here (i:=3) (.int .u32 ((sh:Nat):Int)) rfl (by kernel_rfl) (by kernel_rfl) (by kernel_rfl) (by kernel_rfl) (fun _ _ _ h=>hQp _ _ _ _ _ h) rfl (CT (run_loadB rfl rfl (D.at_ _ (MI (i:=0) rfl)) (by first | omega | (simp only [List.length_set]; omega) | (simp only [List.length_set]; have:=hV.1; omega))) (vnat (shl_set (by have:=hV.1; omega)))) ?_
    simp only [PA]
    refine anyT_here (i:=4) (E (some bd) k d) rfl (by kernel_rfl) (by kernel_rfl) (by kernel_rfl) (by kernel_rfl) (fun _ _ _ h=>hQp _ _ _ _ _ h) rfl rfl ?_
    simp only [PA]
    refine anyT_here (i:=5) (I ((i:Nat):Int)) rfl (by kernel_rfl) (by kernel_rfl) (by kernel_rfl) (by kernel_rfl) (fun _ _ _ h=>hQp _ _ _ _ _ h) rfl rfl ?_
    simp only [PA]
    obtain ⟨l,X⟩:∃ z,i=z+1:=⟨i - 1,by omega⟩
    refine anyT_here (i:=6) (I ((l:Nat):Int)) rfl (by kernel_rfl) (by kernel_rfl) (by kernel_rfl) (by kernel_rfl) (fun _ _ _ h=>hQp _ _ _ _ _ h) rfl (CT (run_bin (I ((i:Nat):Int)) (I 1) _ rfl rfl rfl (bin_sub_3 _ _ _ _)) (vint (by rw [IntKind.wrap_i64]; omega))) ?_
    simp only [PA]
    refine anyT_here (i:=7) (.pointer (some (bd.add l))) rfl (by kernel_rfl) (by kernel_rfl) (by kernel_rfl) (by kernel_rfl) (fun _ _ _ h=>hQp _ _ _ _ _ h) rfl (run_idx (t:=36) rfl rfl rfl (by omega)) ?_
    simp only [PA]
    obtain ⟨bp,hbp⟩:∃ z:Nat,(dg y).getD l 0=z:=⟨_,rfl⟩
    refine anyT_here (i:=8) (.int .u32 ((bp:Nat):Int)) rfl (by kernel_rfl) (by kernel_rfl) (by kernel_rfl) (by kernel_rfl) (fun _ _ _ h=>hQp _ _ _ _ _ h) rfl (CT (run_loadW _ rfl rfl ((hy.below D.bl).cellA (by first | omega)) (ag100 _)) (vnat hbp)) ?_
    simp only [PA]
    refine anyT_here (i:=9) (J ((s:Nat):Int)) rfl (by kernel_rfl) (by kernel_rfl) (by kernel_rfl) (by kernel_rfl) (fun _ _ _ h=>hQp _ _ _ _ _ h) rfl rfl ?_
    simp only [PA]
    refine anyT_here (i:=10) (J ((32 - s:Nat):Int)) rfl (by kernel_rfl) (by kernel_rfl) (by kernel_rfl) (by kernel_rfl) (fun _ _ _ h=>hQp _ _ _ _ _ h) rfl (CT (run_bin (J 32) (J ((s:Nat):Int)) _ rfl rfl rfl (bin_sub_106 _ _ _ _)) (vint (w_sub (m:=32) (n:=s) (by omega) (by omega)))) ?_
    simp only [PA]
    obtain ⟨cp,hcp⟩:∃ z:Nat,bp / 2 ^ (32 - s)=z:=⟨_,rfl⟩
    have hcr:=cr_i (s:=s) X hbp hcp
    have hor:=or_cr (i:=i) o (dg_dig y) hbiB
    rw [hcr,hsh] at hor
    refine anyT_here (i:=11) (.int .u32 ((cp:Nat):Int)) rfl (by kernel_rfl) (by kernel_rfl) (by kernel_rfl) (by kernel_rfl) (fun _ _ _ h=>hQp _ _ _ _ _ h) rfl (CT (run_bin (.int .u32 ((bp:Nat):Int)) (J ((32 - s:Nat):Int)) _ rfl rfl rfl (bin_shr_100_u64 _ _ _ _)) ((vint w_shr_s32).trans (vnat (by rw [P]; exact hcp)))) ?_
    simp only [PA]
    obtain ⟨vv,hvv⟩:∃ z:Nat,sh+cp=z:=⟨_,rfl⟩
    refine anyT_here (i:=12) (.int .u32 ((vv:Nat):Int)) rfl (by kernel_rfl) (by kernel_rfl) (by kernel_rfl) (by kernel_rfl) (fun _ _ _ h=>hQp _ _ _ _ _ h) rfl (CT (run_bin (.int .u32 ((sh:Nat):Int)) (.int .u32 ((cp:Nat):Int)) _ rfl rfl rfl (bin_or_100 _ _ _ _)) ((vint (bits_or32 (by omega) (by omega))).trans (vnat (hor.1.trans hvv)))) ?_
    simp only [PA]
    refine anyT_here (i:=13) (.pointer (some ⟨f,i,none⟩)) rfl (by kernel_rfl) (by kernel_rfl) (by kernel_rfl) (by kernel_rfl) (fun _ _ _ h=>hQp _ _ _ _ _ h) rfl (run_idxB rfl rfl rfl (by omega)) ?_
    simp only [PA]
    refine anyT_one (i:=14) rfl (by kernel_rfl) rfl fun K hK=>o_stB 0 (vv) ([⟨f,wc (((((vl).set (i) (sh))).set (i) (vv))),100⟩,⟨g,wc (List.replicate n1 0),100⟩]) rfl rfl rfl D rfl (by first | omega | (simp only [List.length_set]; omega) | (simp only [List.length_set]; have:=hV.1; omega)) rfl fun ao Y=>hK _ _ (fun h=>absurd h (by decide)) ?_
    simp only [PA]
    refine anyT_done (by kernel_rfl) ?_ _
    refine r _ _ ?_
    refine wp_region_lit ?_
    refine PV (I ((i+1:Nat):Int)) (CT (run_bin (I ((i:Nat):Int)) (I 1) _ rfl rfl rfl (bin_add_3 _ _ _ _)) (vint (i_add (m:=i) (n:=1) (by omega)))) rfl ?_
    simp only [PA]
    refine PV (I ((i+1:Nat):Int)) rfl rfl ?_
    simp only [PA]
    refine wpList_nil ?_
    exact ⟨k - (i+1),by omega,i+1,((((vl).set (i) (sh))).set (i) (vv)),[I ((i:Nat):Int),T true,I ((i:Nat):Int),E (some ⟨f,0,none⟩) k k,I ((i:Nat):Int),E (some bd) k d,I ((i:Nat):Int),.pointer (some (bd.add i)),.int .u32 ((bi:Nat):Int),J ((s:Nat):Int),.int .u32 ((sh:Nat):Int),.pointer (some ⟨f,i,none⟩),I ((i:Nat):Int),T true,T true,J ((s:Nat):Int),T true,T true,E (some ⟨f,0,none⟩) k k,I ((i:Nat):Int),.pointer (some ⟨f,i,none⟩),.int .u32 ((sh:Nat):Int),E (some bd) k d,I ((i:Nat):Int),I ((l:Nat):Int),.pointer (some (bd.add l)),.int .u32 ((bp:Nat):Int),J ((s:Nat):Int),J ((32 - s:Nat):Int),.int .u32 ((cp:Nat):Int),.int .u32 ((vv:Nat):Int),.pointer (some ⟨f,i,none⟩),I ((i+1:Nat):Int)],rfl,Y,by omega,by rw [List.set_set]; exact hV.next o (dg_dig _) (by omega) hbi (by rw [hcr]; omega),rfl⟩
   ·skip
    refine wpList_on (by kernel_rfl) fun K hK=>o_val (T false) (CT (run_bin (J ((s:Nat):Int)) (J 0) _ rfl rfl rfl (bin_gtr_106 _ _ _ _)) (congrArg Value.bool (decide_eq_false hs0_))) (hK _ _ ?_)
    simp only [PA]
    refine PV (T false) rfl rfl ?_
    simp only [PA]
    refine wpList_nil ?_
    refine C _ _ ?_
    refine cond_false rfl ?_
    refine wp_skip ?_
    refine r _ _ ?_
    refine wp_region_lit ?_
    refine PV (I ((i+1:Nat):Int)) (CT (run_bin (I ((i:Nat):Int)) (I 1) _ rfl rfl rfl (bin_add_3 _ _ _ _)) (vint (i_add (m:=i) (n:=1) (by omega)))) rfl ?_
    simp only [PA]
    refine PV (I ((i+1:Nat):Int)) rfl rfl ?_
    simp only [PA]
    refine wpList_nil ?_
    exact ⟨k - (i+1),by omega,i+1,((vl).set (i) (sh)),[I ((i:Nat):Int),T true,I ((i:Nat):Int),E (some ⟨f,0,none⟩) k k,I ((i:Nat):Int),E (some bd) k d,I ((i:Nat):Int),.pointer (some (bd.add i)),.int .u32 ((bi:Nat):Int),J ((s:Nat):Int),.int .u32 ((sh:Nat):Int),.pointer (some ⟨f,i,none⟩),I ((i:Nat):Int),T true,T true,J ((s:Nat):Int),T false,T false,(GD b 18),(GD b 19),(GD b 20),(GD b 21),(GD b 22),(GD b 23),(GD b 24),(GD b 25),(GD b 26),(GD b 27),(GD b 28),(GD b 29),(GD b 30),(GD b 31),I ((i+1:Nat):Int)],rfl,A,by omega,hV.next o (dg_dig _) (by omega) hbi (by first | (rw [cr_0 p]; omega) | (rw [cr_s0 (dg_dig _) (by omega)]; omega)),rfl⟩
  ·skip
   refine PV (T false) (CT (run_bin (I ((i:Nat):Int)) (I 0) _ rfl rfl rfl (bin_gtr_3 _ _ _ _)) (congrArg Value.bool (decide_eq_false p))) rfl ?_
   simp only [PA]
   refine PV (T false) rfl rfl ?_
   simp only [PA]
   with_reducible refine wpList_off ?_ ?_
   ·with_reducible exact wanted_off rfl rfl rfl
   simp only [PA]
   with_reducible refine wpList_off ?_ ?_
   ·with_reducible exact wanted_off rfl rfl rfl
   simp only [PA]
   refine PV (T false) rfl rfl ?_
   simp only [PA]
   refine wpList_nil ?_
   refine C _ _ ?_
   refine cond_false rfl ?_
   refine wp_skip ?_
   refine r _ _ ?_
   refine wp_region_lit ?_
   refine PV (I ((i+1:Nat):Int)) (CT (run_bin (I ((i:Nat):Int)) (I 1) _ rfl rfl rfl (bin_add_3 _ _ _ _)) (vint (i_add (m:=i) (n:=1) (by omega)))) rfl ?_
   simp only [PA]
   refine PV (I ((i+1:Nat):Int)) rfl rfl ?_
   simp only [PA]
   refine wpList_nil ?_
   exact ⟨k - (i+1),by omega,i+1,((vl).set (i) (sh)),[I ((i:Nat):Int),T true,I ((i:Nat):Int),E (some ⟨f,0,none⟩) k k,I ((i:Nat):Int),E (some bd) k d,I ((i:Nat):Int),.pointer (some (bd.add i)),.int .u32 ((bi:Nat):Int),J ((s:Nat):Int),.int .u32 ((sh:Nat):Int),.pointer (some ⟨f,i,none⟩),I ((i:Nat):Int),T false,T false,O,O,T false,(GD b 18),(GD b 19),(GD b 20),(GD b 21),(GD b 22),(GD b 23),(GD b 24),(GD b 25),(GD b 26),(GD b 27),(GD b 28),(GD b 29),(GD b 30),(GD b 31),I ((i+1:Nat):Int)],rfl,A,by omega,hV.next o (dg_dig _) (by omega) hbi (by first | (rw [cr_0 p]; omega) | (rw [cr_s0 (dg_dig _) (by omega)]; omega)),rfl⟩
 ·skip
  refine PV (T false) (CT (run_bin (I ((i:Nat):Int)) (I (k:Int)) _ rfl rfl rfl (bin_lss_3 _ _ _ _)) (congrArg Value.bool (decide_eq_false H))) rfl ?_
  simp only [PA]
  refine wpList_nil ?_
  refine G _ _ ?_
  refine wp_seq_k fun ap aq=>?_
  refine cond_false rfl ?_
  refine wp_exit ?_
  exact ⟨vl,[(GD b 0),I ((i:Nat):Int),T false,(GD b 2),(GD b 3),(GD b 4),(GD b 5),(GD b 6),(GD b 7),(GD b 8),(GD b 9),(GD b 10),(GD b 11),(GD b 12),(GD b 13),(GD b 14),(GD b 15),(GD b 16),(GD b 17),(GD b 18),(GD b 19),(GD b 20),(GD b 21),(GD b 22),(GD b 23),(GD b 24),(GD b 25),(GD b 26),(GD b 27),(GD b 28),(GD b 29),(GD b 30),(GD b 31),(GD b 32)],rfl,q,hV.1,hV.2.1,by have L:=hV.2.2; rw [show i=k by omega] at L; rw [cr_top hV.1 hyl hV.2.1 L (by rw [val_dg]; exact hYB),val_dg],trivial⟩
end Go.Proofs.Ythhgjloephkpaaa
