/- Words and walks for the row RowRatField, put together: RPA, RPC, RLZ, RT, RW, RY, RIS, RZA. -/
import Derived.Test.YthhgjloephkpaaaFiRWD
import Derived.Test.YthhgjloephkpaaaFi4
import Derived.Test.YthhgjloephkpaaaFi1
import Derived.Laws.MathBits
import Derived.Test.YthhgjloephkpaaaFi5
namespace Go.Proofs.Ythhgjloephkpaaa
set_option linter.unusedVariables false
set_option linter.unusedSimpArgs false
open Go Go.RowKit Go.Proofs.YthhgjloephkpaaaW.PrintWords Go.Proofs.YthhgjloephkpaaaW.PrintLast
section
variable {Q : Exit → Act → World → Prop} {o : Oper} {a : Act} {w w0 : World} {K : Act → World → Prop} {L : List Bx}
theorem St.new {w' : World} {g : Nat} {cs : Array Value} {t : TypeId} (hs : St w0 w L) (hb : Below w.heap.size w w') (hg : w.heap.size ≤ g) (hh : w'.heap[g]? = some (.cells cs t (0, 0))) : St w0 w' (⟨g, cs, t⟩ :: L) := by
  have h2 := hs.below hb
  refine ⟨h2.bl, ?_, ?_, ?_⟩
  · intro e he
    rcases List.mem_cons.1 he with e1 | e1
    · subst e1; have := hs.bl.size; show w0.heap.size ≤ g; omega
    · exact h2.ge e e1
  · intro e he
    rcases List.mem_cons.1 he with e1 | e1
    · subst e1; exact hh
    · exact h2.at_ e e1
  · rw [List.map_cons, List.nodup_cons]
    refine ⟨fun hm => ?_, h2.nd⟩
    obtain ⟨e, he, hg2⟩ := List.mem_map.1 hm
    have := hs.lt e he
    have h3 : e.g = g := hg2
    omega
set_option maxRecDepth 100000 in
theorem run_lit (ρ : Operand → Value) (o : Oper) (w : World) (x : Operand) (n : Int) (ho : o.op = .buildSlice 36 1 #[(0, x)]) (hc : ρ x = .int .u32 n) : (execOp ρ o).run Try.prog w = .ok (.value (.slice (some ⟨w.heap.size, 0, none⟩) 1 1)) (w.alloc (.cells #[.int .u32 n] 100)) := by
  unfold execOp
  simp only [ho, List.map_toArray, List.map_cons, List.map_nil, hc]
  first | kernel_rfl | simp [go_sem]
theorem o_lit {x : Operand} (n : Nat) (ho : o.op = .buildSlice 36 1 #[(0, x)]) (hx : a.eval x = .int .u32 (n : Int)) (hs : St w0 w L)
    (h : ∀ g w', St w0 w' (⟨g, wc [n], 100⟩ :: L) → U w w' → K (a.put o.dst (.slice (some ⟨g, 0, none⟩) 1 1)) w') : o.wp Try.prog a w K Q := by
  have hr := run_lit a.eval o w x n ho hx
  unfold Oper.wp
  rw [hr]
  exact h w.heap.size _ (hs.box #[.int .u32 (n : Int)] 100) (U.box w _)
end
theorem wds_len {w : World} {g n : Nat} {ls : List Nat} {t : TypeId} (h : w.heap[g]? = some (.cells (wc ls) t (0, 0))) (hl : ls.length = n ∧ n ≤ 10000000000) : Wds w (some ⟨g, 0, none⟩) n n ls := by
  obtain ⟨rfl, hm⟩ := hl
  exact wds_wc h (by omega)
theorem drop_repl (n : Nat) : val ((List.replicate n 0).drop n) = 0 := by rw [List.drop_of_length_le (by simp)]; rfl
/-- What the division by one word leaves. -/
theorem div1_end {x b rest : Nat} {ls : List Nat} (hr : rest < b) (h : val ((dg x).drop 0) = val (ls.drop 0) * b + rest) : val ls = x / b ∧ rest = x % b := by
  rw [List.drop_zero, List.drop_zero, val_dg] at h
  rw [Nat.mul_comm] at h
  constructor
  · rw [h, Nat.mul_add_div (by omega), Nat.div_eq_of_lt hr, Nat.add_zero]
  · rw [h, Nat.mul_add_mod, Nat.mod_eq_of_lt hr]
theorem one_word {y : Nat} (hl : (dg y).length = 1) : (dg y).getD 0 0 = y := by
  have hv := val_dg y
  cases hd : dg y with
  | nil => rw [hd] at hl; simp at hl
  | cons a l =>
    cases l with
    | nil => rw [hd] at hv; simpa [val] using hv
    | cons b l => rw [hd] at hl; simp at hl
theorem cmpN_lss {x y : Nat} (h : x < y) : decide (cmpN x y < 0) = true := by rw [cmpN_lt h]; rfl
theorem cmpN_nlss {x y : Nat} (h : ¬ x < y) : decide (cmpN x y < 0) = false := by
  unfold cmpN; rw [if_neg h]; split <;> rfl
end Go.Proofs.Ythhgjloephkpaaa
namespace Go.Proofs.Ythhgjloephkpaaa
set_option linter.unusedVariables false
set_option linter.unusedSimpArgs false
open Go Go.RowKit Go.Proofs.YthhgjloephkpaaaW.PrintWords Go.Proofs.YthhgjloephkpaaaW.PrintLast
theorem zero_at {l : List Nat} {m : Nat} (h : val (l.drop m) = 0) : l.getD m 0 = 0 := by
  by_cases hm : m < l.length
  · rw [drop_cons hm, val_cons] at h; omega
  · exact getD_ge (by omega)
theorem ylen {y s k : Nat} {ly : List Nat} (hyl : (dg y).length = k) (hk : 1 ≤ k) (hv : val ly = y * 2 ^ s) (ht1 : 2147483648 ≤ (dg y).getD (k - 1) 0 * 2 ^ s) (ht2 : (dg y).getD (k - 1) 0 * 2 ^ s < BW) (hs : s ≤ 31) : BW ^ (k - 1) * 2 ^ 31 ≤ val ly ∧ (dg (val ly)).length = k := by
  obtain ⟨j, rfl⟩ : ∃ j, k = j + 1 := ⟨k - 1, by omega⟩
  rw [Nat.add_sub_cancel] at *
  have h1 := val_take_step (dg y) j
  rw [val_take_le (by omega), val_dg] at h1
  have h2 := val_lt ((dg_dig y).take j)
  rw [List.length_take, Nat.min_eq_left (by omega)] at h2
  have e : val ly = val ((dg y).take j) * 2 ^ s + BW ^ j * ((dg y).getD j 0 * 2 ^ s) := hv.trans ((congrArg (· * 2 ^ s) h1).trans (by simp only [Nat.add_mul, Nat.mul_assoc]))
  have h3 : BW ^ j * 2147483648 ≤ BW ^ j * ((dg y).getD j 0 * 2 ^ s) := Nat.mul_le_mul_left _ ht1
  have h4 : val ly < BW ^ (j + 1) := by
    have h5 : val ((dg y).take j) * 2 ^ s < BW ^ j * 2 ^ s := Nat.mul_lt_mul_of_pos_right h2 (Nat.two_pow_pos s)
    -- the top word's multiple leaves room for the rest
    have h6 : (dg y).getD j 0 * 2 ^ s + 2 ^ s ≤ BW := by
      have hB : BW = 2 ^ s * 2 ^ (32 - s) := BW_split (by omega)
      have h7 : (dg y).getD j 0 < 2 ^ (32 - s) := by
        rw [hB, Nat.mul_comm] at ht2
        exact Nat.lt_of_mul_lt_mul_left ht2
      have h8 : ((dg y).getD j 0 + 1) * 2 ^ s ≤ 2 ^ (32 - s) * 2 ^ s := Nat.mul_le_mul_right _ h7
      rw [Nat.add_mul, Nat.one_mul, Nat.mul_comm (2 ^ (32 - s)), ← hB] at h8
      exact h8
    have h9 : BW ^ j * ((dg y).getD j 0 * 2 ^ s + 2 ^ s) ≤ BW ^ j * BW := Nat.mul_le_mul_left _ h6
    have hp : BW ^ (j + 1) = BW ^ j * BW := Nat.pow_succ ..
    rw [Nat.mul_add, ← hp] at h9
    omega
  refine ⟨?_, ?_⟩
  · rw [show (2 ^ 31 : Nat) = 2147483648 from rfl]; omega
  · have h5 := dg_len_le h4
    have h6 : BW ^ j ≤ val ly := by
      have h10 : BW ^ j * 1 ≤ BW ^ j * 2147483648 := Nat.mul_le_mul_left _ (by decide)
      omega
    rcases Nat.lt_or_ge (dg (val ly)).length (j + 1) with h7 | h7
    · have h8 := dg_lt (val ly)
      have h9 : BW ^ (dg (val ly)).length ≤ BW ^ j := Nat.pow_le_pow_right BW_pos (by omega)
      omega
    · omega
theorem long_quo {x y s : Nat} {outs ls : List Nat} (h : val outs = x * 2 ^ s / (y * 2 ^ s) ∧ val ls = x * 2 ^ s % (y * 2 ^ s)) : val outs = x / y ∧ val ls / 2 ^ s = x % y := by
  have h0 := Nat.two_pow_pos s
  constructor
  · rw [h.1, Nat.mul_div_mul_right _ _ h0]
  · rw [h.2, Nat.mul_mod_mul_right, Nat.mul_div_cancel _ h0]
end Go.Proofs.Ythhgjloephkpaaa
namespace Go.Proofs.Ythhgjloephkpaaa
set_option linter.unusedVariables false
set_option linter.unusedSimpArgs false
open Go Go.RowKit Go.Proofs.YthhgjloephkpaaaW.PrintWords Go.Proofs.YthhgjloephkpaaaW.PrintLast
theorem run_idx8 {o : Oper} {a : Act} {w : World} {x ix : Operand} {i : Nat} (ho : o.op = .index 9 x ix) (hx : ∃ s, a.eval x = .string s ∧ ((List.range 256).all fun j => match s[j]? with | some b => b.toNat == Go.bitLen j | none => false) = true) (hi : a.eval ix = .int .u8 (i : Int)) (h : i < 256) :
  (execOp a.eval o).run Try.prog w = .ok (.value (.int .u8 ((Go.bitLen i : Nat) : Int))) w := by
 obtain ⟨s, hs, hc⟩ := hx
 have h1 := List.all_eq_true.1 hc i (List.mem_range.2 h)
 cases hb : s[i]? with
 | none => rw [hb] at h1; cases h1
 | some b =>
  rw [hb] at h1
  have h2 : b.toNat = Go.bitLen i := beq_iff_eq.1 h1
  have hr : (Instr.index 9 (.string s) (.int .u8 (i : Int))).run Try.prog w = .ok (.int .u8 ((Go.bitLen i : Nat) : Int)) w := by
   simp [go_sem, Instr.index]
   rw [hb]
   simp [h2]
  unfold execOp
  simp only [ho, hs, hi]
  rw [Sem.run_bind, hr]
  rfl
theorem wrap_u8 {n : Nat} (h : n < 256) : IntKind.u8.wrap (n : Int) = (n : Int) := by rw [IntKind.wrap_u8]; omega
theorem w_shr16 {x : Nat} : ((x : Nat) : Int) / 2 ^ (min 16 32) = ((x / 65536 : Nat) : Int) := by rw [show (2 : Int) ^ (min 16 32) = 65536 from by decide]; omega
theorem w_shr8 {x : Nat} : ((x : Nat) : Int) / 2 ^ (min 8 32) = ((x / 256 : Nat) : Int) := by rw [show (2 : Int) ^ (min 8 32) = 256 from by decide]; omega
theorem len_tt {x : Nat} (h : 256 ≤ x / 65536) : 24 + Go.bitLen (x / 65536 / 256) = Go.bitLen x := by
 have := Go.bitLen_shift x 24 (by rw [show (2 : Nat) ^ 24 = 16777216 from rfl]; omega)
 rw [this, show (2 : Nat) ^ 24 = 16777216 from rfl, Nat.div_div_eq_div_mul]
theorem len_tf {x : Nat} (h : 65536 ≤ x) : 16 + Go.bitLen (x / 65536) = Go.bitLen x := (Go.bitLen_shift x 16 (by rw [show (2 : Nat) ^ 16 = 65536 from rfl]; omega)).symm
theorem len_ft {x : Nat} (h : 256 ≤ x) : 8 + Go.bitLen (x / 256) = Go.bitLen x := (Go.bitLen_shift x 8 (by rw [show (2 : Nat) ^ 8 = 256 from rfl]; omega)).symm
set_option maxRecDepth 100000 in
set_option maxHeartbeats 3000000 in
theorem len32_c {x:Nat} {w:World} (hx:x<4294967296):Calls Try.prog 127 #[.int .u32 ((x:Nat):Int)] w (RetI w ((Go.bitLen x:Nat):Int)):=by
 go_enter Try.func127,Try.ntmps127
 have b:=St.start w
 refine wp_seq_k fun t j=>?_
 refine wp_region_lit ?_
 refine PV (I 0) rfl rfl ?_
 simp only [PA]
 refine wpList_nil ?_
 refine j _ _ ?_
 refine wp_seq_k fun v c=>?_
 refine wp_seq_k fun y d=>?_
 refine wp_region_lit ?_
 refine PV (.int .u32 ((x:Nat):Int)) rfl rfl ?_
 simp only [PA]
 by_cases e:(65536:Int)≤((x:Nat):Int)
 ·skip
  refine PV (T true) (CT (run_bin (.int .u32 ((x:Nat):Int)) (.int .u32 65536) _ rfl rfl rfl (bin_geq_100 _ _ _ _)) (congrArg Value.bool (decide_eq_true e))) rfl ?_
  simp only [PA]
  refine wpList_nil ?_
  refine d _ _ ?_
  refine cond_true rfl ?_
  refine wp_seq_k fun z k=>?_
  refine wp_region_lit ?_
  refine PV (.int .u32 ((x:Nat):Int)) rfl rfl ?_
  simp only [PA]
  refine PV (.int .u32 ((x / 65536:Nat):Int)) (CT (run_bin (.int .u32 ((x:Nat):Int)) (J 16) _ rfl rfl rfl (bin_shr_100_u64 _ _ _ _)) (vint w_shr16)) rfl ?_
  simp only [PA]
  refine PV (.int .u32 ((x / 65536:Nat):Int)) rfl rfl ?_
  simp only [PA]
  refine wpList_nil ?_
  refine k _ _ ?_
  refine wp_region_lit ?_
  refine PV (I 16) rfl rfl ?_
  simp only [PA]
  refine wpList_nil ?_
  refine c _ _ ?_
  refine wp_seq_k fun A f=>?_
  refine wp_seq_k fun C g=>?_
  refine wp_region_lit ?_
  refine PV (.int .u32 ((x / 65536:Nat):Int)) rfl rfl ?_
  simp only [PA]
  by_cases a:(256:Int)≤((x / 65536:Nat):Int)
  ·skip
   refine PV (T true) (CT (run_bin (.int .u32 ((x / 65536:Nat):Int)) (.int .u32 256) _ rfl rfl rfl (bin_geq_100 _ _ _ _)) (congrArg Value.bool (decide_eq_true a))) rfl ?_
   simp only [PA]
   refine wpList_nil ?_
   refine g _ _ ?_
   refine cond_true rfl ?_
   refine wp_seq_k fun D l=>?_
   refine wp_region_lit ?_
   refine PV (.int .u32 ((x / 65536:Nat):Int)) rfl rfl ?_
   simp only [PA]
   refine PV (.int .u32 ((x / 65536 / 256:Nat):Int)) (CT (run_bin (.int .u32 ((x / 65536:Nat):Int)) (J 8) _ rfl rfl rfl (bin_shr_100_u64 _ _ _ _)) (vint w_shr8)) rfl ?_
   simp only [PA]
   refine PV (.int .u32 ((x / 65536 / 256:Nat):Int)) rfl rfl ?_
   simp only [PA]
   refine wpList_nil ?_
   refine l _ _ ?_
   refine wp_region_lit ?_
   refine PV (I 16) rfl rfl ?_
   simp only [PA]
   refine PV (I ((24:Nat):Int)) (CT (run_bin (I 16) (I 8) _ rfl rfl rfl (bin_add_3 _ _ _ _)) (vint (by rw [IntKind.wrap_i64]; rfl))) rfl ?_
   simp only [PA]
   refine PV (I ((24:Nat):Int)) rfl rfl ?_
   simp only [PA]
   refine wpList_nil ?_
   refine f _ _ ?_
   refine wp_seq_k fun F o=>?_
   refine wp_region_lit ?_
   refine PV (I ((24:Nat):Int)) rfl rfl ?_
   simp only [PA]
   refine PV (.int .u32 ((x / 65536 / 256:Nat):Int)) rfl rfl ?_
   simp only [PA]
   refine PV (.int .u8 ((x / 65536 / 256:Nat):Int)) (run_cv _ rfl rfl rfl rfl (wrap_u8 (by omega))) rfl ?_
   simp only [PA]
   refine PV (.int .u8 ((Go.bitLen (x / 65536 / 256):Nat):Int)) (run_idx8 rfl ⟨_,rfl,by kernel_rfl⟩ rfl (by omega)) rfl ?_
   simp only [PA]
   refine PV (I ((Go.bitLen (x / 65536 / 256):Nat):Int)) (run_cv _ rfl rfl rfl rfl (wrap_i64 (by have:=Go.bitLen_le8 ((x / 65536 / 256)) (by omega); omega))) rfl ?_
   simp only [PA]
   refine PV (I ((Go.bitLen x:Nat):Int)) (CT (run_bin (I ((24:Nat):Int)) (I ((Go.bitLen (x / 65536 / 256):Nat):Int)) _ rfl rfl rfl (bin_add_3 _ _ _ _)) ((vint (i_add (m:=24) (n:=Go.bitLen (x / 65536 / 256)) (by have:=Go.bitLen_le8 (x / 65536 / 256) (by omega); omega))).trans (vnat (len_tt (by omega))))) rfl ?_
   simp only [PA]
   refine PV (I ((Go.bitLen x:Nat):Int)) rfl rfl ?_
   simp only [PA]
   refine wpList_nil ?_
   refine o _ _ ?_
   refine wp_ret ?_
   refine bodyPost_ret (results_tmp rfl _ _ _) rfl ?_
   exact ⟨⟨_,rfl,by first | rfl | exact vnat (Nat.zero_add _)⟩,b.bl⟩
  ·skip
   refine PV (T false) (CT (run_bin (.int .u32 ((x / 65536:Nat):Int)) (.int .u32 256) _ rfl rfl rfl (bin_geq_100 _ _ _ _)) (congrArg Value.bool (decide_eq_false a))) rfl ?_
   simp only [PA]
   refine wpList_nil ?_
   refine g _ _ ?_
   refine cond_false rfl ?_
   refine wp_skip ?_
   refine f _ _ ?_
   refine wp_seq_k fun G p=>?_
   refine wp_region_lit ?_
   refine PV (I 16) rfl rfl ?_
   simp only [PA]
   refine PV (.int .u32 ((x / 65536:Nat):Int)) rfl rfl ?_
   simp only [PA]
   refine PV (.int .u8 ((x / 65536:Nat):Int)) (run_cv _ rfl rfl rfl rfl (wrap_u8 (by omega))) rfl ?_
   simp only [PA]
   refine PV (.int .u8 ((Go.bitLen (x / 65536):Nat):Int)) (run_idx8 rfl ⟨_,rfl,by kernel_rfl⟩ rfl (by omega)) rfl ?_
   simp only [PA]
   refine PV (I ((Go.bitLen (x / 65536):Nat):Int)) (run_cv _ rfl rfl rfl rfl (wrap_i64 (by have:=Go.bitLen_le8 ((x / 65536)) (by omega); omega))) rfl ?_
   simp only [PA]
   refine PV (I ((Go.bitLen x:Nat):Int)) (CT (run_bin (I 16) (I ((Go.bitLen (x / 65536):Nat):Int)) _ rfl rfl rfl (bin_add_3 _ _ _ _)) ((vint (i_add (m:=16) (n:=Go.bitLen (x / 65536)) (by have:=Go.bitLen_le8 (x / 65536) (by omega); omega))).trans (vnat (len_tf (by omega))))) rfl ?_
   simp only [PA]
   refine PV (I ((Go.bitLen x:Nat):Int)) rfl rfl ?_
   simp only [PA]
   refine wpList_nil ?_
   refine p _ _ ?_
   refine wp_ret ?_
   refine bodyPost_ret (results_tmp rfl _ _ _) rfl ?_
   exact ⟨⟨_,rfl,by first | rfl | exact vnat (Nat.zero_add _)⟩,b.bl⟩
 ·skip
  refine PV (T false) (CT (run_bin (.int .u32 ((x:Nat):Int)) (.int .u32 65536) _ rfl rfl rfl (bin_geq_100 _ _ _ _)) (congrArg Value.bool (decide_eq_false e))) rfl ?_
  simp only [PA]
  refine wpList_nil ?_
  refine d _ _ ?_
  refine cond_false rfl ?_
  refine wp_skip ?_
  refine c _ _ ?_
  refine wp_seq_k fun H h=>?_
  refine wp_seq_k fun L i=>?_
  refine wp_region_lit ?_
  refine PV (.int .u32 ((x:Nat):Int)) rfl rfl ?_
  simp only [PA]
  by_cases a:(256:Int)≤((x:Nat):Int)
  ·skip
   refine PV (T true) (CT (run_bin (.int .u32 ((x:Nat):Int)) (.int .u32 256) _ rfl rfl rfl (bin_geq_100 _ _ _ _)) (congrArg Value.bool (decide_eq_true a))) rfl ?_
   simp only [PA]
   refine wpList_nil ?_
   refine i _ _ ?_
   refine cond_true rfl ?_
   refine wp_seq_k fun M q=>?_
   refine wp_region_lit ?_
   refine PV (.int .u32 ((x:Nat):Int)) rfl rfl ?_
   simp only [PA]
   refine PV (.int .u32 ((x / 256:Nat):Int)) (CT (run_bin (.int .u32 ((x:Nat):Int)) (J 8) _ rfl rfl rfl (bin_shr_100_u64 _ _ _ _)) (vint w_shr8)) rfl ?_
   simp only [PA]
   refine PV (.int .u32 ((x / 256:Nat):Int)) rfl rfl ?_
   simp only [PA]
   refine wpList_nil ?_
   refine q _ _ ?_
   refine wp_region_lit ?_
   refine PV (I 0) rfl rfl ?_
   simp only [PA]
   refine PV (I ((8:Nat):Int)) (CT (run_bin (I 0) (I 8) _ rfl rfl rfl (bin_add_3 _ _ _ _)) (vint (by rw [IntKind.wrap_i64]; rfl))) rfl ?_
   simp only [PA]
   refine PV (I ((8:Nat):Int)) rfl rfl ?_
   simp only [PA]
   refine wpList_nil ?_
   refine h _ _ ?_
   refine wp_seq_k fun N r=>?_
   refine wp_region_lit ?_
   refine PV (I ((8:Nat):Int)) rfl rfl ?_
   simp only [PA]
   refine PV (.int .u32 ((x / 256:Nat):Int)) rfl rfl ?_
   simp only [PA]
   refine PV (.int .u8 ((x / 256:Nat):Int)) (run_cv _ rfl rfl rfl rfl (wrap_u8 (by omega))) rfl ?_
   simp only [PA]
   refine PV (.int .u8 ((Go.bitLen (x / 256):Nat):Int)) (run_idx8 rfl ⟨_,rfl,by kernel_rfl⟩ rfl (by omega)) rfl ?_
   simp only [PA]
   refine PV (I ((Go.bitLen (x / 256):Nat):Int)) (run_cv _ rfl rfl rfl rfl (wrap_i64 (by have:=Go.bitLen_le8 ((x / 256)) (by omega); omega))) rfl ?_
   simp only [PA]
   refine PV (I ((Go.bitLen x:Nat):Int)) (CT (run_bin (I ((8:Nat):Int)) (I ((Go.bitLen (x / 256):Nat):Int)) _ rfl rfl rfl (bin_add_3 _ _ _ _)) ((vint (i_add (m:=8) (n:=Go.bitLen (x / 256)) (by have:=Go.bitLen_le8 (x / 256) (by omega); omega))).trans (vnat (len_ft (by omega))))) rfl ?_
   simp only [PA]
   refine PV (I ((Go.bitLen x:Nat):Int)) rfl rfl ?_
   simp only [PA]
   refine wpList_nil ?_
   refine r _ _ ?_
   refine wp_ret ?_
   refine bodyPost_ret (results_tmp rfl _ _ _) rfl ?_
   exact ⟨⟨_,rfl,by first | rfl | exact vnat (Nat.zero_add _)⟩,b.bl⟩
  ·skip
   refine PV (T false) (CT (run_bin (.int .u32 ((x:Nat):Int)) (.int .u32 256) _ rfl rfl rfl (bin_geq_100 _ _ _ _)) (congrArg Value.bool (decide_eq_false a))) rfl ?_
   simp only [PA]
   refine wpList_nil ?_
   refine i _ _ ?_
   refine cond_false rfl ?_
   refine wp_skip ?_
   refine h _ _ ?_
   refine wp_seq_k fun P s=>?_
   refine wp_region_lit ?_
   refine PV (I 0) rfl rfl ?_
   simp only [PA]
   refine PV (.int .u32 ((x:Nat):Int)) rfl rfl ?_
   simp only [PA]
   refine PV (.int .u8 ((x:Nat):Int)) (run_cv _ rfl rfl rfl rfl (wrap_u8 (by omega))) rfl ?_
   simp only [PA]
   refine PV (.int .u8 ((Go.bitLen (x):Nat):Int)) (run_idx8 rfl ⟨_,rfl,by kernel_rfl⟩ rfl (by omega)) rfl ?_
   simp only [PA]
   refine PV (I ((Go.bitLen (x):Nat):Int)) (run_cv _ rfl rfl rfl rfl (wrap_i64 (by have:=Go.bitLen_le8 ((x)) (by omega); omega))) rfl ?_
   simp only [PA]
   refine PV (I ((0+Go.bitLen x:Nat):Int)) (CT (run_bin (I 0) (I ((Go.bitLen (x):Nat):Int)) _ rfl rfl rfl (bin_add_3 _ _ _ _)) (vint (i_add (m:=0) (n:=Go.bitLen x) (by have:=Go.bitLen_le8 (x) (by omega); omega)))) rfl ?_
   simp only [PA]
   refine PV (I ((0+Go.bitLen x:Nat):Int)) rfl rfl ?_
   simp only [PA]
   refine wpList_nil ?_
   refine s _ _ ?_
   refine wp_ret ?_
   refine bodyPost_ret (results_tmp rfl _ _ _) rfl ?_
   exact ⟨⟨_,rfl,by first | rfl | exact vnat (Nat.zero_add _)⟩,b.bl⟩
theorem lz_law {x b s : Nat} (h0 : 0 < x) (hx : x < 4294967296) (hb : Go.bitLen x = b) (hs : 32 - b = s) : b ≤ 32 ∧ s ≤ 31 ∧ 2147483648 ≤ x * 2 ^ s ∧ x * 2 ^ s < BW := by
 subst hb
 obtain ⟨h1, h2⟩ := Go.bitLen_spec x
 have h2 := h2 (by omega)
 generalize Go.bitLen x = b at *
 have hb0 : 1 ≤ b := by
  rcases Nat.eq_zero_or_pos b with h | h
  ·subst h; omega
  ·exact h
 have hb1 : b ≤ 32 := by
  rcases Nat.lt_or_ge 32 b with h | h
  ·have : 2 ^ 32 ≤ 2 ^ (b - 1) := Nat.pow_le_pow_right (by omega) (by omega)
   omega
  ·exact h
 subst hs
 refine ⟨hb1, by omega, ?_, ?_⟩
 ·have h3 : 2 ^ (b - 1) * 2 ^ (32 - b) ≤ x * 2 ^ (32 - b) := Nat.mul_le_mul_right _ h2
  rw [← Nat.pow_add, show b - 1 + (32 - b) = 31 by omega] at h3
  exact h3
 ·have h3 : x * 2 ^ (32 - b) < 2 ^ b * 2 ^ (32 - b) := Nat.mul_lt_mul_of_pos_right h1 (Nat.two_pow_pos _)
  rw [← Nat.pow_add, show b + (32 - b) = 32 by omega] at h3
  exact h3
set_option maxRecDepth 100000 in
set_option maxHeartbeats 3000000 in
theorem lz_c {x:Nat} {w:World} (a:0<x) (hx:x<BW):Calls Try.prog 123 #[.int .u32 ((x:Nat):Int)] w fun e w'=>(∃ v,e=.returned v∧∃ s:Nat,v=I ((s:Nat):Int)∧s≤31∧2147483648≤x * 2 ^ s∧x * 2 ^ s<BW)∧Below w.heap.size w w':=by
 rw [BW_eq] at hx
 go_enter Try.func123,Try.ntmps123
 have c:=St.start w
 refine wp_seq_k fun j d=>?_
 refine wp_region_lit ?_
 refine PV (I 0) rfl rfl ?_
 simp only [PA]
 refine wpList_nil ?_
 refine d _ _ ?_
 refine wp_seq_k fun k f=>?_
 refine wp_region_lit ?_
 refine PV (.int .u32 ((x:Nat):Int)) rfl rfl ?_
 simp only [PA]
 refine wpList_plain rfl fun K hK=>o_call 127 _ #[.int .u32 ((x:Nat):Int)] Try.func127 (by kernel_rfl) rfl rfl rfl c (len32_c hx) fun l m g h n=>?_
 obtain rfl:=g
 obtain ⟨b,hb⟩:∃ z:Nat,Go.bitLen x=z:=⟨_,rfl⟩
 rw [hb]
 obtain ⟨s,hs⟩:∃ z:Nat,32 - b=z:=⟨_,rfl⟩
 obtain ⟨o,i,hl,hu⟩:=lz_law a hx hb hs
 refine hK _ _ ?_
 simp only [PA]
 refine PV (I ((s:Nat):Int)) (CT (run_bin (I 32) (I ((b:Nat):Int)) _ rfl rfl rfl (bin_sub_3 _ _ _ _)) (vint (by rw [IntKind.wrap_i64]; omega))) rfl ?_
 simp only [PA]
 refine PV (I ((s:Nat):Int)) rfl rfl ?_
 simp only [PA]
 refine wpList_nil ?_
 refine f _ _ ?_
 refine wp_ret ?_
 refine bodyPost_ret (results_tmp rfl _ _ _) rfl ?_
 exact ⟨⟨_,rfl,s,rfl,i,hl,hu⟩,h.bl⟩
end Go.Proofs.Ythhgjloephkpaaa
namespace Go.Proofs.Ythhgjloephkpaaa
set_option linter.unusedVariables false
set_option linter.unusedSimpArgs false
open Go Go.RowKit Go.Proofs.YthhgjloephkpaaaW.PrintWords Go.Proofs.YthhgjloephkpaaaW.PrintLast
theorem FitN.gcdr {k x y : Nat} (h : FitN k y) (h0 : 0 < y) : FitN k (Nat.gcd x y) := h.le (Nat.gcd_le_right _ h0)
end Go.Proofs.Ythhgjloephkpaaa
namespace Go.Proofs.Ythhgjloephkpaaa
set_option linter.unusedVariables false
set_option linter.unusedSimpArgs false
open Go Go.RowKit Go.Proofs.YthhgjloephkpaaaW.PrintWords Go.Proofs.YthhgjloephkpaaaW.PrintLast
theorem mulden_ne (x y : Rat) : (x.den : Int) * (y.den : Int) ≠ 0 := by have := Int.mul_pos (den_pos x) (den_pos y); omega
theorem divden_ne {x y : Rat} (h : y ≠ 0) : (x.den : Int) * y.num ≠ 0 := fun e => by
 rcases Int.mul_eq_zero.1 e with e1 | e1
 ·have := den_pos x; omega
 ·exact h (Rat.num_eq_zero.1 e1)
end Go.Proofs.Ythhgjloephkpaaa
namespace Go.Proofs.Ythhgjloephkpaaa
set_option linter.unusedVariables false
set_option linter.unusedSimpArgs false
open Go Go.RowKit Go.Proofs.YthhgjloephkpaaaW.PrintWords Go.Proofs.YthhgjloephkpaaaW.PrintLast
theorem abs_pos' {x : Rat} (h : ¬ cmpR x 0 < 0) : x = x.abs := (Rat.abs_of_nonneg (Rat.not_lt.1 (fun e => h (cmpR_lt0.2 e)))).symm
theorem abs_neg' {x : Rat} (h : cmpR x 0 < 0) : -x = x.abs := (Rat.abs_of_nonpos (Rat.le_of_lt (cmpR_lt0.1 h))).symm
theorem isInt_iff {x : Rat} : (cmpZ (x.den : Int) 1 == (0 : Int)) = decide (x.den = 1) := by
 by_cases h : x.den = 1
 ·rw [cmpZ_eq (by omega), decide_eq_true h]; rfl
 ·have := x.den_pos; rw [cmpZ_gt (by omega), decide_eq_false h]; rfl
end Go.Proofs.Ythhgjloephkpaaa
namespace Go.Proofs.Ythhgjloephkpaaa
set_option linter.unusedVariables false
set_option linter.unusedSimpArgs false
open Go Go.RowKit Go.Proofs.YthhgjloephkpaaaW.PrintWords Go.Proofs.YthhgjloephkpaaaW.PrintLast
/-- A fraction in its form: within the limits and in lowest terms. -/
def IsQ (p q : Int) : Prop := 1 ≤ q ∧ q ≤ 1000000000000 ∧ -1000000000000 ≤ p ∧ p ≤ 1000000000000 ∧ Nat.gcd p.natAbs q.natAbs = 1
instance (p q : Int) : Decidable (IsQ p q) := by unfold IsQ; infer_instance
end Go.Proofs.Ythhgjloephkpaaa
namespace Go.Proofs.Ythhgjloephkpaaa
set_option linter.unusedVariables false
set_option linter.unusedSimpArgs false
open Go Go.RowKit Go.Proofs.YthhgjloephkpaaaW.PrintWords Go.Proofs.YthhgjloephkpaaaW.PrintLast
/-- An amount of the program: small, or in words. -/
def Zh (w : World) (v : Value) (z : Int) : Prop :=
 (v = .agg #[.int .i64 z, .slice none 0 0, .bool false] ∧ -9223372036854775808 ≤ z ∧ z < 9223372036854775808) ∨
 (∃ ad n c, v = .agg #[.int .i64 0, .slice (some ad) n c, .bool (decide (z < 0))] ∧ Wds w (some ad) n c (dg z.natAbs) ∧ 9223372036854775808 ≤ z.natAbs)
/-- Words and sign of an amount, as a pair. -/
def RetP (w : World) (z : Int) (e : Ending) (w' : World) : Prop := (∃ v, e = .returned v ∧ ∃ A n c, v = .tuple #[.slice A n c, .bool (decide (z < 0))] ∧ Wds w' A n c (dg z.natAbs)) ∧ Below w.heap.size w w'
section
variable {w0 w : World} {L : List Bx} {a : Act} {K : Act → World → Prop} {Q : Exit → Act → World → Prop} {o : Oper}
set_option maxRecDepth 100000 in
theorem run_lit2 (ρ : Operand → Value) (o : Oper) (w : World) (x y : Operand) (m n : Int) (ho : o.op = .buildSlice 36 2 #[(0, x), (1, y)]) (hc : ρ x = .int .u32 m) (hd : ρ y = .int .u32 n) : (execOp ρ o).run Try.prog w = .ok (.value (.slice (some ⟨w.heap.size, 0, none⟩) 2 2)) (w.alloc (.cells #[.int .u32 m, .int .u32 n] 100)) := by
 unfold execOp
 simp only [ho, List.map_toArray, List.map_cons, List.map_nil, hc, hd]
 first | kernel_rfl | simp [go_sem]
theorem o_lit2 {x y : Operand} (m n : Nat) (ho : o.op = .buildSlice 36 2 #[(0, x), (1, y)]) (hx : a.eval x = .int .u32 (m : Int)) (hy : a.eval y = .int .u32 (n : Int)) (hs : St w0 w L)
  (h : ∀ g w', St w0 w' (⟨g, wc [m, n], 100⟩ :: L) → U w w' → K (a.put o.dst (.slice (some ⟨g, 0, none⟩) 2 2)) w') : o.wp Try.prog a w K Q := by
 have hr := run_lit2 a.eval o w x y m n ho hx hy
 unfold Oper.wp
 rw [hr]
 exact h w.heap.size _ (hs.box #[.int .u32 (m : Int), .int .u32 (n : Int)] 100) (U.box w _)
end
theorem retp {w w' : World} {z : Int} {A : Option Addr} {n c : Nat} {b : Bool} {l : List Nat} (hb : decide (z < 0) = b) (hl : dg z.natAbs = l) (h : Wds w' A n c l) (hB : Below w.heap.size w w') : RetP w z (.returned (.tuple #[.slice A n c, .bool b])) w' := by
 subst hb hl
 exact ⟨⟨_, rfl, _, _, _, rfl, h⟩, hB⟩
theorem w_shr_32 {m : Nat} : ((m : Nat) : Int) / 2 ^ (min 32 64) = ((m / 4294967296 : Nat) : Int) := by rw [show (2 : Int) ^ (min 32 64) = 4294967296 from by decide]; omega
theorem dg_small0 {z : Int} {m : Nat} (h : z.natAbs = m) (h0 : m = 0) : dg z.natAbs = [] := by rw [h, h0, dg_zero]
theorem dg_small1 {z : Int} {m : Nat} (h : z.natAbs = m) (h0 : ¬ m = 0) (h1 : m / 4294967296 = 0) : dg z.natAbs = [m % BW] := by
 rw [h, dg_pos (by omega), show m / BW = 0 from h1, dg_zero]
theorem dg_small2 {z : Int} {m : Nat} (h : z.natAbs = m) (hm : m < 18446744073709551616) (h1 : ¬ m / 4294967296 = 0) : dg z.natAbs = [m % BW, m / 4294967296 % BW] := by
 have e : m / BW = m / 4294967296 := rfl
 rw [h, dg_pos (by omega), e, dg_pos (by omega), show m / 4294967296 / BW = 0 from by rw [BW_eq]; omega, dg_zero]
set_option maxRecDepth 100000 in
set_option maxHeartbeats 2000000 in
theorem words_neg {m:Nat} {w:World} (F:0<m) (hm:m≤9223372036854775808):Calls Try.prog 111 #[AZ (-((m:Nat):Int)) none 0 0 false] w (RetP w (-((m:Nat):Int))):=by
 go_enter Try.func111,Try.ntmps111
 have o:=St.start w
 refine wp_seq_k fun G p=>?_
 refine wp_region_lit ?_
 refine wpList_plain rfl fun K hK=>o_box (Z3 (-((m:Nat):Int)) none 0 0 false) rfl rfl rfl o fun d H b L=>hK _ _ ?_
 simp only [PA]
 refine PV (E none 0 0) rfl rfl ?_
 simp only [PA]
 refine PV (T false) rfl rfl ?_
 simp only [PA]
 refine wpList_nil ?_
 refine p _ _ ?_
 refine wp_seq_k fun M q=>?_
 refine wp_seq_k fun N r=>?_
 refine wp_region_lit ?_
 refine PV (PT d 1) (by kernel_rfl) rfl ?_
 simp only [PA]
 refine PV (E none 0 0) (run_load1 (E none 0 0) rfl rfl (b.at_ _ (MI (i:=0) rfl)) rfl (ag36 _)) rfl ?_
 simp only [PA]
 refine PV (T false) (run_bin (E none 0 0) (E none 0 0) _ rfl rfl rfl (bin_neq_36n _ _ _ _)) rfl ?_
 simp only [PA]
 refine wpList_nil ?_
 refine r _ _ ?_
 refine cond_false rfl ?_
 refine wp_skip ?_
 refine q _ _ ?_
 refine wp_seq_k fun P s=>?_
 refine wp_region_lit ?_
 refine PV (PT d 0) (by kernel_rfl) rfl ?_
 simp only [PA]
 refine PV (I (-((m:Nat):Int))) (run_load1 (I (-((m:Nat):Int))) rfl rfl (b.at_ _ (MI (i:=0) rfl)) rfl (ag2 _)) rfl ?_
 simp only [PA]
 refine PV (J (IntKind.u64.wrap ((-((m:Nat):Int))))) (run_cv _ rfl rfl rfl rfl rfl) rfl ?_
 simp only [PA]
 refine PV (J (IntKind.u64.wrap ((-((m:Nat):Int))))) rfl rfl ?_
 simp only [PA]
 refine wpList_nil ?_
 refine s _ _ ?_
 refine wp_seq_k fun Q t=>?_
 refine wp_seq_k fun R v=>?_
 refine wp_region_lit ?_
 refine PV (PT d 0) (by kernel_rfl) rfl ?_
 simp only [PA]
 refine PV (I (-((m:Nat):Int))) (run_load1 (I (-((m:Nat):Int))) rfl rfl (b.at_ _ (MI (i:=0) rfl)) rfl (ag2 _)) rfl ?_
 simp only [PA]
 refine PV (T true) (CT (run_bin (I (-((m:Nat):Int))) (I 0) _ rfl rfl rfl (bin_lss_2 _ _ _ _)) (congrArg Value.bool (decide_eq_true (by omega)))) rfl ?_
 simp only [PA]
 refine wpList_nil ?_
 refine v _ _ ?_
 refine cond_true rfl ?_
 refine wp_region_lit ?_
 refine PV (J (IntKind.u64.wrap ((-((m:Nat):Int))))) rfl rfl ?_
 simp only [PA]
 refine PV (J ((m:Nat):Int)) (CT (run_neg (IntKind.u64.wrap ((-((m:Nat):Int)))) rfl rfl) (vint (by rw [IntKind.wrap_u64,IntKind.wrap_u64]; omega))) rfl ?_
 simp only [PA]
 refine PV (J ((m:Nat):Int)) rfl rfl ?_
 simp only [PA]
 refine wpList_nil ?_
 refine t _ _ ?_
 refine wp_seq_k fun S x=>?_
 refine wp_block ?_
 refine wp_seq_k fun V g=>?_
 refine wp_region_lit ?_
 refine PV (J ((m:Nat):Int)) rfl rfl ?_
 simp only [PA]
 by_cases k:m=0
 ·skip
  refine PV (T true) (CT (run_bin (J ((m:Nat):Int)) (J 0) _ rfl rfl rfl (bin_eql_104 _ _ _ _)) (congrArg Value.bool (beq_iff_eq.2 (by omega)))) rfl ?_
  simp only [PA]
  refine PV (T true) rfl rfl ?_
  simp only [PA]
  refine wpList_nil ?_
  refine g _ _ ?_
  refine cond_true rfl ?_
  refine wp_seq_k fun W y=>?_
  refine wp_region_lit ?_
  refine PV (E none 0 0) rfl rfl ?_
  simp only [PA]
  refine PV (T false) rfl rfl ?_
  simp only [PA]
  refine wpList_nil ?_
  refine y _ _ ?_
  refine wp_ret ?_
  repeat (with_reducible first | refine then_ret ?_ | refine inBlock_ret ?_)
  refine bodyPost_ret (results_tmp2 rfl _ _ _) rfl ?_
  exact retp (decide_eq_false (by omega)) (dg_small0 (m:=m) (by omega) k) ⟨⟨rfl,by omega,fun h=>absurd h (by omega)⟩,Nat.le_refl _⟩ b.bl
 ·skip
  refine PV (T false) (CT (run_bin (J ((m:Nat):Int)) (J 0) _ rfl rfl rfl (bin_eql_104 _ _ _ _)) (congrArg Value.bool (beq_eq_false_iff_ne.2 (by omega)))) rfl ?_
  simp only [PA]
  refine PV (T false) rfl rfl ?_
  simp only [PA]
  refine wpList_nil ?_
  refine g _ _ ?_
  refine cond_false rfl ?_
  refine wp_seq_k fun X l=>?_
  refine wp_region_lit ?_
  refine PV (J ((m:Nat):Int)) rfl rfl ?_
  simp only [PA]
  refine PV (J ((m / 4294967296:Nat):Int)) (CT (run_bin (J ((m:Nat):Int)) (J 32) _ rfl rfl rfl (bin_shr_104_u64 _ _ _ _)) (vint w_shr_32)) rfl ?_
  simp only [PA]
  by_cases n:m / 4294967296=0
  ·skip
   refine PV (T true) (CT (run_bin (J ((m / 4294967296:Nat):Int)) (J 0) _ rfl rfl rfl (bin_eql_104 _ _ _ _)) (congrArg Value.bool (beq_iff_eq.2 (by omega)))) rfl ?_
   simp only [PA]
   refine PV (T true) rfl rfl ?_
   simp only [PA]
   refine wpList_nil ?_
   refine l _ _ ?_
   refine cond_true rfl ?_
   refine wp_seq_k fun Y z=>?_
   refine region_drawn 8 (fun j=>decide (8≤j)) (by kernel_rfl) rfl b fun aa c ab=>?_
   refine TK (i:=0) (J ((m:Nat):Int)) rfl (by kernel_rfl) (fun _ _ _ h=>h) rfl (fun _ hS=>rfl) c.has ?_
   simp only [PA]
   refine TK (i:=1) (.int .u32 ((((m) % BW):Nat):Int)) rfl (by kernel_rfl) (fun _ _ _ h=>h) rfl (fun _ hS=>(run_cv _ rfl rfl rfl rfl (wrap_u32))) c.has ?_
   simp only [PA]
   refine TK (i:=3) (PT d 0) rfl (by kernel_rfl) (fun _ _ _ h=>h) rfl (fun _ hS=>(by kernel_rfl)) c.has ?_
   simp only [PA]
   refine TK (i:=4) (I (-((m:Nat):Int))) rfl (by kernel_rfl) (fun _ _ _ h=>h) rfl (fun _ hS=>(run_load1 (I (-((m:Nat):Int))) rfl rfl (hS _ (MI (i:=0) rfl)) rfl (ag2 _))) c.has ?_
   simp only [PA]
   refine TK (i:=5) (T true) rfl (by kernel_rfl) (fun _ _ _ h=>h) rfl (fun _ hS=>(CT (run_bin (I (-((m:Nat):Int))) (I 0) _ rfl rfl rfl (bin_lss_2 _ _ _ _)) (congrArg Value.bool (decide_eq_true (by omega))))) c.has ?_
   simp only [PA]
   refine anyT_one (i:=2) rfl (by kernel_rfl) rfl fun K hK=>o_lit (((m) % BW)) rfl rfl c fun A ac e ad=>hK _ _ (fun _=>(e.has).tail) ?_
   simp only [PA]
   refine TK (i:=6) (E (some ⟨A,0,none⟩) 1 1) rfl (by kernel_rfl) (fun _ _ _ h=>h) rfl (fun _ hS=>rfl) (e.has).tail ?_
   simp only [PA]
   refine TK (i:=7) (T true) rfl (by kernel_rfl) (fun _ _ _ h=>h) rfl (fun _ hS=>rfl) (e.has).tail ?_
   simp only [PA]
   refine anyT_done (by kernel_rfl) ?_ _
   refine z _ _ ?_
   refine wp_ret ?_
   repeat (with_reducible first | refine then_ret ?_ | refine inBlock_ret ?_)
   refine bodyPost_ret (results_tmp2 rfl _ _ _) rfl ?_
   exact retp (decide_eq_true (by omega)) (dg_small1 (m:=m) (by omega) k n) (wds_len (e.at_ _ (List.mem_of_getElem? (i:=0) rfl)) ⟨rfl,Nat.le_of_ble_eq_true rfl⟩) e.bl
  ·skip
   refine PV (T false) (CT (run_bin (J ((m / 4294967296:Nat):Int)) (J 0) _ rfl rfl rfl (bin_eql_104 _ _ _ _)) (congrArg Value.bool (beq_eq_false_iff_ne.2 (by omega)))) rfl ?_
   simp only [PA]
   refine PV (T false) rfl rfl ?_
   simp only [PA]
   refine wpList_nil ?_
   refine l _ _ ?_
   refine cond_false rfl ?_
   refine wp_skip ?_
   refine x _ _ ?_
   refine wp_seq_k fun ae C=>?_
   refine region_drawn 11 (fun j=>decide (11≤j)) (by kernel_rfl) rfl b fun af a ag=>?_
   refine TK (i:=0) (J ((m:Nat):Int)) rfl (by kernel_rfl) (fun _ _ _ h=>h) rfl (fun _ hS=>rfl) a.has ?_
   simp only [PA]
   refine TK (i:=1) (.int .u32 ((((m) % BW):Nat):Int)) rfl (by kernel_rfl) (fun _ _ _ h=>h) rfl (fun _ hS=>(run_cv _ rfl rfl rfl rfl (wrap_u32))) a.has ?_
   simp only [PA]
   refine TK (i:=2) (J ((m:Nat):Int)) rfl (by kernel_rfl) (fun _ _ _ h=>h) rfl (fun _ hS=>rfl) a.has ?_
   simp only [PA]
   refine TK (i:=3) (J ((m / 4294967296:Nat):Int)) rfl (by kernel_rfl) (fun _ _ _ h=>h) rfl (fun _ hS=>(CT (run_bin (J ((m:Nat):Int)) (J 32) _ rfl rfl rfl (bin_shr_104_u64 _ _ _ _)) (vint w_shr_32))) a.has ?_
   simp only [PA]
   refine TK (i:=4) (.int .u32 ((((m / 4294967296) % BW):Nat):Int)) rfl (by kernel_rfl) (fun _ _ _ h=>h) rfl (fun _ hS=>(run_cv _ rfl rfl rfl rfl (wrap_u32))) a.has ?_
   simp only [PA]
   refine TK (i:=6) (PT d 0) rfl (by kernel_rfl) (fun _ _ _ h=>h) rfl (fun _ hS=>(by kernel_rfl)) a.has ?_
   simp only [PA]
   refine TK (i:=7) (I (-((m:Nat):Int))) rfl (by kernel_rfl) (fun _ _ _ h=>h) rfl (fun _ hS=>(run_load1 (I (-((m:Nat):Int))) rfl rfl (hS _ (MI (i:=0) rfl)) rfl (ag2 _))) a.has ?_
   simp only [PA]
   refine TK (i:=8) (T true) rfl (by kernel_rfl) (fun _ _ _ h=>h) rfl (fun _ hS=>(CT (run_bin (I (-((m:Nat):Int))) (I 0) _ rfl rfl rfl (bin_lss_2 _ _ _ _)) (congrArg Value.bool (decide_eq_true (by omega))))) a.has ?_
   simp only [PA]
   refine anyT_one (i:=5) rfl (by kernel_rfl) rfl fun K hK=>o_lit2 (((m) % BW)) (((m / 4294967296) % BW)) rfl rfl rfl a fun D ah f ai=>hK _ _ (fun _=>(f.has).tail) ?_
   simp only [PA]
   refine TK (i:=9) (E (some ⟨D,0,none⟩) 2 2) rfl (by kernel_rfl) (fun _ _ _ h=>h) rfl (fun _ hS=>rfl) (f.has).tail ?_
   simp only [PA]
   refine TK (i:=10) (T true) rfl (by kernel_rfl) (fun _ _ _ h=>h) rfl (fun _ hS=>rfl) (f.has).tail ?_
   simp only [PA]
   refine anyT_done (by kernel_rfl) ?_ _
   refine C _ _ ?_
   refine wp_ret ?_
   repeat (with_reducible first | refine then_ret ?_ | refine inBlock_ret ?_)
   refine bodyPost_ret (results_tmp2 rfl _ _ _) rfl ?_
   exact retp (decide_eq_true (by omega)) (dg_small2 (m:=m) (by omega) (by omega) n) (wds_len (f.at_ _ (List.mem_of_getElem? (i:=0) rfl)) ⟨rfl,Nat.le_of_ble_eq_true rfl⟩) f.bl
set_option maxRecDepth 100000 in
set_option maxHeartbeats 2000000 in
theorem words_pos {m:Nat} {w:World} (hm:m<9223372036854775808):Calls Try.prog 111 #[AZ ((m:Nat):Int) none 0 0 false] w (RetP w ((m:Nat):Int)):=by
 go_enter Try.func111,Try.ntmps111
 have o:=St.start w
 refine wp_seq_k fun F p=>?_
 refine wp_region_lit ?_
 refine wpList_plain rfl fun K hK=>o_box (Z3 ((m:Nat):Int) none 0 0 false) rfl rfl rfl o fun d G b H=>hK _ _ ?_
 simp only [PA]
 refine PV (E none 0 0) rfl rfl ?_
 simp only [PA]
 refine PV (T false) rfl rfl ?_
 simp only [PA]
 refine wpList_nil ?_
 refine p _ _ ?_
 refine wp_seq_k fun L q=>?_
 refine wp_seq_k fun M r=>?_
 refine wp_region_lit ?_
 refine PV (PT d 1) (by kernel_rfl) rfl ?_
 simp only [PA]
 refine PV (E none 0 0) (run_load1 (E none 0 0) rfl rfl (b.at_ _ (MI (i:=0) rfl)) rfl (ag36 _)) rfl ?_
 simp only [PA]
 refine PV (T false) (run_bin (E none 0 0) (E none 0 0) _ rfl rfl rfl (bin_neq_36n _ _ _ _)) rfl ?_
 simp only [PA]
 refine wpList_nil ?_
 refine r _ _ ?_
 refine cond_false rfl ?_
 refine wp_skip ?_
 refine q _ _ ?_
 refine wp_seq_k fun N s=>?_
 refine wp_region_lit ?_
 refine PV (PT d 0) (by kernel_rfl) rfl ?_
 simp only [PA]
 refine PV (I ((m:Nat):Int)) (run_load1 (I ((m:Nat):Int)) rfl rfl (b.at_ _ (MI (i:=0) rfl)) rfl (ag2 _)) rfl ?_
 simp only [PA]
 refine PV (J ((m:Nat):Int)) (run_cv _ rfl rfl rfl rfl (wrap_u64 (by omega))) rfl ?_
 simp only [PA]
 refine PV (J ((m:Nat):Int)) rfl rfl ?_
 simp only [PA]
 refine wpList_nil ?_
 refine s _ _ ?_
 refine wp_seq_k fun P t=>?_
 refine wp_seq_k fun Q v=>?_
 refine wp_region_lit ?_
 refine PV (PT d 0) (by kernel_rfl) rfl ?_
 simp only [PA]
 refine PV (I ((m:Nat):Int)) (run_load1 (I ((m:Nat):Int)) rfl rfl (b.at_ _ (MI (i:=0) rfl)) rfl (ag2 _)) rfl ?_
 simp only [PA]
 refine PV (T false) (CT (run_bin (I ((m:Nat):Int)) (I 0) _ rfl rfl rfl (bin_lss_2 _ _ _ _)) (congrArg Value.bool (decide_eq_false (by omega)))) rfl ?_
 simp only [PA]
 refine wpList_nil ?_
 refine v _ _ ?_
 refine cond_false rfl ?_
 refine wp_skip ?_
 refine t _ _ ?_
 refine wp_seq_k fun R x=>?_
 refine wp_block ?_
 refine wp_seq_k fun S g=>?_
 refine wp_region_lit ?_
 refine PV (J ((m:Nat):Int)) rfl rfl ?_
 simp only [PA]
 by_cases k:m=0
 ·skip
  refine PV (T true) (CT (run_bin (J ((m:Nat):Int)) (J 0) _ rfl rfl rfl (bin_eql_104 _ _ _ _)) (congrArg Value.bool (beq_iff_eq.2 (by omega)))) rfl ?_
  simp only [PA]
  refine PV (T true) rfl rfl ?_
  simp only [PA]
  refine wpList_nil ?_
  refine g _ _ ?_
  refine cond_true rfl ?_
  refine wp_seq_k fun V y=>?_
  refine wp_region_lit ?_
  refine PV (E none 0 0) rfl rfl ?_
  simp only [PA]
  refine PV (T false) rfl rfl ?_
  simp only [PA]
  refine wpList_nil ?_
  refine y _ _ ?_
  refine wp_ret ?_
  repeat (with_reducible first | refine then_ret ?_ | refine inBlock_ret ?_)
  refine bodyPost_ret (results_tmp2 rfl _ _ _) rfl ?_
  exact retp (decide_eq_false (by omega)) (dg_small0 (m:=m) (by omega) k) ⟨⟨rfl,by omega,fun h=>absurd h (by omega)⟩,Nat.le_refl _⟩ b.bl
 ·skip
  refine PV (T false) (CT (run_bin (J ((m:Nat):Int)) (J 0) _ rfl rfl rfl (bin_eql_104 _ _ _ _)) (congrArg Value.bool (beq_eq_false_iff_ne.2 (by omega)))) rfl ?_
  simp only [PA]
  refine PV (T false) rfl rfl ?_
  simp only [PA]
  refine wpList_nil ?_
  refine g _ _ ?_
  refine cond_false rfl ?_
  refine wp_seq_k fun W l=>?_
  refine wp_region_lit ?_
  refine PV (J ((m:Nat):Int)) rfl rfl ?_
  simp only [PA]
  refine PV (J ((m / 4294967296:Nat):Int)) (CT (run_bin (J ((m:Nat):Int)) (J 32) _ rfl rfl rfl (bin_shr_104_u64 _ _ _ _)) (vint w_shr_32)) rfl ?_
  simp only [PA]
  by_cases n:m / 4294967296=0
  ·skip
   refine PV (T true) (CT (run_bin (J ((m / 4294967296:Nat):Int)) (J 0) _ rfl rfl rfl (bin_eql_104 _ _ _ _)) (congrArg Value.bool (beq_iff_eq.2 (by omega)))) rfl ?_
   simp only [PA]
   refine PV (T true) rfl rfl ?_
   simp only [PA]
   refine wpList_nil ?_
   refine l _ _ ?_
   refine cond_true rfl ?_
   refine wp_seq_k fun X z=>?_
   refine region_drawn 8 (fun j=>decide (8≤j)) (by kernel_rfl) rfl b fun Y c aa=>?_
   refine TK (i:=0) (J ((m:Nat):Int)) rfl (by kernel_rfl) (fun _ _ _ h=>h) rfl (fun _ hS=>rfl) c.has ?_
   simp only [PA]
   refine TK (i:=1) (.int .u32 ((((m) % BW):Nat):Int)) rfl (by kernel_rfl) (fun _ _ _ h=>h) rfl (fun _ hS=>(run_cv _ rfl rfl rfl rfl (wrap_u32))) c.has ?_
   simp only [PA]
   refine TK (i:=3) (PT d 0) rfl (by kernel_rfl) (fun _ _ _ h=>h) rfl (fun _ hS=>(by kernel_rfl)) c.has ?_
   simp only [PA]
   refine TK (i:=4) (I ((m:Nat):Int)) rfl (by kernel_rfl) (fun _ _ _ h=>h) rfl (fun _ hS=>(run_load1 (I ((m:Nat):Int)) rfl rfl (hS _ (MI (i:=0) rfl)) rfl (ag2 _))) c.has ?_
   simp only [PA]
   refine TK (i:=5) (T false) rfl (by kernel_rfl) (fun _ _ _ h=>h) rfl (fun _ hS=>(CT (run_bin (I ((m:Nat):Int)) (I 0) _ rfl rfl rfl (bin_lss_2 _ _ _ _)) (congrArg Value.bool (decide_eq_false (by omega))))) c.has ?_
   simp only [PA]
   refine anyT_one (i:=2) rfl (by kernel_rfl) rfl fun K hK=>o_lit (((m) % BW)) rfl rfl c fun A ab e ac=>hK _ _ (fun _=>(e.has).tail) ?_
   simp only [PA]
   refine TK (i:=6) (E (some ⟨A,0,none⟩) 1 1) rfl (by kernel_rfl) (fun _ _ _ h=>h) rfl (fun _ hS=>rfl) (e.has).tail ?_
   simp only [PA]
   refine TK (i:=7) (T false) rfl (by kernel_rfl) (fun _ _ _ h=>h) rfl (fun _ hS=>rfl) (e.has).tail ?_
   simp only [PA]
   refine anyT_done (by kernel_rfl) ?_ _
   refine z _ _ ?_
   refine wp_ret ?_
   repeat (with_reducible first | refine then_ret ?_ | refine inBlock_ret ?_)
   refine bodyPost_ret (results_tmp2 rfl _ _ _) rfl ?_
   exact retp (decide_eq_false (by omega)) (dg_small1 (m:=m) (by omega) k n) (wds_len (e.at_ _ (List.mem_of_getElem? (i:=0) rfl)) ⟨rfl,Nat.le_of_ble_eq_true rfl⟩) e.bl
  ·skip
   refine PV (T false) (CT (run_bin (J ((m / 4294967296:Nat):Int)) (J 0) _ rfl rfl rfl (bin_eql_104 _ _ _ _)) (congrArg Value.bool (beq_eq_false_iff_ne.2 (by omega)))) rfl ?_
   simp only [PA]
   refine PV (T false) rfl rfl ?_
   simp only [PA]
   refine wpList_nil ?_
   refine l _ _ ?_
   refine cond_false rfl ?_
   refine wp_skip ?_
   refine x _ _ ?_
   refine wp_seq_k fun ad C=>?_
   refine region_drawn 11 (fun j=>decide (11≤j)) (by kernel_rfl) rfl b fun ae a af=>?_
   refine TK (i:=0) (J ((m:Nat):Int)) rfl (by kernel_rfl) (fun _ _ _ h=>h) rfl (fun _ hS=>rfl) a.has ?_
   simp only [PA]
   refine TK (i:=1) (.int .u32 ((((m) % BW):Nat):Int)) rfl (by kernel_rfl) (fun _ _ _ h=>h) rfl (fun _ hS=>(run_cv _ rfl rfl rfl rfl (wrap_u32))) a.has ?_
   simp only [PA]
   refine TK (i:=2) (J ((m:Nat):Int)) rfl (by kernel_rfl) (fun _ _ _ h=>h) rfl (fun _ hS=>rfl) a.has ?_
   simp only [PA]
   refine TK (i:=3) (J ((m / 4294967296:Nat):Int)) rfl (by kernel_rfl) (fun _ _ _ h=>h) rfl (fun _ hS=>(CT (run_bin (J ((m:Nat):Int)) (J 32) _ rfl rfl rfl (bin_shr_104_u64 _ _ _ _)) (vint w_shr_32))) a.has ?_
   simp only [PA]
   refine TK (i:=4) (.int .u32 ((((m / 4294967296) % BW):Nat):Int)) rfl (by kernel_rfl) (fun _ _ _ h=>h) rfl (fun _ hS=>(run_cv _ rfl rfl rfl rfl (wrap_u32))) a.has ?_
   simp only [PA]
   refine TK (i:=6) (PT d 0) rfl (by kernel_rfl) (fun _ _ _ h=>h) rfl (fun _ hS=>(by kernel_rfl)) a.has ?_
   simp only [PA]
   refine TK (i:=7) (I ((m:Nat):Int)) rfl (by kernel_rfl) (fun _ _ _ h=>h) rfl (fun _ hS=>(run_load1 (I ((m:Nat):Int)) rfl rfl (hS _ (MI (i:=0) rfl)) rfl (ag2 _))) a.has ?_
   simp only [PA]
   refine TK (i:=8) (T false) rfl (by kernel_rfl) (fun _ _ _ h=>h) rfl (fun _ hS=>(CT (run_bin (I ((m:Nat):Int)) (I 0) _ rfl rfl rfl (bin_lss_2 _ _ _ _)) (congrArg Value.bool (decide_eq_false (by omega))))) a.has ?_
   simp only [PA]
   refine anyT_one (i:=5) rfl (by kernel_rfl) rfl fun K hK=>o_lit2 (((m) % BW)) (((m / 4294967296) % BW)) rfl rfl rfl a fun D ag f ah=>hK _ _ (fun _=>(f.has).tail) ?_
   simp only [PA]
   refine TK (i:=9) (E (some ⟨D,0,none⟩) 2 2) rfl (by kernel_rfl) (fun _ _ _ h=>h) rfl (fun _ hS=>rfl) (f.has).tail ?_
   simp only [PA]
   refine TK (i:=10) (T false) rfl (by kernel_rfl) (fun _ _ _ h=>h) rfl (fun _ hS=>rfl) (f.has).tail ?_
   simp only [PA]
   refine anyT_done (by kernel_rfl) ?_ _
   refine C _ _ ?_
   refine wp_ret ?_
   repeat (with_reducible first | refine then_ret ?_ | refine inBlock_ret ?_)
   refine bodyPost_ret (results_tmp2 rfl _ _ _) rfl ?_
   exact retp (decide_eq_false (by omega)) (dg_small2 (m:=m) (by omega) (by omega) n) (wds_len (f.at_ _ (List.mem_of_getElem? (i:=0) rfl)) ⟨rfl,Nat.le_of_ble_eq_true rfl⟩) f.bl
set_option maxRecDepth 100000 in
set_option maxHeartbeats 2000000 in
theorem words_big {z:Int} {ad:Addr} {n c:Nat} {s:Bool} {w:World} (hx:Wds w (some ad) n c (dg z.natAbs)) (hs:decide (z<0)=s):Calls Try.prog 111 #[AZ 0 (some ad) n c s] w (RetP w z):=by
 go_enter Try.func111,Try.ntmps111
 have e:=St.start w
 refine wp_seq_k fun l f=>?_
 refine wp_region_lit ?_
 refine wpList_plain rfl fun K hK=>o_box (Z3 0 (some ad) n c s) rfl rfl rfl e fun b m d o=>hK _ _ ?_
 simp only [PA]
 refine PV (E none 0 0) rfl rfl ?_
 simp only [PA]
 refine PV (T false) rfl rfl ?_
 simp only [PA]
 refine wpList_nil ?_
 refine f _ _ ?_
 refine wp_seq_k fun p q=>?_
 refine wp_seq_k fun r g=>?_
 refine wp_region_lit ?_
 refine PV (PT b 1) (by kernel_rfl) rfl ?_
 simp only [PA]
 refine PV (E (some ad) n c) (run_load1 (E (some ad) n c) rfl rfl (d.at_ _ (MI (i:=0) rfl)) rfl (ag36 _)) rfl ?_
 simp only [PA]
 refine PV (T true) (run_bin (E (some ad) n c) (E none 0 0) _ rfl rfl rfl (bin_neq_36s _ _ _ _ _)) rfl ?_
 simp only [PA]
 refine wpList_nil ?_
 refine g _ _ ?_
 refine cond_true rfl ?_
 refine wp_seq_k fun t k=>?_
 refine region_drawn 6 (fun j=>decide (6≤j)) (by kernel_rfl) rfl d fun v a x=>?_
 refine TK (i:=0) (PT b 1) rfl (by kernel_rfl) (fun _ _ _ h=>h) rfl (fun _ hS=>(by kernel_rfl)) a.has ?_
 simp only [PA]
 refine TK (i:=1) (E (some ad) n c) rfl (by kernel_rfl) (fun _ _ _ h=>h) rfl (fun _ hS=>(run_load1 (E (some ad) n c) rfl rfl (hS _ (MI (i:=0) rfl)) rfl (ag36 _))) a.has ?_
 simp only [PA]
 refine TK (i:=2) (PT b 2) rfl (by kernel_rfl) (fun _ _ _ h=>h) rfl (fun _ hS=>(by kernel_rfl)) a.has ?_
 simp only [PA]
 refine TK (i:=3) (T s) rfl (by kernel_rfl) (fun _ _ _ h=>h) rfl (fun _ hS=>(run_load1 (T s) rfl rfl (hS _ (MI (i:=0) rfl)) rfl (ag4 _))) a.has ?_
 simp only [PA]
 refine TK (i:=4) (E (some ad) n c) rfl (by kernel_rfl) (fun _ _ _ h=>h) rfl (fun _ hS=>rfl) a.has ?_
 simp only [PA]
 refine TK (i:=5) (T s) rfl (by kernel_rfl) (fun _ _ _ h=>h) rfl (fun _ hS=>rfl) a.has ?_
 simp only [PA]
 refine anyT_done (by kernel_rfl) ?_ _
 refine k _ _ ?_
 refine wp_ret ?_
 repeat (with_reducible first | refine then_ret ?_ | refine inBlock_ret ?_)
 refine bodyPost_ret (results_tmp2 rfl _ _ _) rfl ?_
 exact retp hs rfl (hx.below a.bl) a.bl
theorem words_c {v : Value} {z : Int} {w : World} (h : Zh w v z) : Calls Try.prog 111 #[v] w (RetP w z) := by
 rcases h with ⟨rfl, h1, h2⟩ | ⟨ad, n, c, rfl, hx, _⟩
 ·by_cases hz : z < 0
  ·obtain ⟨m, rfl⟩ : ∃ m : Nat, z = -((m : Nat) : Int) := ⟨z.natAbs, by omega⟩
   exact words_neg (by omega) (by omega)
  ·obtain ⟨m, rfl⟩ : ∃ m : Nat, z = ((m : Nat) : Int) := ⟨z.natAbs, by omega⟩
   exact words_pos (by omega)
 ·exact words_big hx rfl
end Go.Proofs.Ythhgjloephkpaaa
