/- Words and walks for the row RowRatSimplest, put together: RZA. -/
import Derived.Test.YthhgjloephkpaaaSi10
import Derived.Test.YthhgjloephkpaaaSi4
namespace Go.Proofs.Ythhgjloephkpaaa
set_option linter.unusedVariables false
set_option linter.unusedSimpArgs false
open Go Go.RowKit Go.Proofs.YthhgjloephkpaaaW.PrintWords Go.Proofs.YthhgjloephkpaaaW.PrintLast
/-- An amount of the program: small, or in words. -/
def Zh (w : World) (v : Value) (z : Int) : Prop :=
 (v = .agg #[.int .i64 z, .slice none 0 0, .bool false] ∧ -9223372036854775808 ≤ z ∧ z < 9223372036854775808) ∨
 (∃ ad n c, v = .agg #[.int .i64 0, .slice (some ad) n c, .bool (decide (z < 0))] ∧ Wds w (some ad) n c (dg z.natAbs) ∧ 9223372036854775808 ≤ z.natAbs)
/-- Words and sign of an amount, as a pair. -/
def RetP (w : World) (z : Int) (e : Ending) (w' : World) : Prop := (∃ v, e = .returned v ∧ ∃ A n c, v = .tuple #[.slice A n c, .bool (decide (z < 0))] ∧ Wds w' A n c (dg z.natAbs)) ∧ Below w.heap.size w w'
section
variable {w0 w : World} {L : List Bx} {a : Act} {K : Act → World → Prop} {Q : Exit → Act → World → Prop} {o : Oper}
set_option maxRecDepth 100000 in
theorem run_lit2 (ρ : Operand → Value) (o : Oper) (w : World) (x y : Operand) (m n : Int) (ho : o.op = .buildSlice 36 2 #[(0, x), (1, y)]) (hc : ρ x = .int .u32 m) (hd : ρ y = .int .u32 n) : (execOp ρ o).run Try.prog w = .ok (.value (.slice (some ⟨w.heap.size, 0, none⟩) 2 2)) (w.alloc (.cells #[.int .u32 m, .int .u32 n] 100)) := by
 unfold execOp
 simp only [ho, List.map_toArray, List.map_cons, List.map_nil, hc, hd]
 first | kernel_rfl | simp [go_sem]
theorem o_lit2 {x y : Operand} (m n : Nat) (ho : o.op = .buildSlice 36 2 #[(0, x), (1, y)]) (hx : a.eval x = .int .u32 (m : Int)) (hy : a.eval y = .int .u32 (n : Int)) (hs : St w0 w L)
  (h : ∀ g w', St w0 w' (⟨g, wc [m, n], 100⟩ :: L) → U w w' → K (a.put o.dst (.slice (some ⟨g, 0, none⟩) 2 2)) w') : o.wp Try.prog a w K Q := by
 have hr := run_lit2 a.eval o w x y m n ho hx hy
 unfold Oper.wp
 rw [hr]
 exact h w.heap.size _ (hs.box #[.int .u32 (m : Int), .int .u32 (n : Int)] 100) (U.box w _)
end
theorem retp {w w' : World} {z : Int} {A : Option Addr} {n c : Nat} {b : Bool} {l : List Nat} (hb : decide (z < 0) = b) (hl : dg z.natAbs = l) (h : Wds w' A n c l) (hB : Below w.heap.size w w') : RetP w z (.returned (.tuple #[.slice A n c, .bool b])) w' := by
 subst hb hl
 exact ⟨⟨_, rfl, _, _, _, rfl, h⟩, hB⟩
theorem w_shr_32 {m : Nat} : ((m : Nat) : Int) / 2 ^ (min 32 64) = ((m / 4294967296 : Nat) : Int) := by rw [show (2 : Int) ^ (min 32 64) = 4294967296 from by decide]; omega
theorem dg_small0 {z : Int} {m : Nat} (h : z.natAbs = m) (h0 : m = 0) : dg z.natAbs = [] := by rw [h, h0, dg_zero]
theorem dg_small1 {z : Int} {m : Nat} (h : z.natAbs = m) (h0 : ¬ m = 0) (h1 : m / 4294967296 = 0) : dg z.natAbs = [m % BW] := by
 rw [h, dg_pos (by omega), show m / BW = 0 from h1, dg_zero]
theorem dg_small2 {z : Int} {m : Nat} (h : z.natAbs = m) (hm : m < 18446744073709551616) (h1 : ¬ m / 4294967296 = 0) : dg z.natAbs = [m % BW, m / 4294967296 % BW] := by
 have e : m / BW = m / 4294967296 := rfl
 rw [h, dg_pos (by omega), e, dg_pos (by omega), show m / 4294967296 / BW = 0 from by rw [BW_eq]; omega, dg_zero]
set_option maxRecDepth 100000 in
set_option maxHeartbeats 2000000 in
theorem words_neg {m:Nat} {w:World} (F:0<m) (hm:m≤9223372036854775808):Calls Try.prog 111 #[AZ (-((m:Nat):Int)) none 0 0 false] w (RetP w (-((m:Nat):Int))):=by
 go_enter Try.func111,Try.ntmps111
 have o:=St.start w
 refine wp_seq_k fun G p=>?_
 refine wp_region_lit ?_
 refine wpList_plain rfl fun K hK=>o_box (Z3 (-((m:Nat):Int)) none 0 0 false) rfl rfl rfl o fun d H b L=>hK _ _ ?_
 simp only [PA]
 refine PV (E none 0 0) rfl rfl ?_
 simp only [PA]
 refine PV (T false) rfl rfl ?_
 simp only [PA]
 refine wpList_nil ?_
 refine p _ _ ?_
 refine wp_seq_k fun M q=>?_
 refine wp_seq_k fun N r=>?_
 refine wp_region_lit ?_
 refine PV (PT d 1) (by kernel_rfl) rfl ?_
 simp only [PA]
 refine PV (E none 0 0) (run_load1 (E none 0 0) rfl rfl (b.at_ _ (MI (i:=0) rfl)) rfl (ag36 _)) rfl ?_
 simp only [PA]
 refine PV (T false) (run_bin (E none 0 0) (E none 0 0) _ rfl rfl rfl (bin_neq_36n _ _ _ _)) rfl ?_
 simp only [PA]
 refine wpList_nil ?_
 refine r _ _ ?_
 refine cond_false rfl ?_
 refine wp_skip ?_
 refine q _ _ ?_
 refine wp_seq_k fun P s=>?_
 refine wp_region_lit ?_
 refine PV (PT d 0) (by kernel_rfl) rfl ?_
 simp only [PA]
 refine PV (I (-((m:Nat):Int))) (run_load1 (I (-((m:Nat):Int))) rfl rfl (b.at_ _ (MI (i:=0) rfl)) rfl (ag2 _)) rfl ?_
 simp only [PA]
 refine PV (J (IntKind.u64.wrap ((-((m:Nat):Int))))) (run_cv _ rfl rfl rfl rfl rfl) rfl ?_
 simp only [PA]
 refine PV (J (IntKind.u64.wrap ((-((m:Nat):Int))))) rfl rfl ?_
 simp only [PA]
 refine wpList_nil ?_
 refine s _ _ ?_
 refine wp_seq_k fun Q t=>?_
 refine wp_seq_k fun R v=>?_
 refine wp_region_lit ?_
 refine PV (PT d 0) (by kernel_rfl) rfl ?_
 simp only [PA]
 refine PV (I (-((m:Nat):Int))) (run_load1 (I (-((m:Nat):Int))) rfl rfl (b.at_ _ (MI (i:=0) rfl)) rfl (ag2 _)) rfl ?_
 simp only [PA]
 refine PV (T true) (CT (run_bin (I (-((m:Nat):Int))) (I 0) _ rfl rfl rfl (bin_lss_2 _ _ _ _)) (congrArg Value.bool (decide_eq_true (by omega)))) rfl ?_
 simp only [PA]
 refine wpList_nil ?_
 refine v _ _ ?_
 refine cond_true rfl ?_
 refine wp_region_lit ?_
 refine PV (J (IntKind.u64.wrap ((-((m:Nat):Int))))) rfl rfl ?_
 simp only [PA]
 refine PV (J ((m:Nat):Int)) (CT (run_neg (IntKind.u64.wrap ((-((m:Nat):Int)))) rfl rfl) (vint (by rw [IntKind.wrap_u64,IntKind.wrap_u64]; omega))) rfl ?_
 simp only [PA]
 refine PV (J ((m:Nat):Int)) rfl rfl ?_
 simp only [PA]
 refine wpList_nil ?_
 refine t _ _ ?_
 refine wp_seq_k fun S x=>?_
 refine wp_block ?_
 refine wp_seq_k fun V g=>?_
 refine wp_region_lit ?_
 refine PV (J ((m:Nat):Int)) rfl rfl ?_
 simp only [PA]
 by_cases k:m=0
 ·skip
  refine PV (T true) (CT (run_bin (J ((m:Nat):Int)) (J 0) _ rfl rfl rfl (bin_eql_104 _ _ _ _)) (congrArg Value.bool (beq_iff_eq.2 (by omega)))) rfl ?_
  simp only [PA]
  refine PV (T true) rfl rfl ?_
  simp only [PA]
  refine wpList_nil ?_
  refine g _ _ ?_
  refine cond_true rfl ?_
  refine wp_seq_k fun W y=>?_
  refine wp_region_lit ?_
  refine PV (E none 0 0) rfl rfl ?_
  simp only [PA]
  refine PV (T false) rfl rfl ?_
  simp only [PA]
  refine wpList_nil ?_
  refine y _ _ ?_
  refine wp_ret ?_
  repeat (with_reducible first | refine then_ret ?_ | refine inBlock_ret ?_)
  refine bodyPost_ret (results_tmp2 rfl _ _ _) rfl ?_
  exact retp (decide_eq_false (by omega)) (dg_small0 (m:=m) (by omega) k) ⟨⟨rfl,by omega,fun h=>absurd h (by omega)⟩,Nat.le_refl _⟩ b.bl
 ·skip
  refine PV (T false) (CT (run_bin (J ((m:Nat):Int)) (J 0) _ rfl rfl rfl (bin_eql_104 _ _ _ _)) (congrArg Value.bool (beq_eq_false_iff_ne.2 (by omega)))) rfl ?_
  simp only [PA]
  refine PV (T false) rfl rfl ?_
  simp only [PA]
  refine wpList_nil ?_
  refine g _ _ ?_
  refine cond_false rfl ?_
  refine wp_seq_k fun X l=>?_
  refine wp_region_lit ?_
  refine PV (J ((m:Nat):Int)) rfl rfl ?_
  simp only [PA]
  refine PV (J ((m / 4294967296:Nat):Int)) (CT (run_bin (J ((m:Nat):Int)) (J 32) _ rfl rfl rfl (bin_shr_104_u64 _ _ _ _)) (vint w_shr_32)) rfl ?_
  simp only [PA]
  by_cases n:m / 4294967296=0
  ·skip
   refine PV (T true) (CT (run_bin (J ((m / 4294967296:Nat):Int)) (J 0) _ rfl rfl rfl (bin_eql_104 _ _ _ _)) (congrArg Value.bool (beq_iff_eq.2 (by omega)))) rfl ?_
   simp only [PA]
   refine PV (T true) rfl rfl ?_
   simp only [PA]
   refine wpList_nil ?_
   refine l _ _ ?_
   refine cond_true rfl ?_
   refine wp_seq_k fun Y z=>?_
   refine region_drawn 8 (fun j=>decide (8≤j)) (by kernel_rfl) rfl b fun aa c ab=>?_
   refine TK (i:=0) (J ((m:Nat):Int)) rfl (by kernel_rfl) (fun _ _ _ h=>h) rfl (fun _ hS=>rfl) c.has ?_
   simp only [PA]
   refine TK (i:=1) (.int .u32 ((((m) % BW):Nat):Int)) rfl (by kernel_rfl) (fun _ _ _ h=>h) rfl (fun _ hS=>(run_cv _ rfl rfl rfl rfl (wrap_u32))) c.has ?_
   simp only [PA]
   refine TK (i:=3) (PT d 0) rfl (by kernel_rfl) (fun _ _ _ h=>h) rfl (fun _ hS=>(by kernel_rfl)) c.has ?_
   simp only [PA]
   refine TK (i:=4) (I (-((m:Nat):Int))) rfl (by kernel_rfl) (fun _ _ _ h=>h) rfl (fun _ hS=>(run_load1 (I (-((m:Nat):Int))) rfl rfl (hS _ (MI (i:=0) rfl)) rfl (ag2 _))) c.has ?_
   simp only [PA]
   refine TK (i:=5) (T true) rfl (by kernel_rfl) (fun _ _ _ h=>h) rfl (fun _ hS=>(CT (run_bin (I (-((m:Nat):Int))) (I 0) _ rfl rfl rfl (bin_lss_2 _ _ _ _)) (congrArg Value.bool (decide_eq_true (by omega))))) c.has ?_
   simp only [PA]
   refine anyT_one (i:=2) rfl (by kernel_rfl) rfl fun K hK=>o_lit (((m) % BW)) rfl rfl c fun A ac e ad=>hK _ _ (fun _=>(e.has).tail) ?_
   simp only [PA]
   refine TK (i:=6) (E (some ⟨A,0,none⟩) 1 1) rfl (by kernel_rfl) (fun _ _ _ h=>h) rfl (fun _ hS=>rfl) (e.has).tail ?_
   simp only [PA]
   refine TK (i:=7) (T true) rfl (by kernel_rfl) (fun _ _ _ h=>h) rfl (fun _ hS=>rfl) (e.has).tail ?_
   simp only [PA]
   refine anyT_done (by kernel_rfl) ?_ _
   refine z _ _ ?_
   refine wp_ret ?_
   repeat (with_reducible first | refine then_ret ?_ | refine inBlock_ret ?_)
   refine bodyPost_ret (results_tmp2 rfl _ _ _) rfl ?_
   exact retp (decide_eq_true (by omega)) (dg_small1 (m:=m) (by omega) k n) (wds_len (e.at_ _ (List.mem_of_getElem? (i:=0) rfl)) ⟨rfl,Nat.le_of_ble_eq_true rfl⟩) e.bl
  ·skip
   refine PV (T false) (CT (run_bin (J ((m / 4294967296:Nat):Int)) (J 0) _ rfl rfl rfl (bin_eql_104 _ _ _ _)) (congrArg Value.bool (beq_eq_false_iff_ne.2 (by omega)))) rfl ?_
   simp only [PA]
   refine PV (T false) rfl rfl ?_
   simp only [PA]
   refine wpList_nil ?_
   refine l _ _ ?_
   refine cond_false rfl ?_
   refine wp_skip ?_
   refine x _ _ ?_
   refine wp_seq_k fun ae C=>?_
   refine region_drawn 11 (fun j=>decide (11≤j)) (by kernel_rfl) rfl b fun af a ag=>?_
   refine TK (i:=0) (J ((m:Nat):Int)) rfl (by kernel_rfl) (fun _ _ _ h=>h) rfl (fun _ hS=>rfl) a.has ?_
   simp only [PA]
   refine TK (i:=1) (.int .u32 ((((m) % BW):Nat):Int)) rfl (by kernel_rfl) (fun _ _ _ h=>h) rfl (fun _ hS=>(run_cv _ rfl rfl rfl rfl (wrap_u32))) a.has ?_
   simp only [PA]
   refine TK (i:=2) (J ((m:Nat):Int)) rfl (by kernel_rfl) (fun _ _ _ h=>h) rfl (fun _ hS=>rfl) a.has ?_
   simp only [PA]
   refine TK (i:=3) (J ((m / 4294967296:Nat):Int)) rfl (by kernel_rfl) (fun _ _ _ h=>h) rfl (fun _ hS=>(CT (run_bin (J ((m:Nat):Int)) (J 32) _ rfl rfl rfl (bin_shr_104_u64 _ _ _ _)) (vint w_shr_32))) a.has ?_
   simp only [PA]
   refine TK (i:=4) (.int .u32 ((((m / 4294967296) % BW):Nat):Int)) rfl (by kernel_rfl) (fun _ _ _ h=>h) rfl (fun _ hS=>(run_cv _ rfl rfl rfl rfl (wrap_u32))) a.has ?_
   simp only [PA]
   refine TK (i:=6) (PT d 0) rfl (by kernel_rfl) (fun _ _ _ h=>h) rfl (fun _ hS=>(by kernel_rfl)) a.has ?_
   simp only [PA]
   refine TK (i:=7) (I (-((m:Nat):Int))) rfl (by kernel_rfl) (fun _ _ _ h=>h) rfl (fun _ hS=>(run_load1 (I (-((m:Nat):Int))) rfl rfl (hS _ (MI (i:=0) rfl)) rfl (ag2 _))) a.has ?_
   simp only [PA]
   refine TK (i:=8) (T true) rfl (by kernel_rfl) (fun _ _ _ h=>h) rfl (fun _ hS=>(CT (run_bin (I (-((m:Nat):Int))) (I 0) _ rfl rfl rfl (bin_lss_2 _ _ _ _)) (congrArg Value.bool (decide_eq_true (by omega))))) a.has ?_
   simp only [PA]
   refine anyT_one (i:=5) rfl (by kernel_rfl) rfl fun K hK=>o_lit2 (((m) % BW)) (((m / 4294967296) % BW)) rfl rfl rfl a fun D ah f ai=>hK _ _ (fun _=>(f.has).tail) ?_
   simp only [PA]
   refine TK (i:=9) (E (some ⟨D,0,none⟩) 2 2) rfl (by kernel_rfl) (fun _ _ _ h=>h) rfl (fun _ hS=>rfl) (f.has).tail ?_
   simp only [PA]
   refine TK (i:=10) (T true) rfl (by kernel_rfl) (fun _ _ _ h=>h) rfl (fun _ hS=>rfl) (f.has).tail ?_
   simp only [PA]
   refine anyT_done (by kernel_rfl) ?_ _
   refine C _ _ ?_
   refine wp_ret ?_
   repeat (with_reducible first | refine then_ret ?_ | refine inBlock_ret ?_)
   refine bodyPost_ret (results_tmp2 rfl _ _ _) rfl ?_
   exact retp (decide_eq_true (by omega)) (dg_small2 (m:=m) (by omega) (by omega) n) (wds_len (f.at_ _ (List.mem_of_getElem? (i:=0) rfl)) ⟨rfl,Nat.le_of_ble_eq_true rfl⟩) f.bl
set_option maxRecDepth 100000 in
set_option maxHeartbeats 2000000 in
theorem words_pos {m:Nat} {w:World} (hm:m<9223372036854775808):Calls Try.prog 111 #[AZ ((m:Nat):Int) none 0 0 false] w (RetP w ((m:Nat):Int)):=by
 go_enter Try.func111,Try.ntmps111
 have o:=St.start w
 refine wp_seq_k fun F p=>?_
 refine wp_region_lit ?_
 refine wpList_plain rfl fun K hK=>o_box (Z3 ((m:Nat):Int) none 0 0 false) rfl rfl rfl o fun d G b H=>hK _ _ ?_
 simp only [PA]
 refine PV (E none 0 0) rfl rfl ?_
 simp only [PA]
 refine PV (T false) rfl rfl ?_
 simp only [PA]
 refine wpList_nil ?_
 refine p _ _ ?_
 refine wp_seq_k fun L q=>?_
 refine wp_seq_k fun M r=>?_
 refine wp_region_lit ?_
 refine PV (PT d 1) (by kernel_rfl) rfl ?_
 simp only [PA]
 refine PV (E none 0 0) (run_load1 (E none 0 0) rfl rfl (b.at_ _ (MI (i:=0) rfl)) rfl (ag36 _)) rfl ?_
 simp only [PA]
 refine PV (T false) (run_bin (E none 0 0) (E none 0 0) _ rfl rfl rfl (bin_neq_36n _ _ _ _)) rfl ?_
 simp only [PA]
 refine wpList_nil ?_
 refine r _ _ ?_
 refine cond_false rfl ?_
 refine wp_skip ?_
 refine q _ _ ?_
 refine wp_seq_k fun N s=>?_
 refine wp_region_lit ?_
 refine PV (PT d 0) (by kernel_rfl) rfl ?_
 simp only [PA]
 refine PV (I ((m:Nat):Int)) (run_load1 (I ((m:Nat):Int)) rfl rfl (b.at_ _ (MI (i:=0) rfl)) rfl (ag2 _)) rfl ?_
 simp only [PA]
 refine PV (J ((m:Nat):Int)) (run_cv _ rfl rfl rfl rfl (wrap_u64 (by omega))) rfl ?_
 simp only [PA]
 refine PV (J ((m:Nat):Int)) rfl rfl ?_
 simp only [PA]
 refine wpList_nil ?_
 refine s _ _ ?_
 refine wp_seq_k fun P t=>?_
 refine wp_seq_k fun Q v=>?_
 refine wp_region_lit ?_
 refine PV (PT d 0) (by kernel_rfl) rfl ?_
 simp only [PA]
 refine PV (I ((m:Nat):Int)) (run_load1 (I ((m:Nat):Int)) rfl rfl (b.at_ _ (MI (i:=0) rfl)) rfl (ag2 _)) rfl ?_
 simp only [PA]
 refine PV (T false) (CT (run_bin (I ((m:Nat):Int)) (I 0) _ rfl rfl rfl (bin_lss_2 _ _ _ _)) (congrArg Value.bool (decide_eq_false (by omega)))) rfl ?_
 simp only [PA]
 refine wpList_nil ?_
 refine v _ _ ?_
 refine cond_false rfl ?_
 refine wp_skip ?_
 refine t _ _ ?_
 refine wp_seq_k fun R x=>?_
 refine wp_block ?_
 refine wp_seq_k fun S g=>?_
 refine wp_region_lit ?_
 refine PV (J ((m:Nat):Int)) rfl rfl ?_
 simp only [PA]
 by_cases k:m=0
 ·skip
  refine PV (T true) (CT (run_bin (J ((m:Nat):Int)) (J 0) _ rfl rfl rfl (bin_eql_104 _ _ _ _)) (congrArg Value.bool (beq_iff_eq.2 (by omega)))) rfl ?_
  simp only [PA]
  refine PV (T true) rfl rfl ?_
  simp only [PA]
  refine wpList_nil ?_
  refine g _ _ ?_
  refine cond_true rfl ?_
  refine wp_seq_k fun V y=>?_
  refine wp_region_lit ?_
  refine PV (E none 0 0) rfl rfl ?_
  simp only [PA]
  refine PV (T false) rfl rfl ?_
  simp only [PA]
  refine wpList_nil ?_
  refine y _ _ ?_
  refine wp_ret ?_
  repeat (with_reducible first | refine then_ret ?_ | refine inBlock_ret ?_)
  refine bodyPost_ret (results_tmp2 rfl _ _ _) rfl ?_
  exact retp (decide_eq_false (by omega)) (dg_small0 (m:=m) (by omega) k) ⟨⟨rfl,by omega,fun h=>absurd h (by omega)⟩,Nat.le_refl _⟩ b.bl
 ·skip
  refine PV (T false) (CT (run_bin (J ((m:Nat):Int)) (J 0) _ rfl rfl rfl (bin_eql_104 _ _ _ _)) (congrArg Value.bool (beq_eq_false_iff_ne.2 (by omega)))) rfl ?_
  simp only [PA]
  refine PV (T false) rfl rfl ?_
  simp only [PA]
  refine wpList_nil ?_
  refine g _ _ ?_
  refine cond_false rfl ?_
  refine wp_seq_k fun W l=>?_
  refine wp_region_lit ?_
  refine PV (J ((m:Nat):Int)) rfl rfl ?_
  simp only [PA]
  refine PV (J ((m / 4294967296:Nat):Int)) (CT (run_bin (J ((m:Nat):Int)) (J 32) _ rfl rfl rfl (bin_shr_104_u64 _ _ _ _)) (vint w_shr_32)) rfl ?_
  simp only [PA]
  by_cases n:m / 4294967296=0
  ·skip
   refine PV (T true) (CT (run_bin (J ((m / 4294967296:Nat):Int)) (J 0) _ rfl rfl rfl (bin_eql_104 _ _ _ _)) (congrArg Value.bool (beq_iff_eq.2 (by omega)))) rfl ?_
   simp only [PA]
   refine PV (T true) rfl rfl ?_
   simp only [PA]
   refine wpList_nil ?_
   refine l _ _ ?_
   refine cond_true rfl ?_
   refine wp_seq_k fun X z=>?_
   refine region_drawn 8 (fun j=>decide (8≤j)) (by kernel_rfl) rfl b fun Y c aa=>?_
   refine TK (i:=0) (J ((m:Nat):Int)) rfl (by kernel_rfl) (fun _ _ _ h=>h) rfl (fun _ hS=>rfl) c.has ?_
   simp only [PA]
   refine TK (i:=1) (.int .u32 ((((m) % BW):Nat):Int)) rfl (by kernel_rfl) (fun _ _ _ h=>h) rfl (fun _ hS=>(run_cv _ rfl rfl rfl rfl (wrap_u32))) c.has ?_
   simp only [PA]
   refine TK (i:=3) (PT d 0) rfl (by kernel_rfl) (fun _ _ _ h=>h) rfl (fun _ hS=>(by kernel_rfl)) c.has ?_
   simp only [PA]
   refine TK (i:=4) (I ((m:Nat):Int)) rfl (by kernel_rfl) (fun _ _ _ h=>h) rfl (fun _ hS=>(run_load1 (I ((m:Nat):Int)) rfl rfl (hS _ (MI (i:=0) rfl)) rfl (ag2 _))) c.has ?_
   simp only [PA]
   refine TK (i:=5) (T false) rfl (by kernel_rfl) (fun _ _ _ h=>h) rfl (fun _ hS=>(CT (run_bin (I ((m:Nat):Int)) (I 0) _ rfl rfl rfl (bin_lss_2 _ _ _ _)) (congrArg Value.bool (decide_eq_false (by omega))))) c.has ?_
   simp only [PA]
   refine anyT_one (i:=2) rfl (by kernel_rfl) rfl fun K hK=>o_lit (((m) % BW)) rfl rfl c fun A ab e ac=>hK _ _ (fun _=>(e.has).tail) ?_
   simp only [PA]
   refine TK (i:=6) (E (some ⟨A,0,none⟩) 1 1) rfl (by kernel_rfl) (fun _ _ _ h=>h) rfl (fun _ hS=>rfl) (e.has).tail ?_
   simp only [PA]
   refine TK (i:=7) (T false) rfl (by kernel_rfl) (fun _ _ _ h=>h) rfl (fun _ hS=>rfl) (e.has).tail ?_
   simp only [PA]
   refine anyT_done (by kernel_rfl) ?_ _
   refine z _ _ ?_
   refine wp_ret ?_
   repeat (with_reducible first | refine then_ret ?_ | refine inBlock_ret ?_)
   refine bodyPost_ret (results_tmp2 rfl _ _ _) rfl ?_
   exact retp (decide_eq_false (by omega)) (dg_small1 (m:=m) (by omega) k n) (wds_len (e.at_ _ (List.mem_of_getElem? (i:=0) rfl)) ⟨rfl,Nat.le_of_ble_eq_true rfl⟩) e.bl
  ·skip
   refine PV (T false) (CT (run_bin (J ((m / 4294967296:Nat):Int)) (J 0) _ rfl rfl rfl (bin_eql_104 _ _ _ _)) (congrArg Value.bool (beq_eq_false_iff_ne.2 (by omega)))) rfl ?_
   simp only [PA]
   refine PV (T false) rfl rfl ?_
   simp only [PA]
   refine wpList_nil ?_
   refine l _ _ ?_
   refine cond_false rfl ?_
   refine wp_skip ?_
   refine x _ _ ?_
   refine wp_seq_k fun ad C=>?_
   refine region_drawn 11 (fun j=>decide (11≤j)) (by kernel_rfl) rfl b fun ae a af=>?_
   refine TK (i:=0) (J ((m:Nat):Int)) rfl (by kernel_rfl) (fun _ _ _ h=>h) rfl (fun _ hS=>rfl) a.has ?_
   simp only [PA]
   refine TK (i:=1) (.int .u32 ((((m) % BW):Nat):Int)) rfl (by kernel_rfl) (fun _ _ _ h=>h) rfl (fun _ hS=>(run_cv _ rfl rfl rfl rfl (wrap_u32))) a.has ?_
   simp only [PA]
   refine TK (i:=2) (J ((m:Nat):Int)) rfl (by kernel_rfl) (fun _ _ _ h=>h) rfl (fun _ hS=>rfl) a.has ?_
   simp only [PA]
   refine TK (i:=3) (J ((m / 4294967296:Nat):Int)) rfl (by kernel_rfl) (fun _ _ _ h=>h) rfl (fun _ hS=>(CT (run_bin (J ((m:Nat):Int)) (J 32) _ rfl rfl rfl (bin_shr_104_u64 _ _ _ _)) (vint w_shr_32))) a.has ?_
   simp only [PA]
   refine TK (i:=4) (.int .u32 ((((m / 4294967296) % BW):Nat):Int)) rfl (by kernel_rfl) (fun _ _ _ h=>h) rfl (fun _ hS=>(run_cv _ rfl rfl rfl rfl (wrap_u32))) a.has ?_
   simp only [PA]
   refine TK (i:=6) (PT d 0) rfl (by kernel_rfl) (fun _ _ _ h=>h) rfl (fun _ hS=>(by kernel_rfl)) a.has ?_
   simp only [PA]
   refine TK (i:=7) (I ((m:Nat):Int)) rfl (by kernel_rfl) (fun _ _ _ h=>h) rfl (fun _ hS=>(run_load1 (I ((m:Nat):Int)) rfl rfl (hS _ (MI (i:=0) rfl)) rfl (ag2 _))) a.has ?_
   simp only [PA]
   refine TK (i:=8) (T false) rfl (by kernel_rfl) (fun _ _ _ h=>h) rfl (fun _ hS=>(CT (run_bin (I ((m:Nat):Int)) (I 0) _ rfl rfl rfl (bin_lss_2 _ _ _ _)) (congrArg Value.bool (decide_eq_false (by omega))))) a.has ?_
   simp only [PA]
   refine anyT_one (i:=5) rfl (by kernel_rfl) rfl fun K hK=>o_lit2 (((m) % BW)) (((m / 4294967296) % BW)) rfl rfl rfl a fun D ag f ah=>hK _ _ (fun _=>(f.has).tail) ?_
   simp only [PA]
   refine TK (i:=9) (E (some ⟨D,0,none⟩) 2 2) rfl (by kernel_rfl) (fun _ _ _ h=>h) rfl (fun _ hS=>rfl) (f.has).tail ?_
   simp only [PA]
   refine TK (i:=10) (T false) rfl (by kernel_rfl) (fun _ _ _ h=>h) rfl (fun _ hS=>rfl) (f.has).tail ?_
   simp only [PA]
   refine anyT_done (by kernel_rfl) ?_ _
   refine C _ _ ?_
   refine wp_ret ?_
   repeat (with_reducible first | refine then_ret ?_ | refine inBlock_ret ?_)
   refine bodyPost_ret (results_tmp2 rfl _ _ _) rfl ?_
   exact retp (decide_eq_false (by omega)) (dg_small2 (m:=m) (by omega) (by omega) n) (wds_len (f.at_ _ (List.mem_of_getElem? (i:=0) rfl)) ⟨rfl,Nat.le_of_ble_eq_true rfl⟩) f.bl
set_option maxRecDepth 100000 in
set_option maxHeartbeats 2000000 in
theorem words_big {z:Int} {ad:Addr} {n c:Nat} {s:Bool} {w:World} (hx:Wds w (some ad) n c (dg z.natAbs)) (hs:decide (z<0)=s):Calls Try.prog 111 #[AZ 0 (some ad) n c s] w (RetP w z):=by
 go_enter Try.func111,Try.ntmps111
 have e:=St.start w
 refine wp_seq_k fun l f=>?_
 refine wp_region_lit ?_
 refine wpList_plain rfl fun K hK=>o_box (Z3 0 (some ad) n c s) rfl rfl rfl e fun b m d o=>hK _ _ ?_
 simp only [PA]
 refine PV (E none 0 0) rfl rfl ?_
 simp only [PA]
 refine PV (T false) rfl rfl ?_
 simp only [PA]
 refine wpList_nil ?_
 refine f _ _ ?_
 refine wp_seq_k fun p q=>?_
 refine wp_seq_k fun r g=>?_
 refine wp_region_lit ?_
 refine PV (PT b 1) (by kernel_rfl) rfl ?_
 simp only [PA]
 refine PV (E (some ad) n c) (run_load1 (E (some ad) n c) rfl rfl (d.at_ _ (MI (i:=0) rfl)) rfl (ag36 _)) rfl ?_
 simp only [PA]
 refine PV (T true) (run_bin (E (some ad) n c) (E none 0 0) _ rfl rfl rfl (bin_neq_36s _ _ _ _ _)) rfl ?_
 simp only [PA]
 refine wpList_nil ?_
 refine g _ _ ?_
 refine cond_true rfl ?_
 refine wp_seq_k fun t k=>?_
 refine region_drawn 6 (fun j=>decide (6≤j)) (by kernel_rfl) rfl d fun v a x=>?_
 refine TK (i:=0) (PT b 1) rfl (by kernel_rfl) (fun _ _ _ h=>h) rfl (fun _ hS=>(by kernel_rfl)) a.has ?_
 simp only [PA]
 refine TK (i:=1) (E (some ad) n c) rfl (by kernel_rfl) (fun _ _ _ h=>h) rfl (fun _ hS=>(run_load1 (E (some ad) n c) rfl rfl (hS _ (MI (i:=0) rfl)) rfl (ag36 _))) a.has ?_
 simp only [PA]
 refine TK (i:=2) (PT b 2) rfl (by kernel_rfl) (fun _ _ _ h=>h) rfl (fun _ hS=>(by kernel_rfl)) a.has ?_
 simp only [PA]
 refine TK (i:=3) (T s) rfl (by kernel_rfl) (fun _ _ _ h=>h) rfl (fun _ hS=>(run_load1 (T s) rfl rfl (hS _ (MI (i:=0) rfl)) rfl (ag4 _))) a.has ?_
 simp only [PA]
 refine TK (i:=4) (E (some ad) n c) rfl (by kernel_rfl) (fun _ _ _ h=>h) rfl (fun _ hS=>rfl) a.has ?_
 simp only [PA]
 refine TK (i:=5) (T s) rfl (by kernel_rfl) (fun _ _ _ h=>h) rfl (fun _ hS=>rfl) a.has ?_
 simp only [PA]
 refine anyT_done (by kernel_rfl) ?_ _
 refine k _ _ ?_
 refine wp_ret ?_
 repeat (with_reducible first | refine then_ret ?_ | refine inBlock_ret ?_)
 refine bodyPost_ret (results_tmp2 rfl _ _ _) rfl ?_
 exact retp hs rfl (hx.below a.bl) a.bl
theorem words_c {v : Value} {z : Int} {w : World} (h : Zh w v z) : Calls Try.prog 111 #[v] w (RetP w z) := by
 rcases h with ⟨rfl, h1, h2⟩ | ⟨ad, n, c, rfl, hx, _⟩
 ·by_cases hz : z < 0
  ·obtain ⟨m, rfl⟩ : ∃ m : Nat, z = -((m : Nat) : Int) := ⟨z.natAbs, by omega⟩
   exact words_neg (by omega) (by omega)
  ·obtain ⟨m, rfl⟩ : ∃ m : Nat, z = ((m : Nat) : Int) := ⟨z.natAbs, by omega⟩
   exact words_pos (by omega)
 ·exact words_big hx rfl
end Go.Proofs.Ythhgjloephkpaaa
