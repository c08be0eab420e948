/- Words and walks for the row RowRatLeast, put together: RZB. -/
import Derived.Test.YthhgjloephkpaaaLeRZM
import Derived.Test.YthhgjloephkpaaaLe6
import Derived.Test.YthhgjloephkpaaaLe14
namespace Go.Proofs.Ythhgjloephkpaaa
set_option linter.unusedVariables false
set_option linter.unusedSimpArgs false
open Go Go.RowKit Go.Proofs.YthhgjloephkpaaaW.PrintWords Go.Proofs.YthhgjloephkpaaaW.PrintLast

section
variable {w : World}
set_option maxRecDepth 100000 in
theorem bin_eql_36o (x y : Operand) (A : Option Addr) (n m : Nat) : (do eqGuard .eql 36 x y (.slice A n m) (.slice none 0 0); binOp .eql 36 (.slice A n m) (.slice none 0 0) : Sem Value).run Try.prog w = .ok (.bool A.isNone) w := by cases A <;> rfl
set_option maxRecDepth 100000 in
theorem bin_neq_36o (x y : Operand) (A : Option Addr) (n m : Nat) : (do eqGuard .neq 36 x y (.slice A n m) (.slice none 0 0); binOp .neq 36 (.slice A n m) (.slice none 0 0) : Sem Value).run Try.prog w = .ok (.bool (!A.isNone)) w := by cases A <;> rfl
end
theorem wanted_none {o : Oper} {f : Nat → Option Bool} {i : Nat} {b : Bool} (hg : o.guard = some (i, b)) (hf : f i = none) : Region.wanted o f = false := by
 unfold Region.wanted
 rw [hg]
 simp only [hf]
 rfl
section
variable {P : Program} {ops : Array Oper} {Q : Exit → Act → World → Prop} {md : Region.Mode} {f : Nat → Bool}
theorem region_drawnP (n : Nat) (f : Nat → Bool) {L : List Bx} {w0 : World} {id : Nat} {a : Act} {w : World} (hm : P.follows .mixedOrders = true) (hn : ops.toList.length = n) (hs : St w0 w L)
  (h : ∀ wc, St w0 wc L → U w wc → wpAnyT P .any ops Q (· = wc) f n (Array.replicate n false) a wc) : (Code.region id ops true).wp P Q a w :=
 wp_region_any hm (by rw [show ops.size = n from hn]; exact wpAny_of_tailT _ _ _ _ (h w.drew hs.drew (U.drew w)))
theorem anyT_here {i : Nat} {oi : Oper} (v : Value) {fuel : Nat} {listed : Array Bool} {a : Act} {w : World} (hi : ops.toList[i]? = some oi)
  (hs : Region.noSelect ops = true) (hf : Region.free md ops listed i = true) (hr : (Region.ready md ops listed).contains i = true) (hw : (waitsT md ops f i && shutT md ops listed) = true)
  (hQ : ∀ c a w, Q (.panic c) (a.put oi.dst v) w → Q (.panic c) a w) (hwd : Region.wanted oi (yielded ops a.tmps) = true) (hy : (execOp a.eval oi).run P w = .ok (.value v) w)
  (h : wpAnyT P md ops Q (· = w) f fuel (listed.setIfInBounds i true) (a.put oi.dst v) w) : wpAnyT P md ops Q (· = w) f (fuel + 1) listed a w :=
 anyT_take v hi hs hf hr hw hQ hwd (fun _ e => e ▸ hy) rfl h
end
/-- Words, new: their value is x. -/
def RetR (w : World) (x : Nat) (e : Ending) (w' : World) : Prop := (∃ v, e = .returned v ∧ ∃ A n c ls, v = .slice A n c ∧ Wds w' A n c ls ∧ Dig ls ∧ val ls = x) ∧ Below w.heap.size w w'
theorem add_c {A B : Option Addr} {n c m d x y : Nat} {w : World} (hx : Wds w A n c (dg x)) (hy : Wds w B m d (dg y)) (fx : FitN 100000000 x) (fy : FitN 100000000 y) : Calls Try.prog 113 #[.slice A n c, .slice B m d] w (RetR w (x + y)) :=
 (addWords_any A B n c m d x y w hx hy (by rw [← hx.len]; exact Nat.le_trans fx (by decide)) (by rw [← hy.len]; exact Nat.le_trans fy (by decide))).mono fun e w' ⟨⟨R, r, k, ls, he, h⟩, hb⟩ => ⟨⟨_, he, _, _, _, _, rfl, h⟩, hb⟩
theorem take_c {A B : Option Addr} {n c m d x y : Nat} {w : World} (hx : Wds w A n c (dg x)) (hy : Wds w B m d (dg y)) (fx : FitN 100000000 x) (fy : FitN 100000000 y) (hyx : y ≤ x) : Calls Try.prog 115 #[.slice A n c, .slice B m d] w (RetR w (x - y)) :=
 (subWords_any A B n c m d x y w hx hy (by rw [← hx.len]; exact Nat.le_trans fx (by decide)) hyx).mono fun e w' ⟨⟨R, r, k, ls, he, h⟩, hb⟩ => ⟨⟨_, he, _, _, _, _, rfl, h⟩, hb⟩
theorem zsm {w : World} {i z : Int} {A : Option Addr} {n c : Nat} {s : Bool} (h : Zh w (.agg #[.int .i64 i, .slice A n c, .bool s]) z) (hA : A.isNone = true) : i = z ∧ -9223372036854775808 ≤ z ∧ z < 9223372036854775808 := by
 rcases zcase h with ⟨h1, _, _, _, _, h2, h3⟩ | ⟨ad, rfl, _⟩
 ·exact ⟨h1.symm, h2, h3⟩
 ·cases hA
theorem Fit.natAbs {k : Nat} {x : Int} (h : Fit k x) : Fit k ((x.natAbs : Nat) : Int) := by unfold Fit at *; rwa [Int.natAbs_natCast]
theorem Fit.tdiv {k : Nat} {x y : Int} (h : Fit k x) : Fit k (x.tdiv y) := h.le (by rw [Int.natAbs_tdiv]; exact Nat.div_le_self _ _)
theorem Fit.tmod {k : Nat} {x y : Int} (h : Fit k x) : Fit k (x.tmod y) := h.le (by rw [Int.natAbs_tmod]; exact Nat.mod_le _ _)
theorem sgnV {x r : Int} (h : (x < 0 ∧ r = -1) ∨ (x = 0 ∧ r = 0) ∨ (0 < x ∧ r = 1)) : Value.int .i64 r = .int .i64 (cmpZ x 0) := by
 congr 1; unfold cmpZ
 rcases h with ⟨h, rfl⟩ | ⟨h, rfl⟩ | ⟨h, rfl⟩
 ·rw [if_pos h]
 ·rw [if_neg (by omega), if_pos h]
 ·rw [if_neg (by omega), if_neg (by omega)]
theorem cmpV {x y r : Int} (h : (x < y ∧ r = -1) ∨ (x = y ∧ r = 0) ∨ (y < x ∧ r = 1)) : Value.int .i64 r = .int .i64 (cmpZ x y) := by
 congr 1; unfold cmpZ
 rcases h with ⟨h, rfl⟩ | ⟨h, rfl⟩ | ⟨h, rfl⟩
 ·rw [if_pos h]
 ·rw [if_neg (by omega), if_pos h]
 ·rw [if_neg (by omega), if_neg (by omega)]
theorem cmp_sub (x y : Int) : Value.int .i64 (cmpZ (x - y) 0) = .int .i64 (cmpZ x y) := cmpV (by
 unfold cmpZ; split <;> try split
 all_goals omega)
theorem sgn_lt {x : Int} (h : x < 0) : decide (cmpZ x 0 < 0) = true := by unfold cmpZ; rw [if_pos h]; rfl
theorem sgn_nlt {x : Int} (h : ¬ x < 0) : decide (cmpZ x 0 < 0) = false := by unfold cmpZ; rw [if_neg h]; split <;> rfl
theorem sgn_ne {x : Int} (h : ¬ x = 0) : ((cmpZ x 0 : Int) != (0 : Int)) = true := by
 unfold cmpZ; split
 ·rfl
 ·first | rfl | (rw [if_neg h]; rfl)
theorem sgn_eq {x : Int} (h : x = 0) : ((cmpZ x 0 : Int) != (0 : Int)) = false := by subst h; rfl
theorem add_ok {i j : Int} (h1 : -9223372036854775808 ≤ i) (h2 : i < 9223372036854775808) (h3 : -9223372036854775808 ≤ j) (h4 : j < 9223372036854775808) (h : -9223372036854775808 ≤ i + j ∧ i + j < 9223372036854775808) :
  (decide ((i : Int) < IntKind.i64.wrap (i + j)) == decide ((0 : Int) < j)) = true := by
 rw [beq_iff_eq, decide_eq_decide, IntKind.wrap_i64]; omega
theorem add_no {i j : Int} (h1 : -9223372036854775808 ≤ i) (h2 : i < 9223372036854775808) (h3 : -9223372036854775808 ≤ j) (h4 : j < 9223372036854775808) (h : ¬ (-9223372036854775808 ≤ i + j ∧ i + j < 9223372036854775808)) :
  (decide ((i : Int) < IntKind.i64.wrap (i + j)) == decide ((0 : Int) < j)) = false := by
 rw [beq_eq_false_iff_ne, Ne, decide_eq_decide, IntKind.wrap_i64]; omega
/-- An integer as an int, where its amount is at most most. -/
def intV (z m : Int) : Value := if -m ≤ z ∧ z ≤ m then .tuple #[.int .i64 z, .bool true] else .tuple #[.int .i64 0, .bool false]
theorem intV_yes {z m : Int} (h : -m ≤ z ∧ z ≤ m) : intV z m = .tuple #[.int .i64 z, .bool true] := if_pos h
theorem intV_no {z m : Int} (h : ¬ (-m ≤ z ∧ z ≤ m)) : intV z m = .tuple #[.int .i64 0, .bool false] := if_neg h
set_option maxRecDepth 100000 in
set_option maxHeartbeats 2000000 in
theorem int71 {x:Int} {w:World} (b:-9223372036854775808≤x) (c:x<9223372036854775808):Calls Try.prog 71 #[I x] w (RetZ w x):=by
 go_enter Try.func71,Try.ntmps71
 have d:=St.start w
 refine wp_seq_k fun h e=>?_
 refine wp_region_lit ?_
 refine wpList_plain rfl fun K hK=>o_alloc (Z3 0 none 0 0 false) _ rfl (zv60 _) rfl rfl d fun j k f l=>hK _ _ ?_
 simp only [PA]
 refine wpList_nil ?_
 refine e _ _ ?_
 refine wp_seq_k fun m g=>?_
 refine wp_region_lit ?_
 refine PV (I x) rfl rfl ?_
 simp only [PA]
 refine PV (AZ x none 0 0 false) (by kernel_rfl) rfl ?_
 simp only [PA]
 refine wpList_plain rfl fun K hK=>OT 0 (Z3 x none 0 0 false) f (sz60 _) fun n a o=>hK _ _ ?_
 simp only [PA]
 refine wpList_nil ?_
 refine g _ _ ?_
 refine wp_ret ?_
 repeat (with_reducible first | refine then_ret ?_ | refine inBlock_ret ?_)
 refine bodyPost_ret (ret60 rfl _ rfl rfl (a.at_ _ (MI (i:=0) rfl))) rfl ?_
 exact ⟨⟨_,rfl,Zh.small _ b c⟩,a.bl⟩
set_option maxRecDepth 100000 in
set_option maxHeartbeats 2000000 in
theorem sign82 {v:Value} {x:Int} {w:World} (hx:Zh w v x):Calls Try.prog 82 #[v] w (RetI w (cmpZ x 0)):=by
 rcases hx with ⟨rfl,k,l⟩ | ⟨xad,xn,xc,rfl,xd,xb⟩
 ·skip
  have Zx:Zh w (AZ x none 0 0 false) x:=Zh.small w k l
  go_enter Try.func82,Try.ntmps82
  have e:=St.start w
  refine wp_seq_k fun m f=>?_
  refine wp_region_lit ?_
  refine wpList_plain rfl fun K hK=>o_box (Z3 x none 0 0 false) rfl rfl rfl e fun b n a o=>hK _ _ ?_
  simp only [PA]
  refine PV (I 0) rfl rfl ?_
  simp only [PA]
  refine wpList_nil ?_
  refine f _ _ ?_
  refine wp_seq_k fun p g=>?_
  refine wp_block ?_
  refine wp_seq_k fun q c=>?_
  refine wp_region_lit ?_
  refine PV (PT b 1) (by kernel_rfl) rfl ?_
  simp only [PA]
  refine PV (E none 0 0) (run_load1 (E none 0 0) rfl rfl (a.at_ _ (MI (i:=0) rfl)) rfl (ag36 _)) rfl ?_
  simp only [PA]
  refine PV (T false) (run_bin (E none 0 0) (E none 0 0) _ rfl rfl rfl (bin_neq_36n _ _ _ _)) rfl ?_
  simp only [PA]
  refine PV (T false) rfl rfl ?_
  simp only [PA]
  with_reducible refine wpList_off ?_ ?_
  ·with_reducible exact wanted_off rfl rfl rfl
  simp only [PA]
  with_reducible refine wpList_off ?_ ?_
  ·with_reducible exact wanted_off rfl rfl rfl
  simp only [PA]
  refine PV (T false) rfl rfl ?_
  simp only [PA]
  refine PV (T false) rfl rfl ?_
  simp only [PA]
  refine wpList_on (by kernel_rfl) fun K hK=>o_val (PT b 1) (by kernel_rfl) (hK _ _ ?_)
  simp only [PA]
  refine wpList_on (by kernel_rfl) fun K hK=>o_val (E none 0 0) (run_load1 (E none 0 0) rfl rfl (a.at_ _ (MI (i:=0) rfl)) rfl (ag36 _)) (hK _ _ ?_)
  simp only [PA]
  refine wpList_on (by kernel_rfl) fun K hK=>o_val (T true) (run_bin (E none 0 0) (E none 0 0) _ rfl rfl rfl (bin_eql_36n _ _ _ _)) (hK _ _ ?_)
  simp only [PA]
  refine wpList_on (by kernel_rfl) fun K hK=>o_val (T true) rfl (hK _ _ ?_)
  simp only [PA]
  refine wpList_on (by kernel_rfl) fun K hK=>o_val (PT b 0) (by kernel_rfl) (hK _ _ ?_)
  simp only [PA]
  refine wpList_on (by kernel_rfl) fun K hK=>o_val (I x) (run_load1 (I x) rfl rfl (a.at_ _ (MI (i:=0) rfl)) rfl (ag2 _)) (hK _ _ ?_)
  simp only [PA]
  by_cases hn:(x:Int)<0
  ·skip
   refine wpList_on (by kernel_rfl) fun K hK=>o_val (T true) (CT (run_bin (I x) (I 0) _ rfl rfl rfl (bin_lss_2 _ _ _ _)) (congrArg Value.bool (decide_eq_true hn))) (hK _ _ ?_)
   simp only [PA]
   refine wpList_on (by kernel_rfl) fun K hK=>o_val (T true) rfl (hK _ _ ?_)
   simp only [PA]
   refine PV (T true) rfl rfl ?_
   simp only [PA]
   refine PV (T true) rfl rfl ?_
   simp only [PA]
   refine wpList_nil ?_
   refine c _ _ ?_
   refine cond_true rfl ?_
   refine wp_seq_k fun r h=>?_
   refine wp_region_lit ?_
   refine PV (I (-1)) rfl rfl ?_
   simp only [PA]
   refine wpList_nil ?_
   refine h _ _ ?_
   refine wp_ret ?_
   repeat (with_reducible first | refine then_ret ?_ | refine inBlock_ret ?_)
   refine bodyPost_ret (results_tmp rfl _ _ _) rfl ?_
   exact ⟨⟨_,rfl,sgnV (by omega)⟩,a.bl⟩
  ·skip
   refine wpList_on (by kernel_rfl) fun K hK=>o_val (T false) (CT (run_bin (I x) (I 0) _ rfl rfl rfl (bin_lss_2 _ _ _ _)) (congrArg Value.bool (decide_eq_false hn))) (hK _ _ ?_)
   simp only [PA]
   refine wpList_on (by kernel_rfl) fun K hK=>o_val (T false) rfl (hK _ _ ?_)
   simp only [PA]
   refine PV (T false) rfl rfl ?_
   simp only [PA]
   refine PV (T false) rfl rfl ?_
   simp only [PA]
   refine wpList_nil ?_
   refine c _ _ ?_
   refine cond_false rfl ?_
   refine wp_seq_k fun t d=>?_
   refine wp_region_lit ?_
   refine PV (PT b 1) (by kernel_rfl) rfl ?_
   simp only [PA]
   refine PV (E none 0 0) (run_load1 (E none 0 0) rfl rfl (a.at_ _ (MI (i:=0) rfl)) rfl (ag36 _)) rfl ?_
   simp only [PA]
   refine PV (T true) (run_bin (E none 0 0) (E none 0 0) _ rfl rfl rfl (bin_eql_36n _ _ _ _)) rfl ?_
   simp only [PA]
   refine PV (T true) rfl rfl ?_
   simp only [PA]
   refine wpList_on (by kernel_rfl) fun K hK=>o_val (PT b 0) (by kernel_rfl) (hK _ _ ?_)
   simp only [PA]
   refine wpList_on (by kernel_rfl) fun K hK=>o_val (I x) (run_load1 (I x) rfl rfl (a.at_ _ (MI (i:=0) rfl)) rfl (ag2 _)) (hK _ _ ?_)
   simp only [PA]
   by_cases hz:x=0
   ·skip
    refine wpList_on (by kernel_rfl) fun K hK=>o_val (T true) (CT (run_bin (I x) (I 0) _ rfl rfl rfl (bin_eql_2 _ _ _ _)) (congrArg Value.bool (beq_iff_eq.2 hz))) (hK _ _ ?_)
    simp only [PA]
    refine PV (T true) rfl rfl ?_
    simp only [PA]
    refine PV (T true) rfl rfl ?_
    simp only [PA]
    refine wpList_nil ?_
    refine d _ _ ?_
    refine cond_true rfl ?_
    refine wp_seq_k fun y j=>?_
    refine wp_region_lit ?_
    refine PV (I 0) rfl rfl ?_
    simp only [PA]
    refine wpList_nil ?_
    refine j _ _ ?_
    refine wp_ret ?_
    repeat (with_reducible first | refine then_ret ?_ | refine inBlock_ret ?_)
    refine bodyPost_ret (results_tmp rfl _ _ _) rfl ?_
    exact ⟨⟨_,rfl,sgnV (by omega)⟩,a.bl⟩
   ·skip
    refine wpList_on (by kernel_rfl) fun K hK=>o_val (T false) (CT (run_bin (I x) (I 0) _ rfl rfl rfl (bin_eql_2 _ _ _ _)) (congrArg Value.bool (beq_eq_false_iff_ne.2 hz))) (hK _ _ ?_)
    simp only [PA]
    refine PV (T false) rfl rfl ?_
    simp only [PA]
    refine PV (T false) rfl rfl ?_
    simp only [PA]
    refine wpList_nil ?_
    refine d _ _ ?_
    refine cond_false rfl ?_
    refine wp_skip ?_
    refine g _ _ ?_
    refine wp_seq_k fun A z=>?_
    refine wp_region_lit ?_
    refine PV (I 1) rfl rfl ?_
    simp only [PA]
    refine wpList_nil ?_
    refine z _ _ ?_
    refine wp_ret ?_
    repeat (with_reducible first | refine then_ret ?_ | refine inBlock_ret ?_)
    refine bodyPost_ret (results_tmp rfl _ _ _) rfl ?_
    exact ⟨⟨_,rfl,sgnV (by omega)⟩,a.bl⟩
 ·skip
  obtain ⟨xs,xsg⟩:∃ s,decide (x<0)=s:=⟨_,rfl⟩
  rw [xsg]
  have Zx:Zh w (AZ 0 (some xad) xn xc xs) x:=Zh.big xsg xd xb
  go_enter Try.func82,Try.ntmps82
  have e:=St.start w
  refine wp_seq_k fun m f=>?_
  refine wp_region_lit ?_
  refine wpList_plain rfl fun K hK=>o_box (Z3 0 (some xad) xn xc xs) rfl rfl rfl e fun b n a o=>hK _ _ ?_
  simp only [PA]
  refine PV (I 0) rfl rfl ?_
  simp only [PA]
  refine wpList_nil ?_
  refine f _ _ ?_
  refine wp_seq_k fun p g=>?_
  refine wp_block ?_
  refine wp_seq_k fun q c=>?_
  refine wp_region_lit ?_
  refine PV (PT b 1) (by kernel_rfl) rfl ?_
  simp only [PA]
  refine PV (E (some xad) xn xc) (run_load1 (E (some xad) xn xc) rfl rfl (a.at_ _ (MI (i:=0) rfl)) rfl (ag36 _)) rfl ?_
  simp only [PA]
  refine PV (T true) (run_bin (E (some xad) xn xc) (E none 0 0) _ rfl rfl rfl (bin_neq_36s _ _ _ _ _)) rfl ?_
  simp only [PA]
  refine PV (T true) rfl rfl ?_
  simp only [PA]
  refine wpList_on (by kernel_rfl) fun K hK=>o_val (PT b 2) (by kernel_rfl) (hK _ _ ?_)
  simp only [PA]
  by_cases hs:xs=true
  ·skip
   refine wpList_on (by kernel_rfl) fun K hK=>o_val (T true) (CT (run_load1 (T xs) rfl rfl (a.at_ _ (MI (i:=0) rfl)) rfl (ag4 _)) (congrArg Value.bool hs)) (hK _ _ ?_)
   simp only [PA]
   refine PV (T true) rfl rfl ?_
   simp only [PA]
   refine PV (T true) rfl rfl ?_
   simp only [PA]
   with_reducible refine wpList_off ?_ ?_
   ·with_reducible exact wanted_off rfl rfl rfl
   simp only [PA]
   with_reducible refine wpList_off ?_ ?_
   ·with_reducible exact wanted_off rfl rfl rfl
   simp only [PA]
   with_reducible refine wpList_off ?_ ?_
   ·with_reducible exact wanted_off rfl rfl rfl
   simp only [PA]
   with_reducible refine wpList_off ?_ ?_
   ·with_reducible exact wanted_off rfl rfl rfl
   simp only [PA]
   with_reducible refine wpList_off ?_ ?_
   ·with_reducible exact wanted_none rfl rfl
   simp only [PA]
   with_reducible refine wpList_off ?_ ?_
   ·with_reducible exact wanted_none rfl rfl
   simp only [PA]
   with_reducible refine wpList_off ?_ ?_
   ·with_reducible exact wanted_none rfl rfl
   simp only [PA]
   with_reducible refine wpList_off ?_ ?_
   ·with_reducible exact wanted_off rfl rfl rfl
   simp only [PA]
   refine PV (T true) rfl rfl ?_
   simp only [PA]
   refine PV (T true) rfl rfl ?_
   simp only [PA]
   refine wpList_nil ?_
   refine c _ _ ?_
   refine cond_true rfl ?_
   refine wp_seq_k fun r h=>?_
   refine wp_region_lit ?_
   refine PV (I (-1)) rfl rfl ?_
   simp only [PA]
   refine wpList_nil ?_
   refine h _ _ ?_
   refine wp_ret ?_
   repeat (with_reducible first | refine then_ret ?_ | refine inBlock_ret ?_)
   refine bodyPost_ret (results_tmp rfl _ _ _) rfl ?_
   exact ⟨⟨_,rfl,sgnV (by rw [hs] at xsg; have:=of_decide_eq_true xsg; omega)⟩,a.bl⟩
  ·skip
   refine wpList_on (by kernel_rfl) fun K hK=>o_val (T false) (CT (run_load1 (T xs) rfl rfl (a.at_ _ (MI (i:=0) rfl)) rfl (ag4 _)) (congrArg Value.bool (Bool.eq_false_iff.2 hs))) (hK _ _ ?_)
   simp only [PA]
   refine PV (T false) rfl rfl ?_
   simp only [PA]
   refine PV (T false) rfl rfl ?_
   simp only [PA]
   refine wpList_on (by kernel_rfl) fun K hK=>o_val (PT b 1) (by kernel_rfl) (hK _ _ ?_)
   simp only [PA]
   refine wpList_on (by kernel_rfl) fun K hK=>o_val (E (some xad) xn xc) (run_load1 (E (some xad) xn xc) rfl rfl (a.at_ _ (MI (i:=0) rfl)) rfl (ag36 _)) (hK _ _ ?_)
   simp only [PA]
   refine wpList_on (by kernel_rfl) fun K hK=>o_val (T false) (run_bin (E (some xad) xn xc) (E none 0 0) _ rfl rfl rfl (bin_eql_36s _ _ _ _ _)) (hK _ _ ?_)
   simp only [PA]
   refine wpList_on (by kernel_rfl) fun K hK=>o_val (T false) rfl (hK _ _ ?_)
   simp only [PA]
   with_reducible refine wpList_off ?_ ?_
   ·with_reducible exact wanted_off rfl rfl rfl
   simp only [PA]
   with_reducible refine wpList_off ?_ ?_
   ·with_reducible exact wanted_off rfl rfl rfl
   simp only [PA]
   with_reducible refine wpList_off ?_ ?_
   ·with_reducible exact wanted_off rfl rfl rfl
   simp only [PA]
   refine wpList_on (by kernel_rfl) fun K hK=>o_val (T false) rfl (hK _ _ ?_)
   simp only [PA]
   refine PV (T false) rfl rfl ?_
   simp only [PA]
   refine PV (T false) rfl rfl ?_
   simp only [PA]
   refine wpList_nil ?_
   refine c _ _ ?_
   refine cond_false rfl ?_
   refine wp_seq_k fun t d=>?_
   refine wp_region_lit ?_
   refine PV (PT b 1) (by kernel_rfl) rfl ?_
   simp only [PA]
   refine PV (E (some xad) xn xc) (run_load1 (E (some xad) xn xc) rfl rfl (a.at_ _ (MI (i:=0) rfl)) rfl (ag36 _)) rfl ?_
   simp only [PA]
   refine PV (T false) (run_bin (E (some xad) xn xc) (E none 0 0) _ rfl rfl rfl (bin_eql_36s _ _ _ _ _)) rfl ?_
   simp only [PA]
   refine PV (T false) rfl rfl ?_
   simp only [PA]
   with_reducible refine wpList_off ?_ ?_
   ·with_reducible exact wanted_off rfl rfl rfl
   simp only [PA]
   with_reducible refine wpList_off ?_ ?_
   ·with_reducible exact wanted_off rfl rfl rfl
   simp only [PA]
   with_reducible refine wpList_off ?_ ?_
   ·with_reducible exact wanted_off rfl rfl rfl
   simp only [PA]
   refine PV (T false) rfl rfl ?_
   simp only [PA]
   refine PV (T false) rfl rfl ?_
   simp only [PA]
   refine wpList_nil ?_
   refine d _ _ ?_
   refine cond_false rfl ?_
   refine wp_skip ?_
   refine g _ _ ?_
   refine wp_seq_k fun y j=>?_
   refine wp_region_lit ?_
   refine PV (I 1) rfl rfl ?_
   simp only [PA]
   refine wpList_nil ?_
   refine j _ _ ?_
   refine wp_ret ?_
   repeat (with_reducible first | refine then_ret ?_ | refine inBlock_ret ?_)
   refine bodyPost_ret (results_tmp rfl _ _ _) rfl ?_
   exact ⟨⟨_,rfl,sgnV (by rw [Bool.eq_false_iff.2 hs] at xsg; have:=of_decide_eq_false xsg; omega)⟩,a.bl⟩
set_option maxRecDepth 100000 in
set_option maxHeartbeats 2000000 in
theorem neg101 {v:Value} {x:Int} {w:World} (hx:Zh w v x) (fx:Fit 100000000 x):Calls Try.prog 101 #[v] w (RetZ w (-x)):=by
 rcases hx with ⟨rfl,M,N⟩ | ⟨xad,xn,xc,rfl,xd,xb⟩
 ·skip
  have Zx:Zh w (AZ x none 0 0 false) x:=Zh.small w M N
  go_enter Try.func101,Try.ntmps101
  have m:=St.start w
  refine wp_seq_k fun P n=>?_
  refine wp_region_lit ?_
  refine wpList_plain rfl fun K hK=>o_box (Z3 x none 0 0 false) rfl rfl rfl m fun d Q o p=>hK _ _ ?_
  simp only [PA]
  refine wpList_plain rfl fun K hK=>o_alloc (Z3 0 none 0 0 false) _ rfl (zv60 _) rfl rfl o fun R S a q=>hK _ _ ?_
  simp only [PA]
  refine wpList_nil ?_
  refine n _ _ ?_
  refine wp_seq_k fun V r=>?_
  refine wp_seq_k fun W l=>?_
  refine wp_region_lit ?_
  refine PV (PT d 1) (by kernel_rfl) rfl ?_
  simp only [PA]
  refine PV (E none 0 0) (run_load1 (E none 0 0) rfl rfl (a.at_ _ (MI (i:=1) rfl)) rfl (ag36 _)) rfl ?_
  simp only [PA]
  refine PV (T true) (run_bin (E none 0 0) (E none 0 0) _ rfl rfl rfl (bin_eql_36n _ _ _ _)) rfl ?_
  simp only [PA]
  refine PV (T true) rfl rfl ?_
  simp only [PA]
  refine wpList_on (by kernel_rfl) fun K hK=>o_val (PT d 0) (by kernel_rfl) (hK _ _ ?_)
  simp only [PA]
  refine wpList_on (by kernel_rfl) fun K hK=>o_val (I x) (run_load1 (I x) rfl rfl (a.at_ _ (MI (i:=1) rfl)) rfl (ag2 _)) (hK _ _ ?_)
  simp only [PA]
  by_cases hm:x ≠ -9223372036854775808
  ·skip
   refine wpList_on (by kernel_rfl) fun K hK=>o_val (T true) (CT (run_bin (I x) (I (-9223372036854775808)) _ rfl rfl rfl (bin_neq_2 _ _ _ _)) (congrArg Value.bool (bne_iff_ne.2 hm))) (hK _ _ ?_)
   simp only [PA]
   refine PV (T true) rfl rfl ?_
   simp only [PA]
   refine wpList_nil ?_
   refine l _ _ ?_
   refine cond_true rfl ?_
   refine wp_seq_k fun X t=>?_
   refine wp_region_lit ?_
   refine PV (PT d 0) (by kernel_rfl) rfl ?_
   simp only [PA]
   refine PV (I x) (run_load1 (I x) rfl rfl (a.at_ _ (MI (i:=1) rfl)) rfl (ag2 _)) rfl ?_
   simp only [PA]
   refine PV (I (-x)) (CT (run_neg x rfl rfl) (vint (by rw [IntKind.wrap_i64]; omega))) rfl ?_
   simp only [PA]
   refine PV (AZ (-x) none 0 0 false) (by kernel_rfl) rfl ?_
   simp only [PA]
   refine wpList_plain rfl fun K hK=>OT 0 (Z3 (-x) none 0 0 false) a (sz60 _) fun aF A aG=>hK _ _ ?_
   simp only [PA]
   refine wpList_nil ?_
   refine t _ _ ?_
   refine wp_ret ?_
   repeat (with_reducible first | refine then_ret ?_ | refine inBlock_ret ?_)
   refine bodyPost_ret (ret60 rfl _ rfl rfl (A.at_ _ (MI (i:=0) rfl))) rfl ?_
   exact ⟨⟨_,rfl,Zh.small _ (by omega) (by omega)⟩,A.bl⟩
  ·skip
   refine wpList_on (by kernel_rfl) fun K hK=>o_val (T false) (CT (run_bin (I x) (I (-9223372036854775808)) _ rfl rfl rfl (bin_neq_2 _ _ _ _)) (congrArg Value.bool (bne_eq_false_iff_eq.2 (Classical.not_not.1 hm)))) (hK _ _ ?_)
   simp only [PA]
   refine PV (T false) rfl rfl ?_
   simp only [PA]
   refine wpList_nil ?_
   refine l _ _ ?_
   refine cond_false rfl ?_
   refine wp_skip ?_
   refine r _ _ ?_
   refine wp_seq_k fun aH Y=>?_
   refine wp_region_lit ?_
   refine PV (AZ x none 0 0 false) (run_loadA [I x,E none 0 0,T false] rfl rfl (a.at_ _ (MI (i:=1) rfl)) rfl (ag60 _) (sz60 _)) rfl ?_
   simp only [PA]
   refine wpList_plain rfl fun K hK=>o_call 111 _ #[AZ x none 0 0 false] Try.func111 (by kernel_rfl) rfl rfl rfl a (words_c (Zx.u (p.trans q))) fun aK aL aa ab aM=>?_
   obtain ⟨e,f,g,rfl,ac⟩:=aa
   obtain ⟨b,C⟩:∃ s,decide (x<0)=s:=⟨_,rfl⟩
   rw [C]
   refine hK _ _ ?_
   simp only [PA]
   refine PV (.tuple (W2 e f g b)) rfl rfl ?_
   simp only [PA]
   refine PV (E e f g) rfl rfl ?_
   simp only [PA]
   refine PV (T b) rfl rfl ?_
   simp only [PA]
   refine PV (E e f g) rfl rfl ?_
   simp only [PA]
   refine PV (T b) rfl rfl ?_
   simp only [PA]
   refine wpList_nil ?_
   refine Y _ _ ?_
   refine wp_seq_k fun aN ad=>?_
   refine wp_region_lit ?_
   refine PV (E e f g) rfl rfl ?_
   simp only [PA]
   refine PV (T b) rfl rfl ?_
   simp only [PA]
   refine PV (T (!b)) (run_not b rfl rfl) rfl ?_
   simp only [PA]
   refine wpList_plain rfl fun K hK=>o_call 112 _ (W2 e f g (!b)) Try.func112 (by kernel_rfl) rfl rfl rfl ab (made_c ac (dg_dig _) (val_dg _)) fun aP aQ D ae aR=>?_
   obtain ⟨af,y⟩:∃ zz_:Int,(if (!b)=true then -((((x).natAbs:Nat)):Int) else (((x).natAbs:Nat):Int))=zz_:=⟨_,rfl⟩
   rw [y] at D
   have aS:Fit 100000000 af:=y▸(Fit.sgn fx)
   obtain ⟨ag,ah,ai,aj,al,rfl,am⟩:=zopen D
   refine hK _ _ ?_
   simp only [PA]
   refine wpList_plain rfl fun K hK=>OT 0 (Z3 ag ah ai aj al) ae (sz60 _) fun aU F an=>hK _ _ ?_
   simp only [PA]
   refine wpList_nil ?_
   refine ad _ _ ?_
   refine wp_ret ?_
   repeat (with_reducible first | refine then_ret ?_ | refine inBlock_ret ?_)
   refine bodyPost_ret (ret60 rfl _ rfl rfl (F.at_ _ (MI (i:=0) rfl))) rfl ?_
   exact ⟨⟨_,rfl,(y.symm.trans (neg_eq' C))▸(am.u an)⟩,F.bl⟩
 ·skip
  obtain ⟨xs,xsg⟩:∃ s,decide (x<0)=s:=⟨_,rfl⟩
  rw [xsg]
  have Zx:Zh w (AZ 0 (some xad) xn xc xs) x:=Zh.big xsg xd xb
  go_enter Try.func101,Try.ntmps101
  have m:=St.start w
  refine wp_seq_k fun P n=>?_
  refine wp_region_lit ?_
  refine wpList_plain rfl fun K hK=>o_box (Z3 0 (some xad) xn xc xs) rfl rfl rfl m fun d Q o p=>hK _ _ ?_
  simp only [PA]
  refine wpList_plain rfl fun K hK=>o_alloc (Z3 0 none 0 0 false) _ rfl (zv60 _) rfl rfl o fun R S a q=>hK _ _ ?_
  simp only [PA]
  refine wpList_nil ?_
  refine n _ _ ?_
  refine wp_seq_k fun V r=>?_
  refine wp_seq_k fun W l=>?_
  refine wp_region_lit ?_
  refine PV (PT d 1) (by kernel_rfl) rfl ?_
  simp only [PA]
  refine PV (E (some xad) xn xc) (run_load1 (E (some xad) xn xc) rfl rfl (a.at_ _ (MI (i:=1) rfl)) rfl (ag36 _)) rfl ?_
  simp only [PA]
  refine PV (T false) (run_bin (E (some xad) xn xc) (E none 0 0) _ rfl rfl rfl (bin_eql_36s _ _ _ _ _)) rfl ?_
  simp only [PA]
  refine PV (T false) rfl rfl ?_
  simp only [PA]
  with_reducible refine wpList_off ?_ ?_
  ·with_reducible exact wanted_off rfl rfl rfl
  simp only [PA]
  with_reducible refine wpList_off ?_ ?_
  ·with_reducible exact wanted_off rfl rfl rfl
  simp only [PA]
  with_reducible refine wpList_off ?_ ?_
  ·with_reducible exact wanted_off rfl rfl rfl
  simp only [PA]
  refine PV (T false) rfl rfl ?_
  simp only [PA]
  refine wpList_nil ?_
  refine l _ _ ?_
  refine cond_false rfl ?_
  refine wp_skip ?_
  refine r _ _ ?_
  refine wp_seq_k fun X t=>?_
  refine wp_region_lit ?_
  refine PV (AZ 0 (some xad) xn xc xs) (run_loadA [I 0,E (some xad) xn xc,T xs] rfl rfl (a.at_ _ (MI (i:=1) rfl)) rfl (ag60 _) (sz60 _)) rfl ?_
  simp only [PA]
  refine wpList_plain rfl fun K hK=>o_call 111 _ #[AZ 0 (some xad) xn xc xs] Try.func111 (by kernel_rfl) rfl rfl rfl a (words_c (Zx.u (p.trans q))) fun aV aW ao ap aX=>?_
  obtain ⟨h,j,k,rfl,aq⟩:=ao
  obtain ⟨c,G⟩:∃ s,decide (x<0)=s:=⟨_,rfl⟩
  rw [G]
  refine hK _ _ ?_
  simp only [PA]
  refine PV (.tuple (W2 h j k c)) rfl rfl ?_
  simp only [PA]
  refine PV (E h j k) rfl rfl ?_
  simp only [PA]
  refine PV (T c) rfl rfl ?_
  simp only [PA]
  refine PV (E h j k) rfl rfl ?_
  simp only [PA]
  refine PV (T c) rfl rfl ?_
  simp only [PA]
  refine wpList_nil ?_
  refine t _ _ ?_
  refine wp_seq_k fun aY ar=>?_
  refine wp_region_lit ?_
  refine PV (E h j k) rfl rfl ?_
  simp only [PA]
  refine PV (T c) rfl rfl ?_
  simp only [PA]
  refine PV (T (!c)) (run_not c rfl rfl) rfl ?_
  simp only [PA]
  refine wpList_plain rfl fun K hK=>o_call 112 _ (W2 h j k (!c)) Try.func112 (by kernel_rfl) rfl rfl rfl ap (made_c aq (dg_dig _) (val_dg _)) fun aB aE H au aI=>?_
  obtain ⟨av,z⟩:∃ zz_:Int,(if (!c)=true then -((((x).natAbs:Nat)):Int) else (((x).natAbs:Nat):Int))=zz_:=⟨_,rfl⟩
  rw [z] at H
  have aT:Fit 100000000 av:=z▸(Fit.sgn fx)
  obtain ⟨aw,ax,ay,az,aA,rfl,aC⟩:=zopen H
  refine hK _ _ ?_
  simp only [PA]
  refine wpList_plain rfl fun K hK=>OT 0 (Z3 aw ax ay az aA) au (sz60 _) fun aO L aD=>hK _ _ ?_
  simp only [PA]
  refine wpList_nil ?_
  refine ar _ _ ?_
  refine wp_ret ?_
  repeat (with_reducible first | refine then_ret ?_ | refine inBlock_ret ?_)
  refine bodyPost_ret (ret60 rfl _ rfl rfl (L.at_ _ (MI (i:=0) rfl))) rfl ?_
  exact ⟨⟨_,rfl,(z.symm.trans (neg_eq' G))▸(aC.u aD)⟩,L.bl⟩
set_option maxRecDepth 100000 in
set_option maxHeartbeats 2000000 in
theorem abs126 {v:Value} {x:Int} {w:World} (hx:Zh w v x) (fx:Fit 100000000 x):Calls Try.prog 126 #[v] w (RetZ w ((x.natAbs:Nat):Int)):=by
 obtain ⟨xi,xA,xn,xc,xs,rfl,Zx⟩:=zopen hx
 go_enter Try.func126,Try.ntmps126
 have m:=St.start w
 refine wp_seq_k fun L n=>?_
 refine wp_region_lit ?_
 refine wpList_plain rfl fun K hK=>o_box (Z3 xi xA xn xc xs) rfl rfl rfl m fun M N o b=>hK _ _ ?_
 simp only [PA]
 refine wpList_plain rfl fun K hK=>o_alloc (Z3 0 none 0 0 false) _ rfl (zv60 _) rfl rfl o fun P Q d c=>hK _ _ ?_
 simp only [PA]
 refine wpList_nil ?_
 refine n _ _ ?_
 refine wp_seq_k fun R p=>?_
 refine wp_seq_k fun S e=>?_
 refine wp_region_lit ?_
 refine PV (AZ xi xA xn xc xs) (run_loadA [I xi,E xA xn xc,T xs] rfl rfl (d.at_ _ (MI (i:=1) rfl)) rfl (ag60 _) (sz60 _)) rfl ?_
 simp only [PA]
 refine wpList_plain rfl fun K hK=>o_call 82 _ #[AZ xi xA xn xc xs] Try.func82 (by kernel_rfl) rfl rfl rfl d (sign82 (Zx.u (b.trans c))) fun V W q a f=>?_
 subst q
 refine hK _ _ ?_
 simp only [PA]
 by_cases hn:x<0
 ·skip
  refine PV (T true) (CT (run_bin (I (cmpZ x 0)) (I 0) _ rfl rfl rfl (bin_lss_3 _ _ _ _)) (congrArg Value.bool (sgn_lt hn))) rfl ?_
  simp only [PA]
  refine wpList_nil ?_
  refine e _ _ ?_
  refine cond_true rfl ?_
  refine wp_seq_k fun X r=>?_
  refine wp_region_lit ?_
  refine PV (AZ xi xA xn xc xs) (run_loadA [I xi,E xA xn xc,T xs] rfl rfl (a.at_ _ (MI (i:=1) rfl)) rfl (ag60 _) (sz60 _)) rfl ?_
  simp only [PA]
  refine wpList_plain rfl fun K hK=>o_call 101 _ #[AZ xi xA xn xc xs] Try.func101 (by kernel_rfl) rfl rfl rfl a (neg101 (Zx.u ((b.trans c).trans f)) fx) fun Y aa g s ab=>?_
  obtain ⟨h,j⟩:∃ zz_:Int,(-x)=zz_:=⟨_,rfl⟩
  rw [j] at g
  have ac:Fit 100000000 h:=j▸(Fit.neg fx)
  obtain ⟨t,y,z,A,C,rfl,D⟩:=zopen g
  refine hK _ _ ?_
  simp only [PA]
  refine wpList_plain rfl fun K hK=>OT 0 (Z3 t y z A C) s (sz60 _) fun ad k F=>hK _ _ ?_
  simp only [PA]
  refine wpList_nil ?_
  refine r _ _ ?_
  refine wp_ret ?_
  repeat (with_reducible first | refine then_ret ?_ | refine inBlock_ret ?_)
  refine bodyPost_ret (ret60 rfl _ rfl rfl (k.at_ _ (MI (i:=0) rfl))) rfl ?_
  exact ⟨⟨_,rfl,(show h=((x.natAbs:Nat):Int) from by omega)▸(D.u F)⟩,k.bl⟩
 ·skip
  refine PV (T false) (CT (run_bin (I (cmpZ x 0)) (I 0) _ rfl rfl rfl (bin_lss_3 _ _ _ _)) (congrArg Value.bool (sgn_nlt hn))) rfl ?_
  simp only [PA]
  refine wpList_nil ?_
  refine e _ _ ?_
  refine cond_false rfl ?_
  refine wp_skip ?_
  refine p _ _ ?_
  refine wp_seq_k fun ae G=>?_
  refine wp_region_lit ?_
  refine PV (AZ xi xA xn xc xs) (run_loadA [I xi,E xA xn xc,T xs] rfl rfl (a.at_ _ (MI (i:=1) rfl)) rfl (ag60 _) (sz60 _)) rfl ?_
  simp only [PA]
  refine wpList_plain rfl fun K hK=>OT 0 (Z3 xi xA xn xc xs) a (sz60 _) fun af l H=>hK _ _ ?_
  simp only [PA]
  refine wpList_nil ?_
  refine G _ _ ?_
  refine wp_ret ?_
  repeat (with_reducible first | refine then_ret ?_ | refine inBlock_ret ?_)
  refine bodyPost_ret (ret60 rfl _ rfl rfl (l.at_ _ (MI (i:=0) rfl))) rfl ?_
  exact ⟨⟨_,rfl,(show x=((x.natAbs:Nat):Int) from by omega)▸(Zx.u (((b.trans c).trans f).trans H))⟩,l.bl⟩
set_option maxRecDepth 100000 in
set_option maxHeartbeats 2000000 in
theorem int83 {v:Value} {x m:Int} {w:World} (hx:Zh w v x) (hm:0≤m) (A:m<9223372036854775808):Calls Try.prog 83 #[v,I m] w (RetV w (intV x m)):=by
 rcases hx with ⟨rfl,k,l⟩ | ⟨xad,xn,xc,rfl,xd,xb⟩
 ·skip
  have Zx:Zh w (AZ x none 0 0 false) x:=Zh.small w k l
  go_enter Try.func83,Try.ntmps83
  have d:=St.start w
  refine wp_seq_k fun n e=>?_
  refine wp_region_lit ?_
  refine wpList_plain rfl fun K hK=>o_box (Z3 x none 0 0 false) rfl rfl rfl d fun b o a p=>hK _ _ ?_
  simp only [PA]
  refine PV (I 0) rfl rfl ?_
  simp only [PA]
  refine PV (T false) rfl rfl ?_
  simp only [PA]
  refine wpList_nil ?_
  refine e _ _ ?_
  refine wp_seq_k fun q g=>?_
  refine wp_seq_k fun r c=>?_
  refine wp_region_lit ?_
  refine PV (PT b 1) (by kernel_rfl) rfl ?_
  simp only [PA]
  refine PV (E none 0 0) (run_load1 (E none 0 0) rfl rfl (a.at_ _ (MI (i:=0) rfl)) rfl (ag36 _)) rfl ?_
  simp only [PA]
  refine PV (T false) (run_bin (E none 0 0) (E none 0 0) _ rfl rfl rfl (bin_neq_36n _ _ _ _)) rfl ?_
  simp only [PA]
  refine PV (T false) rfl rfl ?_
  simp only [PA]
  refine wpList_on (by kernel_rfl) fun K hK=>o_val (PT b 0) (by kernel_rfl) (hK _ _ ?_)
  simp only [PA]
  refine wpList_on (by kernel_rfl) fun K hK=>o_val (I x) (run_load1 (I x) rfl rfl (a.at_ _ (MI (i:=0) rfl)) rfl (ag2 _)) (hK _ _ ?_)
  simp only [PA]
  refine wpList_on (by kernel_rfl) fun K hK=>o_val (I m) rfl (hK _ _ ?_)
  simp only [PA]
  by_cases h:(m:Int)<x
  ·skip
   refine wpList_on (by kernel_rfl) fun K hK=>o_val (T true) (CT (run_bin (I x) (I m) _ rfl rfl rfl (bin_gtr_2 _ _ _ _)) (congrArg Value.bool (decide_eq_true h))) (hK _ _ ?_)
   simp only [PA]
   refine PV (T true) rfl rfl ?_
   simp only [PA]
   refine PV (T true) rfl rfl ?_
   simp only [PA]
   with_reducible refine wpList_off ?_ ?_
   ·with_reducible exact wanted_off rfl rfl rfl
   simp only [PA]
   with_reducible refine wpList_off ?_ ?_
   ·with_reducible exact wanted_off rfl rfl rfl
   simp only [PA]
   with_reducible refine wpList_off ?_ ?_
   ·with_reducible exact wanted_off rfl rfl rfl
   simp only [PA]
   with_reducible refine wpList_off ?_ ?_
   ·with_reducible exact wanted_off rfl rfl rfl
   simp only [PA]
   with_reducible refine wpList_off ?_ ?_
   ·with_reducible exact wanted_off rfl rfl rfl
   simp only [PA]
   refine PV (T true) rfl rfl ?_
   simp only [PA]
   refine wpList_nil ?_
   refine c _ _ ?_
   refine cond_true rfl ?_
   refine wp_seq_k fun t f=>?_
   refine wp_region_lit ?_
   refine PV (I 0) rfl rfl ?_
   simp only [PA]
   refine PV (T false) rfl rfl ?_
   simp only [PA]
   refine wpList_nil ?_
   refine f _ _ ?_
   refine wp_ret ?_
   repeat (with_reducible first | refine then_ret ?_ | refine inBlock_ret ?_)
   refine bodyPost_ret (results_tmp2 rfl _ _ _) rfl ?_
   exact ⟨⟨_,rfl,(intV_no (by omega)).symm⟩,a.bl⟩
  ·skip
   refine wpList_on (by kernel_rfl) fun K hK=>o_val (T false) (CT (run_bin (I x) (I m) _ rfl rfl rfl (bin_gtr_2 _ _ _ _)) (congrArg Value.bool (decide_eq_false h))) (hK _ _ ?_)
   simp only [PA]
   refine PV (T false) rfl rfl ?_
   simp only [PA]
   refine PV (T false) rfl rfl ?_
   simp only [PA]
   refine wpList_on (by kernel_rfl) fun K hK=>o_val (PT b 0) (by kernel_rfl) (hK _ _ ?_)
   simp only [PA]
   refine wpList_on (by kernel_rfl) fun K hK=>o_val (I x) (run_load1 (I x) rfl rfl (a.at_ _ (MI (i:=0) rfl)) rfl (ag2 _)) (hK _ _ ?_)
   simp only [PA]
   refine wpList_on (by kernel_rfl) fun K hK=>o_val (I m) rfl (hK _ _ ?_)
   simp only [PA]
   refine wpList_on (by kernel_rfl) fun K hK=>o_val (I (-m)) (CT (run_neg m rfl rfl) (vint (by rw [IntKind.wrap_i64]; omega))) (hK _ _ ?_)
   simp only [PA]
   by_cases j:(x:Int)<(-m)
   ·skip
    refine wpList_on (by kernel_rfl) fun K hK=>o_val (T true) (CT (run_bin (I x) (I (-m)) _ rfl rfl rfl (bin_lss_2 _ _ _ _)) (congrArg Value.bool (decide_eq_true j))) (hK _ _ ?_)
    simp only [PA]
    refine PV (T true) rfl rfl ?_
    simp only [PA]
    refine wpList_nil ?_
    refine c _ _ ?_
    refine cond_true rfl ?_
    refine wp_seq_k fun C y=>?_
    refine wp_region_lit ?_
    refine PV (I 0) rfl rfl ?_
    simp only [PA]
    refine PV (T false) rfl rfl ?_
    simp only [PA]
    refine wpList_nil ?_
    refine y _ _ ?_
    refine wp_ret ?_
    repeat (with_reducible first | refine then_ret ?_ | refine inBlock_ret ?_)
    refine bodyPost_ret (results_tmp2 rfl _ _ _) rfl ?_
    exact ⟨⟨_,rfl,(intV_no (by omega)).symm⟩,a.bl⟩
   ·skip
    refine wpList_on (by kernel_rfl) fun K hK=>o_val (T false) (CT (run_bin (I x) (I (-m)) _ rfl rfl rfl (bin_lss_2 _ _ _ _)) (congrArg Value.bool (decide_eq_false j))) (hK _ _ ?_)
    simp only [PA]
    refine PV (T false) rfl rfl ?_
    simp only [PA]
    refine wpList_nil ?_
    refine c _ _ ?_
    refine cond_false rfl ?_
    refine wp_skip ?_
    refine g _ _ ?_
    refine wp_seq_k fun D z=>?_
    refine wp_region_lit ?_
    refine PV (PT b 0) (by kernel_rfl) rfl ?_
    simp only [PA]
    refine PV (I x) (run_load1 (I x) rfl rfl (a.at_ _ (MI (i:=0) rfl)) rfl (ag2 _)) rfl ?_
    simp only [PA]
    refine PV (I x) rfl rfl ?_
    simp only [PA]
    refine PV (T true) rfl rfl ?_
    simp only [PA]
    refine wpList_nil ?_
    refine z _ _ ?_
    refine wp_ret ?_
    repeat (with_reducible first | refine then_ret ?_ | refine inBlock_ret ?_)
    refine bodyPost_ret (results_tmp2 rfl _ _ _) rfl ?_
    exact ⟨⟨_,rfl,(intV_yes (by omega)).symm⟩,a.bl⟩
 ·skip
  obtain ⟨xs,xsg⟩:∃ s,decide (x<0)=s:=⟨_,rfl⟩
  rw [xsg]
  have Zx:Zh w (AZ 0 (some xad) xn xc xs) x:=Zh.big xsg xd xb
  go_enter Try.func83,Try.ntmps83
  have d:=St.start w
  refine wp_seq_k fun n e=>?_
  refine wp_region_lit ?_
  refine wpList_plain rfl fun K hK=>o_box (Z3 0 (some xad) xn xc xs) rfl rfl rfl d fun b o a p=>hK _ _ ?_
  simp only [PA]
  refine PV (I 0) rfl rfl ?_
  simp only [PA]
  refine PV (T false) rfl rfl ?_
  simp only [PA]
  refine wpList_nil ?_
  refine e _ _ ?_
  refine wp_seq_k fun q g=>?_
  refine wp_seq_k fun r c=>?_
  refine wp_region_lit ?_
  refine PV (PT b 1) (by kernel_rfl) rfl ?_
  simp only [PA]
  refine PV (E (some xad) xn xc) (run_load1 (E (some xad) xn xc) rfl rfl (a.at_ _ (MI (i:=0) rfl)) rfl (ag36 _)) rfl ?_
  simp only [PA]
  refine PV (T true) (run_bin (E (some xad) xn xc) (E none 0 0) _ rfl rfl rfl (bin_neq_36s _ _ _ _ _)) rfl ?_
  simp only [PA]
  refine PV (T true) rfl rfl ?_
  simp only [PA]
  with_reducible refine wpList_off ?_ ?_
  ·with_reducible exact wanted_off rfl rfl rfl
  simp only [PA]
  with_reducible refine wpList_off ?_ ?_
  ·with_reducible exact wanted_off rfl rfl rfl
  simp only [PA]
  with_reducible refine wpList_off ?_ ?_
  ·with_reducible exact wanted_off rfl rfl rfl
  simp only [PA]
  with_reducible refine wpList_off ?_ ?_
  ·with_reducible exact wanted_off rfl rfl rfl
  simp only [PA]
  refine PV (T true) rfl rfl ?_
  simp only [PA]
  refine PV (T true) rfl rfl ?_
  simp only [PA]
  with_reducible refine wpList_off ?_ ?_
  ·with_reducible exact wanted_off rfl rfl rfl
  simp only [PA]
  with_reducible refine wpList_off ?_ ?_
  ·with_reducible exact wanted_off rfl rfl rfl
  simp only [PA]
  with_reducible refine wpList_off ?_ ?_
  ·with_reducible exact wanted_off rfl rfl rfl
  simp only [PA]
  with_reducible refine wpList_off ?_ ?_
  ·with_reducible exact wanted_off rfl rfl rfl
  simp only [PA]
  with_reducible refine wpList_off ?_ ?_
  ·with_reducible exact wanted_off rfl rfl rfl
  simp only [PA]
  refine PV (T true) rfl rfl ?_
  simp only [PA]
  refine wpList_nil ?_
  refine c _ _ ?_
  refine cond_true rfl ?_
  refine wp_seq_k fun t f=>?_
  refine wp_region_lit ?_
  refine PV (I 0) rfl rfl ?_
  simp only [PA]
  refine PV (T false) rfl rfl ?_
  simp only [PA]
  refine wpList_nil ?_
  refine f _ _ ?_
  refine wp_ret ?_
  repeat (with_reducible first | refine then_ret ?_ | refine inBlock_ret ?_)
  refine bodyPost_ret (results_tmp2 rfl _ _ _) rfl ?_
  exact ⟨⟨_,rfl,(intV_no (by omega)).symm⟩,a.bl⟩
set_option maxRecDepth 100000 in
set_option maxHeartbeats 2000000 in
theorem add73 {v u:Value} {x y:Int} {w:World} (hx:Zh w v x) (hy:Zh w u y) (fx:Fit 100000000 x) (fy:Fit 100000000 y):Calls Try.prog 73 #[v,u] w (RetZ w (x+y)):=by
 obtain ⟨xi,xA,xn,xc,xs,rfl,Zx⟩:=zopen hx
 obtain ⟨yi,yA,yn,yc,ys,rfl,Zy⟩:=zopen hy
 go_enter Try.func73,Try.ntmps73
 have ag:=St.start w
 refine wp_seq_k fun K1 ah=>?_
 refine wp_region_lit ?_
 refine wpList_plain rfl fun K hK=>o_box (Z3 xi xA xn xc xs) rfl rfl rfl ag fun j w4 ai G=>hK _ _ ?_
 simp only [PA]
 refine wpList_plain rfl fun K hK=>o_box (Z3 yi yA yn yc ys) rfl rfl rfl ai fun o w8 aj H=>hK _ _ ?_
 simp only [PA]
 refine wpList_plain rfl fun K hK=>o_alloc (Z3 0 none 0 0 false) _ rfl (zv60 _) rfl rfl aj fun L p k M=>hK _ _ ?_
 simp only [PA]
 refine wpList_nil ?_
 refine ah _ _ ?_
 refine wp_seq_k fun bu al=>?_
 refine wp_cut (fun aa_ w'=>∃ (a:List Value),aa_=⟨#[AZ xi xA xn xc xs,AZ yi yA yn yc ys,PT j 0,PT o 0,PT L 0,(GD a 0),O,O,O,O,(GD a 1),(GD a 2),(GD a 3),(GD a 4),(GD a 5),(GD a 6),(GD a 7),(GD a 8),(GD a 9),(GD a 10),(GD a 11),(GD a 12),(GD a 13),(GD a 14),(GD a 15),(GD a 16),(GD a 17),(GD a 18),(GD a 19),(GD a 20),(GD a 21),(GD a 22),(GD a 23),O,O,O,O,O,O,O,O,O,O,O,O,O,O,O,O,O,O,O,O,O,O,O,O,O,O,O,O,O,O,O,O],[]⟩∧St w w' [⟨L,(Z3 0 none 0 0 false),60⟩,⟨o,(Z3 yi yA yn yc ys),60⟩,⟨j,(Z3 xi xA xn xc xs),60⟩]∧U p w') ?_ ?_
 ·skip
  refine wp_seq_k fun bv A=>?_
  refine wp_region_lit ?_
  refine PV (PT j 1) (by kernel_rfl) rfl ?_
  simp only [PA]
  refine PV (E xA xn xc) (run_load1 (E xA xn xc) rfl rfl (k.at_ _ (MI (i:=2) rfl)) rfl (ag36 _)) rfl ?_
  simp only [PA]
  by_cases hA:xA.isNone=true
  ·skip
   refine PV (T true) (CT (run_bin (E xA xn xc) (E none 0 0) _ rfl rfl rfl (bin_eql_36o _ _ _ _ _)) (congrArg Value.bool hA)) rfl ?_
   simp only [PA]
   refine PV (T true) rfl rfl ?_
   simp only [PA]
   refine wpList_on (by kernel_rfl) fun K hK=>o_val (PT o 1) (by kernel_rfl) (hK _ _ ?_)
   simp only [PA]
   refine wpList_on (by kernel_rfl) fun K hK=>o_val (E yA yn yc) (run_load1 (E yA yn yc) rfl rfl (k.at_ _ (MI (i:=1) rfl)) rfl (ag36 _)) (hK _ _ ?_)
   simp only [PA]
   by_cases hB:yA.isNone=true
   ·skip
    refine wpList_on (by kernel_rfl) fun K hK=>o_val (T true) (CT (run_bin (E yA yn yc) (E none 0 0) _ rfl rfl rfl (bin_eql_36o _ _ _ _ _)) (congrArg Value.bool hB)) (hK _ _ ?_)
    simp only [PA]
    refine PV (T true) rfl rfl ?_
    simp only [PA]
    refine wpList_nil ?_
    refine A _ _ ?_
    refine cond_true rfl ?_
    refine wp_seq_k fun bw am=>?_
    refine wp_region_lit ?_
    refine PV (PT j 0) (by kernel_rfl) rfl ?_
    simp only [PA]
    refine PV (I xi) (run_load1 (I xi) rfl rfl (k.at_ _ (MI (i:=2) rfl)) rfl (ag2 _)) rfl ?_
    simp only [PA]
    refine PV (PT o 0) (by kernel_rfl) rfl ?_
    simp only [PA]
    refine PV (I yi) (run_load1 (I yi) rfl rfl (k.at_ _ (MI (i:=1) rfl)) rfl (ag2 _)) rfl ?_
    simp only [PA]
    refine PV (I (IntKind.i64.wrap ((xi:Int)+yi))) (run_bin (I xi) (I yi) _ rfl rfl rfl (bin_add_2 _ _ _ _)) rfl ?_
    simp only [PA]
    refine PV (I (IntKind.i64.wrap ((xi:Int)+yi))) rfl rfl ?_
    simp only [PA]
    refine wpList_nil ?_
    refine am _ _ ?_
    refine wp_seq_k fun bx N=>?_
    refine wp_region_lit ?_
    refine PV (I (IntKind.i64.wrap ((xi:Int)+yi))) rfl rfl ?_
    simp only [PA]
    refine PV (PT j 0) (by kernel_rfl) rfl ?_
    simp only [PA]
    refine PV (I xi) (run_load1 (I xi) rfl rfl (k.at_ _ (MI (i:=2) rfl)) rfl (ag2 _)) rfl ?_
    simp only [PA]
    refine PV (T (decide ((xi:Int)<(IntKind.i64.wrap ((xi:Int)+yi))))) (run_bin (I (IntKind.i64.wrap ((xi:Int)+yi))) (I xi) _ rfl rfl rfl (bin_gtr_2 _ _ _ _)) rfl ?_
    simp only [PA]
    refine PV (PT o 0) (by kernel_rfl) rfl ?_
    simp only [PA]
    refine PV (I yi) (run_load1 (I yi) rfl rfl (k.at_ _ (MI (i:=1) rfl)) rfl (ag2 _)) rfl ?_
    simp only [PA]
    refine PV (T (decide ((0:Int)<yi))) (run_bin (I yi) (I 0) _ rfl rfl rfl (bin_gtr_2 _ _ _ _)) rfl ?_
    simp only [PA]
    by_cases ho:-9223372036854775808≤xi+yi∧xi+yi<9223372036854775808
    ·skip
     refine PV (T true) (CT (run_bin (T (decide ((xi:Int)<(IntKind.i64.wrap ((xi:Int)+yi))))) (T (decide ((0:Int)<yi))) _ rfl rfl rfl (bin_eql_4 _ _ _ _)) (congrArg Value.bool (add_ok (by have:=zsm Zx hA; omega) (by have:=zsm Zx hA; omega) (by have:=zsm Zy hB; omega) (by have:=zsm Zy hB; omega) ho))) rfl ?_
     simp only [PA]
     refine wpList_nil ?_
     refine N _ _ ?_
     refine cond_true rfl ?_
     refine wp_seq_k fun bz an=>?_
     refine wp_region_lit ?_
     refine PV (I (x+y)) (CT rfl (vint (by have:=zsm Zx hA; have:=zsm Zy hB; rw [IntKind.wrap_i64]; omega))) rfl ?_
     simp only [PA]
     refine PV (AZ (x+y) none 0 0 false) (by kernel_rfl) rfl ?_
     simp only [PA]
     refine wpList_plain rfl fun K hK=>OT 0 (Z3 (x+y) none 0 0 false) k (sz60 _) fun bA P bC=>hK _ _ ?_
     simp only [PA]
     refine wpList_nil ?_
     refine an _ _ ?_
     refine wp_ret ?_
     repeat (with_reducible first | refine then_ret ?_ | refine inBlock_ret ?_)
     refine bodyPost_ret (ret60 rfl _ rfl rfl (P.at_ _ (MI (i:=0) rfl))) rfl ?_
     exact ⟨⟨_,rfl,Zh.small _ (by have:=zsm Zx hA; have:=zsm Zy hB; omega) (by have:=zsm Zx hA; have:=zsm Zy hB; omega)⟩,P.bl⟩
    ·skip
     refine PV (T false) (CT (run_bin (T (decide ((xi:Int)<(IntKind.i64.wrap ((xi:Int)+yi))))) (T (decide ((0:Int)<yi))) _ rfl rfl rfl (bin_eql_4 _ _ _ _)) (congrArg Value.bool (add_no (by have:=zsm Zx hA; omega) (by have:=zsm Zx hA; omega) (by have:=zsm Zy hB; omega) (by have:=zsm Zy hB; omega) ho))) rfl ?_
     simp only [PA]
     refine wpList_nil ?_
     refine N _ _ ?_
     refine cond_false rfl ?_
     refine wp_skip ?_
     exact ⟨[I (IntKind.i64.wrap ((xi:Int)+yi)),PT j 1,E xA xn xc,T true,T true,PT o 1,E yA yn yc,T true,T true,PT j 0,I xi,PT o 0,I yi,I (IntKind.i64.wrap ((xi:Int)+yi)),I (IntKind.i64.wrap ((xi:Int)+yi)),PT j 0,I xi,T (decide ((xi:Int)<(IntKind.i64.wrap ((xi:Int)+yi)))),PT o 0,I yi,T (decide ((0:Int)<yi)),T false,O,O],rfl,k,U.refl p⟩
   ·skip
    refine wpList_on (by kernel_rfl) fun K hK=>o_val (T false) (CT (run_bin (E yA yn yc) (E none 0 0) _ rfl rfl rfl (bin_eql_36o _ _ _ _ _)) (congrArg Value.bool (Bool.eq_false_iff.2 hB))) (hK _ _ ?_)
    simp only [PA]
    refine PV (T false) rfl rfl ?_
    simp only [PA]
    refine wpList_nil ?_
    refine A _ _ ?_
    refine cond_false rfl ?_
    refine wp_skip ?_
    exact ⟨[O,PT j 1,E xA xn xc,T true,T true,PT o 1,E yA yn yc,T false,T false,O,O,O,O,O,O,O,O,O,O,O,O,O,O,O],rfl,k,U.refl p⟩
  ·skip
   refine PV (T false) (CT (run_bin (E xA xn xc) (E none 0 0) _ rfl rfl rfl (bin_eql_36o _ _ _ _ _)) (congrArg Value.bool (Bool.eq_false_iff.2 hA))) rfl ?_
   simp only [PA]
   refine PV (T false) rfl rfl ?_
   simp only [PA]
   with_reducible refine wpList_off ?_ ?_
   ·with_reducible exact wanted_off rfl rfl rfl
   simp only [PA]
   with_reducible refine wpList_off ?_ ?_
   ·with_reducible exact wanted_off rfl rfl rfl
   simp only [PA]
   with_reducible refine wpList_off ?_ ?_
   ·with_reducible exact wanted_off rfl rfl rfl
   simp only [PA]
   refine PV (T false) rfl rfl ?_
   simp only [PA]
   refine wpList_nil ?_
   refine A _ _ ?_
   refine cond_false rfl ?_
   refine wp_skip ?_
   exact ⟨[O,PT j 1,E xA xn xc,T false,T false,O,O,O,T false,O,O,O,O,O,O,O,O,O,O,O,O,O,O,O],rfl,k,U.refl p⟩
 ·skip
  rintro _ bD ⟨a,rfl,Q,R⟩
  refine al _ _ ?_
  refine wp_seq_k fun bF ao=>?_
  refine wp_region_lit ?_
  refine PV (AZ xi xA xn xc xs) (run_loadA [I xi,E xA xn xc,T xs] rfl rfl (Q.at_ _ (MI (i:=2) rfl)) rfl (ag60 _) (sz60 _)) rfl ?_
  simp only [PA]
  refine wpList_plain rfl fun K hK=>o_call 111 _ #[AZ xi xA xn xc xs] Try.func111 (by kernel_rfl) rfl rfl rfl Q (words_c (Zx.u (((G.trans H).trans M).trans R))) fun bG bH ap S aq=>?_
  obtain ⟨c,d,e,rfl,q⟩:=ap
  obtain ⟨b,l⟩:∃ s,decide (x<0)=s:=⟨_,rfl⟩
  rw [l]
  refine hK _ _ ?_
  simp only [PA]
  refine PV (.tuple (W2 c d e b)) rfl rfl ?_
  simp only [PA]
  refine PV (E c d e) rfl rfl ?_
  simp only [PA]
  refine PV (T b) rfl rfl ?_
  simp only [PA]
  refine PV (E c d e) rfl rfl ?_
  simp only [PA]
  refine PV (T b) rfl rfl ?_
  simp only [PA]
  refine wpList_nil ?_
  refine ao _ _ ?_
  refine wp_seq_k fun bK ar=>?_
  refine wp_region_lit ?_
  refine PV (AZ yi yA yn yc ys) (run_loadA [I yi,E yA yn yc,T ys] rfl rfl (S.at_ _ (MI (i:=1) rfl)) rfl (ag60 _) (sz60 _)) rfl ?_
  simp only [PA]
  refine wpList_plain rfl fun K hK=>o_call 111 _ #[AZ yi yA yn yc ys] Try.func111 (by kernel_rfl) rfl rfl rfl S (words_c (Zy.u ((((G.trans H).trans M).trans R).trans aq))) fun bL bM au V r=>?_
  obtain ⟨f,g,h,rfl,t⟩:=au
  obtain ⟨m,n⟩:∃ s,decide (y<0)=s:=⟨_,rfl⟩
  rw [n]
  refine hK _ _ ?_
  simp only [PA]
  refine PV (.tuple (W2 f g h m)) rfl rfl ?_
  simp only [PA]
  refine PV (E f g h) rfl rfl ?_
  simp only [PA]
  refine PV (T m) rfl rfl ?_
  simp only [PA]
  refine PV (E f g h) rfl rfl ?_
  simp only [PA]
  refine PV (T m) rfl rfl ?_
  simp only [PA]
  refine wpList_nil ?_
  refine ar _ _ ?_
  refine wp_seq_k fun bN av=>?_
  refine wp_seq_k fun bP W=>?_
  refine wp_region_lit ?_
  refine PV (T b) rfl rfl ?_
  simp only [PA]
  refine PV (T m) rfl rfl ?_
  simp only [PA]
  by_cases hc:b=m
  ·skip
   refine PV (T true) (CT (run_bin (T b) (T m) _ rfl rfl rfl (bin_eql_4 _ _ _ _)) (congrArg Value.bool (beq_iff_eq.2 hc))) rfl ?_
   simp only [PA]
   refine wpList_nil ?_
   refine W _ _ ?_
   refine cond_true rfl ?_
   refine wp_seq_k fun bQ aw=>?_
   refine wp_region_lit ?_
   refine PV (E c d e) rfl rfl ?_
   simp only [PA]
   refine PV (E f g h) rfl rfl ?_
   simp only [PA]
   refine wpList_plain rfl fun K hK=>o_call 113 _ #[E c d e,E f g h] Try.func113 (by kernel_rfl) rfl rfl rfl V (add_c (q.u r) t fx fy) fun bR bS ax ay bU=>?_
   obtain ⟨az,aA,aC,bV,rfl,aD,aF,aG⟩:=ax
   refine hK _ _ ?_
   simp only [PA]
   refine PV (T b) rfl rfl ?_
   simp only [PA]
   refine wpList_plain rfl fun K hK=>o_call 112 _ (W2 az aA aC b) Try.func112 (by kernel_rfl) rfl rfl rfl ay (made_c aD aF aG) fun bW bX X aH bY=>?_
   obtain ⟨aK,C⟩:∃ zz_:Int,(if b=true then -(((((x).natAbs+(y).natAbs):Nat)):Int) else ((((x).natAbs+(y).natAbs):Nat):Int))=zz_:=⟨_,rfl⟩
   rw [C] at X
   have bB:Fit 100000001 aK:=C▸(Fit.sgn (FitN.add fx fy))
   obtain ⟨aL,aM,aN,aP,aQ,rfl,aR⟩:=zopen X
   refine hK _ _ ?_
   simp only [PA]
   refine wpList_plain rfl fun K hK=>OT 0 (Z3 aL aM aN aP aQ) aH (sz60 _) fun bE Y aS=>hK _ _ ?_
   simp only [PA]
   refine wpList_nil ?_
   refine aw _ _ ?_
   refine wp_ret ?_
   repeat (with_reducible first | refine then_ret ?_ | refine inBlock_ret ?_)
   refine bodyPost_ret (ret60 rfl _ rfl rfl (Y.at_ _ (MI (i:=0) rfl))) rfl ?_
   exact ⟨⟨_,rfl,(C.symm.trans (by first | exact add_same l n hc | exact add_less l n hc hq | exact add_less' l n hc hq))▸(aR.u aS)⟩,Y.bl⟩
  ·skip
   refine PV (T false) (CT (run_bin (T b) (T m) _ rfl rfl rfl (bin_eql_4 _ _ _ _)) (congrArg Value.bool (beq_eq_false_iff_ne.2 hc))) rfl ?_
   simp only [PA]
   refine wpList_nil ?_
   refine W _ _ ?_
   refine cond_false rfl ?_
   refine wp_skip ?_
   refine av _ _ ?_
   refine wp_seq_k fun bI aU=>?_
   refine wp_seq_k fun bT aa=>?_
   refine wp_region_lit ?_
   refine PV (E c d e) rfl rfl ?_
   simp only [PA]
   refine PV (E f g h) rfl rfl ?_
   simp only [PA]
   refine wpList_plain rfl fun K hK=>o_call 114 _ #[E c d e,E f g h] Try.func114 (by kernel_rfl) rfl rfl rfl V (cmpWords_c (q.u r) t) fun bO bJ aV ab z=>?_
   subst aV
   refine hK _ _ ?_
   simp only [PA]
   by_cases hq:y.natAbs≤x.natAbs
   ·skip
    refine PV (T true) (CT (run_bin (I (cmpN ((x).natAbs) ((y).natAbs))) (I 0) _ rfl rfl rfl (bin_geq_3 _ _ _ _)) (congrArg Value.bool (cmpN_le hq))) rfl ?_
    simp only [PA]
    refine wpList_nil ?_
    refine aa _ _ ?_
    refine cond_true rfl ?_
    refine wp_seq_k fun bZ aW=>?_
    refine wp_region_lit ?_
    refine PV (E c d e) rfl rfl ?_
    simp only [PA]
    refine PV (E f g h) rfl rfl ?_
    simp only [PA]
    refine wpList_plain rfl fun K hK=>o_call 115 _ #[E c d e,E f g h] Try.func115 (by kernel_rfl) rfl rfl rfl ab (take_c (q.u (r.trans z)) (t.u z) fx fy (by omega)) fun b0 b1 aX aY b2=>?_
    obtain ⟨aB,aE,aI,b3,rfl,aT,aO,aJ⟩:=aX
    refine hK _ _ ?_
    simp only [PA]
    refine PV (T b) rfl rfl ?_
    simp only [PA]
    refine wpList_plain rfl fun K hK=>o_call 112 _ (W2 aB aE aI b) Try.func112 (by kernel_rfl) rfl rfl rfl aY (made_c aT aO aJ) fun b4 b5 ac aZ b6=>?_
    obtain ⟨a0,D⟩:∃ zz_:Int,(if b=true then -(((((x).natAbs - (y).natAbs):Nat)):Int) else ((((x).natAbs - (y).natAbs):Nat):Int))=zz_:=⟨_,rfl⟩
    rw [D] at ac
    have b7:Fit 100000000 a0:=D▸(Fit.sgn (FitN.sub fx))
    obtain ⟨a1,a2,a3,a4,a5,rfl,a6⟩:=zopen ac
    refine hK _ _ ?_
    simp only [PA]
    refine wpList_plain rfl fun K hK=>OT 0 (Z3 a1 a2 a3 a4 a5) aZ (sz60 _) fun b8 ad a7=>hK _ _ ?_
    simp only [PA]
    refine wpList_nil ?_
    refine aW _ _ ?_
    refine wp_ret ?_
    repeat (with_reducible first | refine then_ret ?_ | refine inBlock_ret ?_)
    refine bodyPost_ret (ret60 rfl _ rfl rfl (ad.at_ _ (MI (i:=0) rfl))) rfl ?_
    exact ⟨⟨_,rfl,(D.symm.trans (by first | exact add_same l n hc | exact add_less l n hc hq | exact add_less' l n hc hq))▸(a6.u a7)⟩,ad.bl⟩
   ·skip
    refine PV (T false) (CT (run_bin (I (cmpN ((x).natAbs) ((y).natAbs))) (I 0) _ rfl rfl rfl (bin_geq_3 _ _ _ _)) (congrArg Value.bool (cmpN_nle hq))) rfl ?_
    simp only [PA]
    refine wpList_nil ?_
    refine aa _ _ ?_
    refine cond_false rfl ?_
    refine wp_skip ?_
    refine aU _ _ ?_
    refine wp_seq_k fun b9 a8=>?_
    refine wp_region_lit ?_
    refine PV (E f g h) rfl rfl ?_
    simp only [PA]
    refine PV (E c d e) rfl rfl ?_
    simp only [PA]
    refine wpList_plain rfl fun K hK=>o_call 115 _ #[E f g h,E c d e] Try.func115 (by kernel_rfl) rfl rfl rfl ab (take_c (t.u z) (q.u (r.trans z)) fy fx (by omega)) fun ca cb a9 ba cc=>?_
    obtain ⟨bb,bc,bd,cd,rfl,be,bf,bg⟩:=a9
    refine hK _ _ ?_
    simp only [PA]
    refine PV (T m) rfl rfl ?_
    simp only [PA]
    refine wpList_plain rfl fun K hK=>o_call 112 _ (W2 bb bc bd m) Try.func112 (by kernel_rfl) rfl rfl rfl ba (made_c be bf bg) fun ce cf ae bh cg=>?_
    obtain ⟨bi,F⟩:∃ zz_:Int,(if m=true then -(((((y).natAbs - (x).natAbs):Nat)):Int) else ((((y).natAbs - (x).natAbs):Nat):Int))=zz_:=⟨_,rfl⟩
    rw [F] at ae
    have ch:Fit 100000000 bi:=F▸(Fit.sgn (FitN.sub fy))
    obtain ⟨bj,bk,bm,bn,bo,rfl,bp⟩:=zopen ae
    refine hK _ _ ?_
    simp only [PA]
    refine wpList_plain rfl fun K hK=>OT 0 (Z3 bj bk bm bn bo) bh (sz60 _) fun ci af bq=>hK _ _ ?_
    simp only [PA]
    refine wpList_nil ?_
    refine a8 _ _ ?_
    refine wp_ret ?_
    repeat (with_reducible first | refine then_ret ?_ | refine inBlock_ret ?_)
    refine bodyPost_ret (ret60 rfl _ rfl rfl (af.at_ _ (MI (i:=0) rfl))) rfl ?_
    exact ⟨⟨_,rfl,(F.symm.trans (by first | exact add_same l n hc | exact add_less l n hc hq | exact add_less' l n hc hq))▸(bp.u bq)⟩,af.bl⟩
set_option maxRecDepth 100000 in
set_option maxHeartbeats 2000000 in
theorem sub76 {v u:Value} {x y:Int} {w:World} (hx:Zh w v x) (hy:Zh w u y) (fx:Fit 100000000 x) (fy:Fit 100000000 y):Calls Try.prog 76 #[v,u] w (RetZ w (x - y)):=by
 obtain ⟨xi,xA,xn,xc,xs,rfl,Zx⟩:=zopen hx
 obtain ⟨yi,yA,yn,yc,ys,rfl,Zy⟩:=zopen hy
 go_enter Try.func76,Try.ntmps76
 have r:=St.start w
 refine wp_seq_k fun K1 s=>?_
 refine wp_region_lit ?_
 refine wpList_plain rfl fun K hK=>o_box (Z3 xi xA xn xc xs) rfl rfl rfl r fun g3 w4 t b=>hK _ _ ?_
 simp only [PA]
 refine wpList_plain rfl fun K hK=>o_box (Z3 yi yA yn yc ys) rfl rfl rfl t fun g7 w8 z c=>hK _ _ ?_
 simp only [PA]
 refine wpList_plain rfl fun K hK=>o_alloc (Z3 0 none 0 0 false) _ rfl (zv60 _) rfl rfl z fun af ag A d=>hK _ _ ?_
 simp only [PA]
 refine wpList_nil ?_
 refine s _ _ ?_
 refine wp_seq_k fun ah C=>?_
 refine region_drawn 5 (fun j=>decide (4≤j)) (by kernel_rfl) rfl A fun ai a e=>?_
 refine TK (i:=0) (AZ xi xA xn xc xs) rfl (by kernel_rfl) (fun _ _ _ h=>h) rfl (fun _ hS=>(run_loadA [I xi,E xA xn xc,T xs] rfl rfl (hS _ (MI (i:=2) rfl)) rfl (ag60 _) (sz60 _))) a.has ?_
 simp only [PA]
 refine TK (i:=1) (AZ yi yA yn yc ys) rfl (by kernel_rfl) (fun _ _ _ h=>h) rfl (fun _ hS=>(run_loadA [I yi,E yA yn yc,T ys] rfl rfl (hS _ (MI (i:=1) rfl)) rfl (ag60 _) (sz60 _))) a.has ?_
 simp only [PA]
 refine anyT_one (i:=2) rfl (by kernel_rfl) rfl fun K hK=>o_call 101 _ #[AZ yi yA yn yc ys] Try.func101 (by kernel_rfl) rfl rfl rfl a (neg101 (Zy.u (((b.trans c).trans d).trans e)) fy) fun aj al f g D=>?_
 obtain ⟨k,l⟩:∃ zz_:Int,(-y)=zz_:=⟨_,rfl⟩
 rw [l] at f
 have m:Fit 100000000 k:=l▸(Fit.neg fy)
 obtain ⟨F,G,H,L,M,rfl,N⟩:=zopen f
 refine hK _ _ (fun _=>g.has) ?_
 simp only [PA]
 refine anyT_one (i:=3) rfl (by kernel_rfl) rfl fun K hK=>o_call 73 _ #[AZ xi xA xn xc xs,AZ F G H L M] Try.func73 (by kernel_rfl) rfl rfl rfl g (add73 (Zx.u ((((b.trans c).trans d).trans e).trans D)) N fx m) fun am an n o ao=>?_
 obtain ⟨P,p⟩:∃ zz_:Int,(x+k)=zz_:=⟨_,rfl⟩
 rw [p] at n
 have ap:Fit 100000001 P:=p▸(Fit.add fx m)
 obtain ⟨Q,R,S,V,W,rfl,X⟩:=zopen n
 refine hK _ _ (fun _=>o.has) ?_
 simp only [PA]
 refine anyT_one (i:=4) rfl (by kernel_rfl) rfl fun K hK=>OT 0 (Z3 Q R S V W) o (sz60 _) fun aq q Y=>hK _ _ (fun h=>absurd h (by decide)) ?_
 simp only [PA]
 refine anyT_done (by kernel_rfl) ?_ _
 refine C _ _ ?_
 refine wp_ret ?_
 repeat (with_reducible first | refine then_ret ?_ | refine inBlock_ret ?_)
 refine bodyPost_ret (ret60 rfl _ rfl rfl (q.at_ _ (MI (i:=0) rfl))) rfl ?_
 subst_vars
 exact ⟨⟨_,rfl,(Int.sub_eq_add_neg.symm)▸(X.u Y)⟩,q.bl⟩
set_option maxRecDepth 100000 in
set_option maxHeartbeats 2000000 in
theorem cmp75 {v u:Value} {x y:Int} {w:World} (hx:Zh w v x) (hy:Zh w u y) (fx:Fit 100000000 x) (fy:Fit 100000000 y):Calls Try.prog 75 #[v,u] w (RetI w (cmpZ x y)):=by
 obtain ⟨xi,xA,xn,xc,xs,rfl,Zx⟩:=zopen hx
 obtain ⟨yi,yA,yn,yc,ys,rfl,Zy⟩:=zopen hy
 go_enter Try.func75,Try.ntmps75
 have q:=St.start w
 refine wp_seq_k fun V r=>?_
 refine wp_region_lit ?_
 refine wpList_plain rfl fun K hK=>o_box (Z3 xi xA xn xc xs) rfl rfl rfl q fun c W s h=>hK _ _ ?_
 simp only [PA]
 refine wpList_plain rfl fun K hK=>o_box (Z3 yi yA yn yc ys) rfl rfl rfl s fun d e b j=>hK _ _ ?_
 simp only [PA]
 refine PV (I 0) rfl rfl ?_
 simp only [PA]
 refine wpList_nil ?_
 refine r _ _ ?_
 refine wp_seq_k fun X t=>?_
 refine wp_cut (fun aa_ w'=>∃ (a:List Value),aa_=⟨#[AZ xi xA xn xc xs,AZ yi yA yn yc ys,PT c 0,PT d 0,(GD a 0),(GD a 1),(GD a 2),(GD a 3),(GD a 4),(GD a 5),(GD a 6),(GD a 7),(GD a 8),(GD a 9),(GD a 10),(GD a 11),(GD a 12),(GD a 13),(GD a 14),(GD a 15),(GD a 16),(GD a 17),(GD a 18),(GD a 19),(GD a 20),O,O,O,O],[]⟩∧St w w' [⟨d,(Z3 yi yA yn yc ys),60⟩,⟨c,(Z3 xi xA xn xc xs),60⟩]∧U e w') ?_ ?_
 ·skip
  refine wp_seq_k fun Y f=>?_
  refine wp_region_lit ?_
  refine PV (PT c 1) (by kernel_rfl) rfl ?_
  simp only [PA]
  refine PV (E xA xn xc) (run_load1 (E xA xn xc) rfl rfl (b.at_ _ (MI (i:=1) rfl)) rfl (ag36 _)) rfl ?_
  simp only [PA]
  by_cases hA:xA.isNone=true
  ·skip
   refine PV (T true) (CT (run_bin (E xA xn xc) (E none 0 0) _ rfl rfl rfl (bin_eql_36o _ _ _ _ _)) (congrArg Value.bool hA)) rfl ?_
   simp only [PA]
   refine PV (T true) rfl rfl ?_
   simp only [PA]
   refine wpList_on (by kernel_rfl) fun K hK=>o_val (PT d 1) (by kernel_rfl) (hK _ _ ?_)
   simp only [PA]
   refine wpList_on (by kernel_rfl) fun K hK=>o_val (E yA yn yc) (run_load1 (E yA yn yc) rfl rfl (b.at_ _ (MI (i:=0) rfl)) rfl (ag36 _)) (hK _ _ ?_)
   simp only [PA]
   by_cases hB:yA.isNone=true
   ·skip
    refine wpList_on (by kernel_rfl) fun K hK=>o_val (T true) (CT (run_bin (E yA yn yc) (E none 0 0) _ rfl rfl rfl (bin_eql_36o _ _ _ _ _)) (congrArg Value.bool hB)) (hK _ _ ?_)
    simp only [PA]
    refine PV (T true) rfl rfl ?_
    simp only [PA]
    refine wpList_nil ?_
    refine f _ _ ?_
    refine cond_true rfl ?_
    refine wp_seq_k fun aa z=>?_
    refine wp_block ?_
    refine wp_seq_k fun ab k=>?_
    refine wp_region_lit ?_
    refine PV (PT c 0) (by kernel_rfl) rfl ?_
    simp only [PA]
    refine PV (I xi) (run_load1 (I xi) rfl rfl (b.at_ _ (MI (i:=1) rfl)) rfl (ag2 _)) rfl ?_
    simp only [PA]
    refine PV (PT d 0) (by kernel_rfl) rfl ?_
    simp only [PA]
    refine PV (I yi) (run_load1 (I yi) rfl rfl (b.at_ _ (MI (i:=0) rfl)) rfl (ag2 _)) rfl ?_
    simp only [PA]
    by_cases hl:(xi:Int)<yi
    ·skip
     refine PV (T true) (CT (run_bin (I xi) (I yi) _ rfl rfl rfl (bin_lss_2 _ _ _ _)) (congrArg Value.bool (decide_eq_true hl))) rfl ?_
     simp only [PA]
     refine PV (T true) rfl rfl ?_
     simp only [PA]
     refine wpList_nil ?_
     refine k _ _ ?_
     refine cond_true rfl ?_
     refine wp_seq_k fun ac A=>?_
     refine wp_region_lit ?_
     refine PV (I (-1)) rfl rfl ?_
     simp only [PA]
     refine wpList_nil ?_
     refine A _ _ ?_
     refine wp_ret ?_
     repeat (with_reducible first | refine then_ret ?_ | refine inBlock_ret ?_)
     refine bodyPost_ret (results_tmp rfl _ _ _) rfl ?_
     exact ⟨⟨_,rfl,cmpV (by have:=zsm Zx hA; have:=zsm Zy hB; omega)⟩,b.bl⟩
    ·skip
     refine PV (T false) (CT (run_bin (I xi) (I yi) _ rfl rfl rfl (bin_lss_2 _ _ _ _)) (congrArg Value.bool (decide_eq_false hl))) rfl ?_
     simp only [PA]
     refine PV (T false) rfl rfl ?_
     simp only [PA]
     refine wpList_nil ?_
     refine k _ _ ?_
     refine cond_false rfl ?_
     refine wp_seq_k fun ad l=>?_
     refine wp_region_lit ?_
     refine PV (PT c 0) (by kernel_rfl) rfl ?_
     simp only [PA]
     refine PV (I xi) (run_load1 (I xi) rfl rfl (b.at_ _ (MI (i:=1) rfl)) rfl (ag2 _)) rfl ?_
     simp only [PA]
     refine PV (PT d 0) (by kernel_rfl) rfl ?_
     simp only [PA]
     refine PV (I yi) (run_load1 (I yi) rfl rfl (b.at_ _ (MI (i:=0) rfl)) rfl (ag2 _)) rfl ?_
     simp only [PA]
     by_cases hg:(yi:Int)<xi
     ·skip
      refine PV (T true) (CT (run_bin (I xi) (I yi) _ rfl rfl rfl (bin_gtr_2 _ _ _ _)) (congrArg Value.bool (decide_eq_true hg))) rfl ?_
      simp only [PA]
      refine PV (T true) rfl rfl ?_
      simp only [PA]
      refine wpList_nil ?_
      refine l _ _ ?_
      refine cond_true rfl ?_
      refine wp_seq_k fun ae C=>?_
      refine wp_region_lit ?_
      refine PV (I 1) rfl rfl ?_
      simp only [PA]
      refine wpList_nil ?_
      refine C _ _ ?_
      refine wp_ret ?_
      repeat (with_reducible first | refine then_ret ?_ | refine inBlock_ret ?_)
      refine bodyPost_ret (results_tmp rfl _ _ _) rfl ?_
      exact ⟨⟨_,rfl,cmpV (by have:=zsm Zx hA; have:=zsm Zy hB; omega)⟩,b.bl⟩
     ·skip
      refine PV (T false) (CT (run_bin (I xi) (I yi) _ rfl rfl rfl (bin_gtr_2 _ _ _ _)) (congrArg Value.bool (decide_eq_false hg))) rfl ?_
      simp only [PA]
      refine PV (T false) rfl rfl ?_
      simp only [PA]
      refine wpList_nil ?_
      refine l _ _ ?_
      refine cond_false rfl ?_
      refine wp_skip ?_
      refine z _ _ ?_
      refine wp_seq_k fun af D=>?_
      refine wp_region_lit ?_
      refine PV (I 0) rfl rfl ?_
      simp only [PA]
      refine wpList_nil ?_
      refine D _ _ ?_
      refine wp_ret ?_
      repeat (with_reducible first | refine then_ret ?_ | refine inBlock_ret ?_)
      refine bodyPost_ret (results_tmp rfl _ _ _) rfl ?_
      exact ⟨⟨_,rfl,cmpV (by have:=zsm Zx hA; have:=zsm Zy hB; omega)⟩,b.bl⟩
   ·skip
    refine wpList_on (by kernel_rfl) fun K hK=>o_val (T false) (CT (run_bin (E yA yn yc) (E none 0 0) _ rfl rfl rfl (bin_eql_36o _ _ _ _ _)) (congrArg Value.bool (Bool.eq_false_iff.2 hB))) (hK _ _ ?_)
    simp only [PA]
    refine PV (T false) rfl rfl ?_
    simp only [PA]
    refine wpList_nil ?_
    refine f _ _ ?_
    refine cond_false rfl ?_
    refine wp_skip ?_
    exact ⟨[I 0,PT c 1,E xA xn xc,T true,T true,PT d 1,E yA yn yc,T false,T false,O,O,O,O,O,O,O,O,O,O,O,O],rfl,b,U.refl e⟩
  ·skip
   refine PV (T false) (CT (run_bin (E xA xn xc) (E none 0 0) _ rfl rfl rfl (bin_eql_36o _ _ _ _ _)) (congrArg Value.bool (Bool.eq_false_iff.2 hA))) rfl ?_
   simp only [PA]
   refine PV (T false) rfl rfl ?_
   simp only [PA]
   with_reducible refine wpList_off ?_ ?_
   ·with_reducible exact wanted_off rfl rfl rfl
   simp only [PA]
   with_reducible refine wpList_off ?_ ?_
   ·with_reducible exact wanted_off rfl rfl rfl
   simp only [PA]
   with_reducible refine wpList_off ?_ ?_
   ·with_reducible exact wanted_off rfl rfl rfl
   simp only [PA]
   refine PV (T false) rfl rfl ?_
   simp only [PA]
   refine wpList_nil ?_
   refine f _ _ ?_
   refine cond_false rfl ?_
   refine wp_skip ?_
   exact ⟨[I 0,PT c 1,E xA xn xc,T false,T false,O,O,O,T false,O,O,O,O,O,O,O,O,O,O,O,O],rfl,b,U.refl e⟩
 ·skip
  rintro _ ag ⟨a,rfl,g,m⟩
  refine t _ _ ?_
  refine wp_seq_k fun ah F=>?_
  refine wp_region_lit ?_
  refine PV (AZ xi xA xn xc xs) (run_loadA [I xi,E xA xn xc,T xs] rfl rfl (g.at_ _ (MI (i:=1) rfl)) rfl (ag60 _) (sz60 _)) rfl ?_
  simp only [PA]
  refine PV (AZ yi yA yn yc ys) (run_loadA [I yi,E yA yn yc,T ys] rfl rfl (g.at_ _ (MI (i:=0) rfl)) rfl (ag60 _) (sz60 _)) rfl ?_
  simp only [PA]
  refine wpList_plain rfl fun K hK=>o_call 76 _ #[AZ xi xA xn xc xs,AZ yi yA yn yc ys] Try.func76 (by kernel_rfl) rfl rfl rfl g (sub76 (Zx.u ((h.trans j).trans m)) (Zy.u ((h.trans j).trans m)) fx fy) fun ai aj n G al=>?_
  obtain ⟨o,p⟩:∃ zz_:Int,(x - y)=zz_:=⟨_,rfl⟩
  rw [p] at n
  have am:Fit 100000001 o:=p▸(Fit.sub fx fy)
  obtain ⟨H,L,M,N,P,rfl,Q⟩:=zopen n
  refine hK _ _ ?_
  simp only [PA]
  refine wpList_plain rfl fun K hK=>o_call 82 _ #[AZ H L M N P] Try.func82 (by kernel_rfl) rfl rfl rfl G (sign82 Q) fun an ao R S ap=>?_
  subst R
  refine hK _ _ ?_
  simp only [PA]
  refine PV (I (cmpZ o 0)) rfl rfl ?_
  simp only [PA]
  refine wpList_nil ?_
  refine F _ _ ?_
  refine wp_ret ?_
  repeat (with_reducible first | refine then_ret ?_ | refine inBlock_ret ?_)
  refine bodyPost_ret (results_tmp rfl _ _ _) rfl ?_
  subst_vars
  exact ⟨⟨_,rfl,cmp_sub _ _⟩,S.bl⟩
end Go.Proofs.Ythhgjloephkpaaa
