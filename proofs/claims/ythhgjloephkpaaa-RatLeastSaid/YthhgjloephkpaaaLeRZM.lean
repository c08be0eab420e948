/- Words and walks for the row RowRatLeast, put together: RZM. -/
import Derived.Test.YthhgjloephkpaaaLe12
import Derived.Test.YthhgjloephkpaaaLe6
namespace Go.Proofs.Ythhgjloephkpaaa
set_option linter.unusedVariables false
set_option linter.unusedSimpArgs false
open Go Go.RowKit Go.Proofs.YthhgjloephkpaaaW.PrintWords Go.Proofs.YthhgjloephkpaaaW.PrintLast
/-- An integer of the program, new. -/
def RetZ (w : World) (z : Int) (e : Ending) (w' : World) : Prop := (∃ v, e = .returned v ∧ Zh w' v z) ∧ Below w.heap.size w w'
theorem Zh.small (w : World) {z : Int} (h : -9223372036854775808 ≤ z) (h2 : z < 9223372036854775808) : Zh w (.agg #[.int .i64 z, .slice none 0 0, .bool false]) z := Or.inl ⟨rfl, h, h2⟩
theorem Zh.big {w : World} {z : Int} {ad : Addr} {n c : Nat} {s : Bool} (hs : decide (z < 0) = s) (h : Wds w (some ad) n c (dg z.natAbs)) (hb : 9223372036854775808 ≤ z.natAbs) : Zh w (.agg #[.int .i64 0, .slice (some ad) n c, .bool s]) z := by
 subst hs; exact Or.inr ⟨ad, n, c, rfl, h, hb⟩
theorem Zh.u {w w' : World} {v : Value} {z : Int} (h : Zh w v z) (hu : U w w') : Zh w' v z := by
 rcases h with h | ⟨ad, n, c, e, h2, h3⟩
 ·exact Or.inl h
 ·exact Or.inr ⟨ad, n, c, e, h2.u hu, h3⟩
theorem Zh.below {w w' : World} {v : Value} {z : Int} (h : Zh w v z) (hb : Below w.heap.size w w') : Zh w' v z := h.u (U.of_below hb)
theorem zopen {w : World} {v : Value} {z : Int} (h : Zh w v z) : ∃ i A n c s, v = .agg #[.int .i64 i, .slice A n c, .bool s] ∧ Zh w (.agg #[.int .i64 i, .slice A n c, .bool s]) z := by
 rcases h with ⟨e, h⟩ | ⟨ad, n, c, e, h⟩
 ·exact ⟨_, _, _, _, _, e, Or.inl ⟨rfl, h⟩⟩
 ·exact ⟨_, _, _, _, _, e, Or.inr ⟨_, _, _, rfl, h⟩⟩
theorem zcase {w : World} {i z : Int} {A : Option Addr} {n c : Nat} {s : Bool} (h : Zh w (.agg #[.int .i64 i, .slice A n c, .bool s]) z) :
  (z = i ∧ A = none ∧ n = 0 ∧ c = 0 ∧ s = false ∧ -9223372036854775808 ≤ z ∧ z < 9223372036854775808) ∨ (∃ ad, A = some ad ∧ i = 0 ∧ decide (z < 0) = s ∧ Wds w (some ad) n c (dg z.natAbs) ∧ 9223372036854775808 ≤ z.natAbs) := by
 rcases h with ⟨e, h, h2⟩ | ⟨ad, n', c', e, h, h2⟩
 ·injection e with e; injection e with e; injection e with e1 e; injection e with e2 e; injection e with e3 e
  injection e1 with _ e1; injection e2 with e2 e4 e5; injection e3 with e3
  exact Or.inl ⟨e1.symm, e2, e4, e5, e3, h, h2⟩
 ·injection e with e; injection e with e; injection e with e1 e; injection e with e2 e; injection e with e3 e
  injection e1 with _ e1; injection e2 with e2 e4 e5; injection e3 with e3
  subst e4 e5
  exact Or.inr ⟨ad, e2, e1, e3.symm, h, h2⟩
theorem run_slcPre (ρ : Operand → Value) (o : Oper) (w : World) (x hi : Operand) (ad : Addr) (n c k : Nat) (ho : o.op = .slice 36 x none (some hi) none) (hx : ρ x = .slice (some ad) n c) (hhi : ρ hi = .int .i64 (k : Int)) (h : k ≤ n) (hc : n ≤ c) :
  (execOp ρ o).run Try.prog w = .ok (.value (.slice (some ad) k c)) w := by
 have hr : (Instr.sliceAt 36 (.slice (some ad) n c) none (some (.int .i64 (k : Int))) none).run Try.prog w = .ok (.slice (some ad) k c) w := by
  have h2 : (k : Int) ≤ (c : Int) := by omega
  simp [go_sem, Instr.sliceAt]
  intro h3; omega
 unfold execOp
 simp only [ho, hx, hhi, Option.map_some, Option.map_none]
 rw [Sem.run_bind, hr]
 rfl
theorem made_big {w' : World} {z : Int} {ad : Addr} {m c x : Nat} {s : Bool} (hs : decide (z < 0) = s) (hz : z.natAbs = x) (hw : Wds w' (some ad) m c (dg x)) (hb : 9223372036854775808 ≤ x) : Zh w' (.agg #[.int .i64 0, .slice (some ad) m c, .bool s]) z := by
 subst hz; exact Zh.big hs hw hb
theorem big_of_len {x m : Nat} (h : (dg x).length = m) (hm : 2 < m) : 9223372036854775808 ≤ x := by
 rcases Nat.lt_or_ge x 9223372036854775808 with h1 | h1
 ·have h2 : x < BW ^ 2 := by rw [show BW ^ 2 = 18446744073709551616 from by decide]; omega
  have := dg_len_le h2
  omega
 ·exact h1
theorem drop_lt {x m t u : Nat} (hl : (dg x).length = m) (hu : val ((dg x).drop t) = u) (hm : m ≤ t + 1) : u < BW := by
 subst hu
 have h := val_lt ((dg_dig x).drop t)
 have h2 : BW ^ ((dg x).drop t).length ≤ BW ^ 1 := Nat.pow_le_pow_right BW_pos (by rw [List.length_drop]; omega)
 rw [Nat.pow_one] at h2
 omega
theorem drop_next {x m t a u : Nat} (hl : (dg x).length = m) (ht : t < m) (ha : (dg x).getD t 0 = a) (hu : val ((dg x).drop (t + 1)) = u) : val ((dg x).drop t) = u * BW + a := by
 subst ha hu
 rw [drop_cons (by omega), val_cons, Nat.mul_comm]; omega
set_option maxRecDepth 100000 in
set_option maxHeartbeats 2000000 in
theorem made_none_t {c:Nat} {w:World}:Calls Try.prog 112 (W2 none 0 c true) w (RetZ w 0):=by
 go_enter Try.func112,Try.ntmps112
 have h:=St.start w
 refine wp_seq_k fun z j=>?_
 refine wp_region_lit ?_
 refine wpList_plain rfl fun K hK=>o_alloc (Z3 0 none 0 0 false) _ rfl (zv60 _) rfl rfl h fun d e k A=>hK _ _ ?_
 simp only [PA]
 refine wpList_nil ?_
 refine j _ _ ?_
 refine wp_seq_k fun C l=>?_
 refine wp_block ?_
 refine wp_loop_g (fun mm aa_ w'=>∃ (a:List Value),aa_=⟨#[E none 0 c,T true,O,O,PT d 0,O,O,(GD a 0),(GD a 1),(GD a 2),(GD a 3),(GD a 4),(GD a 5),(GD a 6),(GD a 7),(GD a 8),(GD a 9),(GD a 10),(GD a 11),(GD a 12),(GD a 13),(GD a 14),(GD a 15),(GD a 16),O,O,O,O,O,O,O,O,O,O,O,O,O,O,O,O,O,O,O,O,O,O,O,O,O,O,O,O,O,O,O],[]⟩∧St w w' [⟨d,(Z3 0 none 0 0 false),60⟩]∧U e w'∧0=mm) (0) ⟨[O,O,O,O,O,O,O,O,O,O,O,O,O,O,O,O,O],rfl,k,U.refl e,rfl⟩ ?_
 rintro _ _ f ⟨a,rfl,m,D,rfl⟩
 refine wp_seq_k fun F G=>?_
 refine wp_seq_k fun H n=>?_
 refine wp_region_lit ?_
 refine PV (E none 0 c) rfl rfl ?_
 simp only [PA]
 refine PV (I 0) (run_len36 rfl rfl) rfl ?_
 simp only [PA]
 refine PV (T false) (CT (run_bin (I 0) (I 0) _ rfl rfl rfl (bin_gtr_3 _ _ _ _)) (rfl)) rfl ?_
 simp only [PA]
 refine PV (T false) rfl rfl ?_
 simp only [PA]
 with_reducible refine wpList_off ?_ ?_
 ·with_reducible exact wanted_off rfl rfl rfl
 simp only [PA]
 with_reducible refine wpList_off ?_ ?_
 ·with_reducible exact wanted_off rfl rfl rfl
 simp only [PA]
 with_reducible refine wpList_off ?_ ?_
 ·with_reducible exact wanted_off rfl rfl rfl
 simp only [PA]
 with_reducible refine wpList_off ?_ ?_
 ·with_reducible exact wanted_off rfl rfl rfl
 simp only [PA]
 with_reducible refine wpList_off ?_ ?_
 ·with_reducible exact wanted_off rfl rfl rfl
 simp only [PA]
 with_reducible refine wpList_off ?_ ?_
 ·with_reducible exact wanted_off rfl rfl rfl
 simp only [PA]
 with_reducible refine wpList_off ?_ ?_
 ·with_reducible exact wanted_off rfl rfl rfl
 simp only [PA]
 refine PV (T false) rfl rfl ?_
 simp only [PA]
 refine wpList_nil ?_
 refine n _ _ ?_
 refine cond_false rfl ?_
 refine wp_exit ?_
 refine l _ _ ?_
 refine wp_seq_k fun L M=>?_
 refine wp_seq_k fun N o=>?_
 refine wp_region_lit ?_
 refine PV (E none 0 c) rfl rfl ?_
 simp only [PA]
 refine PV (I 0) (run_len36 rfl rfl) rfl ?_
 simp only [PA]
 refine PV (T true) (CT (run_bin (I 0) (I 2) _ rfl rfl rfl (bin_leq_3 _ _ _ _)) (rfl)) rfl ?_
 simp only [PA]
 refine wpList_nil ?_
 refine o _ _ ?_
 refine cond_true rfl ?_
 refine wp_seq_k fun P p=>?_
 refine wp_region_lit ?_
 refine PV (J 0) rfl rfl ?_
 simp only [PA]
 refine wpList_nil ?_
 refine p _ _ ?_
 refine wp_seq_k fun Q q=>?_
 refine wp_seq_k fun R r=>?_
 refine wp_region_lit ?_
 refine PV (E none 0 c) rfl rfl ?_
 simp only [PA]
 refine PV (I 0) (run_len36 rfl rfl) rfl ?_
 simp only [PA]
 refine PV (I (-1)) (CT (run_bin (I 0) (I 1) _ rfl rfl rfl (bin_sub_3 _ _ _ _)) (rfl)) rfl ?_
 simp only [PA]
 refine PV (I (-1)) rfl rfl ?_
 simp only [PA]
 refine wpList_nil ?_
 refine r _ _ ?_
 refine wp_block ?_
 refine wp_loop_g (fun mm aa_ w'=>∃ (b:List Value),aa_=⟨#[E none 0 c,T true,O,O,PT d 0,J 0,I (-1),E none 0 c,I 0,T false,T false,O,O,O,O,O,O,O,T false,(GD a 12),(GD a 13),(GD a 14),(GD a 15),(GD a 16),E none 0 c,I 0,T true,E none 0 c,I 0,I (-1),(GD b 0),(GD b 1),(GD b 2),(GD b 3),(GD b 4),(GD b 5),(GD b 6),(GD b 7),(GD b 8),(GD b 9),(GD b 10),(GD b 11),O,O,O,O,O,O,O,O,O,O,O,O,O],[]⟩∧St w w' [⟨d,(Z3 0 none 0 0 false),60⟩]∧U f w'∧0=mm) (0) ⟨[O,O,O,O,O,O,O,O,O,O,O,O],rfl,m,U.refl f,rfl⟩ ?_
 rintro _ _ S ⟨b,rfl,s,V,rfl⟩
 refine wp_seq_k fun W X=>?_
 refine wp_seq_k fun Y t=>?_
 refine wp_region_lit ?_
 refine PV (I (-1)) rfl rfl ?_
 simp only [PA]
 refine PV (T false) (CT (run_bin (I (-1)) (I 0) _ rfl rfl rfl (bin_geq_3 _ _ _ _)) (rfl)) rfl ?_
 simp only [PA]
 refine wpList_nil ?_
 refine t _ _ ?_
 refine cond_false rfl ?_
 refine wp_exit ?_
 refine q _ _ ?_
 refine wp_seq_k fun aa v=>?_
 refine wp_region_lit ?_
 refine PV (J 0) rfl rfl ?_
 simp only [PA]
 refine PV (T true) (CT (run_bin (J 0) (J 9223372036854775808) _ rfl rfl rfl (bin_lss_104 _ _ _ _)) (rfl)) rfl ?_
 simp only [PA]
 refine wpList_nil ?_
 refine v _ _ ?_
 refine cond_true rfl ?_
 refine wp_seq_k fun ab ac=>?_
 refine wp_seq_k fun ad x=>?_
 refine wp_region_lit ?_
 refine PV (T true) rfl rfl ?_
 simp only [PA]
 refine wpList_nil ?_
 refine x _ _ ?_
 refine cond_true rfl ?_
 refine wp_seq_k fun ae y=>?_
 refine wp_region_lit ?_
 refine PV (J 0) rfl rfl ?_
 simp only [PA]
 refine PV (I (0+0)) (CT (run_cv _ rfl rfl rfl rfl rfl) (rfl)) rfl ?_
 simp only [PA]
 refine PV (I (-0)) (CT (run_neg (0+0) rfl rfl) (rfl)) rfl ?_
 simp only [PA]
 refine PV (AZ (-0) none 0 0 false) (by kernel_rfl) rfl ?_
 simp only [PA]
 refine wpList_plain rfl fun K hK=>OT 0 (Z3 (-0) none 0 0 false) s (sz60 _) fun af g ag=>hK _ _ ?_
 simp only [PA]
 refine wpList_nil ?_
 refine y _ _ ?_
 refine wp_ret ?_
 repeat (with_reducible first | refine then_ret ?_ | refine inBlock_ret ?_)
 refine bodyPost_ret (ret60 rfl _ rfl rfl (g.at_ _ (MI (i:=0) rfl))) rfl ?_
 exact ⟨⟨_,rfl,Zh.small _ (by omega) (by omega)⟩,g.bl⟩
set_option maxRecDepth 100000 in
set_option maxHeartbeats 2000000 in
theorem made_none_f {c:Nat} {w:World}:Calls Try.prog 112 (W2 none 0 c false) w (RetZ w 0):=by
 go_enter Try.func112,Try.ntmps112
 have h:=St.start w
 refine wp_seq_k fun A j=>?_
 refine wp_region_lit ?_
 refine wpList_plain rfl fun K hK=>o_alloc (Z3 0 none 0 0 false) _ rfl (zv60 _) rfl rfl h fun d e k C=>hK _ _ ?_
 simp only [PA]
 refine wpList_nil ?_
 refine j _ _ ?_
 refine wp_seq_k fun D l=>?_
 refine wp_block ?_
 refine wp_loop_g (fun mm aa_ w'=>∃ (a:List Value),aa_=⟨#[E none 0 c,T false,O,O,PT d 0,O,O,(GD a 0),(GD a 1),(GD a 2),(GD a 3),(GD a 4),(GD a 5),(GD a 6),(GD a 7),(GD a 8),(GD a 9),(GD a 10),(GD a 11),(GD a 12),(GD a 13),(GD a 14),(GD a 15),(GD a 16),O,O,O,O,O,O,O,O,O,O,O,O,O,O,O,O,O,O,O,O,O,O,O,O,O,O,O,O,O,O,O],[]⟩∧St w w' [⟨d,(Z3 0 none 0 0 false),60⟩]∧U e w'∧0=mm) (0) ⟨[O,O,O,O,O,O,O,O,O,O,O,O,O,O,O,O,O],rfl,k,U.refl e,rfl⟩ ?_
 rintro _ _ f ⟨a,rfl,m,F,rfl⟩
 refine wp_seq_k fun G H=>?_
 refine wp_seq_k fun L n=>?_
 refine wp_region_lit ?_
 refine PV (E none 0 c) rfl rfl ?_
 simp only [PA]
 refine PV (I 0) (run_len36 rfl rfl) rfl ?_
 simp only [PA]
 refine PV (T false) (CT (run_bin (I 0) (I 0) _ rfl rfl rfl (bin_gtr_3 _ _ _ _)) (rfl)) rfl ?_
 simp only [PA]
 refine PV (T false) rfl rfl ?_
 simp only [PA]
 with_reducible refine wpList_off ?_ ?_
 ·with_reducible exact wanted_off rfl rfl rfl
 simp only [PA]
 with_reducible refine wpList_off ?_ ?_
 ·with_reducible exact wanted_off rfl rfl rfl
 simp only [PA]
 with_reducible refine wpList_off ?_ ?_
 ·with_reducible exact wanted_off rfl rfl rfl
 simp only [PA]
 with_reducible refine wpList_off ?_ ?_
 ·with_reducible exact wanted_off rfl rfl rfl
 simp only [PA]
 with_reducible refine wpList_off ?_ ?_
 ·with_reducible exact wanted_off rfl rfl rfl
 simp only [PA]
 with_reducible refine wpList_off ?_ ?_
 ·with_reducible exact wanted_off rfl rfl rfl
 simp only [PA]
 with_reducible refine wpList_off ?_ ?_
 ·with_reducible exact wanted_off rfl rfl rfl
 simp only [PA]
 refine PV (T false) rfl rfl ?_
 simp only [PA]
 refine wpList_nil ?_
 refine n _ _ ?_
 refine cond_false rfl ?_
 refine wp_exit ?_
 refine l _ _ ?_
 refine wp_seq_k fun M N=>?_
 refine wp_seq_k fun P o=>?_
 refine wp_region_lit ?_
 refine PV (E none 0 c) rfl rfl ?_
 simp only [PA]
 refine PV (I 0) (run_len36 rfl rfl) rfl ?_
 simp only [PA]
 refine PV (T true) (CT (run_bin (I 0) (I 2) _ rfl rfl rfl (bin_leq_3 _ _ _ _)) (rfl)) rfl ?_
 simp only [PA]
 refine wpList_nil ?_
 refine o _ _ ?_
 refine cond_true rfl ?_
 refine wp_seq_k fun Q p=>?_
 refine wp_region_lit ?_
 refine PV (J 0) rfl rfl ?_
 simp only [PA]
 refine wpList_nil ?_
 refine p _ _ ?_
 refine wp_seq_k fun R q=>?_
 refine wp_seq_k fun S r=>?_
 refine wp_region_lit ?_
 refine PV (E none 0 c) rfl rfl ?_
 simp only [PA]
 refine PV (I 0) (run_len36 rfl rfl) rfl ?_
 simp only [PA]
 refine PV (I (-1)) (CT (run_bin (I 0) (I 1) _ rfl rfl rfl (bin_sub_3 _ _ _ _)) (rfl)) rfl ?_
 simp only [PA]
 refine PV (I (-1)) rfl rfl ?_
 simp only [PA]
 refine wpList_nil ?_
 refine r _ _ ?_
 refine wp_block ?_
 refine wp_loop_g (fun mm aa_ w'=>∃ (b:List Value),aa_=⟨#[E none 0 c,T false,O,O,PT d 0,J 0,I (-1),E none 0 c,I 0,T false,T false,O,O,O,O,O,O,O,T false,(GD a 12),(GD a 13),(GD a 14),(GD a 15),(GD a 16),E none 0 c,I 0,T true,E none 0 c,I 0,I (-1),(GD b 0),(GD b 1),(GD b 2),(GD b 3),(GD b 4),(GD b 5),(GD b 6),(GD b 7),(GD b 8),(GD b 9),(GD b 10),(GD b 11),O,O,O,O,O,O,O,O,O,O,O,O,O],[]⟩∧St w w' [⟨d,(Z3 0 none 0 0 false),60⟩]∧U f w'∧0=mm) (0) ⟨[O,O,O,O,O,O,O,O,O,O,O,O],rfl,m,U.refl f,rfl⟩ ?_
 rintro _ _ V ⟨b,rfl,s,W,rfl⟩
 refine wp_seq_k fun X Y=>?_
 refine wp_seq_k fun aa t=>?_
 refine wp_region_lit ?_
 refine PV (I (-1)) rfl rfl ?_
 simp only [PA]
 refine PV (T false) (CT (run_bin (I (-1)) (I 0) _ rfl rfl rfl (bin_geq_3 _ _ _ _)) (rfl)) rfl ?_
 simp only [PA]
 refine wpList_nil ?_
 refine t _ _ ?_
 refine cond_false rfl ?_
 refine wp_exit ?_
 refine q _ _ ?_
 refine wp_seq_k fun ab v=>?_
 refine wp_region_lit ?_
 refine PV (J 0) rfl rfl ?_
 simp only [PA]
 refine PV (T true) (CT (run_bin (J 0) (J 9223372036854775808) _ rfl rfl rfl (bin_lss_104 _ _ _ _)) (rfl)) rfl ?_
 simp only [PA]
 refine wpList_nil ?_
 refine v _ _ ?_
 refine cond_true rfl ?_
 refine wp_seq_k fun ac x=>?_
 refine wp_seq_k fun ad y=>?_
 refine wp_region_lit ?_
 refine PV (T false) rfl rfl ?_
 simp only [PA]
 refine wpList_nil ?_
 refine y _ _ ?_
 refine cond_false rfl ?_
 refine wp_skip ?_
 refine x _ _ ?_
 refine wp_seq_k fun ae z=>?_
 refine wp_region_lit ?_
 refine PV (J 0) rfl rfl ?_
 simp only [PA]
 refine PV (I (0+0)) (CT (run_cv _ rfl rfl rfl rfl rfl) (rfl)) rfl ?_
 simp only [PA]
 refine PV (AZ (0+0) none 0 0 false) (by kernel_rfl) rfl ?_
 simp only [PA]
 refine wpList_plain rfl fun K hK=>OT 0 (Z3 (0+0) none 0 0 false) s (sz60 _) fun af g ag=>hK _ _ ?_
 simp only [PA]
 refine wpList_nil ?_
 refine z _ _ ?_
 refine wp_ret ?_
 repeat (with_reducible first | refine then_ret ?_ | refine inBlock_ret ?_)
 refine bodyPost_ret (ret60 rfl _ rfl rfl (g.at_ _ (MI (i:=0) rfl))) rfl ?_
 exact ⟨⟨_,rfl,Zh.small _ (by omega) (by omega)⟩,g.bl⟩
set_option maxRecDepth 100000 in
set_option maxHeartbeats 4000000 in
theorem made_some_t {ad:Addr} {n c x:Nat} {l:List Nat} {w:World} (hx:Wds w (some ad) n c l) (hD:Dig l) (hxl:val l=x) (hln:l.length=n) (hnc:n≤c) (hn:n≤9223372036854775807):Calls Try.prog 112 (W2 (some ad) n c true) w (RetZ w (-((x:Nat):Int))):=by
 go_enter Try.func112,Try.ntmps112
 have R:=St.start w
 refine wp_seq_k fun K1 S=>?_
 refine wp_region_lit ?_
 refine wpList_plain rfl fun K hK=>o_alloc (Z3 0 none 0 0 false) _ rfl (zv60 _) rfl rfl R fun j w4 V u6=>hK _ _ ?_
 simp only [PA]
 refine wpList_nil ?_
 refine S _ _ ?_
 refine wp_seq_k fun K7 W=>?_
 refine wp_cut (fun aa_ w'=>∃ (m:Nat) (d:List Value),aa_=⟨#[E (some ad) m c,T true,O,O,PT j 0,O,O,(GD d 0),(GD d 1),(GD d 2),(GD d 3),(GD d 4),(GD d 5),(GD d 6),(GD d 7),(GD d 8),(GD d 9),(GD d 10),(GD d 11),(GD d 12),(GD d 13),(GD d 14),(GD d 15),(GD d 16),O,O,O,O,O,O,O,O,O,O,O,O,O,O,O,O,O,O,O,O,O,O,O,O,O,O,O,O,O,O,O],[]⟩∧St w w' [⟨j,(Z3 0 none 0 0 false),60⟩]∧(m≤n)∧(l.take m=dg x)∧True) ?_ ?_
 ·refine wp_block ?_
  refine wp_loop_g (fun mm aa_ w'=>∃ (m:Nat) (e:List Value),aa_=⟨#[E (some ad) m c,T true,O,O,PT j 0,O,O,(GD e 0),(GD e 1),(GD e 2),(GD e 3),(GD e 4),(GD e 5),(GD e 6),(GD e 7),(GD e 8),(GD e 9),(GD e 10),(GD e 11),(GD e 12),(GD e 13),(GD e 14),(GD e 15),(GD e 16),O,O,O,O,O,O,O,O,O,O,O,O,O,O,O,O,O,O,O,O,O,O,O,O,O,O,O,O,O,O,O],[]⟩∧St w w' [⟨j,(Z3 0 none 0 0 false),60⟩]∧(m≤n)∧(val (l.take m)=val l)∧m=mm) (n) ⟨n,[O,O,O,O,O,O,O,O,O,O,O,O,O,O,O,O,O],rfl,V,Nat.le_refl _,by rw [List.take_of_length_le (by omega)],rfl⟩ ?_
  rintro _ _ aq ⟨m,e,rfl,k,hm,hV,rfl⟩
  refine wp_seq_k fun ar X=>?_
  refine wp_seq_k fun au s=>?_
  refine wp_region_lit ?_
  refine PV (E (some ad) m c) rfl rfl ?_
  simp only [PA]
  refine PV (I (m:Int)) (run_len36 rfl rfl) rfl ?_
  simp only [PA]
  by_cases C:(0:Int)<(m:Int)
  ·skip
   refine PV (T true) (CT (run_bin (I (m:Int)) (I 0) _ rfl rfl rfl (bin_gtr_3 _ _ _ _)) (congrArg Value.bool (decide_eq_true C))) rfl ?_
   simp only [PA]
   refine PV (T true) rfl rfl ?_
   simp only [PA]
   refine wpList_on (by kernel_rfl) fun K hK=>o_val (E (some ad) m c) rfl (hK _ _ ?_)
   simp only [PA]
   refine wpList_on (by kernel_rfl) fun K hK=>o_val (E (some ad) m c) rfl (hK _ _ ?_)
   simp only [PA]
   refine wpList_on (by kernel_rfl) fun K hK=>o_val (I (m:Int)) (run_len36 rfl rfl) (hK _ _ ?_)
   simp only [PA]
   obtain ⟨f,Y⟩:∃ z,m=z+1:=⟨m - 1,by omega⟩
   refine wpList_on (by kernel_rfl) fun K hK=>o_val (I ((f:Nat):Int)) (CT (run_bin (I (m:Int)) (I 1) _ rfl rfl rfl (bin_sub_3 _ _ _ _)) (vint (by rw [IntKind.wrap_i64]; omega))) (hK _ _ ?_)
   simp only [PA]
   refine wpList_on (by kernel_rfl) fun K hK=>o_val (.pointer (some (ad.add f))) (run_idx (t:=36) rfl rfl rfl (by omega)) (hK _ _ ?_)
   simp only [PA]
   obtain ⟨a,ha⟩:∃ z:Nat,l.getD f 0=z:=⟨_,rfl⟩
   refine wpList_on (by kernel_rfl) fun K hK=>o_val (.int .u32 ((a:Nat):Int)) (CT (run_loadW _ rfl rfl ((hx.below k.bl).cellA (by omega)) (ag100 _)) (vnat ha)) (hK _ _ ?_)
   simp only [PA]
   by_cases v:a=0
   ·skip
    refine wpList_on (by kernel_rfl) fun K hK=>o_val (T true) (CT (run_bin (.int .u32 ((a:Nat):Int)) (.int .u32 0) _ rfl rfl rfl (bin_eql_100 _ _ _ _)) (congrArg Value.bool (beq_iff_eq.2 (by omega)))) (hK _ _ ?_)
    simp only [PA]
    refine PV (T true) rfl rfl ?_
    simp only [PA]
    refine wpList_nil ?_
    refine s _ _ ?_
    refine cond_true rfl ?_
    refine wp_skip ?_
    refine X _ _ ?_
    refine wp_block ?_
    refine wp_region_lit ?_
    refine PV (E (some ad) m c) rfl rfl ?_
    simp only [PA]
    refine PV (E (some ad) m c) rfl rfl ?_
    simp only [PA]
    refine PV (I (m:Int)) (run_len36 rfl rfl) rfl ?_
    simp only [PA]
    refine PV (I (((f+0):Nat):Int)) (CT (run_bin (I (m:Int)) (I 1) _ rfl rfl rfl (bin_sub_3 _ _ _ _)) (vint (by rw [IntKind.wrap_i64]; omega))) rfl ?_
    simp only [PA]
    refine PV (E (some ad) (f+0) c) (run_slcPre _ _ _ _ _ _ _ _ ((f+0)) rfl rfl rfl (by omega) (by omega)) rfl ?_
    simp only [PA]
    refine PV (E (some ad) (f+0) c) rfl rfl ?_
    simp only [PA]
    refine wpList_nil ?_
    exact ⟨f+0,by omega,f+0,[E (some ad) m c,I (m:Int),T true,T true,E (some ad) m c,E (some ad) m c,I (m:Int),I ((f:Nat):Int),.pointer (some (ad.add f)),.int .u32 ((a:Nat):Int),T true,T true,E (some ad) m c,E (some ad) m c,I (m:Int),I (((f+0):Nat):Int),E (some ad) (f+0) c],rfl,k,by omega,trim_step (by omega) (Y▸hV) (ha.trans v),rfl⟩
   ·skip
    refine wpList_on (by kernel_rfl) fun K hK=>o_val (T false) (CT (run_bin (.int .u32 ((a:Nat):Int)) (.int .u32 0) _ rfl rfl rfl (bin_eql_100 _ _ _ _)) (congrArg Value.bool (beq_eq_false_iff_ne.2 (by omega)))) (hK _ _ ?_)
    simp only [PA]
    refine PV (T false) rfl rfl ?_
    simp only [PA]
    refine wpList_nil ?_
    refine s _ _ ?_
    refine cond_false rfl ?_
    refine wp_exit ?_
    exact ⟨m,[E (some ad) m c,I (m:Int),T true,T true,E (some ad) m c,E (some ad) m c,I (m:Int),I ((f:Nat):Int),.pointer (some (ad.add f)),.int .u32 ((a:Nat):Int),T false,T false,(GD e 12),(GD e 13),(GD e 14),(GD e 15),(GD e 16)],rfl,k,hm,by rw [← hxl]; exact trim_end hD (by omega) hV (by first | exact Or.inl (by omega) | exact Or.inr (by rw [show m - 1=f by omega,ha]; exact v)),trivial⟩
  ·skip
   refine PV (T false) (CT (run_bin (I (m:Int)) (I 0) _ rfl rfl rfl (bin_gtr_3 _ _ _ _)) (congrArg Value.bool (decide_eq_false C))) rfl ?_
   simp only [PA]
   refine PV (T false) rfl rfl ?_
   simp only [PA]
   with_reducible refine wpList_off ?_ ?_
   ·with_reducible exact wanted_off rfl rfl rfl
   simp only [PA]
   with_reducible refine wpList_off ?_ ?_
   ·with_reducible exact wanted_off rfl rfl rfl
   simp only [PA]
   with_reducible refine wpList_off ?_ ?_
   ·with_reducible exact wanted_off rfl rfl rfl
   simp only [PA]
   with_reducible refine wpList_off ?_ ?_
   ·with_reducible exact wanted_off rfl rfl rfl
   simp only [PA]
   with_reducible refine wpList_off ?_ ?_
   ·with_reducible exact wanted_off rfl rfl rfl
   simp only [PA]
   with_reducible refine wpList_off ?_ ?_
   ·with_reducible exact wanted_off rfl rfl rfl
   simp only [PA]
   with_reducible refine wpList_off ?_ ?_
   ·with_reducible exact wanted_off rfl rfl rfl
   simp only [PA]
   refine PV (T false) rfl rfl ?_
   simp only [PA]
   refine wpList_nil ?_
   refine s _ _ ?_
   refine cond_false rfl ?_
   refine wp_exit ?_
   exact ⟨m,[E (some ad) m c,I (m:Int),T false,T false,O,O,O,O,O,O,O,T false,(GD e 12),(GD e 13),(GD e 14),(GD e 15),(GD e 16)],rfl,k,hm,by rw [← hxl]; exact trim_end hD (by omega) hV (by first | exact Or.inl (by omega) | exact Or.inr (by rw [show m - 1=f by omega,ha]; exact v)),trivial⟩
 ·skip
  rintro _ av ⟨m,d,rfl,D,hm,hT,-⟩
  have o:Wds w (some ad) m c (dg x):=hT▸hx.take_ m hm
  have p:=o.len
  refine W _ _ ?_
  refine wp_seq_k fun aw F=>?_
  refine wp_seq_k fun ax G=>?_
  refine wp_region_lit ?_
  refine PV (E (some ad) m c) rfl rfl ?_
  simp only [PA]
  refine PV (I (m:Int)) (run_len36 rfl rfl) rfl ?_
  simp only [PA]
  by_cases H:((m:Int):Int)≤2
  ·skip
   refine PV (T true) (CT (run_bin (I (m:Int)) (I 2) _ rfl rfl rfl (bin_leq_3 _ _ _ _)) (congrArg Value.bool (decide_eq_true H))) rfl ?_
   simp only [PA]
   refine wpList_nil ?_
   refine G _ _ ?_
   refine cond_true rfl ?_
   refine wp_seq_k fun ay aa=>?_
   refine wp_region_lit ?_
   refine PV (J 0) rfl rfl ?_
   simp only [PA]
   refine wpList_nil ?_
   refine aa _ _ ?_
   refine wp_seq_k fun az ab=>?_
   refine wp_seq_k fun aA ac=>?_
   refine wp_region_lit ?_
   refine PV (E (some ad) m c) rfl rfl ?_
   simp only [PA]
   refine PV (I (m:Int)) (run_len36 rfl rfl) rfl ?_
   simp only [PA]
   refine PV (I (((m:Nat):Int) - 1)) (CT (run_bin (I (m:Int)) (I 1) _ rfl rfl rfl (bin_sub_3 _ _ _ _)) (vint (by rw [IntKind.wrap_i64]; omega))) rfl ?_
   simp only [PA]
   refine PV (I (((m:Nat):Int) - 1)) rfl rfl ?_
   simp only [PA]
   refine wpList_nil ?_
   refine ac _ _ ?_
   refine wp_block ?_
   refine wp_loop_g (fun mm aa_ w'=>∃ (t:Nat) (u:Nat) (h:List Value),aa_=⟨#[E (some ad) m c,T true,O,O,PT j 0,J ((u:Nat):Int),I (((t:Nat):Int) - 1),(GD d 0),(GD d 1),(GD d 2),(GD d 3),(GD d 4),(GD d 5),(GD d 6),(GD d 7),(GD d 8),(GD d 9),(GD d 10),(GD d 11),(GD d 12),(GD d 13),(GD d 14),(GD d 15),(GD d 16),E (some ad) m c,I (m:Int),T true,E (some ad) m c,I (m:Int),I (((m:Nat):Int) - 1),(GD h 0),(GD h 1),(GD h 2),(GD h 3),(GD h 4),(GD h 5),(GD h 6),(GD h 7),(GD h 8),(GD h 9),(GD h 10),(GD h 11),O,O,O,O,O,O,O,O,O,O,O,O,O],[]⟩∧St w w' [⟨j,(Z3 0 none 0 0 false),60⟩]∧(t≤m)∧(val ((dg x).drop t)=u)∧t=mm) (m) ⟨m,0,[O,O,O,O,O,O,O,O,O,O,O,O],rfl,D,Nat.le_refl _,by rw [List.drop_of_length_le (by omega)]; rfl,rfl⟩ ?_
   rintro _ _ aC ⟨t,u,h,rfl,q,htm,hu,rfl⟩
   refine wp_seq_k fun aD ae=>?_
   refine wp_seq_k fun aF L=>?_
   refine wp_region_lit ?_
   refine PV (I (((t:Nat):Int) - 1)) rfl rfl ?_
   simp only [PA]
   by_cases hge:(0:Int)≤(((t:Nat):Int) - 1)
   ·skip
    refine PV (T true) (CT (run_bin (I (((t:Nat):Int) - 1)) (I 0) _ rfl rfl rfl (bin_geq_3 _ _ _ _)) (congrArg Value.bool (decide_eq_true hge))) rfl ?_
    simp only [PA]
    refine wpList_nil ?_
    refine L _ _ ?_
    refine cond_true rfl ?_
    refine wp_skip ?_
    refine ae _ _ ?_
    refine wp_seq_k fun aG af=>?_
    refine wp_block ?_
    refine wp_region_lit ?_
    refine PV (J ((u:Nat):Int)) rfl rfl ?_
    simp only [PA]
    have huB:=drop_lt p hu (by omega)
    obtain ⟨ub,hub⟩:∃ z:Nat,u * BW=z:=⟨_,rfl⟩
    refine PV (J ((ub:Nat):Int)) (CT (run_bin (J ((u:Nat):Int)) (J 32) _ rfl rfl rfl (bin_shl_104_u64 _ _ _ _)) ((vint (w_shl32 (a:=u) huB)).trans (vnat hub))) rfl ?_
    simp only [PA]
    refine PV (E (some ad) m c) rfl rfl ?_
    simp only [PA]
    obtain ⟨g,ag⟩:∃ z,t=z+1:=⟨t - 1,by omega⟩
    refine PV (I ((g:Nat):Int)) (CT rfl (vint (by omega))) rfl ?_
    simp only [PA]
    refine PV (.pointer (some (ad.add g))) (run_idx (t:=36) rfl rfl rfl (by omega)) rfl ?_
    simp only [PA]
    obtain ⟨b,hb⟩:∃ z:Nat,(dg x).getD g 0=z:=⟨_,rfl⟩
    have hbB:b<BW:=hb▸(dg_dig x).at_ g
    refine PV (.int .u32 ((b:Nat):Int)) (CT (run_loadW _ rfl rfl ((o.below q.bl).cellA (by omega)) (ag100 _)) (vnat hb)) rfl ?_
    simp only [PA]
    refine PV (J ((b:Nat):Int)) (run_cv _ rfl rfl rfl rfl (wrap_u64 (by rw [BW_eq] at hbB; omega))) rfl ?_
    simp only [PA]
    obtain ⟨r,M⟩:∃ z:Nat,ub+b=z:=⟨_,rfl⟩
    refine PV (J ((r:Nat):Int)) (CT (run_bin (J ((ub:Nat):Int)) (J ((b:Nat):Int)) _ rfl rfl rfl (bin_or_104 _ _ _ _)) ((vint (hub▸head_or (a:=u) (b:=b) huB hbB)).trans (vnat M))) rfl ?_
    simp only [PA]
    refine PV (J ((r:Nat):Int)) rfl rfl ?_
    simp only [PA]
    refine wpList_nil ?_
    refine af _ _ ?_
    refine wp_region_lit ?_
    refine PV (I ((g:Nat):Int)) (CT rfl (vint (by omega))) rfl ?_
    simp only [PA]
    refine PV (I (((g:Nat):Int) - 1)) (CT (run_bin (I ((g:Nat):Int)) (I 1) _ rfl rfl rfl (bin_sub_3 _ _ _ _)) (vint (by rw [IntKind.wrap_i64]; omega))) rfl ?_
    simp only [PA]
    refine PV (I (((g:Nat):Int) - 1)) rfl rfl ?_
    simp only [PA]
    refine wpList_nil ?_
    exact ⟨g,by omega,g,r,[I (((t:Nat):Int) - 1),T true,I ((g:Nat):Int),I (((g:Nat):Int) - 1),J ((u:Nat):Int),J ((ub:Nat):Int),E (some ad) m c,I ((g:Nat):Int),.pointer (some (ad.add g)),.int .u32 ((b:Nat):Int),J ((b:Nat):Int),J ((r:Nat):Int)],rfl,q,by omega,by rw [drop_next p (by omega) hb (ag▸hu),hub,M],rfl⟩
   ·skip
    refine PV (T false) (CT (run_bin (I (((t:Nat):Int) - 1)) (I 0) _ rfl rfl rfl (bin_geq_3 _ _ _ _)) (congrArg Value.bool (decide_eq_false hge))) rfl ?_
    simp only [PA]
    refine wpList_nil ?_
    refine L _ _ ?_
    refine cond_false rfl ?_
    refine wp_exit ?_
    refine ab _ _ ?_
    refine wp_seq_k fun aH N=>?_
    refine wp_region_lit ?_
    have hux:u=x:=by rw [← hu,show t=0 by omega,List.drop_zero,val_dg]
    refine PV (J ((x:Nat):Int)) (CT rfl (vnat hux)) rfl ?_
    simp only [PA]
    by_cases P:(((x:Nat):Int):Int)<9223372036854775808
    ·skip
     refine PV (T true) (CT (run_bin (J ((x:Nat):Int)) (J 9223372036854775808) _ rfl rfl rfl (bin_lss_104 _ _ _ _)) (congrArg Value.bool (decide_eq_true P))) rfl ?_
     simp only [PA]
     refine wpList_nil ?_
     refine N _ _ ?_
     refine cond_true rfl ?_
     refine wp_seq_k fun aK aL=>?_
     refine wp_seq_k fun aM ah=>?_
     refine wp_region_lit ?_
     refine PV (T true) rfl rfl ?_
     simp only [PA]
     refine wpList_nil ?_
     refine ah _ _ ?_
     refine cond_true rfl ?_
     refine wp_seq_k fun aN ai=>?_
     refine wp_region_lit ?_
     refine PV (J ((x:Nat):Int)) (CT rfl (vnat hux)) rfl ?_
     simp only [PA]
     refine PV (I ((x:Nat):Int)) (run_cv _ rfl rfl rfl rfl (wrap_i64 (by omega))) rfl ?_
     simp only [PA]
     refine PV (I (-((x:Nat):Int))) (CT (run_neg ((x:Nat):Int) rfl rfl) (vint (by rw [IntKind.wrap_i64]; omega))) rfl ?_
     simp only [PA]
     refine PV (AZ (-((x:Nat):Int)) none 0 0 false) (by kernel_rfl) rfl ?_
     simp only [PA]
     refine wpList_plain rfl fun K hK=>OT 0 (Z3 (-((x:Nat):Int)) none 0 0 false) q (sz60 _) fun aP Q aQ=>hK _ _ ?_
     simp only [PA]
     refine wpList_nil ?_
     refine ai _ _ ?_
     refine wp_ret ?_
     repeat (with_reducible first | refine then_ret ?_ | refine inBlock_ret ?_)
     refine bodyPost_ret (ret60 rfl _ rfl rfl (Q.at_ _ (MI (i:=0) rfl))) rfl ?_
     exact ⟨⟨_,rfl,Zh.small _ (by omega) (by omega)⟩,Q.bl⟩
    ·skip
     refine PV (T false) (CT (run_bin (J ((x:Nat):Int)) (J 9223372036854775808) _ rfl rfl rfl (bin_lss_104 _ _ _ _)) (congrArg Value.bool (decide_eq_false P))) rfl ?_
     simp only [PA]
     refine wpList_nil ?_
     refine N _ _ ?_
     refine cond_false rfl ?_
     refine wp_skip ?_
     refine F _ _ ?_
     refine wp_seq_k fun aR aj=>?_
     refine wp_region_lit ?_
     refine PV (E (some ad) m c) rfl rfl ?_
     simp only [PA]
     refine PV (T true) rfl rfl ?_
     simp only [PA]
     refine PV (AZ 0 (some ad) m c true) (by kernel_rfl) rfl ?_
     simp only [PA]
     refine wpList_plain rfl fun K hK=>OT 0 (Z3 0 (some ad) m c true) q (sz60 _) fun aS y aU=>hK _ _ ?_
     simp only [PA]
     refine wpList_nil ?_
     refine aj _ _ ?_
     refine wp_ret ?_
     repeat (with_reducible first | refine then_ret ?_ | refine inBlock_ret ?_)
     refine bodyPost_ret (ret60 rfl _ rfl rfl (y.at_ _ (MI (i:=0) rfl))) rfl ?_
     have hbig:9223372036854775808≤x:=(by first | exact big_of_len p (by omega) | omega)
     exact ⟨⟨_,rfl,made_big (decide_eq_true (by omega)) (by omega) (o.below y.bl) hbig⟩,y.bl⟩
  ·skip
   refine PV (T false) (CT (run_bin (I (m:Int)) (I 2) _ rfl rfl rfl (bin_leq_3 _ _ _ _)) (congrArg Value.bool (decide_eq_false H))) rfl ?_
   simp only [PA]
   refine wpList_nil ?_
   refine G _ _ ?_
   refine cond_false rfl ?_
   refine wp_skip ?_
   refine F _ _ ?_
   refine wp_seq_k fun aV al=>?_
   refine wp_region_lit ?_
   refine PV (E (some ad) m c) rfl rfl ?_
   simp only [PA]
   refine PV (T true) rfl rfl ?_
   simp only [PA]
   refine PV (AZ 0 (some ad) m c true) (by kernel_rfl) rfl ?_
   simp only [PA]
   refine wpList_plain rfl fun K hK=>OT 0 (Z3 0 (some ad) m c true) D (sz60 _) fun aW A aX=>hK _ _ ?_
   simp only [PA]
   refine wpList_nil ?_
   refine al _ _ ?_
   refine wp_ret ?_
   repeat (with_reducible first | refine then_ret ?_ | refine inBlock_ret ?_)
   refine bodyPost_ret (ret60 rfl _ rfl rfl (A.at_ _ (MI (i:=0) rfl))) rfl ?_
   have hbig:9223372036854775808≤x:=(by first | exact big_of_len p (by omega) | omega)
   exact ⟨⟨_,rfl,made_big (decide_eq_true (by omega)) (by omega) (o.below A.bl) hbig⟩,A.bl⟩
set_option maxRecDepth 100000 in
set_option maxHeartbeats 4000000 in
theorem made_some_f {ad:Addr} {n c x:Nat} {l:List Nat} {w:World} (hx:Wds w (some ad) n c l) (hD:Dig l) (hxl:val l=x) (hln:l.length=n) (hnc:n≤c) (hn:n≤9223372036854775807):Calls Try.prog 112 (W2 (some ad) n c false) w (RetZ w ((x:Nat):Int)):=by
 go_enter Try.func112,Try.ntmps112
 have R:=St.start w
 refine wp_seq_k fun K1 S=>?_
 refine wp_region_lit ?_
 refine wpList_plain rfl fun K hK=>o_alloc (Z3 0 none 0 0 false) _ rfl (zv60 _) rfl rfl R fun j w4 V u6=>hK _ _ ?_
 simp only [PA]
 refine wpList_nil ?_
 refine S _ _ ?_
 refine wp_seq_k fun K7 W=>?_
 refine wp_cut (fun aa_ w'=>∃ (m:Nat) (d:List Value),aa_=⟨#[E (some ad) m c,T false,O,O,PT j 0,O,O,(GD d 0),(GD d 1),(GD d 2),(GD d 3),(GD d 4),(GD d 5),(GD d 6),(GD d 7),(GD d 8),(GD d 9),(GD d 10),(GD d 11),(GD d 12),(GD d 13),(GD d 14),(GD d 15),(GD d 16),O,O,O,O,O,O,O,O,O,O,O,O,O,O,O,O,O,O,O,O,O,O,O,O,O,O,O,O,O,O,O],[]⟩∧St w w' [⟨j,(Z3 0 none 0 0 false),60⟩]∧(m≤n)∧(l.take m=dg x)∧True) ?_ ?_
 ·refine wp_block ?_
  refine wp_loop_g (fun mm aa_ w'=>∃ (m:Nat) (e:List Value),aa_=⟨#[E (some ad) m c,T false,O,O,PT j 0,O,O,(GD e 0),(GD e 1),(GD e 2),(GD e 3),(GD e 4),(GD e 5),(GD e 6),(GD e 7),(GD e 8),(GD e 9),(GD e 10),(GD e 11),(GD e 12),(GD e 13),(GD e 14),(GD e 15),(GD e 16),O,O,O,O,O,O,O,O,O,O,O,O,O,O,O,O,O,O,O,O,O,O,O,O,O,O,O,O,O,O,O],[]⟩∧St w w' [⟨j,(Z3 0 none 0 0 false),60⟩]∧(m≤n)∧(val (l.take m)=val l)∧m=mm) (n) ⟨n,[O,O,O,O,O,O,O,O,O,O,O,O,O,O,O,O,O],rfl,V,Nat.le_refl _,by rw [List.take_of_length_le (by omega)],rfl⟩ ?_
  rintro _ _ ar ⟨m,e,rfl,k,hm,hV,rfl⟩
  refine wp_seq_k fun au X=>?_
  refine wp_seq_k fun av s=>?_
  refine wp_region_lit ?_
  refine PV (E (some ad) m c) rfl rfl ?_
  simp only [PA]
  refine PV (I (m:Int)) (run_len36 rfl rfl) rfl ?_
  simp only [PA]
  by_cases C:(0:Int)<(m:Int)
  ·skip
   refine PV (T true) (CT (run_bin (I (m:Int)) (I 0) _ rfl rfl rfl (bin_gtr_3 _ _ _ _)) (congrArg Value.bool (decide_eq_true C))) rfl ?_
   simp only [PA]
   refine PV (T true) rfl rfl ?_
   simp only [PA]
   refine wpList_on (by kernel_rfl) fun K hK=>o_val (E (some ad) m c) rfl (hK _ _ ?_)
   simp only [PA]
   refine wpList_on (by kernel_rfl) fun K hK=>o_val (E (some ad) m c) rfl (hK _ _ ?_)
   simp only [PA]
   refine wpList_on (by kernel_rfl) fun K hK=>o_val (I (m:Int)) (run_len36 rfl rfl) (hK _ _ ?_)
   simp only [PA]
   obtain ⟨f,Y⟩:∃ z,m=z+1:=⟨m - 1,by omega⟩
   refine wpList_on (by kernel_rfl) fun K hK=>o_val (I ((f:Nat):Int)) (CT (run_bin (I (m:Int)) (I 1) _ rfl rfl rfl (bin_sub_3 _ _ _ _)) (vint (by rw [IntKind.wrap_i64]; omega))) (hK _ _ ?_)
   simp only [PA]
   refine wpList_on (by kernel_rfl) fun K hK=>o_val (.pointer (some (ad.add f))) (run_idx (t:=36) rfl rfl rfl (by omega)) (hK _ _ ?_)
   simp only [PA]
   obtain ⟨a,ha⟩:∃ z:Nat,l.getD f 0=z:=⟨_,rfl⟩
   refine wpList_on (by kernel_rfl) fun K hK=>o_val (.int .u32 ((a:Nat):Int)) (CT (run_loadW _ rfl rfl ((hx.below k.bl).cellA (by omega)) (ag100 _)) (vnat ha)) (hK _ _ ?_)
   simp only [PA]
   by_cases v:a=0
   ·skip
    refine wpList_on (by kernel_rfl) fun K hK=>o_val (T true) (CT (run_bin (.int .u32 ((a:Nat):Int)) (.int .u32 0) _ rfl rfl rfl (bin_eql_100 _ _ _ _)) (congrArg Value.bool (beq_iff_eq.2 (by omega)))) (hK _ _ ?_)
    simp only [PA]
    refine PV (T true) rfl rfl ?_
    simp only [PA]
    refine wpList_nil ?_
    refine s _ _ ?_
    refine cond_true rfl ?_
    refine wp_skip ?_
    refine X _ _ ?_
    refine wp_block ?_
    refine wp_region_lit ?_
    refine PV (E (some ad) m c) rfl rfl ?_
    simp only [PA]
    refine PV (E (some ad) m c) rfl rfl ?_
    simp only [PA]
    refine PV (I (m:Int)) (run_len36 rfl rfl) rfl ?_
    simp only [PA]
    refine PV (I (((f+0):Nat):Int)) (CT (run_bin (I (m:Int)) (I 1) _ rfl rfl rfl (bin_sub_3 _ _ _ _)) (vint (by rw [IntKind.wrap_i64]; omega))) rfl ?_
    simp only [PA]
    refine PV (E (some ad) (f+0) c) (run_slcPre _ _ _ _ _ _ _ _ ((f+0)) rfl rfl rfl (by omega) (by omega)) rfl ?_
    simp only [PA]
    refine PV (E (some ad) (f+0) c) rfl rfl ?_
    simp only [PA]
    refine wpList_nil ?_
    exact ⟨f+0,by omega,f+0,[E (some ad) m c,I (m:Int),T true,T true,E (some ad) m c,E (some ad) m c,I (m:Int),I ((f:Nat):Int),.pointer (some (ad.add f)),.int .u32 ((a:Nat):Int),T true,T true,E (some ad) m c,E (some ad) m c,I (m:Int),I (((f+0):Nat):Int),E (some ad) (f+0) c],rfl,k,by omega,trim_step (by omega) (Y▸hV) (ha.trans v),rfl⟩
   ·skip
    refine wpList_on (by kernel_rfl) fun K hK=>o_val (T false) (CT (run_bin (.int .u32 ((a:Nat):Int)) (.int .u32 0) _ rfl rfl rfl (bin_eql_100 _ _ _ _)) (congrArg Value.bool (beq_eq_false_iff_ne.2 (by omega)))) (hK _ _ ?_)
    simp only [PA]
    refine PV (T false) rfl rfl ?_
    simp only [PA]
    refine wpList_nil ?_
    refine s _ _ ?_
    refine cond_false rfl ?_
    refine wp_exit ?_
    exact ⟨m,[E (some ad) m c,I (m:Int),T true,T true,E (some ad) m c,E (some ad) m c,I (m:Int),I ((f:Nat):Int),.pointer (some (ad.add f)),.int .u32 ((a:Nat):Int),T false,T false,(GD e 12),(GD e 13),(GD e 14),(GD e 15),(GD e 16)],rfl,k,hm,by rw [← hxl]; exact trim_end hD (by omega) hV (by first | exact Or.inl (by omega) | exact Or.inr (by rw [show m - 1=f by omega,ha]; exact v)),trivial⟩
  ·skip
   refine PV (T false) (CT (run_bin (I (m:Int)) (I 0) _ rfl rfl rfl (bin_gtr_3 _ _ _ _)) (congrArg Value.bool (decide_eq_false C))) rfl ?_
   simp only [PA]
   refine PV (T false) rfl rfl ?_
   simp only [PA]
   with_reducible refine wpList_off ?_ ?_
   ·with_reducible exact wanted_off rfl rfl rfl
   simp only [PA]
   with_reducible refine wpList_off ?_ ?_
   ·with_reducible exact wanted_off rfl rfl rfl
   simp only [PA]
   with_reducible refine wpList_off ?_ ?_
   ·with_reducible exact wanted_off rfl rfl rfl
   simp only [PA]
   with_reducible refine wpList_off ?_ ?_
   ·with_reducible exact wanted_off rfl rfl rfl
   simp only [PA]
   with_reducible refine wpList_off ?_ ?_
   ·with_reducible exact wanted_off rfl rfl rfl
   simp only [PA]
   with_reducible refine wpList_off ?_ ?_
   ·with_reducible exact wanted_off rfl rfl rfl
   simp only [PA]
   with_reducible refine wpList_off ?_ ?_
   ·with_reducible exact wanted_off rfl rfl rfl
   simp only [PA]
   refine PV (T false) rfl rfl ?_
   simp only [PA]
   refine wpList_nil ?_
   refine s _ _ ?_
   refine cond_false rfl ?_
   refine wp_exit ?_
   exact ⟨m,[E (some ad) m c,I (m:Int),T false,T false,O,O,O,O,O,O,O,T false,(GD e 12),(GD e 13),(GD e 14),(GD e 15),(GD e 16)],rfl,k,hm,by rw [← hxl]; exact trim_end hD (by omega) hV (by first | exact Or.inl (by omega) | exact Or.inr (by rw [show m - 1=f by omega,ha]; exact v)),trivial⟩
 ·skip
  rintro _ aw ⟨m,d,rfl,D,hm,hT,-⟩
  have o:Wds w (some ad) m c (dg x):=hT▸hx.take_ m hm
  have p:=o.len
  refine W _ _ ?_
  refine wp_seq_k fun ax F=>?_
  refine wp_seq_k fun ay G=>?_
  refine wp_region_lit ?_
  refine PV (E (some ad) m c) rfl rfl ?_
  simp only [PA]
  refine PV (I (m:Int)) (run_len36 rfl rfl) rfl ?_
  simp only [PA]
  by_cases H:((m:Int):Int)≤2
  ·skip
   refine PV (T true) (CT (run_bin (I (m:Int)) (I 2) _ rfl rfl rfl (bin_leq_3 _ _ _ _)) (congrArg Value.bool (decide_eq_true H))) rfl ?_
   simp only [PA]
   refine wpList_nil ?_
   refine G _ _ ?_
   refine cond_true rfl ?_
   refine wp_seq_k fun az aa=>?_
   refine wp_region_lit ?_
   refine PV (J 0) rfl rfl ?_
   simp only [PA]
   refine wpList_nil ?_
   refine aa _ _ ?_
   refine wp_seq_k fun aA ab=>?_
   refine wp_seq_k fun aC ac=>?_
   refine wp_region_lit ?_
   refine PV (E (some ad) m c) rfl rfl ?_
   simp only [PA]
   refine PV (I (m:Int)) (run_len36 rfl rfl) rfl ?_
   simp only [PA]
   refine PV (I (((m:Nat):Int) - 1)) (CT (run_bin (I (m:Int)) (I 1) _ rfl rfl rfl (bin_sub_3 _ _ _ _)) (vint (by rw [IntKind.wrap_i64]; omega))) rfl ?_
   simp only [PA]
   refine PV (I (((m:Nat):Int) - 1)) rfl rfl ?_
   simp only [PA]
   refine wpList_nil ?_
   refine ac _ _ ?_
   refine wp_block ?_
   refine wp_loop_g (fun mm aa_ w'=>∃ (t:Nat) (u:Nat) (h:List Value),aa_=⟨#[E (some ad) m c,T false,O,O,PT j 0,J ((u:Nat):Int),I (((t:Nat):Int) - 1),(GD d 0),(GD d 1),(GD d 2),(GD d 3),(GD d 4),(GD d 5),(GD d 6),(GD d 7),(GD d 8),(GD d 9),(GD d 10),(GD d 11),(GD d 12),(GD d 13),(GD d 14),(GD d 15),(GD d 16),E (some ad) m c,I (m:Int),T true,E (some ad) m c,I (m:Int),I (((m:Nat):Int) - 1),(GD h 0),(GD h 1),(GD h 2),(GD h 3),(GD h 4),(GD h 5),(GD h 6),(GD h 7),(GD h 8),(GD h 9),(GD h 10),(GD h 11),O,O,O,O,O,O,O,O,O,O,O,O,O],[]⟩∧St w w' [⟨j,(Z3 0 none 0 0 false),60⟩]∧(t≤m)∧(val ((dg x).drop t)=u)∧t=mm) (m) ⟨m,0,[O,O,O,O,O,O,O,O,O,O,O,O],rfl,D,Nat.le_refl _,by rw [List.drop_of_length_le (by omega)]; rfl,rfl⟩ ?_
   rintro _ _ aD ⟨t,u,h,rfl,q,htm,hu,rfl⟩
   refine wp_seq_k fun aF ae=>?_
   refine wp_seq_k fun aG L=>?_
   refine wp_region_lit ?_
   refine PV (I (((t:Nat):Int) - 1)) rfl rfl ?_
   simp only [PA]
   by_cases hge:(0:Int)≤(((t:Nat):Int) - 1)
   ·skip
    refine PV (T true) (CT (run_bin (I (((t:Nat):Int) - 1)) (I 0) _ rfl rfl rfl (bin_geq_3 _ _ _ _)) (congrArg Value.bool (decide_eq_true hge))) rfl ?_
    simp only [PA]
    refine wpList_nil ?_
    refine L _ _ ?_
    refine cond_true rfl ?_
    refine wp_skip ?_
    refine ae _ _ ?_
    refine wp_seq_k fun aH af=>?_
    refine wp_block ?_
    refine wp_region_lit ?_
    refine PV (J ((u:Nat):Int)) rfl rfl ?_
    simp only [PA]
    have huB:=drop_lt p hu (by omega)
    obtain ⟨ub,hub⟩:∃ z:Nat,u * BW=z:=⟨_,rfl⟩
    refine PV (J ((ub:Nat):Int)) (CT (run_bin (J ((u:Nat):Int)) (J 32) _ rfl rfl rfl (bin_shl_104_u64 _ _ _ _)) ((vint (w_shl32 (a:=u) huB)).trans (vnat hub))) rfl ?_
    simp only [PA]
    refine PV (E (some ad) m c) rfl rfl ?_
    simp only [PA]
    obtain ⟨g,ag⟩:∃ z,t=z+1:=⟨t - 1,by omega⟩
    refine PV (I ((g:Nat):Int)) (CT rfl (vint (by omega))) rfl ?_
    simp only [PA]
    refine PV (.pointer (some (ad.add g))) (run_idx (t:=36) rfl rfl rfl (by omega)) rfl ?_
    simp only [PA]
    obtain ⟨b,hb⟩:∃ z:Nat,(dg x).getD g 0=z:=⟨_,rfl⟩
    have hbB:b<BW:=hb▸(dg_dig x).at_ g
    refine PV (.int .u32 ((b:Nat):Int)) (CT (run_loadW _ rfl rfl ((o.below q.bl).cellA (by omega)) (ag100 _)) (vnat hb)) rfl ?_
    simp only [PA]
    refine PV (J ((b:Nat):Int)) (run_cv _ rfl rfl rfl rfl (wrap_u64 (by rw [BW_eq] at hbB; omega))) rfl ?_
    simp only [PA]
    obtain ⟨r,M⟩:∃ z:Nat,ub+b=z:=⟨_,rfl⟩
    refine PV (J ((r:Nat):Int)) (CT (run_bin (J ((ub:Nat):Int)) (J ((b:Nat):Int)) _ rfl rfl rfl (bin_or_104 _ _ _ _)) ((vint (hub▸head_or (a:=u) (b:=b) huB hbB)).trans (vnat M))) rfl ?_
    simp only [PA]
    refine PV (J ((r:Nat):Int)) rfl rfl ?_
    simp only [PA]
    refine wpList_nil ?_
    refine af _ _ ?_
    refine wp_region_lit ?_
    refine PV (I ((g:Nat):Int)) (CT rfl (vint (by omega))) rfl ?_
    simp only [PA]
    refine PV (I (((g:Nat):Int) - 1)) (CT (run_bin (I ((g:Nat):Int)) (I 1) _ rfl rfl rfl (bin_sub_3 _ _ _ _)) (vint (by rw [IntKind.wrap_i64]; omega))) rfl ?_
    simp only [PA]
    refine PV (I (((g:Nat):Int) - 1)) rfl rfl ?_
    simp only [PA]
    refine wpList_nil ?_
    exact ⟨g,by omega,g,r,[I (((t:Nat):Int) - 1),T true,I ((g:Nat):Int),I (((g:Nat):Int) - 1),J ((u:Nat):Int),J ((ub:Nat):Int),E (some ad) m c,I ((g:Nat):Int),.pointer (some (ad.add g)),.int .u32 ((b:Nat):Int),J ((b:Nat):Int),J ((r:Nat):Int)],rfl,q,by omega,by rw [drop_next p (by omega) hb (ag▸hu),hub,M],rfl⟩
   ·skip
    refine PV (T false) (CT (run_bin (I (((t:Nat):Int) - 1)) (I 0) _ rfl rfl rfl (bin_geq_3 _ _ _ _)) (congrArg Value.bool (decide_eq_false hge))) rfl ?_
    simp only [PA]
    refine wpList_nil ?_
    refine L _ _ ?_
    refine cond_false rfl ?_
    refine wp_exit ?_
    refine ab _ _ ?_
    refine wp_seq_k fun aK N=>?_
    refine wp_region_lit ?_
    have hux:u=x:=by rw [← hu,show t=0 by omega,List.drop_zero,val_dg]
    refine PV (J ((x:Nat):Int)) (CT rfl (vnat hux)) rfl ?_
    simp only [PA]
    by_cases P:(((x:Nat):Int):Int)<9223372036854775808
    ·skip
     refine PV (T true) (CT (run_bin (J ((x:Nat):Int)) (J 9223372036854775808) _ rfl rfl rfl (bin_lss_104 _ _ _ _)) (congrArg Value.bool (decide_eq_true P))) rfl ?_
     simp only [PA]
     refine wpList_nil ?_
     refine N _ _ ?_
     refine cond_true rfl ?_
     refine wp_seq_k fun aL ah=>?_
     refine wp_seq_k fun aM ai=>?_
     refine wp_region_lit ?_
     refine PV (T false) rfl rfl ?_
     simp only [PA]
     refine wpList_nil ?_
     refine ai _ _ ?_
     refine cond_false rfl ?_
     refine wp_skip ?_
     refine ah _ _ ?_
     refine wp_seq_k fun aN aj=>?_
     refine wp_region_lit ?_
     refine PV (J ((x:Nat):Int)) (CT rfl (vnat hux)) rfl ?_
     simp only [PA]
     refine PV (I ((x:Nat):Int)) (run_cv _ rfl rfl rfl rfl (wrap_i64 (by omega))) rfl ?_
     simp only [PA]
     refine PV (AZ ((x:Nat):Int) none 0 0 false) (by kernel_rfl) rfl ?_
     simp only [PA]
     refine wpList_plain rfl fun K hK=>OT 0 (Z3 ((x:Nat):Int) none 0 0 false) q (sz60 _) fun aP Q aQ=>hK _ _ ?_
     simp only [PA]
     refine wpList_nil ?_
     refine aj _ _ ?_
     refine wp_ret ?_
     repeat (with_reducible first | refine then_ret ?_ | refine inBlock_ret ?_)
     refine bodyPost_ret (ret60 rfl _ rfl rfl (Q.at_ _ (MI (i:=0) rfl))) rfl ?_
     exact ⟨⟨_,rfl,Zh.small _ (by omega) (by omega)⟩,Q.bl⟩
    ·skip
     refine PV (T false) (CT (run_bin (J ((x:Nat):Int)) (J 9223372036854775808) _ rfl rfl rfl (bin_lss_104 _ _ _ _)) (congrArg Value.bool (decide_eq_false P))) rfl ?_
     simp only [PA]
     refine wpList_nil ?_
     refine N _ _ ?_
     refine cond_false rfl ?_
     refine wp_skip ?_
     refine F _ _ ?_
     refine wp_seq_k fun aR al=>?_
     refine wp_region_lit ?_
     refine PV (E (some ad) m c) rfl rfl ?_
     simp only [PA]
     refine PV (T false) rfl rfl ?_
     simp only [PA]
     refine PV (AZ 0 (some ad) m c false) (by kernel_rfl) rfl ?_
     simp only [PA]
     refine wpList_plain rfl fun K hK=>OT 0 (Z3 0 (some ad) m c false) q (sz60 _) fun aS y aU=>hK _ _ ?_
     simp only [PA]
     refine wpList_nil ?_
     refine al _ _ ?_
     refine wp_ret ?_
     repeat (with_reducible first | refine then_ret ?_ | refine inBlock_ret ?_)
     refine bodyPost_ret (ret60 rfl _ rfl rfl (y.at_ _ (MI (i:=0) rfl))) rfl ?_
     exact ⟨⟨_,rfl,made_big (decide_eq_false (by omega)) (by omega) (o.below y.bl) (by first | exact big_of_len p (by omega) | omega)⟩,y.bl⟩
  ·skip
   refine PV (T false) (CT (run_bin (I (m:Int)) (I 2) _ rfl rfl rfl (bin_leq_3 _ _ _ _)) (congrArg Value.bool (decide_eq_false H))) rfl ?_
   simp only [PA]
   refine wpList_nil ?_
   refine G _ _ ?_
   refine cond_false rfl ?_
   refine wp_skip ?_
   refine F _ _ ?_
   refine wp_seq_k fun aV am=>?_
   refine wp_region_lit ?_
   refine PV (E (some ad) m c) rfl rfl ?_
   simp only [PA]
   refine PV (T false) rfl rfl ?_
   simp only [PA]
   refine PV (AZ 0 (some ad) m c false) (by kernel_rfl) rfl ?_
   simp only [PA]
   refine wpList_plain rfl fun K hK=>OT 0 (Z3 0 (some ad) m c false) D (sz60 _) fun aW A aX=>hK _ _ ?_
   simp only [PA]
   refine wpList_nil ?_
   refine am _ _ ?_
   refine wp_ret ?_
   repeat (with_reducible first | refine then_ret ?_ | refine inBlock_ret ?_)
   refine bodyPost_ret (ret60 rfl _ rfl rfl (A.at_ _ (MI (i:=0) rfl))) rfl ?_
   exact ⟨⟨_,rfl,made_big (decide_eq_false (by omega)) (by omega) (o.below A.bl) (by first | exact big_of_len p (by omega) | omega)⟩,A.bl⟩
theorem made_c {A : Option Addr} {n c x : Nat} {l : List Nat} {b : Bool} {w : World} (h : Wds w A n c l) (hD : Dig l) (hx : val l = x) : Calls Try.prog 112 #[.slice A n c, .bool b] w (RetZ w (if b = true then -((x : Nat) : Int) else ((x : Nat) : Int))) := by
 have hl := h.len
 cases A with
 | none =>
  obtain rfl : n = 0 := by
   rcases Nat.eq_zero_or_pos n with h0 | h0
   ·exact h0
   ·obtain ⟨ad, e, _⟩ := h.1.2.2 h0; cases e
  obtain rfl : l = [] := List.length_eq_zero_iff.1 hl
  obtain rfl : x = 0 := hx.symm
  cases b
  ·exact made_none_f
  ·exact made_none_t
 | some ad =>
  cases b
  ·exact made_some_f h hD hx hl h.2 h.mx
  ·exact made_some_t h hD hx hl h.2 h.mx
end Go.Proofs.Ythhgjloephkpaaa
