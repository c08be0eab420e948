/- Words and walks for the row RowRatLeast, put together: RSM, RT, RW, RY, RIS, RZA. -/
import Derived.Test.YthhgjloephkpaaaLe7
import Derived.Test.YthhgjloephkpaaaLe6
import Derived.Test.YthhgjloephkpaaaLe10
import Derived.Test.YthhgjloephkpaaaLe11
import Derived.Test.YthhgjloephkpaaaLe8
namespace Go.Proofs.Ythhgjloephkpaaa
set_option linter.unusedVariables false
set_option linter.unusedSimpArgs false
open Go Go.RowKit Go.Proofs.YthhgjloephkpaaaW.PrintWords Go.Proofs.YthhgjloephkpaaaW.PrintLast
theorem pow32 (i : Nat) : 2 ^ (32 * i) = BW ^ i := by rw [Nat.pow_mul]; rfl
theorem or_lay {u a i : Nat} (hi : i ≤ 1) (hu : u < BW ^ i) (ha : a < BW) : bits .or .u64 ((u : Nat) : Int) ((a * 2 ^ (32 * i) : Nat) : Int) = ((u + a * 2 ^ (32 * i) : Nat) : Int) := by
 have h2 : a * 2 ^ (32 * i) ≤ a * 2 ^ 32 := Nat.mul_le_mul_left _ (Nat.pow_le_pow_right (by omega) (by omega))
 have h3 : BW ^ i ≤ BW ^ 1 := Nat.pow_le_pow_right BW_pos hi
 rw [Nat.pow_one] at h3
 rw [bits_or_u64_nat _ _ (by rw [BW_eq] at *; omega) (by rw [BW_eq] at *; omega)]
 congr 1
 rw [← pow32] at hu
 rw [Nat.mul_comm a]
 exact or_add (s := 32 * i) (o := u) (q := a) hu
theorem w_mul32 {i : Nat} (h : i ≤ 1) : IntKind.u64.wrap ((32 : Int) * ((i : Nat) : Int)) = ((32 * i : Nat) : Int) := by
 rw [show (32 : Int) * (i : Int) = ((32 * i : Nat) : Int) from by omega]; exact wrap64 (by omega)
theorem small_no {z : Int} {n : Nat} (hl : (dg z.natAbs).length = n) (hn : 2 < n) : ¬ (-9223372036854775808 ≤ z ∧ z < 9223372036854775808) := by
 intro h
 have h1 : z.natAbs < BW ^ 2 := by rw [show BW ^ 2 = 18446744073709551616 from by decide]; omega
 have := dg_len_le h1
 omega
theorem small_step {z i n a u : Nat} (hl : (dg z).length = n) (hi : i < n) (ha : (dg z).getD i 0 = a) (hu : val ((dg z).take i) = u) : val ((dg z).take (i + 1)) = u + a * 2 ^ (32 * i) := by
 subst ha hu
 rw [val_take_step, pow32, Nat.mul_comm]
theorem small_lt {z i u : Nat} (hu : val ((dg z).take i) = u) : u < BW ^ i := by
 subst hu
 have h := val_lt ((dg_dig z).take i)
 have h2 : BW ^ ((dg z).take i).length ≤ BW ^ i := Nat.pow_le_pow_right BW_pos (by rw [List.length_take]; omega)
 omega
theorem small_end {z i n u : Nat} (hl : (dg z).length = n) (hi : i ≤ n) (hn : n ≤ i) (hu : val ((dg z).take i) = u) : u = z := by
 subst hu
 rw [val_take_le (by omega), val_dg]
theorem small_neg {z : Int} {u : Nat} (hu : u = z.natAbs) (hz : z < 0) : (decide (((u : Nat) : Int) ≤ 9223372036854775808) = true ↔ -9223372036854775808 ≤ z ∧ z < 9223372036854775808) ∧ (decide (((u : Nat) : Int) ≤ 9223372036854775808) = true → IntKind.i64.wrap (IntKind.u64.wrap (-((u : Nat) : Int))) = z) := by
 rw [decide_eq_true_iff, IntKind.wrap_i64, IntKind.wrap_u64]
 omega
theorem small_pos {z : Int} {u : Nat} (hu : u = z.natAbs) (hz : ¬ z < 0) : (decide (((u : Nat) : Int) < 9223372036854775808) = true ↔ -9223372036854775808 ≤ z ∧ z < 9223372036854775808) ∧ (decide (((u : Nat) : Int) < 9223372036854775808) = true → IntKind.i64.wrap ((u : Nat) : Int) = z) := by
 rw [decide_eq_true_iff, IntKind.wrap_i64]
 omega
set_option maxRecDepth 100000 in
set_option maxHeartbeats 2000000 in
theorem small_some_t {ad:Addr} {n c:Nat} {z:Int} {w:World} (hx:Wds w (some ad) n c (dg z.natAbs)) (sg:decide (z<0)=true) (hzl:(dg z.natAbs).length=n) (hnm:n≤9223372036854775807) (hn:n≤2):Calls Try.prog 70 #[AW (some ad) n c true] w (RetIB w z):=by
 go_enter Try.func70,Try.ntmps70
 have l:=St.start w
 refine wp_seq_k fun F o=>?_
 refine wp_region_lit ?_
 refine wpList_plain rfl fun K hK=>o_box (W2 (some ad) n c true) rfl rfl rfl l fun d G g H=>hK _ _ ?_
 simp only [PA]
 refine PV (I 0) rfl rfl ?_
 simp only [PA]
 refine PV (T false) rfl rfl ?_
 simp only [PA]
 refine wpList_nil ?_
 refine o _ _ ?_
 refine wp_seq_k fun L p=>?_
 refine wp_seq_k fun M q=>?_
 refine wp_region_lit ?_
 refine PV (PT d 0) (by kernel_rfl) rfl ?_
 simp only [PA]
 refine PV (E (some ad) n c) (run_load1 (E (some ad) n c) rfl rfl (g.at_ _ (MI (i:=0) rfl)) rfl (ag36 _)) rfl ?_
 simp only [PA]
 refine PV (I (n:Int)) (run_len36 rfl rfl) rfl ?_
 simp only [PA]
 refine PV (T false) (CT (run_bin (I (n:Int)) (I 2) _ rfl rfl rfl (bin_gtr_3 _ _ _ _)) (congrArg Value.bool (decide_eq_false (by omega)))) rfl ?_
 simp only [PA]
 refine wpList_nil ?_
 refine q _ _ ?_
 refine cond_false rfl ?_
 refine wp_skip ?_
 refine p _ _ ?_
 refine wp_seq_k fun N r=>?_
 refine wp_region_lit ?_
 refine PV (J 0) rfl rfl ?_
 simp only [PA]
 refine wpList_nil ?_
 refine r _ _ ?_
 refine wp_seq_k fun P v=>?_
 refine wp_seq_k fun Q x=>?_
 refine wp_region_lit ?_
 refine PV (I 0) rfl rfl ?_
 simp only [PA]
 refine wpList_nil ?_
 refine x _ _ ?_
 refine wp_block ?_
 refine wp_loop_g (fun mm aa_ w'=>∃ (i:Nat) (u:Nat) (b:List Value),aa_=⟨#[AW (some ad) n c true,PT d 0,I 0,T false,J ((u:Nat):Int),I ((i:Nat):Int),PT d 0,E (some ad) n c,I (n:Int),T false,(GD b 0),(GD b 1),(GD b 2),(GD b 3),(GD b 4),(GD b 5),(GD b 6),(GD b 7),(GD b 8),(GD b 9),(GD b 10),(GD b 11),(GD b 12),(GD b 13),(GD b 14),(GD b 15),(GD b 16),(GD b 17),(GD b 18),O,O,O,O,O,O,O,O,O,O,O],[]⟩∧St w w' [⟨d,(W2 (some ad) n c true),38⟩]∧(i≤n)∧(val ((dg z.natAbs).take i)=u)∧n - i=mm) (n) ⟨0,0,[O,O,O,O,O,O,O,O,O,O,O,O,O,O,O,O,O,O,O],rfl,g,by omega,rfl,rfl⟩ ?_
 rintro _ _ R ⟨i,u,b,rfl,e,hin,hu,rfl⟩
 refine wp_seq_k fun S y=>?_
 refine wp_seq_k fun V h=>?_
 refine wp_region_lit ?_
 refine PV (I ((i:Nat):Int)) rfl rfl ?_
 simp only [PA]
 refine PV (PT d 0) (by kernel_rfl) rfl ?_
 simp only [PA]
 refine PV (E (some ad) n c) (run_load1 (E (some ad) n c) rfl rfl (e.at_ _ (MI (i:=0) rfl)) rfl (ag36 _)) rfl ?_
 simp only [PA]
 refine PV (I (n:Int)) (run_len36 rfl rfl) rfl ?_
 simp only [PA]
 by_cases hil:(((i:Nat):Int):Int)<(n:Int)
 ·skip
  refine PV (T true) (CT (run_bin (I ((i:Nat):Int)) (I (n:Int)) _ rfl rfl rfl (bin_lss_3 _ _ _ _)) (congrArg Value.bool (decide_eq_true hil))) rfl ?_
  simp only [PA]
  refine wpList_nil ?_
  refine h _ _ ?_
  refine cond_true rfl ?_
  refine wp_skip ?_
  refine y _ _ ?_
  refine wp_seq_k fun W A=>?_
  refine wp_block ?_
  refine wp_region_lit ?_
  refine PV (J ((u:Nat):Int)) rfl rfl ?_
  simp only [PA]
  refine PV (PT d 0) (by kernel_rfl) rfl ?_
  simp only [PA]
  refine PV (E (some ad) n c) (run_load1 (E (some ad) n c) rfl rfl (e.at_ _ (MI (i:=0) rfl)) rfl (ag36 _)) rfl ?_
  simp only [PA]
  refine PV (I ((i:Nat):Int)) rfl rfl ?_
  simp only [PA]
  refine PV (.pointer (some (ad.add i))) (run_idx (t:=36) rfl rfl rfl (by omega)) rfl ?_
  simp only [PA]
  obtain ⟨a,ha⟩:∃ t:Nat,(dg z.natAbs).getD i 0=t:=⟨_,rfl⟩
  have haB:a<BW:=ha▸(dg_dig _).at_ i
  have j:i≤1:=by omega
  have huB:=small_lt hu
  refine PV (.int .u32 ((a:Nat):Int)) (CT (run_loadW _ rfl rfl ((hx.below e.bl).cellA (by omega)) (ag100 _)) (vnat ha)) rfl ?_
  simp only [PA]
  refine PV (J ((a:Nat):Int)) (run_cv _ rfl rfl rfl rfl (wrap_u64 (by rw [BW_eq] at haB; omega))) rfl ?_
  simp only [PA]
  refine PV (I ((i:Nat):Int)) rfl rfl ?_
  simp only [PA]
  refine PV (J ((i:Nat):Int)) (run_cv _ rfl rfl rfl rfl (wrap_u64 (by omega))) rfl ?_
  simp only [PA]
  refine PV (J ((32 * i:Nat):Int)) (CT (run_bin (J 32) (J ((i:Nat):Int)) _ rfl rfl rfl (bin_mul_106 _ _ _ _)) (vint (w_mul32 j))) rfl ?_
  simp only [PA]
  refine PV (J ((a * 2 ^ (32 * i):Nat):Int)) (CT (run_bin (J ((a:Nat):Int)) (J ((32 * i:Nat):Int)) _ rfl rfl rfl (bin_shl_104_u64 _ _ _ _)) (vint (w_shl_s (a:=a) (s:=32 * i) haB (by omega)))) rfl ?_
  simp only [PA]
  obtain ⟨f,k⟩:∃ t:Nat,u+a * 2 ^ (32 * i)=t:=⟨_,rfl⟩
  refine PV (J ((f:Nat):Int)) (CT (run_bin (J ((u:Nat):Int)) (J ((a * 2 ^ (32 * i):Nat):Int)) _ rfl rfl rfl (bin_or_104 _ _ _ _)) ((vint (or_lay j huB haB)).trans (vnat k))) rfl ?_
  simp only [PA]
  refine PV (J ((f:Nat):Int)) rfl rfl ?_
  simp only [PA]
  refine wpList_nil ?_
  refine A _ _ ?_
  refine wp_region_lit ?_
  refine PV (I ((i:Nat):Int)) rfl rfl ?_
  simp only [PA]
  refine PV (I ((i+1:Nat):Int)) (CT (run_bin (I ((i:Nat):Int)) (I 1) _ rfl rfl rfl (bin_add_3 _ _ _ _)) (vint (i_add (m:=i) (n:=1) (by omega)))) rfl ?_
  simp only [PA]
  refine PV (I ((i+1:Nat):Int)) rfl rfl ?_
  simp only [PA]
  refine wpList_nil ?_
  exact ⟨n - (i+1),by omega,i+1,f,[I ((i:Nat):Int),PT d 0,E (some ad) n c,I (n:Int),T true,I ((i:Nat):Int),I ((i+1:Nat):Int),J ((u:Nat):Int),PT d 0,E (some ad) n c,I ((i:Nat):Int),.pointer (some (ad.add i)),.int .u32 ((a:Nat):Int),J ((a:Nat):Int),I ((i:Nat):Int),J ((i:Nat):Int),J ((32 * i:Nat):Int),J ((a * 2 ^ (32 * i):Nat):Int),J ((f:Nat):Int)],rfl,e,by omega,(small_step hzl (by omega) ha hu).trans k,rfl⟩
 ·skip
  refine PV (T false) (CT (run_bin (I ((i:Nat):Int)) (I (n:Int)) _ rfl rfl rfl (bin_lss_3 _ _ _ _)) (congrArg Value.bool (decide_eq_false hil))) rfl ?_
  simp only [PA]
  refine wpList_nil ?_
  refine h _ _ ?_
  refine cond_false rfl ?_
  refine wp_exit ?_
  refine v _ _ ?_
  refine wp_seq_k fun X Y=>?_
  refine wp_seq_k fun aa C=>?_
  refine wp_region_lit ?_
  refine PV (PT d 1) (by kernel_rfl) rfl ?_
  simp only [PA]
  refine PV (T true) (run_load1 (T true) rfl rfl (e.at_ _ (MI (i:=0) rfl)) rfl (ag4 _)) rfl ?_
  simp only [PA]
  refine wpList_nil ?_
  refine C _ _ ?_
  refine cond_true rfl ?_
  refine wp_seq_k fun ab D=>?_
  refine wp_region_lit ?_
  refine PV (J ((u:Nat):Int)) rfl rfl ?_
  simp only [PA]
  refine PV (J (IntKind.u64.wrap (-(((u:Nat):Int))))) (run_neg ((u:Nat):Int) rfl rfl) rfl ?_
  simp only [PA]
  refine PV (I (IntKind.i64.wrap ((IntKind.u64.wrap (-(((u:Nat):Int))))))) (run_cv _ rfl rfl rfl rfl rfl) rfl ?_
  simp only [PA]
  refine PV (J ((u:Nat):Int)) rfl rfl ?_
  simp only [PA]
  refine PV (T (decide ((((u:Nat):Int):Int)≤9223372036854775808))) (run_bin (J ((u:Nat):Int)) (J 9223372036854775808) _ rfl rfl rfl (bin_leq_104 _ _ _ _)) rfl ?_
  simp only [PA]
  refine PV (I (IntKind.i64.wrap ((IntKind.u64.wrap (-(((u:Nat):Int))))))) rfl rfl ?_
  simp only [PA]
  refine PV (T (decide ((((u:Nat):Int):Int)≤9223372036854775808))) rfl rfl ?_
  simp only [PA]
  refine wpList_nil ?_
  refine D _ _ ?_
  refine wp_ret ?_
  repeat (with_reducible first | refine then_ret ?_ | refine inBlock_ret ?_)
  refine bodyPost_ret (results_tmp2 rfl _ _ _) rfl ?_
  have hue:=small_end hzl hin (by omega) hu
  have hfin:=small_neg hue (by first | exact of_decide_eq_true sg | exact of_decide_eq_false sg)
  exact ⟨⟨_,rfl,_,_,rfl,hfin.1,hfin.2⟩,e.bl⟩
set_option maxRecDepth 100000 in
set_option maxHeartbeats 2000000 in
theorem small_some_f {ad:Addr} {n c:Nat} {z:Int} {w:World} (hx:Wds w (some ad) n c (dg z.natAbs)) (sg:decide (z<0)=false) (hzl:(dg z.natAbs).length=n) (hnm:n≤9223372036854775807) (hn:n≤2):Calls Try.prog 70 #[AW (some ad) n c false] w (RetIB w z):=by
 go_enter Try.func70,Try.ntmps70
 have l:=St.start w
 refine wp_seq_k fun G o=>?_
 refine wp_region_lit ?_
 refine wpList_plain rfl fun K hK=>o_box (W2 (some ad) n c false) rfl rfl rfl l fun d H g L=>hK _ _ ?_
 simp only [PA]
 refine PV (I 0) rfl rfl ?_
 simp only [PA]
 refine PV (T false) rfl rfl ?_
 simp only [PA]
 refine wpList_nil ?_
 refine o _ _ ?_
 refine wp_seq_k fun M p=>?_
 refine wp_seq_k fun N q=>?_
 refine wp_region_lit ?_
 refine PV (PT d 0) (by kernel_rfl) rfl ?_
 simp only [PA]
 refine PV (E (some ad) n c) (run_load1 (E (some ad) n c) rfl rfl (g.at_ _ (MI (i:=0) rfl)) rfl (ag36 _)) rfl ?_
 simp only [PA]
 refine PV (I (n:Int)) (run_len36 rfl rfl) rfl ?_
 simp only [PA]
 refine PV (T false) (CT (run_bin (I (n:Int)) (I 2) _ rfl rfl rfl (bin_gtr_3 _ _ _ _)) (congrArg Value.bool (decide_eq_false (by omega)))) rfl ?_
 simp only [PA]
 refine wpList_nil ?_
 refine q _ _ ?_
 refine cond_false rfl ?_
 refine wp_skip ?_
 refine p _ _ ?_
 refine wp_seq_k fun P r=>?_
 refine wp_region_lit ?_
 refine PV (J 0) rfl rfl ?_
 simp only [PA]
 refine wpList_nil ?_
 refine r _ _ ?_
 refine wp_seq_k fun Q v=>?_
 refine wp_seq_k fun R x=>?_
 refine wp_region_lit ?_
 refine PV (I 0) rfl rfl ?_
 simp only [PA]
 refine wpList_nil ?_
 refine x _ _ ?_
 refine wp_block ?_
 refine wp_loop_g (fun mm aa_ w'=>∃ (i:Nat) (u:Nat) (b:List Value),aa_=⟨#[AW (some ad) n c false,PT d 0,I 0,T false,J ((u:Nat):Int),I ((i:Nat):Int),PT d 0,E (some ad) n c,I (n:Int),T false,(GD b 0),(GD b 1),(GD b 2),(GD b 3),(GD b 4),(GD b 5),(GD b 6),(GD b 7),(GD b 8),(GD b 9),(GD b 10),(GD b 11),(GD b 12),(GD b 13),(GD b 14),(GD b 15),(GD b 16),(GD b 17),(GD b 18),O,O,O,O,O,O,O,O,O,O,O],[]⟩∧St w w' [⟨d,(W2 (some ad) n c false),38⟩]∧(i≤n)∧(val ((dg z.natAbs).take i)=u)∧n - i=mm) (n) ⟨0,0,[O,O,O,O,O,O,O,O,O,O,O,O,O,O,O,O,O,O,O],rfl,g,by omega,rfl,rfl⟩ ?_
 rintro _ _ S ⟨i,u,b,rfl,e,hin,hu,rfl⟩
 refine wp_seq_k fun V y=>?_
 refine wp_seq_k fun W h=>?_
 refine wp_region_lit ?_
 refine PV (I ((i:Nat):Int)) rfl rfl ?_
 simp only [PA]
 refine PV (PT d 0) (by kernel_rfl) rfl ?_
 simp only [PA]
 refine PV (E (some ad) n c) (run_load1 (E (some ad) n c) rfl rfl (e.at_ _ (MI (i:=0) rfl)) rfl (ag36 _)) rfl ?_
 simp only [PA]
 refine PV (I (n:Int)) (run_len36 rfl rfl) rfl ?_
 simp only [PA]
 by_cases hil:(((i:Nat):Int):Int)<(n:Int)
 ·skip
  refine PV (T true) (CT (run_bin (I ((i:Nat):Int)) (I (n:Int)) _ rfl rfl rfl (bin_lss_3 _ _ _ _)) (congrArg Value.bool (decide_eq_true hil))) rfl ?_
  simp only [PA]
  refine wpList_nil ?_
  refine h _ _ ?_
  refine cond_true rfl ?_
  refine wp_skip ?_
  refine y _ _ ?_
  refine wp_seq_k fun X A=>?_
  refine wp_block ?_
  refine wp_region_lit ?_
  refine PV (J ((u:Nat):Int)) rfl rfl ?_
  simp only [PA]
  refine PV (PT d 0) (by kernel_rfl) rfl ?_
  simp only [PA]
  refine PV (E (some ad) n c) (run_load1 (E (some ad) n c) rfl rfl (e.at_ _ (MI (i:=0) rfl)) rfl (ag36 _)) rfl ?_
  simp only [PA]
  refine PV (I ((i:Nat):Int)) rfl rfl ?_
  simp only [PA]
  refine PV (.pointer (some (ad.add i))) (run_idx (t:=36) rfl rfl rfl (by omega)) rfl ?_
  simp only [PA]
  obtain ⟨a,ha⟩:∃ t:Nat,(dg z.natAbs).getD i 0=t:=⟨_,rfl⟩
  have haB:a<BW:=ha▸(dg_dig _).at_ i
  have j:i≤1:=by omega
  have huB:=small_lt hu
  refine PV (.int .u32 ((a:Nat):Int)) (CT (run_loadW _ rfl rfl ((hx.below e.bl).cellA (by omega)) (ag100 _)) (vnat ha)) rfl ?_
  simp only [PA]
  refine PV (J ((a:Nat):Int)) (run_cv _ rfl rfl rfl rfl (wrap_u64 (by rw [BW_eq] at haB; omega))) rfl ?_
  simp only [PA]
  refine PV (I ((i:Nat):Int)) rfl rfl ?_
  simp only [PA]
  refine PV (J ((i:Nat):Int)) (run_cv _ rfl rfl rfl rfl (wrap_u64 (by omega))) rfl ?_
  simp only [PA]
  refine PV (J ((32 * i:Nat):Int)) (CT (run_bin (J 32) (J ((i:Nat):Int)) _ rfl rfl rfl (bin_mul_106 _ _ _ _)) (vint (w_mul32 j))) rfl ?_
  simp only [PA]
  refine PV (J ((a * 2 ^ (32 * i):Nat):Int)) (CT (run_bin (J ((a:Nat):Int)) (J ((32 * i:Nat):Int)) _ rfl rfl rfl (bin_shl_104_u64 _ _ _ _)) (vint (w_shl_s (a:=a) (s:=32 * i) haB (by omega)))) rfl ?_
  simp only [PA]
  obtain ⟨f,k⟩:∃ t:Nat,u+a * 2 ^ (32 * i)=t:=⟨_,rfl⟩
  refine PV (J ((f:Nat):Int)) (CT (run_bin (J ((u:Nat):Int)) (J ((a * 2 ^ (32 * i):Nat):Int)) _ rfl rfl rfl (bin_or_104 _ _ _ _)) ((vint (or_lay j huB haB)).trans (vnat k))) rfl ?_
  simp only [PA]
  refine PV (J ((f:Nat):Int)) rfl rfl ?_
  simp only [PA]
  refine wpList_nil ?_
  refine A _ _ ?_
  refine wp_region_lit ?_
  refine PV (I ((i:Nat):Int)) rfl rfl ?_
  simp only [PA]
  refine PV (I ((i+1:Nat):Int)) (CT (run_bin (I ((i:Nat):Int)) (I 1) _ rfl rfl rfl (bin_add_3 _ _ _ _)) (vint (i_add (m:=i) (n:=1) (by omega)))) rfl ?_
  simp only [PA]
  refine PV (I ((i+1:Nat):Int)) rfl rfl ?_
  simp only [PA]
  refine wpList_nil ?_
  exact ⟨n - (i+1),by omega,i+1,f,[I ((i:Nat):Int),PT d 0,E (some ad) n c,I (n:Int),T true,I ((i:Nat):Int),I ((i+1:Nat):Int),J ((u:Nat):Int),PT d 0,E (some ad) n c,I ((i:Nat):Int),.pointer (some (ad.add i)),.int .u32 ((a:Nat):Int),J ((a:Nat):Int),I ((i:Nat):Int),J ((i:Nat):Int),J ((32 * i:Nat):Int),J ((a * 2 ^ (32 * i):Nat):Int),J ((f:Nat):Int)],rfl,e,by omega,(small_step hzl (by omega) ha hu).trans k,rfl⟩
 ·skip
  refine PV (T false) (CT (run_bin (I ((i:Nat):Int)) (I (n:Int)) _ rfl rfl rfl (bin_lss_3 _ _ _ _)) (congrArg Value.bool (decide_eq_false hil))) rfl ?_
  simp only [PA]
  refine wpList_nil ?_
  refine h _ _ ?_
  refine cond_false rfl ?_
  refine wp_exit ?_
  refine v _ _ ?_
  refine wp_seq_k fun Y C=>?_
  refine wp_seq_k fun aa D=>?_
  refine wp_region_lit ?_
  refine PV (PT d 1) (by kernel_rfl) rfl ?_
  simp only [PA]
  refine PV (T false) (run_load1 (T false) rfl rfl (e.at_ _ (MI (i:=0) rfl)) rfl (ag4 _)) rfl ?_
  simp only [PA]
  refine wpList_nil ?_
  refine D _ _ ?_
  refine cond_false rfl ?_
  refine wp_skip ?_
  refine C _ _ ?_
  refine wp_seq_k fun ab F=>?_
  refine wp_region_lit ?_
  refine PV (J ((u:Nat):Int)) rfl rfl ?_
  simp only [PA]
  refine PV (I (IntKind.i64.wrap (((u:Nat):Int)))) (run_cv _ rfl rfl rfl rfl rfl) rfl ?_
  simp only [PA]
  refine PV (J ((u:Nat):Int)) rfl rfl ?_
  simp only [PA]
  refine PV (T (decide ((((u:Nat):Int):Int)<9223372036854775808))) (run_bin (J ((u:Nat):Int)) (J 9223372036854775808) _ rfl rfl rfl (bin_lss_104 _ _ _ _)) rfl ?_
  simp only [PA]
  refine PV (I (IntKind.i64.wrap (((u:Nat):Int)))) rfl rfl ?_
  simp only [PA]
  refine PV (T (decide ((((u:Nat):Int):Int)<9223372036854775808))) rfl rfl ?_
  simp only [PA]
  refine wpList_nil ?_
  refine F _ _ ?_
  refine wp_ret ?_
  repeat (with_reducible first | refine then_ret ?_ | refine inBlock_ret ?_)
  refine bodyPost_ret (results_tmp2 rfl _ _ _) rfl ?_
  have hue:=small_end hzl hin (by omega) hu
  have hfin:=small_pos hue (by first | exact of_decide_eq_true sg | exact of_decide_eq_false sg)
  exact ⟨⟨_,rfl,_,_,rfl,hfin.1,hfin.2⟩,e.bl⟩
set_option maxRecDepth 100000 in
set_option maxHeartbeats 2000000 in
theorem small_none_t {A:Option Addr} {n c:Nat} {z:Int} {w:World} (hx:Wds w A n c (dg z.natAbs)) (sg:decide (z<0)=true) (hzl:(dg z.natAbs).length=n) (hnm:n≤9223372036854775807) (hn:n=0):Calls Try.prog 70 #[AW A n c true] w (RetIB w z):=by
 go_enter Try.func70,Try.ntmps70
 have f:=St.start w
 refine wp_seq_k fun r g=>?_
 refine wp_region_lit ?_
 refine wpList_plain rfl fun K hK=>o_box (W2 A n c true) rfl rfl rfl f fun b s e t=>hK _ _ ?_
 simp only [PA]
 refine PV (I 0) rfl rfl ?_
 simp only [PA]
 refine PV (T false) rfl rfl ?_
 simp only [PA]
 refine wpList_nil ?_
 refine g _ _ ?_
 refine wp_seq_k fun v h=>?_
 refine wp_seq_k fun x j=>?_
 refine wp_region_lit ?_
 refine PV (PT b 0) (by kernel_rfl) rfl ?_
 simp only [PA]
 refine PV (E A n c) (run_load1 (E A n c) rfl rfl (e.at_ _ (MI (i:=0) rfl)) rfl (ag36 _)) rfl ?_
 simp only [PA]
 refine PV (I (n:Int)) (run_len36 rfl rfl) rfl ?_
 simp only [PA]
 refine PV (T false) (CT (run_bin (I (n:Int)) (I 2) _ rfl rfl rfl (bin_gtr_3 _ _ _ _)) (congrArg Value.bool (decide_eq_false (by omega)))) rfl ?_
 simp only [PA]
 refine wpList_nil ?_
 refine j _ _ ?_
 refine cond_false rfl ?_
 refine wp_skip ?_
 refine h _ _ ?_
 refine wp_seq_k fun y k=>?_
 refine wp_region_lit ?_
 refine PV (J 0) rfl rfl ?_
 simp only [PA]
 refine wpList_nil ?_
 refine k _ _ ?_
 refine wp_seq_k fun C l=>?_
 refine wp_seq_k fun D m=>?_
 refine wp_region_lit ?_
 refine PV (I 0) rfl rfl ?_
 simp only [PA]
 refine wpList_nil ?_
 refine m _ _ ?_
 refine wp_block ?_
 refine wp_loop_g (fun mm aa_ w'=>∃ (i:Nat) (u:Nat) (a:List Value),aa_=⟨#[AW A n c true,PT b 0,I 0,T false,J ((u:Nat):Int),I ((i:Nat):Int),PT b 0,E A n c,I (n:Int),T false,(GD a 0),(GD a 1),(GD a 2),(GD a 3),(GD a 4),(GD a 5),(GD a 6),(GD a 7),(GD a 8),(GD a 9),(GD a 10),(GD a 11),(GD a 12),(GD a 13),(GD a 14),(GD a 15),(GD a 16),(GD a 17),(GD a 18),O,O,O,O,O,O,O,O,O,O,O],[]⟩∧St w w' [⟨b,(W2 A n c true),38⟩]∧(i≤n)∧(val ((dg z.natAbs).take i)=u)∧n - i=mm) (n) ⟨0,0,[O,O,O,O,O,O,O,O,O,O,O,O,O,O,O,O,O,O,O],rfl,e,by omega,rfl,rfl⟩ ?_
 rintro _ _ F ⟨i,u,a,rfl,d,hin,hu,rfl⟩
 refine wp_seq_k fun G H=>?_
 refine wp_seq_k fun L o=>?_
 refine wp_region_lit ?_
 refine PV (I ((i:Nat):Int)) rfl rfl ?_
 simp only [PA]
 refine PV (PT b 0) (by kernel_rfl) rfl ?_
 simp only [PA]
 refine PV (E A n c) (run_load1 (E A n c) rfl rfl (d.at_ _ (MI (i:=0) rfl)) rfl (ag36 _)) rfl ?_
 simp only [PA]
 refine PV (I (n:Int)) (run_len36 rfl rfl) rfl ?_
 simp only [PA]
 refine PV (T false) (CT (run_bin (I ((i:Nat):Int)) (I (n:Int)) _ rfl rfl rfl (bin_lss_3 _ _ _ _)) (congrArg Value.bool (decide_eq_false (by omega)))) rfl ?_
 simp only [PA]
 refine wpList_nil ?_
 refine o _ _ ?_
 refine cond_false rfl ?_
 refine wp_exit ?_
 refine l _ _ ?_
 refine wp_seq_k fun M N=>?_
 refine wp_seq_k fun P p=>?_
 refine wp_region_lit ?_
 refine PV (PT b 1) (by kernel_rfl) rfl ?_
 simp only [PA]
 refine PV (T true) (run_load1 (T true) rfl rfl (d.at_ _ (MI (i:=0) rfl)) rfl (ag4 _)) rfl ?_
 simp only [PA]
 refine wpList_nil ?_
 refine p _ _ ?_
 refine cond_true rfl ?_
 refine wp_seq_k fun Q q=>?_
 refine wp_region_lit ?_
 refine PV (J ((u:Nat):Int)) rfl rfl ?_
 simp only [PA]
 refine PV (J (IntKind.u64.wrap (-(((u:Nat):Int))))) (run_neg ((u:Nat):Int) rfl rfl) rfl ?_
 simp only [PA]
 refine PV (I (IntKind.i64.wrap ((IntKind.u64.wrap (-(((u:Nat):Int))))))) (run_cv _ rfl rfl rfl rfl rfl) rfl ?_
 simp only [PA]
 refine PV (J ((u:Nat):Int)) rfl rfl ?_
 simp only [PA]
 refine PV (T (decide ((((u:Nat):Int):Int)≤9223372036854775808))) (run_bin (J ((u:Nat):Int)) (J 9223372036854775808) _ rfl rfl rfl (bin_leq_104 _ _ _ _)) rfl ?_
 simp only [PA]
 refine PV (I (IntKind.i64.wrap ((IntKind.u64.wrap (-(((u:Nat):Int))))))) rfl rfl ?_
 simp only [PA]
 refine PV (T (decide ((((u:Nat):Int):Int)≤9223372036854775808))) rfl rfl ?_
 simp only [PA]
 refine wpList_nil ?_
 refine q _ _ ?_
 refine wp_ret ?_
 repeat (with_reducible first | refine then_ret ?_ | refine inBlock_ret ?_)
 refine bodyPost_ret (results_tmp2 rfl _ _ _) rfl ?_
 have hue:=small_end hzl hin (by omega) hu
 have hfin:=small_neg hue (by first | exact of_decide_eq_true sg | exact of_decide_eq_false sg)
 exact ⟨⟨_,rfl,_,_,rfl,hfin.1,hfin.2⟩,d.bl⟩
set_option maxRecDepth 100000 in
set_option maxHeartbeats 2000000 in
theorem small_none_f {A:Option Addr} {n c:Nat} {z:Int} {w:World} (hx:Wds w A n c (dg z.natAbs)) (sg:decide (z<0)=false) (hzl:(dg z.natAbs).length=n) (hnm:n≤9223372036854775807) (hn:n=0):Calls Try.prog 70 #[AW A n c false] w (RetIB w z):=by
 go_enter Try.func70,Try.ntmps70
 have f:=St.start w
 refine wp_seq_k fun s g=>?_
 refine wp_region_lit ?_
 refine wpList_plain rfl fun K hK=>o_box (W2 A n c false) rfl rfl rfl f fun b t e v=>hK _ _ ?_
 simp only [PA]
 refine PV (I 0) rfl rfl ?_
 simp only [PA]
 refine PV (T false) rfl rfl ?_
 simp only [PA]
 refine wpList_nil ?_
 refine g _ _ ?_
 refine wp_seq_k fun x h=>?_
 refine wp_seq_k fun y j=>?_
 refine wp_region_lit ?_
 refine PV (PT b 0) (by kernel_rfl) rfl ?_
 simp only [PA]
 refine PV (E A n c) (run_load1 (E A n c) rfl rfl (e.at_ _ (MI (i:=0) rfl)) rfl (ag36 _)) rfl ?_
 simp only [PA]
 refine PV (I (n:Int)) (run_len36 rfl rfl) rfl ?_
 simp only [PA]
 refine PV (T false) (CT (run_bin (I (n:Int)) (I 2) _ rfl rfl rfl (bin_gtr_3 _ _ _ _)) (congrArg Value.bool (decide_eq_false (by omega)))) rfl ?_
 simp only [PA]
 refine wpList_nil ?_
 refine j _ _ ?_
 refine cond_false rfl ?_
 refine wp_skip ?_
 refine h _ _ ?_
 refine wp_seq_k fun C k=>?_
 refine wp_region_lit ?_
 refine PV (J 0) rfl rfl ?_
 simp only [PA]
 refine wpList_nil ?_
 refine k _ _ ?_
 refine wp_seq_k fun D l=>?_
 refine wp_seq_k fun F m=>?_
 refine wp_region_lit ?_
 refine PV (I 0) rfl rfl ?_
 simp only [PA]
 refine wpList_nil ?_
 refine m _ _ ?_
 refine wp_block ?_
 refine wp_loop_g (fun mm aa_ w'=>∃ (i:Nat) (u:Nat) (a:List Value),aa_=⟨#[AW A n c false,PT b 0,I 0,T false,J ((u:Nat):Int),I ((i:Nat):Int),PT b 0,E A n c,I (n:Int),T false,(GD a 0),(GD a 1),(GD a 2),(GD a 3),(GD a 4),(GD a 5),(GD a 6),(GD a 7),(GD a 8),(GD a 9),(GD a 10),(GD a 11),(GD a 12),(GD a 13),(GD a 14),(GD a 15),(GD a 16),(GD a 17),(GD a 18),O,O,O,O,O,O,O,O,O,O,O],[]⟩∧St w w' [⟨b,(W2 A n c false),38⟩]∧(i≤n)∧(val ((dg z.natAbs).take i)=u)∧n - i=mm) (n) ⟨0,0,[O,O,O,O,O,O,O,O,O,O,O,O,O,O,O,O,O,O,O],rfl,e,by omega,rfl,rfl⟩ ?_
 rintro _ _ G ⟨i,u,a,rfl,d,hin,hu,rfl⟩
 refine wp_seq_k fun H L=>?_
 refine wp_seq_k fun M o=>?_
 refine wp_region_lit ?_
 refine PV (I ((i:Nat):Int)) rfl rfl ?_
 simp only [PA]
 refine PV (PT b 0) (by kernel_rfl) rfl ?_
 simp only [PA]
 refine PV (E A n c) (run_load1 (E A n c) rfl rfl (d.at_ _ (MI (i:=0) rfl)) rfl (ag36 _)) rfl ?_
 simp only [PA]
 refine PV (I (n:Int)) (run_len36 rfl rfl) rfl ?_
 simp only [PA]
 refine PV (T false) (CT (run_bin (I ((i:Nat):Int)) (I (n:Int)) _ rfl rfl rfl (bin_lss_3 _ _ _ _)) (congrArg Value.bool (decide_eq_false (by omega)))) rfl ?_
 simp only [PA]
 refine wpList_nil ?_
 refine o _ _ ?_
 refine cond_false rfl ?_
 refine wp_exit ?_
 refine l _ _ ?_
 refine wp_seq_k fun N p=>?_
 refine wp_seq_k fun P q=>?_
 refine wp_region_lit ?_
 refine PV (PT b 1) (by kernel_rfl) rfl ?_
 simp only [PA]
 refine PV (T false) (run_load1 (T false) rfl rfl (d.at_ _ (MI (i:=0) rfl)) rfl (ag4 _)) rfl ?_
 simp only [PA]
 refine wpList_nil ?_
 refine q _ _ ?_
 refine cond_false rfl ?_
 refine wp_skip ?_
 refine p _ _ ?_
 refine wp_seq_k fun Q r=>?_
 refine wp_region_lit ?_
 refine PV (J ((u:Nat):Int)) rfl rfl ?_
 simp only [PA]
 refine PV (I (IntKind.i64.wrap (((u:Nat):Int)))) (run_cv _ rfl rfl rfl rfl rfl) rfl ?_
 simp only [PA]
 refine PV (J ((u:Nat):Int)) rfl rfl ?_
 simp only [PA]
 refine PV (T (decide ((((u:Nat):Int):Int)<9223372036854775808))) (run_bin (J ((u:Nat):Int)) (J 9223372036854775808) _ rfl rfl rfl (bin_lss_104 _ _ _ _)) rfl ?_
 simp only [PA]
 refine PV (I (IntKind.i64.wrap (((u:Nat):Int)))) rfl rfl ?_
 simp only [PA]
 refine PV (T (decide ((((u:Nat):Int):Int)<9223372036854775808))) rfl rfl ?_
 simp only [PA]
 refine wpList_nil ?_
 refine r _ _ ?_
 refine wp_ret ?_
 repeat (with_reducible first | refine then_ret ?_ | refine inBlock_ret ?_)
 refine bodyPost_ret (results_tmp2 rfl _ _ _) rfl ?_
 have hue:=small_end hzl hin (by omega) hu
 have hfin:=small_pos hue (by first | exact of_decide_eq_true sg | exact of_decide_eq_false sg)
 exact ⟨⟨_,rfl,_,_,rfl,hfin.1,hfin.2⟩,d.bl⟩
set_option maxRecDepth 100000 in
set_option maxHeartbeats 2000000 in
theorem small_big_t {ad:Addr} {n c:Nat} {z:Int} {w:World} (hx:Wds w (some ad) n c (dg z.natAbs)) (sg:decide (z<0)=true) (hzl:(dg z.natAbs).length=n) (hnm:n≤9223372036854775807) (hn:2<n):Calls Try.prog 70 #[AW (some ad) n c true] w (RetIB w z):=by
 go_enter Try.func70,Try.ntmps70
 have b:=St.start w
 refine wp_seq_k fun j d=>?_
 refine wp_region_lit ?_
 refine wpList_plain rfl fun K hK=>o_box (W2 (some ad) n c true) rfl rfl rfl b fun e k a l=>hK _ _ ?_
 simp only [PA]
 refine PV (I 0) rfl rfl ?_
 simp only [PA]
 refine PV (T false) rfl rfl ?_
 simp only [PA]
 refine wpList_nil ?_
 refine d _ _ ?_
 refine wp_seq_k fun m o=>?_
 refine wp_seq_k fun p f=>?_
 refine wp_region_lit ?_
 refine PV (PT e 0) (by kernel_rfl) rfl ?_
 simp only [PA]
 refine PV (E (some ad) n c) (run_load1 (E (some ad) n c) rfl rfl (a.at_ _ (MI (i:=0) rfl)) rfl (ag36 _)) rfl ?_
 simp only [PA]
 refine PV (I (n:Int)) (run_len36 rfl rfl) rfl ?_
 simp only [PA]
 refine PV (T true) (CT (run_bin (I (n:Int)) (I 2) _ rfl rfl rfl (bin_gtr_3 _ _ _ _)) (congrArg Value.bool (decide_eq_true (by omega)))) rfl ?_
 simp only [PA]
 refine wpList_nil ?_
 refine f _ _ ?_
 refine cond_true rfl ?_
 refine wp_seq_k fun q g=>?_
 refine wp_region_lit ?_
 refine PV (I 0) rfl rfl ?_
 simp only [PA]
 refine PV (T false) rfl rfl ?_
 simp only [PA]
 refine wpList_nil ?_
 refine g _ _ ?_
 refine wp_ret ?_
 repeat (with_reducible first | refine then_ret ?_ | refine inBlock_ret ?_)
 refine bodyPost_ret (results_tmp2 rfl _ _ _) rfl ?_
 exact ⟨⟨_,rfl,_,_,rfl,⟨fun h=>(nomatch h),fun h=>absurd h (small_no hzl (by omega))⟩,fun h=>(nomatch h)⟩,a.bl⟩
set_option maxRecDepth 100000 in
set_option maxHeartbeats 2000000 in
theorem small_big_f {ad:Addr} {n c:Nat} {z:Int} {w:World} (hx:Wds w (some ad) n c (dg z.natAbs)) (sg:decide (z<0)=false) (hzl:(dg z.natAbs).length=n) (hnm:n≤9223372036854775807) (hn:2<n):Calls Try.prog 70 #[AW (some ad) n c false] w (RetIB w z):=by
 go_enter Try.func70,Try.ntmps70
 have b:=St.start w
 refine wp_seq_k fun j d=>?_
 refine wp_region_lit ?_
 refine wpList_plain rfl fun K hK=>o_box (W2 (some ad) n c false) rfl rfl rfl b fun e k a l=>hK _ _ ?_
 simp only [PA]
 refine PV (I 0) rfl rfl ?_
 simp only [PA]
 refine PV (T false) rfl rfl ?_
 simp only [PA]
 refine wpList_nil ?_
 refine d _ _ ?_
 refine wp_seq_k fun m o=>?_
 refine wp_seq_k fun p f=>?_
 refine wp_region_lit ?_
 refine PV (PT e 0) (by kernel_rfl) rfl ?_
 simp only [PA]
 refine PV (E (some ad) n c) (run_load1 (E (some ad) n c) rfl rfl (a.at_ _ (MI (i:=0) rfl)) rfl (ag36 _)) rfl ?_
 simp only [PA]
 refine PV (I (n:Int)) (run_len36 rfl rfl) rfl ?_
 simp only [PA]
 refine PV (T true) (CT (run_bin (I (n:Int)) (I 2) _ rfl rfl rfl (bin_gtr_3 _ _ _ _)) (congrArg Value.bool (decide_eq_true (by omega)))) rfl ?_
 simp only [PA]
 refine wpList_nil ?_
 refine f _ _ ?_
 refine cond_true rfl ?_
 refine wp_seq_k fun q g=>?_
 refine wp_region_lit ?_
 refine PV (I 0) rfl rfl ?_
 simp only [PA]
 refine PV (T false) rfl rfl ?_
 simp only [PA]
 refine wpList_nil ?_
 refine g _ _ ?_
 refine wp_ret ?_
 repeat (with_reducible first | refine then_ret ?_ | refine inBlock_ret ?_)
 refine bodyPost_ret (results_tmp2 rfl _ _ _) rfl ?_
 exact ⟨⟨_,rfl,_,_,rfl,⟨fun h=>(nomatch h),fun h=>absurd h (small_no hzl (by omega))⟩,fun h=>(nomatch h)⟩,a.bl⟩
theorem small_c {v : Value} {z : Int} {w : World} (h : Wh w v z) : Calls Try.prog 70 #[v] w (RetIB w z) := by
 obtain ⟨A, n, c, rfl, hx⟩ := h
 have hl := hx.len
 have hm := hx.mx
 rcases Nat.eq_zero_or_pos n with h0 | h0
 ·cases sg : decide (z < 0)
  ·exact small_none_f hx sg hl (by omega) h0
  ·exact small_none_t hx sg hl (by omega) h0
 obtain ⟨ad, rfl⟩ := hx.some_ h0
 rcases Nat.lt_or_ge 2 n with h2 | h2
 ·cases sg : decide (z < 0)
  ·exact small_big_f hx sg hl hm h2
  ·exact small_big_t hx sg hl hm h2
 ·cases sg : decide (z < 0)
  ·exact small_some_f hx sg hl (by omega) h2
  ·exact small_some_t hx sg hl (by omega) h2
end Go.Proofs.Ythhgjloephkpaaa
namespace Go.Proofs.Ythhgjloephkpaaa
set_option linter.unusedVariables false
set_option linter.unusedSimpArgs false
open Go Go.RowKit Go.Proofs.YthhgjloephkpaaaW.PrintWords Go.Proofs.YthhgjloephkpaaaW.PrintLast
theorem FitN.gcdr {k x y : Nat} (h : FitN k y) (h0 : 0 < y) : FitN k (Nat.gcd x y) := h.le (Nat.gcd_le_right _ h0)
theorem rat_one {n d n' d' : Int} (h : d' = 1) (e : Rat.divInt n' d' = Rat.divInt n d) : n' = (Rat.divInt n d).num ∧ d' = ((Rat.divInt n d).den : Int) := e ▸ ratio_d1 h
theorem rat_g1 {n d n' d' : Int} (hd : 0 < d') (h : Nat.gcd n'.natAbs d'.natAbs = 1) (e : Rat.divInt n' d' = Rat.divInt n d) : n' = (Rat.divInt n d).num ∧ d' = ((Rat.divInt n d).den : Int) := e ▸ ratio_gcd1 hd h
theorem rat_gn {n d n' d' : Int} {s : Bool} (hd : 0 < d') (hs : decide (n' < 0) = s) (e : Rat.divInt n' d' = Rat.divInt n d) :
  (if s = true then -((((n'.natAbs / Nat.gcd n'.natAbs d'.natAbs : Nat))) : Int) else ((((n'.natAbs / Nat.gcd n'.natAbs d'.natAbs : Nat))) : Int)) = (Rat.divInt n d).num ∧
  (if false = true then -((((d'.natAbs / Nat.gcd n'.natAbs d'.natAbs : Nat))) : Int) else ((((d'.natAbs / Nat.gcd n'.natAbs d'.natAbs : Nat))) : Int)) = ((Rat.divInt n d).den : Int) := by
 subst hs; rw [← e]; exact ⟨ratio_num hd, ratio_den hd⟩
end Go.Proofs.Ythhgjloephkpaaa
namespace Go.Proofs.Ythhgjloephkpaaa
set_option linter.unusedVariables false
set_option linter.unusedSimpArgs false
open Go Go.RowKit Go.Proofs.YthhgjloephkpaaaW.PrintWords Go.Proofs.YthhgjloephkpaaaW.PrintLast
theorem mulden_ne (x y : Rat) : (x.den : Int) * (y.den : Int) ≠ 0 := by have := Int.mul_pos (den_pos x) (den_pos y); omega
theorem divden_ne {x y : Rat} (h : y ≠ 0) : (x.den : Int) * y.num ≠ 0 := fun e => by
 rcases Int.mul_eq_zero.1 e with e1 | e1
 ·have := den_pos x; omega
 ·exact h (Rat.num_eq_zero.1 e1)
end Go.Proofs.Ythhgjloephkpaaa
namespace Go.Proofs.Ythhgjloephkpaaa
set_option linter.unusedVariables false
set_option linter.unusedSimpArgs false
open Go Go.RowKit Go.Proofs.YthhgjloephkpaaaW.PrintWords Go.Proofs.YthhgjloephkpaaaW.PrintLast
theorem abs_pos' {x : Rat} (h : ¬ cmpR x 0 < 0) : x = x.abs := (Rat.abs_of_nonneg (Rat.not_lt.1 (fun e => h (cmpR_lt0.2 e)))).symm
theorem abs_neg' {x : Rat} (h : cmpR x 0 < 0) : -x = x.abs := (Rat.abs_of_nonpos (Rat.le_of_lt (cmpR_lt0.1 h))).symm
theorem isInt_iff {x : Rat} : (cmpZ (x.den : Int) 1 == (0 : Int)) = decide (x.den = 1) := by
 by_cases h : x.den = 1
 ·rw [cmpZ_eq (by omega), decide_eq_true h]; rfl
 ·have := x.den_pos; rw [cmpZ_gt (by omega), decide_eq_false h]; rfl
end Go.Proofs.Ythhgjloephkpaaa
namespace Go.Proofs.Ythhgjloephkpaaa
set_option linter.unusedVariables false
set_option linter.unusedSimpArgs false
open Go Go.RowKit Go.Proofs.YthhgjloephkpaaaW.PrintWords Go.Proofs.YthhgjloephkpaaaW.PrintLast
/-- A fraction in its form: within the limits and in lowest terms. -/
def IsQ (p q : Int) : Prop := 1 ≤ q ∧ q ≤ 1000000000000 ∧ -1000000000000 ≤ p ∧ p ≤ 1000000000000 ∧ Nat.gcd p.natAbs q.natAbs = 1
instance (p q : Int) : Decidable (IsQ p q) := by unfold IsQ; infer_instance
end Go.Proofs.Ythhgjloephkpaaa
namespace Go.Proofs.Ythhgjloephkpaaa
set_option linter.unusedVariables false
set_option linter.unusedSimpArgs false
open Go Go.RowKit Go.Proofs.YthhgjloephkpaaaW.PrintWords Go.Proofs.YthhgjloephkpaaaW.PrintLast
/-- An amount of the program: small, or in words. -/
def Zh (w : World) (v : Value) (z : Int) : Prop :=
 (v = .agg #[.int .i64 z, .slice none 0 0, .bool false] ∧ -9223372036854775808 ≤ z ∧ z < 9223372036854775808) ∨
 (∃ ad n c, v = .agg #[.int .i64 0, .slice (some ad) n c, .bool (decide (z < 0))] ∧ Wds w (some ad) n c (dg z.natAbs) ∧ 9223372036854775808 ≤ z.natAbs)
/-- Words and sign of an amount, as a pair. -/
def RetP (w : World) (z : Int) (e : Ending) (w' : World) : Prop := (∃ v, e = .returned v ∧ ∃ A n c, v = .tuple #[.slice A n c, .bool (decide (z < 0))] ∧ Wds w' A n c (dg z.natAbs)) ∧ Below w.heap.size w w'
section
variable {w0 w : World} {L : List Bx} {a : Act} {K : Act → World → Prop} {Q : Exit → Act → World → Prop} {o : Oper}
set_option maxRecDepth 100000 in
theorem run_lit2 (ρ : Operand → Value) (o : Oper) (w : World) (x y : Operand) (m n : Int) (ho : o.op = .buildSlice 36 2 #[(0, x), (1, y)]) (hc : ρ x = .int .u32 m) (hd : ρ y = .int .u32 n) : (execOp ρ o).run Try.prog w = .ok (.value (.slice (some ⟨w.heap.size, 0, none⟩) 2 2)) (w.alloc (.cells #[.int .u32 m, .int .u32 n] 100)) := by
 unfold execOp
 simp only [ho, List.map_toArray, List.map_cons, List.map_nil, hc, hd]
 first | kernel_rfl | simp [go_sem]
theorem o_lit2 {x y : Operand} (m n : Nat) (ho : o.op = .buildSlice 36 2 #[(0, x), (1, y)]) (hx : a.eval x = .int .u32 (m : Int)) (hy : a.eval y = .int .u32 (n : Int)) (hs : St w0 w L)
  (h : ∀ g w', St w0 w' (⟨g, wc [m, n], 100⟩ :: L) → U w w' → K (a.put o.dst (.slice (some ⟨g, 0, none⟩) 2 2)) w') : o.wp Try.prog a w K Q := by
 have hr := run_lit2 a.eval o w x y m n ho hx hy
 unfold Oper.wp
 rw [hr]
 exact h w.heap.size _ (hs.box #[.int .u32 (m : Int), .int .u32 (n : Int)] 100) (U.box w _)
end
theorem retp {w w' : World} {z : Int} {A : Option Addr} {n c : Nat} {b : Bool} {l : List Nat} (hb : decide (z < 0) = b) (hl : dg z.natAbs = l) (h : Wds w' A n c l) (hB : Below w.heap.size w w') : RetP w z (.returned (.tuple #[.slice A n c, .bool b])) w' := by
 subst hb hl
 exact ⟨⟨_, rfl, _, _, _, rfl, h⟩, hB⟩
theorem w_shr_32 {m : Nat} : ((m : Nat) : Int) / 2 ^ (min 32 64) = ((m / 4294967296 : Nat) : Int) := by rw [show (2 : Int) ^ (min 32 64) = 4294967296 from by decide]; omega
theorem dg_small0 {z : Int} {m : Nat} (h : z.natAbs = m) (h0 : m = 0) : dg z.natAbs = [] := by rw [h, h0, dg_zero]
theorem dg_small1 {z : Int} {m : Nat} (h : z.natAbs = m) (h0 : ¬ m = 0) (h1 : m / 4294967296 = 0) : dg z.natAbs = [m % BW] := by
 rw [h, dg_pos (by omega), show m / BW = 0 from h1, dg_zero]
theorem dg_small2 {z : Int} {m : Nat} (h : z.natAbs = m) (hm : m < 18446744073709551616) (h1 : ¬ m / 4294967296 = 0) : dg z.natAbs = [m % BW, m / 4294967296 % BW] := by
 have e : m / BW = m / 4294967296 := rfl
 rw [h, dg_pos (by omega), e, dg_pos (by omega), show m / 4294967296 / BW = 0 from by rw [BW_eq]; omega, dg_zero]
set_option maxRecDepth 100000 in
set_option maxHeartbeats 2000000 in
theorem words_neg {m:Nat} {w:World} (F:0<m) (hm:m≤9223372036854775808):Calls Try.prog 111 #[AZ (-((m:Nat):Int)) none 0 0 false] w (RetP w (-((m:Nat):Int))):=by
 go_enter Try.func111,Try.ntmps111
 have o:=St.start w
 refine wp_seq_k fun G p=>?_
 refine wp_region_lit ?_
 refine wpList_plain rfl fun K hK=>o_box (Z3 (-((m:Nat):Int)) none 0 0 false) rfl rfl rfl o fun d H b L=>hK _ _ ?_
 simp only [PA]
 refine PV (E none 0 0) rfl rfl ?_
 simp only [PA]
 refine PV (T false) rfl rfl ?_
 simp only [PA]
 refine wpList_nil ?_
 refine p _ _ ?_
 refine wp_seq_k fun M q=>?_
 refine wp_seq_k fun N r=>?_
 refine wp_region_lit ?_
 refine PV (PT d 1) (by kernel_rfl) rfl ?_
 simp only [PA]
 refine PV (E none 0 0) (run_load1 (E none 0 0) rfl rfl (b.at_ _ (MI (i:=0) rfl)) rfl (ag36 _)) rfl ?_
 simp only [PA]
 refine PV (T false) (run_bin (E none 0 0) (E none 0 0) _ rfl rfl rfl (bin_neq_36n _ _ _ _)) rfl ?_
 simp only [PA]
 refine wpList_nil ?_
 refine r _ _ ?_
 refine cond_false rfl ?_
 refine wp_skip ?_
 refine q _ _ ?_
 refine wp_seq_k fun P s=>?_
 refine wp_region_lit ?_
 refine PV (PT d 0) (by kernel_rfl) rfl ?_
 simp only [PA]
 refine PV (I (-((m:Nat):Int))) (run_load1 (I (-((m:Nat):Int))) rfl rfl (b.at_ _ (MI (i:=0) rfl)) rfl (ag2 _)) rfl ?_
 simp only [PA]
 refine PV (J (IntKind.u64.wrap ((-((m:Nat):Int))))) (run_cv _ rfl rfl rfl rfl rfl) rfl ?_
 simp only [PA]
 refine PV (J (IntKind.u64.wrap ((-((m:Nat):Int))))) rfl rfl ?_
 simp only [PA]
 refine wpList_nil ?_
 refine s _ _ ?_
 refine wp_seq_k fun Q t=>?_
 refine wp_seq_k fun R v=>?_
 refine wp_region_lit ?_
 refine PV (PT d 0) (by kernel_rfl) rfl ?_
 simp only [PA]
 refine PV (I (-((m:Nat):Int))) (run_load1 (I (-((m:Nat):Int))) rfl rfl (b.at_ _ (MI (i:=0) rfl)) rfl (ag2 _)) rfl ?_
 simp only [PA]
 refine PV (T true) (CT (run_bin (I (-((m:Nat):Int))) (I 0) _ rfl rfl rfl (bin_lss_2 _ _ _ _)) (congrArg Value.bool (decide_eq_true (by omega)))) rfl ?_
 simp only [PA]
 refine wpList_nil ?_
 refine v _ _ ?_
 refine cond_true rfl ?_
 refine wp_region_lit ?_
 refine PV (J (IntKind.u64.wrap ((-((m:Nat):Int))))) rfl rfl ?_
 simp only [PA]
 refine PV (J ((m:Nat):Int)) (CT (run_neg (IntKind.u64.wrap ((-((m:Nat):Int)))) rfl rfl) (vint (by rw [IntKind.wrap_u64,IntKind.wrap_u64]; omega))) rfl ?_
 simp only [PA]
 refine PV (J ((m:Nat):Int)) rfl rfl ?_
 simp only [PA]
 refine wpList_nil ?_
 refine t _ _ ?_
 refine wp_seq_k fun S x=>?_
 refine wp_block ?_
 refine wp_seq_k fun V g=>?_
 refine wp_region_lit ?_
 refine PV (J ((m:Nat):Int)) rfl rfl ?_
 simp only [PA]
 by_cases k:m=0
 ·skip
  refine PV (T true) (CT (run_bin (J ((m:Nat):Int)) (J 0) _ rfl rfl rfl (bin_eql_104 _ _ _ _)) (congrArg Value.bool (beq_iff_eq.2 (by omega)))) rfl ?_
  simp only [PA]
  refine PV (T true) rfl rfl ?_
  simp only [PA]
  refine wpList_nil ?_
  refine g _ _ ?_
  refine cond_true rfl ?_
  refine wp_seq_k fun W y=>?_
  refine wp_region_lit ?_
  refine PV (E none 0 0) rfl rfl ?_
  simp only [PA]
  refine PV (T false) rfl rfl ?_
  simp only [PA]
  refine wpList_nil ?_
  refine y _ _ ?_
  refine wp_ret ?_
  repeat (with_reducible first | refine then_ret ?_ | refine inBlock_ret ?_)
  refine bodyPost_ret (results_tmp2 rfl _ _ _) rfl ?_
  exact retp (decide_eq_false (by omega)) (dg_small0 (m:=m) (by omega) k) ⟨⟨rfl,by omega,fun h=>absurd h (by omega)⟩,Nat.le_refl _⟩ b.bl
 ·skip
  refine PV (T false) (CT (run_bin (J ((m:Nat):Int)) (J 0) _ rfl rfl rfl (bin_eql_104 _ _ _ _)) (congrArg Value.bool (beq_eq_false_iff_ne.2 (by omega)))) rfl ?_
  simp only [PA]
  refine PV (T false) rfl rfl ?_
  simp only [PA]
  refine wpList_nil ?_
  refine g _ _ ?_
  refine cond_false rfl ?_
  refine wp_seq_k fun X l=>?_
  refine wp_region_lit ?_
  refine PV (J ((m:Nat):Int)) rfl rfl ?_
  simp only [PA]
  refine PV (J ((m / 4294967296:Nat):Int)) (CT (run_bin (J ((m:Nat):Int)) (J 32) _ rfl rfl rfl (bin_shr_104_u64 _ _ _ _)) (vint w_shr_32)) rfl ?_
  simp only [PA]
  by_cases n:m / 4294967296=0
  ·skip
   refine PV (T true) (CT (run_bin (J ((m / 4294967296:Nat):Int)) (J 0) _ rfl rfl rfl (bin_eql_104 _ _ _ _)) (congrArg Value.bool (beq_iff_eq.2 (by omega)))) rfl ?_
   simp only [PA]
   refine PV (T true) rfl rfl ?_
   simp only [PA]
   refine wpList_nil ?_
   refine l _ _ ?_
   refine cond_true rfl ?_
   refine wp_seq_k fun Y z=>?_
   refine region_drawn 8 (fun j=>decide (8≤j)) (by kernel_rfl) rfl b fun aa c ab=>?_
   refine TK (i:=0) (J ((m:Nat):Int)) rfl (by kernel_rfl) (fun _ _ _ h=>h) rfl (fun _ hS=>rfl) c.has ?_
   simp only [PA]
   refine TK (i:=1) (.int .u32 ((((m) % BW):Nat):Int)) rfl (by kernel_rfl) (fun _ _ _ h=>h) rfl (fun _ hS=>(run_cv _ rfl rfl rfl rfl (wrap_u32))) c.has ?_
   simp only [PA]
   refine TK (i:=3) (PT d 0) rfl (by kernel_rfl) (fun _ _ _ h=>h) rfl (fun _ hS=>(by kernel_rfl)) c.has ?_
   simp only [PA]
   refine TK (i:=4) (I (-((m:Nat):Int))) rfl (by kernel_rfl) (fun _ _ _ h=>h) rfl (fun _ hS=>(run_load1 (I (-((m:Nat):Int))) rfl rfl (hS _ (MI (i:=0) rfl)) rfl (ag2 _))) c.has ?_
   simp only [PA]
   refine TK (i:=5) (T true) rfl (by kernel_rfl) (fun _ _ _ h=>h) rfl (fun _ hS=>(CT (run_bin (I (-((m:Nat):Int))) (I 0) _ rfl rfl rfl (bin_lss_2 _ _ _ _)) (congrArg Value.bool (decide_eq_true (by omega))))) c.has ?_
   simp only [PA]
   refine anyT_one (i:=2) rfl (by kernel_rfl) rfl fun K hK=>o_lit (((m) % BW)) rfl rfl c fun A ac e ad=>hK _ _ (fun _=>(e.has).tail) ?_
   simp only [PA]
   refine TK (i:=6) (E (some ⟨A,0,none⟩) 1 1) rfl (by kernel_rfl) (fun _ _ _ h=>h) rfl (fun _ hS=>rfl) (e.has).tail ?_
   simp only [PA]
   refine TK (i:=7) (T true) rfl (by kernel_rfl) (fun _ _ _ h=>h) rfl (fun _ hS=>rfl) (e.has).tail ?_
   simp only [PA]
   refine anyT_done (by kernel_rfl) ?_ _
   refine z _ _ ?_
   refine wp_ret ?_
   repeat (with_reducible first | refine then_ret ?_ | refine inBlock_ret ?_)
   refine bodyPost_ret (results_tmp2 rfl _ _ _) rfl ?_
   exact retp (decide_eq_true (by omega)) (dg_small1 (m:=m) (by omega) k n) (wds_len (e.at_ _ (List.mem_of_getElem? (i:=0) rfl)) ⟨rfl,Nat.le_of_ble_eq_true rfl⟩) e.bl
  ·skip
   refine PV (T false) (CT (run_bin (J ((m / 4294967296:Nat):Int)) (J 0) _ rfl rfl rfl (bin_eql_104 _ _ _ _)) (congrArg Value.bool (beq_eq_false_iff_ne.2 (by omega)))) rfl ?_
   simp only [PA]
   refine PV (T false) rfl rfl ?_
   simp only [PA]
   refine wpList_nil ?_
   refine l _ _ ?_
   refine cond_false rfl ?_
   refine wp_skip ?_
   refine x _ _ ?_
   refine wp_seq_k fun ae C=>?_
   refine region_drawn 11 (fun j=>decide (11≤j)) (by kernel_rfl) rfl b fun af a ag=>?_
   refine TK (i:=0) (J ((m:Nat):Int)) rfl (by kernel_rfl) (fun _ _ _ h=>h) rfl (fun _ hS=>rfl) a.has ?_
   simp only [PA]
   refine TK (i:=1) (.int .u32 ((((m) % BW):Nat):Int)) rfl (by kernel_rfl) (fun _ _ _ h=>h) rfl (fun _ hS=>(run_cv _ rfl rfl rfl rfl (wrap_u32))) a.has ?_
   simp only [PA]
   refine TK (i:=2) (J ((m:Nat):Int)) rfl (by kernel_rfl) (fun _ _ _ h=>h) rfl (fun _ hS=>rfl) a.has ?_
   simp only [PA]
   refine TK (i:=3) (J ((m / 4294967296:Nat):Int)) rfl (by kernel_rfl) (fun _ _ _ h=>h) rfl (fun _ hS=>(CT (run_bin (J ((m:Nat):Int)) (J 32) _ rfl rfl rfl (bin_shr_104_u64 _ _ _ _)) (vint w_shr_32))) a.has ?_
   simp only [PA]
   refine TK (i:=4) (.int .u32 ((((m / 4294967296) % BW):Nat):Int)) rfl (by kernel_rfl) (fun _ _ _ h=>h) rfl (fun _ hS=>(run_cv _ rfl rfl rfl rfl (wrap_u32))) a.has ?_
   simp only [PA]
   refine TK (i:=6) (PT d 0) rfl (by kernel_rfl) (fun _ _ _ h=>h) rfl (fun _ hS=>(by kernel_rfl)) a.has ?_
   simp only [PA]
   refine TK (i:=7) (I (-((m:Nat):Int))) rfl (by kernel_rfl) (fun _ _ _ h=>h) rfl (fun _ hS=>(run_load1 (I (-((m:Nat):Int))) rfl rfl (hS _ (MI (i:=0) rfl)) rfl (ag2 _))) a.has ?_
   simp only [PA]
   refine TK (i:=8) (T true) rfl (by kernel_rfl) (fun _ _ _ h=>h) rfl (fun _ hS=>(CT (run_bin (I (-((m:Nat):Int))) (I 0) _ rfl rfl rfl (bin_lss_2 _ _ _ _)) (congrArg Value.bool (decide_eq_true (by omega))))) a.has ?_
   simp only [PA]
   refine anyT_one (i:=5) rfl (by kernel_rfl) rfl fun K hK=>o_lit2 (((m) % BW)) (((m / 4294967296) % BW)) rfl rfl rfl a fun D ah f ai=>hK _ _ (fun _=>(f.has).tail) ?_
   simp only [PA]
   refine TK (i:=9) (E (some ⟨D,0,none⟩) 2 2) rfl (by kernel_rfl) (fun _ _ _ h=>h) rfl (fun _ hS=>rfl) (f.has).tail ?_
   simp only [PA]
   refine TK (i:=10) (T true) rfl (by kernel_rfl) (fun _ _ _ h=>h) rfl (fun _ hS=>rfl) (f.has).tail ?_
   simp only [PA]
   refine anyT_done (by kernel_rfl) ?_ _
   refine C _ _ ?_
   refine wp_ret ?_
   repeat (with_reducible first | refine then_ret ?_ | refine inBlock_ret ?_)
   refine bodyPost_ret (results_tmp2 rfl _ _ _) rfl ?_
   exact retp (decide_eq_true (by omega)) (dg_small2 (m:=m) (by omega) (by omega) n) (wds_len (f.at_ _ (List.mem_of_getElem? (i:=0) rfl)) ⟨rfl,Nat.le_of_ble_eq_true rfl⟩) f.bl
set_option maxRecDepth 100000 in
set_option maxHeartbeats 2000000 in
theorem words_pos {m:Nat} {w:World} (hm:m<9223372036854775808):Calls Try.prog 111 #[AZ ((m:Nat):Int) none 0 0 false] w (RetP w ((m:Nat):Int)):=by
 go_enter Try.func111,Try.ntmps111
 have o:=St.start w
 refine wp_seq_k fun F p=>?_
 refine wp_region_lit ?_
 refine wpList_plain rfl fun K hK=>o_box (Z3 ((m:Nat):Int) none 0 0 false) rfl rfl rfl o fun d G b H=>hK _ _ ?_
 simp only [PA]
 refine PV (E none 0 0) rfl rfl ?_
 simp only [PA]
 refine PV (T false) rfl rfl ?_
 simp only [PA]
 refine wpList_nil ?_
 refine p _ _ ?_
 refine wp_seq_k fun L q=>?_
 refine wp_seq_k fun M r=>?_
 refine wp_region_lit ?_
 refine PV (PT d 1) (by kernel_rfl) rfl ?_
 simp only [PA]
 refine PV (E none 0 0) (run_load1 (E none 0 0) rfl rfl (b.at_ _ (MI (i:=0) rfl)) rfl (ag36 _)) rfl ?_
 simp only [PA]
 refine PV (T false) (run_bin (E none 0 0) (E none 0 0) _ rfl rfl rfl (bin_neq_36n _ _ _ _)) rfl ?_
 simp only [PA]
 refine wpList_nil ?_
 refine r _ _ ?_
 refine cond_false rfl ?_
 refine wp_skip ?_
 refine q _ _ ?_
 refine wp_seq_k fun N s=>?_
 refine wp_region_lit ?_
 refine PV (PT d 0) (by kernel_rfl) rfl ?_
 simp only [PA]
 refine PV (I ((m:Nat):Int)) (run_load1 (I ((m:Nat):Int)) rfl rfl (b.at_ _ (MI (i:=0) rfl)) rfl (ag2 _)) rfl ?_
 simp only [PA]
 refine PV (J ((m:Nat):Int)) (run_cv _ rfl rfl rfl rfl (wrap_u64 (by omega))) rfl ?_
 simp only [PA]
 refine PV (J ((m:Nat):Int)) rfl rfl ?_
 simp only [PA]
 refine wpList_nil ?_
 refine s _ _ ?_
 refine wp_seq_k fun P t=>?_
 refine wp_seq_k fun Q v=>?_
 refine wp_region_lit ?_
 refine PV (PT d 0) (by kernel_rfl) rfl ?_
 simp only [PA]
 refine PV (I ((m:Nat):Int)) (run_load1 (I ((m:Nat):Int)) rfl rfl (b.at_ _ (MI (i:=0) rfl)) rfl (ag2 _)) rfl ?_
 simp only [PA]
 refine PV (T false) (CT (run_bin (I ((m:Nat):Int)) (I 0) _ rfl rfl rfl (bin_lss_2 _ _ _ _)) (congrArg Value.bool (decide_eq_false (by omega)))) rfl ?_
 simp only [PA]
 refine wpList_nil ?_
 refine v _ _ ?_
 refine cond_false rfl ?_
 refine wp_skip ?_
 refine t _ _ ?_
 refine wp_seq_k fun R x=>?_
 refine wp_block ?_
 refine wp_seq_k fun S g=>?_
 refine wp_region_lit ?_
 refine PV (J ((m:Nat):Int)) rfl rfl ?_
 simp only [PA]
 by_cases k:m=0
 ·skip
  refine PV (T true) (CT (run_bin (J ((m:Nat):Int)) (J 0) _ rfl rfl rfl (bin_eql_104 _ _ _ _)) (congrArg Value.bool (beq_iff_eq.2 (by omega)))) rfl ?_
  simp only [PA]
  refine PV (T true) rfl rfl ?_
  simp only [PA]
  refine wpList_nil ?_
  refine g _ _ ?_
  refine cond_true rfl ?_
  refine wp_seq_k fun V y=>?_
  refine wp_region_lit ?_
  refine PV (E none 0 0) rfl rfl ?_
  simp only [PA]
  refine PV (T false) rfl rfl ?_
  simp only [PA]
  refine wpList_nil ?_
  refine y _ _ ?_
  refine wp_ret ?_
  repeat (with_reducible first | refine then_ret ?_ | refine inBlock_ret ?_)
  refine bodyPost_ret (results_tmp2 rfl _ _ _) rfl ?_
  exact retp (decide_eq_false (by omega)) (dg_small0 (m:=m) (by omega) k) ⟨⟨rfl,by omega,fun h=>absurd h (by omega)⟩,Nat.le_refl _⟩ b.bl
 ·skip
  refine PV (T false) (CT (run_bin (J ((m:Nat):Int)) (J 0) _ rfl rfl rfl (bin_eql_104 _ _ _ _)) (congrArg Value.bool (beq_eq_false_iff_ne.2 (by omega)))) rfl ?_
  simp only [PA]
  refine PV (T false) rfl rfl ?_
  simp only [PA]
  refine wpList_nil ?_
  refine g _ _ ?_
  refine cond_false rfl ?_
  refine wp_seq_k fun W l=>?_
  refine wp_region_lit ?_
  refine PV (J ((m:Nat):Int)) rfl rfl ?_
  simp only [PA]
  refine PV (J ((m / 4294967296:Nat):Int)) (CT (run_bin (J ((m:Nat):Int)) (J 32) _ rfl rfl rfl (bin_shr_104_u64 _ _ _ _)) (vint w_shr_32)) rfl ?_
  simp only [PA]
  by_cases n:m / 4294967296=0
  ·skip
   refine PV (T true) (CT (run_bin (J ((m / 4294967296:Nat):Int)) (J 0) _ rfl rfl rfl (bin_eql_104 _ _ _ _)) (congrArg Value.bool (beq_iff_eq.2 (by omega)))) rfl ?_
   simp only [PA]
   refine PV (T true) rfl rfl ?_
   simp only [PA]
   refine wpList_nil ?_
   refine l _ _ ?_
   refine cond_true rfl ?_
   refine wp_seq_k fun X z=>?_
   refine region_drawn 8 (fun j=>decide (8≤j)) (by kernel_rfl) rfl b fun Y c aa=>?_
   refine TK (i:=0) (J ((m:Nat):Int)) rfl (by kernel_rfl) (fun _ _ _ h=>h) rfl (fun _ hS=>rfl) c.has ?_
   simp only [PA]
   refine TK (i:=1) (.int .u32 ((((m) % BW):Nat):Int)) rfl (by kernel_rfl) (fun _ _ _ h=>h) rfl (fun _ hS=>(run_cv _ rfl rfl rfl rfl (wrap_u32))) c.has ?_
   simp only [PA]
   refine TK (i:=3) (PT d 0) rfl (by kernel_rfl) (fun _ _ _ h=>h) rfl (fun _ hS=>(by kernel_rfl)) c.has ?_
   simp only [PA]
   refine TK (i:=4) (I ((m:Nat):Int)) rfl (by kernel_rfl) (fun _ _ _ h=>h) rfl (fun _ hS=>(run_load1 (I ((m:Nat):Int)) rfl rfl (hS _ (MI (i:=0) rfl)) rfl (ag2 _))) c.has ?_
   simp only [PA]
   refine TK (i:=5) (T false) rfl (by kernel_rfl) (fun _ _ _ h=>h) rfl (fun _ hS=>(CT (run_bin (I ((m:Nat):Int)) (I 0) _ rfl rfl rfl (bin_lss_2 _ _ _ _)) (congrArg Value.bool (decide_eq_false (by omega))))) c.has ?_
   simp only [PA]
   refine anyT_one (i:=2) rfl (by kernel_rfl) rfl fun K hK=>o_lit (((m) % BW)) rfl rfl c fun A ab e ac=>hK _ _ (fun _=>(e.has).tail) ?_
   simp only [PA]
   refine TK (i:=6) (E (some ⟨A,0,none⟩) 1 1) rfl (by kernel_rfl) (fun _ _ _ h=>h) rfl (fun _ hS=>rfl) (e.has).tail ?_
   simp only [PA]
   refine TK (i:=7) (T false) rfl (by kernel_rfl) (fun _ _ _ h=>h) rfl (fun _ hS=>rfl) (e.has).tail ?_
   simp only [PA]
   refine anyT_done (by kernel_rfl) ?_ _
   refine z _ _ ?_
   refine wp_ret ?_
   repeat (with_reducible first | refine then_ret ?_ | refine inBlock_ret ?_)
   refine bodyPost_ret (results_tmp2 rfl _ _ _) rfl ?_
   exact retp (decide_eq_false (by omega)) (dg_small1 (m:=m) (by omega) k n) (wds_len (e.at_ _ (List.mem_of_getElem? (i:=0) rfl)) ⟨rfl,Nat.le_of_ble_eq_true rfl⟩) e.bl
  ·skip
   refine PV (T false) (CT (run_bin (J ((m / 4294967296:Nat):Int)) (J 0) _ rfl rfl rfl (bin_eql_104 _ _ _ _)) (congrArg Value.bool (beq_eq_false_iff_ne.2 (by omega)))) rfl ?_
   simp only [PA]
   refine PV (T false) rfl rfl ?_
   simp only [PA]
   refine wpList_nil ?_
   refine l _ _ ?_
   refine cond_false rfl ?_
   refine wp_skip ?_
   refine x _ _ ?_
   refine wp_seq_k fun ad C=>?_
   refine region_drawn 11 (fun j=>decide (11≤j)) (by kernel_rfl) rfl b fun ae a af=>?_
   refine TK (i:=0) (J ((m:Nat):Int)) rfl (by kernel_rfl) (fun _ _ _ h=>h) rfl (fun _ hS=>rfl) a.has ?_
   simp only [PA]
   refine TK (i:=1) (.int .u32 ((((m) % BW):Nat):Int)) rfl (by kernel_rfl) (fun _ _ _ h=>h) rfl (fun _ hS=>(run_cv _ rfl rfl rfl rfl (wrap_u32))) a.has ?_
   simp only [PA]
   refine TK (i:=2) (J ((m:Nat):Int)) rfl (by kernel_rfl) (fun _ _ _ h=>h) rfl (fun _ hS=>rfl) a.has ?_
   simp only [PA]
   refine TK (i:=3) (J ((m / 4294967296:Nat):Int)) rfl (by kernel_rfl) (fun _ _ _ h=>h) rfl (fun _ hS=>(CT (run_bin (J ((m:Nat):Int)) (J 32) _ rfl rfl rfl (bin_shr_104_u64 _ _ _ _)) (vint w_shr_32))) a.has ?_
   simp only [PA]
   refine TK (i:=4) (.int .u32 ((((m / 4294967296) % BW):Nat):Int)) rfl (by kernel_rfl) (fun _ _ _ h=>h) rfl (fun _ hS=>(run_cv _ rfl rfl rfl rfl (wrap_u32))) a.has ?_
   simp only [PA]
   refine TK (i:=6) (PT d 0) rfl (by kernel_rfl) (fun _ _ _ h=>h) rfl (fun _ hS=>(by kernel_rfl)) a.has ?_
   simp only [PA]
   refine TK (i:=7) (I ((m:Nat):Int)) rfl (by kernel_rfl) (fun _ _ _ h=>h) rfl (fun _ hS=>(run_load1 (I ((m:Nat):Int)) rfl rfl (hS _ (MI (i:=0) rfl)) rfl (ag2 _))) a.has ?_
   simp only [PA]
   refine TK (i:=8) (T false) rfl (by kernel_rfl) (fun _ _ _ h=>h) rfl (fun _ hS=>(CT (run_bin (I ((m:Nat):Int)) (I 0) _ rfl rfl rfl (bin_lss_2 _ _ _ _)) (congrArg Value.bool (decide_eq_false (by omega))))) a.has ?_
   simp only [PA]
   refine anyT_one (i:=5) rfl (by kernel_rfl) rfl fun K hK=>o_lit2 (((m) % BW)) (((m / 4294967296) % BW)) rfl rfl rfl a fun D ag f ah=>hK _ _ (fun _=>(f.has).tail) ?_
   simp only [PA]
   refine TK (i:=9) (E (some ⟨D,0,none⟩) 2 2) rfl (by kernel_rfl) (fun _ _ _ h=>h) rfl (fun _ hS=>rfl) (f.has).tail ?_
   simp only [PA]
   refine TK (i:=10) (T false) rfl (by kernel_rfl) (fun _ _ _ h=>h) rfl (fun _ hS=>rfl) (f.has).tail ?_
   simp only [PA]
   refine anyT_done (by kernel_rfl) ?_ _
   refine C _ _ ?_
   refine wp_ret ?_
   repeat (with_reducible first | refine then_ret ?_ | refine inBlock_ret ?_)
   refine bodyPost_ret (results_tmp2 rfl _ _ _) rfl ?_
   exact retp (decide_eq_false (by omega)) (dg_small2 (m:=m) (by omega) (by omega) n) (wds_len (f.at_ _ (List.mem_of_getElem? (i:=0) rfl)) ⟨rfl,Nat.le_of_ble_eq_true rfl⟩) f.bl
set_option maxRecDepth 100000 in
set_option maxHeartbeats 2000000 in
theorem words_big {z:Int} {ad:Addr} {n c:Nat} {s:Bool} {w:World} (hx:Wds w (some ad) n c (dg z.natAbs)) (hs:decide (z<0)=s):Calls Try.prog 111 #[AZ 0 (some ad) n c s] w (RetP w z):=by
 go_enter Try.func111,Try.ntmps111
 have e:=St.start w
 refine wp_seq_k fun l f=>?_
 refine wp_region_lit ?_
 refine wpList_plain rfl fun K hK=>o_box (Z3 0 (some ad) n c s) rfl rfl rfl e fun b m d o=>hK _ _ ?_
 simp only [PA]
 refine PV (E none 0 0) rfl rfl ?_
 simp only [PA]
 refine PV (T false) rfl rfl ?_
 simp only [PA]
 refine wpList_nil ?_
 refine f _ _ ?_
 refine wp_seq_k fun p q=>?_
 refine wp_seq_k fun r g=>?_
 refine wp_region_lit ?_
 refine PV (PT b 1) (by kernel_rfl) rfl ?_
 simp only [PA]
 refine PV (E (some ad) n c) (run_load1 (E (some ad) n c) rfl rfl (d.at_ _ (MI (i:=0) rfl)) rfl (ag36 _)) rfl ?_
 simp only [PA]
 refine PV (T true) (run_bin (E (some ad) n c) (E none 0 0) _ rfl rfl rfl (bin_neq_36s _ _ _ _ _)) rfl ?_
 simp only [PA]
 refine wpList_nil ?_
 refine g _ _ ?_
 refine cond_true rfl ?_
 refine wp_seq_k fun t k=>?_
 refine region_drawn 6 (fun j=>decide (6≤j)) (by kernel_rfl) rfl d fun v a x=>?_
 refine TK (i:=0) (PT b 1) rfl (by kernel_rfl) (fun _ _ _ h=>h) rfl (fun _ hS=>(by kernel_rfl)) a.has ?_
 simp only [PA]
 refine TK (i:=1) (E (some ad) n c) rfl (by kernel_rfl) (fun _ _ _ h=>h) rfl (fun _ hS=>(run_load1 (E (some ad) n c) rfl rfl (hS _ (MI (i:=0) rfl)) rfl (ag36 _))) a.has ?_
 simp only [PA]
 refine TK (i:=2) (PT b 2) rfl (by kernel_rfl) (fun _ _ _ h=>h) rfl (fun _ hS=>(by kernel_rfl)) a.has ?_
 simp only [PA]
 refine TK (i:=3) (T s) rfl (by kernel_rfl) (fun _ _ _ h=>h) rfl (fun _ hS=>(run_load1 (T s) rfl rfl (hS _ (MI (i:=0) rfl)) rfl (ag4 _))) a.has ?_
 simp only [PA]
 refine TK (i:=4) (E (some ad) n c) rfl (by kernel_rfl) (fun _ _ _ h=>h) rfl (fun _ hS=>rfl) a.has ?_
 simp only [PA]
 refine TK (i:=5) (T s) rfl (by kernel_rfl) (fun _ _ _ h=>h) rfl (fun _ hS=>rfl) a.has ?_
 simp only [PA]
 refine anyT_done (by kernel_rfl) ?_ _
 refine k _ _ ?_
 refine wp_ret ?_
 repeat (with_reducible first | refine then_ret ?_ | refine inBlock_ret ?_)
 refine bodyPost_ret (results_tmp2 rfl _ _ _) rfl ?_
 exact retp hs rfl (hx.below a.bl) a.bl
theorem words_c {v : Value} {z : Int} {w : World} (h : Zh w v z) : Calls Try.prog 111 #[v] w (RetP w z) := by
 rcases h with ⟨rfl, h1, h2⟩ | ⟨ad, n, c, rfl, hx, _⟩
 ·by_cases hz : z < 0
  ·obtain ⟨m, rfl⟩ : ∃ m : Nat, z = -((m : Nat) : Int) := ⟨z.natAbs, by omega⟩
   exact words_neg (by omega) (by omega)
  ·obtain ⟨m, rfl⟩ : ∃ m : Nat, z = ((m : Nat) : Int) := ⟨z.natAbs, by omega⟩
   exact words_pos (by omega)
 ·exact words_big hx rfl
end Go.Proofs.Ythhgjloephkpaaa
