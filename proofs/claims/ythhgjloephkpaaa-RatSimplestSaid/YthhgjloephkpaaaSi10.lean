/- Words and walks for the row RowRatSimplest, put together: RSM, RT, RW, RY, RIS. -/
import Derived.Test.YthhgjloephkpaaaSi5
import Derived.Test.YthhgjloephkpaaaSi4
import Derived.Test.YthhgjloephkpaaaSi8
import Derived.Test.YthhgjloephkpaaaSi9
import Derived.Test.YthhgjloephkpaaaSi6
namespace Go.Proofs.Ythhgjloephkpaaa
set_option linter.unusedVariables false
set_option linter.unusedSimpArgs false
open Go Go.RowKit Go.Proofs.YthhgjloephkpaaaW.PrintWords Go.Proofs.YthhgjloephkpaaaW.PrintLast
theorem pow32 (i : Nat) : 2 ^ (32 * i) = BW ^ i := by rw [Nat.pow_mul]; rfl
theorem or_lay {u a i : Nat} (hi : i ≤ 1) (hu : u < BW ^ i) (ha : a < BW) : bits .or .u64 ((u : Nat) : Int) ((a * 2 ^ (32 * i) : Nat) : Int) = ((u + a * 2 ^ (32 * i) : Nat) : Int) := by
 have h2 : a * 2 ^ (32 * i) ≤ a * 2 ^ 32 := Nat.mul_le_mul_left _ (Nat.pow_le_pow_right (by omega) (by omega))
 have h3 : BW ^ i ≤ BW ^ 1 := Nat.pow_le_pow_right BW_pos hi
 rw [Nat.pow_one] at h3
 rw [bits_or_u64_nat _ _ (by rw [BW_eq] at *; omega) (by rw [BW_eq] at *; omega)]
 congr 1
 rw [← pow32] at hu
 rw [Nat.mul_comm a]
 exact or_add (s := 32 * i) (o := u) (q := a) hu
theorem w_mul32 {i : Nat} (h : i ≤ 1) : IntKind.u64.wrap ((32 : Int) * ((i : Nat) : Int)) = ((32 * i : Nat) : Int) := by
 rw [show (32 : Int) * (i : Int) = ((32 * i : Nat) : Int) from by omega]; exact wrap64 (by omega)
theorem small_no {z : Int} {n : Nat} (hl : (dg z.natAbs).length = n) (hn : 2 < n) : ¬ (-9223372036854775808 ≤ z ∧ z < 9223372036854775808) := by
 intro h
 have h1 : z.natAbs < BW ^ 2 := by rw [show BW ^ 2 = 18446744073709551616 from by decide]; omega
 have := dg_len_le h1
 omega
theorem small_step {z i n a u : Nat} (hl : (dg z).length = n) (hi : i < n) (ha : (dg z).getD i 0 = a) (hu : val ((dg z).take i) = u) : val ((dg z).take (i + 1)) = u + a * 2 ^ (32 * i) := by
 subst ha hu
 rw [val_take_step, pow32, Nat.mul_comm]
theorem small_lt {z i u : Nat} (hu : val ((dg z).take i) = u) : u < BW ^ i := by
 subst hu
 have h := val_lt ((dg_dig z).take i)
 have h2 : BW ^ ((dg z).take i).length ≤ BW ^ i := Nat.pow_le_pow_right BW_pos (by rw [List.length_take]; omega)
 omega
theorem small_end {z i n u : Nat} (hl : (dg z).length = n) (hi : i ≤ n) (hn : n ≤ i) (hu : val ((dg z).take i) = u) : u = z := by
 subst hu
 rw [val_take_le (by omega), val_dg]
theorem small_neg {z : Int} {u : Nat} (hu : u = z.natAbs) (hz : z < 0) : (decide (((u : Nat) : Int) ≤ 9223372036854775808) = true ↔ -9223372036854775808 ≤ z ∧ z < 9223372036854775808) ∧ (decide (((u : Nat) : Int) ≤ 9223372036854775808) = true → IntKind.i64.wrap (IntKind.u64.wrap (-((u : Nat) : Int))) = z) := by
 rw [decide_eq_true_iff, IntKind.wrap_i64, IntKind.wrap_u64]
 omega
theorem small_pos {z : Int} {u : Nat} (hu : u = z.natAbs) (hz : ¬ z < 0) : (decide (((u : Nat) : Int) < 9223372036854775808) = true ↔ -9223372036854775808 ≤ z ∧ z < 9223372036854775808) ∧ (decide (((u : Nat) : Int) < 9223372036854775808) = true → IntKind.i64.wrap ((u : Nat) : Int) = z) := by
 rw [decide_eq_true_iff, IntKind.wrap_i64]
 omega
set_option maxRecDepth 100000 in
set_option maxHeartbeats 2000000 in
theorem small_some_t {ad:Addr} {n c:Nat} {z:Int} {w:World} (hx:Wds w (some ad) n c (dg z.natAbs)) (sg:decide (z<0)=true) (hzl:(dg z.natAbs).length=n) (hnm:n≤9223372036854775807) (hn:n≤2):Calls Try.prog 70 #[AW (some ad) n c true] w (RetIB w z):=by
 go_enter Try.func70,Try.ntmps70
 have l:=St.start w
 refine wp_seq_k fun F o=>?_
 refine wp_region_lit ?_
 refine wpList_plain rfl fun K hK=>o_box (W2 (some ad) n c true) rfl rfl rfl l fun d G g H=>hK _ _ ?_
 simp only [PA]
 refine PV (I 0) rfl rfl ?_
 simp only [PA]
 refine PV (T false) rfl rfl ?_
 simp only [PA]
 refine wpList_nil ?_
 refine o _ _ ?_
 refine wp_seq_k fun L p=>?_
 refine wp_seq_k fun M q=>?_
 refine wp_region_lit ?_
 refine PV (PT d 0) (by kernel_rfl) rfl ?_
 simp only [PA]
 refine PV (E (some ad) n c) (run_load1 (E (some ad) n c) rfl rfl (g.at_ _ (MI (i:=0) rfl)) rfl (ag36 _)) rfl ?_
 simp only [PA]
 refine PV (I (n:Int)) (run_len36 rfl rfl) rfl ?_
 simp only [PA]
 refine PV (T false) (CT (run_bin (I (n:Int)) (I 2) _ rfl rfl rfl (bin_gtr_3 _ _ _ _)) (congrArg Value.bool (decide_eq_false (by omega)))) rfl ?_
 simp only [PA]
 refine wpList_nil ?_
 refine q _ _ ?_
 refine cond_false rfl ?_
 refine wp_skip ?_
 refine p _ _ ?_
 refine wp_seq_k fun N r=>?_
 refine wp_region_lit ?_
 refine PV (J 0) rfl rfl ?_
 simp only [PA]
 refine wpList_nil ?_
 refine r _ _ ?_
 refine wp_seq_k fun P v=>?_
 refine wp_seq_k fun Q x=>?_
 refine wp_region_lit ?_
 refine PV (I 0) rfl rfl ?_
 simp only [PA]
 refine wpList_nil ?_
 refine x _ _ ?_
 refine wp_block ?_
 refine wp_loop_g (fun mm aa_ w'=>∃ (i:Nat) (u:Nat) (b:List Value),aa_=⟨#[AW (some ad) n c true,PT d 0,I 0,T false,J ((u:Nat):Int),I ((i:Nat):Int),PT d 0,E (some ad) n c,I (n:Int),T false,(GD b 0),(GD b 1),(GD b 2),(GD b 3),(GD b 4),(GD b 5),(GD b 6),(GD b 7),(GD b 8),(GD b 9),(GD b 10),(GD b 11),(GD b 12),(GD b 13),(GD b 14),(GD b 15),(GD b 16),(GD b 17),(GD b 18),O,O,O,O,O,O,O,O,O,O,O],[]⟩∧St w w' [⟨d,(W2 (some ad) n c true),38⟩]∧(i≤n)∧(val ((dg z.natAbs).take i)=u)∧n - i=mm) (n) ⟨0,0,[O,O,O,O,O,O,O,O,O,O,O,O,O,O,O,O,O,O,O],rfl,g,by omega,rfl,rfl⟩ ?_
 rintro _ _ R ⟨i,u,b,rfl,e,hin,hu,rfl⟩
 refine wp_seq_k fun S y=>?_
 refine wp_seq_k fun V h=>?_
 refine wp_region_lit ?_
 refine PV (I ((i:Nat):Int)) rfl rfl ?_
 simp only [PA]
 refine PV (PT d 0) (by kernel_rfl) rfl ?_
 simp only [PA]
 refine PV (E (some ad) n c) (run_load1 (E (some ad) n c) rfl rfl (e.at_ _ (MI (i:=0) rfl)) rfl (ag36 _)) rfl ?_
 simp only [PA]
 refine PV (I (n:Int)) (run_len36 rfl rfl) rfl ?_
 simp only [PA]
 by_cases hil:(((i:Nat):Int):Int)<(n:Int)
 ·skip
  refine PV (T true) (CT (run_bin (I ((i:Nat):Int)) (I (n:Int)) _ rfl rfl rfl (bin_lss_3 _ _ _ _)) (congrArg Value.bool (decide_eq_true hil))) rfl ?_
  simp only [PA]
  refine wpList_nil ?_
  refine h _ _ ?_
  refine cond_true rfl ?_
  refine wp_skip ?_
  refine y _ _ ?_
  refine wp_seq_k fun W A=>?_
  refine wp_block ?_
  refine wp_region_lit ?_
  refine PV (J ((u:Nat):Int)) rfl rfl ?_
  simp only [PA]
  refine PV (PT d 0) (by kernel_rfl) rfl ?_
  simp only [PA]
  refine PV (E (some ad) n c) (run_load1 (E (some ad) n c) rfl rfl (e.at_ _ (MI (i:=0) rfl)) rfl (ag36 _)) rfl ?_
  simp only [PA]
  refine PV (I ((i:Nat):Int)) rfl rfl ?_
  simp only [PA]
  refine PV (.pointer (some (ad.add i))) (run_idx (t:=36) rfl rfl rfl (by omega)) rfl ?_
  simp only [PA]
  obtain ⟨a,ha⟩:∃ t:Nat,(dg z.natAbs).getD i 0=t:=⟨_,rfl⟩
  have haB:a<BW:=ha▸(dg_dig _).at_ i
  have j:i≤1:=by omega
  have huB:=small_lt hu
  refine PV (.int .u32 ((a:Nat):Int)) (CT (run_loadW _ rfl rfl ((hx.below e.bl).cellA (by omega)) (ag100 _)) (vnat ha)) rfl ?_
  simp only [PA]
  refine PV (J ((a:Nat):Int)) (run_cv _ rfl rfl rfl rfl (wrap_u64 (by rw [BW_eq] at haB; omega))) rfl ?_
  simp only [PA]
  refine PV (I ((i:Nat):Int)) rfl rfl ?_
  simp only [PA]
  refine PV (J ((i:Nat):Int)) (run_cv _ rfl rfl rfl rfl (wrap_u64 (by omega))) rfl ?_
  simp only [PA]
  refine PV (J ((32 * i:Nat):Int)) (CT (run_bin (J 32) (J ((i:Nat):Int)) _ rfl rfl rfl (bin_mul_106 _ _ _ _)) (vint (w_mul32 j))) rfl ?_
  simp only [PA]
  refine PV (J ((a * 2 ^ (32 * i):Nat):Int)) (CT (run_bin (J ((a:Nat):Int)) (J ((32 * i:Nat):Int)) _ rfl rfl rfl (bin_shl_104_u64 _ _ _ _)) (vint (w_shl_s (a:=a) (s:=32 * i) haB (by omega)))) rfl ?_
  simp only [PA]
  obtain ⟨f,k⟩:∃ t:Nat,u+a * 2 ^ (32 * i)=t:=⟨_,rfl⟩
  refine PV (J ((f:Nat):Int)) (CT (run_bin (J ((u:Nat):Int)) (J ((a * 2 ^ (32 * i):Nat):Int)) _ rfl rfl rfl (bin_or_104 _ _ _ _)) ((vint (or_lay j huB haB)).trans (vnat k))) rfl ?_
  simp only [PA]
  refine PV (J ((f:Nat):Int)) rfl rfl ?_
  simp only [PA]
  refine wpList_nil ?_
  refine A _ _ ?_
  refine wp_region_lit ?_
  refine PV (I ((i:Nat):Int)) rfl rfl ?_
  simp only [PA]
  refine PV (I ((i+1:Nat):Int)) (CT (run_bin (I ((i:Nat):Int)) (I 1) _ rfl rfl rfl (bin_add_3 _ _ _ _)) (vint (i_add (m:=i) (n:=1) (by omega)))) rfl ?_
  simp only [PA]
  refine PV (I ((i+1:Nat):Int)) rfl rfl ?_
  simp only [PA]
  refine wpList_nil ?_
  exact ⟨n - (i+1),by omega,i+1,f,[I ((i:Nat):Int),PT d 0,E (some ad) n c,I (n:Int),T true,I ((i:Nat):Int),I ((i+1:Nat):Int),J ((u:Nat):Int),PT d 0,E (some ad) n c,I ((i:Nat):Int),.pointer (some (ad.add i)),.int .u32 ((a:Nat):Int),J ((a:Nat):Int),I ((i:Nat):Int),J ((i:Nat):Int),J ((32 * i:Nat):Int),J ((a * 2 ^ (32 * i):Nat):Int),J ((f:Nat):Int)],rfl,e,by omega,(small_step hzl (by omega) ha hu).trans k,rfl⟩
 ·skip
  refine PV (T false) (CT (run_bin (I ((i:Nat):Int)) (I (n:Int)) _ rfl rfl rfl (bin_lss_3 _ _ _ _)) (congrArg Value.bool (decide_eq_false hil))) rfl ?_
  simp only [PA]
  refine wpList_nil ?_
  refine h _ _ ?_
  refine cond_false rfl ?_
  refine wp_exit ?_
  refine v _ _ ?_
  refine wp_seq_k fun X Y=>?_
  refine wp_seq_k fun aa C=>?_
  refine wp_region_lit ?_
  refine PV (PT d 1) (by kernel_rfl) rfl ?_
  simp only [PA]
  refine PV (T true) (run_load1 (T true) rfl rfl (e.at_ _ (MI (i:=0) rfl)) rfl (ag4 _)) rfl ?_
  simp only [PA]
  refine wpList_nil ?_
  refine C _ _ ?_
  refine cond_true rfl ?_
  refine wp_seq_k fun ab D=>?_
  refine wp_region_lit ?_
  refine PV (J ((u:Nat):Int)) rfl rfl ?_
  simp only [PA]
  refine PV (J (IntKind.u64.wrap (-(((u:Nat):Int))))) (run_neg ((u:Nat):Int) rfl rfl) rfl ?_
  simp only [PA]
  refine PV (I (IntKind.i64.wrap ((IntKind.u64.wrap (-(((u:Nat):Int))))))) (run_cv _ rfl rfl rfl rfl rfl) rfl ?_
  simp only [PA]
  refine PV (J ((u:Nat):Int)) rfl rfl ?_
  simp only [PA]
  refine PV (T (decide ((((u:Nat):Int):Int)≤9223372036854775808))) (run_bin (J ((u:Nat):Int)) (J 9223372036854775808) _ rfl rfl rfl (bin_leq_104 _ _ _ _)) rfl ?_
  simp only [PA]
  refine PV (I (IntKind.i64.wrap ((IntKind.u64.wrap (-(((u:Nat):Int))))))) rfl rfl ?_
  simp only [PA]
  refine PV (T (decide ((((u:Nat):Int):Int)≤9223372036854775808))) rfl rfl ?_
  simp only [PA]
  refine wpList_nil ?_
  refine D _ _ ?_
  refine wp_ret ?_
  repeat (with_reducible first | refine then_ret ?_ | refine inBlock_ret ?_)
  refine bodyPost_ret (results_tmp2 rfl _ _ _) rfl ?_
  have hue:=small_end hzl hin (by omega) hu
  have hfin:=small_neg hue (by first | exact of_decide_eq_true sg | exact of_decide_eq_false sg)
  exact ⟨⟨_,rfl,_,_,rfl,hfin.1,hfin.2⟩,e.bl⟩
set_option maxRecDepth 100000 in
set_option maxHeartbeats 2000000 in
theorem small_some_f {ad:Addr} {n c:Nat} {z:Int} {w:World} (hx:Wds w (some ad) n c (dg z.natAbs)) (sg:decide (z<0)=false) (hzl:(dg z.natAbs).length=n) (hnm:n≤9223372036854775807) (hn:n≤2):Calls Try.prog 70 #[AW (some ad) n c false] w (RetIB w z):=by
 go_enter Try.func70,Try.ntmps70
 have l:=St.start w
 refine wp_seq_k fun G o=>?_
 refine wp_region_lit ?_
 refine wpList_plain rfl fun K hK=>o_box (W2 (some ad) n c false) rfl rfl rfl l fun d H g L=>hK _ _ ?_
 simp only [PA]
 refine PV (I 0) rfl rfl ?_
 simp only [PA]
 refine PV (T false) rfl rfl ?_
 simp only [PA]
 refine wpList_nil ?_
 refine o _ _ ?_
 refine wp_seq_k fun M p=>?_
 refine wp_seq_k fun N q=>?_
 refine wp_region_lit ?_
 refine PV (PT d 0) (by kernel_rfl) rfl ?_
 simp only [PA]
 refine PV (E (some ad) n c) (run_load1 (E (some ad) n c) rfl rfl (g.at_ _ (MI (i:=0) rfl)) rfl (ag36 _)) rfl ?_
 simp only [PA]
 refine PV (I (n:Int)) (run_len36 rfl rfl) rfl ?_
 simp only [PA]
 refine PV (T false) (CT (run_bin (I (n:Int)) (I 2) _ rfl rfl rfl (bin_gtr_3 _ _ _ _)) (congrArg Value.bool (decide_eq_false (by omega)))) rfl ?_
 simp only [PA]
 refine wpList_nil ?_
 refine q _ _ ?_
 refine cond_false rfl ?_
 refine wp_skip ?_
 refine p _ _ ?_
 refine wp_seq_k fun P r=>?_
 refine wp_region_lit ?_
 refine PV (J 0) rfl rfl ?_
 simp only [PA]
 refine wpList_nil ?_
 refine r _ _ ?_
 refine wp_seq_k fun Q v=>?_
 refine wp_seq_k fun R x=>?_
 refine wp_region_lit ?_
 refine PV (I 0) rfl rfl ?_
 simp only [PA]
 refine wpList_nil ?_
 refine x _ _ ?_
 refine wp_block ?_
 refine wp_loop_g (fun mm aa_ w'=>∃ (i:Nat) (u:Nat) (b:List Value),aa_=⟨#[AW (some ad) n c false,PT d 0,I 0,T false,J ((u:Nat):Int),I ((i:Nat):Int),PT d 0,E (some ad) n c,I (n:Int),T false,(GD b 0),(GD b 1),(GD b 2),(GD b 3),(GD b 4),(GD b 5),(GD b 6),(GD b 7),(GD b 8),(GD b 9),(GD b 10),(GD b 11),(GD b 12),(GD b 13),(GD b 14),(GD b 15),(GD b 16),(GD b 17),(GD b 18),O,O,O,O,O,O,O,O,O,O,O],[]⟩∧St w w' [⟨d,(W2 (some ad) n c false),38⟩]∧(i≤n)∧(val ((dg z.natAbs).take i)=u)∧n - i=mm) (n) ⟨0,0,[O,O,O,O,O,O,O,O,O,O,O,O,O,O,O,O,O,O,O],rfl,g,by omega,rfl,rfl⟩ ?_
 rintro _ _ S ⟨i,u,b,rfl,e,hin,hu,rfl⟩
 refine wp_seq_k fun V y=>?_
 refine wp_seq_k fun W h=>?_
 refine wp_region_lit ?_
 refine PV (I ((i:Nat):Int)) rfl rfl ?_
 simp only [PA]
 refine PV (PT d 0) (by kernel_rfl) rfl ?_
 simp only [PA]
 refine PV (E (some ad) n c) (run_load1 (E (some ad) n c) rfl rfl (e.at_ _ (MI (i:=0) rfl)) rfl (ag36 _)) rfl ?_
 simp only [PA]
 refine PV (I (n:Int)) (run_len36 rfl rfl) rfl ?_
 simp only [PA]
 by_cases hil:(((i:Nat):Int):Int)<(n:Int)
 ·skip
  refine PV (T true) (CT (run_bin (I ((i:Nat):Int)) (I (n:Int)) _ rfl rfl rfl (bin_lss_3 _ _ _ _)) (congrArg Value.bool (decide_eq_true hil))) rfl ?_
  simp only [PA]
  refine wpList_nil ?_
  refine h _ _ ?_
  refine cond_true rfl ?_
  refine wp_skip ?_
  refine y _ _ ?_
  refine wp_seq_k fun X A=>?_
  refine wp_block ?_
  refine wp_region_lit ?_
  refine PV (J ((u:Nat):Int)) rfl rfl ?_
  simp only [PA]
  refine PV (PT d 0) (by kernel_rfl) rfl ?_
  simp only [PA]
  refine PV (E (some ad) n c) (run_load1 (E (some ad) n c) rfl rfl (e.at_ _ (MI (i:=0) rfl)) rfl (ag36 _)) rfl ?_
  simp only [PA]
  refine PV (I ((i:Nat):Int)) rfl rfl ?_
  simp only [PA]
  refine PV (.pointer (some (ad.add i))) (run_idx (t:=36) rfl rfl rfl (by omega)) rfl ?_
  simp only [PA]
  obtain ⟨a,ha⟩:∃ t:Nat,(dg z.natAbs).getD i 0=t:=⟨_,rfl⟩
  have haB:a<BW:=ha▸(dg_dig _).at_ i
  have j:i≤1:=by omega
  have huB:=small_lt hu
  refine PV (.int .u32 ((a:Nat):Int)) (CT (run_loadW _ rfl rfl ((hx.below e.bl).cellA (by omega)) (ag100 _)) (vnat ha)) rfl ?_
  simp only [PA]
  refine PV (J ((a:Nat):Int)) (run_cv _ rfl rfl rfl rfl (wrap_u64 (by rw [BW_eq] at haB; omega))) rfl ?_
  simp only [PA]
  refine PV (I ((i:Nat):Int)) rfl rfl ?_
  simp only [PA]
  refine PV (J ((i:Nat):Int)) (run_cv _ rfl rfl rfl rfl (wrap_u64 (by omega))) rfl ?_
  simp only [PA]
  refine PV (J ((32 * i:Nat):Int)) (CT (run_bin (J 32) (J ((i:Nat):Int)) _ rfl rfl rfl (bin_mul_106 _ _ _ _)) (vint (w_mul32 j))) rfl ?_
  simp only [PA]
  refine PV (J ((a * 2 ^ (32 * i):Nat):Int)) (CT (run_bin (J ((a:Nat):Int)) (J ((32 * i:Nat):Int)) _ rfl rfl rfl (bin_shl_104_u64 _ _ _ _)) (vint (w_shl_s (a:=a) (s:=32 * i) haB (by omega)))) rfl ?_
  simp only [PA]
  obtain ⟨f,k⟩:∃ t:Nat,u+a * 2 ^ (32 * i)=t:=⟨_,rfl⟩
  refine PV (J ((f:Nat):Int)) (CT (run_bin (J ((u:Nat):Int)) (J ((a * 2 ^ (32 * i):Nat):Int)) _ rfl rfl rfl (bin_or_104 _ _ _ _)) ((vint (or_lay j huB haB)).trans (vnat k))) rfl ?_
  simp only [PA]
  refine PV (J ((f:Nat):Int)) rfl rfl ?_
  simp only [PA]
  refine wpList_nil ?_
  refine A _ _ ?_
  refine wp_region_lit ?_
  refine PV (I ((i:Nat):Int)) rfl rfl ?_
  simp only [PA]
  refine PV (I ((i+1:Nat):Int)) (CT (run_bin (I ((i:Nat):Int)) (I 1) _ rfl rfl rfl (bin_add_3 _ _ _ _)) (vint (i_add (m:=i) (n:=1) (by omega)))) rfl ?_
  simp only [PA]
  refine PV (I ((i+1:Nat):Int)) rfl rfl ?_
  simp only [PA]
  refine wpList_nil ?_
  exact ⟨n - (i+1),by omega,i+1,f,[I ((i:Nat):Int),PT d 0,E (some ad) n c,I (n:Int),T true,I ((i:Nat):Int),I ((i+1:Nat):Int),J ((u:Nat):Int),PT d 0,E (some ad) n c,I ((i:Nat):Int),.pointer (some (ad.add i)),.int .u32 ((a:Nat):Int),J ((a:Nat):Int),I ((i:Nat):Int),J ((i:Nat):Int),J ((32 * i:Nat):Int),J ((a * 2 ^ (32 * i):Nat):Int),J ((f:Nat):Int)],rfl,e,by omega,(small_step hzl (by omega) ha hu).trans k,rfl⟩
 ·skip
  refine PV (T false) (CT (run_bin (I ((i:Nat):Int)) (I (n:Int)) _ rfl rfl rfl (bin_lss_3 _ _ _ _)) (congrArg Value.bool (decide_eq_false hil))) rfl ?_
  simp only [PA]
  refine wpList_nil ?_
  refine h _ _ ?_
  refine cond_false rfl ?_
  refine wp_exit ?_
  refine v _ _ ?_
  refine wp_seq_k fun Y C=>?_
  refine wp_seq_k fun aa D=>?_
  refine wp_region_lit ?_
  refine PV (PT d 1) (by kernel_rfl) rfl ?_
  simp only [PA]
  refine PV (T false) (run_load1 (T false) rfl rfl (e.at_ _ (MI (i:=0) rfl)) rfl (ag4 _)) rfl ?_
  simp only [PA]
  refine wpList_nil ?_
  refine D _ _ ?_
  refine cond_false rfl ?_
  refine wp_skip ?_
  refine C _ _ ?_
  refine wp_seq_k fun ab F=>?_
  refine wp_region_lit ?_
  refine PV (J ((u:Nat):Int)) rfl rfl ?_
  simp only [PA]
  refine PV (I (IntKind.i64.wrap (((u:Nat):Int)))) (run_cv _ rfl rfl rfl rfl rfl) rfl ?_
  simp only [PA]
  refine PV (J ((u:Nat):Int)) rfl rfl ?_
  simp only [PA]
  refine PV (T (decide ((((u:Nat):Int):Int)<9223372036854775808))) (run_bin (J ((u:Nat):Int)) (J 9223372036854775808) _ rfl rfl rfl (bin_lss_104 _ _ _ _)) rfl ?_
  simp only [PA]
  refine PV (I (IntKind.i64.wrap (((u:Nat):Int)))) rfl rfl ?_
  simp only [PA]
  refine PV (T (decide ((((u:Nat):Int):Int)<9223372036854775808))) rfl rfl ?_
  simp only [PA]
  refine wpList_nil ?_
  refine F _ _ ?_
  refine wp_ret ?_
  repeat (with_reducible first | refine then_ret ?_ | refine inBlock_ret ?_)
  refine bodyPost_ret (results_tmp2 rfl _ _ _) rfl ?_
  have hue:=small_end hzl hin (by omega) hu
  have hfin:=small_pos hue (by first | exact of_decide_eq_true sg | exact of_decide_eq_false sg)
  exact ⟨⟨_,rfl,_,_,rfl,hfin.1,hfin.2⟩,e.bl⟩
set_option maxRecDepth 100000 in
set_option maxHeartbeats 2000000 in
theorem small_none_t {A:Option Addr} {n c:Nat} {z:Int} {w:World} (hx:Wds w A n c (dg z.natAbs)) (sg:decide (z<0)=true) (hzl:(dg z.natAbs).length=n) (hnm:n≤9223372036854775807) (hn:n=0):Calls Try.prog 70 #[AW A n c true] w (RetIB w z):=by
 go_enter Try.func70,Try.ntmps70
 have f:=St.start w
 refine wp_seq_k fun r g=>?_
 refine wp_region_lit ?_
 refine wpList_plain rfl fun K hK=>o_box (W2 A n c true) rfl rfl rfl f fun b s e t=>hK _ _ ?_
 simp only [PA]
 refine PV (I 0) rfl rfl ?_
 simp only [PA]
 refine PV (T false) rfl rfl ?_
 simp only [PA]
 refine wpList_nil ?_
 refine g _ _ ?_
 refine wp_seq_k fun v h=>?_
 refine wp_seq_k fun x j=>?_
 refine wp_region_lit ?_
 refine PV (PT b 0) (by kernel_rfl) rfl ?_
 simp only [PA]
 refine PV (E A n c) (run_load1 (E A n c) rfl rfl (e.at_ _ (MI (i:=0) rfl)) rfl (ag36 _)) rfl ?_
 simp only [PA]
 refine PV (I (n:Int)) (run_len36 rfl rfl) rfl ?_
 simp only [PA]
 refine PV (T false) (CT (run_bin (I (n:Int)) (I 2) _ rfl rfl rfl (bin_gtr_3 _ _ _ _)) (congrArg Value.bool (decide_eq_false (by omega)))) rfl ?_
 simp only [PA]
 refine wpList_nil ?_
 refine j _ _ ?_
 refine cond_false rfl ?_
 refine wp_skip ?_
 refine h _ _ ?_
 refine wp_seq_k fun y k=>?_
 refine wp_region_lit ?_
 refine PV (J 0) rfl rfl ?_
 simp only [PA]
 refine wpList_nil ?_
 refine k _ _ ?_
 refine wp_seq_k fun C l=>?_
 refine wp_seq_k fun D m=>?_
 refine wp_region_lit ?_
 refine PV (I 0) rfl rfl ?_
 simp only [PA]
 refine wpList_nil ?_
 refine m _ _ ?_
 refine wp_block ?_
 refine wp_loop_g (fun mm aa_ w'=>∃ (i:Nat) (u:Nat) (a:List Value),aa_=⟨#[AW A n c true,PT b 0,I 0,T false,J ((u:Nat):Int),I ((i:Nat):Int),PT b 0,E A n c,I (n:Int),T false,(GD a 0),(GD a 1),(GD a 2),(GD a 3),(GD a 4),(GD a 5),(GD a 6),(GD a 7),(GD a 8),(GD a 9),(GD a 10),(GD a 11),(GD a 12),(GD a 13),(GD a 14),(GD a 15),(GD a 16),(GD a 17),(GD a 18),O,O,O,O,O,O,O,O,O,O,O],[]⟩∧St w w' [⟨b,(W2 A n c true),38⟩]∧(i≤n)∧(val ((dg z.natAbs).take i)=u)∧n - i=mm) (n) ⟨0,0,[O,O,O,O,O,O,O,O,O,O,O,O,O,O,O,O,O,O,O],rfl,e,by omega,rfl,rfl⟩ ?_
 rintro _ _ F ⟨i,u,a,rfl,d,hin,hu,rfl⟩
 refine wp_seq_k fun G H=>?_
 refine wp_seq_k fun L o=>?_
 refine wp_region_lit ?_
 refine PV (I ((i:Nat):Int)) rfl rfl ?_
 simp only [PA]
 refine PV (PT b 0) (by kernel_rfl) rfl ?_
 simp only [PA]
 refine PV (E A n c) (run_load1 (E A n c) rfl rfl (d.at_ _ (MI (i:=0) rfl)) rfl (ag36 _)) rfl ?_
 simp only [PA]
 refine PV (I (n:Int)) (run_len36 rfl rfl) rfl ?_
 simp only [PA]
 refine PV (T false) (CT (run_bin (I ((i:Nat):Int)) (I (n:Int)) _ rfl rfl rfl (bin_lss_3 _ _ _ _)) (congrArg Value.bool (decide_eq_false (by omega)))) rfl ?_
 simp only [PA]
 refine wpList_nil ?_
 refine o _ _ ?_
 refine cond_false rfl ?_
 refine wp_exit ?_
 refine l _ _ ?_
 refine wp_seq_k fun M N=>?_
 refine wp_seq_k fun P p=>?_
 refine wp_region_lit ?_
 refine PV (PT b 1) (by kernel_rfl) rfl ?_
 simp only [PA]
 refine PV (T true) (run_load1 (T true) rfl rfl (d.at_ _ (MI (i:=0) rfl)) rfl (ag4 _)) rfl ?_
 simp only [PA]
 refine wpList_nil ?_
 refine p _ _ ?_
 refine cond_true rfl ?_
 refine wp_seq_k fun Q q=>?_
 refine wp_region_lit ?_
 refine PV (J ((u:Nat):Int)) rfl rfl ?_
 simp only [PA]
 refine PV (J (IntKind.u64.wrap (-(((u:Nat):Int))))) (run_neg ((u:Nat):Int) rfl rfl) rfl ?_
 simp only [PA]
 refine PV (I (IntKind.i64.wrap ((IntKind.u64.wrap (-(((u:Nat):Int))))))) (run_cv _ rfl rfl rfl rfl rfl) rfl ?_
 simp only [PA]
 refine PV (J ((u:Nat):Int)) rfl rfl ?_
 simp only [PA]
 refine PV (T (decide ((((u:Nat):Int):Int)≤9223372036854775808))) (run_bin (J ((u:Nat):Int)) (J 9223372036854775808) _ rfl rfl rfl (bin_leq_104 _ _ _ _)) rfl ?_
 simp only [PA]
 refine PV (I (IntKind.i64.wrap ((IntKind.u64.wrap (-(((u:Nat):Int))))))) rfl rfl ?_
 simp only [PA]
 refine PV (T (decide ((((u:Nat):Int):Int)≤9223372036854775808))) rfl rfl ?_
 simp only [PA]
 refine wpList_nil ?_
 refine q _ _ ?_
 refine wp_ret ?_
 repeat (with_reducible first | refine then_ret ?_ | refine inBlock_ret ?_)
 refine bodyPost_ret (results_tmp2 rfl _ _ _) rfl ?_
 have hue:=small_end hzl hin (by omega) hu
 have hfin:=small_neg hue (by first | exact of_decide_eq_true sg | exact of_decide_eq_false sg)
 exact ⟨⟨_,rfl,_,_,rfl,hfin.1,hfin.2⟩,d.bl⟩
set_option maxRecDepth 100000 in
set_option maxHeartbeats 2000000 in
theorem small_none_f {A:Option Addr} {n c:Nat} {z:Int} {w:World} (hx:Wds w A n c (dg z.natAbs)) (sg:decide (z<0)=false) (hzl:(dg z.natAbs).length=n) (hnm:n≤9223372036854775807) (hn:n=0):Calls Try.prog 70 #[AW A n c false] w (RetIB w z):=by
 go_enter Try.func70,Try.ntmps70
 have f:=St.start w
 refine wp_seq_k fun s g=>?_
 refine wp_region_lit ?_
 refine wpList_plain rfl fun K hK=>o_box (W2 A n c false) rfl rfl rfl f fun b t e v=>hK _ _ ?_
 simp only [PA]
 refine PV (I 0) rfl rfl ?_
 simp only [PA]
 refine PV (T false) rfl rfl ?_
 simp only [PA]
 refine wpList_nil ?_
 refine g _ _ ?_
 refine wp_seq_k fun x h=>?_
 refine wp_seq_k fun y j=>?_
 refine wp_region_lit ?_
 refine PV (PT b 0) (by kernel_rfl) rfl ?_
 simp only [PA]
 refine PV (E A n c) (run_load1 (E A n c) rfl rfl (e.at_ _ (MI (i:=0) rfl)) rfl (ag36 _)) rfl ?_
 simp only [PA]
 refine PV (I (n:Int)) (run_len36 rfl rfl) rfl ?_
 simp only [PA]
 refine PV (T false) (CT (run_bin (I (n:Int)) (I 2) _ rfl rfl rfl (bin_gtr_3 _ _ _ _)) (congrArg Value.bool (decide_eq_false (by omega)))) rfl ?_
 simp only [PA]
 refine wpList_nil ?_
 refine j _ _ ?_
 refine cond_false rfl ?_
 refine wp_skip ?_
 refine h _ _ ?_
 refine wp_seq_k fun C k=>?_
 refine wp_region_lit ?_
 refine PV (J 0) rfl rfl ?_
 simp only [PA]
 refine wpList_nil ?_
 refine k _ _ ?_
 refine wp_seq_k fun D l=>?_
 refine wp_seq_k fun F m=>?_
 refine wp_region_lit ?_
 refine PV (I 0) rfl rfl ?_
 simp only [PA]
 refine wpList_nil ?_
 refine m _ _ ?_
 refine wp_block ?_
 refine wp_loop_g (fun mm aa_ w'=>∃ (i:Nat) (u:Nat) (a:List Value),aa_=⟨#[AW A n c false,PT b 0,I 0,T false,J ((u:Nat):Int),I ((i:Nat):Int),PT b 0,E A n c,I (n:Int),T false,(GD a 0),(GD a 1),(GD a 2),(GD a 3),(GD a 4),(GD a 5),(GD a 6),(GD a 7),(GD a 8),(GD a 9),(GD a 10),(GD a 11),(GD a 12),(GD a 13),(GD a 14),(GD a 15),(GD a 16),(GD a 17),(GD a 18),O,O,O,O,O,O,O,O,O,O,O],[]⟩∧St w w' [⟨b,(W2 A n c false),38⟩]∧(i≤n)∧(val ((dg z.natAbs).take i)=u)∧n - i=mm) (n) ⟨0,0,[O,O,O,O,O,O,O,O,O,O,O,O,O,O,O,O,O,O,O],rfl,e,by omega,rfl,rfl⟩ ?_
 rintro _ _ G ⟨i,u,a,rfl,d,hin,hu,rfl⟩
 refine wp_seq_k fun H L=>?_
 refine wp_seq_k fun M o=>?_
 refine wp_region_lit ?_
 refine PV (I ((i:Nat):Int)) rfl rfl ?_
 simp only [PA]
 refine PV (PT b 0) (by kernel_rfl) rfl ?_
 simp only [PA]
 refine PV (E A n c) (run_load1 (E A n c) rfl rfl (d.at_ _ (MI (i:=0) rfl)) rfl (ag36 _)) rfl ?_
 simp only [PA]
 refine PV (I (n:Int)) (run_len36 rfl rfl) rfl ?_
 simp only [PA]
 refine PV (T false) (CT (run_bin (I ((i:Nat):Int)) (I (n:Int)) _ rfl rfl rfl (bin_lss_3 _ _ _ _)) (congrArg Value.bool (decide_eq_false (by omega)))) rfl ?_
 simp only [PA]
 refine wpList_nil ?_
 refine o _ _ ?_
 refine cond_false rfl ?_
 refine wp_exit ?_
 refine l _ _ ?_
 refine wp_seq_k fun N p=>?_
 refine wp_seq_k fun P q=>?_
 refine wp_region_lit ?_
 refine PV (PT b 1) (by kernel_rfl) rfl ?_
 simp only [PA]
 refine PV (T false) (run_load1 (T false) rfl rfl (d.at_ _ (MI (i:=0) rfl)) rfl (ag4 _)) rfl ?_
 simp only [PA]
 refine wpList_nil ?_
 refine q _ _ ?_
 refine cond_false rfl ?_
 refine wp_skip ?_
 refine p _ _ ?_
 refine wp_seq_k fun Q r=>?_
 refine wp_region_lit ?_
 refine PV (J ((u:Nat):Int)) rfl rfl ?_
 simp only [PA]
 refine PV (I (IntKind.i64.wrap (((u:Nat):Int)))) (run_cv _ rfl rfl rfl rfl rfl) rfl ?_
 simp only [PA]
 refine PV (J ((u:Nat):Int)) rfl rfl ?_
 simp only [PA]
 refine PV (T (decide ((((u:Nat):Int):Int)<9223372036854775808))) (run_bin (J ((u:Nat):Int)) (J 9223372036854775808) _ rfl rfl rfl (bin_lss_104 _ _ _ _)) rfl ?_
 simp only [PA]
 refine PV (I (IntKind.i64.wrap (((u:Nat):Int)))) rfl rfl ?_
 simp only [PA]
 refine PV (T (decide ((((u:Nat):Int):Int)<9223372036854775808))) rfl rfl ?_
 simp only [PA]
 refine wpList_nil ?_
 refine r _ _ ?_
 refine wp_ret ?_
 repeat (with_reducible first | refine then_ret ?_ | refine inBlock_ret ?_)
 refine bodyPost_ret (results_tmp2 rfl _ _ _) rfl ?_
 have hue:=small_end hzl hin (by omega) hu
 have hfin:=small_pos hue (by first | exact of_decide_eq_true sg | exact of_decide_eq_false sg)
 exact ⟨⟨_,rfl,_,_,rfl,hfin.1,hfin.2⟩,d.bl⟩
set_option maxRecDepth 100000 in
set_option maxHeartbeats 2000000 in
theorem small_big_t {ad:Addr} {n c:Nat} {z:Int} {w:World} (hx:Wds w (some ad) n c (dg z.natAbs)) (sg:decide (z<0)=true) (hzl:(dg z.natAbs).length=n) (hnm:n≤9223372036854775807) (hn:2<n):Calls Try.prog 70 #[AW (some ad) n c true] w (RetIB w z):=by
 go_enter Try.func70,Try.ntmps70
 have b:=St.start w
 refine wp_seq_k fun j d=>?_
 refine wp_region_lit ?_
 refine wpList_plain rfl fun K hK=>o_box (W2 (some ad) n c true) rfl rfl rfl b fun e k a l=>hK _ _ ?_
 simp only [PA]
 refine PV (I 0) rfl rfl ?_
 simp only [PA]
 refine PV (T false) rfl rfl ?_
 simp only [PA]
 refine wpList_nil ?_
 refine d _ _ ?_
 refine wp_seq_k fun m o=>?_
 refine wp_seq_k fun p f=>?_
 refine wp_region_lit ?_
 refine PV (PT e 0) (by kernel_rfl) rfl ?_
 simp only [PA]
 refine PV (E (some ad) n c) (run_load1 (E (some ad) n c) rfl rfl (a.at_ _ (MI (i:=0) rfl)) rfl (ag36 _)) rfl ?_
 simp only [PA]
 refine PV (I (n:Int)) (run_len36 rfl rfl) rfl ?_
 simp only [PA]
 refine PV (T true) (CT (run_bin (I (n:Int)) (I 2) _ rfl rfl rfl (bin_gtr_3 _ _ _ _)) (congrArg Value.bool (decide_eq_true (by omega)))) rfl ?_
 simp only [PA]
 refine wpList_nil ?_
 refine f _ _ ?_
 refine cond_true rfl ?_
 refine wp_seq_k fun q g=>?_
 refine wp_region_lit ?_
 refine PV (I 0) rfl rfl ?_
 simp only [PA]
 refine PV (T false) rfl rfl ?_
 simp only [PA]
 refine wpList_nil ?_
 refine g _ _ ?_
 refine wp_ret ?_
 repeat (with_reducible first | refine then_ret ?_ | refine inBlock_ret ?_)
 refine bodyPost_ret (results_tmp2 rfl _ _ _) rfl ?_
 exact ⟨⟨_,rfl,_,_,rfl,⟨fun h=>(nomatch h),fun h=>absurd h (small_no hzl (by omega))⟩,fun h=>(nomatch h)⟩,a.bl⟩
set_option maxRecDepth 100000 in
set_option maxHeartbeats 2000000 in
theorem small_big_f {ad:Addr} {n c:Nat} {z:Int} {w:World} (hx:Wds w (some ad) n c (dg z.natAbs)) (sg:decide (z<0)=false) (hzl:(dg z.natAbs).length=n) (hnm:n≤9223372036854775807) (hn:2<n):Calls Try.prog 70 #[AW (some ad) n c false] w (RetIB w z):=by
 go_enter Try.func70,Try.ntmps70
 have b:=St.start w
 refine wp_seq_k fun j d=>?_
 refine wp_region_lit ?_
 refine wpList_plain rfl fun K hK=>o_box (W2 (some ad) n c false) rfl rfl rfl b fun e k a l=>hK _ _ ?_
 simp only [PA]
 refine PV (I 0) rfl rfl ?_
 simp only [PA]
 refine PV (T false) rfl rfl ?_
 simp only [PA]
 refine wpList_nil ?_
 refine d _ _ ?_
 refine wp_seq_k fun m o=>?_
 refine wp_seq_k fun p f=>?_
 refine wp_region_lit ?_
 refine PV (PT e 0) (by kernel_rfl) rfl ?_
 simp only [PA]
 refine PV (E (some ad) n c) (run_load1 (E (some ad) n c) rfl rfl (a.at_ _ (MI (i:=0) rfl)) rfl (ag36 _)) rfl ?_
 simp only [PA]
 refine PV (I (n:Int)) (run_len36 rfl rfl) rfl ?_
 simp only [PA]
 refine PV (T true) (CT (run_bin (I (n:Int)) (I 2) _ rfl rfl rfl (bin_gtr_3 _ _ _ _)) (congrArg Value.bool (decide_eq_true (by omega)))) rfl ?_
 simp only [PA]
 refine wpList_nil ?_
 refine f _ _ ?_
 refine cond_true rfl ?_
 refine wp_seq_k fun q g=>?_
 refine wp_region_lit ?_
 refine PV (I 0) rfl rfl ?_
 simp only [PA]
 refine PV (T false) rfl rfl ?_
 simp only [PA]
 refine wpList_nil ?_
 refine g _ _ ?_
 refine wp_ret ?_
 repeat (with_reducible first | refine then_ret ?_ | refine inBlock_ret ?_)
 refine bodyPost_ret (results_tmp2 rfl _ _ _) rfl ?_
 exact ⟨⟨_,rfl,_,_,rfl,⟨fun h=>(nomatch h),fun h=>absurd h (small_no hzl (by omega))⟩,fun h=>(nomatch h)⟩,a.bl⟩
theorem small_c {v : Value} {z : Int} {w : World} (h : Wh w v z) : Calls Try.prog 70 #[v] w (RetIB w z) := by
 obtain ⟨A, n, c, rfl, hx⟩ := h
 have hl := hx.len
 have hm := hx.mx
 rcases Nat.eq_zero_or_pos n with h0 | h0
 ·cases sg : decide (z < 0)
  ·exact small_none_f hx sg hl (by omega) h0
  ·exact small_none_t hx sg hl (by omega) h0
 obtain ⟨ad, rfl⟩ := hx.some_ h0
 rcases Nat.lt_or_ge 2 n with h2 | h2
 ·cases sg : decide (z < 0)
  ·exact small_big_f hx sg hl hm h2
  ·exact small_big_t hx sg hl hm h2
 ·cases sg : decide (z < 0)
  ·exact small_some_f hx sg hl (by omega) h2
  ·exact small_some_t hx sg hl (by omega) h2
end Go.Proofs.Ythhgjloephkpaaa
namespace Go.Proofs.Ythhgjloephkpaaa
set_option linter.unusedVariables false
set_option linter.unusedSimpArgs false
open Go Go.RowKit Go.Proofs.YthhgjloephkpaaaW.PrintWords Go.Proofs.YthhgjloephkpaaaW.PrintLast
theorem FitN.gcdr {k x y : Nat} (h : FitN k y) (h0 : 0 < y) : FitN k (Nat.gcd x y) := h.le (Nat.gcd_le_right _ h0)
theorem rat_one {n d n' d' : Int} (h : d' = 1) (e : Rat.divInt n' d' = Rat.divInt n d) : n' = (Rat.divInt n d).num ∧ d' = ((Rat.divInt n d).den : Int) := e ▸ ratio_d1 h
theorem rat_g1 {n d n' d' : Int} (hd : 0 < d') (h : Nat.gcd n'.natAbs d'.natAbs = 1) (e : Rat.divInt n' d' = Rat.divInt n d) : n' = (Rat.divInt n d).num ∧ d' = ((Rat.divInt n d).den : Int) := e ▸ ratio_gcd1 hd h
theorem rat_gn {n d n' d' : Int} {s : Bool} (hd : 0 < d') (hs : decide (n' < 0) = s) (e : Rat.divInt n' d' = Rat.divInt n d) :
  (if s = true then -((((n'.natAbs / Nat.gcd n'.natAbs d'.natAbs : Nat))) : Int) else ((((n'.natAbs / Nat.gcd n'.natAbs d'.natAbs : Nat))) : Int)) = (Rat.divInt n d).num ∧
  (if false = true then -((((d'.natAbs / Nat.gcd n'.natAbs d'.natAbs : Nat))) : Int) else ((((d'.natAbs / Nat.gcd n'.natAbs d'.natAbs : Nat))) : Int)) = ((Rat.divInt n d).den : Int) := by
 subst hs; rw [← e]; exact ⟨ratio_num hd, ratio_den hd⟩
end Go.Proofs.Ythhgjloephkpaaa
namespace Go.Proofs.Ythhgjloephkpaaa
set_option linter.unusedVariables false
set_option linter.unusedSimpArgs false
open Go Go.RowKit Go.Proofs.YthhgjloephkpaaaW.PrintWords Go.Proofs.YthhgjloephkpaaaW.PrintLast
theorem mulden_ne (x y : Rat) : (x.den : Int) * (y.den : Int) ≠ 0 := by have := Int.mul_pos (den_pos x) (den_pos y); omega
theorem divden_ne {x y : Rat} (h : y ≠ 0) : (x.den : Int) * y.num ≠ 0 := fun e => by
 rcases Int.mul_eq_zero.1 e with e1 | e1
 ·have := den_pos x; omega
 ·exact h (Rat.num_eq_zero.1 e1)
end Go.Proofs.Ythhgjloephkpaaa
namespace Go.Proofs.Ythhgjloephkpaaa
set_option linter.unusedVariables false
set_option linter.unusedSimpArgs false
open Go Go.RowKit Go.Proofs.YthhgjloephkpaaaW.PrintWords Go.Proofs.YthhgjloephkpaaaW.PrintLast
theorem sign_z {x : Rat} (h : x.num = 0) : (0 : Int) = cmpR x 0 := by rw [← cmpR_zero, cmpZ_eq h]
theorem sign_p {x : Rat} (h : ¬ x.num = 0) (hs : decide (x.num < 0) = false) : (1 : Int) = cmpR x 0 := by
 have := of_decide_eq_false hs
 rw [← cmpR_zero, cmpZ_gt (by omega)]
set_option maxRecDepth 100000 in
theorem sign81_p {x:Rat} {xA xB:Option Addr} {xn xc xm xd:Nat} {xt:Bool} {w:World} (Nx:Wh w (AW xA xn xc false) x.num) (hs:decide (x.num<0)=false):Calls Try.prog 81 #[AY xA xn xc false xB xm xd xt] w (RetI w (cmpR x 0)):=by
 go_enter Try.func81,Try.ntmps81
 have h:=St.start w
 refine wp_seq_k fun q j=>?_
 refine wp_region_lit ?_
 refine wpList_plain rfl fun K hK=>o_box (W4 xA xn xc false xB xm xd xt) rfl rfl rfl h fun b r d k=>hK _ _ ?_
 simp only [PA]
 refine PV (I 0) rfl rfl ?_
 simp only [PA]
 refine wpList_nil ?_
 refine j _ _ ?_
 refine wp_seq_k fun s l=>?_
 refine wp_seq_k fun t e=>?_
 refine wp_region_lit ?_
 refine PV (PT b 0) (by kernel_rfl) rfl ?_
 simp only [PA]
 refine PV (AW xA xn xc false) (run_loadA [E xA xn xc,T false] rfl rfl (d.at_ _ (MI (i:=0) rfl)) rfl (ag38 _) (sz38 _)) rfl ?_
 simp only [PA]
 refine wpList_plain rfl fun K hK=>o_call 98 _ #[AW xA xn xc false] Try.func98 (by kernel_rfl) rfl rfl rfl d (isNought_any (Nx.u k)) fun f v g c y=>?_
 by_cases a:(x).num=0
 ·skip
  obtain rfl:f=T true:=g.trans (by rw [decide_eq_true a])
  refine hK _ _ ?_
  simp only [PA]
  refine wpList_nil ?_
  refine e _ _ ?_
  refine cond_true rfl ?_
  refine wp_seq_k fun z m=>?_
  refine wp_region_lit ?_
  refine PV (I 0) rfl rfl ?_
  simp only [PA]
  refine wpList_nil ?_
  refine m _ _ ?_
  refine wp_ret ?_
  refine bodyPost_ret (results_tmp rfl _ _ _) rfl ?_
  exact ⟨⟨_,rfl,congrArg (Value.int .i64) (by first | exact sign_z a | exact sign_p a hs)⟩,c.bl⟩
 ·skip
  obtain rfl:f=T false:=g.trans (by rw [decide_eq_false a])
  refine hK _ _ ?_
  simp only [PA]
  refine wpList_nil ?_
  refine e _ _ ?_
  refine cond_false rfl ?_
  refine wp_skip ?_
  refine l _ _ ?_
  refine wp_seq_k fun A n=>?_
  refine wp_seq_k fun C o=>?_
  refine wp_region_lit ?_
  refine PV (PT b 0) (by kernel_rfl) rfl ?_
  simp only [PA]
  refine PV (PT b 1) (by kernel_rfl) rfl ?_
  simp only [PA]
  refine PV (T false) (run_load1 (T false) rfl rfl (c.at_ _ (MI (i:=0) rfl)) rfl (ag4 _)) rfl ?_
  simp only [PA]
  refine wpList_nil ?_
  refine o _ _ ?_
  refine cond_false rfl ?_
  refine wp_skip ?_
  refine n _ _ ?_
  refine wp_seq_k fun D p=>?_
  refine wp_region_lit ?_
  refine PV (I 1) rfl rfl ?_
  simp only [PA]
  refine wpList_nil ?_
  refine p _ _ ?_
  refine wp_ret ?_
  refine bodyPost_ret (results_tmp rfl _ _ _) rfl ?_
  exact ⟨⟨_,rfl,congrArg (Value.int .i64) (by first | exact sign_z a | exact sign_p a hs)⟩,c.bl⟩
theorem abs_pos' {x : Rat} (h : ¬ cmpR x 0 < 0) : x = x.abs := (Rat.abs_of_nonneg (Rat.not_lt.1 (fun e => h (cmpR_lt0.2 e)))).symm
theorem abs_neg' {x : Rat} (h : cmpR x 0 < 0) : -x = x.abs := (Rat.abs_of_nonpos (Rat.le_of_lt (cmpR_lt0.1 h))).symm
theorem isInt_iff {x : Rat} : (cmpZ (x.den : Int) 1 == (0 : Int)) = decide (x.den = 1) := by
 by_cases h : x.den = 1
 ·rw [cmpZ_eq (by omega), decide_eq_true h]; rfl
 ·have := x.den_pos; rw [cmpZ_gt (by omega), decide_eq_false h]; rfl
set_option maxRecDepth 100000 in
set_option maxHeartbeats 2000000 in
theorem floor119_p {v u:Value} {x y:Int} {w:World} (hx:Wh w v x) (hy:Wh w u y) (fx:Fit 99999999 x) (fy:Fit 99999999 y) (hs:¬ x<0) (e:0<y):Calls Try.prog 119 #[v,u] w (RetW w (x / y)):=by
 obtain ⟨xA,xn,xc,rfl,dx⟩:=hx
 have sgx:decide (x<0)=false:=decide_eq_false (by omega)
 rw [sgx]
 have Wx:Wh w (AW xA xn xc false) x:=⟨_,_,_,by rw [sgx],dx⟩
 obtain ⟨yA,yn,yc,rfl,dy⟩:=hy
 have sgy:decide (y<0)=false:=decide_eq_false (by omega)
 rw [sgy]
 have Wy:Wh w (AW yA yn yc false) y:=⟨_,_,_,by rw [sgy],dy⟩
 go_enter Try.func119,Try.ntmps119
 have G:=St.start w
 refine wp_seq_k fun K1 H=>?_
 refine wp_region_lit ?_
 refine wpList_plain rfl fun K hK=>o_box (W2 xA xn xc false) rfl rfl rfl G fun f w4 L n=>hK _ _ ?_
 simp only [PA]
 refine wpList_plain rfl fun K hK=>o_box (W2 yA yn yc false) rfl rfl rfl L fun g w8 M o=>hK _ _ ?_
 simp only [PA]
 refine wpList_plain rfl fun K hK=>o_alloc (W2 none 0 0 false) _ rfl (zv38 _) rfl rfl M fun ah ai h p=>hK _ _ ?_
 simp only [PA]
 refine wpList_nil ?_
 refine H _ _ ?_
 refine wp_seq_k fun aj N=>?_
 refine wp_region_lit ?_
 refine PV (PT f 0) (by kernel_rfl) rfl ?_
 simp only [PA]
 refine PV (E xA xn xc) (run_load1 (E xA xn xc) rfl rfl (h.at_ _ (MI (i:=2) rfl)) rfl (ag36 _)) rfl ?_
 simp only [PA]
 refine PV (PT g 0) (by kernel_rfl) rfl ?_
 simp only [PA]
 refine PV (E yA yn yc) (run_load1 (E yA yn yc) rfl rfl (h.at_ _ (MI (i:=1) rfl)) rfl (ag36 _)) rfl ?_
 simp only [PA]
 refine wpList_plain rfl fun K hK=>o_call 105 _ #[E xA xn xc,E yA yn yc] Try.func105 (by kernel_rfl) rfl rfl rfl h (parts_c (dx.u ((n.trans o).trans p)) (dy.u ((n.trans o).trans p)) (fx.mono (by decide)) (fy.mono (by decide)) (by omega)) fun al am P a an=>?_
 obtain ⟨ao,ap,rfl,Q,R⟩:=P
 obtain ⟨b,c,d,rfl,S⟩:=Q
 obtain ⟨j,k,l,rfl,aq⟩:=R
 refine hK _ _ ?_
 simp only [PA]
 refine PV (.tuple #[E b c d,E j k l]) rfl rfl ?_
 simp only [PA]
 refine PV (E b c d) rfl rfl ?_
 simp only [PA]
 refine PV (E j k l) rfl rfl ?_
 simp only [PA]
 refine PV (E b c d) rfl rfl ?_
 simp only [PA]
 refine PV (E j k l) rfl rfl ?_
 simp only [PA]
 refine wpList_nil ?_
 refine N _ _ ?_
 refine wp_seq_k fun ar V=>?_
 refine wp_seq_k fun au W=>?_
 refine wp_region_lit ?_
 refine PV (PT f 1) (by kernel_rfl) rfl ?_
 simp only [PA]
 refine PV (T false) (run_load1 (T false) rfl rfl (a.at_ _ (MI (i:=2) rfl)) rfl (ag4 _)) rfl ?_
 simp only [PA]
 refine PV (PT g 1) (by kernel_rfl) rfl ?_
 simp only [PA]
 refine PV (T false) (run_load1 (T false) rfl rfl (a.at_ _ (MI (i:=1) rfl)) rfl (ag4 _)) rfl ?_
 simp only [PA]
 refine PV (T false) (run_bin (T false) (T false) _ rfl rfl rfl (bin_neq_4 _ _ _ _)) rfl ?_
 simp only [PA]
 refine PV (T false) rfl rfl ?_
 simp only [PA]
 refine wpList_off rfl ?_
 simp only [PA]
 refine wpList_off rfl ?_
 simp only [PA]
 refine wpList_off rfl ?_
 simp only [PA]
 refine PV (T false) rfl rfl ?_
 simp only [PA]
 refine wpList_nil ?_
 refine W _ _ ?_
 refine cond_false rfl ?_
 refine wp_skip ?_
 refine V _ _ ?_
 refine wp_seq_k fun av X=>?_
 refine wp_region_lit ?_
 refine PV (E b c d) rfl rfl ?_
 simp only [PA]
 refine PV (PT f 1) (by kernel_rfl) rfl ?_
 simp only [PA]
 refine PV (T false) (run_load1 (T false) rfl rfl (a.at_ _ (MI (i:=2) rfl)) rfl (ag4 _)) rfl ?_
 simp only [PA]
 refine PV (PT g 1) (by kernel_rfl) rfl ?_
 simp only [PA]
 refine PV (T false) (run_load1 (T false) rfl rfl (a.at_ _ (MI (i:=1) rfl)) rfl (ag4 _)) rfl ?_
 simp only [PA]
 refine PV (T false) (run_bin (T false) (T false) _ rfl rfl rfl (bin_neq_4 _ _ _ _)) rfl ?_
 simp only [PA]
 refine wpList_plain rfl fun K hK=>o_call 106 _ (W2 b c d false) Try.func106 (by kernel_rfl) rfl rfl rfl a (signed_any _ _ _ (((x).natAbs / (y).natAbs)) false _ S) fun aw Y q aa ax=>?_
 obtain ⟨m,r⟩:∃ zz_:Int,(if false=true then -(((((x).natAbs / (y).natAbs):Nat)):Int) else ((((x).natAbs / (y).natAbs):Nat):Int))=zz_:=⟨_,rfl⟩
 rw [r] at q
 have ay:Fit 99999999 m:=r▸(Fit.sgn (FitN.div fx))
 obtain ⟨t,z,A,rfl,ab⟩:=q
 obtain ⟨C,D⟩:∃ s,decide (m<0)=s:=⟨_,rfl⟩
 rw [D]
 have ac:Wh Y (AW t z A C) (m):=⟨_,_,_,by rw [D],ab⟩
 refine hK _ _ ?_
 simp only [PA]
 refine wpList_plain rfl fun K hK=>OT 0 (W2 t z A C) aa (sz38 _) fun az F ad=>hK _ _ ?_
 simp only [PA]
 refine wpList_nil ?_
 refine X _ _ ?_
 refine wp_ret ?_
 refine bodyPost_ret (ret38 rfl _ rfl rfl (F.at_ _ (MI (i:=0) rfl))) rfl ?_
 subst_vars
 exact ⟨⟨_,rfl,(by first | exact floor_pos hs e | exact floor_neg1 hs e hr | exact floor_neg0 hs e (Classical.not_not.1 hr))▸(ac.u ad)⟩,F.bl⟩
set_option maxRecDepth 100000 in
set_option maxHeartbeats 2000000 in
theorem floor119_m {v u:Value} {x y:Int} {w:World} (hx:Wh w v x) (hy:Wh w u y) (fx:Fit 99999999 x) (fy:Fit 99999999 y) (hs:x<0) (e:0<y):Calls Try.prog 119 #[v,u] w (RetW w (x / y)):=by
 obtain ⟨xA,xn,xc,rfl,dx⟩:=hx
 have sgx:decide (x<0)=true:=decide_eq_true (by omega)
 rw [sgx]
 have Wx:Wh w (AW xA xn xc true) x:=⟨_,_,_,by rw [sgx],dx⟩
 obtain ⟨yA,yn,yc,rfl,dy⟩:=hy
 have sgy:decide (y<0)=false:=decide_eq_false (by omega)
 rw [sgy]
 have Wy:Wh w (AW yA yn yc false) y:=⟨_,_,_,by rw [sgy],dy⟩
 go_enter Try.func119,Try.ntmps119
 have ae:=St.start w
 refine wp_seq_k fun K1 af=>?_
 refine wp_region_lit ?_
 refine wpList_plain rfl fun K hK=>o_box (W2 xA xn xc true) rfl rfl rfl ae fun g w4 ag t=>hK _ _ ?_
 simp only [PA]
 refine wpList_plain rfl fun K hK=>o_box (W2 yA yn yc false) rfl rfl rfl ag fun h w8 ah z=>hK _ _ ?_
 simp only [PA]
 refine wpList_plain rfl fun K hK=>o_alloc (W2 none 0 0 false) _ rfl (zv38 _) rfl rfl ah fun aP aQ l A=>hK _ _ ?_
 simp only [PA]
 refine wpList_nil ?_
 refine af _ _ ?_
 refine wp_seq_k fun aR ai=>?_
 refine wp_region_lit ?_
 refine PV (PT g 0) (by kernel_rfl) rfl ?_
 simp only [PA]
 refine PV (E xA xn xc) (run_load1 (E xA xn xc) rfl rfl (l.at_ _ (MI (i:=2) rfl)) rfl (ag36 _)) rfl ?_
 simp only [PA]
 refine PV (PT h 0) (by kernel_rfl) rfl ?_
 simp only [PA]
 refine PV (E yA yn yc) (run_load1 (E yA yn yc) rfl rfl (l.at_ _ (MI (i:=1) rfl)) rfl (ag36 _)) rfl ?_
 simp only [PA]
 refine wpList_plain rfl fun K hK=>o_call 105 _ #[E xA xn xc,E yA yn yc] Try.func105 (by kernel_rfl) rfl rfl rfl l (parts_c (dx.u ((t.trans z).trans A)) (dy.u ((t.trans z).trans A)) (fx.mono (by decide)) (fy.mono (by decide)) (by omega)) fun aS aU aj f aV=>?_
 obtain ⟨aW,aX,rfl,al,am⟩:=aj
 obtain ⟨a,b,c,rfl,C⟩:=al
 obtain ⟨j,d,k,rfl,D⟩:=am
 refine hK _ _ ?_
 simp only [PA]
 refine PV (.tuple #[E a b c,E j d k]) rfl rfl ?_
 simp only [PA]
 refine PV (E a b c) rfl rfl ?_
 simp only [PA]
 refine PV (E j d k) rfl rfl ?_
 simp only [PA]
 refine PV (E a b c) rfl rfl ?_
 simp only [PA]
 refine PV (E j d k) rfl rfl ?_
 simp only [PA]
 refine wpList_nil ?_
 refine ai _ _ ?_
 refine wp_seq_k fun aY F=>?_
 refine wp_seq_k fun aB G=>?_
 refine wp_region_lit ?_
 refine PV (PT g 1) (by kernel_rfl) rfl ?_
 simp only [PA]
 refine PV (T true) (run_load1 (T true) rfl rfl (f.at_ _ (MI (i:=2) rfl)) rfl (ag4 _)) rfl ?_
 simp only [PA]
 refine PV (PT h 1) (by kernel_rfl) rfl ?_
 simp only [PA]
 refine PV (T false) (run_load1 (T false) rfl rfl (f.at_ _ (MI (i:=1) rfl)) rfl (ag4 _)) rfl ?_
 simp only [PA]
 refine PV (T true) (run_bin (T true) (T false) _ rfl rfl rfl (bin_neq_4 _ _ _ _)) rfl ?_
 simp only [PA]
 refine PV (T true) rfl rfl ?_
 simp only [PA]
 refine wpList_on rfl fun K hK=>o_val (E j d k) rfl (hK _ _ ?_)
 simp only [PA]
 refine wpList_on rfl fun K hK=>o_val (I (d:Int)) (run_len36 rfl rfl) (hK _ _ ?_)
 simp only [PA]
 by_cases hr:¬ x.natAbs % y.natAbs=0
 ·skip
  refine wpList_on rfl fun K hK=>o_val (T true) (CT (run_bin (I (d:Int)) (I 0) _ rfl rfl rfl (bin_gtr_3 _ _ _ _)) (congrArg Value.bool (lenpos_t D hr))) (hK _ _ ?_)
  simp only [PA]
  refine PV (T true) rfl rfl ?_
  simp only [PA]
  refine wpList_nil ?_
  refine G _ _ ?_
  refine cond_true rfl ?_
  refine wp_region_lit ?_
  refine PV (E a b c) rfl rfl ?_
  simp only [PA]
  refine wpList_plain rfl fun K hK=>o_one rfl f fun an aE ao ap aq=>hK _ _ ?_
  simp only [PA]
  refine wpList_plain rfl fun K hK=>o_call 121 _ #[E a b c,E an 1 1] Try.func121 (by kernel_rfl) rfl rfl rfl ap (plus_c (C.u aq) ao ((FitN.div fx).mono (by decide)) (FitN_one.mono (by decide))) fun aI aT ar m aO=>?_
  obtain ⟨n,o,p,rfl,au⟩:=ar
  refine hK _ _ ?_
  simp only [PA]
  refine PV (E n o p) rfl rfl ?_
  simp only [PA]
  refine wpList_nil ?_
  refine F _ _ ?_
  refine wp_seq_k fun aJ av=>?_
  refine wp_region_lit ?_
  refine PV (E n o p) rfl rfl ?_
  simp only [PA]
  refine PV (PT g 1) (by kernel_rfl) rfl ?_
  simp only [PA]
  refine PV (T true) (run_load1 (T true) rfl rfl (m.at_ _ (MI (i:=2) rfl)) rfl (ag4 _)) rfl ?_
  simp only [PA]
  refine PV (PT h 1) (by kernel_rfl) rfl ?_
  simp only [PA]
  refine PV (T false) (run_load1 (T false) rfl rfl (m.at_ _ (MI (i:=1) rfl)) rfl (ag4 _)) rfl ?_
  simp only [PA]
  refine PV (T true) (run_bin (T true) (T false) _ rfl rfl rfl (bin_neq_4 _ _ _ _)) rfl ?_
  simp only [PA]
  refine wpList_plain rfl fun K hK=>o_call 106 _ (W2 n o p true) Try.func106 (by kernel_rfl) rfl rfl rfl m (signed_any _ _ _ ((((x).natAbs / (y).natAbs)+1)) true _ au) fun aZ aw H ax a0=>?_
  obtain ⟨q,L⟩:∃ zz_:Int,(if true=true then -((((((x).natAbs / (y).natAbs)+1):Nat)):Int) else (((((x).natAbs / (y).natAbs)+1):Nat):Int))=zz_:=⟨_,rfl⟩
  rw [L] at H
  have a1:Fit 100000000 q:=L▸(Fit.sgn (FitN.add ((FitN.div fx).mono (by decide:99999999≤99999999)) (FitN_one.mono (by decide:1≤99999999))))
  obtain ⟨M,N,P,rfl,ay⟩:=H
  obtain ⟨Q,R⟩:∃ s,decide (q<0)=s:=⟨_,rfl⟩
  rw [R]
  have az:Wh aw (AW M N P Q) (q):=⟨_,_,_,by rw [R],ay⟩
  refine hK _ _ ?_
  simp only [PA]
  refine wpList_plain rfl fun K hK=>OT 0 (W2 M N P Q) ax (sz38 _) fun a2 S aA=>hK _ _ ?_
  simp only [PA]
  refine wpList_nil ?_
  refine av _ _ ?_
  refine wp_ret ?_
  refine bodyPost_ret (ret38 rfl _ rfl rfl (S.at_ _ (MI (i:=0) rfl))) rfl ?_
  subst_vars
  exact ⟨⟨_,rfl,(by first | exact floor_pos hs e | exact floor_neg1 hs e hr | exact floor_neg0 hs e (Classical.not_not.1 hr))▸(az.u aA)⟩,S.bl⟩
 ·skip
  refine wpList_on rfl fun K hK=>o_val (T false) (CT (run_bin (I (d:Int)) (I 0) _ rfl rfl rfl (bin_gtr_3 _ _ _ _)) (congrArg Value.bool (lenpos_f D (Classical.not_not.1 hr)))) (hK _ _ ?_)
  simp only [PA]
  refine PV (T false) rfl rfl ?_
  simp only [PA]
  refine wpList_nil ?_
  refine G _ _ ?_
  refine cond_false rfl ?_
  refine wp_skip ?_
  refine F _ _ ?_
  refine wp_seq_k fun a3 aC=>?_
  refine wp_region_lit ?_
  refine PV (E a b c) rfl rfl ?_
  simp only [PA]
  refine PV (PT g 1) (by kernel_rfl) rfl ?_
  simp only [PA]
  refine PV (T true) (run_load1 (T true) rfl rfl (f.at_ _ (MI (i:=2) rfl)) rfl (ag4 _)) rfl ?_
  simp only [PA]
  refine PV (PT h 1) (by kernel_rfl) rfl ?_
  simp only [PA]
  refine PV (T false) (run_load1 (T false) rfl rfl (f.at_ _ (MI (i:=1) rfl)) rfl (ag4 _)) rfl ?_
  simp only [PA]
  refine PV (T true) (run_bin (T true) (T false) _ rfl rfl rfl (bin_neq_4 _ _ _ _)) rfl ?_
  simp only [PA]
  refine wpList_plain rfl fun K hK=>o_call 106 _ (W2 a b c true) Try.func106 (by kernel_rfl) rfl rfl rfl f (signed_any _ _ _ (((x).natAbs / (y).natAbs)) true _ C) fun a4 aD V aF a5=>?_
  obtain ⟨r,W⟩:∃ zz_:Int,(if true=true then -(((((x).natAbs / (y).natAbs):Nat)):Int) else ((((x).natAbs / (y).natAbs):Nat):Int))=zz_:=⟨_,rfl⟩
  rw [W] at V
  have a6:Fit 99999999 r:=W▸(Fit.sgn (FitN.div fx))
  obtain ⟨X,Y,aa,rfl,aG⟩:=V
  obtain ⟨ab,ac⟩:∃ s,decide (r<0)=s:=⟨_,rfl⟩
  rw [ac]
  have aH:Wh aD (AW X Y aa ab) (r):=⟨_,_,_,by rw [ac],aG⟩
  refine hK _ _ ?_
  simp only [PA]
  refine wpList_plain rfl fun K hK=>OT 0 (W2 X Y aa ab) aF (sz38 _) fun a7 ad aK=>hK _ _ ?_
  simp only [PA]
  refine wpList_nil ?_
  refine aC _ _ ?_
  refine wp_ret ?_
  refine bodyPost_ret (ret38 rfl _ rfl rfl (ad.at_ _ (MI (i:=0) rfl))) rfl ?_
  subst_vars
  exact ⟨⟨_,rfl,(by first | exact floor_pos hs e | exact floor_neg1 hs e hr | exact floor_neg0 hs e (Classical.not_not.1 hr))▸(aH.u aK)⟩,ad.bl⟩
theorem floor119 {v u : Value} {x y : Int} {w : World} (hx : Wh w v x) (hy : Wh w u y) (fx : Fit 99999999 x) (fy : Fit 99999999 y) (hy0 : 0 < y) : Calls Try.prog 119 #[v, u] w (RetW w (x / y)) := by
 by_cases hs : x < 0
 ·exact floor119_m hx hy fx fy hs hy0
 ·exact floor119_p hx hy fx fy hs hy0
theorem inv_one (x : Rat) : ((1 : Int) : Rat) / x = x⁻¹ := by rw [Rat.div_def]; exact Rat.one_mul _
end Go.Proofs.Ythhgjloephkpaaa
namespace Go.Proofs.Ythhgjloephkpaaa
set_option linter.unusedVariables false
set_option linter.unusedSimpArgs false
open Go Go.RowKit Go.Proofs.YthhgjloephkpaaaW.PrintWords Go.Proofs.YthhgjloephkpaaaW.PrintLast
/-- A fraction in its form: within the limits and in lowest terms. -/
def IsQ (p q : Int) : Prop := 1 ≤ q ∧ q ≤ 1000000000000 ∧ -1000000000000 ≤ p ∧ p ≤ 1000000000000 ∧ Nat.gcd p.natAbs q.natAbs = 1
instance (p q : Int) : Decidable (IsQ p q) := by unfold IsQ; infer_instance
end Go.Proofs.Ythhgjloephkpaaa
