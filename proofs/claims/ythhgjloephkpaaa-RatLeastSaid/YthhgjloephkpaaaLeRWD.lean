/- Words and walks for the row RowRatLeast, put together: RWD. -/
import Derived.Test.YthhgjloephkpaaaLe8
import Derived.Test.YthhgjloephkpaaaLe6
namespace Go.Proofs.Ythhgjloephkpaaa
set_option linter.unusedVariables false
set_option linter.unusedSimpArgs false
open Go Go.RowKit Go.Proofs.YthhgjloephkpaaaW.PrintWords Go.Proofs.YthhgjloephkpaaaW.PrintLast
theorem wanted_off {o : Oper} {f : Nat → Option Bool} {i : Nat} {b c : Bool} (hg : o.guard = some (i, b)) (hf : f i = some c) (hc : (c == b) = false) : Region.wanted o f = false := by
 unfold Region.wanted
 rw [hg]
 simp only [hf]
 cases c <;> cases b <;> first | rfl | cases hc
theorem lt_lit {r : Nat} (h : ((r : Nat) : Int) < 4294967296) : r < 4294967296 := by omega
theorem q_pos {wl cur : List Nat} {k q Y cy br : Nat} (hS : val cur + q * Y = val wl + BW ^ (k + 1) * (cy + br)) (hb0 : ¬ br = 0) (hbr : br ≤ 1) (hc : cy = 0) (hl : cur.length = wl.length) (hwl : wl.length = k + 1) (hD : Dig cur) : 1 ≤ q := by
 have e0 : cy + br = 1 := by omega
 rw [e0, Nat.mul_one] at hS
 have := val_lt hD
 rw [hl, hwl] at this
 rcases Nat.eq_zero_or_pos q with h | h
 ·subst h; rw [Nat.zero_mul] at hS; omega
 ·exact h
theorem then_ret {K : Act → World → Prop} {Q : Exit → Act → World → Prop} {a : Act} {w : World} (h : Q .ret a w) : Exit.then K Q .ret a w := h
theorem inBlock_ret {n : Nat} {Q : Exit → Act → World → Prop} {a : Act} {w : World} (h : Q .ret a w) : Exit.inBlock n Q .ret a w := h
theorem guess_sub {q v1 r hd : Nat} (h0 : 0 < q) (h : q * v1 + r = hd) : (q - 1) * v1 + (r + v1) = hd := by
 obtain ⟨p, rfl⟩ : ∃ p, q = p + 1 := ⟨q - 1, by omega⟩
 rw [Nat.add_mul, Nat.one_mul] at h
 rw [Nat.add_sub_cancel]; omega
theorem word_sub {wl yl cur : List Nat} {k q cy br j : Nat} (hwl : wl.length = k + 1) (hyl : yl.length = k) (hj : j = k + 1) (hI : cur.length = wl.length ∧ Dig cur ∧ (∀ i, j ≤ i → cur.getD i 0 = wl.getD i 0) ∧ val (cur.take j) + q * val (yl.take j) = val (wl.take j) + BW ^ j * (cy + br)) :
  val cur + q * val yl = val wl + BW ^ (k + 1) * (cy + br) := by
 subst hj
 have h := hI.2.2.2
 rwa [val_take_le (by omega), val_take_le (by omega), val_take_le (by omega)] at h
theorem word_end0 {w0 w' : World} {g k q r v1 v2 hd a2 P cy br : Nat} {pre wl post yl cur : List Nat} {Lr : List Bx} (G : Guess (val wl) (val yl) hd v1 v2 a2 P) (hq : q * v1 + r = hd ∧ q < BW ∧ val wl / val yl ≤ q) (NR : q ≤ val wl / val yl + 1)
  (hS : val cur + q * val yl = val wl + BW ^ (k + 1) * (cy + br)) (hb0 : br = 0) (hl : cur.length = wl.length) (hD : Dig cur) (hs : St w0 w' ((⟨g, wc (pre ++ cur ++ post), 100⟩ : Bx) :: Lr)) (hwl : wl.length = k + 1) (hc : cy = 0) :
  ∃ rl, Ending.returned (.int .u32 ((q % BW : Nat) : Int)) = .returned (.int .u32 ((val wl / val yl : Nat) : Int)) ∧ rl.length = k + 1 ∧ Dig rl ∧ val rl = val wl % val yl ∧ St w0 w' ((⟨g, wc (pre ++ rl ++ post), 100⟩ : Bx) :: Lr) := by
 have e0 : cy + br = 0 := by omega
 rw [e0, Nat.mul_zero, Nat.add_zero] at hS
 rcases G.or hq.2.2 NR with ⟨h1, h2, h3⟩ | ⟨h1, _⟩
 ·refine ⟨cur, by rw [Nat.mod_eq_of_lt hq.2.1, h3], by omega, hD, ?_, hs⟩
  have := Nat.div_add_mod (val wl) (val yl)
  rw [← h3, Nat.mul_comm] at this
  omega
 ·omega
theorem word_end1 {w0 w' : World} {g k q r v1 v2 hd a2 P cy br c3 : Nat} {pre wl post yl cur cu3 : List Nat} {Lr : List Bx} (G : Guess (val wl) (val yl) hd v1 v2 a2 P) (hq : q * v1 + r = hd ∧ q < BW ∧ val wl / val yl ≤ q) (NR : q ≤ val wl / val yl + 1)
  (hS : val cur + q * val yl = val wl + BW ^ (k + 1) * (cy + br)) (hb0 : ¬ br = 0) (hbr : br ≤ 1) (hl : cur.length = wl.length)
  (hI3 : cu3.length = cur.length ∧ Dig cu3 ∧ (∀ i, k + 1 ≤ i → cu3.getD i 0 = cur.getD i 0) ∧ val (cu3.take (k + 1)) + BW ^ (k + 1) * c3 = val (cur.take (k + 1)) + val (yl.take (k + 1)))
  (hwl : wl.length = k + 1) (hyl : yl.length = k) (hc3 : c3 ≤ 1) (hc : cy = 0) (hs : St w0 w' ((⟨g, wc (pre ++ cu3 ++ post), 100⟩ : Bx) :: Lr)) (hD : Dig cur) (hYD : Dig yl) :
  ∃ rl, Ending.returned (.int .u32 (((q - 1) % BW : Nat) : Int)) = .returned (.int .u32 ((val wl / val yl : Nat) : Int)) ∧ rl.length = k + 1 ∧ Dig rl ∧ val rl = val wl % val yl ∧ St w0 w' ((⟨g, wc (pre ++ rl ++ post), 100⟩ : Bx) :: Lr) := by
 have e0 : cy + br = 1 := by omega
 have h3 := hI3.2.2.2
 rw [val_take_le (by omega), val_take_le (by omega), val_take_le (by omega)] at h3
 rw [e0, Nat.mul_one] at hS
 have hlc := val_lt hD
 rw [hl, hwl] at hlc
 rcases G.or hq.2.2 NR with ⟨h1, _⟩ | ⟨h1, h2, h4, h5, h6⟩
 ·omega
 ·have hY : val yl < BW ^ (k + 1) := by
   have h7 : BW ^ k ≤ BW ^ (k + 1) := Nat.pow_le_pow_right BW_pos (by omega)
   have h8 := val_lt hYD
   rw [hyl] at h8
   omega
  refine ⟨cu3, by rw [Nat.mod_eq_of_lt (by omega), h6], by omega, hI3.2.1, ?_, hs⟩
  have e := add_end (cur := cu3) (n := k + 1) (V := val cur) (q := q) (X := val wl) (Y := val yl) (cy := c3) (by omega) hI3.2.1 hS h3 h2 h4 (by omega) hc3
  have := Nat.div_add_mod (val wl) (val yl)
  rw [← h6, Nat.mul_comm] at this
  omega
set_option maxRecDepth 100000 in
set_option maxHeartbeats 4000000 in
theorem word_c {Q w:World} {g k N k1 k2 cap cb A F D p C hd v P:Nat} {bd:Addr} {pre wl post yl:List Nat} {Lr:List Bx} (hs:St Q w ((⟨g,wc (pre++wl++post),100⟩:Bx)::Lr))
  (hY:∀ w' cs,St Q w' ((⟨g,cs,100⟩:Bx)::Lr)→Wds w' (some bd) k cb yl) (hwl:wl.length=k+1) (hN:N=k+1) (hyl:yl.length=k) (hk:2≤k) (hkm:k≤1000000000) (hD:Dig wl) (hYD:Dig yl)
  (bg:k1+1=k) (bh:k2+2=k) (ax:wl.getD k 0=A) (ay:wl.getD k1 0=F) (az:wl.getD k2 0=D) (aa:A<BW) (af:F<BW) (ag:D<BW) (aA:p<BW) (aC:C<BW) (bi:0<p)
  (hhd:A * BW+F=hd) (hHD:hd<18446744073709551616) (aD:Hid (Nat.min (hd / p) 4294967295=v)) (ah:v≤hd / p∧v<BW∧val wl / val yl≤v) (hqv:v * p≤hd)
  (G:Guess (val wl) (val yl) hd p C D P) :
  Calls Try.prog 125 #[E (some ⟨g,pre.length,none⟩) N cap,E (some bd) k cb,J ((p:Nat):Int),J ((C:Nat):Int)] w (fun e w'=>∃ rl,e=.returned (.int .u32 ((val wl / val yl:Nat):Int))∧rl.length=k+1∧Dig rl∧val rl=val wl % val yl∧St Q w' ((⟨g,wc (pre++rl++post),100⟩:Bx)::Lr)):=by
 go_enter Try.func125,Try.ntmps125
 refine wp_seq_k fun K1 aF=>?_
 refine wp_region_lit ?_
 refine PV (.int .u32 0) rfl rfl ?_
 simp only [PA]
 refine wpList_nil ?_
 refine aF _ _ ?_
 refine wp_seq_k fun K3 aG=>?_
 refine wp_region_lit ?_
 refine PV (E (some bd) k cb) rfl rfl ?_
 simp only [PA]
 refine PV (I (k:Int)) (run_len36 rfl rfl) rfl ?_
 simp only [PA]
 refine PV (I (k:Int)) rfl rfl ?_
 simp only [PA]
 refine wpList_nil ?_
 refine aG _ _ ?_
 refine wp_seq_k fun K5 aH=>?_
 refine region_drawn 14 (fun j=>decide (14≤j)) (by kernel_rfl) rfl hs fun w7 H u9=>?_
 refine TK (i:=0) (E (some ⟨g,pre.length,none⟩) N cap) rfl (by kernel_rfl) (fun _ _ _ h=>h) rfl (fun _ hS=>rfl) H.has ?_
 simp only [PA]
 refine TK (i:=1) (I (k:Int)) rfl (by kernel_rfl) (fun _ _ _ h=>h) rfl (fun _ hS=>rfl) H.has ?_
 simp only [PA]
 refine TK (i:=2) (.pointer (some ⟨g,(pre.length+k),none⟩)) rfl (by kernel_rfl) (fun _ _ _ h=>h) rfl (fun _ hS=>(run_idxW rfl rfl rfl (by omega))) H.has ?_
 simp only [PA]
 refine TK (i:=3) (.int .u32 ((A:Nat):Int)) rfl (by kernel_rfl) (fun _ _ _ h=>h) rfl (fun _ hS=>(CT (run_loadWin rfl rfl (hS _ (MI (i:=0) rfl)) (by omega)) (vnat ax))) H.has ?_
 simp only [PA]
 refine TK (i:=4) (J ((A:Nat):Int)) rfl (by kernel_rfl) (fun _ _ _ h=>h) rfl (fun _ hS=>(run_cv _ rfl rfl rfl rfl (wrap_u64 (by rw [BW_eq] at aa; omega)))) H.has ?_
 simp only [PA]
 refine TK (i:=5) (J ((A * BW:Nat):Int)) rfl (by kernel_rfl) (fun _ _ _ h=>h) rfl (fun _ hS=>(CT (run_bin (J ((A:Nat):Int)) (J 32) _ rfl rfl rfl (bin_shl_104_u64 _ _ _ _)) (vint (w_shl32 (a:=A) aa)))) H.has ?_
 simp only [PA]
 refine TK (i:=6) (E (some ⟨g,pre.length,none⟩) N cap) rfl (by kernel_rfl) (fun _ _ _ h=>h) rfl (fun _ hS=>rfl) H.has ?_
 simp only [PA]
 refine TK (i:=7) (I (k:Int)) rfl (by kernel_rfl) (fun _ _ _ h=>h) rfl (fun _ hS=>rfl) H.has ?_
 simp only [PA]
 refine TK (i:=8) (I ((k1:Nat):Int)) rfl (by kernel_rfl) (fun _ _ _ h=>h) rfl (fun _ hS=>(CT (run_bin (I (k:Int)) (I 1) _ rfl rfl rfl (bin_sub_3 _ _ _ _)) (vint (by rw [IntKind.wrap_i64]; omega)))) H.has ?_
 simp only [PA]
 refine TK (i:=9) (.pointer (some ⟨g,(pre.length+k1),none⟩)) rfl (by kernel_rfl) (fun _ _ _ h=>h) rfl (fun _ hS=>(run_idxW rfl rfl rfl (by omega))) H.has ?_
 simp only [PA]
 refine TK (i:=10) (.int .u32 ((F:Nat):Int)) rfl (by kernel_rfl) (fun _ _ _ h=>h) rfl (fun _ hS=>(CT (run_loadWin rfl rfl (hS _ (MI (i:=0) rfl)) (by omega)) (vnat ay))) H.has ?_
 simp only [PA]
 refine TK (i:=11) (J ((F:Nat):Int)) rfl (by kernel_rfl) (fun _ _ _ h=>h) rfl (fun _ hS=>(run_cv _ rfl rfl rfl rfl (wrap_u64 (by rw [BW_eq] at af; omega)))) H.has ?_
 simp only [PA]
 refine TK (i:=12) (J ((hd:Nat):Int)) rfl (by kernel_rfl) (fun _ _ _ h=>h) rfl (fun _ hS=>(CT (run_bin (J ((A * BW:Nat):Int)) (J ((F:Nat):Int)) _ rfl rfl rfl (bin_or_104 _ _ _ _)) ((vint (head_or aa af)).trans (vnat hhd)))) H.has ?_
 simp only [PA]
 refine TK (i:=13) (J ((hd:Nat):Int)) rfl (by kernel_rfl) (fun _ _ _ h=>h) rfl (fun _ hS=>rfl) H.has ?_
 simp only [PA]
 refine anyT_done (by kernel_rfl) ?_ _
 refine aH _ _ ?_
 refine wp_seq_k fun bn aK=>?_
 refine wp_region_lit ?_
 refine PV (J ((hd:Nat):Int)) rfl rfl ?_
 simp only [PA]
 refine PV (J ((p:Nat):Int)) rfl rfl ?_
 simp only [PA]
 refine PV (J ((hd / p:Nat):Int)) (CT (run_bin (J ((hd:Nat):Int)) (J ((p:Nat):Int)) _ rfl rfl rfl (bin_quo_104 _ _ _ _ (by omega))) (vint (w_quo hHD))) rfl ?_
 simp only [PA]
 refine PV (J ((v:Nat):Int)) (CT (run_min rfl rfl rfl) (vnat aD.out)) rfl ?_
 simp only [PA]
 refine PV (J ((v:Nat):Int)) rfl rfl ?_
 simp only [PA]
 refine wpList_nil ?_
 refine aK _ _ ?_
 refine wp_seq_k fun bo aL=>?_
 refine wp_seq_k fun bp aM=>?_
 refine wp_region_lit ?_
 refine PV (J ((hd:Nat):Int)) rfl rfl ?_
 simp only [PA]
 refine PV (J ((v:Nat):Int)) rfl rfl ?_
 simp only [PA]
 refine PV (J ((p:Nat):Int)) rfl rfl ?_
 simp only [PA]
 refine PV (J ((v * p:Nat):Int)) (CT (run_bin (J ((v:Nat):Int)) (J ((p:Nat):Int)) _ rfl rfl rfl (bin_mul_104 _ _ _ _)) (vint (w_mul (m:=v) (n:=p) (by omega)))) rfl ?_
 simp only [PA]
 refine PV (J ((hd - v * p:Nat):Int)) (CT (run_bin (J ((hd:Nat):Int)) (J ((v * p:Nat):Int)) _ rfl rfl rfl (bin_sub_104 _ _ _ _)) (vint (w_sub hqv hHD))) rfl ?_
 simp only [PA]
 refine PV (J ((hd - v * p:Nat):Int)) rfl rfl ?_
 simp only [PA]
 refine wpList_nil ?_
 refine aM _ _ ?_
 refine wp_cut (fun aa_ w'=>∃ (q:Nat) (r:Nat) (c:List Value),aa_=⟨#[E (some ⟨g,pre.length,none⟩) N cap,E (some bd) k cb,J ((p:Nat):Int),J ((C:Nat):Int),O,O,O,O,.int .u32 0,I (k:Int),J ((hd:Nat):Int),J ((q:Nat):Int),J ((r:Nat):Int),O,O,O,O,O,E (some bd) k cb,I (k:Int),E (some ⟨g,pre.length,none⟩) N cap,I (k:Int),.pointer (some ⟨g,(pre.length+k),none⟩),.int .u32 ((A:Nat):Int),J ((A:Nat):Int),J ((A * BW:Nat):Int),E (some ⟨g,pre.length,none⟩) N cap,I (k:Int),I ((k1:Nat):Int),.pointer (some ⟨g,(pre.length+k1),none⟩),.int .u32 ((F:Nat):Int),J ((F:Nat):Int),J ((hd:Nat):Int),J ((hd:Nat):Int),J ((p:Nat):Int),J ((hd / p:Nat):Int),J ((v:Nat):Int),J ((hd:Nat):Int),J ((v:Nat):Int),J ((p:Nat):Int),J ((v * p:Nat):Int),J ((hd - v * p:Nat):Int),(GD c 0),(GD c 1),(GD c 2),(GD c 3),(GD c 4),(GD c 5),(GD c 6),(GD c 7),(GD c 8),(GD c 9),(GD c 10),(GD c 11),(GD c 12),(GD c 13),(GD c 14),(GD c 15),(GD c 16),(GD c 17),(GD c 18),(GD c 19),(GD c 20),(GD c 21),O,O,O,O,O,O,O,O,O,O,O,O,O,O,O,O,O,O,O,O,O,O,O,O,O,O,O,O,O,O,O,O,O,O,O,O,O,O,O,O,O,O,O,O,O,O,O,O,O,O,O,O,O,O,O,O,O,O,O,O,O,O,O,O,O,O,O,O,O,O,O,O,O],[]⟩∧St Q w' ((⟨g,wc (pre++wl++post),100⟩:Bx)::Lr)∧(q * p+r=hd∧q<BW∧val wl / val yl≤q)∧(q≤val wl / val yl+1)∧U w7 w') ?_ ?_
 ·refine wp_block ?_
  refine wp_loop_g (fun mm aa_ w'=>∃ (q:Nat) (r:Nat) (z:List Value),aa_=⟨#[E (some ⟨g,pre.length,none⟩) N cap,E (some bd) k cb,J ((p:Nat):Int),J ((C:Nat):Int),O,O,O,O,.int .u32 0,I (k:Int),J ((hd:Nat):Int),J ((q:Nat):Int),J ((r:Nat):Int),O,O,O,O,O,E (some bd) k cb,I (k:Int),E (some ⟨g,pre.length,none⟩) N cap,I (k:Int),.pointer (some ⟨g,(pre.length+k),none⟩),.int .u32 ((A:Nat):Int),J ((A:Nat):Int),J ((A * BW:Nat):Int),E (some ⟨g,pre.length,none⟩) N cap,I (k:Int),I ((k1:Nat):Int),.pointer (some ⟨g,(pre.length+k1),none⟩),.int .u32 ((F:Nat):Int),J ((F:Nat):Int),J ((hd:Nat):Int),J ((hd:Nat):Int),J ((p:Nat):Int),J ((hd / p:Nat):Int),J ((v:Nat):Int),J ((hd:Nat):Int),J ((v:Nat):Int),J ((p:Nat):Int),J ((v * p:Nat):Int),J ((hd - v * p:Nat):Int),(GD z 0),(GD z 1),(GD z 2),(GD z 3),(GD z 4),(GD z 5),(GD z 6),(GD z 7),(GD z 8),(GD z 9),(GD z 10),(GD z 11),(GD z 12),(GD z 13),(GD z 14),(GD z 15),(GD z 16),(GD z 17),(GD z 18),(GD z 19),(GD z 20),(GD z 21),O,O,O,O,O,O,O,O,O,O,O,O,O,O,O,O,O,O,O,O,O,O,O,O,O,O,O,O,O,O,O,O,O,O,O,O,O,O,O,O,O,O,O,O,O,O,O,O,O,O,O,O,O,O,O,O,O,O,O,O,O,O,O,O,O,O,O,O,O,O,O,O,O],[]⟩∧St Q w' ((⟨g,wc (pre++wl++post),100⟩:Bx)::Lr)∧(q * p+r=hd∧q<BW∧val wl / val yl≤q)∧U w7 w'∧q=mm) (v) ⟨v,hd - v * p,[O,O,O,O,O,O,O,O,O,O,O,O,O,O,O,O,O,O,O,O,O,O],rfl,H,⟨by omega,ah.2.1,ah.2.2⟩,U.refl w7,rfl⟩ ?_
  rintro _ _ bq ⟨q,r,z,rfl,W,hq,ac,rfl⟩
  refine wp_seq_k fun bs aN=>?_
  refine wp_seq_k fun bt ad=>?_
  refine wp_region_lit ?_
  refine PV (J ((r:Nat):Int)) rfl rfl ?_
  simp only [PA]
  by_cases hr:(((r:Nat):Int):Int)<4294967296
  ·skip
   refine PV (T true) (CT (run_bin (J ((r:Nat):Int)) (J 4294967296) _ rfl rfl rfl (bin_lss_104 _ _ _ _)) (congrArg Value.bool (decide_eq_true hr))) rfl ?_
   simp only [PA]
   refine PV (T true) rfl rfl ?_
   simp only [PA]
   refine wpList_on (by kernel_rfl) fun K hK=>o_val (J ((q:Nat):Int)) rfl (hK _ _ ?_)
   simp only [PA]
   refine wpList_on (by kernel_rfl) fun K hK=>o_val (J ((C:Nat):Int)) rfl (hK _ _ ?_)
   simp only [PA]
   refine wpList_on (by kernel_rfl) fun K hK=>o_val (J ((q * C:Nat):Int)) (CT (run_bin (J ((q:Nat):Int)) (J ((C:Nat):Int)) _ rfl rfl rfl (bin_mul_104 _ _ _ _)) (vint (w_mul (mul_lt64 hq.2.1 aC)))) (hK _ _ ?_)
   simp only [PA]
   refine wpList_on (by kernel_rfl) fun K hK=>o_val (J ((r:Nat):Int)) rfl (hK _ _ ?_)
   simp only [PA]
   obtain ⟨rb,hrb⟩:∃ x:Nat,r * BW=x:=⟨_,rfl⟩
   refine wpList_on (by kernel_rfl) fun K hK=>o_val (J ((rb:Nat):Int)) (CT (run_bin (J ((r:Nat):Int)) (J 32) _ rfl rfl rfl (bin_shl_104_u64 _ _ _ _)) ((vint (w_shl32 (a:=r) (lt_lit hr))).trans (vnat hrb))) (hK _ _ ?_)
   simp only [PA]
   refine wpList_on (by kernel_rfl) fun K hK=>o_val (E (some ⟨g,pre.length,none⟩) N cap) rfl (hK _ _ ?_)
   simp only [PA]
   refine wpList_on (by kernel_rfl) fun K hK=>o_val (I (k:Int)) rfl (hK _ _ ?_)
   simp only [PA]
   refine wpList_on (by kernel_rfl) fun K hK=>o_val (I ((k2:Nat):Int)) (CT (run_bin (I (k:Int)) (I 2) _ rfl rfl rfl (bin_sub_3 _ _ _ _)) (vint (by rw [IntKind.wrap_i64]; omega))) (hK _ _ ?_)
   simp only [PA]
   refine wpList_on (by kernel_rfl) fun K hK=>o_val (.pointer (some ⟨g,(pre.length+k2),none⟩)) (run_idxW rfl rfl rfl (by omega)) (hK _ _ ?_)
   simp only [PA]
   refine wpList_on (by kernel_rfl) fun K hK=>o_val (.int .u32 ((D:Nat):Int)) (CT (run_loadWin rfl rfl (W.at_ _ (MI (i:=0) rfl)) (by omega)) (vnat az)) (hK _ _ ?_)
   simp only [PA]
   refine wpList_on (by kernel_rfl) fun K hK=>o_val (J ((D:Nat):Int)) (run_cv _ rfl rfl rfl rfl (wrap_u64 (by rw [BW_eq] at ag; omega))) (hK _ _ ?_)
   simp only [PA]
   refine wpList_on (by kernel_rfl) fun K hK=>o_val (J ((rb+D:Nat):Int)) (CT (run_bin (J ((rb:Nat):Int)) (J ((D:Nat):Int)) _ rfl rfl rfl (bin_or_104 _ _ _ _)) (vint (hrb▸head_or (a:=r) (b:=D) (lt_lit hr) ag))) (hK _ _ ?_)
   simp only [PA]
   by_cases hgt:(((rb+D:Nat):Int):Int)<((q * C:Nat):Int)
   ·skip
    refine wpList_on (by kernel_rfl) fun K hK=>o_val (T true) (CT (run_bin (J ((q * C:Nat):Int)) (J ((rb+D:Nat):Int)) _ rfl rfl rfl (bin_gtr_104 _ _ _ _)) (congrArg Value.bool (decide_eq_true hgt))) (hK _ _ ?_)
    simp only [PA]
    refine PV (T true) rfl rfl ?_
    simp only [PA]
    refine wpList_nil ?_
    refine ad _ _ ?_
    refine cond_true rfl ?_
    refine wp_skip ?_
    refine aN _ _ ?_
    refine wp_seq_k fun bu aP=>?_
    refine wp_block ?_
    refine wp_region_lit ?_
    refine PV (J ((q:Nat):Int)) rfl rfl ?_
    simp only [PA]
    refine PV (J ((q - 1:Nat):Int)) (CT (run_bin (J ((q:Nat):Int)) (J 1) _ rfl rfl rfl (bin_sub_104 _ _ _ _)) (vint (w_sub (m:=q) (n:=1) (by have:=(G.down hq.1 hq.2.2 (by omega)).2; omega) (by have:=hq.2.1; rw [BW_eq] at this; omega)))) rfl ?_
    simp only [PA]
    refine PV (J ((q - 1:Nat):Int)) rfl rfl ?_
    simp only [PA]
    refine wpList_nil ?_
    refine aP _ _ ?_
    refine wp_region_lit ?_
    refine PV (J ((r:Nat):Int)) rfl rfl ?_
    simp only [PA]
    refine PV (J ((p:Nat):Int)) rfl rfl ?_
    simp only [PA]
    refine PV (J ((r+p:Nat):Int)) (CT (run_bin (J ((r:Nat):Int)) (J ((p:Nat):Int)) _ rfl rfl rfl (bin_add_104 _ _ _ _)) (vint (w_add (m:=r) (n:=p) (by rw [BW_eq] at aA; omega)))) rfl ?_
    simp only [PA]
    refine PV (J ((r+p:Nat):Int)) rfl rfl ?_
    simp only [PA]
    refine wpList_nil ?_
    exact ⟨q - 1,(by have:=(G.down hq.1 hq.2.2 (by omega)).2; omega),q - 1,r+p,[J ((r:Nat):Int),T true,T true,J ((q:Nat):Int),J ((C:Nat):Int),J ((q * C:Nat):Int),J ((r:Nat):Int),J ((rb:Nat):Int),E (some ⟨g,pre.length,none⟩) N cap,I (k:Int),I ((k2:Nat):Int),.pointer (some ⟨g,(pre.length+k2),none⟩),.int .u32 ((D:Nat):Int),J ((D:Nat):Int),J ((rb+D:Nat):Int),T true,T true,J ((r:Nat):Int),J ((p:Nat):Int),J ((r+p:Nat):Int),J ((q:Nat):Int),J ((q - 1:Nat):Int)],rfl,W,⟨guess_sub (G.down hq.1 hq.2.2 (by omega)).2 hq.1,by have:=hq.2.1; omega,(G.down hq.1 hq.2.2 (by omega)).1⟩,ac,rfl⟩
   ·skip
    refine wpList_on (by kernel_rfl) fun K hK=>o_val (T false) (CT (run_bin (J ((q * C:Nat):Int)) (J ((rb+D:Nat):Int)) _ rfl rfl rfl (bin_gtr_104 _ _ _ _)) (congrArg Value.bool (decide_eq_false hgt))) (hK _ _ ?_)
    simp only [PA]
    refine PV (T false) rfl rfl ?_
    simp only [PA]
    refine wpList_nil ?_
    refine ad _ _ ?_
    refine cond_false rfl ?_
    refine wp_exit ?_
    exact ⟨q,r,[J ((r:Nat):Int),T true,T true,J ((q:Nat):Int),J ((C:Nat):Int),J ((q * C:Nat):Int),J ((r:Nat):Int),J ((rb:Nat):Int),E (some ⟨g,pre.length,none⟩) N cap,I (k:Int),I ((k2:Nat):Int),.pointer (some ⟨g,(pre.length+k2),none⟩),.int .u32 ((D:Nat):Int),J ((D:Nat):Int),J ((rb+D:Nat):Int),T false,T false,(GD z 17),(GD z 18),(GD z 19),(GD z 20),(GD z 21)],rfl,W,hq,by first | exact G.near hq.1 hq.2.1 (by omega) | exact G.near hq.1 hq.2.1 (near_big hq.2.1 G.hv2 (by rw [BW_eq]; omega)),ac⟩
  ·skip
   refine PV (T false) (CT (run_bin (J ((r:Nat):Int)) (J 4294967296) _ rfl rfl rfl (bin_lss_104 _ _ _ _)) (congrArg Value.bool (decide_eq_false hr))) rfl ?_
   simp only [PA]
   refine PV (T false) rfl rfl ?_
   simp only [PA]
   with_reducible refine wpList_off ?_ ?_
   ·with_reducible exact wanted_off rfl rfl rfl
   simp only [PA]
   with_reducible refine wpList_off ?_ ?_
   ·with_reducible exact wanted_off rfl rfl rfl
   simp only [PA]
   with_reducible refine wpList_off ?_ ?_
   ·with_reducible exact wanted_off rfl rfl rfl
   simp only [PA]
   with_reducible refine wpList_off ?_ ?_
   ·with_reducible exact wanted_off rfl rfl rfl
   simp only [PA]
   with_reducible refine wpList_off ?_ ?_
   ·with_reducible exact wanted_off rfl rfl rfl
   simp only [PA]
   with_reducible refine wpList_off ?_ ?_
   ·with_reducible exact wanted_off rfl rfl rfl
   simp only [PA]
   with_reducible refine wpList_off ?_ ?_
   ·with_reducible exact wanted_off rfl rfl rfl
   simp only [PA]
   with_reducible refine wpList_off ?_ ?_
   ·with_reducible exact wanted_off rfl rfl rfl
   simp only [PA]
   with_reducible refine wpList_off ?_ ?_
   ·with_reducible exact wanted_off rfl rfl rfl
   simp only [PA]
   with_reducible refine wpList_off ?_ ?_
   ·with_reducible exact wanted_off rfl rfl rfl
   simp only [PA]
   with_reducible refine wpList_off ?_ ?_
   ·with_reducible exact wanted_off rfl rfl rfl
   simp only [PA]
   with_reducible refine wpList_off ?_ ?_
   ·with_reducible exact wanted_off rfl rfl rfl
   simp only [PA]
   with_reducible refine wpList_off ?_ ?_
   ·with_reducible exact wanted_off rfl rfl rfl
   simp only [PA]
   refine PV (T false) rfl rfl ?_
   simp only [PA]
   refine wpList_nil ?_
   refine ad _ _ ?_
   refine cond_false rfl ?_
   refine wp_exit ?_
   exact ⟨q,r,[J ((r:Nat):Int),T false,T false,O,O,O,O,O,O,O,O,O,O,O,O,O,T false,(GD z 17),(GD z 18),(GD z 19),(GD z 20),(GD z 21)],rfl,W,hq,by first | exact G.near hq.1 hq.2.1 (by omega) | exact G.near hq.1 hq.2.1 (near_big hq.2.1 G.hv2 (by rw [BW_eq]; omega)),ac⟩
 ·skip
  rintro _ bv ⟨q,r,c,rfl,aQ,hq,NR,bw⟩
  refine aL _ _ ?_
  refine wp_seq_k fun bx aR=>?_
  refine wp_region_lit ?_
  refine PV (J 0) rfl rfl ?_
  simp only [PA]
  refine PV (J 0) rfl rfl ?_
  simp only [PA]
  refine wpList_nil ?_
  refine aR _ _ ?_
  refine wp_seq_k fun bz aS=>?_
  refine wp_seq_k fun bA aU=>?_
  refine wp_region_lit ?_
  refine PV (I 0) rfl rfl ?_
  simp only [PA]
  refine wpList_nil ?_
  refine aU _ _ ?_
  refine wp_cut (fun aa_ w'=>∃ (cy:Nat) (br:Nat) (cur:List Nat) (l:List Value),aa_=⟨#[E (some ⟨g,pre.length,none⟩) N cap,E (some bd) k cb,J ((p:Nat):Int),J ((C:Nat):Int),O,O,O,O,.int .u32 0,I (k:Int),J ((hd:Nat):Int),J ((q:Nat):Int),J ((r:Nat):Int),J ((br:Nat):Int),J ((cy:Nat):Int),(GD l 0),(GD l 1),O,E (some bd) k cb,I (k:Int),E (some ⟨g,pre.length,none⟩) N cap,I (k:Int),.pointer (some ⟨g,(pre.length+k),none⟩),.int .u32 ((A:Nat):Int),J ((A:Nat):Int),J ((A * BW:Nat):Int),E (some ⟨g,pre.length,none⟩) N cap,I (k:Int),I ((k1:Nat):Int),.pointer (some ⟨g,(pre.length+k1),none⟩),.int .u32 ((F:Nat):Int),J ((F:Nat):Int),J ((hd:Nat):Int),J ((hd:Nat):Int),J ((p:Nat):Int),J ((hd / p:Nat):Int),J ((v:Nat):Int),J ((hd:Nat):Int),J ((v:Nat):Int),J ((p:Nat):Int),J ((v * p:Nat):Int),J ((hd - v * p:Nat):Int),(GD c 0),(GD c 1),(GD c 2),(GD c 3),(GD c 4),(GD c 5),(GD c 6),(GD c 7),(GD c 8),(GD c 9),(GD c 10),(GD c 11),(GD c 12),(GD c 13),(GD c 14),(GD c 15),(GD c 16),(GD c 17),(GD c 18),(GD c 19),(GD c 20),(GD c 21),(GD l 2),(GD l 3),(GD l 4),(GD l 5),(GD l 6),(GD l 7),(GD l 8),(GD l 9),(GD l 10),(GD l 11),(GD l 12),(GD l 13),(GD l 14),(GD l 15),(GD l 16),(GD l 17),(GD l 18),(GD l 19),(GD l 20),(GD l 21),(GD l 22),(GD l 23),(GD l 24),(GD l 25),(GD l 26),(GD l 27),(GD l 28),(GD l 29),(GD l 30),(GD l 31),(GD l 32),(GD l 33),(GD l 34),(GD l 35),(GD l 36),(GD l 37),(GD l 38),O,O,O,O,O,O,O,O,O,O,O,O,O,O,O,O,O,O,O,O,O,O,O,O,O,O,O,O,O,O,O,O,O,O,O,O],[]⟩∧St Q w' ((⟨g,wc (pre++cur++post),100⟩:Bx)::Lr)∧(br≤1)∧(cy=0)∧(cur.length=wl.length∧Dig cur∧val cur+q * val yl=val wl+BW ^ (k+1) * (cy+br))∧True) ?_ ?_
  ·refine wp_block ?_
   refine wp_loop_g (fun mm aa_ w'=>∃ (j:Nat) (cy:Nat) (br:Nat) (cur:List Nat) (f:List Value),aa_=⟨#[E (some ⟨g,pre.length,none⟩) N cap,E (some bd) k cb,J ((p:Nat):Int),J ((C:Nat):Int),O,O,O,O,.int .u32 0,I (k:Int),J ((hd:Nat):Int),J ((q:Nat):Int),J ((r:Nat):Int),J ((br:Nat):Int),J ((cy:Nat):Int),I ((j:Nat):Int),(GD f 0),O,E (some bd) k cb,I (k:Int),E (some ⟨g,pre.length,none⟩) N cap,I (k:Int),.pointer (some ⟨g,(pre.length+k),none⟩),.int .u32 ((A:Nat):Int),J ((A:Nat):Int),J ((A * BW:Nat):Int),E (some ⟨g,pre.length,none⟩) N cap,I (k:Int),I ((k1:Nat):Int),.pointer (some ⟨g,(pre.length+k1),none⟩),.int .u32 ((F:Nat):Int),J ((F:Nat):Int),J ((hd:Nat):Int),J ((hd:Nat):Int),J ((p:Nat):Int),J ((hd / p:Nat):Int),J ((v:Nat):Int),J ((hd:Nat):Int),J ((v:Nat):Int),J ((p:Nat):Int),J ((v * p:Nat):Int),J ((hd - v * p:Nat):Int),(GD c 0),(GD c 1),(GD c 2),(GD c 3),(GD c 4),(GD c 5),(GD c 6),(GD c 7),(GD c 8),(GD c 9),(GD c 10),(GD c 11),(GD c 12),(GD c 13),(GD c 14),(GD c 15),(GD c 16),(GD c 17),(GD c 18),(GD c 19),(GD c 20),(GD c 21),(GD f 1),(GD f 2),(GD f 3),(GD f 4),(GD f 5),(GD f 6),(GD f 7),(GD f 8),(GD f 9),(GD f 10),(GD f 11),(GD f 12),(GD f 13),(GD f 14),(GD f 15),(GD f 16),(GD f 17),(GD f 18),(GD f 19),(GD f 20),(GD f 21),(GD f 22),(GD f 23),(GD f 24),(GD f 25),(GD f 26),(GD f 27),(GD f 28),(GD f 29),(GD f 30),(GD f 31),(GD f 32),(GD f 33),(GD f 34),(GD f 35),(GD f 36),(GD f 37),O,O,O,O,O,O,O,O,O,O,O,O,O,O,O,O,O,O,O,O,O,O,O,O,O,O,O,O,O,O,O,O,O,O,O,O],[]⟩∧St Q w' ((⟨g,wc (pre++cur++post),100⟩:Bx)::Lr)∧(j≤k+1)∧(br≤1)∧(cy<BW)∧(j=k+1→cy=0)∧((cur).length=wl.length∧Dig (cur)∧(∀ i,j≤i→(cur).getD i 0=wl.getD i 0)∧val ((cur).take (j))+q * val (yl.take (j))=val (wl.take (j))+BW ^ (j) * ((cy)+(br)))∧k+1 - j=mm) (k+1 - 0) ⟨0,0,0,wl,[O,O,O,O,O,O,O,O,O,O,O,O,O,O,O,O,O,O,O,O,O,O,O,O,O,O,O,O,O,O,O,O,O,O,O,O,O,O],rfl,aQ,by omega,by omega,BW_pos,by omega,⟨rfl,hD,fun _ _=>rfl,by simp [val]⟩,rfl⟩ ?_
   rintro _ _ bC ⟨j,cy,br,cur,f,rfl,R,hjN,hbr,hcy,hcz,hI,rfl⟩
   have hjB:j≤1000000001:=by omega
   refine wp_seq_k fun bD aV=>?_
   refine wp_seq_k fun bF ai=>?_
   refine wp_region_lit ?_
   refine PV (I ((j:Nat):Int)) rfl rfl ?_
   simp only [PA]
   refine PV (I (k:Int)) rfl rfl ?_
   simp only [PA]
   by_cases hle:(((j:Nat):Int):Int)≤(k:Int)
   ·skip
    refine PV (T true) (CT (run_bin (I ((j:Nat):Int)) (I (k:Int)) _ rfl rfl rfl (bin_leq_3 _ _ _ _)) (congrArg Value.bool (decide_eq_true hle))) rfl ?_
    simp only [PA]
    refine wpList_nil ?_
    refine ai _ _ ?_
    refine cond_true rfl ?_
    refine wp_skip ?_
    refine aV _ _ ?_
    refine wp_seq_k fun bG aj=>?_
    refine wp_block ?_
    refine wp_seq_k fun bH al=>?_
    refine wp_seq_k fun bK am=>?_
    refine wp_region_lit ?_
    refine PV (I ((j:Nat):Int)) rfl rfl ?_
    simp only [PA]
    refine PV (I (k:Int)) rfl rfl ?_
    simp only [PA]
    by_cases hlt:(((j:Nat):Int):Int)<(k:Int)
    ·skip
     refine PV (T true) (CT (run_bin (I ((j:Nat):Int)) (I (k:Int)) _ rfl rfl rfl (bin_lss_3 _ _ _ _)) (congrArg Value.bool (decide_eq_true hlt))) rfl ?_
     simp only [PA]
     refine wpList_nil ?_
     refine am _ _ ?_
     refine cond_true rfl ?_
     refine wp_region_lit ?_
     refine PV (J ((cy:Nat):Int)) rfl rfl ?_
     simp only [PA]
     refine PV (J ((q:Nat):Int)) rfl rfl ?_
     simp only [PA]
     refine PV (E (some bd) k cb) rfl rfl ?_
     simp only [PA]
     refine PV (I ((j:Nat):Int)) rfl rfl ?_
     simp only [PA]
     refine PV (.pointer (some (bd.add j))) (run_idx (t:=36) rfl rfl rfl (by omega)) rfl ?_
     simp only [PA]
     obtain ⟨yj,hyj⟩:∃ x:Nat,yl.getD j 0=x:=⟨_,rfl⟩
     have hyB:yj<BW:=hyj▸hYD.at_ j
     refine PV (.int .u32 ((yj:Nat):Int)) (CT (run_loadW _ rfl rfl ((hY _ _ R).cellA (by omega)) (ag100 _)) (vnat hyj)) rfl ?_
     simp only [PA]
     refine PV (J ((yj:Nat):Int)) (run_cv _ rfl rfl rfl rfl (wrap_u64 (by rw [BW_eq] at hyB; omega))) rfl ?_
     simp only [PA]
     refine PV (J ((q * yj:Nat):Int)) (CT (run_bin (J ((q:Nat):Int)) (J ((yj:Nat):Int)) _ rfl rfl rfl (bin_mul_104 _ _ _ _)) (vint (w_mul (mul_lt64 hq.2.1 hyB)))) rfl ?_
     simp only [PA]
     refine PV (J ((cy+q * yj:Nat):Int)) (CT (run_bin (J ((cy:Nat):Int)) (J ((q * yj:Nat):Int)) _ rfl rfl rfl (bin_add_104 _ _ _ _)) (vint (w_add (muladd_lt64 hq.2.1 hyB hcy).1))) rfl ?_
     simp only [PA]
     refine PV (J ((cy+q * yj:Nat):Int)) rfl rfl ?_
     simp only [PA]
     refine wpList_nil ?_
     refine al _ _ ?_
     refine wp_seq_k fun bL aW=>?_
     refine wp_region_lit ?_
     refine PV (E (some ⟨g,pre.length,none⟩) N cap) rfl rfl ?_
     simp only [PA]
     refine PV (I ((j:Nat):Int)) rfl rfl ?_
     simp only [PA]
     refine PV (.pointer (some ⟨g,(pre.length+j),none⟩)) (run_idxW rfl rfl rfl (by omega)) rfl ?_
     simp only [PA]
     obtain ⟨xj,hxj⟩:∃ x:Nat,wl.getD j 0=x:=⟨_,rfl⟩
     have hxB:xj<BW:=hxj▸hD.at_ j
     refine PV (.int .u32 ((xj:Nat):Int)) (CT (run_loadWin rfl rfl (R.at_ _ (MI (i:=0) rfl)) (by have:=hI.1; omega)) (vnat ((hI.2.2.1 j (Nat.le_refl _)).trans hxj))) rfl ?_
     simp only [PA]
     refine PV (J ((xj:Nat):Int)) (run_cv _ rfl rfl rfl rfl (wrap_u64 (by rw [BW_eq] at hxB; omega))) rfl ?_
     simp only [PA]
     refine PV (J ((cy+q * yj:Nat):Int)) rfl rfl ?_
     simp only [PA]
     obtain ⟨lo,hlo⟩:∃ x:Nat,((cy+q * yj) % BW)=x:=⟨_,rfl⟩
     have hloB:lo<BW:=hlo▸Nat.mod_lt _ BW_pos
     refine PV (.int .u32 ((lo:Nat):Int)) (CT (run_cv _ rfl rfl rfl rfl (wrap_u32)) (vnat hlo)) rfl ?_
     simp only [PA]
     refine PV (J ((lo:Nat):Int)) (run_cv _ rfl rfl rfl rfl (wrap_u64 (by rw [BW_eq] at hloB; omega))) rfl ?_
     simp only [PA]
     refine PV (J (((xj+(18446744073709551616 - lo)) % 18446744073709551616:Nat):Int)) (CT (run_bin (J ((xj:Nat):Int)) (J ((lo:Nat):Int)) _ rfl rfl rfl (bin_sub_104 _ _ _ _)) (vint (w_subw (m:=xj) (n:=lo) (by rw [BW_eq] at hxB; omega) (by rw [BW_eq] at hloB; omega)))) rfl ?_
     simp only [PA]
     refine PV (J ((br:Nat):Int)) rfl rfl ?_
     simp only [PA]
     obtain ⟨d,S⟩:∃ x:Nat,((xj+(18446744073709551616 - lo)) % 18446744073709551616+(18446744073709551616 - br)) % 18446744073709551616=x:=⟨_,rfl⟩
     have HT:=take_word hxB hloB hbr
     simp only [S] at HT
     refine PV (J ((d:Nat):Int)) (CT (run_bin (J (((xj+(18446744073709551616 - lo)) % 18446744073709551616:Nat):Int)) (J ((br:Nat):Int)) _ rfl rfl rfl (bin_sub_104 _ _ _ _)) ((vint (w_subw (m:=(xj+(18446744073709551616 - lo)) % 18446744073709551616) (n:=br) (Nat.mod_lt _ (by decide)) (by omega))).trans (vnat S))) rfl ?_
     simp only [PA]
     refine PV (J ((d:Nat):Int)) rfl rfl ?_
     simp only [PA]
     refine wpList_nil ?_
     refine aW _ _ ?_
     refine wp_seq_k fun bM aX=>?_
     refine wp_region_lit ?_
     refine PV (E (some ⟨g,pre.length,none⟩) N cap) rfl rfl ?_
     simp only [PA]
     refine PV (I ((j:Nat):Int)) rfl rfl ?_
     simp only [PA]
     refine PV (J ((d:Nat):Int)) rfl rfl ?_
     simp only [PA]
     refine PV (.int .u32 ((((d) % BW):Nat):Int)) (run_cv _ rfl rfl rfl rfl (wrap_u32)) rfl ?_
     simp only [PA]
     refine PV (.pointer (some ⟨g,(pre.length+j),none⟩)) (run_idxW rfl rfl rfl (by omega)) rfl ?_
     simp only [PA]
     refine wpList_plain rfl fun K hK=>o_stWin 0 (((d) % BW)) (((⟨g,wc (pre++((cur).set (j) (((d) % BW)))++post),100⟩:Bx)::Lr)) rfl rfl rfl R rfl (by have:=hI.1; omega) rfl fun bN aY=>hK _ _ ?_
     simp only [PA]
     refine wpList_nil ?_
     refine aX _ _ ?_
     refine wp_seq_k fun bP aB=>?_
     refine wp_region_lit ?_
     refine PV (J ((d:Nat):Int)) rfl rfl ?_
     simp only [PA]
     refine PV (J ((d / 9223372036854775808:Nat):Int)) (CT (run_bin (J ((d:Nat):Int)) (J 63) _ rfl rfl rfl (bin_shr_104_u64 _ _ _ _)) (vint w_shr63)) rfl ?_
     simp only [PA]
     refine PV (J ((d / 9223372036854775808:Nat):Int)) rfl rfl ?_
     simp only [PA]
     refine wpList_nil ?_
     refine aB _ _ ?_
     refine wp_region_lit ?_
     refine PV (J ((cy+q * yj:Nat):Int)) rfl rfl ?_
     simp only [PA]
     refine PV (J (((cy+q * yj) / BW:Nat):Int)) (CT (run_bin (J ((cy+q * yj:Nat):Int)) (J 32) _ rfl rfl rfl (bin_shr_104_u64 _ _ _ _)) (vint w_shr32)) rfl ?_
     simp only [PA]
     refine PV (J (((cy+q * yj) / BW:Nat):Int)) rfl rfl ?_
     simp only [PA]
     refine wpList_nil ?_
     refine aj _ _ ?_
     refine wp_region_lit ?_
     refine PV (I ((j:Nat):Int)) rfl rfl ?_
     simp only [PA]
     refine PV (I ((j+1:Nat):Int)) (CT (run_bin (I ((j:Nat):Int)) (I 1) _ rfl rfl rfl (bin_add_3 _ _ _ _)) (vint (i_add (m:=j) (n:=1) (by omega)))) rfl ?_
     simp only [PA]
     refine PV (I ((j+1:Nat):Int)) rfl rfl ?_
     simp only [PA]
     refine wpList_nil ?_
     exact ⟨k+1 - (j+1),by omega,j+1,(cy+q * yj) / BW,d / 9223372036854775808,((cur).set (j) (((d) % BW))),[J ((d:Nat):Int),I ((j:Nat):Int),I (k:Int),T true,I ((j:Nat):Int),I ((j+1:Nat):Int),I ((j:Nat):Int),I (k:Int),T true,J ((cy:Nat):Int),J ((q:Nat):Int),E (some bd) k cb,I ((j:Nat):Int),.pointer (some (bd.add j)),.int .u32 ((yj:Nat):Int),J ((yj:Nat):Int),J ((q * yj:Nat):Int),J ((cy+q * yj:Nat):Int),E (some ⟨g,pre.length,none⟩) N cap,I ((j:Nat):Int),.pointer (some ⟨g,(pre.length+j),none⟩),.int .u32 ((xj:Nat):Int),J ((xj:Nat):Int),J ((cy+q * yj:Nat):Int),.int .u32 ((lo:Nat):Int),J ((lo:Nat):Int),J (((xj+(18446744073709551616 - lo)) % 18446744073709551616:Nat):Int),J ((br:Nat):Int),J ((d:Nat):Int),E (some ⟨g,pre.length,none⟩) N cap,I ((j:Nat):Int),J ((d:Nat):Int),.int .u32 ((((d) % BW):Nat):Int),.pointer (some ⟨g,(pre.length+j),none⟩),J ((d:Nat):Int),J ((d / 9223372036854775808:Nat):Int),J ((cy+q * yj:Nat):Int),J (((cy+q * yj) / BW:Nat):Int)],rfl,aY,by omega,HT.2.1,(muladd_lt64 hq.2.1 hyB hcy).2,fun h=>absurd h (by omega),sub_step hI.1 (by omega) hI.2.1 hI.2.2.1 hI.2.2.2 HT.1 (show cy+q * yl.getD j 0=lo+BW * ((cy+q * yj) / BW) from by rw [← hlo,hyj]; exact (Nat.mod_add_div _ _).symm) (by rw [hxj]; exact HT.2.2),rfl⟩
    ·skip
     refine PV (T false) (CT (run_bin (I ((j:Nat):Int)) (I (k:Int)) _ rfl rfl rfl (bin_lss_3 _ _ _ _)) (congrArg Value.bool (decide_eq_false hlt))) rfl ?_
     simp only [PA]
     refine wpList_nil ?_
     refine am _ _ ?_
     refine cond_false rfl ?_
     refine wp_skip ?_
     refine al _ _ ?_
     refine wp_seq_k fun bQ aE=>?_
     refine wp_region_lit ?_
     refine PV (E (some ⟨g,pre.length,none⟩) N cap) rfl rfl ?_
     simp only [PA]
     refine PV (I ((j:Nat):Int)) rfl rfl ?_
     simp only [PA]
     refine PV (.pointer (some ⟨g,(pre.length+j),none⟩)) (run_idxW rfl rfl rfl (by omega)) rfl ?_
     simp only [PA]
     obtain ⟨xj,hxj⟩:∃ x:Nat,wl.getD j 0=x:=⟨_,rfl⟩
     have hxB:xj<BW:=hxj▸hD.at_ j
     refine PV (.int .u32 ((xj:Nat):Int)) (CT (run_loadWin rfl rfl (R.at_ _ (MI (i:=0) rfl)) (by have:=hI.1; omega)) (vnat ((hI.2.2.1 j (Nat.le_refl _)).trans hxj))) rfl ?_
     simp only [PA]
     refine PV (J ((xj:Nat):Int)) (run_cv _ rfl rfl rfl rfl (wrap_u64 (by rw [BW_eq] at hxB; omega))) rfl ?_
     simp only [PA]
     refine PV (J ((cy:Nat):Int)) rfl rfl ?_
     simp only [PA]
     obtain ⟨lo,hlo⟩:∃ x:Nat,((cy) % BW)=x:=⟨_,rfl⟩
     have hloB:lo<BW:=hlo▸Nat.mod_lt _ BW_pos
     refine PV (.int .u32 ((lo:Nat):Int)) (CT (run_cv _ rfl rfl rfl rfl (wrap_u32)) (vnat hlo)) rfl ?_
     simp only [PA]
     refine PV (J ((lo:Nat):Int)) (run_cv _ rfl rfl rfl rfl (wrap_u64 (by rw [BW_eq] at hloB; omega))) rfl ?_
     simp only [PA]
     refine PV (J (((xj+(18446744073709551616 - lo)) % 18446744073709551616:Nat):Int)) (CT (run_bin (J ((xj:Nat):Int)) (J ((lo:Nat):Int)) _ rfl rfl rfl (bin_sub_104 _ _ _ _)) (vint (w_subw (m:=xj) (n:=lo) (by rw [BW_eq] at hxB; omega) (by rw [BW_eq] at hloB; omega)))) rfl ?_
     simp only [PA]
     refine PV (J ((br:Nat):Int)) rfl rfl ?_
     simp only [PA]
     obtain ⟨d,S⟩:∃ x:Nat,((xj+(18446744073709551616 - lo)) % 18446744073709551616+(18446744073709551616 - br)) % 18446744073709551616=x:=⟨_,rfl⟩
     have HT:=take_word hxB hloB hbr
     simp only [S] at HT
     refine PV (J ((d:Nat):Int)) (CT (run_bin (J (((xj+(18446744073709551616 - lo)) % 18446744073709551616:Nat):Int)) (J ((br:Nat):Int)) _ rfl rfl rfl (bin_sub_104 _ _ _ _)) ((vint (w_subw (m:=(xj+(18446744073709551616 - lo)) % 18446744073709551616) (n:=br) (Nat.mod_lt _ (by decide)) (by omega))).trans (vnat S))) rfl ?_
     simp only [PA]
     refine PV (J ((d:Nat):Int)) rfl rfl ?_
     simp only [PA]
     refine wpList_nil ?_
     refine aE _ _ ?_
     refine wp_seq_k fun bR aI=>?_
     refine wp_region_lit ?_
     refine PV (E (some ⟨g,pre.length,none⟩) N cap) rfl rfl ?_
     simp only [PA]
     refine PV (I ((j:Nat):Int)) rfl rfl ?_
     simp only [PA]
     refine PV (J ((d:Nat):Int)) rfl rfl ?_
     simp only [PA]
     refine PV (.int .u32 ((((d) % BW):Nat):Int)) (run_cv _ rfl rfl rfl rfl (wrap_u32)) rfl ?_
     simp only [PA]
     refine PV (.pointer (some ⟨g,(pre.length+j),none⟩)) (run_idxW rfl rfl rfl (by omega)) rfl ?_
     simp only [PA]
     refine wpList_plain rfl fun K hK=>o_stWin 0 (((d) % BW)) (((⟨g,wc (pre++((cur).set (j) (((d) % BW)))++post),100⟩:Bx)::Lr)) rfl rfl rfl R rfl (by have:=hI.1; omega) rfl fun bS aT=>hK _ _ ?_
     simp only [PA]
     refine wpList_nil ?_
     refine aI _ _ ?_
     refine wp_seq_k fun bU aO=>?_
     refine wp_region_lit ?_
     refine PV (J ((d:Nat):Int)) rfl rfl ?_
     simp only [PA]
     refine PV (J ((d / 9223372036854775808:Nat):Int)) (CT (run_bin (J ((d:Nat):Int)) (J 63) _ rfl rfl rfl (bin_shr_104_u64 _ _ _ _)) (vint w_shr63)) rfl ?_
     simp only [PA]
     refine PV (J ((d / 9223372036854775808:Nat):Int)) rfl rfl ?_
     simp only [PA]
     refine wpList_nil ?_
     refine aO _ _ ?_
     refine wp_region_lit ?_
     refine PV (J ((cy:Nat):Int)) rfl rfl ?_
     simp only [PA]
     refine PV (J (((cy) / BW:Nat):Int)) (CT (run_bin (J ((cy:Nat):Int)) (J 32) _ rfl rfl rfl (bin_shr_104_u64 _ _ _ _)) (vint w_shr32)) rfl ?_
     simp only [PA]
     refine PV (J (((cy) / BW:Nat):Int)) rfl rfl ?_
     simp only [PA]
     refine wpList_nil ?_
     refine aj _ _ ?_
     refine wp_region_lit ?_
     refine PV (I ((j:Nat):Int)) rfl rfl ?_
     simp only [PA]
     refine PV (I ((j+1:Nat):Int)) (CT (run_bin (I ((j:Nat):Int)) (I 1) _ rfl rfl rfl (bin_add_3 _ _ _ _)) (vint (i_add (m:=j) (n:=1) (by omega)))) rfl ?_
     simp only [PA]
     refine PV (I ((j+1:Nat):Int)) rfl rfl ?_
     simp only [PA]
     refine wpList_nil ?_
     exact ⟨k+1 - (j+1),by omega,j+1,(cy) / BW,d / 9223372036854775808,((cur).set (j) (((d) % BW))),[J ((d:Nat):Int),I ((j:Nat):Int),I (k:Int),T true,I ((j:Nat):Int),I ((j+1:Nat):Int),I ((j:Nat):Int),I (k:Int),T false,(GD f 9),(GD f 10),(GD f 11),(GD f 12),(GD f 13),(GD f 14),(GD f 15),(GD f 16),(GD f 17),E (some ⟨g,pre.length,none⟩) N cap,I ((j:Nat):Int),.pointer (some ⟨g,(pre.length+j),none⟩),.int .u32 ((xj:Nat):Int),J ((xj:Nat):Int),J ((cy:Nat):Int),.int .u32 ((lo:Nat):Int),J ((lo:Nat):Int),J (((xj+(18446744073709551616 - lo)) % 18446744073709551616:Nat):Int),J ((br:Nat):Int),J ((d:Nat):Int),E (some ⟨g,pre.length,none⟩) N cap,I ((j:Nat):Int),J ((d:Nat):Int),.int .u32 ((((d) % BW):Nat):Int),.pointer (some ⟨g,(pre.length+j),none⟩),J ((d:Nat):Int),J ((d / 9223372036854775808:Nat):Int),J ((cy:Nat):Int),J (((cy) / BW:Nat):Int)],rfl,aT,by omega,HT.2.1,(Nat.lt_of_le_of_lt (Nat.div_le_self _ _) hcy),fun _=>Nat.div_eq_of_lt hcy,sub_step hI.1 (by omega) hI.2.1 hI.2.2.1 hI.2.2.2 HT.1 (show cy+q * yl.getD j 0=lo+BW * ((cy) / BW) from by rw [← hlo,(getD_ge (show yl.length≤j by omega))]; rw [Nat.mul_zero,Nat.add_zero]; exact (Nat.mod_add_div _ _).symm) (by rw [hxj]; exact HT.2.2),rfl⟩
   ·skip
    refine PV (T false) (CT (run_bin (I ((j:Nat):Int)) (I (k:Int)) _ rfl rfl rfl (bin_leq_3 _ _ _ _)) (congrArg Value.bool (decide_eq_false hle))) rfl ?_
    simp only [PA]
    refine wpList_nil ?_
    refine ai _ _ ?_
    refine cond_false rfl ?_
    refine wp_exit ?_
    exact ⟨cy,br,cur,[I ((j:Nat):Int),(GD f 0),I ((j:Nat):Int),I (k:Int),T false,(GD f 4),(GD f 5),(GD f 6),(GD f 7),(GD f 8),(GD f 9),(GD f 10),(GD f 11),(GD f 12),(GD f 13),(GD f 14),(GD f 15),(GD f 16),(GD f 17),(GD f 18),(GD f 19),(GD f 20),(GD f 21),(GD f 22),(GD f 23),(GD f 24),(GD f 25),(GD f 26),(GD f 27),(GD f 28),(GD f 29),(GD f 30),(GD f 31),(GD f 32),(GD f 33),(GD f 34),(GD f 35),(GD f 36),(GD f 37)],rfl,R,hbr,hcz (by omega),⟨hI.1,hI.2.1,word_sub hwl hyl (by omega) hI⟩,trivial⟩
  ·skip
   rintro _ bV ⟨cy,br,cur,l,rfl,an,hbr,hcz,hI,-⟩
   refine aS _ _ ?_
   refine wp_seq_k fun bW aJ=>?_
   refine wp_seq_k fun bX ao=>?_
   refine wp_region_lit ?_
   refine PV (J ((br:Nat):Int)) rfl rfl ?_
   simp only [PA]
   by_cases X:br=0
   ·skip
    refine PV (T true) (CT (run_bin (J ((br:Nat):Int)) (J 0) _ rfl rfl rfl (bin_eql_104 _ _ _ _)) (congrArg Value.bool (by subst X; rfl))) rfl ?_
    simp only [PA]
    refine wpList_nil ?_
    refine ao _ _ ?_
    refine cond_true rfl ?_
    refine wp_seq_k fun bY aZ=>?_
    refine wp_region_lit ?_
    refine PV (J ((q:Nat):Int)) rfl rfl ?_
    simp only [PA]
    refine PV (.int .u32 ((((q) % BW):Nat):Int)) (run_cv _ rfl rfl rfl rfl (wrap_u32)) rfl ?_
    simp only [PA]
    refine PV (.int .u32 ((((q) % BW):Nat):Int)) rfl rfl ?_
    simp only [PA]
    refine wpList_nil ?_
    refine aZ _ _ ?_
    refine wp_ret ?_
    repeat (with_reducible first | refine then_ret ?_ | refine inBlock_ret ?_)
    refine bodyPost_ret (results_tmp rfl _ _ _) rfl ?_
    exact word_end0 G hq NR hI.2.2 X hI.1 hI.2.1 an hwl hcz
   ·skip
    refine PV (T false) (CT (run_bin (J ((br:Nat):Int)) (J 0) _ rfl rfl rfl (bin_eql_104 _ _ _ _)) (congrArg Value.bool (beq_eq_false_iff_ne.2 (by omega)))) rfl ?_
    simp only [PA]
    refine wpList_nil ?_
    refine ao _ _ ?_
    refine cond_false rfl ?_
    refine wp_skip ?_
    refine aJ _ _ ?_
    refine wp_seq_k fun bB a3=>?_
    refine wp_region_lit ?_
    refine PV (J 0) rfl rfl ?_
    simp only [PA]
    refine wpList_nil ?_
    refine a3 _ _ ?_
    refine wp_seq_k fun bE a4=>?_
    refine wp_seq_k fun bI a5=>?_
    refine wp_region_lit ?_
    refine PV (I 0) rfl rfl ?_
    simp only [PA]
    refine wpList_nil ?_
    refine a5 _ _ ?_
    refine wp_block ?_
    refine wp_loop_g (fun mm aa_ w'=>∃ (o:Nat) (s:Nat) (M:List Nat) (y:List Value),aa_=⟨#[E (some ⟨g,pre.length,none⟩) N cap,E (some bd) k cb,J ((p:Nat):Int),J ((C:Nat):Int),O,O,O,O,.int .u32 0,I (k:Int),J ((hd:Nat):Int),J ((q:Nat):Int),J ((r:Nat):Int),J ((br:Nat):Int),J ((s:Nat):Int),(GD l 0),(GD l 1),I ((o:Nat):Int),E (some bd) k cb,I (k:Int),E (some ⟨g,pre.length,none⟩) N cap,I (k:Int),.pointer (some ⟨g,(pre.length+k),none⟩),.int .u32 ((A:Nat):Int),J ((A:Nat):Int),J ((A * BW:Nat):Int),E (some ⟨g,pre.length,none⟩) N cap,I (k:Int),I ((k1:Nat):Int),.pointer (some ⟨g,(pre.length+k1),none⟩),.int .u32 ((F:Nat):Int),J ((F:Nat):Int),J ((hd:Nat):Int),J ((hd:Nat):Int),J ((p:Nat):Int),J ((hd / p:Nat):Int),J ((v:Nat):Int),J ((hd:Nat):Int),J ((v:Nat):Int),J ((p:Nat):Int),J ((v * p:Nat):Int),J ((hd - v * p:Nat):Int),(GD c 0),(GD c 1),(GD c 2),(GD c 3),(GD c 4),(GD c 5),(GD c 6),(GD c 7),(GD c 8),(GD c 9),(GD c 10),(GD c 11),(GD c 12),(GD c 13),(GD c 14),(GD c 15),(GD c 16),(GD c 17),(GD c 18),(GD c 19),(GD c 20),(GD c 21),(GD l 2),(GD l 3),(GD l 4),(GD l 5),(GD l 6),(GD l 7),(GD l 8),(GD l 9),(GD l 10),(GD l 11),(GD l 12),(GD l 13),(GD l 14),(GD l 15),(GD l 16),(GD l 17),(GD l 18),(GD l 19),(GD l 20),(GD l 21),(GD l 22),(GD l 23),(GD l 24),(GD l 25),(GD l 26),(GD l 27),(GD l 28),(GD l 29),(GD l 30),(GD l 31),(GD l 32),(GD l 33),(GD l 34),(GD l 35),(GD l 36),(GD l 37),(GD l 38),J ((br:Nat):Int),T false,O,O,(GD y 0),(GD y 1),(GD y 2),(GD y 3),(GD y 4),(GD y 5),(GD y 6),(GD y 7),(GD y 8),(GD y 9),(GD y 10),(GD y 11),(GD y 12),(GD y 13),(GD y 14),(GD y 15),(GD y 16),(GD y 17),(GD y 18),(GD y 19),(GD y 20),(GD y 21),(GD y 22),(GD y 23),(GD y 24),(GD y 25),(GD y 26),(GD y 27),(GD y 28),O,O,O],[]⟩∧St Q w' ((⟨g,wc (pre++M++post),100⟩:Bx)::Lr)∧(o≤k+1)∧(s≤1)∧((M).length=cur.length∧Dig (M)∧(∀ i,o≤i→(M).getD i 0=cur.getD i 0)∧val ((M).take (o))+BW ^ (o) * (s)=val (cur.take (o))+val (yl.take (o)))∧k+1 - o=mm) (k+1 - 0) ⟨0,0,cur,[O,O,O,O,O,O,O,O,O,O,O,O,O,O,O,O,O,O,O,O,O,O,O,O,O,O,O,O,O],rfl,an,by omega,by omega,⟨rfl,hI.2.1,fun _ _=>rfl,by simp [val]⟩,rfl⟩ ?_
    rintro _ _ bT ⟨o,s,M,y,rfl,V,bO,a6,L,rfl⟩
    refine wp_seq_k fun bJ a7=>?_
    refine wp_seq_k fun bZ ap=>?_
    refine wp_region_lit ?_
    refine PV (I ((o:Nat):Int)) rfl rfl ?_
    simp only [PA]
    refine PV (I (k:Int)) rfl rfl ?_
    simp only [PA]
    by_cases aq:(((o:Nat):Int):Int)≤(k:Int)
    ·skip
     refine PV (T true) (CT (run_bin (I ((o:Nat):Int)) (I (k:Int)) _ rfl rfl rfl (bin_leq_3 _ _ _ _)) (congrArg Value.bool (decide_eq_true aq))) rfl ?_
     simp only [PA]
     refine wpList_nil ?_
     refine ap _ _ ?_
     refine cond_true rfl ?_
     refine wp_skip ?_
     refine a7 _ _ ?_
     refine wp_seq_k fun b0 ar=>?_
     refine wp_block ?_
     refine wp_seq_k fun b1 a8=>?_
     refine wp_region_lit ?_
     refine PV (J ((s:Nat):Int)) rfl rfl ?_
     simp only [PA]
     refine PV (E (some ⟨g,pre.length,none⟩) N cap) rfl rfl ?_
     simp only [PA]
     refine PV (I ((o:Nat):Int)) rfl rfl ?_
     simp only [PA]
     refine PV (.pointer (some ⟨g,(pre.length+o),none⟩)) (run_idxW rfl rfl rfl (by omega)) rfl ?_
     simp only [PA]
     obtain ⟨c0j,Y⟩:∃ x:Nat,cur.getD o 0=x:=⟨_,rfl⟩
     have hc0B:c0j<BW:=Y▸hI.2.1.at_ o
     refine PV (.int .u32 ((c0j:Nat):Int)) (CT (run_loadWin rfl rfl (V.at_ _ (MI (i:=0) rfl)) (by have:=L.1; have:=hI.1; omega)) (vnat ((L.2.2.1 o (Nat.le_refl _)).trans Y))) rfl ?_
     simp only [PA]
     refine PV (J ((c0j:Nat):Int)) (run_cv _ rfl rfl rfl rfl (wrap_u64 (by rw [BW_eq] at hc0B; omega))) rfl ?_
     simp only [PA]
     refine PV (J ((s+c0j:Nat):Int)) (CT (run_bin (J ((s:Nat):Int)) (J ((c0j:Nat):Int)) _ rfl rfl rfl (bin_add_104 _ _ _ _)) (vint (w_add (m:=s) (n:=c0j) (by rw [BW_eq] at hc0B; omega)))) rfl ?_
     simp only [PA]
     refine PV (J ((s+c0j:Nat):Int)) rfl rfl ?_
     simp only [PA]
     refine wpList_nil ?_
     refine a8 _ _ ?_
     refine wp_seq_k fun b2 au=>?_
     refine wp_seq_k fun b3 av=>?_
     refine wp_region_lit ?_
     refine PV (I ((o:Nat):Int)) rfl rfl ?_
     simp only [PA]
     refine PV (I (k:Int)) rfl rfl ?_
     simp only [PA]
     by_cases aw:(((o:Nat):Int):Int)<(k:Int)
     ·skip
      refine PV (T true) (CT (run_bin (I ((o:Nat):Int)) (I (k:Int)) _ rfl rfl rfl (bin_lss_3 _ _ _ _)) (congrArg Value.bool (decide_eq_true aw))) rfl ?_
      simp only [PA]
      refine wpList_nil ?_
      refine av _ _ ?_
      refine cond_true rfl ?_
      refine wp_region_lit ?_
      refine PV (J ((s+c0j:Nat):Int)) rfl rfl ?_
      simp only [PA]
      refine PV (E (some bd) k cb) rfl rfl ?_
      simp only [PA]
      refine PV (I ((o:Nat):Int)) rfl rfl ?_
      simp only [PA]
      refine PV (.pointer (some (bd.add o))) (run_idx (t:=36) rfl rfl rfl (by omega)) rfl ?_
      simp only [PA]
      obtain ⟨y2j,ae⟩:∃ x:Nat,yl.getD o 0=x:=⟨_,rfl⟩
      have hy2B:y2j<BW:=ae▸hYD.at_ o
      refine PV (.int .u32 ((y2j:Nat):Int)) (CT (run_loadW _ rfl rfl ((hY _ _ V).cellA (by omega)) (ag100 _)) (vnat ae)) rfl ?_
      simp only [PA]
      refine PV (J ((y2j:Nat):Int)) (run_cv _ rfl rfl rfl rfl (wrap_u64 (by rw [BW_eq] at hy2B; omega))) rfl ?_
      simp only [PA]
      refine PV (J ((s+c0j+y2j:Nat):Int)) (CT (run_bin (J ((s+c0j:Nat):Int)) (J ((y2j:Nat):Int)) _ rfl rfl rfl (bin_add_104 _ _ _ _)) (vint (w_add (m:=s+c0j) (n:=y2j) (by rw [BW_eq] at hc0B hy2B; omega)))) rfl ?_
      simp only [PA]
      refine PV (J ((s+c0j+y2j:Nat):Int)) rfl rfl ?_
      simp only [PA]
      refine wpList_nil ?_
      refine au _ _ ?_
      refine wp_seq_k fun b4 a9=>?_
      refine wp_region_lit ?_
      refine PV (E (some ⟨g,pre.length,none⟩) N cap) rfl rfl ?_
      simp only [PA]
      refine PV (I ((o:Nat):Int)) rfl rfl ?_
      simp only [PA]
      refine PV (J ((s+c0j+y2j:Nat):Int)) rfl rfl ?_
      simp only [PA]
      refine PV (.int .u32 ((((s+c0j+y2j) % BW):Nat):Int)) (run_cv _ rfl rfl rfl rfl (wrap_u32)) rfl ?_
      simp only [PA]
      refine PV (.pointer (some ⟨g,(pre.length+o),none⟩)) (run_idxW rfl rfl rfl (by omega)) rfl ?_
      simp only [PA]
      refine wpList_plain rfl fun K hK=>o_stWin 0 (((s+c0j+y2j) % BW)) (((⟨g,wc (pre++((M).set (o) (((s+c0j+y2j) % BW)))++post),100⟩:Bx)::Lr)) rfl rfl rfl V rfl (by have:=L.1; have:=hI.1; omega) rfl fun b5 ba=>hK _ _ ?_
      simp only [PA]
      refine wpList_nil ?_
      refine a9 _ _ ?_
      refine wp_region_lit ?_
      refine PV (J ((s+c0j+y2j:Nat):Int)) rfl rfl ?_
      simp only [PA]
      refine PV (J (((s+c0j+y2j) / BW:Nat):Int)) (CT (run_bin (J ((s+c0j+y2j:Nat):Int)) (J 32) _ rfl rfl rfl (bin_shr_104_u64 _ _ _ _)) (vint w_shr32)) rfl ?_
      simp only [PA]
      refine PV (J (((s+c0j+y2j) / BW:Nat):Int)) rfl rfl ?_
      simp only [PA]
      refine wpList_nil ?_
      refine ar _ _ ?_
      refine wp_region_lit ?_
      refine PV (I ((o:Nat):Int)) rfl rfl ?_
      simp only [PA]
      refine PV (I ((o+1:Nat):Int)) (CT (run_bin (I ((o:Nat):Int)) (I 1) _ rfl rfl rfl (bin_add_3 _ _ _ _)) (vint (i_add (m:=o) (n:=1) (by omega)))) rfl ?_
      simp only [PA]
      refine PV (I ((o+1:Nat):Int)) rfl rfl ?_
      simp only [PA]
      refine wpList_nil ?_
      exact ⟨k+1 - (o+1),by omega,o+1,(s+c0j+y2j) / BW,((M).set (o) (((s+c0j+y2j) % BW))),[I ((o:Nat):Int),I (k:Int),T true,I ((o:Nat):Int),I ((o+1:Nat):Int),J ((s:Nat):Int),E (some ⟨g,pre.length,none⟩) N cap,I ((o:Nat):Int),.pointer (some ⟨g,(pre.length+o),none⟩),.int .u32 ((c0j:Nat):Int),J ((c0j:Nat):Int),J ((s+c0j:Nat):Int),I ((o:Nat):Int),I (k:Int),T true,J ((s+c0j:Nat):Int),E (some bd) k cb,I ((o:Nat):Int),.pointer (some (bd.add o)),.int .u32 ((y2j:Nat):Int),J ((y2j:Nat):Int),J ((s+c0j+y2j:Nat):Int),E (some ⟨g,pre.length,none⟩) N cap,I ((o:Nat):Int),J ((s+c0j+y2j:Nat):Int),.int .u32 ((((s+c0j+y2j) % BW):Nat):Int),.pointer (some ⟨g,(pre.length+o),none⟩),J ((s+c0j+y2j:Nat):Int),J (((s+c0j+y2j) / BW:Nat):Int)],rfl,ba,by omega,by rw [BW_eq]; rw [BW_eq] at hc0B hy2B; omega,(by have h:=add_step L.1 (by have:=hI.1; omega) L.2.1 L.2.2.1 L.2.2.2; rw [Y,ae] at h; exact h),rfl⟩
     ·skip
      refine PV (T false) (CT (run_bin (I ((o:Nat):Int)) (I (k:Int)) _ rfl rfl rfl (bin_lss_3 _ _ _ _)) (congrArg Value.bool (decide_eq_false aw))) rfl ?_
      simp only [PA]
      refine wpList_nil ?_
      refine av _ _ ?_
      refine cond_false rfl ?_
      refine wp_skip ?_
      refine au _ _ ?_
      refine wp_seq_k fun b6 bb=>?_
      refine wp_region_lit ?_
      refine PV (E (some ⟨g,pre.length,none⟩) N cap) rfl rfl ?_
      simp only [PA]
      refine PV (I ((o:Nat):Int)) rfl rfl ?_
      simp only [PA]
      refine PV (J ((s+c0j:Nat):Int)) rfl rfl ?_
      simp only [PA]
      refine PV (.int .u32 ((((s+c0j) % BW):Nat):Int)) (run_cv _ rfl rfl rfl rfl (wrap_u32)) rfl ?_
      simp only [PA]
      refine PV (.pointer (some ⟨g,(pre.length+o),none⟩)) (run_idxW rfl rfl rfl (by omega)) rfl ?_
      simp only [PA]
      refine wpList_plain rfl fun K hK=>o_stWin 0 (((s+c0j) % BW)) (((⟨g,wc (pre++((M).set (o) (((s+c0j) % BW)))++post),100⟩:Bx)::Lr)) rfl rfl rfl V rfl (by have:=L.1; have:=hI.1; omega) rfl fun b7 bc=>hK _ _ ?_
      simp only [PA]
      refine wpList_nil ?_
      refine bb _ _ ?_
      refine wp_region_lit ?_
      refine PV (J ((s+c0j:Nat):Int)) rfl rfl ?_
      simp only [PA]
      refine PV (J (((s+c0j) / BW:Nat):Int)) (CT (run_bin (J ((s+c0j:Nat):Int)) (J 32) _ rfl rfl rfl (bin_shr_104_u64 _ _ _ _)) (vint w_shr32)) rfl ?_
      simp only [PA]
      refine PV (J (((s+c0j) / BW:Nat):Int)) rfl rfl ?_
      simp only [PA]
      refine wpList_nil ?_
      refine ar _ _ ?_
      refine wp_region_lit ?_
      refine PV (I ((o:Nat):Int)) rfl rfl ?_
      simp only [PA]
      refine PV (I ((o+1:Nat):Int)) (CT (run_bin (I ((o:Nat):Int)) (I 1) _ rfl rfl rfl (bin_add_3 _ _ _ _)) (vint (i_add (m:=o) (n:=1) (by omega)))) rfl ?_
      simp only [PA]
      refine PV (I ((o+1:Nat):Int)) rfl rfl ?_
      simp only [PA]
      refine wpList_nil ?_
      exact ⟨k+1 - (o+1),by omega,o+1,(s+c0j) / BW,((M).set (o) (((s+c0j) % BW))),[I ((o:Nat):Int),I (k:Int),T true,I ((o:Nat):Int),I ((o+1:Nat):Int),J ((s:Nat):Int),E (some ⟨g,pre.length,none⟩) N cap,I ((o:Nat):Int),.pointer (some ⟨g,(pre.length+o),none⟩),.int .u32 ((c0j:Nat):Int),J ((c0j:Nat):Int),J ((s+c0j:Nat):Int),I ((o:Nat):Int),I (k:Int),T false,(GD y 15),(GD y 16),(GD y 17),(GD y 18),(GD y 19),(GD y 20),(GD y 21),E (some ⟨g,pre.length,none⟩) N cap,I ((o:Nat):Int),J ((s+c0j:Nat):Int),.int .u32 ((((s+c0j) % BW):Nat):Int),.pointer (some ⟨g,(pre.length+o),none⟩),J ((s+c0j:Nat):Int),J (((s+c0j) / BW:Nat):Int)],rfl,bc,by omega,by rw [BW_eq]; rw [BW_eq] at hc0B; omega,(by have h:=add_step L.1 (by have:=hI.1; omega) L.2.1 L.2.2.1 L.2.2.2; rw [Y,(getD_ge (show yl.length≤o by omega))] at h; exact h),rfl⟩
    ·skip
     refine PV (T false) (CT (run_bin (I ((o:Nat):Int)) (I (k:Int)) _ rfl rfl rfl (bin_leq_3 _ _ _ _)) (congrArg Value.bool (decide_eq_false aq))) rfl ?_
     simp only [PA]
     refine wpList_nil ?_
     refine ap _ _ ?_
     refine cond_false rfl ?_
     refine wp_exit ?_
     refine a4 _ _ ?_
     refine wp_seq_k fun b8 be=>?_
     refine wp_region_lit ?_
     refine PV (J ((q:Nat):Int)) rfl rfl ?_
     simp only [PA]
     refine PV (J ((q - 1:Nat):Int)) (CT (run_bin (J ((q:Nat):Int)) (J 1) _ rfl rfl rfl (bin_sub_104 _ _ _ _)) (vint (w_sub (m:=q) (n:=1) (q_pos hI.2.2 X hbr hcz hI.1 hwl hI.2.1) (by have:=hq.2.1; rw [BW_eq] at this; omega)))) rfl ?_
     simp only [PA]
     refine PV (.int .u32 ((((q - 1) % BW):Nat):Int)) (run_cv _ rfl rfl rfl rfl (wrap_u32)) rfl ?_
     simp only [PA]
     refine PV (.int .u32 ((((q - 1) % BW):Nat):Int)) rfl rfl ?_
     simp only [PA]
     refine wpList_nil ?_
     refine be _ _ ?_
     refine wp_ret ?_
     repeat (with_reducible first | refine then_ret ?_ | refine inBlock_ret ?_)
     refine bodyPost_ret (results_tmp rfl _ _ _) rfl ?_
     have bf:o=k+1:=by omega
     subst bf
     exact word_end1 G hq NR hI.2.2 X hbr hI.1 L hwl hyl a6 hcz V hI.2.1 hYD
end Go.Proofs.Ythhgjloephkpaaa
