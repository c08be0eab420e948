/- Words and walks for the row RowRatLeast, put together: RPA, RPB, RPC, RLZ. -/
import Derived.Test.YthhgjloephkpaaaLeRWD
import Derived.Test.YthhgjloephkpaaaLe6
import Derived.Test.YthhgjloephkpaaaLe7
import Derived.Test.YthhgjloephkpaaaLe4
import Derived.Laws.MathBits
namespace Go.Proofs.Ythhgjloephkpaaa
set_option linter.unusedVariables false
set_option linter.unusedSimpArgs false
open Go Go.RowKit Go.Proofs.YthhgjloephkpaaaW.PrintWords Go.Proofs.YthhgjloephkpaaaW.PrintLast
theorem trim_c {A : Option Addr} {n c : Nat} {l : List Nat} {w : World} (hd : Dig l) (h : Wds w A n c l) : Calls Try.prog 107 #[.slice A n c] w (RetS w (val l)) :=
  (trim_any A n c l hd w h).mono fun e w' ⟨⟨m, he, h2⟩, hw⟩ => by
    subst hw; exact ⟨⟨_, he, A, m, c, rfl, h2⟩, Below.refl _ _⟩
section
variable {Q : Exit → Act → World → Prop} {o : Oper} {a : Act} {w w0 : World} {K : Act → World → Prop} {L : List Bx}
theorem St.new {w' : World} {g : Nat} {cs : Array Value} {t : TypeId} (hs : St w0 w L) (hb : Below w.heap.size w w') (hg : w.heap.size ≤ g) (hh : w'.heap[g]? = some (.cells cs t (0, 0))) : St w0 w' (⟨g, cs, t⟩ :: L) := by
  have h2 := hs.below hb
  refine ⟨h2.bl, ?_, ?_, ?_⟩
  · intro e he
    rcases List.mem_cons.1 he with e1 | e1
    · subst e1; have := hs.bl.size; show w0.heap.size ≤ g; omega
    · exact h2.ge e e1
  · intro e he
    rcases List.mem_cons.1 he with e1 | e1
    · subst e1; exact hh
    · exact h2.at_ e e1
  · rw [List.map_cons, List.nodup_cons]
    refine ⟨fun hm => ?_, h2.nd⟩
    obtain ⟨e, he, hg2⟩ := List.mem_map.1 hm
    have := hs.lt e he
    have h3 : e.g = g := hg2
    omega
set_option maxRecDepth 100000 in
theorem run_lit (ρ : Operand → Value) (o : Oper) (w : World) (x : Operand) (n : Int) (ho : o.op = .buildSlice 36 1 #[(0, x)]) (hc : ρ x = .int .u32 n) : (execOp ρ o).run Try.prog w = .ok (.value (.slice (some ⟨w.heap.size, 0, none⟩) 1 1)) (w.alloc (.cells #[.int .u32 n] 100)) := by
  unfold execOp
  simp only [ho, List.map_toArray, List.map_cons, List.map_nil, hc]
  first | kernel_rfl | simp [go_sem]
theorem o_lit {x : Operand} (n : Nat) (ho : o.op = .buildSlice 36 1 #[(0, x)]) (hx : a.eval x = .int .u32 (n : Int)) (hs : St w0 w L)
    (h : ∀ g w', St w0 w' (⟨g, wc [n], 100⟩ :: L) → U w w' → K (a.put o.dst (.slice (some ⟨g, 0, none⟩) 1 1)) w') : o.wp Try.prog a w K Q := by
  have hr := run_lit a.eval o w x n ho hx
  unfold Oper.wp
  rw [hr]
  exact h w.heap.size _ (hs.box #[.int .u32 (n : Int)] 100) (U.box w _)
end
theorem wds_len {w : World} {g n : Nat} {ls : List Nat} {t : TypeId} (h : w.heap[g]? = some (.cells (wc ls) t (0, 0))) (hl : ls.length = n ∧ n ≤ 10000000000) : Wds w (some ⟨g, 0, none⟩) n n ls := by
  obtain ⟨rfl, hm⟩ := hl
  exact wds_wc h (by omega)
theorem drop_repl (n : Nat) : val ((List.replicate n 0).drop n) = 0 := by rw [List.drop_of_length_le (by simp)]; rfl
/-- What the division by one word leaves. -/
theorem div1_end {x b rest : Nat} {ls : List Nat} (hr : rest < b) (h : val ((dg x).drop 0) = val (ls.drop 0) * b + rest) : val ls = x / b ∧ rest = x % b := by
  rw [List.drop_zero, List.drop_zero, val_dg] at h
  rw [Nat.mul_comm] at h
  constructor
  · rw [h, Nat.mul_add_div (by omega), Nat.div_eq_of_lt hr, Nat.add_zero]
  · rw [h, Nat.mul_add_mod, Nat.mod_eq_of_lt hr]
theorem one_word {y : Nat} (hl : (dg y).length = 1) : (dg y).getD 0 0 = y := by
  have hv := val_dg y
  cases hd : dg y with
  | nil => rw [hd] at hl; simp at hl
  | cons a l =>
    cases l with
    | nil => rw [hd] at hv; simpa [val] using hv
    | cons b l => rw [hd] at hl; simp at hl
theorem cmpN_lss {x y : Nat} (h : x < y) : decide (cmpN x y < 0) = true := by rw [cmpN_lt h]; rfl
theorem cmpN_nlss {x y : Nat} (h : ¬ x < y) : decide (cmpN x y < 0) = false := by
  unfold cmpN; rw [if_neg h]; split <;> rfl
end Go.Proofs.Ythhgjloephkpaaa
namespace Go.Proofs.Ythhgjloephkpaaa
set_option linter.unusedVariables false
set_option linter.unusedSimpArgs false
open Go Go.RowKit Go.Proofs.YthhgjloephkpaaaW.PrintWords Go.Proofs.YthhgjloephkpaaaW.PrintLast
set_option maxRecDepth 100000 in
theorem parts_A {A B:Option Addr} {n c m d x y:Nat} {w:World} (hx:Wds w A n c (dg x)) (hy:Wds w B m d (dg y)) (hxy:x<y):Calls Try.prog 105 #[E A n c,E B m d] w (RetSS w (x / y) (x % y)):=by
 go_enter Try.func105,Try.ntmps105
 have a:=St.start w
 refine wp_seq_k fun k b=>?_
 refine wp_region_lit ?_
 refine PV (E none 0 0) rfl rfl ?_
 simp only [PA]
 refine PV (E none 0 0) rfl rfl ?_
 simp only [PA]
 refine wpList_nil ?_
 refine b _ _ ?_
 refine wp_seq_k fun l o=>?_
 refine wp_seq_k fun p e=>?_
 refine wp_region_lit ?_
 refine PV (E A n c) rfl rfl ?_
 simp only [PA]
 refine PV (E B m d) rfl rfl ?_
 simp only [PA]
 refine wpList_plain rfl fun K hK=>o_call 110 _ #[E A n c,E B m d] Try.func110 (by kernel_rfl) rfl rfl rfl a (order_c hx hy) fun q r f g i=>?_
 subst f
 refine hK _ _ ?_
 simp only [PA]
 refine PV (T true) (CT (run_bin (I (cmpN (x) (y))) (I 0) _ rfl rfl rfl (bin_lss_3 _ _ _ _)) (congrArg Value.bool (cmpN_lss hxy))) rfl ?_
 simp only [PA]
 refine wpList_nil ?_
 refine e _ _ ?_
 refine cond_true rfl ?_
 refine wp_seq_k fun s j=>?_
 refine wp_region_lit ?_
 refine PV (E A n c) rfl rfl ?_
 simp only [PA]
 refine PV (E none 0 0) rfl rfl ?_
 simp only [PA]
 refine PV (E A n c) rfl rfl ?_
 simp only [PA]
 refine wpList_nil ?_
 refine j _ _ ?_
 refine wp_ret ?_
 repeat (with_reducible first | refine then_ret ?_ | refine inBlock_ret ?_)
 refine bodyPost_ret (results_tmp2 rfl _ _ _) rfl ?_
 exact ⟨⟨_,rfl,_,_,rfl,⟨none,0,0,rfl,by rw [Nat.div_eq_of_lt hxy,dg_zero]; exact ⟨⟨rfl,by omega,fun h=>absurd h (by omega)⟩,Nat.le_refl _⟩⟩,⟨_,_,_,rfl,by rw [Nat.mod_eq_of_lt hxy]; exact (hx.u i)⟩⟩,g.bl⟩
set_option maxRecDepth 100000 in
set_option maxHeartbeats 4000000 in
theorem parts_B {ad bd:Addr} {n c d x y b:Nat} {w:World} (hx:Wds w (some ad) n c (dg x)) (hy:Wds w (some bd) 1 d (dg y)) (hxy:¬ x<y) (hb_:(dg y).getD 0 0=b) (hby:b=y) (j:0<b) (hbB:b<BW) (hn:1≤n) (hnm:n≤1000000000) (hxl:(dg x).length=n):Calls Try.prog 105 #[E (some ad) n c,E (some bd) 1 d] w (RetSS w (x / y) (x % y)):=by
 go_enter Try.func105,Try.ntmps105
 have p:=St.start w
 refine wp_seq_k fun K1 q=>?_
 refine wp_region_lit ?_
 refine PV (E none 0 0) rfl rfl ?_
 simp only [PA]
 refine PV (E none 0 0) rfl rfl ?_
 simp only [PA]
 refine wpList_nil ?_
 refine q _ _ ?_
 refine wp_seq_k fun K3 r=>?_
 refine wp_seq_k fun K5 v=>?_
 refine wp_region_lit ?_
 refine PV (E (some ad) n c) rfl rfl ?_
 simp only [PA]
 refine PV (E (some bd) 1 d) rfl rfl ?_
 simp only [PA]
 refine wpList_plain rfl fun K hK=>o_call 110 _ #[E (some ad) n c,E (some bd) 1 d] Try.func110 (by kernel_rfl) rfl rfl rfl p (order_c hx hy) fun v7 w9 A C ay=>?_
 subst A
 refine hK _ _ ?_
 simp only [PA]
 refine PV (T false) (CT (run_bin (I (cmpN (x) (y))) (I 0) _ rfl rfl rfl (bin_lss_3 _ _ _ _)) (congrArg Value.bool (cmpN_nlss hxy))) rfl ?_
 simp only [PA]
 refine wpList_nil ?_
 refine v _ _ ?_
 refine cond_false rfl ?_
 refine wp_skip ?_
 refine r _ _ ?_
 refine wp_seq_k fun az aA=>?_
 refine wp_seq_k fun aC D=>?_
 refine wp_region_lit ?_
 refine PV (E (some bd) 1 d) rfl rfl ?_
 simp only [PA]
 refine PV (I 1) (run_len36 rfl rfl) rfl ?_
 simp only [PA]
 refine PV (T true) (CT (run_bin (I 1) (I 1) _ rfl rfl rfl (bin_eql_3 _ _ _ _)) (rfl)) rfl ?_
 simp only [PA]
 refine wpList_nil ?_
 refine D _ _ ?_
 refine cond_true rfl ?_
 refine wp_seq_k fun aD F=>?_
 refine wp_region_lit ?_
 refine PV (E (some ad) n c) rfl rfl ?_
 simp only [PA]
 refine PV (I ((n:Nat):Int)) (CT (run_len36 rfl rfl) (rfl)) rfl ?_
 simp only [PA]
 refine wpList_plain rfl fun K hK=>o_make36 (n) rfl rfl rfl (by omega) C fun g aF G aG=>hK _ _ ?_
 simp only [PA]
 refine PV (E (some ⟨g,0,none⟩) n n) rfl rfl ?_
 simp only [PA]
 refine wpList_nil ?_
 refine F _ _ ?_
 refine wp_seq_k fun aH H=>?_
 refine wp_region_lit ?_
 refine PV (J 0) rfl rfl ?_
 simp only [PA]
 refine wpList_nil ?_
 refine H _ _ ?_
 refine wp_seq_k fun aK L=>?_
 refine wp_seq_k fun aL M=>?_
 refine wp_region_lit ?_
 refine PV (E (some ad) n c) rfl rfl ?_
 simp only [PA]
 refine PV (I ((n:Nat):Int)) (CT (run_len36 rfl rfl) (rfl)) rfl ?_
 simp only [PA]
 refine PV (I (((n:Nat):Int) - 1)) (CT (run_bin (I ((n:Nat):Int)) (I 1) _ rfl rfl rfl (bin_sub_3 _ _ _ _)) (vint (by rw [IntKind.wrap_i64]; omega))) rfl ?_
 simp only [PA]
 refine PV (I (((n:Nat):Int) - 1)) rfl rfl ?_
 simp only [PA]
 refine wpList_nil ?_
 refine M _ _ ?_
 refine wp_block ?_
 refine wp_loop_g (fun mm aa_ w'=>∃ (t:Nat) (rest:Nat) (ls:List Nat) (e:List Value),aa_=⟨#[E (some ad) n c,E (some bd) 1 d,O,O,E none 0 0,E none 0 0,E (some ⟨g,0,none⟩) n n,J ((rest:Nat):Int),I (((t:Nat):Int) - 1),(GD e 0),O,O,O,O,O,O,O,O,O,E (some ad) n c,E (some bd) 1 d,I (cmpN (x) (y)),T false,O,E (some bd) 1 d,I 1,T true,E (some ad) n c,I ((n:Nat):Int),E (some ⟨g,0,none⟩) n n,E (some ad) n c,I ((n:Nat):Int),I (((n:Nat):Int) - 1),(GD e 1),(GD e 2),(GD e 3),(GD e 4),(GD e 5),(GD e 6),(GD e 7),(GD e 8),(GD e 9),(GD e 10),(GD e 11),(GD e 12),(GD e 13),(GD e 14),(GD e 15),(GD e 16),(GD e 17),(GD e 18),(GD e 19),(GD e 20),(GD e 21),(GD e 22),(GD e 23),(GD e 24),(GD e 25),(GD e 26),(GD e 27),(GD e 28),O,O,O,O,O,O,O,O,O,O,O,O,O,O,O,O,O,O,O,O,O,O,O,O,O,O,O,O,O,O,O,O,O,O,O,O,O,O,O,O,O,O,O,O,O,O,O,O,O,O,O,O,O,O,O,O,O,O,O,O,O,O,O,O,O,O,O,O,O,O,O,O,O,O,O,O,O,O,O,O,O,O,O,O,O,O,O,O,O,O,O,O,O,O,O,O,O,O,O,O,O,O,O],[]⟩∧St w w' [⟨g,wc (ls),100⟩]∧(t≤n)∧(ls.length=n∧Dig ls∧val ((dg x).drop t)=val (ls.drop t) * b+rest∧rest<b)∧t=mm) (n) ⟨n,0,List.replicate n 0,[O,O,O,O,O,O,O,O,O,O,O,O,O,O,O,O,O,O,O,O,O,O,O,O,O,O,O,O,O],rfl,G,Nat.le_refl _,⟨by simp,repl_dig n,by rw [drop_repl,List.drop_of_length_le (by rw [hxl]; exact Nat.le_refl _)]; simp [val],j⟩,rfl⟩ ?_
 rintro _ _ aM ⟨t,rest,ls,e,rfl,h,htn,hI,rfl⟩
 have hrB:rest<BW:=by omega
 refine wp_seq_k fun aN N=>?_
 refine wp_seq_k fun aP k=>?_
 refine wp_region_lit ?_
 refine PV (I (((t:Nat):Int) - 1)) rfl rfl ?_
 simp only [PA]
 by_cases hge:(0:Int)≤(((t:Nat):Int) - 1)
 ·skip
  refine PV (T true) (CT (run_bin (I (((t:Nat):Int) - 1)) (I 0) _ rfl rfl rfl (bin_geq_3 _ _ _ _)) (congrArg Value.bool (decide_eq_true hge))) rfl ?_
  simp only [PA]
  refine wpList_nil ?_
  refine k _ _ ?_
  refine cond_true rfl ?_
  refine wp_skip ?_
  refine N _ _ ?_
  refine wp_seq_k fun aQ P=>?_
  refine wp_block ?_
  refine wp_seq_k fun aR Q=>?_
  refine wp_region_lit ?_
  refine PV (J ((rest:Nat):Int)) rfl rfl ?_
  simp only [PA]
  obtain ⟨rb,hrb⟩:∃ x:Nat,rest * BW=x:=⟨_,rfl⟩
  refine PV (J ((rb:Nat):Int)) (CT (run_bin (J ((rest:Nat):Int)) (J 32) _ rfl rfl rfl (bin_shl_104_u64 _ _ _ _)) ((vint (w_shl32 (a:=rest) hrB)).trans (vnat hrb))) rfl ?_
  simp only [PA]
  refine PV (E (some ad) n c) rfl rfl ?_
  simp only [PA]
  obtain ⟨f,R⟩:∃ x,t=x+1:=⟨t - 1,by omega⟩
  have hDV:=div1_step (i:=f) (by rw [hxl]; omega) (by rw [hI.1,hxl]) j hbB hI.2.2.2 hI.2.1 (dg_dig x) (by rw [← R]; exact hI.2.2.1)
  refine PV (I ((f:Nat):Int)) (CT rfl (vint (by omega))) rfl ?_
  simp only [PA]
  refine PV (.pointer (some (ad.add f))) (run_idx (t:=36) rfl rfl rfl (by omega)) rfl ?_
  simp only [PA]
  obtain ⟨xi,hxi⟩:∃ z:Nat,(dg x).getD f 0=z:=⟨_,rfl⟩
  have hxiB:xi<BW:=hxi▸(dg_dig x).at_ f
  rw [hxi] at hDV
  refine PV (.int .u32 ((xi:Nat):Int)) (CT (run_loadW _ rfl rfl ((hx.below h.bl).cellA (by omega)) (ag100 _)) (vnat hxi)) rfl ?_
  simp only [PA]
  refine PV (J ((xi:Nat):Int)) (run_cv _ rfl rfl rfl rfl (wrap_u64 (by rw [BW_eq] at hxiB; omega))) rfl ?_
  simp only [PA]
  obtain ⟨s,hs_⟩:∃ z:Nat,rb+xi=z:=⟨_,rfl⟩
  rw [hrb,hs_] at hDV
  refine PV (J ((s:Nat):Int)) (CT (run_bin (J ((rb:Nat):Int)) (J ((xi:Nat):Int)) _ rfl rfl rfl (bin_or_104 _ _ _ _)) ((vint (hrb▸head_or (a:=rest) (b:=xi) hrB hxiB)).trans (vnat hs_))) rfl ?_
  simp only [PA]
  refine PV (J ((s:Nat):Int)) rfl rfl ?_
  simp only [PA]
  refine wpList_nil ?_
  refine Q _ _ ?_
  refine wp_seq_k fun aS S=>?_
  refine wp_region_lit ?_
  refine PV (E (some ⟨g,0,none⟩) n n) rfl rfl ?_
  simp only [PA]
  refine PV (I ((f:Nat):Int)) (CT rfl (vint (by omega))) rfl ?_
  simp only [PA]
  refine PV (J ((s:Nat):Int)) rfl rfl ?_
  simp only [PA]
  refine PV (E (some bd) 1 d) rfl rfl ?_
  simp only [PA]
  refine PV (.pointer (some (bd.add 0))) (by kernel_rfl) rfl ?_
  simp only [PA]
  refine PV (.int .u32 ((b:Nat):Int)) (CT (run_loadW _ rfl rfl ((hy.below h.bl).cellA (by omega)) (ag100 _)) (vnat hb_)) rfl ?_
  simp only [PA]
  refine PV (J ((b:Nat):Int)) (run_cv _ rfl rfl rfl rfl (wrap_u64 (by rw [BW_eq] at hbB; omega))) rfl ?_
  simp only [PA]
  obtain ⟨qd,hqd⟩:∃ z:Nat,s / b=z:=⟨_,rfl⟩
  rw [hqd] at hDV
  refine PV (J ((qd:Nat):Int)) (CT (run_bin (J ((s:Nat):Int)) (J ((b:Nat):Int)) _ rfl rfl rfl (bin_quo_104 _ _ _ _ (by omega))) ((vint (w_quo (m:=s) (n:=b) hDV.2.2.1)).trans (vnat hqd))) rfl ?_
  simp only [PA]
  refine PV (.int .u32 ((qd:Nat):Int)) (CT (run_cv _ rfl rfl rfl rfl (wrap_u32)) (vnat (Nat.mod_eq_of_lt hDV.1))) rfl ?_
  simp only [PA]
  refine PV (.pointer (some ⟨g,f,none⟩)) (run_idxB rfl rfl rfl (by omega)) rfl ?_
  simp only [PA]
  refine wpList_plain rfl fun K hK=>o_stB 0 (qd) ([⟨g,wc (((ls).set (f) (qd))),100⟩]) rfl rfl rfl h rfl (by rw [hI.1]; omega) rfl fun aU l=>hK _ _ ?_
  simp only [PA]
  refine wpList_nil ?_
  refine S _ _ ?_
  refine wp_region_lit ?_
  refine PV (J ((s:Nat):Int)) rfl rfl ?_
  simp only [PA]
  refine PV (E (some bd) 1 d) rfl rfl ?_
  simp only [PA]
  refine PV (.pointer (some (bd.add 0))) (by kernel_rfl) rfl ?_
  simp only [PA]
  refine PV (.int .u32 ((b:Nat):Int)) (CT (run_loadW _ rfl rfl ((hy.below l.bl).cellA (by omega)) (ag100 _)) (vnat hb_)) rfl ?_
  simp only [PA]
  refine PV (J ((b:Nat):Int)) (run_cv _ rfl rfl rfl rfl (wrap_u64 (by rw [BW_eq] at hbB; omega))) rfl ?_
  simp only [PA]
  obtain ⟨rm,hrm⟩:∃ z:Nat,s % b=z:=⟨_,rfl⟩
  rw [hrm] at hDV
  refine PV (J ((rm:Nat):Int)) (CT (run_bin (J ((s:Nat):Int)) (J ((b:Nat):Int)) _ rfl rfl rfl (bin_rem_104 _ _ _ _ (by omega))) ((vint (w_rem (m:=s) (n:=b))).trans (vnat hrm))) rfl ?_
  simp only [PA]
  refine PV (J ((rm:Nat):Int)) rfl rfl ?_
  simp only [PA]
  refine wpList_nil ?_
  refine P _ _ ?_
  refine wp_region_lit ?_
  refine PV (I ((f:Nat):Int)) (CT rfl (vint (by omega))) rfl ?_
  simp only [PA]
  refine PV (I (((f:Nat):Int) - 1)) (CT (run_bin (I ((f:Nat):Int)) (I 1) _ rfl rfl rfl (bin_sub_3 _ _ _ _)) (vint (by rw [IntKind.wrap_i64]; omega))) rfl ?_
  simp only [PA]
  refine PV (I (((f:Nat):Int) - 1)) rfl rfl ?_
  simp only [PA]
  refine wpList_nil ?_
  exact ⟨f,by omega,f,rm,((ls).set (f) (qd)),[J ((s:Nat):Int),I (((t:Nat):Int) - 1),T true,I ((f:Nat):Int),I (((f:Nat):Int) - 1),J ((rest:Nat):Int),J ((rb:Nat):Int),E (some ad) n c,I ((f:Nat):Int),.pointer (some (ad.add f)),.int .u32 ((xi:Nat):Int),J ((xi:Nat):Int),J ((s:Nat):Int),E (some ⟨g,0,none⟩) n n,I ((f:Nat):Int),J ((s:Nat):Int),E (some bd) 1 d,.pointer (some (bd.add 0)),.int .u32 ((b:Nat):Int),J ((b:Nat):Int),J ((qd:Nat):Int),.int .u32 ((qd:Nat):Int),.pointer (some ⟨g,f,none⟩),J ((s:Nat):Int),E (some bd) 1 d,.pointer (some (bd.add 0)),.int .u32 ((b:Nat):Int),J ((b:Nat):Int),J ((rm:Nat):Int)],rfl,l,by omega,⟨by rw [hDV.2.2.2.2.1,hxl],hDV.2.2.2.1,hDV.2.2.2.2.2,hDV.2.1⟩,rfl⟩
 ·skip
  refine PV (T false) (CT (run_bin (I (((t:Nat):Int) - 1)) (I 0) _ rfl rfl rfl (bin_geq_3 _ _ _ _)) (congrArg Value.bool (decide_eq_false hge))) rfl ?_
  simp only [PA]
  refine wpList_nil ?_
  refine k _ _ ?_
  refine cond_false rfl ?_
  refine wp_exit ?_
  refine L _ _ ?_
  refine wp_seq_k fun aV V=>?_
  refine wp_region_lit ?_
  refine PV (E (some ⟨g,0,none⟩) n n) rfl rfl ?_
  simp only [PA]
  refine wpList_plain rfl fun K hK=>o_call 107 _ #[E (some ⟨g,0,none⟩) n n] Try.func107 (by kernel_rfl) rfl rfl rfl h (trim_c (hI.2.1) (wds_len (h.at_ _ (MI (i:=0) rfl)) (⟨hI.1,by omega⟩))) fun aW aX W X aY=>?_
  obtain ⟨Y,aa,ab,rfl,ac⟩:=W
  refine hK _ _ ?_
  simp only [PA]
  refine PV (J ((rest:Nat):Int)) rfl rfl ?_
  simp only [PA]
  refine PV (.int .u32 ((rest:Nat):Int)) (CT (run_cv _ rfl rfl rfl rfl (wrap_u32)) (vnat (Nat.mod_eq_of_lt hrB))) rfl ?_
  simp only [PA]
  refine wpList_plain rfl fun K hK=>o_lit (rest) rfl rfl X fun ae aB o af=>hK _ _ ?_
  simp only [PA]
  refine wpList_plain rfl fun K hK=>o_call 107 _ #[E (some ⟨ae,0,none⟩) 1 1] Try.func107 (by kernel_rfl) rfl rfl rfl o (trim_c (Dig.cons hrB Dig.nil) (wds_len (o.at_ _ (MI (i:=0) rfl)) (⟨rfl,by omega⟩))) fun aE aI ag ah u64=>?_
  obtain ⟨ai,aj,al,rfl,am⟩:=ag
  refine hK _ _ ?_
  simp only [PA]
  refine PV (E Y aa ab) rfl rfl ?_
  simp only [PA]
  refine PV (E ai aj al) rfl rfl ?_
  simp only [PA]
  refine wpList_nil ?_
  refine V _ _ ?_
  refine wp_ret ?_
  repeat (with_reducible first | refine then_ret ?_ | refine inBlock_ret ?_)
  refine bodyPost_ret (results_tmp2 rfl _ _ _) rfl ?_
  have an:t=0:=by omega
  subst an
  obtain ⟨e1,e2⟩:=div1_end hI.2.2.2 hI.2.2.1
  have e3:val [rest]=rest:=by simp [val]
  exact ⟨⟨_,rfl,_,_,rfl,⟨_,_,_,rfl,hby▸e1▸(ac.u (af.trans u64))⟩,⟨_,_,_,rfl,hby▸e2▸e3▸am⟩⟩,ah.bl⟩
end Go.Proofs.Ythhgjloephkpaaa
namespace Go.Proofs.Ythhgjloephkpaaa
set_option linter.unusedVariables false
set_option linter.unusedSimpArgs false
open Go Go.RowKit Go.Proofs.YthhgjloephkpaaaW.PrintWords Go.Proofs.YthhgjloephkpaaaW.PrintLast
theorem St.perm {w0 w : World} {L L' : List Bx} (h : St w0 w L) (hp : L'.Perm L) : St w0 w L' :=
  ⟨h.bl, fun e he => h.ge e (hp.mem_iff.1 he), fun e he => h.at_ e (hp.mem_iff.1 he), (hp.map Bx.g).nodup_iff.2 h.nd⟩
theorem perm_out (a b c : Bx) : [c, a, b].Perm [a, b, c] := List.perm_append_comm (l₁ := [c]) (l₂ := [a, b])
theorem perm_in (a b c : Bx) : [a, b, c].Perm [c, a, b] := (perm_out a b c).symm
set_option maxRecDepth 100000 in
theorem run_slcW (ρ : Operand → Value) (o : Oper) (w : World) (x lo hi : Operand) (g i k L : Nat) (ho : o.op = .slice 36 x (some lo) (some hi) none) (hx : ρ x = .slice (some ⟨g, 0, none⟩) L L) (hlo : ρ lo = .int .i64 (i : Int)) (hhi : ρ hi = .int .i64 ((i + k + 1 : Nat) : Int)) (h : i + k + 1 ≤ L) (hL : L ≤ 10000000000) :
    (execOp ρ o).run Try.prog w = .ok (.value (.slice (some ⟨g, i, none⟩) (k + 1) (L - i))) w := by
  have hr : (Instr.sliceAt 36 (.slice (some ⟨g, 0, none⟩) L L) (some (.int .i64 (i : Int))) (some (.int .i64 ((i + k + 1 : Nat) : Int))) none).run Try.prog w = .ok (.slice (some ⟨g, i, none⟩) (k + 1) (L - i)) w := by
    have h2 : ((i + k + 1 : Nat) : Int) ≤ (L : Int) := by omega
    simp [go_sem, Instr.sliceAt]
    rw [if_pos ⟨by omega, by omega⟩, if_pos (by omega), if_neg (by omega)]
    have e : (((i : Int) + (k : Int) + 1).toNat - i) = k + 1 := by omega
    rw [e]
  unfold execOp
  simp only [ho, hx, hlo, hhi, Option.map_some, Option.map_none]
  rw [Sem.run_bind, hr]
  rfl
theorem buf_heap {b g n : Nat} {W : World} {ls : List Nat} (h : Buf b W g n ls) : W.heap[g]? = some (.cells (wc ls) 100 (0, 0)) ∧ b ≤ g ∧ ls.length = n := by
  have hl : ls.length = n := by have := h.1; simp [nums, us] at this; omega
  rcases h.2 with ⟨e, _⟩ | ⟨g', cap, cur, e, hb, hh, _, _, hsz, ht⟩
  · cases e
  · injection e with e1 e2 e3
    injection e1 with e1
    injection e1 with e1
    subst e1
    refine ⟨?_, hb, hl⟩
    rw [hh]
    have e4 : cur = wc ls := by
      apply Array.ext'
      rw [← e3] at hsz
      rw [Nat.mul_one] at hsz ht
      rw [List.take_of_length_le (by rw [Array.length_toList]; omega)] at ht
      rw [ht]
      unfold wc nums us
      rw [List.map_map]
      rfl
    rw [e4]
/-- A call that answers with more than a value. -/
theorem o_callS {P : Program} {Q : Exit → Act → World → Prop} {o : Oper} {a : Act} {w : World} {K : Act → World → Prop} (f : FuncId) (fn : Func) {ars : Array Operand} {ts : Array TypeId} (args : Array Value) {F : Value → World → Prop} (hf : P.funcs[f]? = some fn) (hname : (fn.name == "runtime.NumGoroutine") = false) (hb : fn.body.isSome = true)
    (hop : o.op = .call { callee := .value (.func f), args := ars, argTypes := ts }) (hargs : ars.toList.map a.eval = args.toList)
    (hc : Calls P f args w fun e w' => ∃ v, e = .returned v ∧ F v w')
    (h : ∀ v w', F v w' → K (a.put o.dst v) w') : o.wp P a w K Q := by
  have he := enters_ hf hname hb args w
  have hargs' : ars.map a.eval = args := by
    apply Array.ext'
    rw [Array.toList_map, hargs]
  have hrun : (execOp a.eval o).run P w = .ok (.enter f args) w := by
    unfold execOp
    simp [hop, resolve, Deferred.ofValue, invoke, Act.eval, hargs', he]
  unfold Oper.wp
  rw [hrun, Oper.upon_enter]
  refine hc.mono fun e w'' hh => ?_
  obtain ⟨v, rfl, hF⟩ := hh
  exact h v w'' hF
/-- The shift's contract, as a new box. -/
theorem shifted_b {A : Option Addr} {n c s : Nat} {l : List Nat} {w w0 : World} {L : List Bx} (hs : St w0 w L) (hx : Wds w A n c l) (hd : Dig l) (hn : n ≤ 1000000000) (hs32 : s < 32) :
    Calls Try.prog 124 #[.slice A n c, .int .u64 ((s : Nat) : Int)] w fun e w' => ∃ v, e = .returned v ∧ ∃ g ls, v = .slice (some ⟨g, 0, none⟩) (n + 1) (n + 1) ∧ ls.length = n + 1 ∧ Dig ls ∧ val ls = val l * 2 ^ s ∧ St w0 w' (⟨g, wc ls, 100⟩ :: L) :=
  (shifted_any A n c s l w hx hd hn hs32).mono fun e w' ⟨⟨g, ls, he, hb, h1, h2⟩, hB⟩ => by
    obtain ⟨h3, h4, h5⟩ := buf_heap hb
    exact ⟨_, he, g, ls, rfl, h5, h1, h2, hs.new hB h4 h3⟩
/-- What trim leaves of a buffer: a shorter slice of it. -/
theorem trim_b {A : Option Addr} {n c : Nat} {l : List Nat} {w : World} (hd : Dig l) (h : Wds w A n c l) : Calls Try.prog 107 #[.slice A n c] w fun e w' => (∃ v, e = .returned v ∧ ∃ m, v = .slice A m c ∧ m ≤ n ∧ (dg (val l)).length = m) ∧ Below w.heap.size w w' :=
  (trim_any A n c l hd w h).mono fun e w' ⟨⟨m, he, h2⟩, hw⟩ => by
    subst hw
    refine ⟨⟨_, he, m, rfl, ?_, h2.len⟩, Below.refl _ _⟩
    have h3 := val_lt hd
    rw [h.len] at h3
    rw [← h2.len]
    exact dg_len_le h3
theorem trimmed {l : List Nat} (hd : Dig l) {m : Nat} (hm : (dg (val l)).length = m) (hl : m ≤ l.length) : l.take m = dg (val l) := by
  have h1 : val l < BW ^ m := by rw [← hm]; exact dg_lt _
  have h2 := val_drop_split hl
  have h3 : val (l.take m) = val l := by
    rcases Nat.eq_zero_or_pos (val (l.drop m)) with h | h
    · rw [h, Nat.mul_zero, Nat.add_zero] at h2; exact h2.symm
    · have : BW ^ m * 1 ≤ BW ^ m * val (l.drop m) := Nat.mul_le_mul_left _ h
      omega
  apply trim_end hd hl h3
  by_cases h0 : m = 0
  · exact .inl h0
  · right
    intro hz
    obtain ⟨k, rfl⟩ : ∃ k, m = k + 1 := ⟨m - 1, by omega⟩
    have h4 := trim_step hl h3 (by simpa using hz)
    have h5 := val_lt (hd.take k)
    rw [h4, List.length_take, Nat.min_eq_left (by omega)] at h5
    have := dg_len_le h5
    omega
theorem trimmed_zero {l : List Nat} (hd : Dig l) {m : Nat} (hm : (dg (val l)).length = m) (hl : m ≤ l.length) : val (l.drop m) = 0 := by
  have h1 := trimmed hd hm hl
  have h2 := val_drop_split hl
  rw [h1, val_dg] at h2
  rcases Nat.mul_eq_zero.1 (by omega : BW ^ m * val (l.drop m) = 0) with h | h
  · exact absurd h (Nat.ne_of_gt (Nat.pow_pos BW_pos))
  · exact h
theorem zero_at {l : List Nat} {m : Nat} (h : val (l.drop m) = 0) : l.getD m 0 = 0 := by
  by_cases hm : m < l.length
  · rw [drop_cons hm, val_cons] at h; omega
  · exact getD_ge (by omega)
theorem wds_pre {w : World} {g n c : Nat} {ls : List Nat} {t : TypeId} (h : w.heap[g]? = some (.cells (wc ls) t (0, 0))) (hl : n ≤ ls.length) (hm : ls.length ≤ 9223372036854775807) (hc : n ≤ c) : Wds w (some ⟨g, 0, none⟩) n c (ls.take n) := by
  have := wds_win (o := 0) (c := c) h (by omega : 0 + n ≤ ls.length) hm hc
  rwa [List.drop_zero] at this
theorem ylen {y s k : Nat} {ly : List Nat} (hyl : (dg y).length = k) (hk : 1 ≤ k) (hv : val ly = y * 2 ^ s) (ht1 : 2147483648 ≤ (dg y).getD (k - 1) 0 * 2 ^ s) (ht2 : (dg y).getD (k - 1) 0 * 2 ^ s < BW) (hs : s ≤ 31) : BW ^ (k - 1) * 2 ^ 31 ≤ val ly ∧ (dg (val ly)).length = k := by
  obtain ⟨j, rfl⟩ : ∃ j, k = j + 1 := ⟨k - 1, by omega⟩
  rw [Nat.add_sub_cancel] at *
  have h1 := val_take_step (dg y) j
  rw [val_take_le (by omega), val_dg] at h1
  have h2 := val_lt ((dg_dig y).take j)
  rw [List.length_take, Nat.min_eq_left (by omega)] at h2
  have e : val ly = val ((dg y).take j) * 2 ^ s + BW ^ j * ((dg y).getD j 0 * 2 ^ s) := hv.trans ((congrArg (· * 2 ^ s) h1).trans (by simp only [Nat.add_mul, Nat.mul_assoc]))
  have h3 : BW ^ j * 2147483648 ≤ BW ^ j * ((dg y).getD j 0 * 2 ^ s) := Nat.mul_le_mul_left _ ht1
  have h4 : val ly < BW ^ (j + 1) := by
    have h5 : val ((dg y).take j) * 2 ^ s < BW ^ j * 2 ^ s := Nat.mul_lt_mul_of_pos_right h2 (Nat.two_pow_pos s)
    -- the top word's multiple leaves room for the rest
    have h6 : (dg y).getD j 0 * 2 ^ s + 2 ^ s ≤ BW := by
      have hB : BW = 2 ^ s * 2 ^ (32 - s) := BW_split (by omega)
      have h7 : (dg y).getD j 0 < 2 ^ (32 - s) := by
        rw [hB, Nat.mul_comm] at ht2
        exact Nat.lt_of_mul_lt_mul_left ht2
      have h8 : ((dg y).getD j 0 + 1) * 2 ^ s ≤ 2 ^ (32 - s) * 2 ^ s := Nat.mul_le_mul_right _ h7
      rw [Nat.add_mul, Nat.one_mul, Nat.mul_comm (2 ^ (32 - s)), ← hB] at h8
      exact h8
    have h9 : BW ^ j * ((dg y).getD j 0 * 2 ^ s + 2 ^ s) ≤ BW ^ j * BW := Nat.mul_le_mul_left _ h6
    have hp : BW ^ (j + 1) = BW ^ j * BW := Nat.pow_succ ..
    rw [Nat.mul_add, ← hp] at h9
    omega
  refine ⟨?_, ?_⟩
  · rw [show (2 ^ 31 : Nat) = 2147483648 from rfl]; omega
  · have h5 := dg_len_le h4
    have h6 : BW ^ j ≤ val ly := by
      have h10 : BW ^ j * 1 ≤ BW ^ j * 2147483648 := Nat.mul_le_mul_left _ (by decide)
      omega
    rcases Nat.lt_or_ge (dg (val ly)).length (j + 1) with h7 | h7
    · have h8 := dg_lt (val ly)
      have h9 : BW ^ (dg (val ly)).length ≤ BW ^ j := Nat.pow_le_pow_right BW_pos (by omega)
      omega
    · omega
theorem w_shr_s {a s : Nat} (hs : s ≤ 31) : ((a : Nat) : Int) / 2 ^ (min s 32) = ((a / 2 ^ s : Nat) : Int) := by
  rw [Nat.min_eq_left (by omega), Int.natCast_ediv, Int.natCast_pow]; rfl
theorem w_shl_s {a s : Nat} (ha : a < BW) (hs : s ≤ 32) : IntKind.u64.wrap (((a : Nat) : Int) * 2 ^ (min s 64)) = ((a * 2 ^ s : Nat) : Int) := by
  rw [Nat.min_eq_left (by omega), show ((a : Nat) : Int) * 2 ^ s = ((a * 2 ^ s : Nat) : Int) from by rw [Int.natCast_mul, Int.natCast_pow]; rfl]
  refine wrap64 ?_
  have h1 : 2 ^ s ≤ 2 ^ 32 := Nat.pow_le_pow_right (by omega) hs
  have h2 : a * 2 ^ s ≤ a * 2 ^ 32 := Nat.mul_le_mul_left _ h1
  rw [BW_eq] at ha
  omega
theorem w_or32 {x y s : Nat} (hs : s ≤ 31) (hx : x < BW) : bits .or .u32 ((x / 2 ^ s : Nat) : Int) ((y * 2 ^ (32 - s) % BW : Nat) : Int) = ((x / 2 ^ s + y * 2 ^ (32 - s) % BW : Nat) : Int) := by
  obtain ⟨h1, h2, h3⟩ := shr_word (y := y) hs hx
  rw [bits_or_u32_nat (x / 2 ^ s) (y * 2 ^ (32 - s) % BW) h1 (Nat.mod_lt _ BW_pos), h2]
theorem long_quo {x y s : Nat} {outs ls : List Nat} (h : val outs = x * 2 ^ s / (y * 2 ^ s) ∧ val ls = x * 2 ^ s % (y * 2 ^ s)) : val outs = x / y ∧ val ls / 2 ^ s = x % y := by
  have h0 := Nat.two_pow_pos s
  constructor
  · rw [h.1, Nat.mul_div_mul_right _ _ h0]
  · rw [h.2, Nat.mul_mod_mul_right, Nat.mul_div_cancel _ h0]
/-- One word of the quotient, on the whole dividend. -/
theorem word_long {w0 w : World} {gx j k cap cb v1 v2 X M : Nat} {bd : Addr} {ls outs yl : List Nat} {Lr : List Bx} (hs : St w0 w ((⟨gx, wc ls, 100⟩ : Bx) :: Lr))
    (hY : ∀ w' cs, St w0 w' ((⟨gx, cs, 100⟩ : Bx) :: Lr) → Wds w' (some bd) k cb yl) (hk : 2 ≤ k) (hkm : k ≤ 1000000000) (hYD : Dig yl) (hyl : yl.length = k)
    (hv1 : yl.getD (k - 1) 0 = v1) (hv2 : yl.getD (k - 2) 0 = v2) (hv0 : 0 < v1) (hL : Long X (val yl) k (j + 1) M ls outs) :
    Calls Try.prog 125 #[.slice (some ⟨gx, j, none⟩) (k + 1) cap, .slice (some bd) k cb, .int .u64 ((v1 : Nat) : Int), .int .u64 ((v2 : Nat) : Int)] w fun e w' => ∃ v, e = .returned v ∧ ∃ q rs, v = .int .u32 ((q : Nat) : Int) ∧ q < BW ∧ Long X (val yl) k j M rs (outs.set j q) ∧ St w0 w' ((⟨gx, wc rs, 100⟩ : Bx) :: Lr) := by
  have hYB : val yl < BW ^ k := by have := val_lt hYD; rwa [hyl] at this
  have hlen : j + k + 1 ≤ ls.length := by rw [hL.len]; have := hL.tM; omega
  have hwin := window hlen
  have hwl : ((ls.drop j).take (k + 1)).length = k + 1 := by rw [List.length_take, List.length_drop]; omega
  have hpl : (ls.take j).length = j := by rw [List.length_take]; omega
  have hD : Dig ((ls.drop j).take (k + 1)) := (hL.dig.drop j).take (k + 1)
  have hlt := hL.win_lt hYB
  have G := guess_of hwl hyl hk hD hYD (by rw [hv1]; exact hv0) hlt
  rw [hv1, hv2] at G
  have hs' : St w0 w ((⟨gx, wc (ls.take j ++ (ls.drop j).take (k + 1) ++ ls.drop (j + k + 1)), 100⟩ : Bx) :: Lr) := by rw [← hwin]; exact hs
  generalize hwn : (ls.drop j).take (k + 1) = wl at *
  have hA0 : wl.getD k 0 < BW := hD.at_ k
  have hA1 : wl.getD (k - 1) 0 < BW := hD.at_ (k - 1)
  have hHD : wl.getD k 0 * BW + wl.getD (k - 1) 0 < 18446744073709551616 := by rw [BW_eq] at *; omega
  have hf := G.first
  have hqv : Nat.min ((wl.getD k 0 * BW + wl.getD (k - 1) 0) / v1) 4294967295 * v1 ≤ wl.getD k 0 * BW + wl.getD (k - 1) 0 :=
    Nat.le_trans (Nat.mul_le_mul_right _ (Nat.min_le_left _ _)) (Nat.div_mul_le_self _ _)
  have hQ : Nat.min ((wl.getD k 0 * BW + wl.getD (k - 1) 0) / v1) 4294967295 ≤ (wl.getD k 0 * BW + wl.getD (k - 1) 0) / v1 ∧ Nat.min ((wl.getD k 0 * BW + wl.getD (k - 1) 0) / v1) 4294967295 < BW ∧ val wl / val yl ≤ Nat.min ((wl.getD k 0 * BW + wl.getD (k - 1) 0) / v1) 4294967295 := by
    refine ⟨Nat.min_le_left _ _, ?_, Nat.le_min.2 ⟨hf.1, (show BW - 1 = 4294967295 from rfl) ▸ hf.2⟩⟩
    have : Nat.min ((wl.getD k 0 * BW + wl.getD (k - 1) 0) / v1) 4294967295 ≤ 4294967295 := Nat.min_le_right _ _
    exact Nat.lt_of_le_of_lt this (by decide)
  have h := word_c (cap := cap) (cb := cb) (N := k + 1) (k1 := k - 1) (k2 := k - 2) (P := BW ^ (k - 2)) hs' hY hwl rfl hyl hk hkm hD hYD (by omega) (by omega) rfl rfl rfl hA0 hA1 (hD.at_ (k - 2)) (hv1 ▸ hYD.at_ _) (hv2 ▸ hYD.at_ _) hv0 rfl hHD (Lib.hid rfl) hQ hqv G
  rw [hpl] at h
  refine h.mono fun e w' ⟨rl, he, h1, h2, h3, h4⟩ => ⟨_, he, _, _, rfl, ?_, ?_, h4⟩
  · exact Nat.lt_of_le_of_lt hf.2 (by decide)
  · subst hwn; exact hL.step hYB rfl h3 h1 h2
end Go.Proofs.Ythhgjloephkpaaa
namespace Go.Proofs.Ythhgjloephkpaaa
set_option linter.unusedVariables false
set_option linter.unusedSimpArgs false
open Go Go.RowKit Go.Proofs.YthhgjloephkpaaaW.PrintWords Go.Proofs.YthhgjloephkpaaaW.PrintLast
theorem run_idx8 {o : Oper} {a : Act} {w : World} {x ix : Operand} {i : Nat} (ho : o.op = .index 9 x ix) (hx : ∃ s, a.eval x = .string s ∧ ((List.range 256).all fun j => match s[j]? with | some b => b.toNat == Go.bitLen j | none => false) = true) (hi : a.eval ix = .int .u8 (i : Int)) (h : i < 256) :
  (execOp a.eval o).run Try.prog w = .ok (.value (.int .u8 ((Go.bitLen i : Nat) : Int))) w := by
 obtain ⟨s, hs, hc⟩ := hx
 have h1 := List.all_eq_true.1 hc i (List.mem_range.2 h)
 cases hb : s[i]? with
 | none => rw [hb] at h1; cases h1
 | some b =>
  rw [hb] at h1
  have h2 : b.toNat = Go.bitLen i := beq_iff_eq.1 h1
  have hr : (Instr.index 9 (.string s) (.int .u8 (i : Int))).run Try.prog w = .ok (.int .u8 ((Go.bitLen i : Nat) : Int)) w := by
   simp [go_sem, Instr.index]
   rw [hb]
   simp [h2]
  unfold execOp
  simp only [ho, hs, hi]
  rw [Sem.run_bind, hr]
  rfl
theorem wrap_u8 {n : Nat} (h : n < 256) : IntKind.u8.wrap (n : Int) = (n : Int) := by rw [IntKind.wrap_u8]; omega
theorem w_shr16 {x : Nat} : ((x : Nat) : Int) / 2 ^ (min 16 32) = ((x / 65536 : Nat) : Int) := by rw [show (2 : Int) ^ (min 16 32) = 65536 from by decide]; omega
theorem w_shr8 {x : Nat} : ((x : Nat) : Int) / 2 ^ (min 8 32) = ((x / 256 : Nat) : Int) := by rw [show (2 : Int) ^ (min 8 32) = 256 from by decide]; omega
theorem len_tt {x : Nat} (h : 256 ≤ x / 65536) : 24 + Go.bitLen (x / 65536 / 256) = Go.bitLen x := by
 have := Go.bitLen_shift x 24 (by rw [show (2 : Nat) ^ 24 = 16777216 from rfl]; omega)
 rw [this, show (2 : Nat) ^ 24 = 16777216 from rfl, Nat.div_div_eq_div_mul]
theorem len_tf {x : Nat} (h : 65536 ≤ x) : 16 + Go.bitLen (x / 65536) = Go.bitLen x := (Go.bitLen_shift x 16 (by rw [show (2 : Nat) ^ 16 = 65536 from rfl]; omega)).symm
theorem len_ft {x : Nat} (h : 256 ≤ x) : 8 + Go.bitLen (x / 256) = Go.bitLen x := (Go.bitLen_shift x 8 (by rw [show (2 : Nat) ^ 8 = 256 from rfl]; omega)).symm
set_option maxRecDepth 100000 in
set_option maxHeartbeats 3000000 in
theorem len32_c {x:Nat} {w:World} (hx:x<4294967296):Calls Try.prog 127 #[.int .u32 ((x:Nat):Int)] w (RetI w ((Go.bitLen x:Nat):Int)):=by
 go_enter Try.func127,Try.ntmps127
 have b:=St.start w
 refine wp_seq_k fun t j=>?_
 refine wp_region_lit ?_
 refine PV (I 0) rfl rfl ?_
 simp only [PA]
 refine wpList_nil ?_
 refine j _ _ ?_
 refine wp_seq_k fun v c=>?_
 refine wp_seq_k fun y d=>?_
 refine wp_region_lit ?_
 refine PV (.int .u32 ((x:Nat):Int)) rfl rfl ?_
 simp only [PA]
 by_cases e:(65536:Int)≤((x:Nat):Int)
 ·skip
  refine PV (T true) (CT (run_bin (.int .u32 ((x:Nat):Int)) (.int .u32 65536) _ rfl rfl rfl (bin_geq_100 _ _ _ _)) (congrArg Value.bool (decide_eq_true e))) rfl ?_
  simp only [PA]
  refine wpList_nil ?_
  refine d _ _ ?_
  refine cond_true rfl ?_
  refine wp_seq_k fun z k=>?_
  refine wp_region_lit ?_
  refine PV (.int .u32 ((x:Nat):Int)) rfl rfl ?_
  simp only [PA]
  refine PV (.int .u32 ((x / 65536:Nat):Int)) (CT (run_bin (.int .u32 ((x:Nat):Int)) (J 16) _ rfl rfl rfl (bin_shr_100_u64 _ _ _ _)) (vint w_shr16)) rfl ?_
  simp only [PA]
  refine PV (.int .u32 ((x / 65536:Nat):Int)) rfl rfl ?_
  simp only [PA]
  refine wpList_nil ?_
  refine k _ _ ?_
  refine wp_region_lit ?_
  refine PV (I 16) rfl rfl ?_
  simp only [PA]
  refine wpList_nil ?_
  refine c _ _ ?_
  refine wp_seq_k fun A f=>?_
  refine wp_seq_k fun C g=>?_
  refine wp_region_lit ?_
  refine PV (.int .u32 ((x / 65536:Nat):Int)) rfl rfl ?_
  simp only [PA]
  by_cases a:(256:Int)≤((x / 65536:Nat):Int)
  ·skip
   refine PV (T true) (CT (run_bin (.int .u32 ((x / 65536:Nat):Int)) (.int .u32 256) _ rfl rfl rfl (bin_geq_100 _ _ _ _)) (congrArg Value.bool (decide_eq_true a))) rfl ?_
   simp only [PA]
   refine wpList_nil ?_
   refine g _ _ ?_
   refine cond_true rfl ?_
   refine wp_seq_k fun D l=>?_
   refine wp_region_lit ?_
   refine PV (.int .u32 ((x / 65536:Nat):Int)) rfl rfl ?_
   simp only [PA]
   refine PV (.int .u32 ((x / 65536 / 256:Nat):Int)) (CT (run_bin (.int .u32 ((x / 65536:Nat):Int)) (J 8) _ rfl rfl rfl (bin_shr_100_u64 _ _ _ _)) (vint w_shr8)) rfl ?_
   simp only [PA]
   refine PV (.int .u32 ((x / 65536 / 256:Nat):Int)) rfl rfl ?_
   simp only [PA]
   refine wpList_nil ?_
   refine l _ _ ?_
   refine wp_region_lit ?_
   refine PV (I 16) rfl rfl ?_
   simp only [PA]
   refine PV (I ((24:Nat):Int)) (CT (run_bin (I 16) (I 8) _ rfl rfl rfl (bin_add_3 _ _ _ _)) (vint (by rw [IntKind.wrap_i64]; rfl))) rfl ?_
   simp only [PA]
   refine PV (I ((24:Nat):Int)) rfl rfl ?_
   simp only [PA]
   refine wpList_nil ?_
   refine f _ _ ?_
   refine wp_seq_k fun F o=>?_
   refine wp_region_lit ?_
   refine PV (I ((24:Nat):Int)) rfl rfl ?_
   simp only [PA]
   refine PV (.int .u32 ((x / 65536 / 256:Nat):Int)) rfl rfl ?_
   simp only [PA]
   refine PV (.int .u8 ((x / 65536 / 256:Nat):Int)) (run_cv _ rfl rfl rfl rfl (wrap_u8 (by omega))) rfl ?_
   simp only [PA]
   refine PV (.int .u8 ((Go.bitLen (x / 65536 / 256):Nat):Int)) (run_idx8 rfl ⟨_,rfl,by kernel_rfl⟩ rfl (by omega)) rfl ?_
   simp only [PA]
   refine PV (I ((Go.bitLen (x / 65536 / 256):Nat):Int)) (run_cv _ rfl rfl rfl rfl (wrap_i64 (by have:=Go.bitLen_le8 ((x / 65536 / 256)) (by omega); omega))) rfl ?_
   simp only [PA]
   refine PV (I ((Go.bitLen x:Nat):Int)) (CT (run_bin (I ((24:Nat):Int)) (I ((Go.bitLen (x / 65536 / 256):Nat):Int)) _ rfl rfl rfl (bin_add_3 _ _ _ _)) ((vint (i_add (m:=24) (n:=Go.bitLen (x / 65536 / 256)) (by have:=Go.bitLen_le8 (x / 65536 / 256) (by omega); omega))).trans (vnat (len_tt (by omega))))) rfl ?_
   simp only [PA]
   refine PV (I ((Go.bitLen x:Nat):Int)) rfl rfl ?_
   simp only [PA]
   refine wpList_nil ?_
   refine o _ _ ?_
   refine wp_ret ?_
   refine bodyPost_ret (results_tmp rfl _ _ _) rfl ?_
   exact ⟨⟨_,rfl,by first | rfl | exact vnat (Nat.zero_add _)⟩,b.bl⟩
  ·skip
   refine PV (T false) (CT (run_bin (.int .u32 ((x / 65536:Nat):Int)) (.int .u32 256) _ rfl rfl rfl (bin_geq_100 _ _ _ _)) (congrArg Value.bool (decide_eq_false a))) rfl ?_
   simp only [PA]
   refine wpList_nil ?_
   refine g _ _ ?_
   refine cond_false rfl ?_
   refine wp_skip ?_
   refine f _ _ ?_
   refine wp_seq_k fun G p=>?_
   refine wp_region_lit ?_
   refine PV (I 16) rfl rfl ?_
   simp only [PA]
   refine PV (.int .u32 ((x / 65536:Nat):Int)) rfl rfl ?_
   simp only [PA]
   refine PV (.int .u8 ((x / 65536:Nat):Int)) (run_cv _ rfl rfl rfl rfl (wrap_u8 (by omega))) rfl ?_
   simp only [PA]
   refine PV (.int .u8 ((Go.bitLen (x / 65536):Nat):Int)) (run_idx8 rfl ⟨_,rfl,by kernel_rfl⟩ rfl (by omega)) rfl ?_
   simp only [PA]
   refine PV (I ((Go.bitLen (x / 65536):Nat):Int)) (run_cv _ rfl rfl rfl rfl (wrap_i64 (by have:=Go.bitLen_le8 ((x / 65536)) (by omega); omega))) rfl ?_
   simp only [PA]
   refine PV (I ((Go.bitLen x:Nat):Int)) (CT (run_bin (I 16) (I ((Go.bitLen (x / 65536):Nat):Int)) _ rfl rfl rfl (bin_add_3 _ _ _ _)) ((vint (i_add (m:=16) (n:=Go.bitLen (x / 65536)) (by have:=Go.bitLen_le8 (x / 65536) (by omega); omega))).trans (vnat (len_tf (by omega))))) rfl ?_
   simp only [PA]
   refine PV (I ((Go.bitLen x:Nat):Int)) rfl rfl ?_
   simp only [PA]
   refine wpList_nil ?_
   refine p _ _ ?_
   refine wp_ret ?_
   refine bodyPost_ret (results_tmp rfl _ _ _) rfl ?_
   exact ⟨⟨_,rfl,by first | rfl | exact vnat (Nat.zero_add _)⟩,b.bl⟩
 ·skip
  refine PV (T false) (CT (run_bin (.int .u32 ((x:Nat):Int)) (.int .u32 65536) _ rfl rfl rfl (bin_geq_100 _ _ _ _)) (congrArg Value.bool (decide_eq_false e))) rfl ?_
  simp only [PA]
  refine wpList_nil ?_
  refine d _ _ ?_
  refine cond_false rfl ?_
  refine wp_skip ?_
  refine c _ _ ?_
  refine wp_seq_k fun H h=>?_
  refine wp_seq_k fun L i=>?_
  refine wp_region_lit ?_
  refine PV (.int .u32 ((x:Nat):Int)) rfl rfl ?_
  simp only [PA]
  by_cases a:(256:Int)≤((x:Nat):Int)
  ·skip
   refine PV (T true) (CT (run_bin (.int .u32 ((x:Nat):Int)) (.int .u32 256) _ rfl rfl rfl (bin_geq_100 _ _ _ _)) (congrArg Value.bool (decide_eq_true a))) rfl ?_
   simp only [PA]
   refine wpList_nil ?_
   refine i _ _ ?_
   refine cond_true rfl ?_
   refine wp_seq_k fun M q=>?_
   refine wp_region_lit ?_
   refine PV (.int .u32 ((x:Nat):Int)) rfl rfl ?_
   simp only [PA]
   refine PV (.int .u32 ((x / 256:Nat):Int)) (CT (run_bin (.int .u32 ((x:Nat):Int)) (J 8) _ rfl rfl rfl (bin_shr_100_u64 _ _ _ _)) (vint w_shr8)) rfl ?_
   simp only [PA]
   refine PV (.int .u32 ((x / 256:Nat):Int)) rfl rfl ?_
   simp only [PA]
   refine wpList_nil ?_
   refine q _ _ ?_
   refine wp_region_lit ?_
   refine PV (I 0) rfl rfl ?_
   simp only [PA]
   refine PV (I ((8:Nat):Int)) (CT (run_bin (I 0) (I 8) _ rfl rfl rfl (bin_add_3 _ _ _ _)) (vint (by rw [IntKind.wrap_i64]; rfl))) rfl ?_
   simp only [PA]
   refine PV (I ((8:Nat):Int)) rfl rfl ?_
   simp only [PA]
   refine wpList_nil ?_
   refine h _ _ ?_
   refine wp_seq_k fun N r=>?_
   refine wp_region_lit ?_
   refine PV (I ((8:Nat):Int)) rfl rfl ?_
   simp only [PA]
   refine PV (.int .u32 ((x / 256:Nat):Int)) rfl rfl ?_
   simp only [PA]
   refine PV (.int .u8 ((x / 256:Nat):Int)) (run_cv _ rfl rfl rfl rfl (wrap_u8 (by omega))) rfl ?_
   simp only [PA]
   refine PV (.int .u8 ((Go.bitLen (x / 256):Nat):Int)) (run_idx8 rfl ⟨_,rfl,by kernel_rfl⟩ rfl (by omega)) rfl ?_
   simp only [PA]
   refine PV (I ((Go.bitLen (x / 256):Nat):Int)) (run_cv _ rfl rfl rfl rfl (wrap_i64 (by have:=Go.bitLen_le8 ((x / 256)) (by omega); omega))) rfl ?_
   simp only [PA]
   refine PV (I ((Go.bitLen x:Nat):Int)) (CT (run_bin (I ((8:Nat):Int)) (I ((Go.bitLen (x / 256):Nat):Int)) _ rfl rfl rfl (bin_add_3 _ _ _ _)) ((vint (i_add (m:=8) (n:=Go.bitLen (x / 256)) (by have:=Go.bitLen_le8 (x / 256) (by omega); omega))).trans (vnat (len_ft (by omega))))) rfl ?_
   simp only [PA]
   refine PV (I ((Go.bitLen x:Nat):Int)) rfl rfl ?_
   simp only [PA]
   refine wpList_nil ?_
   refine r _ _ ?_
   refine wp_ret ?_
   refine bodyPost_ret (results_tmp rfl _ _ _) rfl ?_
   exact ⟨⟨_,rfl,by first | rfl | exact vnat (Nat.zero_add _)⟩,b.bl⟩
  ·skip
   refine PV (T false) (CT (run_bin (.int .u32 ((x:Nat):Int)) (.int .u32 256) _ rfl rfl rfl (bin_geq_100 _ _ _ _)) (congrArg Value.bool (decide_eq_false a))) rfl ?_
   simp only [PA]
   refine wpList_nil ?_
   refine i _ _ ?_
   refine cond_false rfl ?_
   refine wp_skip ?_
   refine h _ _ ?_
   refine wp_seq_k fun P s=>?_
   refine wp_region_lit ?_
   refine PV (I 0) rfl rfl ?_
   simp only [PA]
   refine PV (.int .u32 ((x:Nat):Int)) rfl rfl ?_
   simp only [PA]
   refine PV (.int .u8 ((x:Nat):Int)) (run_cv _ rfl rfl rfl rfl (wrap_u8 (by omega))) rfl ?_
   simp only [PA]
   refine PV (.int .u8 ((Go.bitLen (x):Nat):Int)) (run_idx8 rfl ⟨_,rfl,by kernel_rfl⟩ rfl (by omega)) rfl ?_
   simp only [PA]
   refine PV (I ((Go.bitLen (x):Nat):Int)) (run_cv _ rfl rfl rfl rfl (wrap_i64 (by have:=Go.bitLen_le8 ((x)) (by omega); omega))) rfl ?_
   simp only [PA]
   refine PV (I ((0+Go.bitLen x:Nat):Int)) (CT (run_bin (I 0) (I ((Go.bitLen (x):Nat):Int)) _ rfl rfl rfl (bin_add_3 _ _ _ _)) (vint (i_add (m:=0) (n:=Go.bitLen x) (by have:=Go.bitLen_le8 (x) (by omega); omega)))) rfl ?_
   simp only [PA]
   refine PV (I ((0+Go.bitLen x:Nat):Int)) rfl rfl ?_
   simp only [PA]
   refine wpList_nil ?_
   refine s _ _ ?_
   refine wp_ret ?_
   refine bodyPost_ret (results_tmp rfl _ _ _) rfl ?_
   exact ⟨⟨_,rfl,by first | rfl | exact vnat (Nat.zero_add _)⟩,b.bl⟩
theorem lz_law {x b s : Nat} (h0 : 0 < x) (hx : x < 4294967296) (hb : Go.bitLen x = b) (hs : 32 - b = s) : b ≤ 32 ∧ s ≤ 31 ∧ 2147483648 ≤ x * 2 ^ s ∧ x * 2 ^ s < BW := by
 subst hb
 obtain ⟨h1, h2⟩ := Go.bitLen_spec x
 have h2 := h2 (by omega)
 generalize Go.bitLen x = b at *
 have hb0 : 1 ≤ b := by
  rcases Nat.eq_zero_or_pos b with h | h
  ·subst h; omega
  ·exact h
 have hb1 : b ≤ 32 := by
  rcases Nat.lt_or_ge 32 b with h | h
  ·have : 2 ^ 32 ≤ 2 ^ (b - 1) := Nat.pow_le_pow_right (by omega) (by omega)
   omega
  ·exact h
 subst hs
 refine ⟨hb1, by omega, ?_, ?_⟩
 ·have h3 : 2 ^ (b - 1) * 2 ^ (32 - b) ≤ x * 2 ^ (32 - b) := Nat.mul_le_mul_right _ h2
  rw [← Nat.pow_add, show b - 1 + (32 - b) = 31 by omega] at h3
  exact h3
 ·have h3 : x * 2 ^ (32 - b) < 2 ^ b * 2 ^ (32 - b) := Nat.mul_lt_mul_of_pos_right h1 (Nat.two_pow_pos _)
  rw [← Nat.pow_add, show b + (32 - b) = 32 by omega] at h3
  exact h3
set_option maxRecDepth 100000 in
set_option maxHeartbeats 3000000 in
theorem lz_c {x:Nat} {w:World} (a:0<x) (hx:x<BW):Calls Try.prog 123 #[.int .u32 ((x:Nat):Int)] w fun e w'=>(∃ v,e=.returned v∧∃ s:Nat,v=I ((s:Nat):Int)∧s≤31∧2147483648≤x * 2 ^ s∧x * 2 ^ s<BW)∧Below w.heap.size w w':=by
 rw [BW_eq] at hx
 go_enter Try.func123,Try.ntmps123
 have c:=St.start w
 refine wp_seq_k fun j d=>?_
 refine wp_region_lit ?_
 refine PV (I 0) rfl rfl ?_
 simp only [PA]
 refine wpList_nil ?_
 refine d _ _ ?_
 refine wp_seq_k fun k f=>?_
 refine wp_region_lit ?_
 refine PV (.int .u32 ((x:Nat):Int)) rfl rfl ?_
 simp only [PA]
 refine wpList_plain rfl fun K hK=>o_call 127 _ #[.int .u32 ((x:Nat):Int)] Try.func127 (by kernel_rfl) rfl rfl rfl c (len32_c hx) fun l m g h n=>?_
 obtain rfl:=g
 obtain ⟨b,hb⟩:∃ z:Nat,Go.bitLen x=z:=⟨_,rfl⟩
 rw [hb]
 obtain ⟨s,hs⟩:∃ z:Nat,32 - b=z:=⟨_,rfl⟩
 obtain ⟨o,i,hl,hu⟩:=lz_law a hx hb hs
 refine hK _ _ ?_
 simp only [PA]
 refine PV (I ((s:Nat):Int)) (CT (run_bin (I 32) (I ((b:Nat):Int)) _ rfl rfl rfl (bin_sub_3 _ _ _ _)) (vint (by rw [IntKind.wrap_i64]; omega))) rfl ?_
 simp only [PA]
 refine PV (I ((s:Nat):Int)) rfl rfl ?_
 simp only [PA]
 refine wpList_nil ?_
 refine f _ _ ?_
 refine wp_ret ?_
 refine bodyPost_ret (results_tmp rfl _ _ _) rfl ?_
 exact ⟨⟨_,rfl,s,rfl,i,hl,hu⟩,h.bl⟩
end Go.Proofs.Ythhgjloephkpaaa
