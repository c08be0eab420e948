/- Words and walks for the row RowRatLeast, put together: RPD, RVP, RVD. -/
import Derived.Test.YthhgjloephkpaaaLe10
import Derived.Test.YthhgjloephkpaaaLe6
import Derived.Test.YthhgjloephkpaaaLe7
namespace Go.Proofs.Ythhgjloephkpaaa
set_option linter.unusedVariables false
set_option linter.unusedSimpArgs false
open Go Go.RowKit Go.Proofs.YthhgjloephkpaaaW.PrintWords Go.Proofs.YthhgjloephkpaaaW.PrintLast
theorem top_pos {ly : List Nat} {k kk v : Nat} (hD : Dig ly) (hl : k ≤ ly.length) (hk : kk + 1 = k) (h1 : BW ^ (k - 1) * 2 ^ 31 ≤ val ly) (hv : val (ly.take k) = val ly) (h : ly.getD kk 0 = v) : 0 < v := by
 subst hk h
 rw [Nat.add_sub_cancel] at h1
 rcases Nat.eq_zero_or_pos (ly.getD kk 0) with h0 | h0
 ·have h2 := val_take_step ly kk
  have h3 := val_lt (hD.take kk)
  rw [List.length_take, Nat.min_eq_left (by omega)] at h3
  rw [hv, h0, Nat.mul_zero, Nat.add_zero] at h2
  have h4 : BW ^ kk * 1 ≤ BW ^ kk * 2 ^ 31 := Nat.mul_le_mul_left _ (by decide)
  omega
 ·exact h0
theorem pre_at {ly : List Nat} {j m k v : Nat} (h : ly.getD j 0 = v) (hj : m = j) (hk : j < k) : (ly.take k).getD m 0 = v := by
 subst hj
 rw [List.getD_eq_getElem?_getD, List.getElem?_take_of_lt hk, ← List.getD_eq_getElem?_getD]; exact h
theorem shr_two {ls cur : List Nat} {i s ui un uv : Nat} (hC : cur.length = ls.length ∧ Dig cur ∧ (∀ j, i ≤ j → cur.getD j 0 = ls.getD j 0) ∧ val (ls.take (i + 1)) / 2 ^ s = val (cur.take i) + BW ^ i * (ls.getD i 0 / 2 ^ s)) (hs : s ≤ 31) (hd : Dig ls) (hi : i < ls.length) (hui : ls.getD i 0 = ui) (hun : ls.getD (i + 1) 0 = un) (huv : ui / 2 ^ s + un * 2 ^ (32 - s) % BW = uv) :
  (cur.set i uv).length = ls.length ∧ Dig (cur.set i uv) ∧ (∀ j, i + 1 ≤ j → (cur.set i uv).getD j 0 = ls.getD j 0) ∧ val (ls.take (i + 1 + 1)) / 2 ^ s = val ((cur.set i uv).take (i + 1)) + BW ^ (i + 1) * (ls.getD (i + 1) 0 / 2 ^ s) := by
 subst hui hun huv
 obtain ⟨h1, h2⟩ := shr_step hs hd hC.2.1 (by rw [hC.1]; exact hi) hC.2.2.2
 exact ⟨by rw [List.length_set]; exact hC.1, h1, fun j hj => by rw [getD_set, if_neg (by omega)]; exact hC.2.2.1 j (by omega), h2⟩
theorem shr_last {ls cur : List Nat} {i s ui us : Nat} (hC : cur.length = ls.length ∧ Dig cur ∧ (∀ j, i ≤ j → cur.getD j 0 = ls.getD j 0) ∧ val (ls.take (i + 1)) / 2 ^ s = val (cur.take i) + BW ^ i * (ls.getD i 0 / 2 ^ s)) (hs : s ≤ 31) (hd : Dig ls) (hi : i < ls.length) (hui : ls.getD i 0 = ui) (hus : ui / 2 ^ s = us) (hz : ls.getD (i + 1) 0 = 0) :
  (cur.set i us).length = ls.length ∧ Dig (cur.set i us) ∧ (∀ j, i + 1 ≤ j → (cur.set i us).getD j 0 = ls.getD j 0) ∧ val (ls.take (i + 1 + 1)) / 2 ^ s = val ((cur.set i us).take (i + 1)) + BW ^ (i + 1) * (ls.getD (i + 1) 0 / 2 ^ s) :=
 shr_two hC hs hd hi hui hz (by rw [Nat.zero_mul, Nat.zero_mod, Nat.add_zero]; exact hus)
theorem shr_done {ls cur : List Nat} {i m s : Nat} (hC : cur.length = ls.length ∧ Dig cur ∧ (∀ j, i ≤ j → cur.getD j 0 = ls.getD j 0) ∧ val (ls.take (i + 1)) / 2 ^ s = val (cur.take i) + BW ^ i * (ls.getD i 0 / 2 ^ s)) (hi : i = m) (hz : val (ls.drop m) = 0) (hm : m ≤ ls.length) :
  cur.length = ls.length ∧ Dig cur ∧ val (cur.take m) = val ls / 2 ^ s := by
 subst hi
 refine ⟨hC.1, hC.2.1, ?_⟩
 have h1 := zero_at hz
 have h2 : val (ls.drop (i + 1)) = 0 := by
  by_cases h : i < ls.length
  ·rw [drop_cons h, val_cons] at hz
   rcases Nat.mul_eq_zero.1 (by omega : BW * val (ls.drop (i + 1)) = 0) with h3 | h3
   ·exact absurd h3 (by decide)
   ·exact h3
  ·rw [List.drop_of_length_le (by omega)]; rfl
 exact shr_end (ls := cur.take i) (n := i) (by rw [List.length_take, hC.1]; omega) h1 h2 (by rw [List.take_take, Nat.min_self]; exact hC.2.2.2)
set_option maxRecDepth 100000 in
set_option maxHeartbeats 8000000 in
theorem parts_C {ad bd:Addr} {n k c d x y kk k2 yt:Nat} {w:World} (hx:Wds w (some ad) n c (dg x)) (hy:Wds w (some bd) k d (dg y)) (hxy:¬ x<y) (hk:2≤k) (hkn:k≤n) (hnm:n≤1000000000) (hkk:kk+1=k) (bb:k2+2=k) (hxl:(dg x).length=n) (hyl:(dg y).length=k) (hyt:(dg y).getD kk 0=yt) (ai:0<yt) (hytB:yt<BW):Calls Try.prog 105 #[E (some ad) n c,E (some bd) k d] w (RetSS w (x / y) (x % y)):=by
 go_enter Try.func105,Try.ntmps105
 have aj:=St.start w
 refine wp_seq_k fun K1 al=>?_
 refine wp_region_lit ?_
 refine PV (E none 0 0) rfl rfl ?_
 simp only [PA]
 refine PV (E none 0 0) rfl rfl ?_
 simp only [PA]
 refine wpList_nil ?_
 refine al _ _ ?_
 refine wp_seq_k fun K3 am=>?_
 refine wp_seq_k fun K5 an=>?_
 refine wp_region_lit ?_
 refine PV (E (some ad) n c) rfl rfl ?_
 simp only [PA]
 refine PV (E (some bd) k d) rfl rfl ?_
 simp only [PA]
 refine wpList_plain rfl fun K hK=>o_call 110 _ #[E (some ad) n c,E (some bd) k d] Try.func110 (by kernel_rfl) rfl rfl rfl aj (order_c hx hy) fun v7 w9 h8 P bi=>?_
 subst h8
 refine hK _ _ ?_
 simp only [PA]
 refine PV (T false) (CT (run_bin (I (cmpN (x) (y))) (I 0) _ rfl rfl rfl (bin_lss_3 _ _ _ _)) (congrArg Value.bool (cmpN_nlss hxy))) rfl ?_
 simp only [PA]
 refine wpList_nil ?_
 refine an _ _ ?_
 refine cond_false rfl ?_
 refine wp_skip ?_
 refine am _ _ ?_
 refine wp_seq_k fun bj ap=>?_
 refine wp_seq_k fun bk aq=>?_
 refine wp_region_lit ?_
 refine PV (E (some bd) k d) rfl rfl ?_
 simp only [PA]
 refine PV (I (k:Int)) (run_len36 rfl rfl) rfl ?_
 simp only [PA]
 refine PV (T false) (CT (run_bin (I (k:Int)) (I 1) _ rfl rfl rfl (bin_eql_3 _ _ _ _)) (congrArg Value.bool (beq_eq_false_iff_ne.2 (by omega)))) rfl ?_
 simp only [PA]
 refine wpList_nil ?_
 refine aq _ _ ?_
 refine cond_false rfl ?_
 refine wp_skip ?_
 refine ap _ _ ?_
 refine wp_seq_k fun bm ar=>?_
 refine wp_region_lit ?_
 refine PV (E (some bd) k d) rfl rfl ?_
 simp only [PA]
 refine PV (E (some bd) k d) rfl rfl ?_
 simp only [PA]
 refine PV (I (k:Int)) (run_len36 rfl rfl) rfl ?_
 simp only [PA]
 refine PV (I ((kk:Nat):Int)) (CT (run_bin (I (k:Int)) (I 1) _ rfl rfl rfl (bin_sub_3 _ _ _ _)) (vint (by rw [IntKind.wrap_i64]; omega))) rfl ?_
 simp only [PA]
 refine PV (.pointer (some (bd.add kk))) (run_idx (t:=36) rfl rfl rfl (by omega)) rfl ?_
 simp only [PA]
 refine PV (.int .u32 ((yt:Nat):Int)) (CT (run_loadW _ rfl rfl ((hy.below P.bl).cellA (by omega)) (ag100 _)) (vnat hyt)) rfl ?_
 simp only [PA]
 refine wpList_plain rfl fun K hK=>o_call 123 _ #[.int .u32 ((yt:Nat):Int)] Try.func123 (by kernel_rfl) rfl rfl rfl P (lz_c ai hytB) fun bn bo au Q bp=>?_
 obtain ⟨s,rfl,D,hsl,hsu⟩:=au
 refine hK _ _ ?_
 simp only [PA]
 refine PV (J ((s:Nat):Int)) (run_cv _ rfl rfl rfl rfl (wrap_u64 (by omega))) rfl ?_
 simp only [PA]
 refine PV (J ((s:Nat):Int)) rfl rfl ?_
 simp only [PA]
 refine wpList_nil ?_
 refine ar _ _ ?_
 refine wp_seq_k fun bq av=>?_
 refine wp_region_lit ?_
 refine PV (E (some ad) n c) rfl rfl ?_
 simp only [PA]
 refine PV (J ((s:Nat):Int)) rfl rfl ?_
 simp only [PA]
 refine wpList_plain rfl fun K hK=>o_callS 124 _ #[E (some ad) n c,J ((s:Nat):Int)] Try.func124 (by kernel_rfl) rfl rfl rfl (shifted_b Q (hx.below Q.bl) (dg_dig _) (by omega) (by omega)) fun br bs aw=>?_
 obtain ⟨gx,lx,rfl,hlx,hDx,hvx,R⟩:=aw
 rw [val_dg] at hvx
 refine hK _ _ ?_
 simp only [PA]
 refine PV (E (some bd) k d) rfl rfl ?_
 simp only [PA]
 refine PV (J ((s:Nat):Int)) rfl rfl ?_
 simp only [PA]
 refine wpList_plain rfl fun K hK=>o_callS 124 _ #[E (some bd) k d,J ((s:Nat):Int)] Try.func124 (by kernel_rfl) rfl rfl rfl (shifted_b R (hy.below R.bl) (dg_dig _) (by omega) (by omega)) fun bt bu ax=>?_
 obtain ⟨gy,ly,rfl,hly,hDy,hvy,S⟩:=ax
 rw [val_dg] at hvy
 refine hK _ _ ?_
 simp only [PA]
 refine wpList_plain rfl fun K hK=>o_call 107 _ #[E (some ⟨gy,0,none⟩) (k+1) (k+1)] Try.func107 (by kernel_rfl) rfl rfl rfl S (trim_b (hDy) (wds_len (S.at_ _ (MI (i:=0) rfl)) (⟨hly,by omega⟩))) fun bv bw ay az bx=>?_
 obtain ⟨m0,rfl,aC,G⟩:=ay
 obtain ⟨hYl,hYk⟩:=ylen hyl (by omega) hvy (by rw [show k - 1=kk by omega,hyt]; exact hsl) (by rw [show k - 1=kk by omega,hyt]; exact hsu) D
 obtain rfl:k=m0:=by omega
 have hYt:ly.take k=dg (val ly):=trimmed hDy G (by omega)
 have hYval:val (ly.take k)=val ly:=by rw [hYt,val_dg]
 obtain ⟨M,hM⟩:∃ M,M+k=n+1:=⟨n+1 - k,by omega⟩
 refine hK _ _ ?_
 simp only [PA]
 refine PV (E (some ⟨gx,0,none⟩) (n+1) (n+1)) rfl rfl ?_
 simp only [PA]
 refine PV (E (some ⟨gy,0,none⟩) k (k+1)) rfl rfl ?_
 simp only [PA]
 refine wpList_nil ?_
 refine av _ _ ?_
 refine wp_seq_k fun bz aD=>?_
 refine wp_region_lit ?_
 refine PV (E (some ⟨gx,0,none⟩) (n+1) (n+1)) rfl rfl ?_
 simp only [PA]
 refine PV (I (((n+1):Nat):Int)) (run_len36 rfl rfl) rfl ?_
 simp only [PA]
 refine PV (E (some ⟨gy,0,none⟩) k (k+1)) rfl rfl ?_
 simp only [PA]
 refine PV (I (k:Int)) (run_len36 rfl rfl) rfl ?_
 simp only [PA]
 refine PV (I ((M:Nat):Int)) (CT (run_bin (I (((n+1):Nat):Int)) (I (k:Int)) _ rfl rfl rfl (bin_sub_3 _ _ _ _)) (vint (by rw [IntKind.wrap_i64]; omega))) rfl ?_
 simp only [PA]
 refine wpList_plain rfl fun K hK=>o_make36 (M) rfl rfl rfl (by omega) az fun o bA aF bC=>hK _ _ ?_
 simp only [PA]
 refine PV (E (some ⟨o,0,none⟩) M M) rfl rfl ?_
 simp only [PA]
 refine wpList_nil ?_
 refine aD _ _ ?_
 refine wp_seq_k fun bD aG=>?_
 refine region_drawn 16 (fun j=>decide (16≤j)) (by kernel_rfl) rfl aF fun bF v bG=>?_
 refine TK (i:=0) (E (some ⟨gy,0,none⟩) k (k+1)) rfl (by kernel_rfl) (fun _ _ _ h=>h) rfl (fun _ hS=>rfl) v.has ?_
 simp only [PA]
 refine TK (i:=1) (E (some ⟨gy,0,none⟩) k (k+1)) rfl (by kernel_rfl) (fun _ _ _ h=>h) rfl (fun _ hS=>rfl) v.has ?_
 simp only [PA]
 refine TK (i:=2) (I (k:Int)) rfl (by kernel_rfl) (fun _ _ _ h=>h) rfl (fun _ hS=>(run_len36 rfl rfl)) v.has ?_
 simp only [PA]
 refine TK (i:=3) (I ((kk:Nat):Int)) rfl (by kernel_rfl) (fun _ _ _ h=>h) rfl (fun _ hS=>(CT (run_bin (I (k:Int)) (I 1) _ rfl rfl rfl (bin_sub_3 _ _ _ _)) (vint (by rw [IntKind.wrap_i64]; omega)))) v.has ?_
 simp only [PA]
 refine TK (i:=4) (.pointer (some ⟨gy,kk,none⟩)) rfl (by kernel_rfl) (fun _ _ _ h=>h) rfl (fun _ hS=>(run_idxB rfl rfl rfl (by omega))) v.has ?_
 simp only [PA]
 obtain ⟨p,F⟩:∃ z:Nat,ly.getD kk 0=z:=⟨_,rfl⟩
 have hv1B:p<BW:=F▸hDy.at_ _
 have aH:0<p:=top_pos hDy (by omega) hkk hYl hYval F
 refine TK (i:=5) (.int .u32 ((p:Nat):Int)) rfl (by kernel_rfl) (fun _ _ _ h=>h) rfl (fun _ hS=>(CT (run_loadB rfl rfl (hS _ (MI (i:=1) rfl)) (by omega)) (vnat F))) v.has ?_
 simp only [PA]
 refine TK (i:=6) (J ((p:Nat):Int)) rfl (by kernel_rfl) (fun _ _ _ h=>h) rfl (fun _ hS=>(run_cv _ rfl rfl rfl rfl (wrap_u64 (by rw [BW_eq] at hv1B; omega)))) v.has ?_
 simp only [PA]
 refine TK (i:=8) (E (some ⟨gy,0,none⟩) k (k+1)) rfl (by kernel_rfl) (fun _ _ _ h=>h) rfl (fun _ hS=>rfl) v.has ?_
 simp only [PA]
 refine TK (i:=9) (I (k:Int)) rfl (by kernel_rfl) (fun _ _ _ h=>h) rfl (fun _ hS=>(run_len36 rfl rfl)) v.has ?_
 simp only [PA]
 refine TK (i:=14) (J ((p:Nat):Int)) rfl (by kernel_rfl) (fun _ _ _ h=>h) rfl (fun _ hS=>rfl) v.has ?_
 simp only [PA]
 refine TK (i:=7) (E (some ⟨gy,0,none⟩) k (k+1)) rfl (by kernel_rfl) (fun _ _ _ h=>h) rfl (fun _ hS=>rfl) v.has ?_
 simp only [PA]
 refine TK (i:=10) (I ((k2:Nat):Int)) rfl (by kernel_rfl) (fun _ _ _ h=>h) rfl (fun _ hS=>(CT (run_bin (I (k:Int)) (I 2) _ rfl rfl rfl (bin_sub_3 _ _ _ _)) (vint (by rw [IntKind.wrap_i64]; omega)))) v.has ?_
 simp only [PA]
 refine TK (i:=11) (.pointer (some ⟨gy,k2,none⟩)) rfl (by kernel_rfl) (fun _ _ _ h=>h) rfl (fun _ hS=>(run_idxB rfl rfl rfl (by omega))) v.has ?_
 simp only [PA]
 obtain ⟨r,H⟩:∃ z:Nat,ly.getD k2 0=z:=⟨_,rfl⟩
 have hv2B:r<BW:=H▸hDy.at_ _
 refine TK (i:=12) (.int .u32 ((r:Nat):Int)) rfl (by kernel_rfl) (fun _ _ _ h=>h) rfl (fun _ hS=>(CT (run_loadB rfl rfl (hS _ (MI (i:=1) rfl)) (by omega)) (vnat H))) v.has ?_
 simp only [PA]
 refine TK (i:=13) (J ((r:Nat):Int)) rfl (by kernel_rfl) (fun _ _ _ h=>h) rfl (fun _ hS=>(run_cv _ rfl rfl rfl rfl (wrap_u64 (by rw [BW_eq] at hv2B; omega)))) v.has ?_
 simp only [PA]
 refine TK (i:=15) (J ((r:Nat):Int)) rfl (by kernel_rfl) (fun _ _ _ h=>h) rfl (fun _ hS=>rfl) v.has ?_
 simp only [PA]
 refine anyT_done (by kernel_rfl) ?_ _
 refine aG _ _ ?_
 refine wp_seq_k fun bH aK=>?_
 refine wp_seq_k fun bK aL=>?_
 refine wp_region_lit ?_
 refine PV (E (some ⟨o,0,none⟩) M M) rfl rfl ?_
 simp only [PA]
 refine PV (I (M:Int)) (run_len36 rfl rfl) rfl ?_
 simp only [PA]
 refine PV (I (((M:Nat):Int) - 1)) (CT (run_bin (I (M:Int)) (I 1) _ rfl rfl rfl (bin_sub_3 _ _ _ _)) (vint (by rw [IntKind.wrap_i64]; omega))) rfl ?_
 simp only [PA]
 refine PV (I (((M:Nat):Int) - 1)) rfl rfl ?_
 simp only [PA]
 refine wpList_nil ?_
 refine aL _ _ ?_
 refine wp_cut (fun aa_ w'=>∃ (ls:List Nat) (outs:List Nat) (e:List Value),aa_=⟨#[E (some ad) n c,E (some bd) k d,O,O,E none 0 0,E none 0 0,O,O,O,O,J ((s:Nat):Int),E (some ⟨gx,0,none⟩) (n+1) (n+1),E (some ⟨gy,0,none⟩) k (k+1),E (some ⟨o,0,none⟩) M M,J ((p:Nat):Int),J ((r:Nat):Int),(GD e 0),O,O,E (some ad) n c,E (some bd) k d,I (cmpN (x) (y)),T false,O,E (some bd) k d,I (k:Int),T false,O,O,O,O,O,O,O,O,O,O,O,O,O,O,O,O,O,O,O,O,O,O,O,O,O,O,O,O,O,O,O,O,O,O,O,O,O,O,O,O,E (some bd) k d,E (some bd) k d,I (k:Int),I ((kk:Nat):Int),.pointer (some (bd.add kk)),.int .u32 ((yt:Nat):Int),I ((s:Nat):Int),J ((s:Nat):Int),E (some ad) n c,J ((s:Nat):Int),E (some ⟨gx,0,none⟩) (n+1) (n+1),E (some bd) k d,J ((s:Nat):Int),E (some ⟨gy,0,none⟩) (k+1) (k+1),E (some ⟨gy,0,none⟩) k (k+1),E (some ⟨gx,0,none⟩) (n+1) (n+1),I (((n+1):Nat):Int),E (some ⟨gy,0,none⟩) k (k+1),I (k:Int),I ((M:Nat):Int),E (some ⟨o,0,none⟩) M M,E (some ⟨gy,0,none⟩) k (k+1),E (some ⟨gy,0,none⟩) k (k+1),I (k:Int),I ((kk:Nat):Int),.pointer (some ⟨gy,kk,none⟩),.int .u32 ((p:Nat):Int),J ((p:Nat):Int),E (some ⟨gy,0,none⟩) k (k+1),E (some ⟨gy,0,none⟩) k (k+1),I (k:Int),I ((k2:Nat):Int),.pointer (some ⟨gy,k2,none⟩),.int .u32 ((r:Nat):Int),J ((r:Nat):Int),E (some ⟨o,0,none⟩) M M,I (M:Int),I (((M:Nat):Int) - 1),(GD e 1),(GD e 2),(GD e 3),(GD e 4),(GD e 5),(GD e 6),(GD e 7),(GD e 8),(GD e 9),(GD e 10),(GD e 11),(GD e 12),(GD e 13),(GD e 14),(GD e 15),(GD e 16),(GD e 17),(GD e 18),(GD e 19),O,O,O,O,O,O,O,O,O,O,O,O,O,O,O,O,O,O,O,O,O,O,O,O,O,O,O,O,O,O,O,O,O,O,O,O,O,O,O,O],[]⟩∧St w w' [⟨o,wc (outs),100⟩,⟨gy,wc (ly),100⟩,⟨gx,wc (ls),100⟩]∧(Long (x * 2 ^ s) (val ly) k 0 M ls outs)∧True) ?_ ?_
 ·refine wp_block ?_
  refine wp_loop_g (fun mm aa_ w'=>∃ (t:Nat) (ls:List Nat) (outs:List Nat) (f:List Value),aa_=⟨#[E (some ad) n c,E (some bd) k d,O,O,E none 0 0,E none 0 0,O,O,O,O,J ((s:Nat):Int),E (some ⟨gx,0,none⟩) (n+1) (n+1),E (some ⟨gy,0,none⟩) k (k+1),E (some ⟨o,0,none⟩) M M,J ((p:Nat):Int),J ((r:Nat):Int),I (((t:Nat):Int) - 1),O,O,E (some ad) n c,E (some bd) k d,I (cmpN (x) (y)),T false,O,E (some bd) k d,I (k:Int),T false,O,O,O,O,O,O,O,O,O,O,O,O,O,O,O,O,O,O,O,O,O,O,O,O,O,O,O,O,O,O,O,O,O,O,O,O,O,O,O,O,E (some bd) k d,E (some bd) k d,I (k:Int),I ((kk:Nat):Int),.pointer (some (bd.add kk)),.int .u32 ((yt:Nat):Int),I ((s:Nat):Int),J ((s:Nat):Int),E (some ad) n c,J ((s:Nat):Int),E (some ⟨gx,0,none⟩) (n+1) (n+1),E (some bd) k d,J ((s:Nat):Int),E (some ⟨gy,0,none⟩) (k+1) (k+1),E (some ⟨gy,0,none⟩) k (k+1),E (some ⟨gx,0,none⟩) (n+1) (n+1),I (((n+1):Nat):Int),E (some ⟨gy,0,none⟩) k (k+1),I (k:Int),I ((M:Nat):Int),E (some ⟨o,0,none⟩) M M,E (some ⟨gy,0,none⟩) k (k+1),E (some ⟨gy,0,none⟩) k (k+1),I (k:Int),I ((kk:Nat):Int),.pointer (some ⟨gy,kk,none⟩),.int .u32 ((p:Nat):Int),J ((p:Nat):Int),E (some ⟨gy,0,none⟩) k (k+1),E (some ⟨gy,0,none⟩) k (k+1),I (k:Int),I ((k2:Nat):Int),.pointer (some ⟨gy,k2,none⟩),.int .u32 ((r:Nat):Int),J ((r:Nat):Int),E (some ⟨o,0,none⟩) M M,I (M:Int),I (((M:Nat):Int) - 1),(GD f 0),(GD f 1),(GD f 2),(GD f 3),(GD f 4),(GD f 5),(GD f 6),(GD f 7),(GD f 8),(GD f 9),(GD f 10),(GD f 11),(GD f 12),(GD f 13),(GD f 14),(GD f 15),(GD f 16),(GD f 17),(GD f 18),O,O,O,O,O,O,O,O,O,O,O,O,O,O,O,O,O,O,O,O,O,O,O,O,O,O,O,O,O,O,O,O,O,O,O,O,O,O,O,O],[]⟩∧St w w' [⟨o,wc (outs),100⟩,⟨gy,wc (ly),100⟩,⟨gx,wc (ls),100⟩]∧(Long (x * 2 ^ s) (val ly) k t M ls outs)∧t=mm) (M) ⟨M,lx,List.replicate M 0,[O,O,O,O,O,O,O,O,O,O,O,O,O,O,O,O,O,O,O],rfl,v,Long.start (A:=x) (s:=s) (n:=n) (B:=0) (by omega) hDx hvx rfl (by rw [← hxl]; exact dg_lt x) (by omega) (by omega) (by omega) (by omega) hYl,rfl⟩ ?_
  rintro _ _ bL ⟨t,ls,outs,f,rfl,V,hL,rfl⟩
  refine wp_seq_k fun bM aM=>?_
  refine wp_seq_k fun bN W=>?_
  refine wp_region_lit ?_
  refine PV (I (((t:Nat):Int) - 1)) rfl rfl ?_
  simp only [PA]
  by_cases hge:(0:Int)≤(((t:Nat):Int) - 1)
  ·skip
   refine PV (T true) (CT (run_bin (I (((t:Nat):Int) - 1)) (I 0) _ rfl rfl rfl (bin_geq_3 _ _ _ _)) (congrArg Value.bool (decide_eq_true hge))) rfl ?_
   simp only [PA]
   refine wpList_nil ?_
   refine W _ _ ?_
   refine cond_true rfl ?_
   refine wp_skip ?_
   refine aM _ _ ?_
   refine wp_seq_k fun bP aN=>?_
   refine wp_block ?_
   refine wp_region_lit ?_
   refine PV (E (some ⟨o,0,none⟩) M M) rfl rfl ?_
   simp only [PA]
   obtain ⟨l,aP⟩:∃ z,t=z+1:=⟨t - 1,by omega⟩
   have htM:=hL.tM
   refine PV (I ((l:Nat):Int)) (CT rfl (vint (by omega))) rfl ?_
   simp only [PA]
   refine PV (E (some ⟨gx,0,none⟩) (n+1) (n+1)) rfl rfl ?_
   simp only [PA]
   refine PV (I ((l:Nat):Int)) (CT rfl (vint (by omega))) rfl ?_
   simp only [PA]
   refine PV (I ((l:Nat):Int)) (CT rfl (vint (by omega))) rfl ?_
   simp only [PA]
   refine PV (E (some ⟨gy,0,none⟩) k (k+1)) rfl rfl ?_
   simp only [PA]
   refine PV (I (k:Int)) (run_len36 rfl rfl) rfl ?_
   simp only [PA]
   refine PV (I ((l+k:Nat):Int)) (CT (run_bin (I ((l:Nat):Int)) (I (k:Int)) _ rfl rfl rfl (bin_add_3 _ _ _ _)) (vint (i_add (m:=l) (n:=k) (by omega)))) rfl ?_
   simp only [PA]
   refine PV (I ((l+k+1:Nat):Int)) (CT (run_bin (I ((l+k:Nat):Int)) (I 1) _ rfl rfl rfl (bin_add_3 _ _ _ _)) (vint (i_add (m:=l+k) (n:=1) (by omega)))) rfl ?_
   simp only [PA]
   refine PV (E (some ⟨gx,l,none⟩) (k+1) ((n+1) - l)) (run_slcW _ _ _ _ _ _ gx (l) (k) ((n+1)) rfl rfl rfl rfl (by omega) (by omega)) rfl ?_
   simp only [PA]
   refine PV (E (some ⟨gy,0,none⟩) k (k+1)) rfl rfl ?_
   simp only [PA]
   refine PV (J ((p:Nat):Int)) rfl rfl ?_
   simp only [PA]
   refine PV (J ((r:Nat):Int)) rfl rfl ?_
   simp only [PA]
   refine wpList_plain rfl fun K hK=>o_callS 125 _ #[E (some ⟨gx,l,none⟩) (k+1) ((n+1) - l),E (some ⟨gy,0,none⟩) k (k+1),J ((p:Nat):Int),J ((r:Nat):Int)] Try.func125 (by kernel_rfl) rfl rfl rfl (word_long (V.perm (perm_out _ _ _)) (fun w' cs hs'=>wds_pre (hs'.at_ _ (MI (i:=2) rfl)) (by omega) (by omega) (by omega)) (by omega) (by omega) (hDy.take k) (by rw [List.length_take]; omega) (pre_at F (by omega) (by omega)) (pre_at H (by omega) (by omega)) aH (by rw [hYval,← aP]; exact hL)) fun bQ bR aQ=>?_
   obtain ⟨q,rs,rfl,hqB,X,L⟩:=aQ
   have L:=L.perm (perm_in _ _ _)
   rw [hYval] at X
   refine hK _ _ ?_
   simp only [PA]
   refine PV (.pointer (some ⟨o,l,none⟩)) (run_idxB rfl rfl rfl (by omega)) rfl ?_
   simp only [PA]
   refine wpList_plain rfl fun K hK=>o_stB 0 (q) ([⟨o,wc (((outs).set (l) (q))),100⟩,⟨gy,wc (ly),100⟩,⟨gx,wc (rs),100⟩]) rfl rfl rfl L rfl (by rw [hL.olen]; omega) rfl fun bS aR=>hK _ _ ?_
   simp only [PA]
   refine wpList_nil ?_
   refine aN _ _ ?_
   refine wp_region_lit ?_
   refine PV (I ((l:Nat):Int)) (CT rfl (vint (by omega))) rfl ?_
   simp only [PA]
   refine PV (I (((l:Nat):Int) - 1)) (CT (run_bin (I ((l:Nat):Int)) (I 1) _ rfl rfl rfl (bin_sub_3 _ _ _ _)) (vint (by rw [IntKind.wrap_i64]; omega))) rfl ?_
   simp only [PA]
   refine PV (I (((l:Nat):Int) - 1)) rfl rfl ?_
   simp only [PA]
   refine wpList_nil ?_
   exact ⟨l,by omega,l,rs,((outs).set (l) (q)),[I (((t:Nat):Int) - 1),T true,I ((l:Nat):Int),I (((l:Nat):Int) - 1),E (some ⟨o,0,none⟩) M M,I ((l:Nat):Int),E (some ⟨gx,0,none⟩) (n+1) (n+1),I ((l:Nat):Int),I ((l:Nat):Int),E (some ⟨gy,0,none⟩) k (k+1),I (k:Int),I ((l+k:Nat):Int),I ((l+k+1:Nat):Int),E (some ⟨gx,l,none⟩) (k+1) ((n+1) - l),E (some ⟨gy,0,none⟩) k (k+1),J ((p:Nat):Int),J ((r:Nat):Int),.int .u32 ((q:Nat):Int),.pointer (some ⟨o,l,none⟩)],rfl,aR,X,rfl⟩
  ·skip
   refine PV (T false) (CT (run_bin (I (((t:Nat):Int) - 1)) (I 0) _ rfl rfl rfl (bin_geq_3 _ _ _ _)) (congrArg Value.bool (decide_eq_false hge))) rfl ?_
   simp only [PA]
   refine wpList_nil ?_
   refine W _ _ ?_
   refine cond_false rfl ?_
   refine wp_exit ?_
   exact ⟨ls,outs,[I (((t:Nat):Int) - 1),I (((t:Nat):Int) - 1),T false,(GD f 2),(GD f 3),(GD f 4),(GD f 5),(GD f 6),(GD f 7),(GD f 8),(GD f 9),(GD f 10),(GD f 11),(GD f 12),(GD f 13),(GD f 14),(GD f 15),(GD f 16),(GD f 17),(GD f 18)],rfl,V,(show t=0 by omega)▸hL,trivial⟩
 ·skip
  rintro _ bU ⟨ls,outs,e,rfl,Y,hL,-⟩
  have hlenS:ls.length=n+1:=by have:=hL.len; omega
  refine aK _ _ ?_
  refine wp_seq_k fun bV aS=>?_
  refine wp_region_lit ?_
  refine PV (E (some ⟨gx,0,none⟩) (n+1) (n+1)) rfl rfl ?_
  simp only [PA]
  refine wpList_plain rfl fun K hK=>o_call 107 _ #[E (some ⟨gx,0,none⟩) (n+1) (n+1)] Try.func107 (by kernel_rfl) rfl rfl rfl Y (trim_b (hL.dig) (wds_len (Y.at_ _ (MI (i:=2) rfl)) (⟨hlenS,by omega⟩))) fun bW bX aU aV bY=>?_
  obtain ⟨m,rfl,aC,G⟩:=aU
  have hmt:m≤ls.length:=by omega
  have hz:=trimmed_zero hL.dig G hmt
  refine hK _ _ ?_
  simp only [PA]
  refine PV (E (some ⟨gx,0,none⟩) m (n+1)) rfl rfl ?_
  simp only [PA]
  refine wpList_nil ?_
  refine aS _ _ ?_
  refine wp_seq_k fun bB aW=>?_
  refine wp_seq_k fun bE aX=>?_
  refine wp_region_lit ?_
  refine PV (I 0) rfl rfl ?_
  simp only [PA]
  refine wpList_nil ?_
  refine aX _ _ ?_
  refine wp_cut (fun aa_ w'=>∃ (cur:List Nat) (g:List Value),aa_=⟨#[E (some ad) n c,E (some bd) k d,O,O,E none 0 0,E none 0 0,O,O,O,O,J ((s:Nat):Int),E (some ⟨gx,0,none⟩) (n+1) (n+1),E (some ⟨gy,0,none⟩) k (k+1),E (some ⟨o,0,none⟩) M M,J ((p:Nat):Int),J ((r:Nat):Int),(GD e 0),E (some ⟨gx,0,none⟩) m (n+1),(GD g 0),E (some ad) n c,E (some bd) k d,I (cmpN (x) (y)),T false,O,E (some bd) k d,I (k:Int),T false,O,O,O,O,O,O,O,O,O,O,O,O,O,O,O,O,O,O,O,O,O,O,O,O,O,O,O,O,O,O,O,O,O,O,O,O,O,O,O,O,E (some bd) k d,E (some bd) k d,I (k:Int),I ((kk:Nat):Int),.pointer (some (bd.add kk)),.int .u32 ((yt:Nat):Int),I ((s:Nat):Int),J ((s:Nat):Int),E (some ad) n c,J ((s:Nat):Int),E (some ⟨gx,0,none⟩) (n+1) (n+1),E (some bd) k d,J ((s:Nat):Int),E (some ⟨gy,0,none⟩) (k+1) (k+1),E (some ⟨gy,0,none⟩) k (k+1),E (some ⟨gx,0,none⟩) (n+1) (n+1),I (((n+1):Nat):Int),E (some ⟨gy,0,none⟩) k (k+1),I (k:Int),I ((M:Nat):Int),E (some ⟨o,0,none⟩) M M,E (some ⟨gy,0,none⟩) k (k+1),E (some ⟨gy,0,none⟩) k (k+1),I (k:Int),I ((kk:Nat):Int),.pointer (some ⟨gy,kk,none⟩),.int .u32 ((p:Nat):Int),J ((p:Nat):Int),E (some ⟨gy,0,none⟩) k (k+1),E (some ⟨gy,0,none⟩) k (k+1),I (k:Int),I ((k2:Nat):Int),.pointer (some ⟨gy,k2,none⟩),.int .u32 ((r:Nat):Int),J ((r:Nat):Int),E (some ⟨o,0,none⟩) M M,I (M:Int),I (((M:Nat):Int) - 1),(GD e 1),(GD e 2),(GD e 3),(GD e 4),(GD e 5),(GD e 6),(GD e 7),(GD e 8),(GD e 9),(GD e 10),(GD e 11),(GD e 12),(GD e 13),(GD e 14),(GD e 15),(GD e 16),(GD e 17),(GD e 18),(GD e 19),E (some ⟨gx,0,none⟩) (n+1) (n+1),E (some ⟨gx,0,none⟩) m (n+1),(GD g 1),(GD g 2),(GD g 3),(GD g 4),(GD g 5),(GD g 6),(GD g 7),(GD g 8),(GD g 9),(GD g 10),(GD g 11),(GD g 12),(GD g 13),(GD g 14),(GD g 15),(GD g 16),(GD g 17),(GD g 18),(GD g 19),(GD g 20),(GD g 21),(GD g 22),(GD g 23),(GD g 24),(GD g 25),(GD g 26),(GD g 27),(GD g 28),(GD g 29),(GD g 30),(GD g 31),(GD g 32),(GD g 33),(GD g 34),O,O,O,O],[]⟩∧St w w' [⟨o,wc (outs),100⟩,⟨gy,wc (ly),100⟩,⟨gx,wc (cur),100⟩]∧(cur.length=ls.length∧Dig cur∧val (cur.take m)=val ls / 2 ^ s)∧True) ?_ ?_
  ·refine wp_block ?_
   refine wp_loop_g (fun mm aa_ w'=>∃ (i:Nat) (cur:List Nat) (b:List Value),aa_=⟨#[E (some ad) n c,E (some bd) k d,O,O,E none 0 0,E none 0 0,O,O,O,O,J ((s:Nat):Int),E (some ⟨gx,0,none⟩) (n+1) (n+1),E (some ⟨gy,0,none⟩) k (k+1),E (some ⟨o,0,none⟩) M M,J ((p:Nat):Int),J ((r:Nat):Int),(GD e 0),E (some ⟨gx,0,none⟩) m (n+1),I ((i:Nat):Int),E (some ad) n c,E (some bd) k d,I (cmpN (x) (y)),T false,O,E (some bd) k d,I (k:Int),T false,O,O,O,O,O,O,O,O,O,O,O,O,O,O,O,O,O,O,O,O,O,O,O,O,O,O,O,O,O,O,O,O,O,O,O,O,O,O,O,O,E (some bd) k d,E (some bd) k d,I (k:Int),I ((kk:Nat):Int),.pointer (some (bd.add kk)),.int .u32 ((yt:Nat):Int),I ((s:Nat):Int),J ((s:Nat):Int),E (some ad) n c,J ((s:Nat):Int),E (some ⟨gx,0,none⟩) (n+1) (n+1),E (some bd) k d,J ((s:Nat):Int),E (some ⟨gy,0,none⟩) (k+1) (k+1),E (some ⟨gy,0,none⟩) k (k+1),E (some ⟨gx,0,none⟩) (n+1) (n+1),I (((n+1):Nat):Int),E (some ⟨gy,0,none⟩) k (k+1),I (k:Int),I ((M:Nat):Int),E (some ⟨o,0,none⟩) M M,E (some ⟨gy,0,none⟩) k (k+1),E (some ⟨gy,0,none⟩) k (k+1),I (k:Int),I ((kk:Nat):Int),.pointer (some ⟨gy,kk,none⟩),.int .u32 ((p:Nat):Int),J ((p:Nat):Int),E (some ⟨gy,0,none⟩) k (k+1),E (some ⟨gy,0,none⟩) k (k+1),I (k:Int),I ((k2:Nat):Int),.pointer (some ⟨gy,k2,none⟩),.int .u32 ((r:Nat):Int),J ((r:Nat):Int),E (some ⟨o,0,none⟩) M M,I (M:Int),I (((M:Nat):Int) - 1),(GD e 1),(GD e 2),(GD e 3),(GD e 4),(GD e 5),(GD e 6),(GD e 7),(GD e 8),(GD e 9),(GD e 10),(GD e 11),(GD e 12),(GD e 13),(GD e 14),(GD e 15),(GD e 16),(GD e 17),(GD e 18),(GD e 19),E (some ⟨gx,0,none⟩) (n+1) (n+1),E (some ⟨gx,0,none⟩) m (n+1),(GD b 0),(GD b 1),(GD b 2),(GD b 3),(GD b 4),(GD b 5),(GD b 6),(GD b 7),(GD b 8),(GD b 9),(GD b 10),(GD b 11),(GD b 12),(GD b 13),(GD b 14),(GD b 15),(GD b 16),(GD b 17),(GD b 18),(GD b 19),(GD b 20),(GD b 21),(GD b 22),(GD b 23),(GD b 24),(GD b 25),(GD b 26),(GD b 27),(GD b 28),(GD b 29),(GD b 30),(GD b 31),(GD b 32),(GD b 33),O,O,O,O],[]⟩∧St w w' [⟨o,wc (outs),100⟩,⟨gy,wc (ly),100⟩,⟨gx,wc (cur),100⟩]∧(i≤m)∧((cur).length=ls.length∧Dig (cur)∧(∀ j,i≤j→(cur).getD j 0=ls.getD j 0)∧val (ls.take (i+1)) / 2 ^ s=val ((cur).take (i))+BW ^ (i) * (ls.getD (i) 0 / 2 ^ s))∧m - i=mm) (m) ⟨0,ls,[O,O,O,O,O,O,O,O,O,O,O,O,O,O,O,O,O,O,O,O,O,O,O,O,O,O,O,O,O,O,O,O,O,O],rfl,aV,by omega,⟨rfl,hL.dig,fun _ _=>rfl,shr_start ls s⟩,rfl⟩ ?_
   rintro _ _ bI ⟨i,cur,b,rfl,N,him,hC,rfl⟩
   refine wp_seq_k fun bT aY=>?_
   refine wp_seq_k fun bO aa=>?_
   refine wp_region_lit ?_
   refine PV (I ((i:Nat):Int)) rfl rfl ?_
   simp only [PA]
   refine PV (E (some ⟨gx,0,none⟩) m (n+1)) rfl rfl ?_
   simp only [PA]
   refine PV (I (m:Int)) (run_len36 rfl rfl) rfl ?_
   simp only [PA]
   by_cases hil:(((i:Nat):Int):Int)<(m:Int)
   ·skip
    refine PV (T true) (CT (run_bin (I ((i:Nat):Int)) (I (m:Int)) _ rfl rfl rfl (bin_lss_3 _ _ _ _)) (congrArg Value.bool (decide_eq_true hil))) rfl ?_
    simp only [PA]
    refine wpList_nil ?_
    refine aa _ _ ?_
    refine cond_true rfl ?_
    refine wp_skip ?_
    refine aY _ _ ?_
    refine wp_seq_k fun bJ ab=>?_
    refine wp_block ?_
    refine wp_seq_k fun bZ aB=>?_
    refine wp_region_lit ?_
    refine PV (E (some ⟨gx,0,none⟩) m (n+1)) rfl rfl ?_
    simp only [PA]
    refine PV (I ((i:Nat):Int)) rfl rfl ?_
    simp only [PA]
    refine PV (.pointer (some ⟨gx,i,none⟩)) (run_idxB rfl rfl rfl (by omega)) rfl ?_
    simp only [PA]
    obtain ⟨ui,hui⟩:∃ z:Nat,ls.getD i 0=z:=⟨_,rfl⟩
    have huiB:ui<BW:=hui▸hL.dig.at_ i
    refine PV (.int .u32 ((ui:Nat):Int)) (CT (run_loadB rfl rfl (N.at_ _ (MI (i:=2) rfl)) (by omega)) (vnat ((hC.2.2.1 i (Nat.le_refl _)).trans hui))) rfl ?_
    simp only [PA]
    refine PV (J ((s:Nat):Int)) rfl rfl ?_
    simp only [PA]
    obtain ⟨us,hus⟩:∃ z:Nat,ui / 2 ^ s=z:=⟨_,rfl⟩
    refine PV (.int .u32 ((us:Nat):Int)) (CT (run_bin (.int .u32 ((ui:Nat):Int)) (J ((s:Nat):Int)) _ rfl rfl rfl (bin_shr_100_u64 _ _ _ _)) ((vint (w_shr_s D)).trans (vnat hus))) rfl ?_
    simp only [PA]
    refine PV (.pointer (some ⟨gx,i,none⟩)) (run_idxB rfl rfl rfl (by omega)) rfl ?_
    simp only [PA]
    refine wpList_plain rfl fun K hK=>o_stB 2 (us) ([⟨o,wc (outs),100⟩,⟨gy,wc (ly),100⟩,⟨gx,wc (((cur).set (i) (us))),100⟩]) rfl rfl rfl N rfl (by omega) rfl fun b0 ac=>hK _ _ ?_
    simp only [PA]
    refine wpList_nil ?_
    refine aB _ _ ?_
    refine wp_seq_k fun b1 ae=>?_
    refine wp_region_lit ?_
    refine PV (I ((i:Nat):Int)) rfl rfl ?_
    simp only [PA]
    refine PV (I ((i+1:Nat):Int)) (CT (run_bin (I ((i:Nat):Int)) (I 1) _ rfl rfl rfl (bin_add_3 _ _ _ _)) (vint (i_add (m:=i) (n:=1) (by omega)))) rfl ?_
    simp only [PA]
    refine PV (E (some ⟨gx,0,none⟩) m (n+1)) rfl rfl ?_
    simp only [PA]
    refine PV (I (m:Int)) (run_len36 rfl rfl) rfl ?_
    simp only [PA]
    by_cases af:(((i+1:Nat):Int):Int)<(m:Int)
    ·skip
     refine PV (T true) (CT (run_bin (I ((i+1:Nat):Int)) (I (m:Int)) _ rfl rfl rfl (bin_lss_3 _ _ _ _)) (congrArg Value.bool (decide_eq_true af))) rfl ?_
     simp only [PA]
     refine wpList_nil ?_
     refine ae _ _ ?_
     refine cond_true rfl ?_
     refine region_drawn 17 (fun j=>decide (16≤j)) (by kernel_rfl) rfl ac fun b2 C b3=>?_
     refine TK (i:=0) (E (some ⟨gx,0,none⟩) m (n+1)) rfl (by kernel_rfl) (fun _ _ _ h=>h) rfl (fun _ hS=>rfl) C.has ?_
     simp only [PA]
     refine TK (i:=1) (I ((i:Nat):Int)) rfl (by kernel_rfl) (fun _ _ _ h=>h) rfl (fun _ hS=>rfl) C.has ?_
     simp only [PA]
     refine TK (i:=2) (.pointer (some ⟨gx,i,none⟩)) rfl (by kernel_rfl) (fun _ _ _ h=>h) rfl (fun _ hS=>(run_idxB rfl rfl rfl (by omega))) C.has ?_
     simp only [PA]
     refine TK (i:=3) (.int .u32 ((us:Nat):Int)) rfl (by kernel_rfl) (fun _ _ _ h=>h) rfl (fun _ hS=>(CT (run_loadB rfl rfl (hS _ (MI (i:=2) rfl)) (by simp only [List.length_set]; omega)) (vnat (shl_set (by omega))))) C.has ?_
     simp only [PA]
     refine TK (i:=4) (E (some ⟨gx,0,none⟩) m (n+1)) rfl (by kernel_rfl) (fun _ _ _ h=>h) rfl (fun _ hS=>rfl) C.has ?_
     simp only [PA]
     refine TK (i:=5) (I ((i:Nat):Int)) rfl (by kernel_rfl) (fun _ _ _ h=>h) rfl (fun _ hS=>rfl) C.has ?_
     simp only [PA]
     refine TK (i:=6) (I ((i+1:Nat):Int)) rfl (by kernel_rfl) (fun _ _ _ h=>h) rfl (fun _ hS=>(CT (run_bin (I ((i:Nat):Int)) (I 1) _ rfl rfl rfl (bin_add_3 _ _ _ _)) (vint (i_add (m:=i) (n:=1) (by omega))))) C.has ?_
     simp only [PA]
     refine TK (i:=7) (.pointer (some ⟨gx,i+1,none⟩)) rfl (by kernel_rfl) (fun _ _ _ h=>h) rfl (fun _ hS=>(run_idxB rfl rfl rfl (by omega))) C.has ?_
     simp only [PA]
     obtain ⟨un,hun⟩:∃ z:Nat,ls.getD (i+1) 0=z:=⟨_,rfl⟩
     have hunB:un<BW:=hun▸hL.dig.at_ _
     refine TK (i:=8) (.int .u32 ((un:Nat):Int)) rfl (by kernel_rfl) (fun _ _ _ h=>h) rfl (fun _ hS=>(CT (run_loadB rfl rfl (hS _ (MI (i:=2) rfl)) (by simp only [List.length_set]; omega)) (vnat ((show (cur.set i us).getD (i+1) 0=ls.getD (i+1) 0 from by rw [getD_set,if_neg (by omega)]; exact hC.2.2.1 (i+1) (by omega)).trans hun)))) C.has ?_
     simp only [PA]
     refine TK (i:=9) (J ((un:Nat):Int)) rfl (by kernel_rfl) (fun _ _ _ h=>h) rfl (fun _ hS=>(run_cv _ rfl rfl rfl rfl (wrap_u64 (by rw [BW_eq] at hunB; omega)))) C.has ?_
     simp only [PA]
     refine TK (i:=10) (J ((s:Nat):Int)) rfl (by kernel_rfl) (fun _ _ _ h=>h) rfl (fun _ hS=>rfl) C.has ?_
     simp only [PA]
     refine TK (i:=11) (J ((32 - s:Nat):Int)) rfl (by kernel_rfl) (fun _ _ _ h=>h) rfl (fun _ hS=>(CT (run_bin (J 32) (J ((s:Nat):Int)) _ rfl rfl rfl (bin_sub_106 _ _ _ _)) (vint (w_sub (m:=32) (n:=s) (by omega) (by omega))))) C.has ?_
     simp only [PA]
     obtain ⟨ul,hul⟩:∃ z:Nat,un * 2 ^ (32 - s)=z:=⟨_,rfl⟩
     refine TK (i:=12) (J ((ul:Nat):Int)) rfl (by kernel_rfl) (fun _ _ _ h=>h) rfl (fun _ hS=>(CT (run_bin (J ((un:Nat):Int)) (J ((32 - s:Nat):Int)) _ rfl rfl rfl (bin_shl_104_u64 _ _ _ _)) ((vint (w_shl_s (a:=un) (s:=32 - s) hunB (by omega))).trans (vnat hul)))) C.has ?_
     simp only [PA]
     refine TK (i:=13) (.int .u32 ((((ul) % BW):Nat):Int)) rfl (by kernel_rfl) (fun _ _ _ h=>h) rfl (fun _ hS=>(run_cv _ rfl rfl rfl rfl (wrap_u32))) C.has ?_
     simp only [PA]
     obtain ⟨uv,huv⟩:∃ z:Nat,ui / 2 ^ s+un * 2 ^ (32 - s) % BW=z:=⟨_,rfl⟩
     refine TK (i:=14) (.int .u32 ((uv:Nat):Int)) rfl (by kernel_rfl) (fun _ _ _ h=>h) rfl (fun _ hS=>(CT (run_bin (.int .u32 ((us:Nat):Int)) (.int .u32 ((((ul) % BW):Nat):Int)) _ rfl rfl rfl (bin_or_100 _ _ _ _)) ((vint (hus▸hul▸w_or32 D huiB)).trans (vnat huv)))) C.has ?_
     simp only [PA]
     refine TK (i:=15) (.pointer (some ⟨gx,i,none⟩)) rfl (by kernel_rfl) (fun _ _ _ h=>h) rfl (fun _ hS=>(run_idxB rfl rfl rfl (by omega))) C.has ?_
     simp only [PA]
     refine anyT_one (i:=16) rfl (by kernel_rfl) rfl fun K hK=>o_stB 2 (uv) ([⟨o,wc (outs),100⟩,⟨gy,wc (ly),100⟩,⟨gx,wc (((((cur).set (i) (us))).set (i) (uv))),100⟩]) rfl rfl rfl C rfl (by simp only [List.length_set]; omega) rfl fun b4 aE=>hK _ _ (fun h=>absurd h (by decide)) ?_
     simp only [PA]
     refine anyT_done (by kernel_rfl) ?_ _
     refine ab _ _ ?_
     refine wp_region_lit ?_
     refine PV (I ((i:Nat):Int)) rfl rfl ?_
     simp only [PA]
     refine PV (I ((i+1:Nat):Int)) (CT (run_bin (I ((i:Nat):Int)) (I 1) _ rfl rfl rfl (bin_add_3 _ _ _ _)) (vint (i_add (m:=i) (n:=1) (by omega)))) rfl ?_
     simp only [PA]
     refine PV (I ((i+1:Nat):Int)) rfl rfl ?_
     simp only [PA]
     refine wpList_nil ?_
     exact ⟨m - (i+1),by omega,i+1,((((cur).set (i) (us))).set (i) (uv)),[I ((i:Nat):Int),E (some ⟨gx,0,none⟩) m (n+1),I (m:Int),T true,I ((i:Nat):Int),I ((i+1:Nat):Int),E (some ⟨gx,0,none⟩) m (n+1),I ((i:Nat):Int),.pointer (some ⟨gx,i,none⟩),.int .u32 ((ui:Nat):Int),J ((s:Nat):Int),.int .u32 ((us:Nat):Int),.pointer (some ⟨gx,i,none⟩),I ((i:Nat):Int),I ((i+1:Nat):Int),E (some ⟨gx,0,none⟩) m (n+1),I (m:Int),T true,E (some ⟨gx,0,none⟩) m (n+1),I ((i:Nat):Int),.pointer (some ⟨gx,i,none⟩),.int .u32 ((us:Nat):Int),E (some ⟨gx,0,none⟩) m (n+1),I ((i:Nat):Int),I ((i+1:Nat):Int),.pointer (some ⟨gx,i+1,none⟩),.int .u32 ((un:Nat):Int),J ((un:Nat):Int),J ((s:Nat):Int),J ((32 - s:Nat):Int),J ((ul:Nat):Int),.int .u32 ((((ul) % BW):Nat):Int),.int .u32 ((uv:Nat):Int),.pointer (some ⟨gx,i,none⟩)],rfl,aE,by omega,by rw [List.set_set]; exact shr_two hC D hL.dig (by omega) hui hun huv,rfl⟩
    ·skip
     refine PV (T false) (CT (run_bin (I ((i+1:Nat):Int)) (I (m:Int)) _ rfl rfl rfl (bin_lss_3 _ _ _ _)) (congrArg Value.bool (decide_eq_false af))) rfl ?_
     simp only [PA]
     refine wpList_nil ?_
     refine ae _ _ ?_
     refine cond_false rfl ?_
     refine wp_skip ?_
     refine ab _ _ ?_
     refine wp_region_lit ?_
     refine PV (I ((i:Nat):Int)) rfl rfl ?_
     simp only [PA]
     refine PV (I ((i+1:Nat):Int)) (CT (run_bin (I ((i:Nat):Int)) (I 1) _ rfl rfl rfl (bin_add_3 _ _ _ _)) (vint (i_add (m:=i) (n:=1) (by omega)))) rfl ?_
     simp only [PA]
     refine PV (I ((i+1:Nat):Int)) rfl rfl ?_
     simp only [PA]
     refine wpList_nil ?_
     exact ⟨m - (i+1),by omega,i+1,((cur).set (i) (us)),[I ((i:Nat):Int),E (some ⟨gx,0,none⟩) m (n+1),I (m:Int),T true,I ((i:Nat):Int),I ((i+1:Nat):Int),E (some ⟨gx,0,none⟩) m (n+1),I ((i:Nat):Int),.pointer (some ⟨gx,i,none⟩),.int .u32 ((ui:Nat):Int),J ((s:Nat):Int),.int .u32 ((us:Nat):Int),.pointer (some ⟨gx,i,none⟩),I ((i:Nat):Int),I ((i+1:Nat):Int),E (some ⟨gx,0,none⟩) m (n+1),I (m:Int),T false,(GD b 18),(GD b 19),(GD b 20),(GD b 21),(GD b 22),(GD b 23),(GD b 24),(GD b 25),(GD b 26),(GD b 27),(GD b 28),(GD b 29),(GD b 30),(GD b 31),(GD b 32),(GD b 33)],rfl,ac,by omega,shr_last hC D hL.dig (by omega) hui hus (zero_at (show val (ls.drop (i+1))=0 by rw [show i+1=m by omega]; exact hz)),rfl⟩
   ·skip
    refine PV (T false) (CT (run_bin (I ((i:Nat):Int)) (I (m:Int)) _ rfl rfl rfl (bin_lss_3 _ _ _ _)) (congrArg Value.bool (decide_eq_false hil))) rfl ?_
    simp only [PA]
    refine wpList_nil ?_
    refine aa _ _ ?_
    refine cond_false rfl ?_
    refine wp_exit ?_
    exact ⟨cur,[I ((i:Nat):Int),I ((i:Nat):Int),E (some ⟨gx,0,none⟩) m (n+1),I (m:Int),T false,(GD b 4),(GD b 5),(GD b 6),(GD b 7),(GD b 8),(GD b 9),(GD b 10),(GD b 11),(GD b 12),(GD b 13),(GD b 14),(GD b 15),(GD b 16),(GD b 17),(GD b 18),(GD b 19),(GD b 20),(GD b 21),(GD b 22),(GD b 23),(GD b 24),(GD b 25),(GD b 26),(GD b 27),(GD b 28),(GD b 29),(GD b 30),(GD b 31),(GD b 32),(GD b 33)],rfl,N,shr_done hC (by omega) hz hmt,trivial⟩
  ·skip
   rintro _ b5 ⟨cur,g,rfl,ag,hC,-⟩
   refine aW _ _ ?_
   refine wp_seq_k fun b6 aI=>?_
   refine wp_region_lit ?_
   refine PV (E (some ⟨o,0,none⟩) M M) rfl rfl ?_
   simp only [PA]
   refine wpList_plain rfl fun K hK=>o_call 107 _ #[E (some ⟨o,0,none⟩) M M] Try.func107 (by kernel_rfl) rfl rfl rfl ag (trim_c (hL.odig) (wds_len (ag.at_ _ (MI (i:=0) rfl)) ⟨hL.olen,by omega⟩)) fun b7 b8 aT ah b9=>?_
   obtain ⟨aO,aJ,aZ,rfl,a0⟩:=aT
   refine hK _ _ ?_
   simp only [PA]
   refine PV (E (some ⟨gx,0,none⟩) m (n+1)) rfl rfl ?_
   simp only [PA]
   refine wpList_plain rfl fun K hK=>o_call 107 _ #[E (some ⟨gx,0,none⟩) m (n+1)] Try.func107 (by kernel_rfl) rfl rfl rfl ah (trim_c (hC.2.1.take m) (wds_pre (ah.at_ _ (MI (i:=2) rfl)) (by omega) (by omega) (by omega))) fun ca cb a1 a2 a3=>?_
   obtain ⟨a4,a5,a6,rfl,a7⟩:=a1
   refine hK _ _ ?_
   simp only [PA]
   refine PV (E aO aJ aZ) rfl rfl ?_
   simp only [PA]
   refine PV (E a4 a5 a6) rfl rfl ?_
   simp only [PA]
   refine wpList_nil ?_
   refine aI _ _ ?_
   refine wp_ret ?_
   repeat (with_reducible first | refine then_ret ?_ | refine inBlock_ret ?_)
   refine bodyPost_ret (results_tmp2 rfl _ _ _) rfl ?_
   have hd:=hL.done
   rw [hvy] at hd
   obtain ⟨e1,e2⟩:=long_quo hd
   have e3:=hC.2.2.trans e2
   exact ⟨⟨_,rfl,_,_,rfl,⟨_,_,_,rfl,e1▸(a0.u a3)⟩,⟨_,_,_,rfl,e3▸a7⟩⟩,a2.bl⟩
end Go.Proofs.Ythhgjloephkpaaa
namespace Go.Proofs.Ythhgjloephkpaaa
set_option linter.unusedVariables false
set_option linter.unusedSimpArgs false
open Go Go.RowKit
theorem dg_topv {y kk : Nat} (h : (dg y).length = kk + 1) : 0 < (dg y).getD kk 0 := by
  have h1 := dg_last y
  rw [List.getLast?_eq_getElem?] at h1
  rw [List.getD_eq_getElem?_getD]
  have h2 : (dg y)[kk]? = some ((dg y)[kk]'(by omega)) := List.getElem?_eq_getElem _
  rw [h2]
  have h3 := h1 _ (by rw [h, Nat.add_sub_cancel]; exact h2)
  exact Nat.pos_of_ne_zero h3
theorem parts_c {A B : Option Addr} {n c m d x y : Nat} {w : World} (hx : Wds w A n c (dg x)) (hy : Wds w B m d (dg y)) (fx : FitN 100000000 x) (fy : FitN 100000000 y) (h0 : 0 < y) :
    Calls Try.prog 105 #[.slice A n c, .slice B m d] w (RetSS w (x / y) (x % y)) := by
  by_cases hxy : x < y
  · exact parts_A hx hy hxy
  have hlx := hx.len
  have hly := hy.len
  have hm0 : 0 < m := by
    rcases Nat.eq_zero_or_pos m with h | h
    · have h1 := dg_lt y
      rw [hly, h, Nat.pow_zero] at h1
      omega
    · exact h
  have hmn : m ≤ n := by
    rw [← hlx, ← hly]
    exact dg_len_mono (by omega)
  have hn : n ≤ 1000000000 := by have := fx; unfold FitN at this; omega
  obtain ⟨ad, rfl⟩ := hx.some_ (by omega)
  obtain ⟨bd, rfl⟩ := hy.some_ hm0
  by_cases h1 : m = 1
  · subst h1
    have hB : y < BW := by have := dg_lt y; rwa [hly, Nat.pow_one] at this
    exact parts_B hx hy hxy (one_word hly) rfl h0 hB hmn hn hlx
  · exact parts_C hx hy hxy (by omega) hmn hn (kk := m - 1) (k2 := m - 2) (by omega) (by omega) hlx hly rfl (dg_topv (by omega)) ((dg_dig y).at_ _)
end Go.Proofs.Ythhgjloephkpaaa
namespace Go.Proofs.Ythhgjloephkpaaa
set_option linter.unusedVariables false
set_option linter.unusedSimpArgs false
open Go Go.RowKit Go.Proofs.YthhgjloephkpaaaW.PrintWords Go.Proofs.YthhgjloephkpaaaW.PrintLast
theorem lenpos_t' {w : World} {A : Option Addr} {n c x : Nat} (h : Wds w A n c (dg x)) (hx : 0 < x) : decide ((0 : Int) < (n : Int)) = true := lenpos_t h (by omega)
theorem lenpos_f' {w : World} {A : Option Addr} {n c x : Nat} (h : Wds w A n c (dg x)) (hx : ¬ 0 < x) : decide ((0 : Int) < (n : Int)) = false := lenpos_f h (by omega)
theorem gcd_go {a b x y : Nat} (h : Nat.gcd a b = Nat.gcd x y) : Nat.gcd b (a % b) = Nat.gcd x y := by rw [← h, Nat.gcd_comm b, ← Nat.gcd_rec, Nat.gcd_comm]
set_option maxRecDepth 100000 in
theorem divisor_c {A B:Option Addr} {n c m d x y:Nat} {w:World} (hx:Wds w A n c (dg x)) (hy:Wds w B m d (dg y)) (fx:FitN 100000000 x) (fy:FitN 100000000 y):Calls Try.prog 104 #[E A n c,E B m d] w (RetS w (Nat.gcd x y)):=by
 go_enter Try.func104,Try.ntmps104
 have V:=St.start w
 refine wp_seq_k fun K1 W=>?_
 refine wp_region_lit ?_
 refine PV (E none 0 0) rfl rfl ?_
 simp only [PA]
 refine wpList_nil ?_
 refine W _ _ ?_
 refine wp_seq_k fun K3 X=>?_
 refine wp_block ?_
 refine wp_loop_g (fun mm aa_ w'=>∃ (a:Nat) (b:Nat) (k:Option Addr) (l:Nat) (o:Nat) (f:Option Addr) (e:Nat) (g:Nat) (v:Value) (z:Value) (t:Value) (u8:Value) (C:Value) (D:Value) (F:Value) (G:Value) (H:Value) (L:Value) (M:Value) (N:Value) (P:Value),aa_=⟨#[E k l o,E f e g,O,O,E none 0 0,v,z,t,u8,C,D,F,G,H,L,M,N,P,O],[]⟩∧St w w' []∧(Wds w' k l o (dg a))∧(Wds w' f e g (dg b))∧(FitN 100000000 a)∧(FitN 100000000 b)∧(Nat.gcd a b=Nat.gcd x y)∧U w w'∧b=mm) (y) ⟨x,y,A,n,c,B,m,d,O,O,O,O,O,O,O,O,O,O,O,O,O,rfl,V,hx,hy,fx,fy,rfl,U.refl w,rfl⟩ ?_
 rintro _ _ w5 ⟨a,b,k,l,o,f,e,g,v,z,t,u8,C,D,F,G,H,L,M,N,P,rfl,Q,ha,hb,fa,fb,hg,t,rfl⟩
 refine wp_seq_k fun K8 Y=>?_
 refine wp_seq_k fun am R=>?_
 refine wp_region_lit ?_
 refine PV (E f e g) rfl rfl ?_
 simp only [PA]
 refine PV (I (e:Int)) (run_len36 rfl rfl) rfl ?_
 simp only [PA]
 by_cases s:0<b
 ·skip
  refine PV (T true) (CT (run_bin (I (e:Int)) (I 0) _ rfl rfl rfl (bin_gtr_3 _ _ _ _)) (congrArg Value.bool (lenpos_t' hb s))) rfl ?_
  simp only [PA]
  refine wpList_nil ?_
  refine R _ _ ?_
  refine cond_true rfl ?_
  refine wp_skip ?_
  refine Y _ _ ?_
  refine wp_block ?_
  refine wp_seq_k fun an aa=>?_
  refine wp_region_lit ?_
  refine PV (E k l o) rfl rfl ?_
  simp only [PA]
  refine PV (E f e g) rfl rfl ?_
  simp only [PA]
  refine wpList_plain rfl fun K hK=>o_call 105 _ #[E k l o,E f e g] Try.func105 (by kernel_rfl) rfl rfl rfl Q (parts_c ha hb fa fb (s)) fun ao ap ab ac S=>?_
  obtain ⟨aq,ar,rfl,ad,ae⟩:=ab
  obtain ⟨p,q,r,rfl,au⟩:=ad
  obtain ⟨h,i,j,rfl,af⟩:=ae
  refine hK _ _ ?_
  simp only [PA]
  refine PV (.tuple #[E p q r,E h i j]) rfl rfl ?_
  simp only [PA]
  refine PV (E p q r) rfl rfl ?_
  simp only [PA]
  refine PV (E h i j) rfl rfl ?_
  simp only [PA]
  refine PV (E p q r) rfl rfl ?_
  simp only [PA]
  refine PV (E h i j) rfl rfl ?_
  simp only [PA]
  refine wpList_nil ?_
  refine aa _ _ ?_
  refine wp_region_lit ?_
  refine PV (E f e g) rfl rfl ?_
  simp only [PA]
  refine PV (E h i j) rfl rfl ?_
  simp only [PA]
  refine PV (E f e g) rfl rfl ?_
  simp only [PA]
  refine PV (E h i j) rfl rfl ?_
  simp only [PA]
  refine wpList_nil ?_
  exact ⟨a % b,Nat.mod_lt _ s,b,(a % b),f,e,g,h,i,j,E p q r,E h i j,E f e g,I (e:Int),T true,.tuple #[E p q r,E h i j],E k l o,E f e g,.tuple #[E p q r,E h i j],E p q r,E h i j,E f e g,E h i j,rfl,ac,(hb.u S),af,fb,(fb.le (Nat.le_of_lt (Nat.mod_lt _ (s)))),gcd_go hg,(t.trans S),rfl⟩
 ·skip
  refine PV (T false) (CT (run_bin (I (e:Int)) (I 0) _ rfl rfl rfl (bin_gtr_3 _ _ _ _)) (congrArg Value.bool (lenpos_f' hb s))) rfl ?_
  simp only [PA]
  refine wpList_nil ?_
  refine R _ _ ?_
  refine cond_false rfl ?_
  refine wp_exit ?_
  refine X _ _ ?_
  refine wp_seq_k fun av ag=>?_
  refine wp_region_lit ?_
  refine PV (E k l o) rfl rfl ?_
  simp only [PA]
  refine PV (E k l o) rfl rfl ?_
  simp only [PA]
  refine wpList_nil ?_
  refine ag _ _ ?_
  refine wp_ret ?_
  refine bodyPost_ret (results_tmp rfl _ _ _) rfl ?_
  obtain rfl:b=0:=by omega
  rw [Nat.gcd_zero_right] at hg
  subst hg
  exact ⟨⟨_,rfl,_,_,_,rfl,ha⟩,Q.bl⟩
end Go.Proofs.Ythhgjloephkpaaa
