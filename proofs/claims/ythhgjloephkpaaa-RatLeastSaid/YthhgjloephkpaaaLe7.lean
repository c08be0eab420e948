/- Words and walks for the row RowRatLeast, put together: RM, RS, RUB, LX10, LX11, RJ. -/
import Derived.Test.YthhgjloephkpaaaLe6
import Derived.Scope
import Derived.Test.YthhgjloephkpaaaLe4
import Derived.Test.YthhgjloephkpaaaLe3
namespace Go.Proofs.Ythhgjloephkpaaa
set_option linter.unusedVariables false
set_option linter.unusedSimpArgs false
open Go Go.RowKit Go.Proofs.YthhgjloephkpaaaW.PrintWords Go.Proofs.YthhgjloephkpaaaW.PrintLast
theorem neg_eq' {x : Int} {s : Bool} (h : decide (x < 0) = s) : (if (!s) = true then -(((x).natAbs : Nat) : Int) else (((x).natAbs : Nat) : Int)) = -x := by subst h; exact neg_eq x
theorem mul_eq' {x y : Int} {s t : Bool} (h : decide (x < 0) = s) (k : decide (y < 0) = t) : (if (s != t) = true then -(((x.natAbs * y.natAbs : Nat)) : Int) else (((x.natAbs * y.natAbs : Nat)) : Int)) = x * y := by subst h; subst k; exact mul_eq x y
theorem isOne_q {q : Nat} (h : q = 1) : (((q : Nat) : Int) == (1 : Int)) = true := by subst h; rfl
theorem isOne_nq {q : Nat} (h : ¬ q = 1) : (((q : Nat) : Int) == (1 : Int)) = false := by rw [beq_eq_false_iff_ne]; omega
theorem isOne_t {z : Int} (hl : (dg z.natAbs).length = 1) (h : (dg z.natAbs).getD 0 0 = 1) : (!(decide (z < 0))) = decide (z = 1) := by
 have := (dg_is_one hl rfl).1 h
 by_cases hz : z < 0
 ·rw [decide_eq_true hz, decide_eq_false (by omega)]; rfl
 ·rw [decide_eq_false hz, decide_eq_true (by omega)]; rfl
theorem isOne_t' {z : Int} {s : Bool} (sg : decide (z < 0) = s) (hl : (dg z.natAbs).length = 1) (h : (dg z.natAbs).getD 0 0 = 1) : (!s) = decide (z = 1) := by subst sg; exact isOne_t hl h
theorem isOne_f {z : Int} (hl : (dg z.natAbs).length = 1) (h : ¬ (dg z.natAbs).getD 0 0 = 1) : false = decide (z = 1) := by
 rw [decide_eq_false]; intro e; exact h ((dg_is_one hl rfl).2 (by omega))
theorem isOne_n {z : Int} (h : ¬ z = 1) : false = decide (z = 1) := (decide_eq_false h).symm
set_option maxRecDepth 100000 in
theorem isOne_1 {ad:Addr} {xc:Nat} {z:Int} {w:World} {s:Bool} (sg:decide (z<0)=s) (hl:(dg z.natAbs).length=1) (hc:w.cell? (ad.add 0)=some (.int .u32 (((dg z.natAbs).getD 0 0:Nat):Int))):Calls Try.prog 96 #[AW (some ad) 1 xc s] w (RetB w (z=1)):=by
 go_enter Try.func96,Try.ntmps96
 have d:=St.start w
 refine wp_seq_k fun g e=>?_
 refine wp_region_lit ?_
 refine wpList_plain rfl fun K hK=>o_box (W2 (some ad) 1 xc s) rfl rfl rfl d fun b h a f=>hK _ _ ?_
 simp only [PA]
 refine PV (T false) rfl rfl ?_
 simp only [PA]
 refine wpList_nil ?_
 refine e _ _ ?_
 refine wp_seq_k fun j c=>?_
 refine wp_region_lit ?_
 refine PV (PT b 0) (by kernel_rfl) rfl ?_
 simp only [PA]
 refine PV (E (some ad) 1 xc) (run_load1 (E (some ad) 1 xc) rfl rfl (a.at_ _ (MI (i:=0) rfl)) rfl (ag36 _)) rfl ?_
 simp only [PA]
 refine PV (I 1) (run_len36 rfl rfl) rfl ?_
 simp only [PA]
 refine PV (T true) (CT (run_bin (I 1) (I 1) _ rfl rfl rfl (bin_eql_3 _ _ _ _)) (rfl)) rfl ?_
 simp only [PA]
 refine PV (T true) rfl rfl ?_
 simp only [PA]
 refine wpList_on rfl fun K hK=>o_val (PT b 0) (by kernel_rfl) (hK _ _ ?_)
 simp only [PA]
 refine wpList_on rfl fun K hK=>o_val (E (some ad) 1 xc) (run_load1 (E (some ad) 1 xc) rfl rfl (a.at_ _ (MI (i:=0) rfl)) rfl (ag36 _)) (hK _ _ ?_)
 simp only [PA]
 refine wpList_on rfl fun K hK=>o_val (.pointer (some (ad.add 0))) (by kernel_rfl) (hK _ _ ?_)
 simp only [PA]
 refine wpList_on rfl fun K hK=>o_val (.int .u32 (((dg z.natAbs).getD 0 0:Nat):Int)) (run_loadW (.int .u32 (((dg z.natAbs).getD 0 0:Nat):Int)) rfl rfl (cell_u hc f) (ag100 _)) (hK _ _ ?_)
 simp only [PA]
 by_cases hq:(dg z.natAbs).getD 0 0=1
 ·skip
  refine wpList_on rfl fun K hK=>o_val (T true) (CT (run_bin (.int .u32 (((dg z.natAbs).getD 0 0:Nat):Int)) (.int .u32 1) _ rfl rfl rfl (bin_eql_100 _ _ _ _)) (congrArg Value.bool (isOne_q hq))) (hK _ _ ?_)
  simp only [PA]
  refine PV (T true) rfl rfl ?_
  simp only [PA]
  refine PV (T true) rfl rfl ?_
  simp only [PA]
  refine wpList_on rfl fun K hK=>o_val (PT b 1) (by kernel_rfl) (hK _ _ ?_)
  simp only [PA]
  refine wpList_on rfl fun K hK=>o_val (T s) (run_load1 (T s) rfl rfl (a.at_ _ (MI (i:=0) rfl)) rfl (ag4 _)) (hK _ _ ?_)
  simp only [PA]
  refine wpList_on rfl fun K hK=>o_val (T (!s)) (run_not s rfl rfl) (hK _ _ ?_)
  simp only [PA]
  refine PV (T (!s)) rfl rfl ?_
  simp only [PA]
  refine PV (T (!s)) rfl rfl ?_
  simp only [PA]
  refine wpList_nil ?_
  refine c _ _ ?_
  refine wp_ret ?_
  refine bodyPost_ret (results_tmp rfl _ _ _) rfl ?_
  exact ⟨⟨_,rfl,congrArg Value.bool (by first | exact isOne_t' sg hl hq | exact isOne_f hl hq)⟩,a.bl⟩
 ·skip
  refine wpList_on rfl fun K hK=>o_val (T false) (CT (run_bin (.int .u32 (((dg z.natAbs).getD 0 0:Nat):Int)) (.int .u32 1) _ rfl rfl rfl (bin_eql_100 _ _ _ _)) (congrArg Value.bool (isOne_nq hq))) (hK _ _ ?_)
  simp only [PA]
  refine PV (T false) rfl rfl ?_
  simp only [PA]
  refine PV (T false) rfl rfl ?_
  simp only [PA]
  refine wpList_off rfl ?_
  simp only [PA]
  refine wpList_off rfl ?_
  simp only [PA]
  refine wpList_off rfl ?_
  simp only [PA]
  refine PV (T false) rfl rfl ?_
  simp only [PA]
  refine PV (T false) rfl rfl ?_
  simp only [PA]
  refine wpList_nil ?_
  refine c _ _ ?_
  refine wp_ret ?_
  refine bodyPost_ret (results_tmp rfl _ _ _) rfl ?_
  exact ⟨⟨_,rfl,congrArg Value.bool (by first | exact isOne_t' sg hl hq | exact isOne_f hl hq)⟩,a.bl⟩
set_option maxRecDepth 100000 in
theorem isOne_2 {xA:Option Addr} {xn xc:Nat} {z:Int} {w:World} {s:Bool} (hn:¬ z=1) (b:(((xn:Int):Int) == ((1:Int)))=false):Calls Try.prog 96 #[AW xA xn xc s] w (RetB w (z=1)):=by
 go_enter Try.func96,Try.ntmps96
 have c:=St.start w
 refine wp_seq_k fun g d=>?_
 refine wp_region_lit ?_
 refine wpList_plain rfl fun K hK=>o_box (W2 xA xn xc s) rfl rfl rfl c fun e h a j=>hK _ _ ?_
 simp only [PA]
 refine PV (T false) rfl rfl ?_
 simp only [PA]
 refine wpList_nil ?_
 refine d _ _ ?_
 refine wp_seq_k fun k f=>?_
 refine wp_region_lit ?_
 refine PV (PT e 0) (by kernel_rfl) rfl ?_
 simp only [PA]
 refine PV (E xA xn xc) (run_load1 (E xA xn xc) rfl rfl (a.at_ _ (MI (i:=0) rfl)) rfl (ag36 _)) rfl ?_
 simp only [PA]
 refine PV (I (xn:Int)) (run_len36 rfl rfl) rfl ?_
 simp only [PA]
 refine PV (T false) (CT (run_bin (I (xn:Int)) (I 1) _ rfl rfl rfl (bin_eql_3 _ _ _ _)) (congrArg Value.bool b)) rfl ?_
 simp only [PA]
 refine PV (T false) rfl rfl ?_
 simp only [PA]
 refine wpList_off rfl ?_
 simp only [PA]
 refine wpList_off rfl ?_
 simp only [PA]
 refine wpList_off rfl ?_
 simp only [PA]
 refine wpList_off rfl ?_
 simp only [PA]
 refine wpList_off rfl ?_
 simp only [PA]
 refine PV (T false) rfl rfl ?_
 simp only [PA]
 refine PV (T false) rfl rfl ?_
 simp only [PA]
 refine wpList_off rfl ?_
 simp only [PA]
 refine wpList_off rfl ?_
 simp only [PA]
 refine wpList_off rfl ?_
 simp only [PA]
 refine PV (T false) rfl rfl ?_
 simp only [PA]
 refine PV (T false) rfl rfl ?_
 simp only [PA]
 refine wpList_nil ?_
 refine f _ _ ?_
 refine wp_ret ?_
 refine bodyPost_ret (results_tmp rfl _ _ _) rfl ?_
 exact ⟨⟨_,rfl,congrArg Value.bool (by first | exact isOne_n hn)⟩,a.bl⟩
theorem isOne_any {v : Value} {z : Int} {w : World} (h : Wh w v z) : Calls Try.prog 96 #[v] w (RetB w (z = 1)) := by
 obtain ⟨A, n, c, rfl, h2⟩ := h
 have hl := h2.len
 by_cases h1 : n = 1
 ·subst h1
  obtain ⟨ad, rfl, hc⟩ := h2.at_ 0 (by omega)
  exact isOne_1 rfl hl hc
 ·exact isOne_2 (fun e => h1 (by rw [← hl, e]; simp [dg_one])) (by rw [beq_eq_false_iff_ne]; omega)
set_option maxRecDepth 100000 in
set_option maxHeartbeats 1000000 in
theorem neg103 {v:Value} {x:Int} {w:World} (hx:Wh w v x) (fx:Fit 100000000 x):Calls Try.prog 103 #[v] w (RetW w (-x)):=by
 obtain ⟨xA,xn,xc,rfl,dx⟩:=hx
 obtain ⟨sx,sgx⟩:∃ s,decide (x<0)=s:=⟨_,rfl⟩
 rw [sgx]
 have Wx:Wh w (AW xA xn xc sx) x:=⟨_,_,_,by rw [sgx],dx⟩
 go_enter Try.func103,Try.ntmps103
 have m:=St.start w
 refine wp_seq_k fun F n=>?_
 refine wp_region_lit ?_
 refine wpList_plain rfl fun K hK=>o_box (W2 xA xn xc sx) rfl rfl rfl m fun d G o p=>hK _ _ ?_
 simp only [PA]
 refine wpList_plain rfl fun K hK=>o_alloc (W2 none 0 0 false) _ rfl (zv38 _) rfl rfl o fun H L a q=>hK _ _ ?_
 simp only [PA]
 refine wpList_nil ?_
 refine n _ _ ?_
 refine wp_seq_k fun M r=>?_
 refine wp_region_lit ?_
 refine PV (PT d 0) (by kernel_rfl) rfl ?_
 simp only [PA]
 refine PV (E xA xn xc) (run_load1 (E xA xn xc) rfl rfl (a.at_ _ (MI (i:=1) rfl)) rfl (ag36 _)) rfl ?_
 simp only [PA]
 refine PV (PT d 1) (by kernel_rfl) rfl ?_
 simp only [PA]
 refine PV (T sx) (run_load1 (T sx) rfl rfl (a.at_ _ (MI (i:=1) rfl)) rfl (ag4 _)) rfl ?_
 simp only [PA]
 refine PV (T (!sx)) (run_not sx rfl rfl) rfl ?_
 simp only [PA]
 refine wpList_plain rfl fun K hK=>o_call 106 _ (W2 xA xn xc (!sx)) Try.func106 (by kernel_rfl) rfl rfl rfl a (signed_any _ _ _ ((x).natAbs) (!sx) _ (dx.u (p.trans q))) fun N t e y P=>?_
 obtain ⟨b,c⟩:∃ z:Int,(if (!sx)=true then -((((x).natAbs:Nat)):Int) else (((x).natAbs:Nat):Int))=z:=⟨_,rfl⟩
 rw [c] at e
 have Q:Fit 100000000 b:=c▸(Fit.sgn fx)
 obtain ⟨f,g,h,rfl,A⟩:=e
 obtain ⟨j,k⟩:∃ s,decide (b<0)=s:=⟨_,rfl⟩
 rw [k]
 have C:Wh t (AW f g h j) (b):=⟨_,_,_,by rw [k],A⟩
 refine hK _ _ ?_
 simp only [PA]
 refine wpList_plain rfl fun K hK=>OT 0 (W2 f g h j) y (sz38 _) fun R l D=>hK _ _ ?_
 simp only [PA]
 refine wpList_nil ?_
 refine r _ _ ?_
 refine wp_ret ?_
 refine bodyPost_ret (ret38 rfl _ rfl rfl (l.at_ _ (MI (i:=0) rfl))) rfl ?_
 exact ⟨⟨_,rfl,(c.symm.trans (neg_eq' sgx))▸(C.u D)⟩,l.bl⟩
set_option maxRecDepth 100000 in
set_option maxHeartbeats 1000000 in
theorem mul67 {v u:Value} {x y:Int} {w:World} (hx:Wh w v x) (hy:Wh w u y) (fx:Fit 100000000 x) (fy:Fit 100000000 y):Calls Try.prog 67 #[v,u] w (RetW w (x * y)):=by
 obtain ⟨xA,xn,xc,rfl,dx⟩:=hx
 obtain ⟨sx,sgx⟩:∃ s,decide (x<0)=s:=⟨_,rfl⟩
 rw [sgx]
 have Wx:Wh w (AW xA xn xc sx) x:=⟨_,_,_,by rw [sgx],dx⟩
 obtain ⟨yA,yn,yc,rfl,dy⟩:=hy
 obtain ⟨sy,sgy⟩:∃ s,decide (y<0)=s:=⟨_,rfl⟩
 rw [sgy]
 have Wy:Wh w (AW yA yn yc sy) y:=⟨_,_,_,by rw [sgy],dy⟩
 go_enter Try.func67,Try.ntmps67
 have D:=St.start w
 refine wp_seq_k fun K1 F=>?_
 refine wp_region_lit ?_
 refine wpList_plain rfl fun K hK=>o_box (W2 xA xn xc sx) rfl rfl rfl D fun d w4 G e=>hK _ _ ?_
 simp only [PA]
 refine wpList_plain rfl fun K hK=>o_box (W2 yA yn yc sy) rfl rfl rfl G fun f w8 H g=>hK _ _ ?_
 simp only [PA]
 refine wpList_plain rfl fun K hK=>o_alloc (W2 none 0 0 false) _ rfl (zv38 _) rfl rfl H fun ad ae L k=>hK _ _ ?_
 simp only [PA]
 refine wpList_nil ?_
 refine F _ _ ?_
 refine wp_seq_k fun af M=>?_
 refine region_drawn 12 (fun j=>decide (11≤j)) (by kernel_rfl) rfl L fun ag a l=>?_
 refine TK (i:=0) (PT d 0) rfl (by kernel_rfl) (fun _ _ _ h=>h) rfl (fun _ hS=>(by kernel_rfl)) a.has ?_
 simp only [PA]
 refine TK (i:=1) (E xA xn xc) rfl (by kernel_rfl) (fun _ _ _ h=>h) rfl (fun _ hS=>(run_load1 (E xA xn xc) rfl rfl (hS _ (MI (i:=2) rfl)) rfl (ag36 _))) a.has ?_
 simp only [PA]
 refine TK (i:=2) (PT f 0) rfl (by kernel_rfl) (fun _ _ _ h=>h) rfl (fun _ hS=>(by kernel_rfl)) a.has ?_
 simp only [PA]
 refine TK (i:=3) (E yA yn yc) rfl (by kernel_rfl) (fun _ _ _ h=>h) rfl (fun _ hS=>(run_load1 (E yA yn yc) rfl rfl (hS _ (MI (i:=1) rfl)) rfl (ag36 _))) a.has ?_
 simp only [PA]
 refine TK (i:=5) (PT d 1) rfl (by kernel_rfl) (fun _ _ _ h=>h) rfl (fun _ hS=>(by kernel_rfl)) a.has ?_
 simp only [PA]
 refine TK (i:=6) (T sx) rfl (by kernel_rfl) (fun _ _ _ h=>h) rfl (fun _ hS=>(run_load1 (T sx) rfl rfl (hS _ (MI (i:=2) rfl)) rfl (ag4 _))) a.has ?_
 simp only [PA]
 refine TK (i:=7) (PT f 1) rfl (by kernel_rfl) (fun _ _ _ h=>h) rfl (fun _ hS=>(by kernel_rfl)) a.has ?_
 simp only [PA]
 refine TK (i:=8) (T sy) rfl (by kernel_rfl) (fun _ _ _ h=>h) rfl (fun _ hS=>(run_load1 (T sy) rfl rfl (hS _ (MI (i:=1) rfl)) rfl (ag4 _))) a.has ?_
 simp only [PA]
 refine TK (i:=9) (T (sx != sy)) rfl (by kernel_rfl) (fun _ _ _ h=>h) rfl (fun _ hS=>(run_bin (T sx) (T sy) _ rfl rfl rfl (bin_neq_4 _ _ _ _))) a.has ?_
 simp only [PA]
 refine anyT_one (i:=4) rfl (by kernel_rfl) rfl fun K hK=>o_call 108 _ #[E xA xn xc,E yA yn yc] Try.func108 (by kernel_rfl) rfl rfl rfl a (times_c (dx.u (((e.trans g).trans k).trans l)) (dy.u (((e.trans g).trans k).trans l)) fx fy) fun ah ai N m aj=>?_
 obtain ⟨P,Q,R,rfl,S⟩:=N
 refine hK _ _ (fun _=>m.has) ?_
 simp only [PA]
 refine anyT_one (i:=10) rfl (by kernel_rfl) rfl fun K hK=>o_call 106 _ (W2 P Q R (sx != sy)) Try.func106 (by kernel_rfl) rfl rfl rfl m (signed_any _ _ _ (((x).natAbs * (y).natAbs)) (sx != sy) _ S) fun al V n o am=>?_
 obtain ⟨b,c⟩:∃ z:Int,(if (sx != sy)=true then -(((((x).natAbs * (y).natAbs):Nat)):Int) else ((((x).natAbs * (y).natAbs):Nat):Int))=z:=⟨_,rfl⟩
 rw [c] at n
 have an:Fit 200000000 b:=c▸(Fit.sgn (FitN.mul fx fy))
 obtain ⟨p,q,r,rfl,W⟩:=n
 obtain ⟨t,A⟩:∃ s,decide (b<0)=s:=⟨_,rfl⟩
 rw [A]
 have X:Wh V (AW p q r t) (b):=⟨_,_,_,by rw [A],W⟩
 refine hK _ _ (fun _=>o.has) ?_
 simp only [PA]
 refine anyT_one (i:=11) rfl (by kernel_rfl) rfl fun K hK=>OT 0 (W2 p q r t) o (sz38 _) fun ao C Y=>hK _ _ (fun h=>absurd h (by decide)) ?_
 simp only [PA]
 refine anyT_done (by kernel_rfl) ?_ _
 refine M _ _ ?_
 refine wp_ret ?_
 refine bodyPost_ret (ret38 rfl _ rfl rfl (C.at_ _ (MI (i:=0) rfl))) rfl ?_
 exact ⟨⟨_,rfl,(c.symm.trans (mul_eq' sgx sgy))▸(X.u Y)⟩,C.bl⟩
set_option maxRecDepth 100000 in
set_option maxHeartbeats 1000000 in
theorem add97 {v u:Value} {x y:Int} {w:World} (hx:Wh w v x) (hy:Wh w u y) (fx:Fit 100000000 x) (fy:Fit 100000000 y):Calls Try.prog 97 #[v,u] w (RetW w (x+y)):=by
 obtain ⟨xA,xn,xc,rfl,dx⟩:=hx
 obtain ⟨sx,sgx⟩:∃ s,decide (x<0)=s:=⟨_,rfl⟩
 rw [sgx]
 have Wx:Wh w (AW xA xn xc sx) x:=⟨_,_,_,by rw [sgx],dx⟩
 obtain ⟨yA,yn,yc,rfl,dy⟩:=hy
 obtain ⟨sy,sgy⟩:∃ s,decide (y<0)=s:=⟨_,rfl⟩
 rw [sgy]
 have Wy:Wh w (AW yA yn yc sy) y:=⟨_,_,_,by rw [sgy],dy⟩
 go_enter Try.func97,Try.ntmps97
 have ar:=St.start w
 refine wp_seq_k fun K1 au=>?_
 refine wp_region_lit ?_
 refine wpList_plain rfl fun K hK=>o_box (W2 xA xn xc sx) rfl rfl rfl ar fun d w4 av a=>hK _ _ ?_
 simp only [PA]
 refine wpList_plain rfl fun K hK=>o_box (W2 yA yn yc sy) rfl rfl rfl av fun k w8 aw b=>hK _ _ ?_
 simp only [PA]
 refine wpList_plain rfl fun K hK=>o_alloc (W2 none 0 0 false) _ rfl (zv38 _) rfl rfl aw fun a7 a8 l c=>hK _ _ ?_
 simp only [PA]
 refine wpList_nil ?_
 refine au _ _ ?_
 refine wp_seq_k fun a9 ax=>?_
 refine wp_seq_k fun ba A=>?_
 refine wp_region_lit ?_
 refine PV (PT d 1) (by kernel_rfl) rfl ?_
 simp only [PA]
 refine PV (T sx) (run_load1 (T sx) rfl rfl (l.at_ _ (MI (i:=2) rfl)) rfl (ag4 _)) rfl ?_
 simp only [PA]
 refine PV (PT k 1) (by kernel_rfl) rfl ?_
 simp only [PA]
 refine PV (T sy) (run_load1 (T sy) rfl rfl (l.at_ _ (MI (i:=1) rfl)) rfl (ag4 _)) rfl ?_
 simp only [PA]
 by_cases hc:sx=sy
 ·skip
  refine PV (T true) (CT (run_bin (T sx) (T sy) _ rfl rfl rfl (bin_eql_4 _ _ _ _)) (congrArg Value.bool (beq_iff_eq.2 hc))) rfl ?_
  simp only [PA]
  refine wpList_nil ?_
  refine A _ _ ?_
  refine cond_true rfl ?_
  refine wp_seq_k fun bb ay=>?_
  refine region_drawn 9 (fun j=>decide (8≤j)) (by kernel_rfl) rfl l fun bc e C=>?_
  refine TK (i:=0) (PT d 0) rfl (by kernel_rfl) (fun _ _ _ h=>h) rfl (fun _ hS=>(by kernel_rfl)) e.has ?_
  simp only [PA]
  refine TK (i:=1) (E xA xn xc) rfl (by kernel_rfl) (fun _ _ _ h=>h) rfl (fun _ hS=>(run_load1 (E xA xn xc) rfl rfl (hS _ (MI (i:=2) rfl)) rfl (ag36 _))) e.has ?_
  simp only [PA]
  refine TK (i:=2) (PT k 0) rfl (by kernel_rfl) (fun _ _ _ h=>h) rfl (fun _ hS=>(by kernel_rfl)) e.has ?_
  simp only [PA]
  refine TK (i:=3) (E yA yn yc) rfl (by kernel_rfl) (fun _ _ _ h=>h) rfl (fun _ hS=>(run_load1 (E yA yn yc) rfl rfl (hS _ (MI (i:=1) rfl)) rfl (ag36 _))) e.has ?_
  simp only [PA]
  refine TK (i:=5) (PT d 1) rfl (by kernel_rfl) (fun _ _ _ h=>h) rfl (fun _ hS=>(by kernel_rfl)) e.has ?_
  simp only [PA]
  refine TK (i:=6) (T sx) rfl (by kernel_rfl) (fun _ _ _ h=>h) rfl (fun _ hS=>(run_load1 (T sx) rfl rfl (hS _ (MI (i:=2) rfl)) rfl (ag4 _))) e.has ?_
  simp only [PA]
  refine anyT_one (i:=4) rfl (by kernel_rfl) rfl fun K hK=>o_call 121 _ #[E xA xn xc,E yA yn yc] Try.func121 (by kernel_rfl) rfl rfl rfl e (plus_c (dx.u (((a.trans b).trans c).trans C)) (dy.u (((a.trans b).trans c).trans C)) fx fy) fun bd be az D bf=>?_
  obtain ⟨aA,aC,aD,rfl,aF⟩:=az
  refine hK _ _ (fun _=>D.has) ?_
  simp only [PA]
  refine anyT_one (i:=7) rfl (by kernel_rfl) rfl fun K hK=>o_call 106 _ (W2 aA aC aD sx) Try.func106 (by kernel_rfl) rfl rfl rfl D (signed_any _ _ _ (((x).natAbs+(y).natAbs)) sx _ aF) fun bg aG F G bh=>?_
  obtain ⟨n,o⟩:∃ z:Int,(if sx=true then -(((((x).natAbs+(y).natAbs):Nat)):Int) else ((((x).natAbs+(y).natAbs):Nat):Int))=z:=⟨_,rfl⟩
  rw [o] at F
  have bi:Fit 100000001 n:=o▸(Fit.sgn (FitN.add fx fy))
  obtain ⟨H,L,M,rfl,aH⟩:=F
  obtain ⟨N,P⟩:∃ s,decide (n<0)=s:=⟨_,rfl⟩
  rw [P]
  have aK:Wh aG (AW H L M N) (n):=⟨_,_,_,by rw [P],aH⟩
  refine hK _ _ (fun _=>G.has) ?_
  simp only [PA]
  refine anyT_one (i:=8) rfl (by kernel_rfl) rfl fun K hK=>OT 0 (W2 H L M N) G (sz38 _) fun bj Q aL=>hK _ _ (fun h=>absurd h (by decide)) ?_
  simp only [PA]
  refine anyT_done (by kernel_rfl) ?_ _
  refine ay _ _ ?_
  refine wp_ret ?_
  refine bodyPost_ret (ret38 rfl _ rfl rfl (Q.at_ _ (MI (i:=0) rfl))) rfl ?_
  exact ⟨⟨_,rfl,(o.symm.trans (by first | exact add_same sgx sgy hc | exact add_less sgx sgy hc hq | exact add_less' sgx sgy hc hq))▸(aK.u aL)⟩,Q.bl⟩
 ·skip
  refine PV (T false) (CT (run_bin (T sx) (T sy) _ rfl rfl rfl (bin_eql_4 _ _ _ _)) (congrArg Value.bool (beq_eq_false_iff_ne.2 hc))) rfl ?_
  simp only [PA]
  refine wpList_nil ?_
  refine A _ _ ?_
  refine cond_false rfl ?_
  refine wp_skip ?_
  refine ax _ _ ?_
  refine wp_seq_k fun bk aM=>?_
  refine wp_seq_k fun bm R=>?_
  refine wp_region_lit ?_
  refine PV (PT d 0) (by kernel_rfl) rfl ?_
  simp only [PA]
  refine PV (E xA xn xc) (run_load1 (E xA xn xc) rfl rfl (l.at_ _ (MI (i:=2) rfl)) rfl (ag36 _)) rfl ?_
  simp only [PA]
  refine PV (PT k 0) (by kernel_rfl) rfl ?_
  simp only [PA]
  refine PV (E yA yn yc) (run_load1 (E yA yn yc) rfl rfl (l.at_ _ (MI (i:=1) rfl)) rfl (ag36 _)) rfl ?_
  simp only [PA]
  refine wpList_plain rfl fun K hK=>o_call 110 _ #[E xA xn xc,E yA yn yc] Try.func110 (by kernel_rfl) rfl rfl rfl l (order_c (dx.u ((a.trans b).trans c)) (dy.u ((a.trans b).trans c))) fun bn bo aN S m=>?_
  subst aN
  refine hK _ _ ?_
  simp only [PA]
  by_cases hq:y.natAbs≤x.natAbs
  ·skip
   refine PV (T true) (CT (run_bin (I (cmpN ((x).natAbs) ((y).natAbs))) (I 0) _ rfl rfl rfl (bin_geq_3 _ _ _ _)) (congrArg Value.bool (cmpN_le hq))) rfl ?_
   simp only [PA]
   refine wpList_nil ?_
   refine R _ _ ?_
   refine cond_true rfl ?_
   refine wp_seq_k fun bp aP=>?_
   refine region_drawn 9 (fun j=>decide (8≤j)) (by kernel_rfl) rfl S fun bq f V=>?_
   refine TK (i:=0) (PT d 0) rfl (by kernel_rfl) (fun _ _ _ h=>h) rfl (fun _ hS=>(by kernel_rfl)) f.has ?_
   simp only [PA]
   refine TK (i:=1) (E xA xn xc) rfl (by kernel_rfl) (fun _ _ _ h=>h) rfl (fun _ hS=>(run_load1 (E xA xn xc) rfl rfl (hS _ (MI (i:=2) rfl)) rfl (ag36 _))) f.has ?_
   simp only [PA]
   refine TK (i:=2) (PT k 0) rfl (by kernel_rfl) (fun _ _ _ h=>h) rfl (fun _ hS=>(by kernel_rfl)) f.has ?_
   simp only [PA]
   refine TK (i:=3) (E yA yn yc) rfl (by kernel_rfl) (fun _ _ _ h=>h) rfl (fun _ hS=>(run_load1 (E yA yn yc) rfl rfl (hS _ (MI (i:=1) rfl)) rfl (ag36 _))) f.has ?_
   simp only [PA]
   refine TK (i:=5) (PT d 1) rfl (by kernel_rfl) (fun _ _ _ h=>h) rfl (fun _ hS=>(by kernel_rfl)) f.has ?_
   simp only [PA]
   refine TK (i:=6) (T sx) rfl (by kernel_rfl) (fun _ _ _ h=>h) rfl (fun _ hS=>(run_load1 (T sx) rfl rfl (hS _ (MI (i:=2) rfl)) rfl (ag4 _))) f.has ?_
   simp only [PA]
   refine anyT_one (i:=4) rfl (by kernel_rfl) rfl fun K hK=>o_call 122 _ #[E xA xn xc,E yA yn yc] Try.func122 (by kernel_rfl) rfl rfl rfl f (less_c (dx.u ((((a.trans b).trans c).trans m).trans V)) (dy.u ((((a.trans b).trans c).trans m).trans V)) fx (by omega)) fun br bs aQ W bt=>?_
   obtain ⟨aR,aS,aU,rfl,aV⟩:=aQ
   refine hK _ _ (fun _=>W.has) ?_
   simp only [PA]
   refine anyT_one (i:=7) rfl (by kernel_rfl) rfl fun K hK=>o_call 106 _ (W2 aR aS aU sx) Try.func106 (by kernel_rfl) rfl rfl rfl W (signed_any _ _ _ (((x).natAbs - (y).natAbs)) sx _ aV) fun bu aW X Y bv=>?_
   obtain ⟨p,q⟩:∃ z:Int,(if sx=true then -(((((x).natAbs - (y).natAbs):Nat)):Int) else ((((x).natAbs - (y).natAbs):Nat):Int))=z:=⟨_,rfl⟩
   rw [q] at X
   have bw:Fit 100000000 p:=q▸(Fit.sgn (FitN.sub fx))
   obtain ⟨aa,ab,ac,rfl,aX⟩:=X
   obtain ⟨ad,ae⟩:∃ s,decide (p<0)=s:=⟨_,rfl⟩
   rw [ae]
   have aY:Wh aW (AW aa ab ac ad) (p):=⟨_,_,_,by rw [ae],aX⟩
   refine hK _ _ (fun _=>Y.has) ?_
   simp only [PA]
   refine anyT_one (i:=8) rfl (by kernel_rfl) rfl fun K hK=>OT 0 (W2 aa ab ac ad) Y (sz38 _) fun bx af aB=>hK _ _ (fun h=>absurd h (by decide)) ?_
   simp only [PA]
   refine anyT_done (by kernel_rfl) ?_ _
   refine aP _ _ ?_
   refine wp_ret ?_
   refine bodyPost_ret (ret38 rfl _ rfl rfl (af.at_ _ (MI (i:=0) rfl))) rfl ?_
   exact ⟨⟨_,rfl,(q.symm.trans (by first | exact add_same sgx sgy hc | exact add_less sgx sgy hc hq | exact add_less' sgx sgy hc hq))▸(aY.u aB)⟩,af.bl⟩
  ·skip
   refine PV (T false) (CT (run_bin (I (cmpN ((x).natAbs) ((y).natAbs))) (I 0) _ rfl rfl rfl (bin_geq_3 _ _ _ _)) (congrArg Value.bool (cmpN_nle hq))) rfl ?_
   simp only [PA]
   refine wpList_nil ?_
   refine R _ _ ?_
   refine cond_false rfl ?_
   refine wp_skip ?_
   refine aM _ _ ?_
   refine wp_seq_k fun bz aE=>?_
   refine region_drawn 9 (fun j=>decide (8≤j)) (by kernel_rfl) rfl S fun bA g ag=>?_
   refine TK (i:=0) (PT k 0) rfl (by kernel_rfl) (fun _ _ _ h=>h) rfl (fun _ hS=>(by kernel_rfl)) g.has ?_
   simp only [PA]
   refine TK (i:=1) (E yA yn yc) rfl (by kernel_rfl) (fun _ _ _ h=>h) rfl (fun _ hS=>(run_load1 (E yA yn yc) rfl rfl (hS _ (MI (i:=1) rfl)) rfl (ag36 _))) g.has ?_
   simp only [PA]
   refine TK (i:=2) (PT d 0) rfl (by kernel_rfl) (fun _ _ _ h=>h) rfl (fun _ hS=>(by kernel_rfl)) g.has ?_
   simp only [PA]
   refine TK (i:=3) (E xA xn xc) rfl (by kernel_rfl) (fun _ _ _ h=>h) rfl (fun _ hS=>(run_load1 (E xA xn xc) rfl rfl (hS _ (MI (i:=2) rfl)) rfl (ag36 _))) g.has ?_
   simp only [PA]
   refine TK (i:=5) (PT k 1) rfl (by kernel_rfl) (fun _ _ _ h=>h) rfl (fun _ hS=>(by kernel_rfl)) g.has ?_
   simp only [PA]
   refine TK (i:=6) (T sy) rfl (by kernel_rfl) (fun _ _ _ h=>h) rfl (fun _ hS=>(run_load1 (T sy) rfl rfl (hS _ (MI (i:=1) rfl)) rfl (ag4 _))) g.has ?_
   simp only [PA]
   refine anyT_one (i:=4) rfl (by kernel_rfl) rfl fun K hK=>o_call 122 _ #[E yA yn yc,E xA xn xc] Try.func122 (by kernel_rfl) rfl rfl rfl g (less_c (dy.u ((((a.trans b).trans c).trans m).trans ag)) (dx.u ((((a.trans b).trans c).trans m).trans ag)) fy (by omega)) fun bC bD aI ah bF=>?_
   obtain ⟨aT,aO,aJ,rfl,aZ⟩:=aI
   refine hK _ _ (fun _=>ah.has) ?_
   simp only [PA]
   refine anyT_one (i:=7) rfl (by kernel_rfl) rfl fun K hK=>o_call 106 _ (W2 aT aO aJ sy) Try.func106 (by kernel_rfl) rfl rfl rfl ah (signed_any _ _ _ (((y).natAbs - (x).natAbs)) sy _ aZ) fun bG a0 ai aj bH=>?_
   obtain ⟨r,t⟩:∃ z:Int,(if sy=true then -(((((y).natAbs - (x).natAbs):Nat)):Int) else ((((y).natAbs - (x).natAbs):Nat):Int))=z:=⟨_,rfl⟩
   rw [t] at ai
   have bK:Fit 100000000 r:=t▸(Fit.sgn (FitN.sub fy))
   obtain ⟨al,am,an,rfl,a1⟩:=ai
   obtain ⟨ao,ap⟩:∃ s,decide (r<0)=s:=⟨_,rfl⟩
   rw [ap]
   have a2:Wh a0 (AW al am an ao) (r):=⟨_,_,_,by rw [ap],a1⟩
   refine hK _ _ (fun _=>aj.has) ?_
   simp only [PA]
   refine anyT_one (i:=8) rfl (by kernel_rfl) rfl fun K hK=>OT 0 (W2 al am an ao) aj (sz38 _) fun bL aq a3=>hK _ _ (fun h=>absurd h (by decide)) ?_
   simp only [PA]
   refine anyT_done (by kernel_rfl) ?_ _
   refine aE _ _ ?_
   refine wp_ret ?_
   refine bodyPost_ret (ret38 rfl _ rfl rfl (aq.at_ _ (MI (i:=0) rfl))) rfl ?_
   exact ⟨⟨_,rfl,(t.symm.trans (by first | exact add_same sgx sgy hc | exact add_less sgx sgy hc hq | exact add_less' sgx sgy hc hq))▸(a2.u a3)⟩,aq.bl⟩
set_option maxRecDepth 100000 in
set_option maxHeartbeats 1000000 in
theorem one109 {w:World}:Calls Try.prog 109 #[] w (RetW w 1):=by
 go_enter Try.func109,Try.ntmps109
 have c:=St.start w
 refine wp_seq_k fun k d=>?_
 refine wp_region_lit ?_
 refine wpList_plain rfl fun K hK=>o_alloc (W2 none 0 0 false) _ rfl (zv38 _) rfl rfl c fun l m e n=>hK _ _ ?_
 simp only [PA]
 refine wpList_nil ?_
 refine d _ _ ?_
 refine wp_seq_k fun o f=>?_
 refine wp_region_lit ?_
 refine wpList_plain rfl fun K hK=>o_one rfl e fun a p g h q=>hK _ _ ?_
 simp only [PA]
 refine PV (AW a 1 1 false) (by kernel_rfl) rfl ?_
 simp only [PA]
 refine wpList_plain rfl fun K hK=>OT 0 (W2 a 1 1 false) h (sz38 _) fun r b j=>hK _ _ ?_
 simp only [PA]
 refine wpList_nil ?_
 refine f _ _ ?_
 refine wp_ret ?_
 refine bodyPost_ret (ret38 rfl _ rfl rfl (b.at_ _ (MI (i:=0) rfl))) rfl ?_
 exact ⟨⟨_,rfl,wh_one (g.u j)⟩,b.bl⟩
theorem Fit_one : Fit 1 (1 : Int) := FitN_one
set_option maxRecDepth 100000 in
theorem cmp69_tt {x y:Int} {xA yA:Option Addr} {xn xc yn yc:Nat} {w:World} (sgx:decide (x<0)=true) (sgy:decide (y<0)=true) (dx:Wds w xA xn xc (dg x.natAbs)) (dy:Wds w yA yn yc (dg y.natAbs)):Calls Try.prog 69 #[AW xA xn xc true,AW yA yn yc true] w (RetI w (cmpZ x y)):=by
 go_enter Try.func69,Try.ntmps69
 have f:=St.start w
 refine wp_seq_k fun p g=>?_
 refine wp_region_lit ?_
 refine wpList_plain rfl fun K hK=>o_box (W2 xA xn xc true) rfl rfl rfl f fun b q h c=>hK _ _ ?_
 simp only [PA]
 refine wpList_plain rfl fun K hK=>o_box (W2 yA yn yc true) rfl rfl rfl h fun d r a e=>hK _ _ ?_
 simp only [PA]
 refine PV (I 0) rfl rfl ?_
 simp only [PA]
 refine wpList_nil ?_
 refine g _ _ ?_
 refine wp_seq_k fun s j=>?_
 refine wp_seq_k fun t k=>?_
 refine wp_region_lit ?_
 refine PV (PT b 1) (by kernel_rfl) rfl ?_
 simp only [PA]
 refine PV (T true) (run_load1 (T true) rfl rfl (a.at_ _ (MI (i:=1) rfl)) rfl (ag4 _)) rfl ?_
 simp only [PA]
 refine PV (PT d 1) (by kernel_rfl) rfl ?_
 simp only [PA]
 refine PV (T true) (run_load1 (T true) rfl rfl (a.at_ _ (MI (i:=0) rfl)) rfl (ag4 _)) rfl ?_
 simp only [PA]
 refine PV (T false) (CT (run_bin (T true) (T true) _ rfl rfl rfl (bin_neq_4 _ _ _ _)) (rfl)) rfl ?_
 simp only [PA]
 refine wpList_nil ?_
 refine k _ _ ?_
 refine cond_false rfl ?_
 refine wp_skip ?_
 refine j _ _ ?_
 refine wp_seq_k fun v z=>?_
 refine wp_seq_k fun A l=>?_
 refine wp_region_lit ?_
 refine PV (PT b 1) (by kernel_rfl) rfl ?_
 simp only [PA]
 refine PV (T true) (run_load1 (T true) rfl rfl (a.at_ _ (MI (i:=1) rfl)) rfl (ag4 _)) rfl ?_
 simp only [PA]
 refine wpList_nil ?_
 refine l _ _ ?_
 refine cond_true rfl ?_
 refine wp_seq_k fun C m=>?_
 refine wp_region_lit ?_
 refine PV (PT b 0) (by kernel_rfl) rfl ?_
 simp only [PA]
 refine PV (E xA xn xc) (run_load1 (E xA xn xc) rfl rfl (a.at_ _ (MI (i:=1) rfl)) rfl (ag36 _)) rfl ?_
 simp only [PA]
 refine PV (PT d 0) (by kernel_rfl) rfl ?_
 simp only [PA]
 refine PV (E yA yn yc) (run_load1 (E yA yn yc) rfl rfl (a.at_ _ (MI (i:=0) rfl)) rfl (ag36 _)) rfl ?_
 simp only [PA]
 refine wpList_plain rfl fun K hK=>o_call 110 _ #[E xA xn xc,E yA yn yc] Try.func110 (by kernel_rfl) rfl rfl rfl a (order_c (dx.u (c.trans e)) (dy.u (c.trans e))) fun D F n o G=>?_
 subst n
 refine hK _ _ ?_
 simp only [PA]
 refine PV (I (IntKind.i64.wrap (-((cmpN ((x).natAbs) ((y).natAbs)))))) (run_neg (cmpN ((x).natAbs) ((y).natAbs)) rfl rfl) rfl ?_
 simp only [PA]
 refine PV (I (IntKind.i64.wrap (-((cmpN ((x).natAbs) ((y).natAbs)))))) rfl rfl ?_
 simp only [PA]
 refine wpList_nil ?_
 refine m _ _ ?_
 refine wp_ret ?_
 refine bodyPost_ret (results_tmp rfl _ _ _) rfl ?_
 exact ⟨⟨_,rfl,congrArg (Value.int .i64) (cmp_neg (of_decide_eq_true sgx) (of_decide_eq_true sgy))⟩,o.bl⟩
set_option maxRecDepth 100000 in
theorem cmp69_tf {x y:Int} {xA yA:Option Addr} {xn xc yn yc:Nat} {w:World} (sgx:decide (x<0)=true) (sgy:decide (y<0)=false) (dx:Wds w xA xn xc (dg x.natAbs)) (dy:Wds w yA yn yc (dg y.natAbs)):Calls Try.prog 69 #[AW xA xn xc true,AW yA yn yc false] w (RetI w (cmpZ x y)):=by
 go_enter Try.func69,Try.ntmps69
 have c:=St.start w
 refine wp_seq_k fun k d=>?_
 refine wp_region_lit ?_
 refine wpList_plain rfl fun K hK=>o_box (W2 xA xn xc true) rfl rfl rfl c fun b l e m=>hK _ _ ?_
 simp only [PA]
 refine wpList_plain rfl fun K hK=>o_box (W2 yA yn yc false) rfl rfl rfl e fun f n a o=>hK _ _ ?_
 simp only [PA]
 refine PV (I 0) rfl rfl ?_
 simp only [PA]
 refine wpList_nil ?_
 refine d _ _ ?_
 refine wp_seq_k fun p q=>?_
 refine wp_seq_k fun r g=>?_
 refine wp_region_lit ?_
 refine PV (PT b 1) (by kernel_rfl) rfl ?_
 simp only [PA]
 refine PV (T true) (run_load1 (T true) rfl rfl (a.at_ _ (MI (i:=1) rfl)) rfl (ag4 _)) rfl ?_
 simp only [PA]
 refine PV (PT f 1) (by kernel_rfl) rfl ?_
 simp only [PA]
 refine PV (T false) (run_load1 (T false) rfl rfl (a.at_ _ (MI (i:=0) rfl)) rfl (ag4 _)) rfl ?_
 simp only [PA]
 refine PV (T true) (CT (run_bin (T true) (T false) _ rfl rfl rfl (bin_neq_4 _ _ _ _)) (rfl)) rfl ?_
 simp only [PA]
 refine wpList_nil ?_
 refine g _ _ ?_
 refine cond_true rfl ?_
 refine wp_seq_k fun s t=>?_
 refine wp_seq_k fun v h=>?_
 refine wp_region_lit ?_
 refine PV (PT b 1) (by kernel_rfl) rfl ?_
 simp only [PA]
 refine PV (T true) (run_load1 (T true) rfl rfl (a.at_ _ (MI (i:=1) rfl)) rfl (ag4 _)) rfl ?_
 simp only [PA]
 refine wpList_nil ?_
 refine h _ _ ?_
 refine cond_true rfl ?_
 refine wp_seq_k fun z j=>?_
 refine wp_region_lit ?_
 refine PV (I (-1)) rfl rfl ?_
 simp only [PA]
 refine wpList_nil ?_
 refine j _ _ ?_
 refine wp_ret ?_
 refine bodyPost_ret (results_tmp rfl _ _ _) rfl ?_
 exact ⟨⟨_,rfl,congrArg (Value.int .i64) ((cmp_diff sgx sgy (by decide)).symm)⟩,a.bl⟩
set_option maxRecDepth 100000 in
theorem cmp69_ft {x y:Int} {xA yA:Option Addr} {xn xc yn yc:Nat} {w:World} (sgx:decide (x<0)=false) (sgy:decide (y<0)=true) (dx:Wds w xA xn xc (dg x.natAbs)) (dy:Wds w yA yn yc (dg y.natAbs)):Calls Try.prog 69 #[AW xA xn xc false,AW yA yn yc true] w (RetI w (cmpZ x y)):=by
 go_enter Try.func69,Try.ntmps69
 have c:=St.start w
 refine wp_seq_k fun l d=>?_
 refine wp_region_lit ?_
 refine wpList_plain rfl fun K hK=>o_box (W2 xA xn xc false) rfl rfl rfl c fun b m e n=>hK _ _ ?_
 simp only [PA]
 refine wpList_plain rfl fun K hK=>o_box (W2 yA yn yc true) rfl rfl rfl e fun f o a p=>hK _ _ ?_
 simp only [PA]
 refine PV (I 0) rfl rfl ?_
 simp only [PA]
 refine wpList_nil ?_
 refine d _ _ ?_
 refine wp_seq_k fun q r=>?_
 refine wp_seq_k fun s g=>?_
 refine wp_region_lit ?_
 refine PV (PT b 1) (by kernel_rfl) rfl ?_
 simp only [PA]
 refine PV (T false) (run_load1 (T false) rfl rfl (a.at_ _ (MI (i:=1) rfl)) rfl (ag4 _)) rfl ?_
 simp only [PA]
 refine PV (PT f 1) (by kernel_rfl) rfl ?_
 simp only [PA]
 refine PV (T true) (run_load1 (T true) rfl rfl (a.at_ _ (MI (i:=0) rfl)) rfl (ag4 _)) rfl ?_
 simp only [PA]
 refine PV (T true) (CT (run_bin (T false) (T true) _ rfl rfl rfl (bin_neq_4 _ _ _ _)) (rfl)) rfl ?_
 simp only [PA]
 refine wpList_nil ?_
 refine g _ _ ?_
 refine cond_true rfl ?_
 refine wp_seq_k fun t h=>?_
 refine wp_seq_k fun v j=>?_
 refine wp_region_lit ?_
 refine PV (PT b 1) (by kernel_rfl) rfl ?_
 simp only [PA]
 refine PV (T false) (run_load1 (T false) rfl rfl (a.at_ _ (MI (i:=1) rfl)) rfl (ag4 _)) rfl ?_
 simp only [PA]
 refine wpList_nil ?_
 refine j _ _ ?_
 refine cond_false rfl ?_
 refine wp_skip ?_
 refine h _ _ ?_
 refine wp_seq_k fun z k=>?_
 refine wp_region_lit ?_
 refine PV (I 1) rfl rfl ?_
 simp only [PA]
 refine wpList_nil ?_
 refine k _ _ ?_
 refine wp_ret ?_
 refine bodyPost_ret (results_tmp rfl _ _ _) rfl ?_
 exact ⟨⟨_,rfl,congrArg (Value.int .i64) ((cmp_diff sgx sgy (by decide)).symm)⟩,a.bl⟩
set_option maxRecDepth 100000 in
theorem cmp69_ff {x y:Int} {xA yA:Option Addr} {xn xc yn yc:Nat} {w:World} (sgx:decide (x<0)=false) (sgy:decide (y<0)=false) (dx:Wds w xA xn xc (dg x.natAbs)) (dy:Wds w yA yn yc (dg y.natAbs)):Calls Try.prog 69 #[AW xA xn xc false,AW yA yn yc false] w (RetI w (cmpZ x y)):=by
 go_enter Try.func69,Try.ntmps69
 have f:=St.start w
 refine wp_seq_k fun q g=>?_
 refine wp_region_lit ?_
 refine wpList_plain rfl fun K hK=>o_box (W2 xA xn xc false) rfl rfl rfl f fun b r h c=>hK _ _ ?_
 simp only [PA]
 refine wpList_plain rfl fun K hK=>o_box (W2 yA yn yc false) rfl rfl rfl h fun d s a e=>hK _ _ ?_
 simp only [PA]
 refine PV (I 0) rfl rfl ?_
 simp only [PA]
 refine wpList_nil ?_
 refine g _ _ ?_
 refine wp_seq_k fun t j=>?_
 refine wp_seq_k fun v k=>?_
 refine wp_region_lit ?_
 refine PV (PT b 1) (by kernel_rfl) rfl ?_
 simp only [PA]
 refine PV (T false) (run_load1 (T false) rfl rfl (a.at_ _ (MI (i:=1) rfl)) rfl (ag4 _)) rfl ?_
 simp only [PA]
 refine PV (PT d 1) (by kernel_rfl) rfl ?_
 simp only [PA]
 refine PV (T false) (run_load1 (T false) rfl rfl (a.at_ _ (MI (i:=0) rfl)) rfl (ag4 _)) rfl ?_
 simp only [PA]
 refine PV (T false) (CT (run_bin (T false) (T false) _ rfl rfl rfl (bin_neq_4 _ _ _ _)) (rfl)) rfl ?_
 simp only [PA]
 refine wpList_nil ?_
 refine k _ _ ?_
 refine cond_false rfl ?_
 refine wp_skip ?_
 refine j _ _ ?_
 refine wp_seq_k fun z l=>?_
 refine wp_seq_k fun A m=>?_
 refine wp_region_lit ?_
 refine PV (PT b 1) (by kernel_rfl) rfl ?_
 simp only [PA]
 refine PV (T false) (run_load1 (T false) rfl rfl (a.at_ _ (MI (i:=1) rfl)) rfl (ag4 _)) rfl ?_
 simp only [PA]
 refine wpList_nil ?_
 refine m _ _ ?_
 refine cond_false rfl ?_
 refine wp_skip ?_
 refine l _ _ ?_
 refine wp_seq_k fun C n=>?_
 refine wp_region_lit ?_
 refine PV (PT b 0) (by kernel_rfl) rfl ?_
 simp only [PA]
 refine PV (E xA xn xc) (run_load1 (E xA xn xc) rfl rfl (a.at_ _ (MI (i:=1) rfl)) rfl (ag36 _)) rfl ?_
 simp only [PA]
 refine PV (PT d 0) (by kernel_rfl) rfl ?_
 simp only [PA]
 refine PV (E yA yn yc) (run_load1 (E yA yn yc) rfl rfl (a.at_ _ (MI (i:=0) rfl)) rfl (ag36 _)) rfl ?_
 simp only [PA]
 refine wpList_plain rfl fun K hK=>o_call 110 _ #[E xA xn xc,E yA yn yc] Try.func110 (by kernel_rfl) rfl rfl rfl a (order_c (dx.u (c.trans e)) (dy.u (c.trans e))) fun D F o p G=>?_
 subst o
 refine hK _ _ ?_
 simp only [PA]
 refine PV (I (cmpN ((x).natAbs) ((y).natAbs))) rfl rfl ?_
 simp only [PA]
 refine wpList_nil ?_
 refine n _ _ ?_
 refine wp_ret ?_
 refine bodyPost_ret (results_tmp rfl _ _ _) rfl ?_
 exact ⟨⟨_,rfl,congrArg (Value.int .i64) (cmp_pos (of_decide_eq_false sgx) (of_decide_eq_false sgy))⟩,p.bl⟩
theorem cmp69 {v u : Value} {x y : Int} {w : World} (hx : Wh w v x) (hy : Wh w u y) : Calls Try.prog 69 #[v, u] w (RetI w (cmpZ x y)) := by
 obtain ⟨xA, xn, xc, rfl, dx⟩ := hx
 obtain ⟨yA, yn, yc, rfl, dy⟩ := hy
 cases sgx : decide (x < 0) <;> cases sgy : decide (y < 0)
 ·exact cmp69_ff sgx sgy dx dy
 ·exact cmp69_ft sgx sgy dx dy
 ·exact cmp69_tf sgx sgy dx dy
 ·exact cmp69_tt sgx sgy dx dy
end Go.Proofs.Ythhgjloephkpaaa
namespace Go.Proofs.Ythhgjloephkpaaa
set_option linter.unusedVariables false
set_option linter.unusedSimpArgs false
open Go Go.RowKit Go.Proofs.YthhgjloephkpaaaW.PrintWords Go.Proofs.YthhgjloephkpaaaW.PrintLast
/-- A value that is the reference's rational number. -/
def Qh (w : World) (v : Value) (q : Rat) : Prop := ∃ A n c s A' n' c' s' D, v = .agg #[.slice A n c, .bool s, .slice A' n' c', .bool s'] ∧ Wh w (.agg #[.slice A n c, .bool s]) q.num ∧ Wh w (.agg #[.slice A' n' c', .bool s']) D ∧ (D = (q.den : Int) ∨ (D = 0 ∧ q = 0))
theorem Qh.u {w w' : World} {v : Value} {q : Rat} (h : Qh w v q) (hu : U w w') : Qh w' v q := by
  obtain ⟨A, n, c, s, A', n', c', s', D, e, h1, h2, h3⟩ := h
  exact ⟨A, n, c, s, A', n', c', s', D, e, h1.u hu, h2.u hu, h3⟩
theorem Qh.mk {w : World} {A A' : Option Addr} {n c n' c' : Nat} {s s' : Bool} {a b : Int} {q : Rat} (h1 : Wh w (.agg #[.slice A n c, .bool s]) a) (h2 : Wh w (.agg #[.slice A' n' c', .bool s']) b) (ha : a = q.num) (hb : b = (q.den : Int)) :
    Qh w (.agg #[.slice A n c, .bool s, .slice A' n' c', .bool s']) q := ⟨A, n, c, s, A', n', c', s', b, rfl, ha ▸ h1, h2, .inl hb⟩
structure QFit (k : Nat) (q : Rat) : Prop where
  n : Fit k q.num
  d : Fit k (q.den : Int)
theorem QFit.mono {k m : Nat} {q : Rat} (h : QFit k q) (hm : k ≤ m) : QFit m q := ⟨h.n.mono hm, h.d.mono hm⟩
theorem Fit.ediv {k : Nat} {x : Int} {g : Nat} (h : Fit k x) : Fit k (x / (g : Int)) := h.le (by
  by_cases hg : g = 0
  · subst hg; simp
  · exact Int.natAbs_ediv_le_natAbs x g)
theorem Fit.zero {k : Nat} : Fit k 0 := by unfold Fit FitN; rw [Int.natAbs_zero, dg_zero]; exact Nat.zero_le _
theorem QFit.over {k : Nat} {n d : Int} (h : Fit k n) (h2 : Fit k d) (hd : d ≠ 0) : QFit k (Rat.divInt n d) := by
  rcases Int.lt_or_gt_of_ne hd with h0 | h0
  · rw [← over_neg]
    have h3 : 0 < -d := by omega
    exact ⟨by rw [over_num h3]; exact h.neg.ediv, by rw [over_den h3]; exact h2.neg.ediv⟩
  · exact ⟨by rw [over_num h0]; exact h.ediv, by rw [over_den h0]; exact h2.ediv⟩
theorem QFit.add {k m : Nat} {x y : Rat} (h : QFit k x) (h2 : QFit m y) : QFit (k + m + 1) (x + y) := by
  rw [← add_over]
  exact QFit.over ((h.n.mul h2.d).add ((h2.n.mul h.d).mono (by omega))) ((h.d.mul h2.d).mono (by omega)) (by have := Int.mul_pos (den_pos x) (den_pos y); omega)
theorem QFit.mul {k m : Nat} {x y : Rat} (h : QFit k x) (h2 : QFit m y) : QFit (k + m) (x * y) := by
  rw [← mul_over]
  exact QFit.over (h.n.mul h2.n) (h.d.mul h2.d) (by have := Int.mul_pos (den_pos x) (den_pos y); omega)
theorem QFit.neg {k : Nat} {x : Rat} (h : QFit k x) : QFit k (-x) := ⟨by rw [Rat.neg_num]; exact h.n.neg, by rw [Rat.neg_den]; exact h.d⟩
theorem QFit.sub {k m : Nat} {x y : Rat} (h : QFit k x) (h2 : QFit m y) : QFit (k + m + 1) (x - y) := by rw [Rat.sub_eq_add_neg]; exact h.add h2.neg
theorem QFit.div {k m : Nat} {x y : Rat} (h : QFit k x) (h2 : QFit m y) (h0 : y ≠ 0) : QFit (k + m) (x / y) := by
  rw [← div_over]
  exact QFit.over (h.n.mul h2.d) ((h.d.mul h2.n).mono (by omega)) (fun e => by
    rcases Int.mul_eq_zero.1 e with e1 | e1
    · have := den_pos x; omega
    · exact h0 (Rat.num_eq_zero.1 e1))
/-- The contract of the quotient and the rest of amounts. -/
def RetSS (w : World) (x y : Nat) (e : Ending) (w' : World) : Prop := (∃ v, e = .returned v ∧ ∃ v1 v2, v = .tuple #[v1, v2] ∧ Sl w' v1 x ∧ Sl w' v2 y) ∧ Below w.heap.size w w'
def RetIB (w : World) (z : Int) (e : Ending) (w' : World) : Prop := (∃ v, e = .returned v ∧ ∃ n b, v = .tuple #[.int .i64 n, .bool b] ∧ (b = true ↔ -9223372036854775808 ≤ z ∧ z < 9223372036854775808) ∧ (b = true → n = z)) ∧ Below w.heap.size w w'
theorem ofInt_c {z : Int} {w : World} (h1 : -9223372036854775808 ≤ z) (h2 : z < 9223372036854775808) : Calls Try.prog 66 #[.int .i64 z] w (RetW w z) := ofInt_any z h1 h2 w
theorem ratio_num {n d : Int} (hd : 0 < d) : (if decide (n < 0) = true then -((((n.natAbs / Nat.gcd n.natAbs d.natAbs : Nat))) : Int) else ((((n.natAbs / Nat.gcd n.natAbs d.natAbs : Nat))) : Int)) = (Rat.divInt n d).num := by
  rw [over_num hd]
  have e : ((Int.gcd n d : Nat) : Int) = ((Nat.gcd n.natAbs d.natAbs : Nat) : Int) := rfl
  rw [e]
  by_cases h : n < 0
  · rw [decide_eq_true h, if_pos rfl, Int.natCast_ediv, show ((n.natAbs : Nat) : Int) = -n by omega]
    obtain ⟨k, hk⟩ := Int.gcd_dvd_left (a := n) (b := d)
    rw [e] at hk
    have hg : ((Nat.gcd n.natAbs d.natAbs : Nat) : Int) ≠ 0 := by
      have := Nat.gcd_pos_of_pos_right n.natAbs (by omega : 0 < d.natAbs)
      omega
    generalize ((Nat.gcd n.natAbs d.natAbs : Nat) : Int) = g at *
    rw [hk, ← Int.mul_neg, Int.mul_ediv_cancel_left _ hg, Int.mul_ediv_cancel_left _ hg, Int.neg_neg]
  · rw [decide_eq_false h, if_neg (by simp), Int.natCast_ediv, show ((n.natAbs : Nat) : Int) = n by omega]
theorem ratio_den {n d : Int} (hd : 0 < d) : (if false = true then -((((d.natAbs / Nat.gcd n.natAbs d.natAbs : Nat))) : Int) else ((((d.natAbs / Nat.gcd n.natAbs d.natAbs : Nat))) : Int)) = ((Rat.divInt n d).den : Int) := by
  rw [if_neg (by simp), Int.natCast_ediv, show ((d.natAbs : Nat) : Int) = d by omega, over_den hd]
  rfl
theorem ratio_gcd1 {n d : Int} (hd : 0 < d) (h : Nat.gcd n.natAbs d.natAbs = 1) : n = (Rat.divInt n d).num ∧ d = ((Rat.divInt n d).den : Int) := ⟨(over_num_one hd h).symm, (over_den_one hd h).symm⟩
theorem ratio_d1 {n d : Int} (h : d = 1) : n = (Rat.divInt n d).num ∧ d = ((Rat.divInt n d).den : Int) := ratio_gcd1 (by omega) (by subst h; simp)
theorem wp_cut {P : Program} {c : Code} {Q : Exit → Act → World → Prop} {a : Act} {w : World} (R : Act → World → Prop) (h : c.wp P (Exit.then R Q) a w) (k : ∀ a w, R a w → Q .normal a w) : c.wp P Q a w :=
  Code.wp_mono (fun e a w q => by cases e <;> first | exact q | exact k _ _ q) h
end Go.Proofs.Ythhgjloephkpaaa
namespace Go.Proofs.Ythhgjloephkpaaa
set_option linter.unusedVariables false
set_option linter.unusedSimpArgs false
open Go Go.RowKit Go.Proofs.YthhgjloephkpaaaW.PrintWords Go.Proofs.YthhgjloephkpaaaW.PrintLast
theorem lenpos_f {w : World} {A : Option Addr} {n c x : Nat} (h : Wds w A n c (dg x)) (hx : x = 0) : decide ((0 : Int) < (n : Int)) = false := by
  rw [← h.len, dg_len_pos, hx]; rfl
theorem lenpos_t {w : World} {A : Option Addr} {n c x : Nat} (h : Wds w A n c (dg x)) (hx : ¬ x = 0) : decide ((0 : Int) < (n : Int)) = true := by
  rw [← h.len, dg_len_pos]; exact decide_eq_true (by omega)
theorem Fit.fdiv {k : Nat} {x y : Int} (h : Fit k x) (hy : 0 < y) : Fit (k + 1) (x / y) := by
  have := Int.natAbs_ediv_le_natAbs x y
  exact (h.le this).mono (Nat.le_succ k)
theorem QFit.int {k : Nat} {z : Int} (h : Fit (k + 1) z) : QFit (k + 1) ((z : Int) : Rat) := ⟨h, by rw [Rat.den_intCast]; exact FitN_one.mono (by omega)⟩
theorem QFit.floor {k : Nat} {x : Rat} (h : QFit k x) : QFit (k + 1) ((x.floor : Int) : Rat) := QFit.int (by rw [Rat.floor_def]; exact Fit.fdiv h.n (den_pos x))
theorem QFit.ceil {k : Nat} {x : Rat} (h : QFit k x) : QFit (k + 1) ((x.ceil : Int) : Rat) := QFit.int (by rw [Rat.ceil_eq_neg_floor_neg]; exact (QFit.floor h.neg).n.neg)
theorem QFit.abs {k : Nat} {x : Rat} (h : QFit k x) : QFit k x.abs := by
  rcases Rat.le_total (a := 0) (b := x) with h1 | h1
  · rw [Rat.abs_of_nonneg h1]; exact h
  · rw [Rat.abs_of_nonpos h1]; exact h.neg
theorem QFit.inv {k : Nat} {x : Rat} (h : QFit k x) : QFit (2 + k) (x⁻¹) := by
  by_cases h0 : x = 0
  · subst h0; exact ⟨by rw [Rat.inv_zero]; exact Fit.zero, by rw [Rat.inv_zero]; exact FitN_one.mono (by omega)⟩
  · have := QFit.div (k := 2) (QFit.int (k := 1) (z := 1) (FitN_one.mono (by omega))) h h0
    rwa [show (((1 : Int) : Rat)) / x = x⁻¹ from by rw [Rat.div_def]; exact Rat.one_mul _] at this
theorem cmpZ_eq {x y : Int} (h : x = y) : cmpZ x y = 0 := by unfold cmpZ; rw [if_neg (by omega), if_pos h]
theorem cmpZ_gt {x y : Int} (h : y < x) : cmpZ x y = 1 := by unfold cmpZ; rw [if_neg (by omega), if_neg (by omega)]
theorem cmpR_zero (x : Rat) : cmpZ x.num 0 = cmpR x 0 := by
  have := cmp_over x 0
  simpa using this
theorem cmpR_lt0 {x : Rat} : (cmpR x 0 < 0) ↔ x < 0 := by
  unfold cmpR
  by_cases h : x < 0
  · rw [if_pos h]; simp [h]
  · rw [if_neg h]; split <;> simp [h]
def good (q : Rat) : Prop := -1000000000000 ≤ q.num ∧ q.num ≤ 1000000000000 ∧ (q.den : Int) ≤ 1000000000000
instance (q : Rat) : Decidable (good q) := by unfold good; infer_instance
def RetV (w : World) (x : Value) (e : Ending) (w' : World) : Prop := (∃ v, e = .returned v ∧ v = x) ∧ Below w.heap.size w w'
theorem least_of {p : Nat → Prop} {n : Nat} (h : p n) : ∃ k, p k ∧ ∀ m, p m → k ≤ m := by
  induction n using Nat.strongRecOn with
  | _ n ih =>
    by_cases h2 : ∃ m, m < n ∧ p m
    · obtain ⟨m, hm, hp⟩ := h2; exact ih m hm hp
    · exact ⟨n, h, fun m hm => Nat.le_of_not_lt fun e => h2 ⟨m, e, hm⟩⟩
/-- A loop whose measure stands in no slot. -/
theorem wp_loop_g {P : Program} {c : Code} {Q : Exit → Act → World → Prop} {a : Act} {w : World} (I : Nat → Act → World → Prop) (n : Nat) (h0 : I n a w)
    (round : ∀ n a w, I n a w → c.wp P (Exit.then (fun a' w' => ∃ m, m < n ∧ I m a' w') Q) a w) : (Code.loop c).wp P Q a w := by
  classical
  let μ : Act → World → Nat := fun a w => if h : ∃ k, I k a w ∧ ∀ m, I m a w → k ≤ m then Classical.choose h else 0
  refine wp_loop (fun a w => ∃ n, I n a w) μ ⟨n, h0⟩ (fun a w h => ?_)
  obtain ⟨k, hk⟩ := h
  have h1 := least_of (p := fun n => I n a w) hk
  have e1 : μ a w = Classical.choose h1 := dif_pos h1
  refine Code.wp_mono (fun e a' w' q => ?_) (round _ a w (Classical.choose_spec h1).1)
  cases e <;> try exact q
  obtain ⟨m, hm, hI⟩ := q
  have h2 := least_of (p := fun n => I n a' w') hI
  have e2 : μ a' w' = Classical.choose h2 := dif_pos h2
  refine ⟨⟨m, hI⟩, ?_⟩
  rw [e1, e2]
  exact Nat.lt_of_le_of_lt ((Classical.choose_spec h2).2 m hI) hm
end Go.Proofs.Ythhgjloephkpaaa
namespace Go.Proofs.Ythhgjloephkpaaa.Lx
set_option linter.unusedVariables false
set_option linter.unusedSimpArgs false
open Go Go.RowKit Go.Proofs.Ythhgjloephkpaaa Go.Proofs.YthhgjloephkpaaaW.PrintWords Go.Proofs.YthhgjloephkpaaaW.PrintLast

inductive Ex
  | nrm
  | exit (n : Nat)
  | ret
def Ex.to : Ex → Exit
  | .nrm => .normal
  | .exit n => .exit n
  | .ret => .ret
def firstR : Code → Option Nat
  | .region id _ _ => some id
  | .seq a _ => firstR a
  | .block _ c => firstR c
  | .loop c => firstR c
  | .scope c => firstR c
  | _ => none
def EntT (S : SS) : List (Nat × TV) → Prop
  | [] => True
  | p :: l => (match look S.tm p.1 with
    | some v => AsOk v p.2
    | none => False) ∧ EntT S l
def AsL (l m : List SV) : Prop := ∀ γ s cs, RepL γ s l cs → RepL γ s m cs
def EntB (S : SS) : List (Nat × TypeId × List SV) → Prop
  | [] => True
  | p :: l => (match look S.bx p.1 with
    | some q => q.1 = p.2.1 ∧ AsL q.2 p.2.2
    | none => False) ∧ EntB S l
def wfB (S : SS) : Bool := S.tm.all (fun p => p.2.nm fun b => Nat.blt b S.nx) && S.bx.all (fun p => Nat.blt p.1 S.nx && okNm S p.2.2)
/-- The state S' holds where S does. -/
def Ent (S S' : SS) : Prop := wfB S' = true ∧ S.n = S'.n ∧ EntT S S'.tm ∧ EntB S S'.bx
theorem look_mem {β : Type _} {k : Nat} {v : β} : ∀ {l : List (Nat × β)}, look l k = some v → (k, v) ∈ l
  | p :: l, h => by
    unfold look at h
    split at h
    · rename_i e
      injection h with h
      have := Nat.eq_of_beq_eq_true e
      subst this h
      exact List.mem_cons_self
    · exact List.mem_cons_of_mem _ (look_mem h)
  | [], h => by cases h
theorem entT_spec {S : SS} {k : Nat} {v : TV} : ∀ {l : List (Nat × TV)}, EntT S l → (k, v) ∈ l → ∃ u, look S.tm k = some u ∧ AsOk u v
  | p :: l, h, hm => by
    rcases List.mem_cons.1 hm with e | e
    · subst e
      have h1 := h.1
      split at h1
      · rename_i u hu; exact ⟨u, hu, h1⟩
      · cases h1
    · exact entT_spec h.2 e
  | [], _, hm => by cases hm
theorem entB_spec {S : SS} {k : Nat} {v : TypeId × List SV} : ∀ {l : List (Nat × TypeId × List SV)}, EntB S l → (k, v) ∈ l → ∃ u, look S.bx k = some u ∧ u.1 = v.1 ∧ AsL u.2 v.2
  | p :: l, h, hm => by
    rcases List.mem_cons.1 hm with e | e
    · subst e
      have h1 := h.1
      split at h1
      · rename_i u hu; exact ⟨u, hu, h1⟩
      · cases h1
    · exact entB_spec h.2 e
  | [], _, hm => by cases hm
theorem Ent.wf {S S' : SS} (h : Ent S S') : Wf S' := by
  have h1 := h.1
  unfold wfB at h1
  rw [Bool.and_eq_true] at h1
  have hb : ∀ b ty l, look S'.bx b = some (ty, l) → b < S'.nx ∧ okNm S' l = true := fun b ty l hl => by
    have := List.all_eq_true.1 h1.2 _ (look_mem hl)
    rw [Bool.and_eq_true] at this
    exact ⟨blt_lt this.1, this.2⟩
  refine ⟨fun b hb' => ?_, fun k v hv => List.all_eq_true.1 h1.1 _ (look_mem hv), fun b ty l hl => (hb b ty l hl).2⟩
  obtain ⟨⟨ty, l⟩, e⟩ := Option.isSome_iff_exists.1 hb'
  exact (hb b ty l e).1
section
variable {P : Program} {w0 : World} {s0 : Kst} {Q : Exit → Act → World → Prop}
theorem Ok.ent {S S' : SS} {a : Act} {w : World} (h : Ok w0 s0 S a w) (he : Ent S S') : Ok w0 s0 S' a w := by
  obtain ⟨γ, s, e, hs, h1, h2⟩ := h
  obtain ⟨hw, hn, ht, hb⟩ := he
  refine ⟨γ, s, e, ⟨hs.df, by rw [← hn]; exact hs.sz, fun k v hv => ?_, fun b ty l hl => ?_, fun b b' hb1 hb2 heq => ?_⟩, h1, h2⟩
  · obtain ⟨u, hu, ha⟩ := entT_spec ht (look_mem hv)
    exact ha _ _ _ (hs.tm k u hu)
  · obtain ⟨⟨t, m⟩, hu, e1, e2⟩ := entB_spec hb (look_mem hl)
    obtain ⟨cs, k, r⟩ := hs.bx b t m hu
    have e1 : t = ty := e1
    subst e1
    exact ⟨cs, e2 _ _ _ k, r⟩
  · obtain ⟨x, hx⟩ := Option.isSome_iff_exists.1 hb1
    obtain ⟨y, hy⟩ := Option.isSome_iff_exists.1 hb2
    obtain ⟨u, hu, _⟩ := entB_spec hb (look_mem hx)
    obtain ⟨u', hu', _⟩ := entB_spec hb (look_mem hy)
    exact hs.inj b b' (by rw [hu]; rfl) (by rw [hu']; rfl) heq
abbrev Kn := Ex → Tr → SS → Prop
def Kn.then (K : Kn) (k : Tr → SS → Prop) : Kn := fun e T S => match e with
  | .nrm => k T S
  | .exit n => K (.exit n) T S
  | .ret => K .ret T S
def Kn.block (K : Kn) (id : Nat) : Kn := fun e T S => match e with
  | .nrm => K .nrm T S
  | .exit n => match Nat.beq n id with
    | true => K .nrm T S
    | false => K (.exit n) T S
  | .ret => K .ret T S
def exec (P : Program) : Code → Tr → SS → Kn → Prop
  | .skip, T, S, K => K .nrm T S
  | .region _ ops dr, T, S, K => runR P ops ops.toList T S [] fun T' S' its => match (!dr || indR ops 0 its.reverse) with
    | true => K .nrm T' S'
    | false => False
  | .seq a b, T, S, K => match T with
    | .cut r inv j k => match isN (firstR b) r with
      | true => exec P a j S (K.then fun T' S' => ∃ g, Ent S' (inv g)) ∧ ∀ g, exec P b (k g) (inv g) K
      | false => exec P a (.cut r inv j k) S (K.then fun T' S' => exec P b T' S' K)
    | T => exec P a T S (K.then fun T' S' => exec P b T' S' K)
  | .cond c a b, T, S, K => match scO S c with
    | some (.bool true) => exec P a T S K
    | some (.bool false) => exec P b T S K
    | _ => False
  | .block id c, T, S, K => exec P c T S (K.block id)
  | .loop c, T, S, K => match T with
    | .loop g inv μ k => Ent S (inv g) ∧ ∀ g, exec P c (k g) (inv g) (K.then fun T' S' => ∃ g', Ent S' (inv g') ∧ μ g' < μ g)
    | _ => False
  | .exit n, T, S, K => K (.exit n) T S
  | .scope c, T, S, K => exec P c T S K
  | .ret, T, S, K => K .ret T S
  | _, _, _, _ => False
theorem scO_ok {S : SS} {a : Act} {w : World} (h : Ok w0 s0 S a w) {c : Operand} {v : Value} (hc : scO S c = some v) : a.eval c = v := by
  obtain ⟨γ, s, e, hs, _, _⟩ := h
  unfold scO at hc
  split at hc
  · rename_i t ht
    cases c with
    | tmp k => exact sc_rep hc (hs.tm k t ht)
    | const v' =>
      unfold opT at ht
      simp only at ht
      split at ht
      · injection ht with ht; subst ht
        unfold TV.sc UV.sc valsOf valsOf at hc
        show v' = v
        simpa using hc
      · cases ht
    | func f =>
      unfold opT at ht
      simp only at ht
      injection ht with ht; subst ht
      unfold TV.sc UV.sc valsOf valsOf at hc
      show Value.func (.func f) #[] #[] = v
      simpa using hc
    | global g => cases ht
  · cases hc
theorem exec_sound (hm : P.follows .mixedOrders = true) : ∀ (c : Code) {T : Tr} {S : SS} {K : Kn} {Q : Exit → Act → World → Prop} {a : Act} {w : World}, exec P c T S K → Wf S → Ok w0 s0 S a w →
    (∀ e T' S' a w, K e T' S' → Wf S' → Ok w0 s0 S' a w → Q (e.to) a w) → c.wp P Q a w
  | .skip, T, S, K, Q, a, w, h, hw, hk, hq => wp_skip (hq _ _ _ _ _ h hw hk)
  | .region id ops dr, T, S, K, Q, a, w, h, hw, hk, hq => by
    obtain ⟨T', S', js, e, hc, h1⟩ := runR_sound h
    rw [List.append_nil, List.reverse_reverse] at h1
    split at h1
    · rename_i hd
      have hend : ∀ a w, Ok w0 s0 S' a w → Q .normal a w := fun a w ha => hq _ _ _ _ _ h1 (hc.wf hw) ha
      cases dr with
      | false =>
        have := chain_list (Q := Q) hc hw hk hend
        rw [e] at this
        exact wp_region_list this
      | true =>
        have hind : indR ops 0 js = true := by simpa using hd
        refine wp_region_any hm ?_
        have hk' : Ok w0 s0 S a { w with drawn := w.drawn + 1 } := by
          obtain ⟨γ, s, rfl, hs, hB, hL⟩ := hk
          have hle : Le s ⟨{ s.w with drawn := s.w.drawn + 1 }, s.fz, s.lt⟩ := ⟨fun _ _ _ _ h _ => h, fun g hg => ⟨hg, rfl⟩, Nat.le_refl _, fun g hg => .inl hg⟩
          exact ⟨γ, _, rfl, ⟨hs.df, hs.sz, fun k v hv => (hs.tm k v hv).up hle, fun b ty l hl => (hs.bx b ty l hl).up hle ⟨rfl, rfl, rfl, Nat.le_refl _, fun _ _ => rfl⟩, hs.inj⟩, hB.drew, hL.trans hle⟩
        refine any_go hind hc hw e hend ops.size _ a _ (by simp) ?_ ?_ ?_
        · intro k ok _ hl
          by_cases h : k < ops.size <;> simp [h] at hl
        · rw [List.filter_eq_self.2]
          · simp
          · intro i hi
            by_cases h : i < ops.size <;> simp [h]
        · rw [part_none]
          · exact hk'
          · intro j
            rw [Nat.zero_add]
            by_cases h : j < ops.size <;> simp [h]
    · cases h1
  | .seq x y, T, S, K, Q, a, w, h, hw, hk, hq => by
    have plain : ∀ T, exec P x T S (K.then fun T' S' => exec P y T' S' K) → (Code.seq x y).wp P Q a w := fun T h => by
      refine wp_seq (exec_sound hm x h hw hk fun e T' S' a w h1 hw' hk' => ?_)
      cases e with
      | nrm => exact exec_sound hm y h1 hw' hk' hq
      | exit n => exact hq _ _ _ _ _ h1 hw' hk'
      | ret => exact hq _ _ _ _ _ h1 hw' hk'
    unfold exec at h
    split at h
    · split at h
      · refine wp_seq (exec_sound hm x h.1 hw hk fun e T' S' a w h1 hw' hk' => ?_)
        cases e with
        | nrm =>
          obtain ⟨g, hg⟩ := h1
          exact exec_sound hm y (h.2 g) hg.wf (hk'.ent hg) hq
        | exit n => exact hq _ _ _ _ _ h1 hw' hk'
        | ret => exact hq _ _ _ _ _ h1 hw' hk'
      · exact plain _ h
    · exact plain _ h
  | .cond c x y, T, S, K, Q, a, w, h, hw, hk, hq => by
    unfold exec at h
    split at h
    · rename_i hc
      exact wp_cond_true (scO_ok hk hc) (exec_sound hm x h hw hk hq)
    · rename_i hc
      exact wp_cond_false (scO_ok hk hc) (exec_sound hm y h hw hk hq)
    · cases h
  | .block id c, T, S, K, Q, a, w, h, hw, hk, hq => by
    refine wp_block (exec_sound hm c h hw hk fun e T' S' a w h1 hw' hk' => ?_)
    cases e with
    | nrm => exact hq _ _ _ _ _ h1 hw' hk'
    | exit n =>
      show Exit.inBlock id Q (.exit n) a w
      unfold Exit.inBlock
      simp only
      have h1 : (match Nat.beq n id with | true => K .nrm T' S' | false => K (.exit n) T' S') := h1
      by_cases e : n = id
      · subst e
        rw [Nat.beq_refl] at h1
        rw [if_pos rfl]
        exact hq _ _ _ _ _ h1 hw' hk'
      · have : Nat.beq n id = false := by cases e' : Nat.beq n id with
          | false => rfl
          | true => exact absurd (Nat.eq_of_beq_eq_true e') e
        rw [this] at h1
        rw [if_neg e]
        exact hq _ _ _ _ _ h1 hw' hk'
    | ret => exact hq _ _ _ _ _ h1 hw' hk'
  | .loop c, T, S, K, Q, a, w, h, hw, hk, hq => by
    unfold exec at h
    split at h
    · rename_i σ g inv μ k
      refine wp_loop_g (fun n a w => ∃ g, μ g = n ∧ Wf (inv g) ∧ Ok w0 s0 (inv g) a w) (μ g) ⟨g, rfl, h.1.wf, hk.ent h.1⟩ (fun n a w ⟨g, e, hw', hk'⟩ => ?_)
      refine exec_sound hm c (h.2 g) hw' hk' fun e' T' S' a w h1 hw2 hk2 => ?_
      cases e' with
      | nrm =>
        obtain ⟨g', hg, hlt⟩ := h1
        exact ⟨μ g', by omega, g', rfl, hg.wf, hk2.ent hg⟩
      | exit n => exact hq _ _ _ _ _ h1 hw2 hk2
      | ret => exact hq _ _ _ _ _ h1 hw2 hk2
    · cases h
  | .exit n, T, S, K, Q, a, w, h, hw, hk, hq => wp_exit (hq _ _ _ _ _ h hw hk)
  | .scope c, T, S, K, Q, a, w, h, hw, hk, hq => by
    refine wp_scope_straight (exec_sound hm c h hw hk fun e T' S' a w h1 hw' hk' => ?_)
    have := hq e T' S' a w h1 hw' hk'
    cases e <;> exact this
  | .ret, T, S, K, Q, a, w, h, hw, hk, hq => wp_ret (hq _ _ _ _ _ h hw hk)
  | .rangeFunc .., T, S, K, Q, a, w, h, hw, hk, hq => by cases h
  | .label _, T, S, K, Q, a, w, h, hw, hk, hq => by cases h
  | .goto _, T, S, K, Q, a, w, h, hw, hk, hq => by cases h
  | .refuse _, T, S, K, Q, a, w, h, hw, hk, hq => by cases h
end
end Go.Proofs.Ythhgjloephkpaaa.Lx
namespace Go.Proofs.Ythhgjloephkpaaa.Lx
set_option linter.unusedVariables false
set_option linter.unusedSimpArgs false
open Go Go.RowKit Go.Proofs.Ythhgjloephkpaaa Go.Proofs.YthhgjloephkpaaaW.PrintWords Go.Proofs.YthhgjloephkpaaaW.PrintLast

def resU (P : Program) (S : SS) : ResultVar → Option UV
  | .tmp t => match look S.tm t with
    | some (.u u) => some u
    | _ => none
  | .cell p ty => match look S.tm p with
    | some (.u ⟨false, [.ptr b off]⟩) => match look S.bx b, pureVal P (isAgg ty), pureVal P (sizeOf ty) with
      | some (_, l), some g, some n => match cutW off l with
        | some (_, r) => match cutW (cw g n) r with
          | some (m, _) => some ⟨g, m⟩
          | none => none
        | none => none
      | _, _, _ => none
    | _ => none
def resL (P : Program) (S : SS) : List ResultVar → Option (List UV)
  | [] => some []
  | r :: l => match resU P S r, resL P S l with
    | some u, some m => some (u :: m)
    | _, _ => none
def resT (P : Program) (S : SS) (l : List ResultVar) : Option TV := match resL P S l with
  | some [u] => some (.u u)
  | some m => some (.tup m)
  | none => none
def retK (P : Program) (fn : Func) (r : TV) : Kn := fun e T S => match e with
  | .exit _ => False
  | _ => match resT P S fn.results.toList with
    | some v => AsOk v r
    | none => False
def enumT : Nat → List TV → List (Nat × TV)
  | _, [] => []
  | i, t :: l => (i, t) :: enumT (i + 1) l
def S0 (args : List TV) (n : Nat) : SS := ⟨enumT 0 args, [], 0, n⟩
theorem enumT_spec : ∀ {l : List TV} {i k : Nat} {v : TV}, look (enumT i l) k = some v → ∃ j, k = i + j ∧ l[j]? = some v
  | t :: l, i, k, v, h => by
    unfold enumT at h
    by_cases e : i = k
    · rw [look_here e] at h; injection h with h; subst h e; exact ⟨0, rfl, rfl⟩
    · rw [look_off e] at h
      obtain ⟨j, e1, e2⟩ := enumT_spec h
      exact ⟨j + 1, by omega, by simpa using e2⟩
  | [], i, k, v, h => by cases h
section
variable {P : Program} {w0 : World} {s0 : Kst}
theorem repAll_get {γ : Nat → Nat} {s : Kst} : ∀ {l : List TV} {vs : List Value} {i : Nat} {t : TV}, RepAll γ s l vs → l[i]? = some t → ∃ v, vs[i]? = some v ∧ t.Rep γ s v
  | c :: l, vs, 0, u, ⟨x, y, e, k1, k2⟩, h => by simp at h; subst h; exact ⟨x, by rw [e]; rfl, k1⟩
  | c :: l, vs, i + 1, u, ⟨x, y, e, k1, k2⟩, h => by
    simp at h
    obtain ⟨v, hv, k⟩ := repAll_get k2 h
    exact ⟨v, by rw [e]; simpa using hv, k⟩
  | [], vs, i, u, _, h => by simp at h
theorem repAll_len {γ : Nat → Nat} {s : Kst} : ∀ {l : List TV} {vs : List Value}, RepAll γ s l vs → vs.length = l.length
  | [], vs, k => by rw [show vs = [] from k]; rfl
  | c :: l, vs, ⟨x, y, e, k1, k2⟩ => by rw [e, List.length_cons, List.length_cons, repAll_len k2]
theorem loadVar_run {γ : Nat → Nat} {s : Kst} {n0 b off n : Nat} {t ty : TypeId} {l r m p q : List SV} {g : Bool} (hb : BoxAt n0 γ s b t l) (hg : pureVal P (isAgg ty) = some g) (hn : pureVal P (sizeOf ty) = some n) (h1 : cutW off l = some (p, r)) (h2 : cutW (cw g n) r = some (m, q)) :
    ∃ x, (loadVar ty ⟨γ b, off, none⟩).run P s.w = .ok x s.w ∧ (UV.mk g m).Rep γ s x := by
  have h := ok_load (P := P) (γ := γ) (s := s) (n0 := n0) (b := b) (off := off) (t := t) (o := { dst := none, op := .load ty (.const (.pointer (some ⟨γ b, off, none⟩))), type := 0, pos := "", after := #[], guard := none }) (a := ⟨#[], []⟩) rfl rfl hb hg hn h1 h2
  obtain ⟨x, hr, hx⟩ := h
  refine ⟨x, ?_, hx⟩
  unfold execOp at hr
  simp only [Act.eval, Instr.loadAt, Instr.sureAddr, Sem.run_bind, Sem.run_pure, Result.andThen_ok] at hr
  cases hl : (loadVar ty ⟨γ b, off, none⟩).run P s.w with
  | ok y w' =>
    rw [hl] at hr
    simp only [Result.andThen_ok] at hr
    injection hr with h1 h2
    injection h1 with h1
    rw [h1, h2]
  | halt y w' => rw [hl] at hr; cases hr
def resF (tmps : Array Value) : ResultVar → Sem Value
  | .tmp t => pure (tmps.getD t undef)
  | .cell p ty => do loadVar ty (← asAddr (tmps.getD p undef))
theorem results_eq (fn : Func) (tmps : Array Value) : results fn tmps = (fn.results.mapM (resF tmps) >>= fun vs => pure (if h : vs.size = 1 then vs[0] else .tuple vs)) := by
  have e : (fun x => match x with
    | .tmp t => pure (tmps.getD t undef)
    | .cell a t => do loadVar t (← asAddr (tmps.getD a undef))) = resF tmps := by funext x; cases x <;> rfl
  rw [← e]; rfl
theorem resU_run {γ : Nat → Nat} {s : Kst} {a : Act} {S : SS} {n0 : Nat} (hs : Sat n0 γ s a S) {r : ResultVar} {u : UV} (h : resU P S r = some u) :
    ∃ x, (resF a.tmps r).run P s.w = .ok x s.w ∧ u.Rep γ s x := by
  cases r with
  | tmp t =>
    unfold resU at h
    simp only at h
    split at h
    · rename_i u' hu
      injection h with h; subst h
      exact ⟨_, rfl, hs.tm t _ hu⟩
    · cases h
  | cell p ty =>
    unfold resU at h
    simp only at h
    split at h
    · rename_i b off hu
      have hp := ptr_rep (hs.tm p _ hu)
      split at h
      · rename_i t l g n hl hg hn
        split at h
        · rename_i p' r h1
          split at h
          · rename_i m q h2
            injection h with h; subst h
            obtain ⟨x, hx, hr⟩ := loadVar_run (hs.bx b t l hl) hg hn h1 h2
            refine ⟨x, ?_, hr⟩
            unfold resF
            simp only [hp, asAddr, Sem.run_bind, Sem.run_pure, Result.andThen_ok]
            exact hx
          · cases h
        · cases h
      · cases h
    · cases h
theorem resL_run {γ : Nat → Nat} {s : Kst} {a : Act} {S : SS} {n0 : Nat} (hs : Sat n0 γ s a S) : ∀ {l : List ResultVar} {us : List UV}, resL P S l = some us →
    ∃ xs : List Value, (l.mapM (resF a.tmps)).run P s.w = .ok xs s.w ∧ RepT γ s us xs
  | [], us, h => by unfold resL at h; injection h with h; subst h; exact ⟨[], by simp [go_sem], rfl⟩
  | r :: l, us, h => by
    unfold resL at h
    split at h
    · rename_i u m h1 h2
      injection h with h; subst h
      obtain ⟨x, hx, hr⟩ := resU_run hs h1
      obtain ⟨xs, hxs, hrs⟩ := resL_run hs h2
      refine ⟨x :: xs, ?_, x, xs, rfl, hr, hrs⟩
      rw [List.mapM_cons, Sem.run_bind, hx, Result.andThen_ok, Sem.run_bind, hxs, Result.andThen_ok, Sem.run_pure]
    · cases h
theorem resT_run {γ : Nat → Nat} {s : Kst} {a : Act} {S : SS} {n0 : Nat} (hs : Sat n0 γ s a S) {fn : Func} {v : TV} (h : resT P S fn.results.toList = some v) : ∃ x, (results fn a.tmps).run P s.w = .ok x s.w ∧ v.Rep γ s x := by
  unfold resT at h
  have key : ∀ us, resL P S fn.results.toList = some us → ∃ xs : List Value, (results fn a.tmps).run P s.w = .ok (if h : xs.toArray.size = 1 then xs.toArray[0] else .tuple xs.toArray) s.w ∧ RepT γ s us xs := fun us hu => by
    obtain ⟨xs, hxs, hrs⟩ := resL_run hs hu
    refine ⟨xs, ?_, hrs⟩
    rw [results_eq, Array.mapM_eq_mapM_toList]
    simp only [Sem.run_bind, map_eq_pure_bind, hxs, Result.andThen_ok, Sem.run_pure]
  split at h
  · rename_i u hu
    injection h with h; subst h
    obtain ⟨xs, hr, x, y, e, k1, k2⟩ := key _ hu
    rw [show y = [] from k2] at e
    subst e
    exact ⟨x, by rw [hr]; rfl, k1⟩
  · rename_i m hne hu
    injection h with h; subst h
    obtain ⟨xs, hr, k⟩ := key _ hu
    refine ⟨.tuple xs.toArray, ?_, xs, rfl, k⟩
    rw [hr]
    have : ¬ xs.toArray.size = 1 := fun e => by
      cases m with
      | nil => rw [show xs = [] from k] at e; simp at e
      | cons a m =>
        cases m with
        | nil => exact hne a rfl
        | cons b m =>
          obtain ⟨x1, y1, e1, _, x2, y2, e2, _, _⟩ := k
          rw [e1, e2] at e; simp at e
    rw [dif_neg this]
  · cases h
theorem spec_exec {f : FuncId} {fn : Func} {c : Code} {args : List TV} {T : Tr} {r : TV} (hf : P.funcs[f]? = some fn) (hb : fn.body = some c) (hname : (fn.name == "runtime.NumGoroutine") = false) (hm : P.follows .mixedOrders = true)
    (hnt : Nat.ble args.length fn.ntmps = true) (hcl : args.all (TV.nm fun _ => false) = true) (hcr : r.nm (fun _ => false) = true) (h : exec P c T (S0 args fn.ntmps) (retK P fn r)) : Spec P f args r := by
  refine ⟨fun vs w => enters_ hf hname (by rw [hb]; rfl) vs w, fun γ s vs hvs => ?_⟩
  have hlen := repAll_len hvs
  have hnt' := Nat.le_of_ble_eq_true hnt
  refine calls_of_wp hf hb (exec_sound (w0 := s.w) (s0 := s) hm c h ?_ ⟨γ, s, rfl, ?_, Below.refl _ _, Le.refl _⟩ fun e T' S' a w h1 hw hk => ?_)
  · refine ⟨fun b hb' => Bool.noConfusion hb', fun k v hv => ?_, fun b ty l hl => nomatch hl⟩
    obtain ⟨j, _, hj⟩ := enumT_spec hv
    exact TV.nm_le (fun _ h => by cases h) (List.all_eq_true.1 hcl _ (List.mem_of_getElem? hj))
  · refine ⟨rfl, ?_, fun k v hv => ?_, fun b ty l hl => (nomatch hl), fun b b' hb1 _ _ => Bool.noConfusion hb1⟩
    · simp [S0, hlen]; omega
    · obtain ⟨j, e, hj⟩ := enumT_spec hv
      rw [Nat.zero_add] at e; subst e
      obtain ⟨x, hx, hr⟩ := repAll_get hvs hj
      have hlt : k < vs.length := (List.getElem?_eq_some_iff.1 hx).1
      have : (vs.toArray ++ Array.replicate (fn.ntmps - vs.toArray.size) undef).getD k undef = x := by
        rw [Array.getD_eq_getD_getElem?, Array.getElem?_append_left (by simpa using hlt)]
        simp [hx]
      show TV.Rep γ s v ((vs.toArray ++ Array.replicate (fn.ntmps - vs.toArray.size) undef).getD k undef)
      rw [this]; exact hr
  · obtain ⟨γ', t, rfl, hs, hB, hL⟩ := hk
    have hret : ∀ v, resT P S' fn.results.toList = some v → AsOk v r → a.defers = [] ∧ ∃ x, (results fn a.tmps).run P t.w = .ok x t.w ∧ ∃ x' t', Ending.returned x = .returned x' ∧ t'.w = t.w ∧ Le s t' ∧ Below s.w.heap.size s.w t.w ∧ ∀ δ, r.Rep δ t' x' := fun v hv ha => by
      obtain ⟨x, hx, hr⟩ := resT_run hs hv
      exact ⟨hs.df, x, hx, x, t, rfl, rfl, hL, hB, fun δ => (ha _ _ _ hr).ren (fun _ h => by cases h) hcr⟩
    unfold retK at h1
    cases e with
    | exit n => cases h1
    | nrm =>
      simp only at h1
      split at h1
      · rename_i v hv; exact hret v hv h1
      · cases h1
    | ret =>
      simp only at h1
      split at h1
      · rename_i v hv; exact hret v hv h1
      · cases h1
end
end Go.Proofs.Ythhgjloephkpaaa.Lx
namespace Go.Proofs.Ythhgjloephkpaaa
set_option linter.unusedVariables false
set_option linter.unusedSimpArgs false
open Go Go.RowKit Go.Proofs.YthhgjloephkpaaaW.PrintWords Go.Proofs.YthhgjloephkpaaaW.PrintLast

theorem win_at (pre wl post : List Nat) (j : Nat) (hj : j < wl.length) : (pre ++ wl ++ post).getD (pre.length + j) 0 = wl.getD j 0 := by
  rw [List.getD_eq_getElem?_getD, List.getD_eq_getElem?_getD, List.append_assoc, List.getElem?_append_right (by omega), Nat.add_sub_cancel_left, List.getElem?_append_left hj]
theorem win_set (pre wl post : List Nat) (j v : Nat) (hj : j < wl.length) : (pre ++ wl ++ post).set (pre.length + j) v = pre ++ wl.set j v ++ post := by
  rw [List.append_assoc, List.set_append_right _ _ (by omega), Nat.add_sub_cancel_left, List.set_append_left _ _ hj, List.append_assoc]
theorem take_set_le {l : List Nat} {j v : Nat} : (l.set j v).take j = l.take j := by
  rw [List.take_set_of_le (Nat.le_refl j)]
/-- One step of taking q times y away. -/
theorem sub_step {w0 cur y : List Nat} {j q cy br lo e cy' br' : Nat} (hl : cur.length = w0.length) (hj : j < w0.length) (hd : Dig cur) (hcur : ∀ i, j ≤ i → cur.getD i 0 = w0.getD i 0)
    (hv : val (cur.take j) + q * val (y.take j) = val (w0.take j) + BW ^ j * (cy + br)) (he : e < BW) (h1 : cy + q * y.getD j 0 = lo + BW * cy') (h2 : w0.getD j 0 + BW * br' = e + lo + br) :
    (cur.set j e).length = w0.length ∧ Dig (cur.set j e) ∧ (∀ i, j + 1 ≤ i → (cur.set j e).getD i 0 = w0.getD i 0) ∧
      val ((cur.set j e).take (j + 1)) + q * val (y.take (j + 1)) = val (w0.take (j + 1)) + BW ^ (j + 1) * (cy' + br') := by
  refine ⟨by rw [List.length_set, hl], hd.set j he, fun i hi => by rw [getD_set, if_neg (by omega)]; exact hcur i (by omega), ?_⟩
  rw [val_take_step, val_take_step, val_take_step, take_set_le, getD_set, if_pos ⟨rfl, by omega⟩, Nat.pow_succ, Nat.mul_assoc]
  have e1 := congrArg (BW ^ j * ·) h1
  have e2 := congrArg (BW ^ j * ·) h2
  simp only [Nat.mul_add] at e1 e2 hv ⊢
  have e3 : q * (BW ^ j * y.getD j 0) = BW ^ j * (q * y.getD j 0) := by rw [← Nat.mul_assoc, Nat.mul_comm q, Nat.mul_assoc]
  omega
/-- One step of giving y back. -/
theorem add_step {c0 cur y : List Nat} {j cy : Nat} (hl : cur.length = c0.length) (hj : j < c0.length) (hd : Dig cur) (hcur : ∀ i, j ≤ i → cur.getD i 0 = c0.getD i 0)
    (hv : val (cur.take j) + BW ^ j * cy = val (c0.take j) + val (y.take j)) :
    (cur.set j ((cy + c0.getD j 0 + y.getD j 0) % BW)).length = c0.length ∧ Dig (cur.set j ((cy + c0.getD j 0 + y.getD j 0) % BW)) ∧ (∀ i, j + 1 ≤ i → (cur.set j ((cy + c0.getD j 0 + y.getD j 0) % BW)).getD i 0 = c0.getD i 0) ∧
      val ((cur.set j ((cy + c0.getD j 0 + y.getD j 0) % BW)).take (j + 1)) + BW ^ (j + 1) * ((cy + c0.getD j 0 + y.getD j 0) / BW) = val (c0.take (j + 1)) + val (y.take (j + 1)) := by
  refine ⟨by rw [List.length_set, hl], hd.set j (Nat.mod_lt _ BW_pos), fun i hi => by rw [getD_set, if_neg (by omega)]; exact hcur i (by omega), ?_⟩
  rw [val_take_step, val_take_step, val_take_step, take_set_le, getD_set, if_pos ⟨rfl, by omega⟩, Nat.pow_succ, Nat.mul_assoc]
  have h5 : BW ^ j * ((cy + c0.getD j 0 + y.getD j 0) % BW) + BW ^ j * (BW * ((cy + c0.getD j 0 + y.getD j 0) / BW)) = BW ^ j * (cy + c0.getD j 0 + y.getD j 0) := by
    rw [← Nat.mul_add, Nat.mod_add_div]
  rw [Nat.mul_add, Nat.mul_add] at h5
  omega
theorem add_end {cur : List Nat} {n V q X Y cy : Nat} (hl : cur.length = n) (hd : Dig cur) (hV : V + q * Y = X + BW ^ n) (hv : val cur + BW ^ n * cy = V + Y) (hq : 0 < q) (h1 : (q - 1) * Y ≤ X) (h2 : X - (q - 1) * Y < BW ^ n) (hcy : cy ≤ 1) : val cur = X - (q - 1) * Y := by
  have h3 := val_lt hd
  rw [hl] at h3
  have h4 : q * Y = (q - 1) * Y + Y := by
    conv => lhs; rw [show q = (q - 1) + 1 by omega, Nat.add_mul, Nat.one_mul]
  rcases (show cy = 0 ∨ cy = 1 by omega) with h | h
  · subst h; rw [Nat.mul_zero] at hv; omega
  · subst h; rw [Nat.mul_one] at hv; omega
end Go.Proofs.Ythhgjloephkpaaa
