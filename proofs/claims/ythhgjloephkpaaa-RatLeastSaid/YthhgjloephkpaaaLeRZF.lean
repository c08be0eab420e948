/- Words and walks for the row RowRatLeast, put together: RZF. -/
import Derived.Test.YthhgjloephkpaaaLe22
import Derived.Test.YthhgjloephkpaaaLe6
import Derived.Test.YthhgjloephkpaaaLe7
namespace Go.Proofs.Ythhgjloephkpaaa
set_option linter.unusedVariables false
set_option linter.unusedSimpArgs false
open Go Go.RowKit Go.Proofs.YthhgjloephkpaaaW.PrintWords Go.Proofs.YthhgjloephkpaaaW.PrintLast

theorem zgcd_step {a b : Int} (ha : 0 ≤ a) (hb : 0 < b) : 0 ≤ a.tmod b ∧ a.tmod b < b ∧ Int.gcd b (a.tmod b) = Int.gcd a b ∧ (a.tmod b).natAbs < b.natAbs := by
 obtain ⟨m, rfl⟩ : ∃ m : Nat, a = ((m : Nat) : Int) := ⟨a.natAbs, by omega⟩
 obtain ⟨n, rfl⟩ : ∃ m : Nat, b = ((m : Nat) : Int) := ⟨b.natAbs, by omega⟩
 have h := Nat.mod_lt m (show 0 < n by omega)
 rw [← Int.ofNat_tmod]
 refine ⟨by omega, by omega, ?_, by omega⟩
 rw [Int.gcd_natCast_natCast, Int.gcd_natCast_natCast, Nat.gcd_comm n, ← Nat.gcd_rec, Nat.gcd_comm]
theorem region_drawnL {P : Program} {ops : Array Oper} {Q : Exit → Act → World → Prop} (n : Nat) (f : Nat → Bool) (L' : List Bx) {L : List Bx} {w0 : World} {id : Nat} {a : Act} {w : World} (hm : P.follows .mixedOrders = true) (hn : ops.toList.length = n) (hs : St w0 w L)
  (h : ∀ wc, St w0 wc L → U w wc → wpAnyT P .any ops Q (Has L') f n (Array.replicate n false) a wc) : (Code.region id ops true).wp P Q a w :=
 wp_region_any hm (by rw [show ops.size = n from hn]; exact wpAny_of_tailT _ _ _ _ (h w.drew hs.drew (U.drew w)))
theorem Has.nil (w : World) : Has [] w := fun e h => by cases h
theorem Has.cons {w : World} {g : Nat} {cs : Array Value} {t : TypeId} {L : List Bx} (h : w.heap[g]? = some (.cells cs t (0, 0))) (k : Has L w) : Has (⟨g, cs, t⟩ :: L) w := fun e he => by
 rcases List.mem_cons.1 he with e1 | e1
 ·subst e1; exact h
 ·exact k e e1
theorem gcd_end {a b : Int} {g : Nat} (ha : 0 ≤ a) (hb : b = 0) (h : Int.gcd a b = g) : a = ((g : Nat) : Int) := by
 subst hb h; rw [Int.gcd_zero]; omega
theorem Fit.gcdr {k : Nat} {x y : Int} (h : Fit k y) (h0 : y ≠ 0) : Fit k ((Int.gcd x y : Nat) : Int) := by
 unfold Fit at *
 rw [Int.natAbs_natCast]
 exact FitN.gcdr h (by omega)
/-- A rational number of the program. -/
def Qz (w : World) (v : Value) (q : Rat) : Prop := ∃ i A n c s j B m d t, v = .agg #[.int .i64 i, .slice A n c, .bool s, .int .i64 j, .slice B m d, .bool t] ∧ Zh w (.agg #[.int .i64 i, .slice A n c, .bool s]) q.num ∧ Zh w (.agg #[.int .i64 j, .slice B m d, .bool t]) (q.den : Int)
theorem qzmk {w : World} {i j : Int} {A B : Option Addr} {n c m d : Nat} {s t : Bool} {q : Rat} (h : Zh w (.agg #[.int .i64 i, .slice A n c, .bool s]) q.num) (k : Zh w (.agg #[.int .i64 j, .slice B m d, .bool t]) (q.den : Int)) :
  Qz w (.agg #[.int .i64 i, .slice A n c, .bool s, .int .i64 j, .slice B m d, .bool t]) q := ⟨_, _, _, _, _, _, _, _, _, _, rfl, h, k⟩
theorem Qz.u {w w' : World} {v : Value} {q : Rat} (h : Qz w v q) (hu : U w w') : Qz w' v q := by
 obtain ⟨i, A, n, c, s, j, B, m, d, t, e, h1, h2⟩ := h
 exact ⟨i, A, n, c, s, j, B, m, d, t, e, h1.u hu, h2.u hu⟩
theorem Qz.below {w w' : World} {v : Value} {q : Rat} (h : Qz w v q) (hb : Below w.heap.size w w') : Qz w' v q := h.u (U.of_below hb)
/-- A rational number of the program, new. -/
def RetQz (w : World) (q : Rat) (e : Ending) (w' : World) : Prop := (∃ v, e = .returned v ∧ Qz w' v q) ∧ Below w.heap.size w w'
set_option maxRecDepth 100000 in
set_option maxHeartbeats 4000000 in
theorem gcd118 {v u:Value} {x y:Int} {w:World} (hx:Zh w v x) (hy:Zh w u y) (fx:Fit 100000000 x) (fy:Fit 100000000 y):Calls Try.prog 118 #[v,u] w (RetZ w ((Int.gcd x y:Nat):Int)):=by
 obtain ⟨xi,xA,xn,xc,xs,rfl,Zx⟩:=zopen hx
 obtain ⟨yi,yA,yn,yc,ys,rfl,Zy⟩:=zopen hy
 go_enter Try.func118,Try.ntmps118
 have bq:=St.start w
 refine wp_seq_k fun K1 br=>?_
 refine wp_region_lit ?_
 refine wpList_plain rfl fun K hK=>o_box (Z3 xi xA xn xc xs) rfl rfl rfl bq fun z w4 bs u6=>hK _ _ ?_
 simp only [PA]
 refine wpList_plain rfl fun K hK=>o_box (Z3 yi yA yn yc ys) rfl rfl rfl bs fun s w8 bt aW=>hK _ _ ?_
 simp only [PA]
 refine wpList_plain rfl fun K hK=>o_alloc (Z3 0 none 0 0 false) _ rfl (zv60 _) rfl rfl bt fun Y ch bu aX=>hK _ _ ?_
 simp only [PA]
 refine wpList_nil ?_
 refine br _ _ ?_
 refine wp_seq_k fun ci bv=>?_
 refine region_drawn 6 (fun j=>decide (4≤j)) (by kernel_rfl) rfl bu fun cj ao aY=>?_
 refine TK (i:=0) (AZ xi xA xn xc xs) rfl (by kernel_rfl) (fun _ _ _ h=>h) rfl (fun _ hS=>(run_loadA [I xi,E xA xn xc,T xs] rfl rfl (hS _ (MI (i:=2) rfl)) rfl (ag60 _) (sz60 _))) ao.has ?_
 simp only [PA]
 refine TK (i:=2) (AZ yi yA yn yc ys) rfl (by kernel_rfl) (fun _ _ _ h=>h) rfl (fun _ hS=>(run_loadA [I yi,E yA yn yc,T ys] rfl rfl (hS _ (MI (i:=1) rfl)) rfl (ag60 _) (sz60 _))) ao.has ?_
 simp only [PA]
 refine anyT_one (i:=1) rfl (by kernel_rfl) rfl fun K hK=>o_call 126 _ #[AZ xi xA xn xc xs] Try.func126 (by kernel_rfl) rfl rfl rfl ao (abs126 (Zx.u (((u6.trans aW).trans aX).trans aY)) fx) fun ck cl aB aE bw=>?_
 obtain ⟨aI,aT⟩:∃ zz_:Int,((x.natAbs:Nat):Int)=zz_:=⟨_,rfl⟩
 rw [aT] at aB
 have bx:Fit 100000000 aI:=aT▸(Fit.natAbs fx)
 obtain ⟨aa,ab,ad,ae,af,rfl,bz⟩:=zopen aB
 refine hK _ _ (fun _=>aE.has) ?_
 simp only [PA]
 refine anyT_one (i:=3) rfl (by kernel_rfl) rfl fun K hK=>o_call 126 _ #[AZ yi yA yn yc ys] Try.func126 (by kernel_rfl) rfl rfl rfl aE (abs126 (Zy.u ((((u6.trans aW).trans aX).trans aY).trans bw)) fy) fun cm cn aO aJ bC=>?_
 obtain ⟨ap,aZ⟩:∃ zz_:Int,((y.natAbs:Nat):Int)=zz_:=⟨_,rfl⟩
 rw [aZ] at aO
 have bD:Fit 100000000 ap:=aZ▸(Fit.natAbs fy)
 obtain ⟨ag,ah,aj,al,am,rfl,bF⟩:=zopen aO
 refine hK _ _ (fun _=>aJ.has) ?_
 simp only [PA]
 refine anyT_one (i:=4) rfl (by kernel_rfl) rfl fun K hK=>OT 2 (Z3 aa ab ad ae af) aJ (sz60 _) fun co bG a0=>hK _ _ (fun h=>absurd h (by decide)) ?_
 simp only [PA]
 refine anyT_one (i:=5) rfl (by kernel_rfl) rfl fun K hK=>OT 1 (Z3 ag ah aj al am) bG (sz60 _) fun a1 bH a2=>hK _ _ (fun h=>absurd h (by decide)) ?_
 simp only [PA]
 refine anyT_done (by kernel_rfl) ?_ _
 refine bv _ _ ?_
 refine wp_seq_k fun cp bK=>?_
 refine wp_block ?_
 refine wp_loop_g (fun mm aa_ w'=>∃ (a:Int) (ai:Int) (aA:Option Addr) (an:Nat) (ac:Nat) (a_s:Bool) (b:Int) (bi:Int) (bA:Option Addr) (bn:Nat) (bc:Nat) (b_s:Bool) (c:List Value),aa_=⟨#[AZ xi xA xn xc xs,AZ yi yA yn yc ys,PT z 0,PT s 0,PT Y 0,(GD c 0),(GD c 1),(GD c 2),(GD c 3),AZ xi xA xn xc xs,AZ aa ab ad ae af,AZ yi yA yn yc ys,AZ ag ah aj al am,(GD c 4),(GD c 5),(GD c 6),(GD c 7),(GD c 8),(GD c 9),(GD c 10),(GD c 11),(GD c 12),(GD c 13),(GD c 14),(GD c 15),(GD c 16),(GD c 17),(GD c 18),(GD c 19),(GD c 20),(GD c 21),(GD c 22),(GD c 23),(GD c 24),(GD c 25),(GD c 26),(GD c 27),(GD c 28),(GD c 29),(GD c 30),(GD c 31),(GD c 32),(GD c 33),(GD c 34),O],[]⟩∧St w w' [⟨Y,(Z3 0 none 0 0 false),60⟩,⟨s,(Z3 bi bA bn bc b_s),60⟩,⟨z,(Z3 ai aA an ac a_s),60⟩]∧(Zh w' (AZ ai aA an ac a_s) a)∧(Zh w' (AZ bi bA bn bc b_s) b)∧(0≤a∧0≤b∧Int.gcd a b=Int.gcd x y)∧(Fit 100000000 a)∧(Fit 100000000 b)∧U a1 w'∧b.natAbs=mm) (ap.natAbs) ⟨aI,aa,ab,ad,ae,af,ap,ag,ah,aj,al,am,[O,O,O,O,O,O,O,O,O,O,O,O,O,O,O,O,O,O,O,O,O,O,O,O,O,O,O,O,O,O,O,O,O,O,O],rfl,bH,(bz.u ((bC.trans a0).trans a2)),(bF.u (a0.trans a2)),⟨by omega,by omega,by first | rfl | (subst_vars; rfl)⟩,bx,bD,U.refl a1,rfl⟩ ?_
 rintro _ _ cq ⟨a,ai,aA,an,ac,a_s,b,bi,bA,bn,bc,b_s,c,rfl,a3,Za,Zb,hg,fa,fb,a4,rfl⟩
 refine wp_seq_k fun cs bL=>?_
 refine wp_seq_k fun cu a5=>?_
 refine wp_region_lit ?_
 refine PV (AZ bi bA bn bc b_s) (run_loadA [I bi,E bA bn bc,T b_s] rfl rfl (a3.at_ _ (MI (i:=1) rfl)) rfl (ag60 _) (sz60 _)) rfl ?_
 simp only [PA]
 refine wpList_plain rfl fun K hK=>o_call 82 _ #[AZ bi bA bn bc b_s] Try.func82 (by kernel_rfl) rfl rfl rfl a3 (sign82 Zb) fun cv cw bM t A=>?_
 subst bM
 refine hK _ _ ?_
 simp only [PA]
 by_cases aq:¬ b=0
 ·skip
  refine PV (T true) (CT (run_bin (I (cmpZ b 0)) (I 0) _ rfl rfl rfl (bin_neq_3 _ _ _ _)) (congrArg Value.bool (sgn_ne aq))) rfl ?_
  simp only [PA]
  refine wpList_nil ?_
  refine a5 _ _ ?_
  refine cond_true rfl ?_
  refine wp_skip ?_
  refine bL _ _ ?_
  refine wp_block ?_
  refine wp_seq_k fun cx a6=>?_
  refine wp_seq_k fun cy ar=>?_
  refine wp_region_lit ?_
  refine PV (PT z 1) (by kernel_rfl) rfl ?_
  simp only [PA]
  refine PV (E aA an ac) (run_load1 (E aA an ac) rfl rfl (t.at_ _ (MI (i:=2) rfl)) rfl (ag36 _)) rfl ?_
  simp only [PA]
  by_cases hA:aA.isNone=true
  ·skip
   refine PV (T true) (CT (run_bin (E aA an ac) (E none 0 0) _ rfl rfl rfl (bin_eql_36o _ _ _ _ _)) (congrArg Value.bool hA)) rfl ?_
   simp only [PA]
   refine PV (T true) rfl rfl ?_
   simp only [PA]
   refine wpList_on (by kernel_rfl) fun K hK=>o_val (PT s 1) (by kernel_rfl) (hK _ _ ?_)
   simp only [PA]
   refine wpList_on (by kernel_rfl) fun K hK=>o_val (E bA bn bc) (run_load1 (E bA bn bc) rfl rfl (t.at_ _ (MI (i:=1) rfl)) rfl (ag36 _)) (hK _ _ ?_)
   simp only [PA]
   by_cases hB:bA.isNone=true
   ·skip
    refine wpList_on (by kernel_rfl) fun K hK=>o_val (T true) (CT (run_bin (E bA bn bc) (E none 0 0) _ rfl rfl rfl (bin_eql_36o _ _ _ _ _)) (congrArg Value.bool hB)) (hK _ _ ?_)
    simp only [PA]
    refine PV (T true) rfl rfl ?_
    simp only [PA]
    refine wpList_nil ?_
    refine ar _ _ ?_
    refine cond_true rfl ?_
    refine wp_seq_k fun cz bN=>?_
    refine region_drawnP 6 (fun j=>decide (6≤j)) (by kernel_rfl) rfl t fun a7 au cA=>?_
    refine anyT_here (i:=0) (PT z 0) rfl (by kernel_rfl) (by kernel_rfl) (by kernel_rfl) (by kernel_rfl) (fun _ _ _ h=>h) rfl (by kernel_rfl) ?_
    simp only [PA]
    obtain ⟨ea,cC,cD⟩:=zsm Za hA
    obtain ⟨eb,cF,cG⟩:=zsm Zb hB
    refine anyT_here (i:=1) (I a) rfl (by kernel_rfl) (by kernel_rfl) (by kernel_rfl) (by kernel_rfl) (fun _ _ _ h=>h) rfl (CT (run_load1 (I ai) rfl rfl (au.at_ _ (MI (i:=2) rfl)) rfl (ag2 _)) (vint ea)) ?_
    simp only [PA]
    refine anyT_here (i:=2) (PT s 0) rfl (by kernel_rfl) (by kernel_rfl) (by kernel_rfl) (by kernel_rfl) (fun _ _ _ h=>h) rfl (by kernel_rfl) ?_
    simp only [PA]
    refine anyT_here (i:=3) (I b) rfl (by kernel_rfl) (by kernel_rfl) (by kernel_rfl) (by kernel_rfl) (fun _ _ _ h=>h) rfl (CT (run_load1 (I bi) rfl rfl (au.at_ _ (MI (i:=1) rfl)) rfl (ag2 _)) (vint eb)) ?_
    simp only [PA]
    refine anyT_here (i:=4) (I a) rfl (by kernel_rfl) (by kernel_rfl) (by kernel_rfl) (by kernel_rfl) (fun _ _ _ h=>h) rfl rfl ?_
    simp only [PA]
    refine anyT_here (i:=5) (I b) rfl (by kernel_rfl) (by kernel_rfl) (by kernel_rfl) (by kernel_rfl) (fun _ _ _ h=>h) rfl rfl ?_
    simp only [PA]
    refine anyT_done (by kernel_rfl) ?_ _
    refine bN _ _ ?_
    refine wp_seq_k fun cH bP=>?_
    refine wp_block ?_
    refine wp_loop_g (fun mm aa_ w'=>∃ (e:Int) (d:Int) (C:List Value),aa_=⟨#[AZ xi xA xn xc xs,AZ yi yA yn yc ys,PT z 0,PT s 0,PT Y 0,I e,I d,(GD c 2),(GD c 3),AZ xi xA xn xc xs,AZ aa ab ad ae af,AZ yi yA yn yc ys,AZ ag ah aj al am,AZ bi bA bn bc b_s,I (cmpZ b 0),T true,PT z 1,E aA an ac,T true,T true,PT s 1,E bA bn bc,T true,T true,PT z 0,I a,PT s 0,I b,(GD C 0),(GD C 1),(GD C 2),(GD C 3),(GD C 4),(GD C 5),(GD c 25),(GD c 26),(GD c 27),(GD c 28),(GD c 29),(GD c 30),(GD c 31),(GD c 32),(GD c 33),(GD c 34),O],[]⟩∧St w w' [⟨Y,(Z3 0 none 0 0 false),60⟩,⟨s,(Z3 bi bA bn bc b_s),60⟩,⟨z,(Z3 ai aA an ac a_s),60⟩]∧(0≤e∧e<9223372036854775808∧0≤d∧d<9223372036854775808∧Int.gcd e d=Int.gcd x y)∧U a7 w'∧d.natAbs=mm) (b.natAbs) ⟨a,b,[(GD c 19),(GD c 20),(GD c 21),(GD c 22),(GD c 23),(GD c 24)],rfl,au,⟨by omega,by omega,by omega,by omega,hg.2.2⟩,U.refl a7,rfl⟩ ?_
    rintro _ _ cK ⟨e,d,C,rfl,a8,hxy,bQ,rfl⟩
    refine wp_seq_k fun cL bR=>?_
    refine wp_seq_k fun cM a9=>?_
    refine wp_region_lit ?_
    refine PV (I d) rfl rfl ?_
    simp only [PA]
    by_cases av:d ≠ 0
    ·skip
     refine PV (T true) (CT (run_bin (I d) (I 0) _ rfl rfl rfl (bin_neq_2 _ _ _ _)) (congrArg Value.bool (bne_iff_ne.2 av))) rfl ?_
     simp only [PA]
     refine wpList_nil ?_
     refine a9 _ _ ?_
     refine cond_true rfl ?_
     refine wp_skip ?_
     refine bR _ _ ?_
     refine wp_block ?_
     refine region_drawnP 6 (fun j=>decide (6≤j)) (by kernel_rfl) rfl a8 fun cN bS bU=>?_
     refine anyT_here (i:=0) (I d) rfl (by kernel_rfl) (by kernel_rfl) (by kernel_rfl) (by kernel_rfl) (fun _ _ _ h=>h) rfl rfl ?_
     simp only [PA]
     refine anyT_here (i:=1) (I e) rfl (by kernel_rfl) (by kernel_rfl) (by kernel_rfl) (by kernel_rfl) (fun _ _ _ h=>h) rfl rfl ?_
     simp only [PA]
     refine anyT_here (i:=2) (I d) rfl (by kernel_rfl) (by kernel_rfl) (by kernel_rfl) (by kernel_rfl) (fun _ _ _ h=>h) rfl rfl ?_
     simp only [PA]
     refine anyT_here (i:=3) (I ((e:Int).tmod d)) rfl (by kernel_rfl) (by kernel_rfl) (by kernel_rfl) (by kernel_rfl) (fun _ _ _ h=>h) rfl (run_bin (I e) (I d) _ rfl rfl rfl (bin_rem_2 _ _ _ _ (by omega))) ?_
     simp only [PA]
     refine anyT_here (i:=4) (I d) rfl (by kernel_rfl) (by kernel_rfl) (by kernel_rfl) (by kernel_rfl) (fun _ _ _ h=>h) rfl rfl ?_
     simp only [PA]
     refine anyT_here (i:=5) (I ((e:Int).tmod d)) rfl (by kernel_rfl) (by kernel_rfl) (by kernel_rfl) (by kernel_rfl) (fun _ _ _ h=>h) rfl rfl ?_
     simp only [PA]
     refine anyT_done (by kernel_rfl) ?_ _
     exact ⟨(e.tmod d).natAbs,by exact (zgcd_step hxy.1 (b:=d) (by omega)).2.2.2,d,(e.tmod d),[I d,T true,I d,I e,I d,I ((e:Int).tmod d)],rfl,bS,by have h:=zgcd_step hxy.1 (b:=d) (by omega); exact ⟨by omega,by omega,h.1,by omega,h.2.2.1.trans hxy.2.2.2.2⟩,(bQ.trans bU),rfl⟩
    ·skip
     refine PV (T false) (CT (run_bin (I d) (I 0) _ rfl rfl rfl (bin_neq_2 _ _ _ _)) (congrArg Value.bool (bne_eq_false_iff_eq.2 (Classical.not_not.1 av)))) rfl ?_
     simp only [PA]
     refine wpList_nil ?_
     refine a9 _ _ ?_
     refine cond_false rfl ?_
     refine wp_exit ?_
     refine bP _ _ ?_
     refine wp_seq_k fun cP bV=>?_
     refine wp_region_lit ?_
     refine PV (I e) rfl rfl ?_
     simp only [PA]
     refine PV (AZ e none 0 0 false) (by kernel_rfl) rfl ?_
     simp only [PA]
     refine wpList_plain rfl fun K hK=>OT 0 (Z3 e none 0 0 false) a8 (sz60 _) fun cQ ba cR=>hK _ _ ?_
     simp only [PA]
     refine wpList_nil ?_
     refine bV _ _ ?_
     refine wp_ret ?_
     repeat (with_reducible first | refine then_ret ?_ | refine inBlock_ret ?_)
     refine bodyPost_ret (ret60 rfl _ rfl rfl (ba.at_ _ (MI (i:=0) rfl))) rfl ?_
     have hend:=gcd_end hxy.1 (Classical.not_not.1 av) hxy.2.2.2.2
     exact ⟨⟨_,rfl,hend▸Zh.small _ (by omega) (by omega)⟩,ba.bl⟩
   ·skip
    refine wpList_on (by kernel_rfl) fun K hK=>o_val (T false) (CT (run_bin (E bA bn bc) (E none 0 0) _ rfl rfl rfl (bin_eql_36o _ _ _ _ _)) (congrArg Value.bool (Bool.eq_false_iff.2 hB))) (hK _ _ ?_)
    simp only [PA]
    refine PV (T false) rfl rfl ?_
    simp only [PA]
    refine wpList_nil ?_
    refine ar _ _ ?_
    refine cond_false rfl ?_
    refine wp_skip ?_
    refine a6 _ _ ?_
    refine wp_seq_k fun cS bW=>?_
    refine wp_region_lit ?_
    refine PV (AZ ai aA an ac a_s) (run_loadA [I ai,E aA an ac,T a_s] rfl rfl (t.at_ _ (MI (i:=2) rfl)) rfl (ag60 _) (sz60 _)) rfl ?_
    simp only [PA]
    refine PV (AZ bi bA bn bc b_s) (run_loadA [I bi,E bA bn bc,T b_s] rfl rfl (t.at_ _ (MI (i:=1) rfl)) rfl (ag60 _) (sz60 _)) rfl ?_
    simp only [PA]
    refine wpList_plain rfl fun K hK=>o_call 77 _ #[AZ ai aA an ac a_s,AZ bi bA bn bc b_s] Try.func77 (by kernel_rfl) rfl rfl rfl t (quo77 (Za.u A) (Zb.u A) fa fb (by omega)) fun cU cV bX bY bb=>?_
    obtain ⟨cW,cX,rfl,bd,be⟩:=bX
    obtain ⟨bB,bf⟩:∃ zz_:Int,(a.tdiv b)=zz_:=⟨_,rfl⟩
    rw [bf] at bd
    have cY:Fit 100000000 bB:=bf▸(Fit.tdiv fa)
    obtain ⟨D,F,G,H,L,rfl,cB⟩:=zopen bd
    obtain ⟨aw,S⟩:∃ zz_:Int,(a.tmod b)=zz_:=⟨_,rfl⟩
    rw [S] at be
    have cE:Fit 100000000 aw:=S▸(Fit.tmod fa)
    obtain ⟨f,g,k,l,m,rfl,bE⟩:=zopen be
    refine hK _ _ ?_
    simp only [PA]
    refine PV (.tuple #[AZ D F G H L,AZ f g k l m]) rfl rfl ?_
    simp only [PA]
    refine PV (AZ D F G H L) rfl rfl ?_
    simp only [PA]
    refine PV (AZ f g k l m) rfl rfl ?_
    simp only [PA]
    refine wpList_plain rfl fun K hK=>o_alloc (Z3 0 none 0 0 false) _ rfl (zv60 _) rfl rfl bY fun bI cI bT ax=>hK _ _ ?_
    simp only [PA]
    refine wpList_plain rfl fun K hK=>o_alloc (Z3 0 none 0 0 false) _ rfl (zv60 _) rfl rfl bT fun bg cT bO ay=>hK _ _ ?_
    simp only [PA]
    refine wpList_plain rfl fun K hK=>OT 1 (Z3 D F G H L) bO (sz60 _) fun cO bJ az=>hK _ _ ?_
    simp only [PA]
    refine wpList_plain rfl fun K hK=>OT 0 (Z3 f g k l m) bJ (sz60 _) fun cJ bZ aC=>hK _ _ ?_
    simp only [PA]
    refine wpList_nil ?_
    refine bW _ _ ?_
    refine region_drawnL 4 (fun j=>decide (3≤j)) [⟨bg,(Z3 f g k l m),60⟩,⟨s,(Z3 bi bA bn bc b_s),60⟩] (by kernel_rfl) rfl bZ fun cZ V aD=>?_
    refine TK (i:=0) (AZ bi bA bn bc b_s) rfl (by kernel_rfl) (fun _ _ _ h=>h) rfl (fun _ hS=>(run_loadA [I bi,E bA bn bc,T b_s] rfl rfl (hS _ (MI (i:=1) rfl)) rfl (ag60 _) (sz60 _))) (Has.cons (V.at_ _ (MI (i:=0) rfl)) (Has.cons (V.at_ _ (MI (i:=3) rfl)) (Has.nil _))) ?_
    simp only [PA]
    refine TK (i:=1) (AZ f g k l m) rfl (by kernel_rfl) (fun _ _ _ h=>h) rfl (fun _ hS=>(run_loadA [I f,E g k l,T m] rfl rfl (hS _ (MI (i:=0) rfl)) rfl (ag60 _) (sz60 _))) (Has.cons (V.at_ _ (MI (i:=0) rfl)) (Has.cons (V.at_ _ (MI (i:=3) rfl)) (Has.nil _))) ?_
    simp only [PA]
    refine anyT_one (i:=2) rfl (by kernel_rfl) rfl fun K hK=>OT 4 (Z3 bi bA bn bc b_s) V (sz60 _) fun c0 aF aG=>hK _ _ (fun _=>(Has.cons (aF.at_ _ (MI (i:=0) rfl)) (Has.cons (aF.at_ _ (MI (i:=3) rfl)) (Has.nil _)))) ?_
    simp only [PA]
    refine anyT_one (i:=3) rfl (by kernel_rfl) rfl fun K hK=>OT 3 (Z3 f g k l m) aF (sz60 _) fun c1 b0 aH=>hK _ _ (fun h=>absurd h (by decide)) ?_
    simp only [PA]
    refine anyT_done (by kernel_rfl) ?_ _
    exact ⟨aw.natAbs,by have h:=(zgcd_step hg.1 (b:=b) (by omega)).2.2.2; rw [S] at h; exact h,b,bi,bA,bn,bc,b_s,aw,f,g,k,l,m,[(GD c 0),(GD c 1),PT bI 0,PT bg 0,AZ bi bA bn bc b_s,I (cmpZ b 0),T true,PT z 1,E aA an ac,T true,T true,PT s 1,E bA bn bc,T false,T false,(GD c 15),(GD c 16),(GD c 17),(GD c 18),(GD c 19),(GD c 20),(GD c 21),(GD c 22),(GD c 23),(GD c 24),(GD c 25),(GD c 26),.tuple #[AZ D F G H L,AZ f g k l m],AZ ai aA an ac a_s,AZ bi bA bn bc b_s,.tuple #[AZ D F G H L,AZ f g k l m],AZ D F G H L,AZ f g k l m,AZ bi bA bn bc b_s,AZ f g k l m],rfl,(b0.off 2),(Zb.u ((((((((A.trans bb).trans ax).trans ay).trans az).trans aC).trans aD).trans aG).trans aH)),(bE.u ((((((ax.trans ay).trans az).trans aC).trans aD).trans aG).trans aH)),by have h:=zgcd_step hg.1 (b:=b) (by omega); rw [S] at h; exact ⟨by omega,h.1,h.2.2.1.trans hg.2.2⟩,fb,(Fit.le fb (by have h:=(zgcd_step hg.1 (b:=b) (by omega)).2.2.2; rw [S] at h; omega)),(((((((((a4.trans A).trans bb).trans ax).trans ay).trans az).trans aC).trans aD).trans aG).trans aH),rfl⟩
  ·skip
   refine PV (T false) (CT (run_bin (E aA an ac) (E none 0 0) _ rfl rfl rfl (bin_eql_36o _ _ _ _ _)) (congrArg Value.bool (Bool.eq_false_iff.2 hA))) rfl ?_
   simp only [PA]
   refine PV (T false) rfl rfl ?_
   simp only [PA]
   with_reducible refine wpList_off ?_ ?_
   ·with_reducible exact wanted_off rfl rfl rfl
   simp only [PA]
   with_reducible refine wpList_off ?_ ?_
   ·with_reducible exact wanted_off rfl rfl rfl
   simp only [PA]
   with_reducible refine wpList_off ?_ ?_
   ·with_reducible exact wanted_off rfl rfl rfl
   simp only [PA]
   refine PV (T false) rfl rfl ?_
   simp only [PA]
   refine wpList_nil ?_
   refine ar _ _ ?_
   refine cond_false rfl ?_
   refine wp_skip ?_
   refine a6 _ _ ?_
   refine wp_seq_k fun c2 b1=>?_
   refine wp_region_lit ?_
   refine PV (AZ ai aA an ac a_s) (run_loadA [I ai,E aA an ac,T a_s] rfl rfl (t.at_ _ (MI (i:=2) rfl)) rfl (ag60 _) (sz60 _)) rfl ?_
   simp only [PA]
   refine PV (AZ bi bA bn bc b_s) (run_loadA [I bi,E bA bn bc,T b_s] rfl rfl (t.at_ _ (MI (i:=1) rfl)) rfl (ag60 _) (sz60 _)) rfl ?_
   simp only [PA]
   refine wpList_plain rfl fun K hK=>o_call 77 _ #[AZ ai aA an ac a_s,AZ bi bA bn bc b_s] Try.func77 (by kernel_rfl) rfl rfl rfl t (quo77 (Za.u A) (Zb.u A) fa fb (by omega)) fun c3 c4 b2 b3 bh=>?_
   obtain ⟨c5,c6,rfl,bj,bk⟩:=b2
   obtain ⟨b4,bm⟩:∃ zz_:Int,(a.tdiv b)=zz_:=⟨_,rfl⟩
   rw [bm] at bj
   have c7:Fit 100000000 b4:=bm▸(Fit.tdiv fa)
   obtain ⟨M,N,P,Q,R,rfl,c8⟩:=zopen bj
   obtain ⟨aK,W⟩:∃ zz_:Int,(a.tmod b)=zz_:=⟨_,rfl⟩
   rw [W] at bk
   have c9:Fit 100000000 aK:=W▸(Fit.tmod fa)
   obtain ⟨n,o,p,q,r,rfl,b5⟩:=zopen bk
   refine hK _ _ ?_
   simp only [PA]
   refine PV (.tuple #[AZ M N P Q R,AZ n o p q r]) rfl rfl ?_
   simp only [PA]
   refine PV (AZ M N P Q R) rfl rfl ?_
   simp only [PA]
   refine PV (AZ n o p q r) rfl rfl ?_
   simp only [PA]
   refine wpList_plain rfl fun K hK=>o_alloc (Z3 0 none 0 0 false) _ rfl (zv60 _) rfl rfl b3 fun b6 da b7 aL=>hK _ _ ?_
   simp only [PA]
   refine wpList_plain rfl fun K hK=>o_alloc (Z3 0 none 0 0 false) _ rfl (zv60 _) rfl rfl b7 fun bo db b8 aM=>hK _ _ ?_
   simp only [PA]
   refine wpList_plain rfl fun K hK=>OT 1 (Z3 M N P Q R) b8 (sz60 _) fun dc b9 aN=>hK _ _ ?_
   simp only [PA]
   refine wpList_plain rfl fun K hK=>OT 0 (Z3 n o p q r) b9 (sz60 _) fun dd ca aP=>hK _ _ ?_
   simp only [PA]
   refine wpList_nil ?_
   refine b1 _ _ ?_
   refine region_drawnL 4 (fun j=>decide (3≤j)) [⟨bo,(Z3 n o p q r),60⟩,⟨s,(Z3 bi bA bn bc b_s),60⟩] (by kernel_rfl) rfl ca fun de X aQ=>?_
   refine TK (i:=0) (AZ bi bA bn bc b_s) rfl (by kernel_rfl) (fun _ _ _ h=>h) rfl (fun _ hS=>(run_loadA [I bi,E bA bn bc,T b_s] rfl rfl (hS _ (MI (i:=1) rfl)) rfl (ag60 _) (sz60 _))) (Has.cons (X.at_ _ (MI (i:=0) rfl)) (Has.cons (X.at_ _ (MI (i:=3) rfl)) (Has.nil _))) ?_
   simp only [PA]
   refine TK (i:=1) (AZ n o p q r) rfl (by kernel_rfl) (fun _ _ _ h=>h) rfl (fun _ hS=>(run_loadA [I n,E o p q,T r] rfl rfl (hS _ (MI (i:=0) rfl)) rfl (ag60 _) (sz60 _))) (Has.cons (X.at_ _ (MI (i:=0) rfl)) (Has.cons (X.at_ _ (MI (i:=3) rfl)) (Has.nil _))) ?_
   simp only [PA]
   refine anyT_one (i:=2) rfl (by kernel_rfl) rfl fun K hK=>OT 4 (Z3 bi bA bn bc b_s) X (sz60 _) fun df aR aS=>hK _ _ (fun _=>(Has.cons (aR.at_ _ (MI (i:=0) rfl)) (Has.cons (aR.at_ _ (MI (i:=3) rfl)) (Has.nil _)))) ?_
   simp only [PA]
   refine anyT_one (i:=3) rfl (by kernel_rfl) rfl fun K hK=>OT 3 (Z3 n o p q r) aR (sz60 _) fun dh cb aU=>hK _ _ (fun h=>absurd h (by decide)) ?_
   simp only [PA]
   refine anyT_done (by kernel_rfl) ?_ _
   exact ⟨aK.natAbs,by have h:=(zgcd_step hg.1 (b:=b) (by omega)).2.2.2; rw [W] at h; exact h,b,bi,bA,bn,bc,b_s,aK,n,o,p,q,r,[(GD c 0),(GD c 1),PT b6 0,PT bo 0,AZ bi bA bn bc b_s,I (cmpZ b 0),T true,PT z 1,E aA an ac,T false,T false,O,O,O,T false,(GD c 15),(GD c 16),(GD c 17),(GD c 18),(GD c 19),(GD c 20),(GD c 21),(GD c 22),(GD c 23),(GD c 24),(GD c 25),(GD c 26),.tuple #[AZ M N P Q R,AZ n o p q r],AZ ai aA an ac a_s,AZ bi bA bn bc b_s,.tuple #[AZ M N P Q R,AZ n o p q r],AZ M N P Q R,AZ n o p q r,AZ bi bA bn bc b_s,AZ n o p q r],rfl,(cb.off 2),(Zb.u ((((((((A.trans bh).trans aL).trans aM).trans aN).trans aP).trans aQ).trans aS).trans aU)),(b5.u ((((((aL.trans aM).trans aN).trans aP).trans aQ).trans aS).trans aU)),by have h:=zgcd_step hg.1 (b:=b) (by omega); rw [W] at h; exact ⟨by omega,h.1,h.2.2.1.trans hg.2.2⟩,fb,(Fit.le fb (by have h:=(zgcd_step hg.1 (b:=b) (by omega)).2.2.2; rw [W] at h; omega)),(((((((((a4.trans A).trans bh).trans aL).trans aM).trans aN).trans aP).trans aQ).trans aS).trans aU),rfl⟩
 ·skip
  refine PV (T false) (CT (run_bin (I (cmpZ b 0)) (I 0) _ rfl rfl rfl (bin_neq_3 _ _ _ _)) (congrArg Value.bool (sgn_eq (Classical.not_not.1 aq)))) rfl ?_
  simp only [PA]
  refine wpList_nil ?_
  refine a5 _ _ ?_
  refine cond_false rfl ?_
  refine wp_exit ?_
  refine bK _ _ ?_
  refine wp_seq_k fun di cc=>?_
  refine wp_region_lit ?_
  refine PV (AZ ai aA an ac a_s) (run_loadA [I ai,E aA an ac,T a_s] rfl rfl (t.at_ _ (MI (i:=2) rfl)) rfl (ag60 _) (sz60 _)) rfl ?_
  simp only [PA]
  refine wpList_plain rfl fun K hK=>OT 0 (Z3 ai aA an ac a_s) t (sz60 _) fun dj bp cd=>hK _ _ ?_
  simp only [PA]
  refine wpList_nil ?_
  refine cc _ _ ?_
  refine wp_ret ?_
  repeat (with_reducible first | refine then_ret ?_ | refine inBlock_ret ?_)
  refine bodyPost_ret (ret60 rfl _ rfl rfl (bp.at_ _ (MI (i:=0) rfl))) rfl ?_
  have hend:=gcd_end hg.1 (Classical.not_not.1 aq) hg.2.2
  exact ⟨⟨_,rfl,hend▸(Za.u (A.trans cd))⟩,bp.bl⟩
set_option maxRecDepth 100000 in
set_option maxHeartbeats 4000000 in
theorem over78 {v u:Value} {x y:Int} {w:World} (hx:Zh w v x) (hy:Zh w u y) (fx:Fit 10000000 x) (fy:Fit 10000000 y) (cC:y ≠ 0):Calls Try.prog 78 #[v,u] w (RetQz w (Rat.divInt x y)):=by
 obtain ⟨xi,xA,xn,xc,xs,rfl,Zx⟩:=zopen hx
 obtain ⟨yi,yA,yn,yc,ys,rfl,Zy⟩:=zopen hy
 go_enter Try.func78,Try.ntmps78
 have bY:=St.start w
 refine wp_seq_k fun K1 bB=>?_
 refine wp_region_lit ?_
 refine wpList_plain rfl fun K hK=>o_box (Z3 xi xA xn xc xs) rfl rfl rfl bY fun g3 w4 bE u6=>hK _ _ ?_
 simp only [PA]
 refine wpList_plain rfl fun K hK=>o_box (Z3 yi yA yn yc ys) rfl rfl rfl bE fun g7 w8 bI ab=>hK _ _ ?_
 simp only [PA]
 refine wpList_plain rfl fun K hK=>o_alloc (Z6c 0 none 0 0 false 0 none 0 0 false) _ rfl (zv62 _) rfl rfl bI fun aS bT aU ad=>hK _ _ ?_
 simp only [PA]
 refine wpList_nil ?_
 refine bB _ _ ?_
 refine wp_seq_k fun cH bO=>?_
 refine wp_cut (fun aa_ w'=>∃ (a:Int) (ai:Int) (aA:Option Addr) (an:Nat) (ac:Nat) (a_s:Bool) (b:Int) (bi:Int) (bA:Option Addr) (bn:Nat) (bc:Nat) (b_s:Bool) (p:List Value),aa_=⟨#[AZ xi xA xn xc xs,AZ yi yA yn yc ys,PT g3 0,PT g7 0,PT aS 0,O,(GD p 0),(GD p 1),(GD p 2),(GD p 3),(GD p 4),(GD p 5),(GD p 6),O,O,O,O,O,O,O,O,O,O,O,O,O,O,O,O,O,O,O,O,O,O,O,O,O,O],[]⟩∧St w w' [⟨aS,(Z6c 0 none 0 0 false 0 none 0 0 false),62⟩,⟨g7,(Z3 bi bA bn bc b_s),60⟩,⟨g3,(Z3 ai aA an ac a_s),60⟩]∧(Zh w' (AZ ai aA an ac a_s) a)∧(Zh w' (AZ bi bA bn bc b_s) b)∧(0<b∧Rat.divInt a b=Rat.divInt x y)∧(Fit 10000000 a)∧(Fit 10000000 b)∧U bT w') ?_ ?_
 ·skip
  refine wp_seq_k fun cK aV=>?_
  refine wp_region_lit ?_
  refine PV (AZ yi yA yn yc ys) (run_loadA [I yi,E yA yn yc,T ys] rfl rfl (aU.at_ _ (MI (i:=1) rfl)) rfl (ag60 _) (sz60 _)) rfl ?_
  simp only [PA]
  refine wpList_plain rfl fun K hK=>o_call 82 _ #[AZ yi yA yn yc ys] Try.func82 (by kernel_rfl) rfl rfl rfl aU (sign82 (Zy.u ((u6.trans ab).trans ad))) fun cL cM bJ aW X=>?_
  subst bJ
  refine hK _ _ ?_
  simp only [PA]
  by_cases hn:y<0
  ·skip
   refine PV (T true) (CT (run_bin (I (cmpZ y 0)) (I 0) _ rfl rfl rfl (bin_lss_3 _ _ _ _)) (congrArg Value.bool (sgn_lt hn))) rfl ?_
   simp only [PA]
   refine wpList_nil ?_
   refine aV _ _ ?_
   refine cond_true rfl ?_
   refine region_drawn 6 (fun j=>decide (4≤j)) (by kernel_rfl) rfl aW fun cN ag ah=>?_
   refine TK (i:=0) (AZ xi xA xn xc xs) rfl (by kernel_rfl) (fun _ _ _ h=>h) rfl (fun _ hS=>(run_loadA [I xi,E xA xn xc,T xs] rfl rfl (hS _ (MI (i:=2) rfl)) rfl (ag60 _) (sz60 _))) ag.has ?_
   simp only [PA]
   refine TK (i:=2) (AZ yi yA yn yc ys) rfl (by kernel_rfl) (fun _ _ _ h=>h) rfl (fun _ hS=>(run_loadA [I yi,E yA yn yc,T ys] rfl rfl (hS _ (MI (i:=1) rfl)) rfl (ag60 _) (sz60 _))) ag.has ?_
   simp only [PA]
   refine anyT_one (i:=1) rfl (by kernel_rfl) rfl fun K hK=>o_call 101 _ #[AZ xi xA xn xc xs] Try.func101 (by kernel_rfl) rfl rfl rfl ag (neg101 (Zx.u ((((u6.trans ab).trans ad).trans X).trans ah)) (fx.mono (by decide))) fun cP cQ aX aY u32=>?_
   obtain ⟨aB,aE⟩:∃ zz_:Int,(-x)=zz_:=⟨_,rfl⟩
   rw [aE] at aX
   have bZ:Fit 10000000 aB:=aE▸(Fit.neg fx)
   obtain ⟨aj,al,am,ao,ap,rfl,b0⟩:=zopen aX
   refine hK _ _ (fun _=>aY.has) ?_
   simp only [PA]
   refine anyT_one (i:=3) rfl (by kernel_rfl) rfl fun K hK=>o_call 101 _ #[AZ yi yA yn yc ys] Try.func101 (by kernel_rfl) rfl rfl rfl aY (neg101 (Zy.u (((((u6.trans ab).trans ad).trans X).trans ah).trans u32)) (fy.mono (by decide))) fun cR cS aI aT aO=>?_
   obtain ⟨aJ,aZ⟩:∃ zz_:Int,(-y)=zz_:=⟨_,rfl⟩
   rw [aZ] at aI
   have b1:Fit 10000000 aJ:=aZ▸(Fit.neg fy)
   obtain ⟨aq,ar,au,av,aw,rfl,b2⟩:=zopen aI
   refine hK _ _ (fun _=>aT.has) ?_
   simp only [PA]
   refine anyT_one (i:=4) rfl (by kernel_rfl) rfl fun K hK=>OT 2 (Z3 aj al am ao ap) aT (sz60 _) fun cU b3 ax=>hK _ _ (fun h=>absurd h (by decide)) ?_
   simp only [PA]
   refine anyT_one (i:=5) rfl (by kernel_rfl) rfl fun K hK=>OT 1 (Z3 aq ar au av aw) b3 (sz60 _) fun cV b4 ay=>hK _ _ (fun h=>absurd h (by decide)) ?_
   simp only [PA]
   refine anyT_done (by kernel_rfl) ?_ _
   exact ⟨aB,aj,al,am,ao,ap,aJ,aq,ar,au,av,aw,[AZ yi yA yn yc ys,I (cmpZ y 0),T true,AZ xi xA xn xc xs,AZ aj al am ao ap,AZ yi yA yn yc ys,AZ aq ar au av aw],rfl,b4,(b0.u ((aO.trans ax).trans ay)),(b2.u (ax.trans ay)),⟨by omega,by first | rfl | exact over_neg x y | (subst_vars; exact over_neg x y)⟩,bZ,b1,(((((X.trans ah).trans u32).trans aO).trans ax).trans ay)⟩
  ·skip
   refine PV (T false) (CT (run_bin (I (cmpZ y 0)) (I 0) _ rfl rfl rfl (bin_lss_3 _ _ _ _)) (congrArg Value.bool (sgn_nlt hn))) rfl ?_
   simp only [PA]
   refine wpList_nil ?_
   refine aV _ _ ?_
   refine cond_false rfl ?_
   refine wp_skip ?_
   exact ⟨x,xi,xA,xn,xc,xs,y,yi,yA,yn,yc,ys,[AZ yi yA yn yc ys,I (cmpZ y 0),T false,O,O,O,O],rfl,aW,(Zx.u (((u6.trans ab).trans ad).trans X)),(Zy.u (((u6.trans ab).trans ad).trans X)),⟨by omega,by first | rfl | exact over_neg x y | (subst_vars; exact over_neg x y)⟩,fx,fy,X⟩
 ·skip
  rintro _ cW ⟨a,ai,aA,an,ac,a_s,b,bi,bA,bn,bc,b_s,p,rfl,az,Za,Zb,hd,fa,fb,u64⟩
  refine bO _ _ ?_
  refine wp_seq_k fun cX aC=>?_
  refine wp_seq_k fun cY b5=>?_
  refine wp_region_lit ?_
  refine PV (AZ ai aA an ac a_s) (run_loadA [I ai,E aA an ac,T a_s] rfl rfl (az.at_ _ (MI (i:=2) rfl)) rfl (ag60 _) (sz60 _)) rfl ?_
  simp only [PA]
  refine PV (AZ bi bA bn bc b_s) (run_loadA [I bi,E bA bn bc,T b_s] rfl rfl (az.at_ _ (MI (i:=1) rfl)) rfl (ag60 _) (sz60 _)) rfl ?_
  simp only [PA]
  refine wpList_plain rfl fun K hK=>o_call 118 _ #[AZ ai aA an ac a_s,AZ bi bA bn bc b_s] Try.func118 (by kernel_rfl) rfl rfl rfl az (gcd118 Za Zb (fa.mono (by decide)) (fb.mono (by decide))) fun cB cE a0 b6 Y=>?_
  obtain ⟨o,a1⟩:∃ zz_:Int,((Int.gcd a b:Nat):Int)=zz_:=⟨_,rfl⟩
  rw [a1] at a0
  have af:Fit 10000000 o:=a1▸(Fit.gcdr fb (by omega))
  obtain ⟨c,d,e,f,g,rfl,ae⟩:=zopen a0
  refine hK _ _ ?_
  simp only [PA]
  refine wpList_plain rfl fun K hK=>o_alloc (Z3 0 none 0 0 false) _ rfl (zv60 _) rfl rfl b6 fun a2 cI b7 k=>hK _ _ ?_
  simp only [PA]
  refine wpList_plain rfl fun K hK=>OT 0 (Z3 c d e f g) b7 (sz60 _) fun cT l m=>hK _ _ ?_
  simp only [PA]
  refine wpList_nil ?_
  refine b5 _ _ ?_
  refine wp_seq_k fun cO aD=>?_
  refine wp_region_lit ?_
  refine PV (PT a2 1) (by kernel_rfl) rfl ?_
  simp only [PA]
  refine PV (E d e f) (run_load1 (E d e f) rfl rfl (l.at_ _ (MI (i:=0) rfl)) rfl (ag36 _)) rfl ?_
  simp only [PA]
  by_cases hG:d.isNone=false
  ·skip
   refine PV (T true) (CT (run_bin (E d e f) (E none 0 0) _ rfl rfl rfl (bin_neq_36o _ _ _ _ _)) (congrArg Value.bool (by rw [hG]; rfl))) rfl ?_
   simp only [PA]
   refine PV (T true) rfl rfl ?_
   simp only [PA]
   with_reducible refine wpList_off ?_ ?_
   ·with_reducible exact wanted_off rfl rfl rfl
   simp only [PA]
   with_reducible refine wpList_off ?_ ?_
   ·with_reducible exact wanted_off rfl rfl rfl
   simp only [PA]
   with_reducible refine wpList_off ?_ ?_
   ·with_reducible exact wanted_off rfl rfl rfl
   simp only [PA]
   refine PV (T true) rfl rfl ?_
   simp only [PA]
   refine wpList_nil ?_
   refine aD _ _ ?_
   refine cond_true rfl ?_
   refine wp_seq_k fun cJ b8=>?_
   refine wp_region_lit ?_
   have hgp:=gcd_pos (n:=a) hd.1
   refine PV (AZ ai aA an ac a_s) (run_loadA [I ai,E aA an ac,T a_s] rfl rfl (l.at_ _ (MI (i:=3) rfl)) rfl (ag60 _) (sz60 _)) rfl ?_
   simp only [PA]
   refine PV (AZ c d e f g) (run_loadA [I c,E d e f,T g] rfl rfl (l.at_ _ (MI (i:=0) rfl)) rfl (ag60 _) (sz60 _)) rfl ?_
   simp only [PA]
   refine wpList_plain rfl fun K hK=>o_call 77 _ #[AZ ai aA an ac a_s,AZ c d e f g] Try.func77 (by kernel_rfl) rfl rfl rfl l (quo77 (Za.u ((Y.trans k).trans m)) (ae.u (k.trans m)) (fa.mono (by decide)) (af.mono (by decide)) (by omega)) fun cZ c0 b9 ca a3=>?_
   obtain ⟨c1,c2,rfl,a4,a5⟩:=b9
   obtain ⟨cb,a6⟩:∃ zz_:Int,(a.tdiv o)=zz_:=⟨_,rfl⟩
   rw [a6] at a4
   have c3:Fit 10000000 cb:=a6▸(Fit.tdiv fa)
   obtain ⟨q,r,s,t,z,rfl,cc⟩:=zopen a4
   obtain ⟨cd,a7⟩:∃ zz_:Int,(a.tmod o)=zz_:=⟨_,rfl⟩
   rw [a7] at a5
   have c4:Fit 10000000 cd:=a7▸(Fit.tmod fa)
   obtain ⟨a8,a9,ba,bb,bd,rfl,c5⟩:=zopen a5
   refine hK _ _ ?_
   simp only [PA]
   refine PV (.tuple #[AZ q r s t z,AZ a8 a9 ba bb bd]) rfl rfl ?_
   simp only [PA]
   refine PV (AZ q r s t z) rfl rfl ?_
   simp only [PA]
   refine PV (AZ a8 a9 ba bb bd) rfl rfl ?_
   simp only [PA]
   refine wpList_plain rfl fun K hK=>OT 3 (Z3 q r s t z) ca (sz60 _) fun c6 aF aG=>hK _ _ ?_
   simp only [PA]
   refine wpList_nil ?_
   refine b8 _ _ ?_
   refine wp_region_lit ?_
   refine PV (AZ bi bA bn bc b_s) (run_loadA [I bi,E bA bn bc,T b_s] rfl rfl (aF.at_ _ (MI (i:=2) rfl)) rfl (ag60 _) (sz60 _)) rfl ?_
   simp only [PA]
   refine PV (AZ c d e f g) (run_loadA [I c,E d e f,T g] rfl rfl (aF.at_ _ (MI (i:=0) rfl)) rfl (ag60 _) (sz60 _)) rfl ?_
   simp only [PA]
   refine wpList_plain rfl fun K hK=>o_call 77 _ #[AZ bi bA bn bc b_s,AZ c d e f g] Try.func77 (by kernel_rfl) rfl rfl rfl aF (quo77 (Zb.u ((((Y.trans k).trans m).trans a3).trans aG)) (ae.u (((k.trans m).trans a3).trans aG)) (fb.mono (by decide)) (af.mono (by decide)) (by omega)) fun c7 c8 ce cf cg=>?_
   obtain ⟨c9,da,rfl,be,bf⟩:=ce
   obtain ⟨ch,bg⟩:∃ zz_:Int,(b.tdiv o)=zz_:=⟨_,rfl⟩
   rw [bg] at be
   have db:Fit 10000000 ch:=bg▸(Fit.tdiv fb)
   obtain ⟨A,C,D,F,G,rfl,ci⟩:=zopen be
   obtain ⟨cj,bh⟩:∃ zz_:Int,(b.tmod o)=zz_:=⟨_,rfl⟩
   rw [bh] at bf
   have dc:Fit 10000000 cj:=bh▸(Fit.tmod fb)
   obtain ⟨bj,bk,bm,bo,bp,rfl,dd⟩:=zopen bf
   refine hK _ _ ?_
   simp only [PA]
   refine PV (.tuple #[AZ A C D F G,AZ bj bk bm bo bp]) rfl rfl ?_
   simp only [PA]
   refine PV (AZ A C D F G) rfl rfl ?_
   simp only [PA]
   refine PV (AZ bj bk bm bo bp) rfl rfl ?_
   simp only [PA]
   refine wpList_plain rfl fun K hK=>OT 2 (Z3 A C D F G) cf (sz60 _) fun de aH bq=>hK _ _ ?_
   simp only [PA]
   refine wpList_nil ?_
   refine aC _ _ ?_
   refine wp_seq_k fun df ck=>?_
   refine wp_region_lit ?_
   refine PV (AZ q r s t z) (run_loadA [I q,E r s t,T z] rfl rfl (aH.at_ _ (MI (i:=3) rfl)) rfl (ag60 _) (sz60 _)) rfl ?_
   simp only [PA]
   refine PV (AZ A C D F G) (run_loadA [I A,E C D F,T G] rfl rfl (aH.at_ _ (MI (i:=2) rfl)) rfl (ag60 _) (sz60 _)) rfl ?_
   simp only [PA]
   refine PV (AQ q r s t z A C D F G) (by kernel_rfl) rfl ?_
   simp only [PA]
   refine wpList_plain rfl fun K hK=>OT 1 (Z6c q r s t z A C D F G) aH (sz62 _) fun dh br bs=>hK _ _ ?_
   simp only [PA]
   refine wpList_nil ?_
   refine ck _ _ ?_
   refine wp_ret ?_
   repeat (with_reducible first | refine then_ret ?_ | refine inBlock_ret ?_)
   refine bodyPost_ret (ret62 rfl _ rfl rfl (br.at_ _ (MI (i:=1) rfl))) rfl ?_
   subst_vars
   exact ⟨⟨_,rfl,hd.2▸qzmk (tdiv_gcd_num hd.1▸(cc.u (((aG.trans cg).trans bq).trans bs))) (tdiv_gcd_den hd.1▸(ci.u (bq.trans bs)))⟩,br.bl⟩
  ·skip
   refine PV (T false) (CT (run_bin (E d e f) (E none 0 0) _ rfl rfl rfl (bin_neq_36o _ _ _ _ _)) (congrArg Value.bool (by rw [Bool.not_eq_false _ |>.mp hG]; rfl))) rfl ?_
   simp only [PA]
   refine PV (T false) rfl rfl ?_
   simp only [PA]
   refine wpList_on (by kernel_rfl) fun K hK=>o_val (PT a2 0) (by kernel_rfl) (hK _ _ ?_)
   simp only [PA]
   refine wpList_on (by kernel_rfl) fun K hK=>o_val (I c) (run_load1 (I c) rfl rfl (l.at_ _ (MI (i:=0) rfl)) rfl (ag2 _)) (hK _ _ ?_)
   simp only [PA]
   by_cases aK:c ≠ 1
   ·skip
    refine wpList_on (by kernel_rfl) fun K hK=>o_val (T true) (CT (run_bin (I c) (I 1) _ rfl rfl rfl (bin_neq_2 _ _ _ _)) (congrArg Value.bool (bne_iff_ne.2 aK))) (hK _ _ ?_)
    simp only [PA]
    refine PV (T true) rfl rfl ?_
    simp only [PA]
    refine wpList_nil ?_
    refine aD _ _ ?_
    refine cond_true rfl ?_
    refine wp_seq_k fun di cl=>?_
    refine wp_region_lit ?_
    have hgp:=gcd_pos (n:=a) hd.1
    refine PV (AZ ai aA an ac a_s) (run_loadA [I ai,E aA an ac,T a_s] rfl rfl (l.at_ _ (MI (i:=3) rfl)) rfl (ag60 _) (sz60 _)) rfl ?_
    simp only [PA]
    refine PV (AZ c d e f g) (run_loadA [I c,E d e f,T g] rfl rfl (l.at_ _ (MI (i:=0) rfl)) rfl (ag60 _) (sz60 _)) rfl ?_
    simp only [PA]
    refine wpList_plain rfl fun K hK=>o_call 77 _ #[AZ ai aA an ac a_s,AZ c d e f g] Try.func77 (by kernel_rfl) rfl rfl rfl l (quo77 (Za.u ((Y.trans k).trans m)) (ae.u (k.trans m)) (fa.mono (by decide)) (af.mono (by decide)) (by omega)) fun dj dk cm cn bt=>?_
    obtain ⟨dl,dm,rfl,bu,bv⟩:=cm
    obtain ⟨co,bw⟩:∃ zz_:Int,(a.tdiv o)=zz_:=⟨_,rfl⟩
    rw [bw] at bu
    have dn:Fit 10000000 co:=bw▸(Fit.tdiv fa)
    obtain ⟨H,L,M,N,P,rfl,cp⟩:=zopen bu
    obtain ⟨cq,bx⟩:∃ zz_:Int,(a.tmod o)=zz_:=⟨_,rfl⟩
    rw [bx] at bv
    have dp:Fit 10000000 cq:=bx▸(Fit.tmod fa)
    obtain ⟨bz,bC,bD,bF,bG,rfl,dq⟩:=zopen bv
    refine hK _ _ ?_
    simp only [PA]
    refine PV (.tuple #[AZ H L M N P,AZ bz bC bD bF bG]) rfl rfl ?_
    simp only [PA]
    refine PV (AZ H L M N P) rfl rfl ?_
    simp only [PA]
    refine PV (AZ bz bC bD bF bG) rfl rfl ?_
    simp only [PA]
    refine wpList_plain rfl fun K hK=>OT 3 (Z3 H L M N P) cn (sz60 _) fun dr aL aM=>hK _ _ ?_
    simp only [PA]
    refine wpList_nil ?_
    refine cl _ _ ?_
    refine wp_region_lit ?_
    refine PV (AZ bi bA bn bc b_s) (run_loadA [I bi,E bA bn bc,T b_s] rfl rfl (aL.at_ _ (MI (i:=2) rfl)) rfl (ag60 _) (sz60 _)) rfl ?_
    simp only [PA]
    refine PV (AZ c d e f g) (run_loadA [I c,E d e f,T g] rfl rfl (aL.at_ _ (MI (i:=0) rfl)) rfl (ag60 _) (sz60 _)) rfl ?_
    simp only [PA]
    refine wpList_plain rfl fun K hK=>o_call 77 _ #[AZ bi bA bn bc b_s,AZ c d e f g] Try.func77 (by kernel_rfl) rfl rfl rfl aL (quo77 (Zb.u ((((Y.trans k).trans m).trans bt).trans aM)) (ae.u (((k.trans m).trans bt).trans aM)) (fb.mono (by decide)) (af.mono (by decide)) (by omega)) fun ds dt cs cu cv=>?_
    obtain ⟨du,dv,rfl,bH,bK⟩:=cs
    obtain ⟨cw,bL⟩:∃ zz_:Int,(b.tdiv o)=zz_:=⟨_,rfl⟩
    rw [bL] at bH
    have dw:Fit 10000000 cw:=bL▸(Fit.tdiv fb)
    obtain ⟨Q,R,S,V,W,rfl,cx⟩:=zopen bH
    obtain ⟨cy,bM⟩:∃ zz_:Int,(b.tmod o)=zz_:=⟨_,rfl⟩
    rw [bM] at bK
    have dx:Fit 10000000 cy:=bM▸(Fit.tmod fb)
    obtain ⟨bN,bP,bQ,bR,bS,rfl,dy⟩:=zopen bK
    refine hK _ _ ?_
    simp only [PA]
    refine PV (.tuple #[AZ Q R S V W,AZ bN bP bQ bR bS]) rfl rfl ?_
    simp only [PA]
    refine PV (AZ Q R S V W) rfl rfl ?_
    simp only [PA]
    refine PV (AZ bN bP bQ bR bS) rfl rfl ?_
    simp only [PA]
    refine wpList_plain rfl fun K hK=>OT 2 (Z3 Q R S V W) cu (sz60 _) fun dz aN bU=>hK _ _ ?_
    simp only [PA]
    refine wpList_nil ?_
    refine aC _ _ ?_
    refine wp_seq_k fun dA cz=>?_
    refine wp_region_lit ?_
    refine PV (AZ H L M N P) (run_loadA [I H,E L M N,T P] rfl rfl (aN.at_ _ (MI (i:=3) rfl)) rfl (ag60 _) (sz60 _)) rfl ?_
    simp only [PA]
    refine PV (AZ Q R S V W) (run_loadA [I Q,E R S V,T W] rfl rfl (aN.at_ _ (MI (i:=2) rfl)) rfl (ag60 _) (sz60 _)) rfl ?_
    simp only [PA]
    refine PV (AQ H L M N P Q R S V W) (by kernel_rfl) rfl ?_
    simp only [PA]
    refine wpList_plain rfl fun K hK=>OT 1 (Z6c H L M N P Q R S V W) aN (sz62 _) fun dC bV bW=>hK _ _ ?_
    simp only [PA]
    refine wpList_nil ?_
    refine cz _ _ ?_
    refine wp_ret ?_
    repeat (with_reducible first | refine then_ret ?_ | refine inBlock_ret ?_)
    refine bodyPost_ret (ret62 rfl _ rfl rfl (bV.at_ _ (MI (i:=1) rfl))) rfl ?_
    subst_vars
    exact ⟨⟨_,rfl,hd.2▸qzmk (tdiv_gcd_num hd.1▸(cp.u (((aM.trans cv).trans bU).trans bW))) (tdiv_gcd_den hd.1▸(cx.u (bU.trans bW)))⟩,bV.bl⟩
   ·skip
    refine wpList_on (by kernel_rfl) fun K hK=>o_val (T false) (CT (run_bin (I c) (I 1) _ rfl rfl rfl (bin_neq_2 _ _ _ _)) (congrArg Value.bool (bne_eq_false_iff_eq.2 (Classical.not_not.1 aK)))) (hK _ _ ?_)
    simp only [PA]
    refine PV (T false) rfl rfl ?_
    simp only [PA]
    refine wpList_nil ?_
    refine aD _ _ ?_
    refine cond_false rfl ?_
    refine wp_skip ?_
    refine aC _ _ ?_
    refine wp_seq_k fun dD cA=>?_
    refine wp_region_lit ?_
    refine PV (AZ ai aA an ac a_s) (run_loadA [I ai,E aA an ac,T a_s] rfl rfl (l.at_ _ (MI (i:=3) rfl)) rfl (ag60 _) (sz60 _)) rfl ?_
    simp only [PA]
    refine PV (AZ bi bA bn bc b_s) (run_loadA [I bi,E bA bn bc,T b_s] rfl rfl (l.at_ _ (MI (i:=2) rfl)) rfl (ag60 _) (sz60 _)) rfl ?_
    simp only [PA]
    refine PV (AQ ai aA an ac a_s bi bA bn bc b_s) (by kernel_rfl) rfl ?_
    simp only [PA]
    refine wpList_plain rfl fun K hK=>OT 1 (Z6c ai aA an ac a_s bi bA bn bc b_s) l (sz62 _) fun dF bX aP=>hK _ _ ?_
    simp only [PA]
    refine wpList_nil ?_
    refine cA _ _ ?_
    refine wp_ret ?_
    repeat (with_reducible first | refine then_ret ?_ | refine inBlock_ret ?_)
    refine bodyPost_ret (ret62 rfl _ rfl rfl (bX.at_ _ (MI (i:=1) rfl))) rfl ?_
    have hone:Int.gcd a b=1:=by have h:=zsm (ae.u ((k.trans m).trans aP)) (by simpa using hG); have h2:=Classical.not_not.1 aK; omega
    exact ⟨⟨_,rfl,hd.2▸qzmk ((over_num_one hd.1 hone).symm▸(Za.u (((Y.trans k).trans m).trans aP))) ((over_den_one hd.1 hone).symm▸(Zb.u (((Y.trans k).trans m).trans aP)))⟩,bX.bl⟩
end Go.Proofs.Ythhgjloephkpaaa
