/- Words and walks for the row RowRatLeast, put together: RZC. -/
import Derived.Test.YthhgjloephkpaaaLeRZB
import Derived.Test.YthhgjloephkpaaaLe6
import Derived.Test.YthhgjloephkpaaaLe3
import Derived.Lib.Mul64
import Derived.Laws.Bits64b
namespace Go.Proofs.Ythhgjloephkpaaa
set_option linter.unusedVariables false
set_option linter.unusedSimpArgs false
open Go Go.RowKit Go.Proofs.YthhgjloephkpaaaW.PrintWords Go.Proofs.YthhgjloephkpaaaW.PrintLast

/-- Boxes above boxes. -/
theorem St.join {w0 w1 w2 : World} {L M : List Bx} (h : St w0 w1 L) (k : St w1 w2 M) : St w0 w2 (M ++ L) := by
 refine ⟨h.bl.trans (k.bl.mono h.bl.size), ?_, ?_, ?_⟩
 ·intro e he
  rcases List.mem_append.1 he with he | he
  ·have := k.ge e he; have := h.bl.size; omega
  ·exact h.ge e he
 ·intro e he
  rcases List.mem_append.1 he with he | he
  ·exact k.at_ e he
  ·rw [k.bl.block _ (h.lt e he)]; exact h.at_ e he
 ·rw [List.map_append, List.nodup_append]
  refine ⟨k.nd, h.nd, ?_⟩
  intro a ha b hb he
  obtain ⟨e, he1, rfl⟩ := List.mem_map.1 ha
  obtain ⟨f, hf1, rfl⟩ := List.mem_map.1 hb
  have := k.ge e he1
  have := h.lt f hf1
  omega
theorem maskN (a : Nat) (ha : a < 18446744073709551616) : bits .and .u64 (a : Int) 4294967295 = ((a % 4294967296 : Nat) : Int) := by
 have h := bits_and_u64_nat a 4294967295 ha (by omega)
 have e : a &&& 4294967295 = a % 4294967296 := Nat.and_two_pow_sub_one_eq_mod a 32
 rw [e] at h
 exact h
theorem divN (a : Nat) : (a : Int) / 4294967296 = ((a / 4294967296 : Nat) : Int) := by omega
theorem mulN (a b : Nat) : (a : Int) * (b : Int) = ((a * b : Nat) : Int) := (Int.natCast_mul a b).symm
theorem addN (a b : Nat) : (a : Int) + (b : Int) = ((a + b : Nat) : Int) := (Int.natCast_add a b).symm
theorem wrapN (a : Nat) (ha : a < 18446744073709551616) : IntKind.u64.wrap (a : Int) = (a : Int) := by rw [IntKind.wrap_u64]; omega
theorem wrapM (a : Nat) : IntKind.u64.wrap (a : Int) = ((a % 18446744073709551616 : Nat) : Int) := by rw [IntKind.wrap_u64]; omega
set_option maxHeartbeats 1000000 in
/-- The product of two words of 64 bits (116). -/
theorem mul64_any (x y : Nat) (hx : x < 18446744073709551616) (hy : y < 18446744073709551616) (w : World) :
  Calls Try.prog 116 #[.int .u64 (x : Int), .int .u64 (y : Int)] w fun e w' => (∃ v, e = .returned v ∧ v = .tuple #[.int .u64 ((x * y / 18446744073709551616 : Nat) : Int), .int .u64 ((x * y % 18446744073709551616 : Nat) : Int)]) ∧ Below w.heap.size w w' := by
 obtain ⟨bd, bt, bw, hhi⟩ := Lib.mul64_hi x y hx hy
 have ba := Lib.half_mul_le (a := x / 4294967296) (b := y / 4294967296) (by omega) (by omega)
 have bb := Lib.half_mul_le (a := x / 4294967296) (b := y % 4294967296) (by omega) (by omega)
 have bc := Lib.half_mul_le (a := x % 4294967296) (b := y / 4294967296) (by omega) (by omega)
 have ba' : x / 4294967296 * (y / 4294967296) < 18446744073709551616 := by omega
 have bb' : x / 4294967296 * (y % 4294967296) < 18446744073709551616 := by omega
 have bc' : x % 4294967296 * (y / 4294967296) < 18446744073709551616 := by omega
 have bh1 : x / 4294967296 * (y / 4294967296) + (x / 4294967296 * (y % 4294967296) + x % 4294967296 * (y % 4294967296) / 4294967296) / 4294967296 < 18446744073709551616 := by omega
 have bh : x / 4294967296 * (y / 4294967296) + (x / 4294967296 * (y % 4294967296) + x % 4294967296 * (y % 4294967296) / 4294967296) / 4294967296 + ((x / 4294967296 * (y % 4294967296) + x % 4294967296 * (y % 4294967296) / 4294967296) % 4294967296 + x % 4294967296 * (y / 4294967296)) / 4294967296 < 18446744073709551616 := by omega
 go_enter Try.func116, Try.ntmps116
 go_wp2
 simp only [maskN x hx, maskN y hy, divN, mulN, addN, wrapN _ bd, wrapN _ bb', wrapN _ bt, maskN _ bt, wrapN _ bc', wrapN _ bw, wrapN _ ba', wrapN _ bh1, wrapN _ bh, wrapM (x * y)]
 rw [hhi]
 go_ret2
 exact ⟨⟨_, rfl, rfl⟩, Below.refl _ _⟩
theorem smul_t {x y : Int} (h : (decide (x < 0) != decide (y < 0)) = true) : x * y = -((x.natAbs * y.natAbs : Nat) : Int) := by
 have h2 := mul_eq x y
 rw [if_pos h] at h2
 exact h2.symm
theorem smul_f {x y : Int} (h : ¬ (decide (x < 0) != decide (y < 0)) = true) : x * y = ((x.natAbs * y.natAbs : Nat) : Int) := by
 have h2 := mul_eq x y
 rw [if_neg h] at h2
 exact h2.symm
set_option maxRecDepth 100000 in
set_option maxHeartbeats 8000000 in
theorem mul74 {v u:Value} {x y:Int} {w:World} (hx:Zh w v x) (hy:Zh w u y) (fx:Fit 100000000 x) (fy:Fit 100000000 y):Calls Try.prog 74 #[v,u] w (RetZ w (x * y)):=by
 obtain ⟨xi,xA,xn,xc,xs,rfl,Zx⟩:=zopen hx
 obtain ⟨yi,yA,yn,yc,ys,rfl,Zy⟩:=zopen hy
 go_enter Try.func74,Try.ntmps74
 have aQ:=St.start w
 refine wp_seq_k fun K1 aR=>?_
 refine wp_region_lit ?_
 refine wpList_plain rfl fun K hK=>o_box (Z3 xi xA xn xc xs) rfl rfl rfl aQ fun r w4 aS u6=>hK _ _ ?_
 simp only [PA]
 refine wpList_plain rfl fun K hK=>o_box (Z3 yi yA yn yc ys) rfl rfl rfl aS fun C w8 aU aj=>hK _ _ ?_
 simp only [PA]
 refine wpList_plain rfl fun K hK=>o_alloc (Z3 0 none 0 0 false) _ rfl (zv60 _) rfl rfl aU fun Q aa S al=>hK _ _ ?_
 simp only [PA]
 refine wpList_nil ?_
 refine aR _ _ ?_
 refine wp_seq_k fun bR aV=>?_
 refine wp_cut (fun aa_ w'=>∃ (c:List Value),aa_=⟨#[AZ xi xA xn xc xs,AZ yi yA yn yc ys,PT r 0,PT C 0,PT Q 0,(GD c 0),(GD c 1),(GD c 2),(GD c 3),O,O,O,O,O,O,O,O,O,(GD c 4),(GD c 5),(GD c 6),(GD c 7),(GD c 8),(GD c 9),(GD c 10),(GD c 11),(GD c 12),(GD c 13),(GD c 14),(GD c 15),(GD c 16),(GD c 17),(GD c 18),(GD c 19),(GD c 20),(GD c 21),(GD c 22),(GD c 23),(GD c 24),(GD c 25),(GD c 26),(GD c 27),(GD c 28),(GD c 29),(GD c 30),(GD c 31),(GD c 32),(GD c 33),(GD c 34),(GD c 35),(GD c 36),(GD c 37),(GD c 38),(GD c 39),(GD c 40),(GD c 41),(GD c 42),(GD c 43),(GD c 44),(GD c 45),(GD c 46),(GD c 47),(GD c 48),(GD c 49),(GD c 50),(GD c 51),(GD c 52),(GD c 53),O,O,O,O,O,O,O,O,O,O,O,O,O,O,O,O,O,O,O,O,O,O,O,O,O,O,O,O,O,O,O,O,O,O,O,O,O,O,O,O,O,O,O,O,O,O,O,O,O,O,O,O,O,O,O,O,O,O,O,O,O,O,O,O,O,O,O,O,O,O,O],[]⟩∧St w w' [⟨Q,(Z3 0 none 0 0 false),60⟩,⟨C,(Z3 yi yA yn yc ys),60⟩,⟨r,(Z3 xi xA xn xc xs),60⟩]∧U aa w') ?_ ?_
 ·skip
  refine wp_seq_k fun bS ab=>?_
  refine wp_region_lit ?_
  refine PV (PT r 1) (by kernel_rfl) rfl ?_
  simp only [PA]
  refine PV (E xA xn xc) (run_load1 (E xA xn xc) rfl rfl (S.at_ _ (MI (i:=2) rfl)) rfl (ag36 _)) rfl ?_
  simp only [PA]
  by_cases hA:xA.isNone=true
  ·skip
   refine PV (T true) (CT (run_bin (E xA xn xc) (E none 0 0) _ rfl rfl rfl (bin_eql_36o _ _ _ _ _)) (congrArg Value.bool hA)) rfl ?_
   simp only [PA]
   refine PV (T true) rfl rfl ?_
   simp only [PA]
   refine wpList_on (by kernel_rfl) fun K hK=>o_val (PT C 1) (by kernel_rfl) (hK _ _ ?_)
   simp only [PA]
   refine wpList_on (by kernel_rfl) fun K hK=>o_val (E yA yn yc) (run_load1 (E yA yn yc) rfl rfl (S.at_ _ (MI (i:=1) rfl)) rfl (ag36 _)) (hK _ _ ?_)
   simp only [PA]
   by_cases hB:yA.isNone=true
   ·skip
    refine wpList_on (by kernel_rfl) fun K hK=>o_val (T true) (CT (run_bin (E yA yn yc) (E none 0 0) _ rfl rfl rfl (bin_eql_36o _ _ _ _ _)) (congrArg Value.bool hB)) (hK _ _ ?_)
    simp only [PA]
    refine PV (T true) rfl rfl ?_
    simp only [PA]
    refine wpList_nil ?_
    refine ab _ _ ?_
    refine cond_true rfl ?_
    refine wp_seq_k fun bU aW=>?_
    refine region_drawnP 8 (fun j=>decide (8≤j)) (by kernel_rfl) rfl S fun ac V am=>?_
    refine anyT_here (i:=0) (PT r 0) rfl (by kernel_rfl) (by kernel_rfl) (by kernel_rfl) (by kernel_rfl) (fun _ _ _ h=>h) rfl (by kernel_rfl) ?_
    simp only [PA]
    obtain ⟨ex,bV,bW⟩:=zsm Zx hA
    refine anyT_here (i:=1) (I x) rfl (by kernel_rfl) (by kernel_rfl) (by kernel_rfl) (by kernel_rfl) (fun _ _ _ h=>h) rfl (CT (run_load1 (I xi) rfl rfl (V.at_ _ (MI (i:=2) rfl)) rfl (ag2 _)) (vint ex)) ?_
    simp only [PA]
    obtain ⟨wx,hwx⟩:∃ z:Nat,IntKind.u64.wrap x=(z:Int):=⟨(IntKind.u64.wrap x).toNat,by rw [IntKind.wrap_u64]; omega⟩
    have aX:=hwx
    rw [IntKind.wrap_u64] at aX
    refine anyT_here (i:=2) (J ((wx:Nat):Int)) rfl (by kernel_rfl) (by kernel_rfl) (by kernel_rfl) (by kernel_rfl) (fun _ _ _ h=>h) rfl (CT (run_cv _ rfl rfl rfl rfl rfl) (vint hwx)) ?_
    simp only [PA]
    refine anyT_here (i:=3) (PT C 0) rfl (by kernel_rfl) (by kernel_rfl) (by kernel_rfl) (by kernel_rfl) (fun _ _ _ h=>h) rfl (by kernel_rfl) ?_
    simp only [PA]
    obtain ⟨ey,bB,bE⟩:=zsm Zy hB
    refine anyT_here (i:=4) (I y) rfl (by kernel_rfl) (by kernel_rfl) (by kernel_rfl) (by kernel_rfl) (fun _ _ _ h=>h) rfl (CT (run_load1 (I yi) rfl rfl (V.at_ _ (MI (i:=1) rfl)) rfl (ag2 _)) (vint ey)) ?_
    simp only [PA]
    obtain ⟨wy,hwy⟩:∃ z:Nat,IntKind.u64.wrap y=(z:Int):=⟨(IntKind.u64.wrap y).toNat,by rw [IntKind.wrap_u64]; omega⟩
    have aY:=hwy
    rw [IntKind.wrap_u64] at aY
    refine anyT_here (i:=5) (J ((wy:Nat):Int)) rfl (by kernel_rfl) (by kernel_rfl) (by kernel_rfl) (by kernel_rfl) (fun _ _ _ h=>h) rfl (CT (run_cv _ rfl rfl rfl rfl rfl) (vint hwy)) ?_
    simp only [PA]
    refine anyT_here (i:=6) (J ((wx:Nat):Int)) rfl (by kernel_rfl) (by kernel_rfl) (by kernel_rfl) (by kernel_rfl) (fun _ _ _ h=>h) rfl rfl ?_
    simp only [PA]
    refine anyT_here (i:=7) (J ((wy:Nat):Int)) rfl (by kernel_rfl) (by kernel_rfl) (by kernel_rfl) (by kernel_rfl) (fun _ _ _ h=>h) rfl rfl ?_
    simp only [PA]
    refine anyT_done (by kernel_rfl) ?_ _
    refine aW _ _ ?_
    refine wp_seq_k fun bI aB=>?_
    refine wp_cut (fun aa_ w'=>∃ (px:Nat) (F:List Value),aa_=⟨#[AZ xi xA xn xc xs,AZ yi yA yn yc ys,PT r 0,PT C 0,PT Q 0,J ((px:Nat):Int),J ((wy:Nat):Int),O,O,O,O,O,O,O,O,O,O,O,PT r 1,E xA xn xc,T true,T true,PT C 1,E yA yn yc,T true,T true,PT r 0,I x,J ((wx:Nat):Int),PT C 0,I y,J ((wy:Nat):Int),(GD F 0),(GD F 1),(GD F 2),(GD F 3),(GD F 4),O,O,O,O,O,O,O,O,O,O,O,O,O,O,O,O,O,O,O,O,O,O,O,O,O,O,O,O,O,O,O,O,O,O,O,O,O,O,O,O,O,O,O,O,O,O,O,O,O,O,O,O,O,O,O,O,O,O,O,O,O,O,O,O,O,O,O,O,O,O,O,O,O,O,O,O,O,O,O,O,O,O,O,O,O,O,O,O,O,O,O,O,O,O,O,O,O,O,O,O,O,O],[]⟩∧St w w' [⟨Q,(Z3 0 none 0 0 false),60⟩,⟨C,(Z3 yi yA yn yc ys),60⟩,⟨r,(Z3 xi xA xn xc xs),60⟩]∧(px=x.natAbs)∧U ac w') ?_ ?_
    ·skip
     refine wp_seq_k fun bT an=>?_
     refine wp_region_lit ?_
     refine PV (PT r 0) (by kernel_rfl) rfl ?_
     simp only [PA]
     refine PV (I x) (CT (run_load1 (I xi) rfl rfl (V.at_ _ (MI (i:=2) rfl)) rfl (ag2 _)) (vint ex)) rfl ?_
     simp only [PA]
     by_cases hxn:(x:Int)<0
     ·skip
      refine PV (T true) (CT (run_bin (I x) (I 0) _ rfl rfl rfl (bin_lss_2 _ _ _ _)) (congrArg Value.bool (decide_eq_true hxn))) rfl ?_
      simp only [PA]
      refine wpList_nil ?_
      refine an _ _ ?_
      refine cond_true rfl ?_
      refine wp_region_lit ?_
      refine PV (J ((wx:Nat):Int)) rfl rfl ?_
      simp only [PA]
      refine PV (J (((18446744073709551616 - wx):Nat):Int)) (CT (run_neg ((wx:Nat):Int) rfl rfl) (vint (by rw [IntKind.wrap_u64]; omega))) rfl ?_
      simp only [PA]
      refine PV (J (((18446744073709551616 - wx):Nat):Int)) rfl rfl ?_
      simp only [PA]
      refine wpList_nil ?_
      exact ⟨(18446744073709551616 - wx),[PT r 0,I x,T true,J ((wx:Nat):Int),J (((18446744073709551616 - wx):Nat):Int)],rfl,V,by omega,U.refl ac⟩
     ·skip
      refine PV (T false) (CT (run_bin (I x) (I 0) _ rfl rfl rfl (bin_lss_2 _ _ _ _)) (congrArg Value.bool (decide_eq_false hxn))) rfl ?_
      simp only [PA]
      refine wpList_nil ?_
      refine an _ _ ?_
      refine cond_false rfl ?_
      refine wp_skip ?_
      exact ⟨wx,[PT r 0,I x,T false,O,O],rfl,V,by omega,U.refl ac⟩
    ·skip
     rintro _ ad ⟨px,F,rfl,ae,hpx,u32⟩
     refine aB _ _ ?_
     refine wp_seq_k fun bO aE=>?_
     refine wp_cut (fun aa_ w'=>∃ (py:Nat) (N:List Value),aa_=⟨#[AZ xi xA xn xc xs,AZ yi yA yn yc ys,PT r 0,PT C 0,PT Q 0,J ((px:Nat):Int),J ((py:Nat):Int),O,O,O,O,O,O,O,O,O,O,O,PT r 1,E xA xn xc,T true,T true,PT C 1,E yA yn yc,T true,T true,PT r 0,I x,J ((wx:Nat):Int),PT C 0,I y,J ((wy:Nat):Int),(GD F 0),(GD F 1),(GD F 2),(GD F 3),(GD F 4),(GD N 0),(GD N 1),(GD N 2),(GD N 3),(GD N 4),O,O,O,O,O,O,O,O,O,O,O,O,O,O,O,O,O,O,O,O,O,O,O,O,O,O,O,O,O,O,O,O,O,O,O,O,O,O,O,O,O,O,O,O,O,O,O,O,O,O,O,O,O,O,O,O,O,O,O,O,O,O,O,O,O,O,O,O,O,O,O,O,O,O,O,O,O,O,O,O,O,O,O,O,O,O,O,O,O,O,O,O,O,O,O,O,O],[]⟩∧St w w' [⟨Q,(Z3 0 none 0 0 false),60⟩,⟨C,(Z3 yi yA yn yc ys),60⟩,⟨r,(Z3 xi xA xn xc xs),60⟩]∧(py=y.natAbs)∧U ad w') ?_ ?_
     ·skip
      refine wp_seq_k fun bJ ao=>?_
      refine wp_region_lit ?_
      refine PV (PT C 0) (by kernel_rfl) rfl ?_
      simp only [PA]
      refine PV (I y) (CT (run_load1 (I yi) rfl rfl (ae.at_ _ (MI (i:=1) rfl)) rfl (ag2 _)) (vint ey)) rfl ?_
      simp only [PA]
      by_cases hyn:(y:Int)<0
      ·skip
       refine PV (T true) (CT (run_bin (I y) (I 0) _ rfl rfl rfl (bin_lss_2 _ _ _ _)) (congrArg Value.bool (decide_eq_true hyn))) rfl ?_
       simp only [PA]
       refine wpList_nil ?_
       refine ao _ _ ?_
       refine cond_true rfl ?_
       refine wp_region_lit ?_
       refine PV (J ((wy:Nat):Int)) rfl rfl ?_
       simp only [PA]
       refine PV (J (((18446744073709551616 - wy):Nat):Int)) (CT (run_neg ((wy:Nat):Int) rfl rfl) (vint (by rw [IntKind.wrap_u64]; omega))) rfl ?_
       simp only [PA]
       refine PV (J (((18446744073709551616 - wy):Nat):Int)) rfl rfl ?_
       simp only [PA]
       refine wpList_nil ?_
       exact ⟨(18446744073709551616 - wy),[PT C 0,I y,T true,J ((wy:Nat):Int),J (((18446744073709551616 - wy):Nat):Int)],rfl,ae,by omega,U.refl ad⟩
      ·skip
       refine PV (T false) (CT (run_bin (I y) (I 0) _ rfl rfl rfl (bin_lss_2 _ _ _ _)) (congrArg Value.bool (decide_eq_false hyn))) rfl ?_
       simp only [PA]
       refine wpList_nil ?_
       refine ao _ _ ?_
       refine cond_false rfl ?_
       refine wp_skip ?_
       exact ⟨wy,[PT C 0,I y,T false,O,O],rfl,ae,by omega,U.refl ad⟩
     ·skip
      rintro _ bZ ⟨py,N,rfl,aI,hpy,ap⟩
      refine aE _ _ ?_
      refine wp_seq_k fun b0 aT=>?_
      refine wp_region_lit ?_
      refine PV (J ((px:Nat):Int)) rfl rfl ?_
      simp only [PA]
      refine PV (J ((py:Nat):Int)) rfl rfl ?_
      simp only [PA]
      refine wpList_plain rfl fun K hK=>o_call 116 _ #[J ((px:Nat):Int),J ((py:Nat):Int)] Try.func116 (by kernel_rfl) rfl rfl rfl aI (mul64_any (px) (py) (by omega) (by omega) _) fun b1 b2 af R aq=>?_
      obtain ⟨PP,hPP⟩:∃ z:Nat,px * py=z:=⟨_,rfl⟩
      rw [hPP] at af
      obtain ⟨hi,hhi⟩:∃ z:Nat,PP / 18446744073709551616=z:=⟨_,rfl⟩
      obtain ⟨lo,hlo⟩:∃ z:Nat,PP % 18446744073709551616=z:=⟨_,rfl⟩
      rw [hhi,hlo] at af
      subst af
      refine hK _ _ ?_
      simp only [PA]
      refine PV (.tuple #[J ((hi:Nat):Int),J ((lo:Nat):Int)]) rfl rfl ?_
      simp only [PA]
      refine PV (J ((hi:Nat):Int)) rfl rfl ?_
      simp only [PA]
      refine PV (J ((lo:Nat):Int)) rfl rfl ?_
      simp only [PA]
      refine PV (J ((hi:Nat):Int)) rfl rfl ?_
      simp only [PA]
      refine PV (J ((lo:Nat):Int)) rfl rfl ?_
      simp only [PA]
      refine wpList_nil ?_
      refine aT _ _ ?_
      refine wp_seq_k fun b3 ag=>?_
      refine wp_region_lit ?_
      refine PV (J ((hi:Nat):Int)) rfl rfl ?_
      simp only [PA]
      by_cases hz:hi=0
      ·skip
       refine PV (T true) (CT (run_bin (J ((hi:Nat):Int)) (J 0) _ rfl rfl rfl (bin_eql_104 _ _ _ _)) (congrArg Value.bool (beq_iff_eq.2 (by omega)))) rfl ?_
       simp only [PA]
       refine PV (T true) rfl rfl ?_
       simp only [PA]
       refine wpList_on (by kernel_rfl) fun K hK=>o_val (J ((lo:Nat):Int)) rfl (hK _ _ ?_)
       simp only [PA]
       by_cases hl:(((lo:Nat):Int):Int)<9223372036854775808
       ·skip
        refine wpList_on (by kernel_rfl) fun K hK=>o_val (T true) (CT (run_bin (J ((lo:Nat):Int)) (J 9223372036854775808) _ rfl rfl rfl (bin_lss_104 _ _ _ _)) (congrArg Value.bool (decide_eq_true hl))) (hK _ _ ?_)
        simp only [PA]
        refine PV (T true) rfl rfl ?_
        simp only [PA]
        refine wpList_nil ?_
        refine ag _ _ ?_
        refine cond_true rfl ?_
        refine wp_seq_k fun b4 aO=>?_
        refine wp_seq_k fun b5 ar=>?_
        refine wp_region_lit ?_
        refine PV (PT r 0) (by kernel_rfl) rfl ?_
        simp only [PA]
        refine PV (I x) (CT (run_load1 (I xi) rfl rfl (R.at_ _ (MI (i:=2) rfl)) rfl (ag2 _)) (vint ex)) rfl ?_
        simp only [PA]
        refine PV (T (decide ((x:Int)<0))) (run_bin (I x) (I 0) _ rfl rfl rfl (bin_lss_2 _ _ _ _)) rfl ?_
        simp only [PA]
        refine PV (PT C 0) (by kernel_rfl) rfl ?_
        simp only [PA]
        refine PV (I y) (CT (run_load1 (I yi) rfl rfl (R.at_ _ (MI (i:=1) rfl)) rfl (ag2 _)) (vint ey)) rfl ?_
        simp only [PA]
        refine PV (T (decide ((y:Int)<0))) (run_bin (I y) (I 0) _ rfl rfl rfl (bin_lss_2 _ _ _ _)) rfl ?_
        simp only [PA]
        by_cases hs_:(decide (x<0) != decide (y<0))=true
        ·skip
         refine PV (T true) (CT (run_bin (T (decide ((x:Int)<0))) (T (decide ((y:Int)<0))) _ rfl rfl rfl (bin_neq_4 _ _ _ _)) (congrArg Value.bool hs_)) rfl ?_
         simp only [PA]
         refine wpList_nil ?_
         refine ar _ _ ?_
         refine cond_true rfl ?_
         refine wp_seq_k fun b6 aJ=>?_
         refine wp_region_lit ?_
         refine PV (J ((lo:Nat):Int)) rfl rfl ?_
         simp only [PA]
         refine PV (I ((lo:Nat):Int)) (run_cv _ rfl rfl rfl rfl (wrap_i64 (by omega))) rfl ?_
         simp only [PA]
         have hxy:=smul_t hs_
         rw [← hpx,← hpy,hPP] at hxy
         refine PV (I (x * y)) (CT (run_neg ((lo:Nat):Int) rfl rfl) (vint (by rw [IntKind.wrap_i64]; omega))) rfl ?_
         simp only [PA]
         refine PV (AZ (x * y) none 0 0 false) (by kernel_rfl) rfl ?_
         simp only [PA]
         refine wpList_plain rfl fun K hK=>OT 0 (Z3 (x * y) none 0 0 false) R (sz60 _) fun b7 au b8=>hK _ _ ?_
         simp only [PA]
         refine wpList_nil ?_
         refine aJ _ _ ?_
         refine wp_ret ?_
         repeat (with_reducible first | refine then_ret ?_ | refine inBlock_ret ?_)
         refine bodyPost_ret (ret60 rfl _ rfl rfl (au.at_ _ (MI (i:=0) rfl))) rfl ?_
         exact ⟨⟨_,rfl,Zh.small _ (by omega) (by omega)⟩,au.bl⟩
        ·skip
         refine PV (T false) (CT (run_bin (T (decide ((x:Int)<0))) (T (decide ((y:Int)<0))) _ rfl rfl rfl (bin_neq_4 _ _ _ _)) (congrArg Value.bool (Bool.eq_false_iff.2 hs_))) rfl ?_
         simp only [PA]
         refine wpList_nil ?_
         refine ar _ _ ?_
         refine cond_false rfl ?_
         refine wp_skip ?_
         refine aO _ _ ?_
         refine wp_seq_k fun b9 aZ=>?_
         refine wp_region_lit ?_
         refine PV (J ((lo:Nat):Int)) rfl rfl ?_
         simp only [PA]
         have hxy:=smul_f hs_
         rw [← hpx,← hpy,hPP] at hxy
         refine PV (I (x * y)) (CT (run_cv _ rfl rfl rfl rfl (wrap_i64 (by omega))) (vint (by omega))) rfl ?_
         simp only [PA]
         refine PV (AZ (x * y) none 0 0 false) (by kernel_rfl) rfl ?_
         simp only [PA]
         refine wpList_plain rfl fun K hK=>OT 0 (Z3 (x * y) none 0 0 false) R (sz60 _) fun ca av cb=>hK _ _ ?_
         simp only [PA]
         refine wpList_nil ?_
         refine aZ _ _ ?_
         refine wp_ret ?_
         repeat (with_reducible first | refine then_ret ?_ | refine inBlock_ret ?_)
         refine bodyPost_ret (ret60 rfl _ rfl rfl (av.at_ _ (MI (i:=0) rfl))) rfl ?_
         exact ⟨⟨_,rfl,Zh.small _ (by omega) (by omega)⟩,av.bl⟩
       ·skip
        refine wpList_on (by kernel_rfl) fun K hK=>o_val (T false) (CT (run_bin (J ((lo:Nat):Int)) (J 9223372036854775808) _ rfl rfl rfl (bin_lss_104 _ _ _ _)) (congrArg Value.bool (decide_eq_false hl))) (hK _ _ ?_)
        simp only [PA]
        refine PV (T false) rfl rfl ?_
        simp only [PA]
        refine wpList_nil ?_
        refine ag _ _ ?_
        refine cond_false rfl ?_
        refine wp_skip ?_
        exact ⟨[J ((px:Nat):Int),J ((py:Nat):Int),J ((hi:Nat):Int),J ((lo:Nat):Int),PT r 1,E xA xn xc,T true,T true,PT C 1,E yA yn yc,T true,T true,PT r 0,I x,J ((wx:Nat):Int),PT C 0,I y,J ((wy:Nat):Int),(GD F 0),(GD F 1),(GD F 2),(GD F 3),(GD F 4),(GD N 0),(GD N 1),(GD N 2),(GD N 3),(GD N 4),.tuple #[J ((hi:Nat):Int),J ((lo:Nat):Int)],J ((px:Nat):Int),J ((py:Nat):Int),.tuple #[J ((hi:Nat):Int),J ((lo:Nat):Int)],J ((hi:Nat):Int),J ((lo:Nat):Int),J ((hi:Nat):Int),T true,T true,J ((lo:Nat):Int),T false,T false,O,O,O,O,O,O,O,O,O,O,O,O,O,O],rfl,R,(((am.trans u32).trans ap).trans aq)⟩
      ·skip
       refine PV (T false) (CT (run_bin (J ((hi:Nat):Int)) (J 0) _ rfl rfl rfl (bin_eql_104 _ _ _ _)) (congrArg Value.bool (beq_eq_false_iff_ne.2 (by omega)))) rfl ?_
       simp only [PA]
       refine PV (T false) rfl rfl ?_
       simp only [PA]
       with_reducible refine wpList_off ?_ ?_
       ·with_reducible exact wanted_off rfl rfl rfl
       simp only [PA]
       with_reducible refine wpList_off ?_ ?_
       ·with_reducible exact wanted_off rfl rfl rfl
       simp only [PA]
       refine PV (T false) rfl rfl ?_
       simp only [PA]
       refine wpList_nil ?_
       refine ag _ _ ?_
       refine cond_false rfl ?_
       refine wp_skip ?_
       exact ⟨[J ((px:Nat):Int),J ((py:Nat):Int),J ((hi:Nat):Int),J ((lo:Nat):Int),PT r 1,E xA xn xc,T true,T true,PT C 1,E yA yn yc,T true,T true,PT r 0,I x,J ((wx:Nat):Int),PT C 0,I y,J ((wy:Nat):Int),(GD F 0),(GD F 1),(GD F 2),(GD F 3),(GD F 4),(GD N 0),(GD N 1),(GD N 2),(GD N 3),(GD N 4),.tuple #[J ((hi:Nat):Int),J ((lo:Nat):Int)],J ((px:Nat):Int),J ((py:Nat):Int),.tuple #[J ((hi:Nat):Int),J ((lo:Nat):Int)],J ((hi:Nat):Int),J ((lo:Nat):Int),J ((hi:Nat):Int),T false,T false,O,O,T false,O,O,O,O,O,O,O,O,O,O,O,O,O,O],rfl,R,(((am.trans u32).trans ap).trans aq)⟩
   ·skip
    refine wpList_on (by kernel_rfl) fun K hK=>o_val (T false) (CT (run_bin (E yA yn yc) (E none 0 0) _ rfl rfl rfl (bin_eql_36o _ _ _ _ _)) (congrArg Value.bool (Bool.eq_false_iff.2 hB))) (hK _ _ ?_)
    simp only [PA]
    refine PV (T false) rfl rfl ?_
    simp only [PA]
    refine wpList_nil ?_
    refine ab _ _ ?_
    refine cond_false rfl ?_
    refine wp_skip ?_
    exact ⟨[O,O,O,O,PT r 1,E xA xn xc,T true,T true,PT C 1,E yA yn yc,T false,T false,O,O,O,O,O,O,O,O,O,O,O,O,O,O,O,O,O,O,O,O,O,O,O,O,O,O,O,O,O,O,O,O,O,O,O,O,O,O,O,O,O,O],rfl,S,U.refl aa⟩
  ·skip
   refine PV (T false) (CT (run_bin (E xA xn xc) (E none 0 0) _ rfl rfl rfl (bin_eql_36o _ _ _ _ _)) (congrArg Value.bool (Bool.eq_false_iff.2 hA))) rfl ?_
   simp only [PA]
   refine PV (T false) rfl rfl ?_
   simp only [PA]
   with_reducible refine wpList_off ?_ ?_
   ·with_reducible exact wanted_off rfl rfl rfl
   simp only [PA]
   with_reducible refine wpList_off ?_ ?_
   ·with_reducible exact wanted_off rfl rfl rfl
   simp only [PA]
   with_reducible refine wpList_off ?_ ?_
   ·with_reducible exact wanted_off rfl rfl rfl
   simp only [PA]
   refine PV (T false) rfl rfl ?_
   simp only [PA]
   refine wpList_nil ?_
   refine ab _ _ ?_
   refine cond_false rfl ?_
   refine wp_skip ?_
   exact ⟨[O,O,O,O,PT r 1,E xA xn xc,T false,T false,O,O,O,T false,O,O,O,O,O,O,O,O,O,O,O,O,O,O,O,O,O,O,O,O,O,O,O,O,O,O,O,O,O,O,O,O,O,O,O,O,O,O,O,O,O,O],rfl,S,U.refl aa⟩
 ·skip
  rintro _ cd ⟨c,rfl,aw,ax⟩
  refine aV _ _ ?_
  refine wp_seq_k fun ce a0=>?_
  refine wp_region_lit ?_
  refine PV (AZ xi xA xn xc xs) (run_loadA [I xi,E xA xn xc,T xs] rfl rfl (aw.at_ _ (MI (i:=2) rfl)) rfl (ag60 _) (sz60 _)) rfl ?_
  simp only [PA]
  refine wpList_plain rfl fun K hK=>o_call 111 _ #[AZ xi xA xn xc xs] Try.func111 (by kernel_rfl) rfl rfl rfl aw (words_c (Zx.u (((u6.trans aj).trans al).trans ax))) fun cf cg a1 ay a2=>?_
  obtain ⟨M,l,A,rfl,a3⟩:=a1
  obtain ⟨G,az⟩:∃ s,decide (x<0)=s:=⟨_,rfl⟩
  rw [az]
  refine hK _ _ ?_
  simp only [PA]
  refine PV (.tuple (W2 M l A G)) rfl rfl ?_
  simp only [PA]
  refine PV (E M l A) rfl rfl ?_
  simp only [PA]
  refine PV (T G) rfl rfl ?_
  simp only [PA]
  refine PV (E M l A) rfl rfl ?_
  simp only [PA]
  refine PV (T G) rfl rfl ?_
  simp only [PA]
  refine wpList_nil ?_
  refine a0 _ _ ?_
  refine wp_seq_k fun ch a4=>?_
  refine wp_region_lit ?_
  refine PV (AZ yi yA yn yc ys) (run_loadA [I yi,E yA yn yc,T ys] rfl rfl (ay.at_ _ (MI (i:=1) rfl)) rfl (ag60 _) (sz60 _)) rfl ?_
  simp only [PA]
  refine wpList_plain rfl fun K hK=>o_call 111 _ #[AZ yi yA yn yc ys] Try.func111 (by kernel_rfl) rfl rfl rfl ay (words_c (Zy.u ((((u6.trans aj).trans al).trans ax).trans a2))) fun ci X a5 a6 a7=>?_
  obtain ⟨D,f,o,rfl,a8⟩:=a5
  obtain ⟨H,aA⟩:∃ s,decide (y<0)=s:=⟨_,rfl⟩
  rw [aA]
  refine hK _ _ ?_
  simp only [PA]
  refine PV (.tuple (W2 D f o H)) rfl rfl ?_
  simp only [PA]
  refine PV (E D f o) rfl rfl ?_
  simp only [PA]
  refine PV (T H) rfl rfl ?_
  simp only [PA]
  refine PV (E D f o) rfl rfl ?_
  simp only [PA]
  refine PV (T H) rfl rfl ?_
  simp only [PA]
  refine wpList_nil ?_
  refine a4 _ _ ?_
  refine wp_seq_k fun cj a9=>?_
  refine wp_region_lit ?_
  have dX:=(a3.u a7)
  have dY:=a8
  have lX:=dX.len
  have lY:=dY.len
  have bX:l≤100000000:=lX▸fx
  have bY:f≤100000000:=lY▸fy
  obtain ⟨LL,hLL⟩:∃ z:Nat,l+f=z:=⟨_,rfl⟩
  have ba:=St.start X
  refine PV (E M l A) rfl rfl ?_
  simp only [PA]
  refine PV (I (l:Int)) (run_len36 rfl rfl) rfl ?_
  simp only [PA]
  refine PV (E D f o) rfl rfl ?_
  simp only [PA]
  refine PV (I (f:Int)) (run_len36 rfl rfl) rfl ?_
  simp only [PA]
  refine PV (I ((LL:Nat):Int)) (CT (run_bin (I (l:Int)) (I (f:Int)) _ rfl rfl rfl (bin_add_3 _ _ _ _)) (vint (by rw [IntKind.wrap_i64]; omega))) rfl ?_
  simp only [PA]
  refine wpList_plain rfl fun K hK=>o_make36 (LL) rfl rfl rfl (by omega) ba fun q ck bb cl=>hK _ _ ?_
  simp only [PA]
  refine PV (E (some ⟨q,0,none⟩) LL LL) rfl rfl ?_
  simp only [PA]
  refine wpList_nil ?_
  refine a9 _ _ ?_
  refine wp_seq_k fun cm bc=>?_
  refine wp_seq_k fun cn bd=>?_
  refine wp_region_lit ?_
  refine PV (E M l A) rfl rfl ?_
  simp only [PA]
  refine PV (I (l:Int)) (run_len36 rfl rfl) rfl ?_
  simp only [PA]
  refine PV (I 0) rfl rfl ?_
  simp only [PA]
  refine wpList_nil ?_
  refine bd _ _ ?_
  refine wp_cut (fun aa_ w'=>∃ (ls:List Nat) (g:List Value),aa_=⟨#[AZ xi xA xn xc xs,AZ yi yA yn yc ys,PT r 0,PT C 0,PT Q 0,(GD c 0),(GD c 1),(GD c 2),(GD c 3),E M l A,T G,E D f o,T H,E (some ⟨q,0,none⟩) LL LL,(GD g 0),(GD g 1),(GD g 2),(GD g 3),(GD c 4),(GD c 5),(GD c 6),(GD c 7),(GD c 8),(GD c 9),(GD c 10),(GD c 11),(GD c 12),(GD c 13),(GD c 14),(GD c 15),(GD c 16),(GD c 17),(GD c 18),(GD c 19),(GD c 20),(GD c 21),(GD c 22),(GD c 23),(GD c 24),(GD c 25),(GD c 26),(GD c 27),(GD c 28),(GD c 29),(GD c 30),(GD c 31),(GD c 32),(GD c 33),(GD c 34),(GD c 35),(GD c 36),(GD c 37),(GD c 38),(GD c 39),(GD c 40),(GD c 41),(GD c 42),(GD c 43),(GD c 44),(GD c 45),(GD c 46),(GD c 47),(GD c 48),(GD c 49),(GD c 50),(GD c 51),(GD c 52),(GD c 53),.tuple (W2 M l A G),AZ xi xA xn xc xs,.tuple (W2 M l A G),E M l A,T G,.tuple (W2 D f o H),AZ yi yA yn yc ys,.tuple (W2 D f o H),E D f o,T H,E M l A,I (l:Int),E D f o,I (f:Int),I ((LL:Nat):Int),E (some ⟨q,0,none⟩) LL LL,E M l A,I (l:Int),(GD g 4),(GD g 5),(GD g 6),(GD g 7),(GD g 8),(GD g 9),(GD g 10),(GD g 11),(GD g 12),(GD g 13),(GD g 14),(GD g 15),(GD g 16),(GD g 17),(GD g 18),(GD g 19),(GD g 20),(GD g 21),(GD g 22),(GD g 23),(GD g 24),(GD g 25),(GD g 26),(GD g 27),(GD g 28),(GD g 29),(GD g 30),(GD g 31),(GD g 32),(GD g 33),(GD g 34),(GD g 35),(GD g 36),(GD g 37),(GD g 38),(GD g 39),(GD g 40),(GD g 41),(GD g 42),(GD g 43),(GD g 44),(GD g 45),(GD g 46),(GD g 47),(GD g 48),(GD g 49),(GD g 50),(GD g 51),O,O,O,O,O],[]⟩∧St X w' [⟨q,wc (ls),100⟩]∧(ls.length=LL∧Dig ls∧val ls=x.natAbs * y.natAbs)∧True) ?_ ?_
  ·refine wp_block ?_
   refine wp_loop_g (fun mm aa_ w'=>∃ (i:Nat) (ls:List Nat) (d:List Value),aa_=⟨#[AZ xi xA xn xc xs,AZ yi yA yn yc ys,PT r 0,PT C 0,PT Q 0,(GD c 0),(GD c 1),(GD c 2),(GD c 3),E M l A,T G,E D f o,T H,E (some ⟨q,0,none⟩) LL LL,(GD d 0),(GD d 1),(GD d 2),(GD d 3),(GD c 4),(GD c 5),(GD c 6),(GD c 7),(GD c 8),(GD c 9),(GD c 10),(GD c 11),(GD c 12),(GD c 13),(GD c 14),(GD c 15),(GD c 16),(GD c 17),(GD c 18),(GD c 19),(GD c 20),(GD c 21),(GD c 22),(GD c 23),(GD c 24),(GD c 25),(GD c 26),(GD c 27),(GD c 28),(GD c 29),(GD c 30),(GD c 31),(GD c 32),(GD c 33),(GD c 34),(GD c 35),(GD c 36),(GD c 37),(GD c 38),(GD c 39),(GD c 40),(GD c 41),(GD c 42),(GD c 43),(GD c 44),(GD c 45),(GD c 46),(GD c 47),(GD c 48),(GD c 49),(GD c 50),(GD c 51),(GD c 52),(GD c 53),.tuple (W2 M l A G),AZ xi xA xn xc xs,.tuple (W2 M l A G),E M l A,T G,.tuple (W2 D f o H),AZ yi yA yn yc ys,.tuple (W2 D f o H),E D f o,T H,E M l A,I (l:Int),E D f o,I (f:Int),I ((LL:Nat):Int),E (some ⟨q,0,none⟩) LL LL,E M l A,I (l:Int),I ((i:Nat):Int),(GD d 4),(GD d 5),(GD d 6),(GD d 7),(GD d 8),(GD d 9),(GD d 10),(GD d 11),(GD d 12),(GD d 13),(GD d 14),(GD d 15),(GD d 16),(GD d 17),(GD d 18),(GD d 19),(GD d 20),(GD d 21),(GD d 22),(GD d 23),(GD d 24),(GD d 25),(GD d 26),(GD d 27),(GD d 28),(GD d 29),(GD d 30),(GD d 31),(GD d 32),(GD d 33),(GD d 34),(GD d 35),(GD d 36),(GD d 37),(GD d 38),(GD d 39),(GD d 40),(GD d 41),(GD d 42),(GD d 43),(GD d 44),(GD d 45),(GD d 46),(GD d 47),(GD d 48),(GD d 49),(GD d 50),O,O,O,O,O],[]⟩∧St X w' [⟨q,wc (ls),100⟩]∧(i≤l)∧(ls.length=LL∧Dig ls∧val ls=val ((dg x.natAbs).take i) * y.natAbs∧∀ j,i+f≤j→ls.getD j 0=0)∧l - i=mm) (l) ⟨0,List.replicate LL 0,[O,O,O,O,O,O,O,O,O,O,O,O,O,O,O,O,O,O,O,O,O,O,O,O,O,O,O,O,O,O,O,O,O,O,O,O,O,O,O,O,O,O,O,O,O,O,O,O,O,O,O],rfl,bb,Nat.zero_le _,⟨by simp,repl_dig LL,by rw [repl_val]; simp [val],fun j _=>repl_at LL j⟩,rfl⟩ ?_
   rintro _ _ co ⟨i,ls,d,rfl,aC,hin,hI,rfl⟩
   refine wp_seq_k fun cp aD=>?_
   refine wp_region_lit ?_
   by_cases h1:(((i:Nat):Int):Int)<(l:Int)
   ·skip
    refine PV (T true) (CT (run_bin (I ((i:Nat):Int)) (I (l:Int)) _ rfl rfl rfl (bin_lss_3 _ _ _ _)) (congrArg Value.bool (decide_eq_true h1))) rfl ?_
    simp only [PA]
    refine wpList_nil ?_
    refine aD _ _ ?_
    refine wp_seq_k fun cq be=>?_
    refine cond_true rfl ?_
    refine wp_skip ?_
    refine be _ _ ?_
    refine wp_seq_k fun cs bf=>?_
    refine wp_block ?_
    refine wp_seq_k fun cu bg=>?_
    refine wp_region_lit ?_
    obtain ⟨xad,eA⟩:=dX.some_ (by omega)
    subst eA
    obtain ⟨P,hxi⟩:∃ z:Nat,(dg x.natAbs).getD i 0=z:=⟨_,rfl⟩
    have hxiB:P<BW:=hxi▸(dg_dig _).at_ i
    obtain ⟨V0,aG⟩:∃ z:Nat,val ls=z:=⟨_,rfl⟩
    have bh:V0=val ((dg x.natAbs).take i) * y.natAbs:=by rw [← aG]; exact hI.2.2.1
    refine PV (I ((i:Nat):Int)) rfl rfl ?_
    simp only [PA]
    refine PV (I ((i:Nat):Int)) rfl rfl ?_
    simp only [PA]
    refine wpList_nil ?_
    refine bg _ _ ?_
    refine wp_seq_k fun cw bi=>?_
    refine wp_region_lit ?_
    refine PV (J 0) rfl rfl ?_
    simp only [PA]
    refine wpList_nil ?_
    refine bi _ _ ?_
    refine wp_seq_k fun cx bj=>?_
    refine wp_seq_k fun cy bm=>?_
    refine wp_region_lit ?_
    refine PV (E D f o) rfl rfl ?_
    simp only [PA]
    refine PV (I (f:Int)) (run_len36 rfl rfl) rfl ?_
    simp only [PA]
    refine PV (I 0) rfl rfl ?_
    simp only [PA]
    refine wpList_nil ?_
    refine bm _ _ ?_
    refine wp_block ?_
    refine wp_loop_g (fun mm aa_ w'=>∃ (k:Nat) (lt:List Nat) (cc:Nat) (e:List Value),aa_=⟨#[AZ xi xA xn xc xs,AZ yi yA yn yc ys,PT r 0,PT C 0,PT Q 0,(GD c 0),(GD c 1),(GD c 2),(GD c 3),E (some xad) l A,T G,E D f o,T H,E (some ⟨q,0,none⟩) LL LL,I ((i:Nat):Int),J ((cc:Nat):Int),(GD e 0),(GD e 1),(GD c 4),(GD c 5),(GD c 6),(GD c 7),(GD c 8),(GD c 9),(GD c 10),(GD c 11),(GD c 12),(GD c 13),(GD c 14),(GD c 15),(GD c 16),(GD c 17),(GD c 18),(GD c 19),(GD c 20),(GD c 21),(GD c 22),(GD c 23),(GD c 24),(GD c 25),(GD c 26),(GD c 27),(GD c 28),(GD c 29),(GD c 30),(GD c 31),(GD c 32),(GD c 33),(GD c 34),(GD c 35),(GD c 36),(GD c 37),(GD c 38),(GD c 39),(GD c 40),(GD c 41),(GD c 42),(GD c 43),(GD c 44),(GD c 45),(GD c 46),(GD c 47),(GD c 48),(GD c 49),(GD c 50),(GD c 51),(GD c 52),(GD c 53),.tuple (W2 (some xad) l A G),AZ xi xA xn xc xs,.tuple (W2 (some xad) l A G),E (some xad) l A,T G,.tuple (W2 D f o H),AZ yi yA yn yc ys,.tuple (W2 D f o H),E D f o,T H,E (some xad) l A,I (l:Int),E D f o,I (f:Int),I ((LL:Nat):Int),E (some ⟨q,0,none⟩) LL LL,E (some xad) l A,I (l:Int),I ((i:Nat):Int),T true,I ((i:Nat):Int),E D f o,I (f:Int),I ((k:Nat):Int),(GD e 2),(GD e 3),(GD e 4),(GD e 5),(GD e 6),(GD e 7),(GD e 8),(GD e 9),(GD e 10),(GD e 11),(GD e 12),(GD e 13),(GD e 14),(GD e 15),(GD e 16),(GD e 17),(GD e 18),(GD e 19),(GD e 20),(GD e 21),(GD e 22),(GD e 23),(GD e 24),(GD e 25),(GD e 26),(GD e 27),(GD e 28),(GD e 29),(GD e 30),(GD e 31),(GD e 32),(GD e 33),(GD e 34),(GD d 42),(GD d 43),(GD d 44),(GD d 45),(GD d 46),(GD d 47),(GD d 48),(GD d 49),(GD d 50),O,O,O,O,O],[]⟩∧St X w' [⟨q,wc (lt),100⟩]∧(k≤f)∧(cc<BW)∧(lt.length=LL∧Dig lt∧val lt+BW ^ (i+k) * cc=V0+P * BW ^ i * val ((dg y.natAbs).take k)∧∀ j,i+f≤j→lt.getD j 0=0)∧f - k=mm) (f) ⟨0,ls,0,[(GD d 2),(GD d 3),(GD d 9),(GD d 10),(GD d 11),(GD d 12),(GD d 13),(GD d 14),(GD d 15),(GD d 16),(GD d 17),(GD d 18),(GD d 19),(GD d 20),(GD d 21),(GD d 22),(GD d 23),(GD d 24),(GD d 25),(GD d 26),(GD d 27),(GD d 28),(GD d 29),(GD d 30),(GD d 31),(GD d 32),(GD d 33),(GD d 34),(GD d 35),(GD d 36),(GD d 37),(GD d 38),(GD d 39),(GD d 40),(GD d 41)],rfl,aC,Nat.zero_le _,BW_pos,⟨hI.1,hI.2.1,by rw [aG]; simp [val],hI.2.2.2⟩,rfl⟩ ?_
    rintro _ _ cz ⟨k,lt,cc,e,rfl,aH,hkm,hc,hJ,rfl⟩
    refine wp_seq_k fun cA aK=>?_
    refine wp_region_lit ?_
    by_cases h2:(((k:Nat):Int):Int)<(f:Int)
    ·skip
     refine PV (T true) (CT (run_bin (I ((k:Nat):Int)) (I (f:Int)) _ rfl rfl rfl (bin_lss_3 _ _ _ _)) (congrArg Value.bool (decide_eq_true h2))) rfl ?_
     simp only [PA]
     refine wpList_nil ?_
     refine aK _ _ ?_
     refine wp_seq_k fun cC bn=>?_
     refine cond_true rfl ?_
     refine wp_skip ?_
     refine bn _ _ ?_
     refine wp_seq_k fun cD bo=>?_
     refine wp_block ?_
     refine wp_seq_k fun cF bp=>?_
     refine wp_region_lit ?_
     obtain ⟨yad,eB⟩:=dY.some_ (by omega)
     subst eB
     obtain ⟨b,hb⟩:∃ z:Nat,(dg y.natAbs).getD k 0=z:=⟨_,rfl⟩
     have hbB:b<BW:=hb▸(dg_dig _).at_ k
     obtain ⟨ov,hov⟩:∃ z:Nat,lt.getD (i+k) 0=z:=⟨_,rfl⟩
     have hovB:ov<BW:=hov▸hJ.2.1.at_ _
     have HST:=times_step (ls:=lt) (b:=k) (base:=i) (p:=i+k) (a:=P) (cv:=cc) (V0:=V0) (yk:=val ((dg y.natAbs).take k)) (bk:=b) hJ.2.1 (by rw [hJ.1]; omega) hxiB hbB hc rfl hJ.2.2.1
     rw [hov] at HST
     obtain ⟨pr,hpr⟩:∃ z:Nat,P * b=z:=⟨_,rfl⟩
     rw [hpr] at HST
     obtain ⟨W,bq⟩:∃ z:Nat,pr+ov=z:=⟨_,rfl⟩
     rw [bq] at HST
     obtain ⟨L,br⟩:∃ z:Nat,cc+W=z:=⟨_,rfl⟩
     rw [br] at HST
     refine PV (I ((k:Nat):Int)) rfl rfl ?_
     simp only [PA]
     refine PV (I ((k:Nat):Int)) rfl rfl ?_
     simp only [PA]
     refine wpList_nil ?_
     refine bp _ _ ?_
     refine wp_seq_k fun cG bs=>?_
     refine region_drawnP 22 (fun j=>decide (22≤j)) (by kernel_rfl) rfl aH fun cH Y cK=>?_
     refine anyT_here (i:=0) (E (some ⟨q,0,none⟩) LL LL) rfl (by kernel_rfl) (by kernel_rfl) (by kernel_rfl) (by kernel_rfl) (fun _ _ _ h=>h) rfl rfl ?_
     simp only [PA]
     refine anyT_here (i:=1) (I ((i:Nat):Int)) rfl (by kernel_rfl) (by kernel_rfl) (by kernel_rfl) (by kernel_rfl) (fun _ _ _ h=>h) rfl rfl ?_
     simp only [PA]
     refine anyT_here (i:=2) (I ((k:Nat):Int)) rfl (by kernel_rfl) (by kernel_rfl) (by kernel_rfl) (by kernel_rfl) (fun _ _ _ h=>h) rfl rfl ?_
     simp only [PA]
     refine anyT_here (i:=3) (I ((i+k:Nat):Int)) rfl (by kernel_rfl) (by kernel_rfl) (by kernel_rfl) (by kernel_rfl) (fun _ _ _ h=>h) rfl (CT (run_bin (I ((i:Nat):Int)) (I ((k:Nat):Int)) _ rfl rfl rfl (bin_add_3 _ _ _ _)) (vint (i_add (m:=i) (n:=k) (by omega)))) ?_
     simp only [PA]
     refine anyT_here (i:=4) (.pointer (some ⟨q,i+k,none⟩)) rfl (by kernel_rfl) (by kernel_rfl) (by kernel_rfl) (by kernel_rfl) (fun _ _ _ h=>h) rfl (run_idxB rfl rfl rfl (by omega)) ?_
     simp only [PA]
     refine anyT_here (i:=5) (.int .u32 ((ov:Nat):Int)) rfl (by kernel_rfl) (by kernel_rfl) (by kernel_rfl) (by kernel_rfl) (fun _ _ _ h=>h) rfl (CT (run_loadB rfl rfl (Y.at_ _ (MI (i:=0) rfl)) (by first | omega | (rw [hJ.1]; omega))) (vnat hov)) ?_
     simp only [PA]
     refine anyT_here (i:=6) (J ((ov:Nat):Int)) rfl (by kernel_rfl) (by kernel_rfl) (by kernel_rfl) (by kernel_rfl) (fun _ _ _ h=>h) rfl (run_cv _ rfl rfl rfl rfl (wrap_u64 (by rw [BW_eq] at hovB; omega))) ?_
     simp only [PA]
     refine anyT_here (i:=7) (E (some xad) l A) rfl (by kernel_rfl) (by kernel_rfl) (by kernel_rfl) (by kernel_rfl) (fun _ _ _ h=>h) rfl rfl ?_
     simp only [PA]
     refine anyT_here (i:=8) (I ((i:Nat):Int)) rfl (by kernel_rfl) (by kernel_rfl) (by kernel_rfl) (by kernel_rfl) (fun _ _ _ h=>h) rfl rfl ?_
     simp only [PA]
     refine anyT_here (i:=9) (.pointer (some (xad.add i))) rfl (by kernel_rfl) (by kernel_rfl) (by kernel_rfl) (by kernel_rfl) (fun _ _ _ h=>h) rfl (run_idx (t:=36) rfl rfl rfl (by omega)) ?_
     simp only [PA]
     refine anyT_here (i:=10) (.int .u32 ((P:Nat):Int)) rfl (by kernel_rfl) (by kernel_rfl) (by kernel_rfl) (by kernel_rfl) (fun _ _ _ h=>h) rfl (CT (run_loadW _ rfl rfl (((dX.below Y.bl)).cellA (by first | omega | (rw [hJ.1]; omega))) (ag100 _)) (vnat hxi)) ?_
     simp only [PA]
     refine anyT_here (i:=11) (J ((P:Nat):Int)) rfl (by kernel_rfl) (by kernel_rfl) (by kernel_rfl) (by kernel_rfl) (fun _ _ _ h=>h) rfl (run_cv _ rfl rfl rfl rfl (wrap_u64 (by rw [BW_eq] at hxiB; omega))) ?_
     simp only [PA]
     refine anyT_here (i:=12) (E (some yad) f o) rfl (by kernel_rfl) (by kernel_rfl) (by kernel_rfl) (by kernel_rfl) (fun _ _ _ h=>h) rfl rfl ?_
     simp only [PA]
     refine anyT_here (i:=13) (I ((k:Nat):Int)) rfl (by kernel_rfl) (by kernel_rfl) (by kernel_rfl) (by kernel_rfl) (fun _ _ _ h=>h) rfl rfl ?_
     simp only [PA]
     refine anyT_here (i:=14) (.pointer (some (yad.add k))) rfl (by kernel_rfl) (by kernel_rfl) (by kernel_rfl) (by kernel_rfl) (fun _ _ _ h=>h) rfl (run_idx (t:=36) rfl rfl rfl (by omega)) ?_
     simp only [PA]
     refine anyT_here (i:=15) (.int .u32 ((b:Nat):Int)) rfl (by kernel_rfl) (by kernel_rfl) (by kernel_rfl) (by kernel_rfl) (fun _ _ _ h=>h) rfl (CT (run_loadW _ rfl rfl (((dY.below Y.bl)).cellA (by first | omega | (rw [hJ.1]; omega))) (ag100 _)) (vnat hb)) ?_
     simp only [PA]
     refine anyT_here (i:=16) (J ((b:Nat):Int)) rfl (by kernel_rfl) (by kernel_rfl) (by kernel_rfl) (by kernel_rfl) (fun _ _ _ h=>h) rfl (run_cv _ rfl rfl rfl rfl (wrap_u64 (by rw [BW_eq] at hbB; omega))) ?_
     simp only [PA]
     refine anyT_here (i:=17) (J ((pr:Nat):Int)) rfl (by kernel_rfl) (by kernel_rfl) (by kernel_rfl) (by kernel_rfl) (fun _ _ _ h=>h) rfl (CT (run_bin (J ((P:Nat):Int)) (J ((b:Nat):Int)) _ rfl rfl rfl (bin_mul_104 _ _ _ _)) ((vint (w_mul (m:=P) (n:=b) (by rw [hpr]; exact HST.2.2.2.1))).trans (vnat hpr))) ?_
     simp only [PA]
     refine anyT_here (i:=18) (J ((W:Nat):Int)) rfl (by kernel_rfl) (by kernel_rfl) (by kernel_rfl) (by kernel_rfl) (fun _ _ _ h=>h) rfl (CT (run_bin (J ((ov:Nat):Int)) (J ((pr:Nat):Int)) _ rfl rfl rfl (bin_add_104 _ _ _ _)) ((vint (w_add (m:=ov) (n:=pr) (by have:=HST.2.2.2.2.1; omega))).trans (vnat (by omega)))) ?_
     simp only [PA]
     refine anyT_here (i:=19) (J ((cc:Nat):Int)) rfl (by kernel_rfl) (by kernel_rfl) (by kernel_rfl) (by kernel_rfl) (fun _ _ _ h=>h) rfl rfl ?_
     simp only [PA]
     refine anyT_here (i:=20) (J ((L:Nat):Int)) rfl (by kernel_rfl) (by kernel_rfl) (by kernel_rfl) (by kernel_rfl) (fun _ _ _ h=>h) rfl (CT (run_bin (J ((W:Nat):Int)) (J ((cc:Nat):Int)) _ rfl rfl rfl (bin_add_104 _ _ _ _)) ((vint (w_add (m:=W) (n:=cc) (by have:=HST.2.2.1; omega))).trans (vnat (by omega)))) ?_
     simp only [PA]
     refine anyT_here (i:=21) (J ((L:Nat):Int)) rfl (by kernel_rfl) (by kernel_rfl) (by kernel_rfl) (by kernel_rfl) (fun _ _ _ h=>h) rfl rfl ?_
     simp only [PA]
     refine anyT_done (by kernel_rfl) ?_ _
     refine bs _ _ ?_
     refine wp_seq_k fun cL bt=>?_
     refine wp_region_lit ?_
     refine PV (E (some ⟨q,0,none⟩) LL LL) rfl rfl ?_
     simp only [PA]
     refine PV (I ((i:Nat):Int)) rfl rfl ?_
     simp only [PA]
     refine PV (I ((k:Nat):Int)) rfl rfl ?_
     simp only [PA]
     refine PV (I ((i+k:Nat):Int)) (CT (run_bin (I ((i:Nat):Int)) (I ((k:Nat):Int)) _ rfl rfl rfl (bin_add_3 _ _ _ _)) (vint (i_add (m:=i) (n:=k) (by omega)))) rfl ?_
     simp only [PA]
     refine PV (J ((L:Nat):Int)) rfl rfl ?_
     simp only [PA]
     refine PV (.int .u32 ((((L) % BW):Nat):Int)) (run_cv _ rfl rfl rfl rfl (wrap_u32)) rfl ?_
     simp only [PA]
     refine PV (.pointer (some ⟨q,i+k,none⟩)) (run_idxB rfl rfl rfl (by omega)) rfl ?_
     simp only [PA]
     refine wpList_plain rfl fun K hK=>o_stB 0 (((L) % BW)) ([⟨q,wc (((lt).set (i+k) (((L) % BW)))),100⟩]) rfl rfl rfl Y rfl (by rw [hJ.1]; omega) rfl fun cM bu=>hK _ _ ?_
     simp only [PA]
     refine wpList_nil ?_
     refine bt _ _ ?_
     refine wp_region_lit ?_
     refine PV (J ((L:Nat):Int)) rfl rfl ?_
     simp only [PA]
     refine PV (J ((L / BW:Nat):Int)) (CT (run_bin (J ((L:Nat):Int)) (J 32) _ rfl rfl rfl (bin_shr_104_u64 _ _ _ _)) (vint w_shr32)) rfl ?_
     simp only [PA]
     refine PV (J ((L / BW:Nat):Int)) rfl rfl ?_
     simp only [PA]
     refine wpList_nil ?_
     refine bo _ _ ?_
     refine wp_region_lit ?_
     refine PV (I ((k+1:Nat):Int)) (CT (run_bin (I ((k:Nat):Int)) (I 1) _ rfl rfl rfl (bin_add_3 _ _ _ _)) (vint (i_add (m:=k) (n:=1) (by omega)))) rfl ?_
     simp only [PA]
     refine PV (I ((k+1:Nat):Int)) rfl rfl ?_
     simp only [PA]
     refine wpList_nil ?_
     exact ⟨f - (k+1),by omega,k+1,((lt).set (i+k) (((L) % BW))),L / BW,[I ((k:Nat):Int),J ((L:Nat):Int),T true,I ((k:Nat):Int),E (some ⟨q,0,none⟩) LL LL,I ((i:Nat):Int),I ((k:Nat):Int),I ((i+k:Nat):Int),.pointer (some ⟨q,i+k,none⟩),.int .u32 ((ov:Nat):Int),J ((ov:Nat):Int),E (some xad) l A,I ((i:Nat):Int),.pointer (some (xad.add i)),.int .u32 ((P:Nat):Int),J ((P:Nat):Int),E (some yad) f o,I ((k:Nat):Int),.pointer (some (yad.add k)),.int .u32 ((b:Nat):Int),J ((b:Nat):Int),J ((pr:Nat):Int),J ((W:Nat):Int),J ((cc:Nat):Int),J ((L:Nat):Int),E (some ⟨q,0,none⟩) LL LL,I ((i:Nat):Int),I ((k:Nat):Int),I ((i+k:Nat):Int),J ((L:Nat):Int),.int .u32 ((((L) % BW):Nat):Int),.pointer (some ⟨q,i+k,none⟩),J ((L:Nat):Int),J ((L / BW:Nat):Int),I ((k+1:Nat):Int)],rfl,bu,by omega,HST.2.1,⟨by rw [List.length_set]; exact hJ.1,HST.1,by rw [val_take_step,hb,← Nat.add_assoc]; exact HST.2.2.2.2.2,fun j hj=>by rw [getD_set,if_neg (by omega)]; exact hJ.2.2.2 j hj⟩,rfl⟩
    ·skip
     refine PV (T false) (CT (run_bin (I ((k:Nat):Int)) (I (f:Int)) _ rfl rfl rfl (bin_lss_3 _ _ _ _)) (congrArg Value.bool (decide_eq_false h2))) rfl ?_
     simp only [PA]
     refine wpList_nil ?_
     refine aK _ _ ?_
     refine wp_seq_k fun cN cP=>?_
     refine cond_false rfl ?_
     refine wp_exit ?_
     refine bj _ _ ?_
     refine wp_region_lit ?_
     have bv:k=f:=by omega
     have hV:val lt+BW ^ (i+f) * cc=V0+(dg x.natAbs).getD i 0 * BW ^ i * y.natAbs:=by have h:=hJ.2.2.1; rw [bv,val_take_le (by rw [lY]; exact Nat.le_refl _),val_dg,← hxi] at h; exact h
     have HR:=times_row hJ.2.1 (by rw [hJ.1]; omega) (rfl:i+f=i+f) hc (hJ.2.2.2 (i+f) (Nat.le_refl _)) bh hV
     refine PV (E (some ⟨q,0,none⟩) LL LL) rfl rfl ?_
     simp only [PA]
     refine PV (I ((i:Nat):Int)) rfl rfl ?_
     simp only [PA]
     refine PV (E D f o) rfl rfl ?_
     simp only [PA]
     refine PV (I (f:Int)) (run_len36 rfl rfl) rfl ?_
     simp only [PA]
     refine PV (I ((i+f:Nat):Int)) (CT (run_bin (I ((i:Nat):Int)) (I (f:Int)) _ rfl rfl rfl (bin_add_3 _ _ _ _)) (vint (i_add (m:=i) (n:=f) (by omega)))) rfl ?_
     simp only [PA]
     refine PV (J ((cc:Nat):Int)) rfl rfl ?_
     simp only [PA]
     refine PV (.int .u32 ((cc:Nat):Int)) (CT (run_cv _ rfl rfl rfl rfl (wrap_u32)) (vnat (Nat.mod_eq_of_lt hc))) rfl ?_
     simp only [PA]
     refine PV (.pointer (some ⟨q,i+f,none⟩)) (run_idxB rfl rfl rfl (by omega)) rfl ?_
     simp only [PA]
     refine wpList_plain rfl fun K hK=>o_stB 0 (cc) ([⟨q,wc (((lt).set (i+f) (cc))),100⟩]) rfl rfl rfl aH rfl (by rw [hJ.1]; omega) rfl fun cQ bw=>hK _ _ ?_
     simp only [PA]
     refine wpList_nil ?_
     refine bf _ _ ?_
     refine wp_region_lit ?_
     refine PV (I ((i+1:Nat):Int)) (CT (run_bin (I ((i:Nat):Int)) (I 1) _ rfl rfl rfl (bin_add_3 _ _ _ _)) (vint (i_add (m:=i) (n:=1) (by omega)))) rfl ?_
     simp only [PA]
     refine PV (I ((i+1:Nat):Int)) rfl rfl ?_
     simp only [PA]
     refine wpList_nil ?_
     exact ⟨l - (i+1),by omega,i+1,((lt).set (i+f) (cc)),[I ((i:Nat):Int),J ((cc:Nat):Int),(GD e 0),(GD e 1),T true,I ((i:Nat):Int),E D f o,I (f:Int),I ((k:Nat):Int),T false,(GD e 3),(GD e 4),(GD e 5),(GD e 6),(GD e 7),(GD e 8),(GD e 9),(GD e 10),(GD e 11),(GD e 12),(GD e 13),(GD e 14),(GD e 15),(GD e 16),(GD e 17),(GD e 18),(GD e 19),(GD e 20),(GD e 21),(GD e 22),(GD e 23),(GD e 24),(GD e 25),(GD e 26),(GD e 27),(GD e 28),(GD e 29),(GD e 30),(GD e 31),(GD e 32),(GD e 33),(GD e 34),E (some ⟨q,0,none⟩) LL LL,I ((i:Nat):Int),E D f o,I (f:Int),I ((i+f:Nat):Int),J ((cc:Nat):Int),.int .u32 ((cc:Nat):Int),.pointer (some ⟨q,i+f,none⟩),I ((i+1:Nat):Int)],rfl,bw,by omega,⟨by rw [List.length_set]; exact hJ.1,HR.1,HR.2,fun j hj=>by rw [getD_set,if_neg (by omega)]; exact hJ.2.2.2 j (by omega)⟩,rfl⟩
   ·skip
    refine PV (T false) (CT (run_bin (I ((i:Nat):Int)) (I (l:Int)) _ rfl rfl rfl (bin_lss_3 _ _ _ _)) (congrArg Value.bool (decide_eq_false h1))) rfl ?_
    simp only [PA]
    refine wpList_nil ?_
    refine aD _ _ ?_
    refine wp_seq_k fun cR cS=>?_
    refine cond_false rfl ?_
    refine wp_exit ?_
    exact ⟨ls,[(GD d 0),(GD d 1),(GD d 2),(GD d 3),I ((i:Nat):Int),T false,(GD d 5),(GD d 6),(GD d 7),(GD d 8),(GD d 9),(GD d 10),(GD d 11),(GD d 12),(GD d 13),(GD d 14),(GD d 15),(GD d 16),(GD d 17),(GD d 18),(GD d 19),(GD d 20),(GD d 21),(GD d 22),(GD d 23),(GD d 24),(GD d 25),(GD d 26),(GD d 27),(GD d 28),(GD d 29),(GD d 30),(GD d 31),(GD d 32),(GD d 33),(GD d 34),(GD d 35),(GD d 36),(GD d 37),(GD d 38),(GD d 39),(GD d 40),(GD d 41),(GD d 42),(GD d 43),(GD d 44),(GD d 45),(GD d 46),(GD d 47),(GD d 48),(GD d 49),(GD d 50)],rfl,aC,⟨hI.1,hI.2.1,by rw [hI.2.2.1,show i=l by omega,val_take_le (by rw [lX]; exact Nat.le_refl _),val_dg]⟩,trivial⟩
  ·skip
   rintro _ cU ⟨ls,g,rfl,bx,hE,-⟩
   have aM:=St.join a6 bx
   refine bc _ _ ?_
   refine wp_seq_k fun cV bz=>?_
   refine wp_region_lit ?_
   refine PV (E (some ⟨q,0,none⟩) LL LL) rfl rfl ?_
   simp only [PA]
   refine PV (T G) rfl rfl ?_
   simp only [PA]
   refine PV (T H) rfl rfl ?_
   simp only [PA]
   refine PV (T (G != H)) (run_bin (T G) (T H) _ rfl rfl rfl (bin_neq_4 _ _ _ _)) rfl ?_
   simp only [PA]
   refine wpList_plain rfl fun K hK=>o_call 112 _ (W2 (some ⟨q,0,none⟩) LL LL (G != H)) Try.func112 (by kernel_rfl) rfl rfl rfl aM (made_c (wds_len (aM.at_ _ (MI (i:=0) rfl)) (⟨hE.1,by omega⟩)) (hE.2.1) (hE.2.2)) fun cW cX aN bA cY=>?_
   obtain ⟨bC,ah⟩:∃ zz_:Int,(if (G != H)=true then -((((x.natAbs * y.natAbs):Nat)):Int) else (((x.natAbs * y.natAbs):Nat):Int))=zz_:=⟨_,rfl⟩
   rw [ah] at aN
   have cB:Fit 200000000 bC:=ah▸(Fit.sgn (FitN.mul fx fy))
   obtain ⟨bD,bF,bG,bH,bK,rfl,bL⟩:=zopen aN
   refine hK _ _ ?_
   simp only [PA]
   refine wpList_plain rfl fun K hK=>OT 1 (Z3 bD bF bG bH bK) bA (sz60 _) fun cE aP bM=>hK _ _ ?_
   simp only [PA]
   refine wpList_nil ?_
   refine bz _ _ ?_
   refine wp_ret ?_
   repeat (with_reducible first | refine then_ret ?_ | refine inBlock_ret ?_)
   refine bodyPost_ret (ret60 rfl _ rfl rfl (aP.at_ _ (MI (i:=1) rfl))) rfl ?_
   exact ⟨⟨_,rfl,(ah.symm.trans (mul_eq' az aA))▸(bL.u bM)⟩,aP.bl⟩
end Go.Proofs.Ythhgjloephkpaaa
