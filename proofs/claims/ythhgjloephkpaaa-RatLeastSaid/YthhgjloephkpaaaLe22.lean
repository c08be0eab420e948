/- Words and walks for the row RowRatLeast, put together: RZE. -/
import Derived.Test.YthhgjloephkpaaaLe21
import Derived.Test.YthhgjloephkpaaaLe6
namespace Go.Proofs.Ythhgjloephkpaaa
set_option linter.unusedVariables false
set_option linter.unusedSimpArgs false
open Go Go.RowKit Go.Proofs.YthhgjloephkpaaaW.PrintWords Go.Proofs.YthhgjloephkpaaaW.PrintLast

theorem region_drawnK {P : Program} {ops : Array Oper} {Q : Exit → Act → World → Prop} (n : Nat) (f : Nat → Bool) (k : Nat) {L : List Bx} {w0 : World} {id : Nat} {a : Act} {w : World} (hm : P.follows .mixedOrders = true) (hn : ops.toList.length = n) (hs : St w0 w L)
  (h : ∀ wc, St w0 wc L → U w wc → wpAnyT P .any ops Q (Has (L.drop k)) f n (Array.replicate n false) a wc) : (Code.region id ops true).wp P Q a w :=
 wp_region_any hm (by rw [show ops.size = n from hn]; exact wpAny_of_tailT _ _ _ _ (h w.drew hs.drew (U.drew w)))
theorem dg_topv' {y kk : Nat} (h : (dg y).length = kk + 1) : 0 < (dg y).getD kk 0 := by
 have h1 := dg_last y
 rw [List.getLast?_eq_getElem?] at h1
 rw [List.getD_eq_getElem?_getD]
 have h2 : (dg y)[kk]? = some ((dg y)[kk]'(by omega)) := List.getElem?_eq_getElem _
 rw [h2]
 have h3 := h1 _ (by rw [h, Nat.add_sub_cancel]; exact h2)
 exact Nat.pos_of_ne_zero h3
theorem quo_c {A B : Option Addr} {n c m d x y : Nat} {w : World} (hx : Wds w A n c (dg x)) (hy : Wds w B m d (dg y)) (fx : FitN 100000000 x) (fy : FitN 100000000 y) (h0 : 0 < y) :
  Calls Try.prog 117 #[.slice A n c, .slice B m d] w (RetRR w (x / y) (x % y)) := by
 have hlx := hx.len
 have hly := hy.len
 have hn : n ≤ 1000000000 := by have := fx; unfold FitN at this; omega
 by_cases hxy : x < y
 ·exact quo_A hx hy hn hxy
 have hm0 : 0 < m := by
  rcases Nat.eq_zero_or_pos m with h | h
  ·have h1 := dg_lt y
   rw [hly, h, Nat.pow_zero] at h1
   omega
  ·exact h
 have hmn : m ≤ n := by
  rw [← hlx, ← hly]
  exact dg_len_mono (by omega)
 obtain ⟨ad, rfl⟩ := hx.some_ (by omega)
 obtain ⟨bd, rfl⟩ := hy.some_ hm0
 by_cases h1 : m = 1
 ·subst h1
  have hB : y < BW := by have := dg_lt y; rwa [hly, Nat.pow_one] at this
  exact quo_B hx hy hxy (one_word hly) rfl h0 hB hmn hn hlx
 ·exact quo_C hx hy hxy (by omega) hmn hn (kk := m - 1) (k2 := m - 2) (n1 := n + 1) (nk := n - m) (M := n - m + 1) (by omega) (by omega) rfl (by omega) rfl hlx hly rfl (dg_topv' (by omega)) ((dg_dig y).at_ _)
theorem tdiv_sg {x y : Int} {s t : Bool} (h : decide (x < 0) = s) (k : decide (y < 0) = t) : (if (s != t) = true then -(((x.natAbs / y.natAbs : Nat)) : Int) else (((x.natAbs / y.natAbs : Nat)) : Int)) = x.tdiv y := by
 subst h k
 by_cases hx : x < 0 <;> by_cases hy : y < 0
 ·obtain ⟨m, rfl⟩ : ∃ m : Nat, x = -((m : Nat) : Int) := ⟨x.natAbs, by omega⟩
  obtain ⟨n, rfl⟩ : ∃ m : Nat, y = -((m : Nat) : Int) := ⟨y.natAbs, by omega⟩
  rw [decide_eq_true hx, decide_eq_true hy, if_neg (by simp), Int.neg_tdiv, Int.tdiv_neg, Int.neg_neg, Int.natAbs_neg, Int.natAbs_neg, Int.natAbs_natCast, Int.natAbs_natCast, Int.ofNat_tdiv]
 ·obtain ⟨m, rfl⟩ : ∃ m : Nat, x = -((m : Nat) : Int) := ⟨x.natAbs, by omega⟩
  obtain ⟨n, rfl⟩ : ∃ m : Nat, y = ((m : Nat) : Int) := ⟨y.natAbs, by omega⟩
  rw [decide_eq_true hx, decide_eq_false hy, if_pos (by simp), Int.neg_tdiv, Int.natAbs_neg, Int.natAbs_natCast, Int.natAbs_natCast, Int.ofNat_tdiv]
 ·obtain ⟨m, rfl⟩ : ∃ m : Nat, x = ((m : Nat) : Int) := ⟨x.natAbs, by omega⟩
  obtain ⟨n, rfl⟩ : ∃ m : Nat, y = -((m : Nat) : Int) := ⟨y.natAbs, by omega⟩
  rw [decide_eq_false hx, decide_eq_true hy, if_pos (by simp), Int.tdiv_neg, Int.natAbs_neg, Int.natAbs_natCast, Int.natAbs_natCast, Int.ofNat_tdiv]
 ·obtain ⟨m, rfl⟩ : ∃ m : Nat, x = ((m : Nat) : Int) := ⟨x.natAbs, by omega⟩
  obtain ⟨n, rfl⟩ : ∃ m : Nat, y = ((m : Nat) : Int) := ⟨y.natAbs, by omega⟩
  rw [decide_eq_false hx, decide_eq_false hy, if_neg (by simp), Int.natAbs_natCast, Int.natAbs_natCast, Int.ofNat_tdiv]
theorem tmod_sg {x y : Int} {s : Bool} (h : decide (x < 0) = s) : (if s = true then -(((x.natAbs % y.natAbs : Nat)) : Int) else (((x.natAbs % y.natAbs : Nat)) : Int)) = x.tmod y := by
 subst h
 have hy : ∀ m : Nat, ((m : Nat) : Int).tmod y = ((m % y.natAbs : Nat) : Int) := fun m => by
  rcases Int.natAbs_eq y with e | e
  ·conv => lhs; rw [e]
   rw [Int.ofNat_tmod]
  ·conv => lhs; rw [e, Int.tmod_neg]
   rw [Int.ofNat_tmod]
 by_cases hx : x < 0
 ·obtain ⟨m, rfl⟩ : ∃ m : Nat, x = -((m : Nat) : Int) := ⟨x.natAbs, by omega⟩
  rw [decide_eq_true hx, if_pos rfl, Int.neg_tmod, hy, Int.natAbs_neg, Int.natAbs_natCast]
 ·obtain ⟨m, rfl⟩ : ∃ m : Nat, x = ((m : Nat) : Int) := ⟨x.natAbs, by omega⟩
  rw [decide_eq_false hx, if_neg (by simp), hy, Int.natAbs_natCast]
theorem tdiv_in {x y : Int} (h1 : -9223372036854775808 < x) (h2 : x < 9223372036854775808) : IntKind.i64.wrap (x.tdiv y) = x.tdiv y ∧ -9223372036854775808 ≤ x.tdiv y ∧ x.tdiv y < 9223372036854775808 := by
 have h : (x.tdiv y).natAbs = x.natAbs / y.natAbs := Int.natAbs_tdiv x y
 have h3 := Nat.div_le_self x.natAbs y.natAbs
 rw [← h] at h3
 rw [IntKind.wrap_i64]; omega
theorem tmod_in {x y : Int} (h1 : -9223372036854775808 < x) (h2 : x < 9223372036854775808) : -9223372036854775808 ≤ x.tmod y ∧ x.tmod y < 9223372036854775808 := by
 have h : (x.tmod y).natAbs = x.natAbs % y.natAbs := Int.natAbs_tmod x y
 have h3 := Nat.mod_le x.natAbs y.natAbs
 rw [← h] at h3
 omega
/-- Two integers of the program, new. -/
def RetZZ (w : World) (x y : Int) (e : Ending) (w' : World) : Prop := (∃ v, e = .returned v ∧ ∃ v1 v2, v = .tuple #[v1, v2] ∧ Zh w' v1 x ∧ Zh w' v2 y) ∧ Below w.heap.size w w'
set_option maxRecDepth 100000 in
theorem retcc60 {fn : Func} {p q : Tmp} (h : fn.results = #[.cell p 60, .cell q 60]) (tmps : Array Value) {w : World} {g1 g2 : Nat} {t1 t2 : TypeId} {cs1 cs2 : Array Value} (hz1 : cs1.size = 3) (hz2 : cs2.size = 3)
  (hp : tmps.getD p undef = .pointer (some ⟨g1, 0, none⟩)) (hq : tmps.getD q undef = .pointer (some ⟨g2, 0, none⟩)) (hg1 : w.heap[g1]? = some (.cells cs1 t1 (0, 0))) (hg2 : w.heap[g2]? = some (.cells cs2 t2 (0, 0))) :
  (results fn tmps).run Try.prog w = .ok (.tuple #[.agg cs1, .agg cs2]) w := by
 have hp' : tmps[p]?.getD undef = .pointer (some ⟨g1, 0, none⟩) := by simpa using hp
 have hq' : tmps[q]?.getD undef = .pointer (some ⟨g2, 0, none⟩) := by simpa using hq
 have l1 := run_loadVar_row w g1 t1 60 cs1 (0, 0) _ hg1 Try.underlying60 rfl (by rw [hz1]; kernel_rfl)
 have l2 := run_loadVar_row w g2 t2 60 cs2 (0, 0) _ hg2 Try.underlying60 rfl (by rw [hz2]; kernel_rfl)
 simp [results, h, hp', hq', asAddr, l1, l2]
set_option maxRecDepth 100000 in
set_option maxHeartbeats 4000000 in
theorem quo77 {v u:Value} {x y:Int} {w:World} (hx:Zh w v x) (hy:Zh w u y) (fx:Fit 100000000 x) (fy:Fit 100000000 y) (a6:y ≠ 0):Calls Try.prog 77 #[v,u] w (RetZZ w (x.tdiv y) (x.tmod y)):=by
 obtain ⟨xi,xA,xn,xc,xs,rfl,Zx⟩:=zopen hx
 obtain ⟨yi,yA,yn,yc,ys,rfl,Zy⟩:=zopen hy
 go_enter Try.func77,Try.ntmps77
 have ai:=St.start w
 refine wp_seq_k fun K1 aj=>?_
 refine wp_region_lit ?_
 refine wpList_plain rfl fun K hK=>o_box (Z3 xi xA xn xc xs) rfl rfl rfl ai fun d w4 al Q=>hK _ _ ?_
 simp only [PA]
 refine wpList_plain rfl fun K hK=>o_box (Z3 yi yA yn yc ys) rfl rfl rfl al fun f w8 am R=>hK _ _ ?_
 simp only [PA]
 refine wpList_plain rfl fun K hK=>o_alloc (Z3 0 none 0 0 false) _ rfl (zv60 _) rfl rfl am fun S ba an V=>hK _ _ ?_
 simp only [PA]
 refine wpList_plain rfl fun K hK=>o_alloc (Z3 0 none 0 0 false) _ rfl (zv60 _) rfl rfl an fun W F g X=>hK _ _ ?_
 simp only [PA]
 refine wpList_nil ?_
 refine aj _ _ ?_
 refine wp_seq_k fun bb ao=>?_
 refine wp_cut (fun aa_ w'=>∃ (a:List Value),aa_=⟨#[AZ xi xA xn xc xs,AZ yi yA yn yc ys,PT d 0,PT f 0,PT S 0,PT W 0,O,O,O,O,O,O,(GD a 0),(GD a 1),(GD a 2),(GD a 3),(GD a 4),(GD a 5),(GD a 6),(GD a 7),(GD a 8),(GD a 9),(GD a 10),(GD a 11),(GD a 12),(GD a 13),(GD a 14),(GD a 15),(GD a 16),(GD a 17),(GD a 18),(GD a 19),(GD a 20),(GD a 21),(GD a 22),(GD a 23),(GD a 24),O,O,O,O,O,O,O,O,O,O,O,O,O,O,O,O,O,O,O,O,O,O,O,O],[]⟩∧St w w' [⟨W,(Z3 0 none 0 0 false),60⟩,⟨S,(Z3 0 none 0 0 false),60⟩,⟨f,(Z3 yi yA yn yc ys),60⟩,⟨d,(Z3 xi xA xn xc xs),60⟩]∧U F w') ?_ ?_
 ·skip
  refine wp_seq_k fun bc G=>?_
  refine wp_region_lit ?_
  refine PV (PT d 1) (by kernel_rfl) rfl ?_
  simp only [PA]
  refine PV (E xA xn xc) (run_load1 (E xA xn xc) rfl rfl (g.at_ _ (MI (i:=3) rfl)) rfl (ag36 _)) rfl ?_
  simp only [PA]
  by_cases hA:xA.isNone=true
  ·skip
   refine PV (T true) (CT (run_bin (E xA xn xc) (E none 0 0) _ rfl rfl rfl (bin_eql_36o _ _ _ _ _)) (congrArg Value.bool hA)) rfl ?_
   simp only [PA]
   refine PV (T true) rfl rfl ?_
   simp only [PA]
   refine wpList_on (by kernel_rfl) fun K hK=>o_val (PT f 1) (by kernel_rfl) (hK _ _ ?_)
   simp only [PA]
   refine wpList_on (by kernel_rfl) fun K hK=>o_val (E yA yn yc) (run_load1 (E yA yn yc) rfl rfl (g.at_ _ (MI (i:=2) rfl)) rfl (ag36 _)) (hK _ _ ?_)
   simp only [PA]
   by_cases hB:yA.isNone=true
   ·skip
    refine wpList_on (by kernel_rfl) fun K hK=>o_val (T true) (CT (run_bin (E yA yn yc) (E none 0 0) _ rfl rfl rfl (bin_eql_36o _ _ _ _ _)) (congrArg Value.bool hB)) (hK _ _ ?_)
    simp only [PA]
    refine PV (T true) rfl rfl ?_
    simp only [PA]
    refine PV (T true) rfl rfl ?_
    simp only [PA]
    refine wpList_on (by kernel_rfl) fun K hK=>o_val (PT d 0) (by kernel_rfl) (hK _ _ ?_)
    simp only [PA]
    obtain ⟨ex,bd,j⟩:=zsm Zx hA
    obtain ⟨ey,be,bf⟩:=zsm Zy hB
    refine wpList_on (by kernel_rfl) fun K hK=>o_val (I x) (CT (run_load1 (I xi) rfl rfl (g.at_ _ (MI (i:=3) rfl)) rfl (ag2 _)) (vint ex)) (hK _ _ ?_)
    simp only [PA]
    by_cases hm:x ≠ -9223372036854775808
    ·skip
     refine wpList_on (by kernel_rfl) fun K hK=>o_val (T true) (CT (run_bin (I x) (I (-9223372036854775808)) _ rfl rfl rfl (bin_neq_2 _ _ _ _)) (congrArg Value.bool (bne_iff_ne.2 hm))) (hK _ _ ?_)
     simp only [PA]
     refine PV (T true) rfl rfl ?_
     simp only [PA]
     refine wpList_nil ?_
     refine G _ _ ?_
     refine cond_true rfl ?_
     refine wp_seq_k fun bg ap=>?_
     refine region_drawnK 14 (fun _=>false) 2 (by kernel_rfl) rfl g fun bh b bi=>?_
     refine TK (i:=0) (PT d 0) rfl (by kernel_rfl) (fun _ _ _ h=>h) rfl (fun _ hS=>(by kernel_rfl)) (b.off 2).has ?_
     simp only [PA]
     refine TK (i:=1) (I x) rfl (by kernel_rfl) (fun _ _ _ h=>h) rfl (fun _ hS=>(CT (run_load1 (I xi) rfl rfl (hS _ (MI (i:=1) rfl)) rfl (ag2 _)) (vint ex))) (b.off 2).has ?_
     simp only [PA]
     refine TK (i:=2) (PT f 0) rfl (by kernel_rfl) (fun _ _ _ h=>h) rfl (fun _ hS=>(by kernel_rfl)) (b.off 2).has ?_
     simp only [PA]
     refine TK (i:=3) (I y) rfl (by kernel_rfl) (fun _ _ _ h=>h) rfl (fun _ hS=>(CT (run_load1 (I yi) rfl rfl (hS _ (MI (i:=0) rfl)) rfl (ag2 _)) (vint ey))) (b.off 2).has ?_
     simp only [PA]
     refine TK (i:=4) (I (x.tdiv y)) rfl (by kernel_rfl) (fun _ _ _ h=>h) rfl (fun _ hS=>(CT (run_bin (I x) (I y) _ rfl rfl rfl (bin_quo_2 _ _ _ _ (by omega))) (vint (tdiv_in (by omega) j).1))) (b.off 2).has ?_
     simp only [PA]
     refine TK (i:=5) (AZ (x.tdiv y) none 0 0 false) rfl (by kernel_rfl) (fun _ _ _ h=>h) rfl (fun _ hS=>(by kernel_rfl)) (b.off 2).has ?_
     simp only [PA]
     refine TK (i:=6) (PT d 0) rfl (by kernel_rfl) (fun _ _ _ h=>h) rfl (fun _ hS=>(by kernel_rfl)) (b.off 2).has ?_
     simp only [PA]
     refine TK (i:=7) (I x) rfl (by kernel_rfl) (fun _ _ _ h=>h) rfl (fun _ hS=>(CT (run_load1 (I xi) rfl rfl (hS _ (MI (i:=1) rfl)) rfl (ag2 _)) (vint ex))) (b.off 2).has ?_
     simp only [PA]
     refine TK (i:=8) (PT f 0) rfl (by kernel_rfl) (fun _ _ _ h=>h) rfl (fun _ hS=>(by kernel_rfl)) (b.off 2).has ?_
     simp only [PA]
     refine TK (i:=9) (I y) rfl (by kernel_rfl) (fun _ _ _ h=>h) rfl (fun _ hS=>(CT (run_load1 (I yi) rfl rfl (hS _ (MI (i:=0) rfl)) rfl (ag2 _)) (vint ey))) (b.off 2).has ?_
     simp only [PA]
     refine TK (i:=10) (I ((x:Int).tmod y)) rfl (by kernel_rfl) (fun _ _ _ h=>h) rfl (fun _ hS=>(run_bin (I x) (I y) _ rfl rfl rfl (bin_rem_2 _ _ _ _ (by omega)))) (b.off 2).has ?_
     simp only [PA]
     refine TK (i:=11) (AZ ((x:Int).tmod y) none 0 0 false) rfl (by kernel_rfl) (fun _ _ _ h=>h) rfl (fun _ hS=>(by kernel_rfl)) (b.off 2).has ?_
     simp only [PA]
     refine anyT_one (i:=12) rfl (by kernel_rfl) rfl fun K hK=>OT 1 (Z3 (x.tdiv y) none 0 0 false) b (sz60 _) fun bj Y bk=>hK _ _ (fun _=>(Y.off 2).has) ?_
     simp only [PA]
     refine anyT_one (i:=13) rfl (by kernel_rfl) rfl fun K hK=>OT 0 (Z3 ((x:Int).tmod y) none 0 0 false) Y (sz60 _) fun bm H bn=>hK _ _ (fun _=>(H.off 2).has) ?_
     simp only [PA]
     refine anyT_done (by kernel_rfl) ?_ _
     refine ap _ _ ?_
     refine wp_ret ?_
     repeat (with_reducible first | refine then_ret ?_ | refine inBlock_ret ?_)
     refine bodyPost_ret (retcc60 rfl _ rfl rfl rfl rfl (H.at_ _ (MI (i:=1) rfl)) (H.at_ _ (MI (i:=0) rfl))) rfl ?_
     exact ⟨⟨_,rfl,_,_,rfl,Zh.small _ (tdiv_in (by omega) j).2.1 (tdiv_in (by omega) j).2.2,Zh.small _ (tmod_in (by omega) j).1 (tmod_in (by omega) j).2⟩,H.bl⟩
    ·skip
     refine wpList_on (by kernel_rfl) fun K hK=>o_val (T false) (CT (run_bin (I x) (I (-9223372036854775808)) _ rfl rfl rfl (bin_neq_2 _ _ _ _)) (congrArg Value.bool (bne_eq_false_iff_eq.2 (Classical.not_not.1 hm)))) (hK _ _ ?_)
     simp only [PA]
     refine PV (T false) rfl rfl ?_
     simp only [PA]
     refine wpList_nil ?_
     refine G _ _ ?_
     refine cond_false rfl ?_
     refine wp_skip ?_
     exact ⟨[PT d 1,E xA xn xc,T true,T true,PT f 1,E yA yn yc,T true,T true,T true,PT d 0,I x,T false,T false,O,O,O,O,O,O,O,O,O,O,O,O],rfl,g,U.refl F⟩
   ·skip
    refine wpList_on (by kernel_rfl) fun K hK=>o_val (T false) (CT (run_bin (E yA yn yc) (E none 0 0) _ rfl rfl rfl (bin_eql_36o _ _ _ _ _)) (congrArg Value.bool (Bool.eq_false_iff.2 hB))) (hK _ _ ?_)
    simp only [PA]
    refine PV (T false) rfl rfl ?_
    simp only [PA]
    refine PV (T false) rfl rfl ?_
    simp only [PA]
    with_reducible refine wpList_off ?_ ?_
    ·with_reducible exact wanted_off rfl rfl rfl
    simp only [PA]
    with_reducible refine wpList_off ?_ ?_
    ·with_reducible exact wanted_off rfl rfl rfl
    simp only [PA]
    with_reducible refine wpList_off ?_ ?_
    ·with_reducible exact wanted_off rfl rfl rfl
    simp only [PA]
    refine PV (T false) rfl rfl ?_
    simp only [PA]
    refine wpList_nil ?_
    refine G _ _ ?_
    refine cond_false rfl ?_
    refine wp_skip ?_
    exact ⟨[PT d 1,E xA xn xc,T true,T true,PT f 1,E yA yn yc,T false,T false,T false,O,O,O,T false,O,O,O,O,O,O,O,O,O,O,O,O],rfl,g,U.refl F⟩
  ·skip
   refine PV (T false) (CT (run_bin (E xA xn xc) (E none 0 0) _ rfl rfl rfl (bin_eql_36o _ _ _ _ _)) (congrArg Value.bool (Bool.eq_false_iff.2 hA))) rfl ?_
   simp only [PA]
   refine PV (T false) rfl rfl ?_
   simp only [PA]
   with_reducible refine wpList_off ?_ ?_
   ·with_reducible exact wanted_off rfl rfl rfl
   simp only [PA]
   with_reducible refine wpList_off ?_ ?_
   ·with_reducible exact wanted_off rfl rfl rfl
   simp only [PA]
   with_reducible refine wpList_off ?_ ?_
   ·with_reducible exact wanted_off rfl rfl rfl
   simp only [PA]
   refine PV (T false) rfl rfl ?_
   simp only [PA]
   refine PV (T false) rfl rfl ?_
   simp only [PA]
   with_reducible refine wpList_off ?_ ?_
   ·with_reducible exact wanted_off rfl rfl rfl
   simp only [PA]
   with_reducible refine wpList_off ?_ ?_
   ·with_reducible exact wanted_off rfl rfl rfl
   simp only [PA]
   with_reducible refine wpList_off ?_ ?_
   ·with_reducible exact wanted_off rfl rfl rfl
   simp only [PA]
   refine PV (T false) rfl rfl ?_
   simp only [PA]
   refine wpList_nil ?_
   refine G _ _ ?_
   refine cond_false rfl ?_
   refine wp_skip ?_
   exact ⟨[PT d 1,E xA xn xc,T false,T false,O,O,O,T false,T false,O,O,O,T false,O,O,O,O,O,O,O,O,O,O,O,O],rfl,g,U.refl F⟩
 ·skip
  rintro _ bo ⟨a,rfl,aa,ab⟩
  refine ao _ _ ?_
  refine wp_seq_k fun bp aq=>?_
  refine wp_region_lit ?_
  refine PV (AZ xi xA xn xc xs) (run_loadA [I xi,E xA xn xc,T xs] rfl rfl (aa.at_ _ (MI (i:=3) rfl)) rfl (ag60 _) (sz60 _)) rfl ?_
  simp only [PA]
  refine wpList_plain rfl fun K hK=>o_call 111 _ #[AZ xi xA xn xc xs] Try.func111 (by kernel_rfl) rfl rfl rfl aa (words_c (Zx.u ((((Q.trans R).trans V).trans X).trans ab))) fun bq br ar ac au=>?_
  obtain ⟨k,l,n,rfl,av⟩:=ar
  obtain ⟨c,L⟩:∃ s,decide (x<0)=s:=⟨_,rfl⟩
  rw [L]
  refine hK _ _ ?_
  simp only [PA]
  refine PV (.tuple (W2 k l n c)) rfl rfl ?_
  simp only [PA]
  refine PV (E k l n) rfl rfl ?_
  simp only [PA]
  refine PV (T c) rfl rfl ?_
  simp only [PA]
  refine PV (E k l n) rfl rfl ?_
  simp only [PA]
  refine PV (T c) rfl rfl ?_
  simp only [PA]
  refine wpList_nil ?_
  refine aq _ _ ?_
  refine wp_seq_k fun bs aw=>?_
  refine wp_region_lit ?_
  refine PV (AZ yi yA yn yc ys) (run_loadA [I yi,E yA yn yc,T ys] rfl rfl (ac.at_ _ (MI (i:=2) rfl)) rfl (ag60 _) (sz60 _)) rfl ?_
  simp only [PA]
  refine wpList_plain rfl fun K hK=>o_call 111 _ #[AZ yi yA yn yc ys] Try.func111 (by kernel_rfl) rfl rfl rfl ac (words_c (Zy.u (((((Q.trans R).trans V).trans X).trans ab).trans au))) fun bt bu ax ay az=>?_
  obtain ⟨o,p,q,rfl,aA⟩:=ax
  obtain ⟨e,ad⟩:∃ s,decide (y<0)=s:=⟨_,rfl⟩
  rw [ad]
  refine hK _ _ ?_
  simp only [PA]
  refine PV (.tuple (W2 o p q e)) rfl rfl ?_
  simp only [PA]
  refine PV (E o p q) rfl rfl ?_
  simp only [PA]
  refine PV (T e) rfl rfl ?_
  simp only [PA]
  refine PV (E o p q) rfl rfl ?_
  simp only [PA]
  refine PV (T e) rfl rfl ?_
  simp only [PA]
  refine wpList_nil ?_
  refine aw _ _ ?_
  refine wp_seq_k fun bv aC=>?_
  refine wp_region_lit ?_
  refine PV (E k l n) rfl rfl ?_
  simp only [PA]
  refine PV (E o p q) rfl rfl ?_
  simp only [PA]
  refine wpList_plain rfl fun K hK=>o_call 117 _ #[E k l n,E o p q] Try.func117 (by kernel_rfl) rfl rfl rfl ay (quo_c (av.u az) aA fx fy (by omega)) fun bw bx aD aF bz=>?_
  obtain ⟨bA,bC,rfl,aG,aH⟩:=aD
  obtain ⟨r,t,z,bD,rfl,aK,aL,aM⟩:=aG
  obtain ⟨A,C,D,bF,rfl,aN,aP,aQ⟩:=aH
  refine hK _ _ ?_
  simp only [PA]
  refine PV (.tuple #[E r t z,E A C D]) rfl rfl ?_
  simp only [PA]
  refine PV (E r t z) rfl rfl ?_
  simp only [PA]
  refine PV (E A C D) rfl rfl ?_
  simp only [PA]
  refine PV (E r t z) rfl rfl ?_
  simp only [PA]
  refine PV (E A C D) rfl rfl ?_
  simp only [PA]
  refine wpList_nil ?_
  refine aC _ _ ?_
  refine wp_seq_k fun bG aR=>?_
  refine wp_region_lit ?_
  refine PV (E r t z) rfl rfl ?_
  simp only [PA]
  refine PV (T c) rfl rfl ?_
  simp only [PA]
  refine PV (T e) rfl rfl ?_
  simp only [PA]
  refine PV (T (c != e)) (run_bin (T c) (T e) _ rfl rfl rfl (bin_neq_4 _ _ _ _)) rfl ?_
  simp only [PA]
  refine wpList_plain rfl fun K hK=>o_call 112 _ (W2 r t z (c != e)) Try.func112 (by kernel_rfl) rfl rfl rfl aF (made_c aK aL aM) fun bH bK ae aS aU=>?_
  obtain ⟨aV,M⟩:∃ zz_:Int,(if (c != e)=true then -(((((x).natAbs / (y).natAbs):Nat)):Int) else ((((x).natAbs / (y).natAbs):Nat):Int))=zz_:=⟨_,rfl⟩
  rw [M] at ae
  have bL:Fit 100000000 aV:=M▸(Fit.sgn (FitN.div fx))
  obtain ⟨aW,aX,aY,aB,aE,rfl,aI⟩:=zopen ae
  refine hK _ _ ?_
  simp only [PA]
  refine PV (E A C D) rfl rfl ?_
  simp only [PA]
  refine PV (T c) rfl rfl ?_
  simp only [PA]
  refine wpList_plain rfl fun K hK=>o_call 112 _ (W2 A C D c) Try.func112 (by kernel_rfl) rfl rfl rfl aS (made_c (aN.u aU) aP aQ) fun bM bN af aT aO=>?_
  obtain ⟨aJ,N⟩:∃ zz_:Int,(if c=true then -(((((x).natAbs % (y).natAbs):Nat)):Int) else ((((x).natAbs % (y).natAbs):Nat):Int))=zz_:=⟨_,rfl⟩
  rw [N] at af
  have bP:Fit 100000000 aJ:=N▸(Fit.sgn (FitN.mod (m:=0) fx))
  obtain ⟨aZ,a0,a1,a2,a3,rfl,a4⟩:=zopen af
  refine hK _ _ ?_
  simp only [PA]
  refine wpList_plain rfl fun K hK=>OT 1 (Z3 aW aX aY aB aE) aT (sz60 _) fun bQ a5 ag=>hK _ _ ?_
  simp only [PA]
  refine wpList_plain rfl fun K hK=>OT 0 (Z3 aZ a0 a1 a2 a3) a5 (sz60 _) fun bR P ah=>hK _ _ ?_
  simp only [PA]
  refine wpList_nil ?_
  refine aR _ _ ?_
  refine wp_ret ?_
  repeat (with_reducible first | refine then_ret ?_ | refine inBlock_ret ?_)
  refine bodyPost_ret (retcc60 rfl _ rfl rfl rfl rfl (P.at_ _ (MI (i:=1) rfl)) (P.at_ _ (MI (i:=0) rfl))) rfl ?_
  exact ⟨⟨_,rfl,_,_,rfl,(M.symm.trans (tdiv_sg L ad))▸(aI.u ((aO.trans ag).trans ah)),(N.symm.trans (tmod_sg L))▸(a4.u (ag.trans ah))⟩,P.bl⟩
theorem floor_t {x y : Int} (hy : 0 < y) (h : x.tmod y < 0) : x.tdiv y - 1 = x / y := by
 have h1 := Int.tmod_add_mul_tdiv x y
 have h2 := Int.emod_add_mul_ediv x y
 have h3 := Int.emod_nonneg x (show y ≠ 0 by omega)
 have h4 := Int.emod_lt_of_pos x hy
 have h5 : (x.tmod y).natAbs < y.natAbs := by rw [show (x.tmod y).natAbs = x.natAbs % y.natAbs from Int.natAbs_tmod x y]; exact Nat.mod_lt _ (by omega)
 have h6 : y * (x / y - x.tdiv y) = x.tmod y - x % y := by rw [Int.mul_sub]; omega
 have h7 : x / y - x.tdiv y < 0 := by
  refine Int.not_le.1 fun h => ?_
  have := Int.mul_nonneg (Int.le_of_lt hy) h
  omega
 have h8 : -2 < x / y - x.tdiv y := by
  refine Int.not_le.1 fun h => ?_
  have := Int.mul_le_mul_of_nonneg_left h (Int.le_of_lt hy)
  omega
 omega
theorem floor_n {x y : Int} (hy : 0 < y) (h : ¬ x.tmod y < 0) : x.tdiv y = x / y := by
 have h1 := Int.tmod_add_mul_tdiv x y
 have h2 := Int.emod_add_mul_ediv x y
 have h3 := Int.emod_nonneg x (show y ≠ 0 by omega)
 have h4 := Int.emod_lt_of_pos x hy
 have h5 : (x.tmod y).natAbs < y.natAbs := by rw [show (x.tmod y).natAbs = x.natAbs % y.natAbs from Int.natAbs_tmod x y]; exact Nat.mod_lt _ (by omega)
 have h6 : y * (x / y - x.tdiv y) = x.tmod y - x % y := by rw [Int.mul_sub]; omega
 have h7 : x / y - x.tdiv y < 1 := by
  refine Int.not_le.1 fun h => ?_
  have := Int.mul_le_mul_of_nonneg_left h (Int.le_of_lt hy)
  omega
 have h8 : -1 < x / y - x.tdiv y := by
  refine Int.not_le.1 fun h => ?_
  have := Int.mul_le_mul_of_nonneg_left h (Int.le_of_lt hy)
  omega
 omega
set_option maxRecDepth 100000 in
set_option maxHeartbeats 2000000 in
theorem floor72 {v u:Value} {x y:Int} {w:World} (hx:Zh w v x) (hy:Zh w u y) (fx:Fit 99999999 x) (fy:Fit 99999999 y) (n:0<y):Calls Try.prog 72 #[v,u] w (RetZ w (x / y)):=by
 obtain ⟨xi,xA,xn,xc,xs,rfl,Zx⟩:=zopen hx
 obtain ⟨yi,yA,yn,yc,ys,rfl,Zy⟩:=zopen hy
 go_enter Try.func72,Try.ntmps72
 have ah:=St.start w
 refine wp_seq_k fun K1 ai=>?_
 refine wp_region_lit ?_
 refine wpList_plain rfl fun K hK=>o_box (Z3 xi xA xn xc xs) rfl rfl rfl ah fun g3 w4 aj A=>hK _ _ ?_
 simp only [PA]
 refine wpList_plain rfl fun K hK=>o_box (Z3 yi yA yn yc ys) rfl rfl rfl aj fun g7 w8 al C=>hK _ _ ?_
 simp only [PA]
 refine wpList_plain rfl fun K hK=>o_alloc (Z3 0 none 0 0 false) _ rfl (zv60 _) rfl rfl al fun aI aT p D=>hK _ _ ?_
 simp only [PA]
 refine wpList_nil ?_
 refine ai _ _ ?_
 refine wp_seq_k fun aO am=>?_
 refine wp_region_lit ?_
 refine PV (AZ xi xA xn xc xs) (run_loadA [I xi,E xA xn xc,T xs] rfl rfl (p.at_ _ (MI (i:=2) rfl)) rfl (ag60 _) (sz60 _)) rfl ?_
 simp only [PA]
 refine PV (AZ yi yA yn yc ys) (run_loadA [I yi,E yA yn yc,T ys] rfl rfl (p.at_ _ (MI (i:=1) rfl)) rfl (ag60 _) (sz60 _)) rfl ?_
 simp only [PA]
 refine wpList_plain rfl fun K hK=>o_call 77 _ #[AZ xi xA xn xc xs,AZ yi yA yn yc ys] Try.func77 (by kernel_rfl) rfl rfl rfl p (quo77 (Zx.u ((A.trans C).trans D)) (Zy.u ((A.trans C).trans D)) (fx.mono (by decide)) (fy.mono (by decide)) (by omega)) fun aJ aZ an ao a0=>?_
 obtain ⟨a1,a2,rfl,F,G⟩:=an
 obtain ⟨H,L⟩:∃ zz_:Int,(x.tdiv y)=zz_:=⟨_,rfl⟩
 rw [L] at F
 have M:Fit 99999999 H:=L▸(Fit.tdiv fx)
 obtain ⟨a,b,c,d,e,rfl,N⟩:=zopen F
 obtain ⟨o,P⟩:∃ zz_:Int,(x.tmod y)=zz_:=⟨_,rfl⟩
 rw [P] at G
 have a3:Fit 99999999 o:=P▸(Fit.tmod fx)
 obtain ⟨f,g,k,l,m,rfl,ap⟩:=zopen G
 refine hK _ _ ?_
 simp only [PA]
 refine PV (.tuple #[AZ a b c d e,AZ f g k l m]) rfl rfl ?_
 simp only [PA]
 refine PV (AZ a b c d e) rfl rfl ?_
 simp only [PA]
 refine PV (AZ f g k l m) rfl rfl ?_
 simp only [PA]
 refine wpList_plain rfl fun K hK=>o_alloc (Z3 0 none 0 0 false) _ rfl (zv60 _) rfl rfl ao fun a4 a5 aq q=>hK _ _ ?_
 simp only [PA]
 refine wpList_plain rfl fun K hK=>o_alloc (Z3 0 none 0 0 false) _ rfl (zv60 _) rfl rfl aq fun a6 a7 ar r=>hK _ _ ?_
 simp only [PA]
 refine wpList_plain rfl fun K hK=>OT 1 (Z3 a b c d e) ar (sz60 _) fun a8 au s=>hK _ _ ?_
 simp only [PA]
 refine wpList_plain rfl fun K hK=>OT 0 (Z3 f g k l m) au (sz60 _) fun a9 Q t=>hK _ _ ?_
 simp only [PA]
 refine wpList_nil ?_
 refine am _ _ ?_
 refine wp_seq_k fun ba av=>?_
 refine wp_seq_k fun bb R=>?_
 refine wp_region_lit ?_
 refine PV (AZ f g k l m) (run_loadA [I f,E g k l,T m] rfl rfl (Q.at_ _ (MI (i:=0) rfl)) rfl (ag60 _) (sz60 _)) rfl ?_
 simp only [PA]
 refine wpList_plain rfl fun K hK=>o_call 82 _ #[AZ f g k l m] Try.func82 (by kernel_rfl) rfl rfl rfl Q (sign82 (ap.u (((q.trans r).trans s).trans t))) fun bc bd aw z S=>?_
 subst aw
 refine hK _ _ ?_
 simp only [PA]
 by_cases hn:o<0
 ·skip
  refine PV (T true) (CT (run_bin (I (cmpZ o 0)) (I 0) _ rfl rfl rfl (bin_lss_3 _ _ _ _)) (congrArg Value.bool (sgn_lt hn))) rfl ?_
  simp only [PA]
  refine wpList_nil ?_
  refine R _ _ ?_
  refine cond_true rfl ?_
  refine wp_seq_k fun be ax=>?_
  refine region_drawn 4 (fun j=>decide (3≤j)) (by kernel_rfl) rfl z fun bf V ay=>?_
  refine TK (i:=0) (AZ a b c d e) rfl (by kernel_rfl) (fun _ _ _ h=>h) rfl (fun _ hS=>(run_loadA [I a,E b c d,T e] rfl rfl (hS _ (MI (i:=1) rfl)) rfl (ag60 _) (sz60 _))) V.has ?_
  simp only [PA]
  refine anyT_one (i:=1) rfl (by kernel_rfl) rfl fun K hK=>o_call 71 _ #[I 1] Try.func71 (by kernel_rfl) rfl rfl rfl V (int71 (by decide) (by decide)) fun bg bh W X az=>?_
  obtain ⟨Y,aa⟩:∃ zz_:Int,1=zz_:=⟨_,rfl⟩
  rw [aa] at W
  have ab:Fit 1 Y:=aa▸Fit_one
  obtain ⟨aA,aC,aD,aF,aG,rfl,aH⟩:=zopen W
  refine hK _ _ (fun _=>X.has) ?_
  simp only [PA]
  refine anyT_one (i:=2) rfl (by kernel_rfl) rfl fun K hK=>o_call 76 _ #[AZ a b c d e,AZ aA aC aD aF aG] Try.func76 (by kernel_rfl) rfl rfl rfl X (sub76 (N.u ((((((q.trans r).trans s).trans t).trans S).trans ay).trans az)) aH (M.mono (by decide)) (ab.mono (by decide))) fun bi bj ac ad bk=>?_
  obtain ⟨aK,ae⟩:∃ zz_:Int,(H - Y)=zz_:=⟨_,rfl⟩
  rw [ae] at ac
  have bm:Fit 100000000 aK:=ae▸(Fit.sub M (ab.mono (by decide:1≤99999999)))
  obtain ⟨aL,aM,aN,aP,aQ,rfl,aR⟩:=zopen ac
  refine hK _ _ (fun _=>ad.has) ?_
  simp only [PA]
  refine anyT_one (i:=3) rfl (by kernel_rfl) rfl fun K hK=>OT 2 (Z3 aL aM aN aP aQ) ad (sz60 _) fun bn af aS=>hK _ _ (fun h=>absurd h (by decide)) ?_
  simp only [PA]
  refine anyT_done (by kernel_rfl) ?_ _
  refine ax _ _ ?_
  refine wp_ret ?_
  repeat (with_reducible first | refine then_ret ?_ | refine inBlock_ret ?_)
  refine bodyPost_ret (ret60 rfl _ rfl rfl (af.at_ _ (MI (i:=2) rfl))) rfl ?_
  subst_vars
  exact ⟨⟨_,rfl,(by first | exact floor_t n hn | exact floor_n n hn)▸(aR.u aS)⟩,af.bl⟩
 ·skip
  refine PV (T false) (CT (run_bin (I (cmpZ o 0)) (I 0) _ rfl rfl rfl (bin_lss_3 _ _ _ _)) (congrArg Value.bool (sgn_nlt hn))) rfl ?_
  simp only [PA]
  refine wpList_nil ?_
  refine R _ _ ?_
  refine cond_false rfl ?_
  refine wp_skip ?_
  refine av _ _ ?_
  refine wp_seq_k fun bo aU=>?_
  refine wp_region_lit ?_
  refine PV (AZ a b c d e) (run_loadA [I a,E b c d,T e] rfl rfl (z.at_ _ (MI (i:=1) rfl)) rfl (ag60 _) (sz60 _)) rfl ?_
  simp only [PA]
  refine wpList_plain rfl fun K hK=>OT 2 (Z3 a b c d e) z (sz60 _) fun bp ag aV=>hK _ _ ?_
  simp only [PA]
  refine wpList_nil ?_
  refine aU _ _ ?_
  refine wp_ret ?_
  repeat (with_reducible first | refine then_ret ?_ | refine inBlock_ret ?_)
  refine bodyPost_ret (ret60 rfl _ rfl rfl (ag.at_ _ (MI (i:=2) rfl))) rfl ?_
  subst_vars
  exact ⟨⟨_,rfl,(by first | exact floor_t n hn | exact floor_n n hn)▸(N.u (((((q.trans r).trans s).trans t).trans S).trans aV))⟩,ag.bl⟩
end Go.Proofs.Ythhgjloephkpaaa
