/- Depth. -/
import Derived.Test.YtobdhdehmkmjcaaP4
import Derived.Test.YtobdhdehmkmjcaaD1
namespace Go.Proofs.Ytobdhdehmkmjcaa
set_option linter.unusedVariables false
set_option linter.unusedSimpArgs false
open Go.RowKit Go.Proofs.YtobdhdehmkmjcaaW.PrintWords Go.Proofs.YtobdhdehmkmjcaaW.PrintLast
open Rows0

theorem contains_any (A : Option Addr) (n c : Nat) (xs : List Int) (x : Int) (w : World) (hx : ReadsInt w .i64 A n xs) :
    Calls Try.prog 61 #[.slice A n c, .int .i64 x] w fun e w' => e = .returned (.bool (xs.contains x)) ∧ w' = w := by
  have h1 := hx.1
  rcases Nat.eq_zero_or_pos n with rfl | hn
  · have e1 : xs = [] := List.eq_nil_of_length_eq_zero h1
    subst e1
    exact Try.slices_Contains_int_empty A c x w
  · obtain ⟨b, o, rfl, hc⟩ := reads_at hx hn
    have h := Try.slices_Contains_int b o n c xs x w (by omega) hx.2.1 hc
    rwa [List.take_of_length_le (by omega)] at h
theorem contains_is (A : Option Addr) (n c : Nat) (xs : List Int) (x : Int) (b : Bool) (w : World) (hx : ReadsInt w .i64 A n xs) (hb : Hid (xs.contains x = b)) :
    Calls Try.prog 61 #[.slice A n c, .int .i64 x] w fun e w' => e = .returned (.bool b) ∧ w' = w := by
  have h := contains_any A n c xs x w hx
  rwa [hb.out] at h
theorem le_foldl_max : ∀ (l : List Int) (z : Int), z ≤ l.foldl max z
  | [], z => Int.le_refl _
  | x :: l, z => by
    have := le_foldl_max l (max z x)
    simp only [List.foldl_cons]
    omega
theorem maxOf_snoc (row : List Int) (h : ∀ j, 0 ≤ row.getD j 0) : Lib.maxOf (row ++ [0]) = maxL row := by
  cases row with
  | nil => rfl
  | cons x l =>
    have hx : 0 ≤ x := by simpa using h 0
    show ((x :: l) ++ [0]).foldl max x = (x :: l).foldl max 0
    rw [List.foldl_append]
    simp only [List.foldl_cons, List.foldl_nil]
    rw [show max x x = x by omega, show max 0 x = x by omega]
    have := le_foldl_max l x
    omega
theorem max_any (A : Option Addr) (n c : Nat) (xs : List Int) (w : World) (hx : ReadsInt w .i64 A n xs) (hn : 0 < n) :
    Calls Try.prog 88 #[.slice A n c] w fun e w' => e = .returned (.int .i64 (Lib.maxOf xs)) ∧ w' = w := by
  have h1 := hx.1
  obtain ⟨b, o, rfl, hc⟩ := reads_at hx hn
  have h := Try.slices_Max_int b o n c xs w hn (by omega) hx.2.1 hc
  rwa [List.take_of_length_le (by omega)] at h
theorem max2_int' (k k' : IntKind) (x y : Int) : Builtin.max2 (.int k x) (.int k' y) = pure (.int k (if x < y then y else x)) := by simp only [Builtin.max2, gt_iff_lt]
theorem max_two' (ats : Array TypeId) (ty : TypeId) (a b : Value) : Builtin.max_ ats ty #[a, b] = (Builtin.max2 a b >>= fun s => pure s) := by simp only [Builtin.max_, List.foldlM_cons, List.foldlM_nil]
attribute [local go_sem] max2_int' max_two'

theorem fdG_const {gs : List GateL} {k i : Nat} (h : (gs.getD i zGate).kind = 0) : fdG gs k i = false := by unfold fdG; rw [h]; rfl
theorem fdG_has {gs : List GateL} {k i : Nat} (h : (gs.getD i zGate).kind ≠ 0) : fdG gs k i = (gs.getD i zGate).ins.contains (gs.getD k zGate).out := by
  unfold fdG
  rw [show ((gs.getD i zGate).kind != 0) = true by simpa using h, Bool.true_and]
theorem need_yes {fd : Nat → Nat → Bool} {row : List Int} {i k : Nat} (h : fd k i = true) : need fd row i (k + 1) = max (need fd row i k) (row.getD k 0 + 1) := if_pos h
theorem need_no {fd : Nat → Nat → Bool} {row : List Int} {i k : Nat} (h : fd k i = false) : need fd row i (k + 1) = need fd row i k := if_neg (by rw [h]; simp)
theorem need_lt {fd : Nat → Nat → Bool} {row : List Int} {B : Int} (h0 : 0 ≤ B) (h : ∀ j, 0 ≤ row.getD j 0 ∧ row.getD j 0 ≤ B) (i m : Nat) : 1 ≤ need fd row i m ∧ need fd row i m ≤ B + 1 := ⟨one_le_need _ _ _, need_bound h0 h i m⟩

set_option maxHeartbeats 4000000 in
set_option maxRecDepth 100000 in
theorem depth58_any (nets : Int) (GA : Option Addr) (gn gc : Nat) (gs : List GateL) (w : World) (hg : RdGates w GA gn gs) (h60 : gn ≤ 60) :
    Calls Try.prog 58 #[.agg #[.int .i64 nets, .slice GA gn gc]] w fun e w' => e = .returned (.int .i64 (depthP (fdG gs) gn)) ∧ Below w.heap.size w w' := by
  obtain ⟨i0, hi0, hz0, hz1, hz2⟩ := info_parts info3
  have HGL := Lib.hid hg.1
  have hB : Below w.heap.size w (w.alloc (.cells #[.int .i64 nets, .slice GA gn gc] 39)) := (Below.refl _ _).alloc (Nat.le_refl _) _
  have hbk : (w.alloc (.cells #[.int .i64 nets, .slice GA gn gc] 39)).heap[w.heap.size]? = some (.cells #[.int .i64 nets, .slice GA gn gc] 39 (0, 0)) := blk_new _ _
  have hsz : (w.alloc (.cells #[.int .i64 nets, .slice GA gn gc] 39)).heap.size = w.heap.size + 1 := Array.size_push _
  have hmk := make22 gn (by omega) (w.alloc (.cells #[.int .i64 nets, .slice GA gn gc] 39))
  rw [hsz] at hmk
  have hnb := own_made (w.alloc (.cells #[.int .i64 nets, .slice GA gn gc] 39)) (w.heap.size + 1) 3 .i64 gn (by rw [hsz]; exact Nat.le_refl _) (by omega)
  rw [hsz] at hnb
  have hB2 : Below w.heap.size w ((w.alloc (.cells #[.int .i64 nets, .slice GA gn gc] 39)).alloc (.cells (madeCells #[.int .i64 0] gn) 3)) := hB.alloc (by rw [hsz]; exact Nat.le_succ _) _
  have hbk2 := blk_alloc hbk (.cells (madeCells #[.int .i64 0] gn) 3)
  have HB := Lib.hid hB2; clear hB hB2
  have HBK := Lib.hid hbk2
  have HNB : Hid (_root_.Go.World.ownsRow ((w.alloc (.cells #[.int .i64 nets, .slice GA gn gc] 39)).alloc (.cells (madeCells #[.int .i64 0] gn) 3)) (w.heap.size + 1) 3 1 (.slice (some ⟨w.heap.size + 1, 0, none⟩) gn gn) gn (nums .i64 (R (fdG gs) gn 0))) := Lib.hid hnb
  clear hnb
  have c1 : (w.alloc (.cells #[.int .i64 nets, .slice GA gn gc] 39)).cell? ⟨w.heap.size, 1, none⟩ = some (.slice GA gn gc) := (blk_cell hbk 1).trans rfl
  have c2 : ((w.alloc (.cells #[.int .i64 nets, .slice GA gn gc] 39)).alloc (.cells (madeCells #[.int .i64 0] gn) 3)).cell? ⟨w.heap.size, 1, none⟩ = some (.slice GA gn gc) := (blk_cell hbk2 1).trans rfl
  clear hbk hsz hbk2
  have HG := Lib.hid hg; clear hg
  go_enter Try.func58, Try.ntmps58
  go_wp2_with fail
  go_loopw [18] (fun i wr => ∃ t : Nat, t ≤ gn + 1 ∧ i = .int .i64 t ∧ Hid (Below w.heap.size w wr) ∧ Hid (wr.heap[w.heap.size]? = some (.cells #[.int .i64 nets, .slice GA gn gc] 39 (0, 0))) ∧ Hid (wr.ownsRow (w.heap.size + 1) 3 1 (.slice (some ⟨w.heap.size + 1, 0, none⟩) gn gn) gn (nums .i64 (R (fdG gs) gn t))) ∧ Hid (depthF (fdG gs) gn (gn + 1 - t) (R (fdG gs) gn t) = depthP (fdG gs) gn)) (fun i _ => gn + 1 - (intOf i).toNat)
  case atStart => exact ⟨0, by omega, rfl, HB, HBK, HNB, Lib.hid rfl⟩
  case round =>
    obtain ⟨t, ht, rfl, hB, hbk, hO, hD⟩ := hrel
    clear HB HBK HNB c1 c2 hmk
    obtain ⟨wx, rfl⟩ : ∃ wx : World, wx = wr := ⟨_, rfl⟩
    have c1 : wx.cell? ⟨w.heap.size, 1, none⟩ = some (.slice GA gn gc) := (blk_cell hbk.out 1).trans rfl
    by_cases hlt : t < gn + 1
    · have hlt2 : decide ((t : Int) < (gn : Int) + 1) = true := by simp; omega
      have h0 : Hid (wx.ownsRow (w.heap.size + 1) 3 1 (.slice (some ⟨w.heap.size + 1, 0, none⟩) gn gn) gn (nums .i64 (Rows0.stepG (fdG gs) gn (R (fdG gs) gn t) 0))) := hO
      go_wp2_with fail
      go_loopw [4, 23] (fun ch i wy => ∃ m : Nat, m ≤ gn ∧ i = .int .i64 m ∧ ch = .bool (chg (fdG gs) gn (R (fdG gs) gn t) m) ∧ Hid (Below w.heap.size w wy) ∧ Hid (wy.heap[w.heap.size]? = some (.cells #[.int .i64 nets, .slice GA gn gc] 39 (0, 0))) ∧ Hid (wy.ownsRow (w.heap.size + 1) 3 1 (.slice (some ⟨w.heap.size + 1, 0, none⟩) gn gn) gn (nums .i64 (Rows0.stepG (fdG gs) gn (R (fdG gs) gn t) m)))) (fun _ i _ => gn - (intOf i).toNat)
      case atStart => exact ⟨0, by omega, rfl, rfl, hB, hbk, h0⟩
      case round =>
        obtain ⟨m, hm, rfl, rfl, hBm, hbm, hOm⟩ := hrel
        clear h0 hB hbk c1
        obtain ⟨wy, rfl⟩ : ∃ wy : World, wy = wr := ⟨_, rfl⟩
        have c1 : wy.cell? ⟨w.heap.size, 1, none⟩ = some (.slice GA gn gc) := (blk_cell hbm.out 1).trans rfl
        by_cases hlm : m < gn
        · obtain ⟨ad, rfl, hgj⟩ := (HG.out.below hBm.out).at_ m hlm
          have HSB := Lib.hid (fun j => state_bound (fd := fdG gs) (t := t) (m := m) (n := gn) (by omega) h60 (by omega) j)
          have HCH := Lib.hid (show chg (fdG gs) gn (R (fdG gs) gn t) (m + 1) = (chg (fdG gs) gn (R (fdG gs) gn t) m || decide (need (fdG gs) (Rows0.stepG (fdG gs) gn (R (fdG gs) gn t) m) m gn ≠ (Rows0.stepG (fdG gs) gn (R (fdG gs) gn t) m).getD m 0)) from rfl)
          have HST := Lib.hid (show Rows0.stepG (fdG gs) gn (R (fdG gs) gn t) (m + 1) = (Rows0.stepG (fdG gs) gn (R (fdG gs) gn t) m).set m (need (fdG gs) (Rows0.stepG (fdG gs) gn (R (fdG gs) gn t) m) m gn) from rfl)
          have HFC := Lib.hid (fun k h => fdG_const (gs := gs) (k := k) (i := m) h)
          have HFH := Lib.hid (fun k h => fdG_has (gs := gs) (k := k) (i := m) h)
          generalize hrw : Rows0.stepG (fdG gs) gn (R (fdG gs) gn t) m = row at *
          generalize hr2 : Rows0.stepG (fdG gs) gn (R (fdG gs) gn t) (m + 1) = row2 at *
          generalize hc1 : chg (fdG gs) gn (R (fdG gs) gn t) m = ch1 at *
          generalize hc2 : chg (fdG gs) gn (R (fdG gs) gn t) (m + 1) = ch2 at *
          generalize hGm : gs.getD m zGate = G at *
          have HC2 := Lib.hid hc2; clear hc2
          have HR2 := Lib.hid hr2; clear hr2
          clear hc1 hrw hGm
          obtain ⟨kd, ins, out, dl⟩ := G
          obtain ⟨g1, ⟨AI, ci, g2, g3, g4⟩, g5, g6⟩ := hgj
          have hw1 : Below wy.heap.size wy (wy.alloc (.cells #[.int .i64 kd, .slice AI ins.length ci, .int .i64 out, .int .i64 dl] 88)) := (Below.refl _ _).alloc (Nat.le_refl _) _
          have HG3 := Lib.hid (g3.below hw1); clear g3
          have HW1 := Lib.hid hw1; clear hw1
          have hgb : (wy.alloc (.cells #[.int .i64 kd, .slice AI ins.length ci, .int .i64 out, .int .i64 dl] 88)).heap[wy.heap.size]? = some (.cells #[.int .i64 kd, .slice AI ins.length ci, .int .i64 out, .int .i64 dl] 88 (0, 0)) := blk_new _ _
          have HGB := Lib.hid hgb; clear hgb
          have c3 : (wy.alloc (.cells #[.int .i64 kd, .slice AI ins.length ci, .int .i64 out, .int .i64 dl] 88)).cell? ⟨w.heap.size, 1, none⟩ = some (.slice (some ad) gn gc) := pw_cell_below HW1.out c1
          have hor := pw_own_below (pw_own_below hOm.out HW1.out) (Below.refl _ _)
          go_wp2_with fail
          go_loopw [7, 31] (fun nd i wz => ∃ k : Nat, k ≤ gn ∧ i = .int .i64 k ∧ nd = .int .i64 (need (fdG gs) row m k) ∧ Hid (Below (wy.alloc (.cells #[.int .i64 kd, .slice AI ins.length ci, .int .i64 out, .int .i64 dl] 88)).heap.size (wy.alloc (.cells #[.int .i64 kd, .slice AI ins.length ci, .int .i64 out, .int .i64 dl] 88)) wz)) (fun _ i _ => gn - (intOf i).toNat)
          case atStart => exact ⟨0, by omega, rfl, rfl, Lib.hid (Below.refl _ _)⟩
          case round =>
            obtain ⟨k, hk, rfl, rfl, hBk⟩ := hrel
            clear c1 c3
            obtain ⟨wz, rfl⟩ : ∃ wz : World, wz = wr := ⟨_, rfl⟩
            have HORZ := Lib.hid (pw_own_below hor hBk.out)
            have HGBZ := Lib.hid (blk_below HGB.out hBk.out)
            have HBZ := Lib.hid (hBm.out.trans ((HW1.out.trans (hBk.out.mono HW1.out.size)).mono hBm.out.size))
            have HBKZ := Lib.hid (blk_below (blk_below hbm.out HW1.out) hBk.out)
            have HG3Z := Lib.hid (HG3.out.below hBk.out)
            by_cases hlk : k < gn
            · obtain ⟨ad2, had2, hgk⟩ := (HG.out.below HBZ.out).at_ k hlk
              obtain rfl : ad = ad2 := by injection had2
              clear had2
              obtain ⟨q1, ⟨AJ, cj, q2, q3, q4⟩, q5, q6⟩ := hgk
              have HFH2 := Lib.hid (fun h => HFH.out k h)
              have HFC2 := Lib.hid (fun h => HFC.out k h)
              have hnd := need_lt (fd := fdG gs) (by decide) HSB.out m k
              have hrk := HSB.out k
              have HNY := Lib.hid (fun h => need_yes (fd := fdG gs) (row := row) (i := m) (k := k) h)
              have HNN := Lib.hid (fun h => need_no (fd := fdG gs) (row := row) (i := m) (k := k) h)
              obtain ⟨nq1, nq2⟩ := own_at HORZ.out (k : Int) (by omega) (by omega)
              rw [show rd row (k : Int) = row.getD k 0 from rfl, show ((k : Nat) : Int).toNat = k from rfl] at nq1
              clear nq2
              generalize gs.getD k zGate = H at *
              obtain ⟨kd2, ins2, out2, dl2⟩ := H
              generalize hnk : need (fdG gs) row m k = nd at *
              generalize hnk1 : need (fdG gs) row m (k + 1) = nd1 at *
              have HNK1 := Lib.hid hnk1; clear hnk1
              clear hnk
              generalize row.getD k 0 = rk at *
              clear q3 q4
              have hw2 : Below wz.heap.size wz (wz.alloc (.cells #[.int .i64 kd2, .slice AJ ins2.length cj, .int .i64 out2, .int .i64 dl2] 88)) := (Below.refl _ _).alloc (Nat.le_refl _) _
              have k0 : (wz.alloc (.cells #[.int .i64 kd2, .slice AJ ins2.length cj, .int .i64 out2, .int .i64 dl2] 88)).cell? ⟨wy.heap.size, 0, none⟩ = some (.int .i64 kd) := (blk_cell (blk_below HGBZ.out hw2) 0).trans rfl
              have k1 : (wz.alloc (.cells #[.int .i64 kd2, .slice AJ ins2.length cj, .int .i64 out2, .int .i64 dl2] 88)).cell? ⟨wy.heap.size, 1, none⟩ = some (.slice AI ins.length ci) := (blk_cell (blk_below HGBZ.out hw2) 1).trans rfl
              have k2 : (wz.alloc (.cells #[.int .i64 kd2, .slice AJ ins2.length cj, .int .i64 out2, .int .i64 dl2] 88)).cell? ⟨w.heap.size + 1, k, none⟩ = some (.int .i64 rk) := pw_cell_below hw2 nq1
              have HG3W := Lib.hid (HG3Z.out.below hw2)
              have HBW := Lib.hid (hBk.out.trans (hw2.mono hBk.out.size)); clear hw2
              by_cases h0 : kd = 0
              · have HN := Lib.hid (HNN.out (HFC2.out h0))
                have h00 : (kd != 0) = false := by simpa using h0
                clear h0
                go_wp2_with fail
                go_roundw
                case rel => exact ⟨k + 1, by omega, by go_num, by rw [HNK1.out, HN.out], HBW⟩
                case measure => simp [intOf]; omega
              · have h00 : (kd != 0) = true := by simpa using h0
                have HF := Lib.hid (HFH2.out h0)
                clear h0
                rcases hcc : ins.contains out2 with _ | _
                · have HN := Lib.hid (HNN.out (HF.out.trans hcc))
                  have HCC := Lib.hid hcc; clear hcc
                  go_wp2_with (go_at_call 61; refine (contains_is _ _ _ _ _ _ _ HG3W.out HCC).mono ?_; rintro e w' ⟨rfl, rfl⟩)
                  go_roundw
                  case rel => exact ⟨k + 1, by omega, by go_num, by rw [HNK1.out, HN.out], HBW⟩
                  case measure => simp [intOf]; omega
                · have HN := Lib.hid (HNY.out (HF.out.trans hcc))
                  have HCC := Lib.hid hcc; clear hcc
                  by_cases hmx : nd < rk + 1
                  · go_wp2_with (go_at_call 61; refine (contains_is _ _ _ _ _ _ _ HG3W.out HCC).mono ?_; rintro e w' ⟨rfl, rfl⟩)
                    go_roundw
                    case rel => exact ⟨k + 1, by omega, by go_num, by rw [HNK1.out, HN.out, Int.max_eq_right (by omega)], HBW⟩
                    case measure => simp [intOf]; omega
                  · go_wp2_with (go_at_call 61; refine (contains_is _ _ _ _ _ _ _ HG3W.out HCC).mono ?_; rintro e w' ⟨rfl, rfl⟩)
                    go_roundw
                    case rel => exact ⟨k + 1, by omega, by go_num, by rw [HNK1.out, HN.out, Int.max_eq_left (by omega)], HBW⟩
                    case measure => simp [intOf]; omega
            · obtain rfl : k = gn := by omega
              obtain ⟨nq1, nq2⟩ := own_at HORZ.out (m : Int) (by omega) (by omega)
              obtain ⟨ns1, _⟩ := own_store HORZ.out (m : Int) (need (fdG gs) row m k)
              rw [show ((m : Nat) : Int).toNat = m from rfl] at nq1 nq2 ns1
              rw [show rd row (m : Int) = row.getD m 0 from rfl] at nq1
              have HNS := Lib.hid ns1; clear ns1
              by_cases heq : need (fdG gs) row m k = row.getD m 0
              · have HC := Lib.hid (show ch2 = ch1 by rw [HCH.out, heq]; simp)
                have HR : Hid (row2 = row) := Lib.hid (by rw [HST.out, heq, set_getD])
                have h1 : (need (fdG gs) row m k != row.getD m 0) = false := by simpa using heq
                clear heq
                generalize need (fdG gs) row m k = nd at *
                generalize row.getD m 0 = rm at *
                go_wp2_with fail
                go_roundw
                case rel => exact ⟨m + 1, by omega, by go_num, by rw [HC2.out, HC.out], HBZ, HBKZ, by rw [HR2.out, HR.out]; exact HORZ⟩
                case measure => simp [intOf]; omega
              · have HC := Lib.hid (show ch2 = true by rw [HCH.out, decide_eq_true heq]; simp)
                have h1 : (need (fdG gs) row m k != row.getD m 0) = true := by simpa using heq
                clear heq
                generalize need (fdG gs) row m k = nd at *
                generalize row.getD m 0 = rm at *
                go_wp2_with fail
                go_roundw
                case rel => exact ⟨m + 1, by omega, by go_num, by rw [HC2.out, HC.out], Lib.hid (HBZ.out.setCell (Nat.le_succ _) _), Lib.hid (blk_far HBKZ.out (show w.heap.size ≠ w.heap.size + 1 by omega) _), by rw [HR2.out, HST.out]; exact HNS⟩
                case measure => simp [intOf]; omega
        · obtain rfl : m = gn := by omega
          have hun : depthF (fdG gs) m (m + 1 - t) (R (fdG gs) m t) = if chg (fdG gs) m (R (fdG gs) m t) m then depthF (fdG gs) m (m - t) (R (fdG gs) m (t + 1)) else maxL (R (fdG gs) m (t + 1)) := by
            rw [show m + 1 - t = (m - t) + 1 by omega]
            rfl
          rw [hD.out] at hun
          have hO1 : Hid (wy.ownsRow (w.heap.size + 1) 3 1 (.slice (some ⟨w.heap.size + 1, 0, none⟩) m m) m (nums .i64 (R (fdG gs) m (t + 1)))) := hOm
          clear hOm
          rcases hch : chg (fdG gs) m (R (fdG gs) m t) m with _ | _
          · rw [hch, if_neg (by simp)] at hun
            have hl1 : (R (fdG gs) m (t + 1)).length = m := (inv_R (t + 1)).1
            have HMX := Lib.hid (maxOf_snoc (R (fdG gs) m (t + 1)) (fun j => (R_bound (fd := fdG gs) (n := m) (t + 1) j).1))
            have HUN := Lib.hid hun; clear hun
            clear hch hD hO
            generalize R (fdG gs) m (t + 1) = row at *
            have ho2 : wy.ownsRow w.heap.size 3 1 (.slice (some ⟨w.heap.size + 1, 0, none⟩) m m) row.length (nums .i64 row) := by rw [hl1]; exact own_mono hO1.out (Nat.le_succ _)
            have HO2 := Lib.hid ho2; clear ho2
            have hl2 : (row.length + 1) * 8 ≤ 140737488355328 := by omega
            have HL2 := Lib.hid hl2; clear hl2
            have hle : w.heap.size ≤ wy.heap.size := hBm.out.size
            have HLE := Lib.hid hle; clear hle
            have HL1 := Lib.hid hl1; clear hl1
            go_wp2_with (at_builtin; go_must (refine print_append_num w.heap.size rfl (.tmp 67) (.tmp 68) 22 3 .i64 8 rfl Try.underlying22 info3 (by decide) _ row 0 rfl rfl HO2.out hBm.out HLE.out HL2.out ?_); intro v1 wv h1 h2 _ _; have HO3 := Lib.hid h1; clear h1; have HB3 := Lib.hid h2; clear h2; obtain ⟨A3, c3, rfl⟩ := own_slice HO3.out)
            have HR3 := Lib.hid (own_reads' HO3.out)
            have hl3 : (row ++ [(0 : Int)]).length = row.length + 1 := by simp
            rw [hl3] at HR3
            clear hl3
            first
              | refine (max_any _ _ _ (row ++ [0]) _ HR3.out (Nat.succ_pos _)).mono ?_
              | (rw [show (row ++ [(0 : Int)]).length = row.length + 1 by simp]; refine (max_any _ _ _ (row ++ [0]) _ HR3.out (Nat.succ_pos _)).mono ?_)
            rintro e w' ⟨rfl, rfl⟩
            rw [HMX.out, ← HUN.out]
            go_wp2_with fail
            go_ret
            exact ⟨rfl, HB3.out⟩
          · rw [hch, if_pos rfl] at hun
            have HUN := Lib.hid hun; clear hun
            clear hch
            go_wp2_with fail
            go_roundw
            case rel => exact ⟨t + 1, by omega, by go_num, hBm, hbm, hO1, Lib.hid (by rw [show m + 1 - (t + 1) = m - t by omega]; exact HUN.out.symm)⟩
            case measure => simp [intOf]; omega
    · obtain rfl : t = gn + 1 := by omega
      have hD2 := hD.out
      rw [Nat.sub_self] at hD2
      have HD2 := Lib.hid (show (-1 : Int) = depthP (fdG gs) gn from hD2); clear hD2
      go_wp2_with fail
      go_ret
      exact ⟨ret_int HD2.out, hB.out⟩

/-- What Depth answers. -/
def depthAns (nets : Int) (gs : List GateL) : Int × Bool × Int :=
  if validF nets gs ≠ 0 then (0, false, validF nets gs) else (max (depthP (fdG gs) gs.length) 0, decide (0 ≤ depthP (fdG gs) gs.length), 0)
set_option maxHeartbeats 1000000 in
theorem depth28_any (nets : Int) (GA : Option Addr) (gn gc : Nat) (gs : List GateL) (w : World) (hg : RdGates w GA gn gs) :
    Calls Try.prog 28 #[.agg #[.int .i64 nets, .slice GA gn gc]] w fun e w' => e = .returned (.tuple #[.int .i64 (depthAns nets gs).1, .bool (depthAns nets gs).2.1, .int .i64 (depthAns nets gs).2.2]) ∧ Below w.heap.size w w' := by
  have HGL := Lib.hid hg.1
  have hB : Below w.heap.size w (w.alloc (.cells #[.int .i64 nets, .slice GA gn gc] 39)) := (Below.refl _ _).alloc (Nat.le_refl _) _
  have hbk : (w.alloc (.cells #[.int .i64 nets, .slice GA gn gc] 39)).heap[w.heap.size]? = some (.cells #[.int .i64 nets, .slice GA gn gc] 39 (0, 0)) := blk_new _ _
  have c0 : (w.alloc (.cells #[.int .i64 nets, .slice GA gn gc] 39)).cell? ⟨w.heap.size, 0, none⟩ = some (.int .i64 nets) := (blk_cell hbk 0).trans rfl
  have c1 : (w.alloc (.cells #[.int .i64 nets, .slice GA gn gc] 39)).cell? ⟨w.heap.size, 1, none⟩ = some (.slice GA gn gc) := (blk_cell hbk 1).trans rfl
  have HG1 := Lib.hid (hg.below hB)
  have HB := Lib.hid hB; clear hB
  have HBK := Lib.hid hbk; clear hbk
  have HG := Lib.hid hg; clear hg
  go_enter Try.func28, Try.ntmps28
  go_wp2_with fail
  refine (validate_any _ _ _ _ _ _ HG1.out).mono ?_
  rintro e w1 ⟨rfl, hb1⟩
  have HBK1 := Lib.hid (blk_below HBK.out hb1)
  have HB1 := Lib.hid (HB.out.trans (hb1.mono HB.out.size))
  clear hb1 c0 c1
  by_cases hv : validF nets gs = 0
  · have HV := Lib.hid (validF_ok hv)
    have HA : Hid (depthAns nets gs = (max (depthP (fdG gs) gn) 0, decide (0 ≤ depthP (fdG gs) gn), 0)) := Lib.hid (by
      unfold depthAns
      rw [if_neg (by rw [hv]; simp), HGL.out])
    rw [hv]
    clear hv
    have c0 : w1.cell? ⟨w.heap.size, 0, none⟩ = some (.int .i64 nets) := (blk_cell HBK1.out 0).trans rfl
    have c1 : w1.cell? ⟨w.heap.size, 1, none⟩ = some (.slice GA gn gc) := (blk_cell HBK1.out 1).trans rfl
    go_wp2_with fail
    refine (depth58_any _ _ _ _ _ _ (HG.out.below HB1.out) (by have := HV.out.2.2.1; have := HGL.out; omega)).mono ?_
    rintro e w2 ⟨rfl, hb2⟩
    have HB2 := Lib.hid (HB1.out.trans (hb2.mono HB1.out.size)); clear hb2
    generalize depthP (fdG gs) gn = dp at *
    by_cases hd : dp < 0
    · go_wp2
      go_ret3
      refine ⟨?_, HB2.out⟩
      rw [HA.out]
      rw [show max dp 0 = 0 by omega, decide_eq_false (show ¬ 0 ≤ dp by omega)]
      try rfl
    · go_wp2
      go_ret3
      refine ⟨?_, HB2.out⟩
      rw [HA.out]
      rw [show max dp 0 = dp by omega, decide_eq_true (show 0 ≤ dp by omega)]
      try rfl
  · have hb2 : (validF nets gs != 0) = true := by simpa using hv
    have HA : Hid (depthAns nets gs = (0, false, validF nets gs)) := Lib.hid (if_pos hv)
    clear hv
    generalize validF nets gs = vv at *
    go_wp2
    go_ret3
    refine ⟨?_, HB1.out⟩
    rw [HA.out]
    rfl
end Go.Proofs.Ytobdhdehmkmjcaa
