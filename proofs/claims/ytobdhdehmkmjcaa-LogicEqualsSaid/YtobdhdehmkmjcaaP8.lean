/- Depth of the reference. -/
import Derived.Test.YtobdhdehmkmjcaaP5
import Derived.Deep.LoopGhost
import Derived.StillTailTactics
namespace Go.Proofs.Ytobdhdehmkmjcaa
set_option linter.unusedVariables false
set_option linter.unusedSimpArgs false
open Go.RowKit Go.Proofs.YtobdhdehmkmjcaaW.PrintWords Go.Proofs.YtobdhdehmkmjcaaW.PrintLast
open Rows0

theorem sources0 (ins : List Int) (out dl : Int) (AI : Option Addr) (ci : Nat) (w : World) :
    Calls Try.prog 103 #[.agg #[.int .i64 0, .slice AI ins.length ci, .int .i64 out, .int .i64 dl]] w fun e w' => e = .returned (.slice none 0 0) ∧ Below w.heap.size w w' := by
  have hB : Below w.heap.size w (w.alloc (.cells #[.int .i64 0, .slice AI ins.length ci, .int .i64 out, .int .i64 dl] 88)) := (Below.refl _ _).alloc (Nat.le_refl _) _
  have HB := Lib.hid hB; clear hB
  go_enter Try.func103, Try.ntmps103
  go_wp2
  go_ret
  exact ⟨rfl, HB.out⟩
theorem sources1 (kd : Int) (ins : List Int) (out dl : Int) (AI : Option Addr) (ci : Nat) (w : World) (h0 : kd ≠ 0) :
    Calls Try.prog 103 #[.agg #[.int .i64 kd, .slice AI ins.length ci, .int .i64 out, .int .i64 dl]] w fun e w' => e = .returned (.slice AI ins.length ci) ∧ Below w.heap.size w w' := by
  have hB : Below w.heap.size w (w.alloc (.cells #[.int .i64 kd, .slice AI ins.length ci, .int .i64 out, .int .i64 dl] 88)) := (Below.refl _ _).alloc (Nat.le_refl _) _
  have HB := Lib.hid hB; clear hB
  have h00 : (kd == 0) = false := by simpa using h0
  clear h0
  go_enter Try.func103, Try.ntmps103
  go_wp2
  go_ret
  exact ⟨rfl, HB.out⟩
theorem sources_any (kd : Int) (ins : List Int) (out dl : Int) (AI : Option Addr) (ci : Nat) (w : World) (hr : ReadsInt w .i64 AI ins.length ins) :
    Calls Try.prog 103 #[.agg #[.int .i64 kd, .slice AI ins.length ci, .int .i64 out, .int .i64 dl]] w fun e w' => (∃ LA ln lc, e = .returned (.slice LA ln lc) ∧ ReadsInt w' .i64 LA ln (if kd = 0 then [] else ins)) ∧ Below w.heap.size w w' := by
  by_cases h0 : kd = 0
  · subst h0
    refine (sources0 ins out dl AI ci w).mono ?_
    rintro e w' ⟨rfl, hb⟩
    exact ⟨⟨none, 0, 0, rfl, rfl, by simp, fun h => by omega⟩, hb⟩
  · refine (sources1 kd ins out dl AI ci w h0).mono ?_
    rintro e w' ⟨rfl, hb⟩
    refine ⟨⟨AI, ins.length, ci, rfl, ?_⟩, hb⟩
    rw [if_neg h0]
    exact hr.below hb
theorem cont_succ {L : List Int} {x : Int} {k : Nat} (hk : k < L.length) (h : (L.take k).contains x = false) (h2 : L.getD k 0 ≠ x) : (L.take (k + 1)).contains x = false := by
  rw [List.getD_eq_getElem?_getD, List.getElem?_eq_getElem hk] at h2
  rw [← Bool.not_eq_true] at h ⊢
  rw [List.contains_iff_mem] at h ⊢
  rw [List.take_succ_eq_append_getElem hk, List.mem_append]
  rintro (h3 | h3)
  · exact h h3
  · exact h2 (by simpa using (List.mem_singleton.1 h3).symm)
theorem cont_at {L : List Int} {x : Int} {k : Nat} (hk : k < L.length) (h2 : L.getD k 0 = x) : L.contains x = true := by
  rw [List.getD_eq_getElem?_getD, List.getElem?_eq_getElem hk] at h2
  simp at h2 ⊢
  rw [← h2]
  exact List.getElem_mem _
set_option maxHeartbeats 2000000 in
set_option maxRecDepth 100000 in
theorem feeds_any (k1 : Int) (i1 : List Int) (o1 d1 : Int) (A1 : Option Addr) (c1 : Nat) (kd : Int) (ins : List Int) (out dl : Int) (AI : Option Addr) (ci : Nat) (w : World) (hr : ReadsInt w .i64 AI ins.length ins) :
    Calls Try.prog 89 #[.agg #[.int .i64 k1, .slice A1 i1.length c1, .int .i64 o1, .int .i64 d1], .agg #[.int .i64 kd, .slice AI ins.length ci, .int .i64 out, .int .i64 dl]] w fun e w' => e = .returned (.bool ((kd != 0) && ins.contains o1)) ∧ Below w.heap.size w w' := by
  have hB : Below w.heap.size w (w.alloc (.cells #[.int .i64 k1, .slice A1 i1.length c1, .int .i64 o1, .int .i64 d1] 88)) := (Below.refl _ _).alloc (Nat.le_refl _) _
  have hsz : (w.alloc (.cells #[.int .i64 k1, .slice A1 i1.length c1, .int .i64 o1, .int .i64 d1] 88)).heap.size = w.heap.size + 1 := Array.size_push _
  have hB2 : Below w.heap.size w ((w.alloc (.cells #[.int .i64 k1, .slice A1 i1.length c1, .int .i64 o1, .int .i64 d1] 88)).alloc (.cells #[.int .i64 kd, .slice AI ins.length ci, .int .i64 out, .int .i64 dl] 88)) := hB.alloc (by rw [hsz]; exact Nat.le_succ _) _
  have hbk : ((w.alloc (.cells #[.int .i64 k1, .slice A1 i1.length c1, .int .i64 o1, .int .i64 d1] 88)).alloc (.cells #[.int .i64 kd, .slice AI ins.length ci, .int .i64 out, .int .i64 dl] 88)).heap[w.heap.size]? = some (.cells #[.int .i64 k1, .slice A1 i1.length c1, .int .i64 o1, .int .i64 d1] 88 (0, 0)) := blk_alloc (blk_new w _) _
  have HR := Lib.hid (hr.below hB2); clear hr
  have HB := Lib.hid hB2; clear hB hB2 hsz
  have HBK := Lib.hid hbk; clear hbk
  have HL : Hid ((if kd = 0 then ([] : List Int) else ins).contains o1 = ((kd != 0) && ins.contains o1)) := Lib.hid (by
    by_cases h : kd = 0
    · rw [if_pos h, h]; rfl
    · rw [if_neg h, show (kd != 0) = true by simpa using h, Bool.true_and])
  go_enter Try.func89, Try.ntmps89
  go_wp2_with fail
  refine (sources_any _ _ _ _ _ _ _ HR.out).mono ?_
  rintro e w1 ⟨⟨LA, ln, lc, rfl, hr1⟩, hb1⟩
  have HB1 := Lib.hid (HB.out.trans (hb1.mono HB.out.size))
  have HBK1 := Lib.hid (blk_below HBK.out hb1); clear hb1
  generalize (if kd = 0 then ([] : List Int) else ins) = L at *
  have hm := hr1.2.1
  have HLL := Lib.hid hr1.1
  have HR1 := Lib.hid hr1; clear hr1
  have f2 : w1.cell? ⟨w.heap.size, 2, none⟩ = some (.int .i64 o1) := (blk_cell HBK1.out 2).trans rfl
  go_wp2_with fail
  go_loopw [6] (fun i wr => ∃ k : Nat, k ≤ ln ∧ i = .int .i64 k ∧ Hid ((L.take k).contains o1 = false) ∧ ∃ q, wr = w1.drewN q) (fun i _ => ln - (intOf i).toNat)
  case atStart => exact ⟨0, by omega, rfl, Lib.hid rfl, 0, rfl⟩
  case round =>
    obtain ⟨k, hk, rfl, hT, q, rfl⟩ := hrel
    by_cases hlt : k < ln
    · obtain ⟨ad, rfl, hc⟩ := rdN HR1.out k hlt
      have hs := fun he => cont_succ (L := L) (x := o1) (k := k) (by rw [HLL.out]; exact hlt) hT.out he
      have ha := fun he => cont_at (L := L) (x := o1) (k := k) (by rw [HLL.out]; exact hlt) he
      have HS := Lib.hid hs; clear hs
      have HA := Lib.hid ha; clear ha
      generalize L.getD k 0 = x at *
      by_cases he : x = o1
      · have HF := Lib.hid (HL.out.symm.trans (HA.out he))
        subst he
        go_wp2
        go_quiet (fail)
        go_wp2
        go_ret
        exact ⟨ret_bool HF.out.symm, pw_below_drewN (n := _) (by first | exact HB1.out | exact pw_below_drewN (n := q) HB1.out)⟩
      · have hb : (x == o1) = false := by simpa using he
        have HF := Lib.hid (HS.out he)
        clear he
        go_wp2
        go_quiet (fail)
        go_wp2
        go_roundw
        case rel => exact ⟨k + 1, by omega, by go_num, HF, q + nq, by first | rfl | rw [World.drewN_drewN]⟩
        case measure => simp [intOf]; omega
    · have hT2 := hT.out
      rw [List.take_of_length_le (by rw [HLL.out]; omega)] at hT2
      have HF := Lib.hid (HL.out.symm.trans hT2); clear hT2
      go_wp2
      go_ret
      exact ⟨ret_bool HF.out.symm, pw_below_drewN (n := q) HB1.out⟩
theorem feeds_is (k1 : Int) (i1 : List Int) (o1 d1 : Int) (A1 : Option Addr) (c1 : Nat) (kd : Int) (ins : List Int) (out dl : Int) (AI : Option Addr) (ci : Nat) (b : Bool) (w : World) (hr : ReadsInt w .i64 AI ins.length ins) (hb : Hid (((kd != 0) && ins.contains o1) = b)) :
    Calls Try.prog 89 #[.agg #[.int .i64 k1, .slice A1 i1.length c1, .int .i64 o1, .int .i64 d1], .agg #[.int .i64 kd, .slice AI ins.length ci, .int .i64 out, .int .i64 dl]] w fun e w' => e = .returned (.bool b) ∧ Below w.heap.size w w' := by
  have h := feeds_any k1 i1 o1 d1 A1 c1 kd ins out dl AI ci w hr
  rwa [hb.out] at h

theorem maxL_set {l : List Int} {i : Nat} {v : Int} (hi : i < l.length) (hv : l.getD i 0 ≤ v) (h0 : 0 ≤ v) : maxL (l.set i v) = max (maxL l) v := by
  have a : maxL (l.set i v) ≤ max (maxL l) v := maxL_le _ _ (by have := maxL_nonneg l; omega) (fun j hj => by
    rw [getD_set]
    split
    · omega
    · have := le_maxL l (i := j) (by simpa using hj); omega)
  have b : v ≤ maxL (l.set i v) := by
    have h := le_maxL (l.set i v) (i := i) (by simpa using hi)
    rwa [getD_set, if_pos ⟨rfl, hi⟩] at h
  have c : maxL l ≤ maxL (l.set i v) := maxL_le _ _ (maxL_nonneg _) (fun j hj => by
    have h := le_maxL (l.set i v) (i := j) (by simpa using hj)
    rw [getD_set] at h
    split at h
    · rename_i e; rw [← e.1]; omega
    · exact h)
  omega
theorem sum_cap {l : List Int} {n : Nat} (hl : l.length = n) (hn : n ≤ 60) (h : ∀ j, j < n → l.getD j 0 ≤ n) : l.sum ≤ 3600 := by
  have h1 := sum_le l n (fun i hi => h i (by omega))
  rw [hl] at h1
  have h2 : (n : Int) * n ≤ 60 * 60 := Int.mul_le_mul (by omega) (by omega) (by omega) (by omega)
  omega
theorem maxL_zero (n : Nat) : maxL (List.replicate n 0) = 0 := by
  have h1 := maxL_le (List.replicate n 0) 0 (Int.le_refl _) (fun i hi => by
    have : (List.replicate n (0 : Int)).getD i 0 = 0 := by
      rw [List.getD_eq_getElem?_getD, List.getElem?_replicate]
      split <;> rfl
    omega)
  have h2 := maxL_nonneg (List.replicate n 0)
  omega
theorem sum_zero (n : Nat) : (List.replicate n (0 : Int)).sum = 0 := by
  induction n with
  | zero => rfl
  | succ n ih => rw [List.replicate_succ, List.sum_cons, ih]; rfl
attribute [local go_sem] max2_int' max_two'

set_option maxHeartbeats 8000000 in
set_option maxRecDepth 100000 in
theorem depth59_any (nets : Int) (GA : Option Addr) (gn gc : Nat) (gs : List GateL) (w : World) (hg : RdGates w GA gn gs) (h60 : gn ≤ 60) :
    Calls Try.prog 59 #[.agg #[.int .i64 nets, .slice GA gn gc]] w fun e w' => e = .returned (.tuple #[.int .i64 (max (depthP (fdG gs) gn) 0), .bool (decide (0 ≤ depthP (fdG gs) gn))]) ∧ Below w.heap.size w w' := by
  have HGL := Lib.hid hg.1
  have hB : Below w.heap.size w (w.alloc (.cells #[.int .i64 nets, .slice GA gn gc] 39)) := (Below.refl _ _).alloc (Nat.le_refl _) _
  have hbk : (w.alloc (.cells #[.int .i64 nets, .slice GA gn gc] 39)).heap[w.heap.size]? = some (.cells #[.int .i64 nets, .slice GA gn gc] 39 (0, 0)) := blk_new _ _
  have hsz : (w.alloc (.cells #[.int .i64 nets, .slice GA gn gc] 39)).heap.size = w.heap.size + 1 := Array.size_push _
  have hmk := make22 gn (by omega) (w.alloc (.cells #[.int .i64 nets, .slice GA gn gc] 39))
  rw [hsz] at hmk
  have hnb := own_made (w.alloc (.cells #[.int .i64 nets, .slice GA gn gc] 39)) (w.heap.size + 1) 3 .i64 gn (by rw [hsz]; exact Nat.le_refl _) (by omega)
  rw [hsz] at hnb
  have hB2 : Below w.heap.size w ((w.alloc (.cells #[.int .i64 nets, .slice GA gn gc] 39)).alloc (.cells (madeCells #[.int .i64 0] gn) 3)) := hB.alloc (by rw [hsz]; exact Nat.le_succ _) _
  have hbk2 := blk_alloc hbk (.cells (madeCells #[.int .i64 0] gn) 3)
  have HB := Lib.hid hB2; clear hB hB2
  have HBK := Lib.hid hbk2; clear hbk2
  have HNB : Hid (_root_.Go.World.ownsRow ((w.alloc (.cells #[.int .i64 nets, .slice GA gn gc] 39)).alloc (.cells (madeCells #[.int .i64 0] gn) 3)) (w.heap.size + 1) 3 1 (.slice (some ⟨w.heap.size + 1, 0, none⟩) gn gn) gn (nums .i64 (R (fdG gs) gn 0))) := Lib.hid hnb
  clear hnb
  have c1 : (w.alloc (.cells #[.int .i64 nets, .slice GA gn gc] 39)).cell? ⟨w.heap.size, 1, none⟩ = some (.slice GA gn gc) := (blk_cell hbk 1).trans rfl
  clear hbk hsz
  have HG := Lib.hid hg; clear hg
  go_enter Try.func59, Try.ntmps59
  go_wp2_with fail
  go_loopg [6, 7] 3700 (fun g ms ag wr => ∃ (t : Nat) (b : Bool), t ≤ 3601 ∧ g = 3700 - t ∧ ms = .int .i64 (maxL (R (fdG gs) gn t)) ∧ ag = .bool b ∧ Hid (b = false → Fix (fdG gs) gn (R (fdG gs) gn t)) ∧ Hid (b = true → (t : Int) ≤ (R (fdG gs) gn t).sum) ∧ Hid (∀ j, j < gn → (R (fdG gs) gn t).getD j 0 ≤ gn) ∧ Hid (Below w.heap.size w wr) ∧ Hid (wr.heap[w.heap.size]? = some (.cells #[.int .i64 nets, .slice GA gn gc] 39 (0, 0))) ∧ Hid (wr.ownsRow (w.heap.size + 1) 3 1 (.slice (some ⟨w.heap.size + 1, 0, none⟩) gn gn) gn (nums .i64 (R (fdG gs) gn t))))
  case atStart =>
    have e0 : maxL (R (fdG gs) gn 0) = 0 := maxL_zero gn
    have e1 : (R (fdG gs) gn 0).sum = 0 := sum_zero gn
    exact ⟨0, true, by omega, rfl, by rw [e0], rfl, Lib.hid (fun h => by cases h), Lib.hid (fun _ => by rw [e1]; exact Int.le_refl _), Lib.hid (fun j hj => by
      have := (R_bound (fd := fdG gs) (n := gn) 0 j).2
      omega), HB, HBK, HNB⟩
  case round =>
    obtain ⟨t, b, ht, rfl, rfl, rfl, hFx, hSm, hCap, hB, hbk, hO⟩ := hrel
    clear HB HBK HNB c1 hmk
    obtain ⟨wx, rfl⟩ : ∃ wx : World, wx = wr := ⟨_, rfl⟩
    cases b with
    | false =>
      have hd := depthP_fix (hFx.out rfl)
      have hn := maxL_nonneg (R (fdG gs) gn t)
      have HD := Lib.hid hd; clear hd
      generalize maxL (R (fdG gs) gn t) = mx at *
      go_wp2_with fail
      go_ret2
      refine ⟨?_, hB.out⟩
      rw [HD.out, show max mx 0 = mx by omega, decide_eq_true hn]
      try rfl
    | true =>
      have hts := hSm.out rfl
      have hcap := sum_cap (inv_R (fd := fdG gs) (n := gn) t).1 h60 hCap.out
      have ht2 : t ≤ 3600 := by omega
      have HTS := Lib.hid hts; clear hts hcap hFx hSm
      have hst : Hid (wx.ownsRow (w.heap.size + 1) 3 1 (.slice (some ⟨w.heap.size + 1, 0, none⟩) gn gn) gn (nums .i64 (Rows0.stepG (fdG gs) gn (R (fdG gs) gn t) 0))) := hO
      have hcp : Hid (∀ j, j < gn → (Rows0.stepG (fdG gs) gn (R (fdG gs) gn t) 0).getD j 0 ≤ gn) := hCap
      clear hO hCap
      go_wp2_with fail
      go_loopw [6, 7, 8] (fun ms ag i wy => ∃ m : Nat, m ≤ gn ∧ i = .int .i64 m ∧ ms = .int .i64 (maxL (Rows0.stepG (fdG gs) gn (R (fdG gs) gn t) m)) ∧ ag = .bool (chg (fdG gs) gn (R (fdG gs) gn t) m) ∧ Hid (∀ j, j < gn → (Rows0.stepG (fdG gs) gn (R (fdG gs) gn t) m).getD j 0 ≤ gn) ∧ Hid (Below w.heap.size w wy) ∧ Hid (wy.heap[w.heap.size]? = some (.cells #[.int .i64 nets, .slice GA gn gc] 39 (0, 0))) ∧ Hid (wy.ownsRow (w.heap.size + 1) 3 1 (.slice (some ⟨w.heap.size + 1, 0, none⟩) gn gn) gn (nums .i64 (Rows0.stepG (fdG gs) gn (R (fdG gs) gn t) m)))) (fun _ _ i _ => gn - (intOf i).toNat)
      case atStart => exact ⟨0, by omega, rfl, rfl, rfl, hcp, hB, hbk, hst⟩
      case round =>
        obtain ⟨m, hm, rfl, rfl, rfl, hCp, hBm, hbm, hOm⟩ := hrel
        clear hcp hst hB hbk
        obtain ⟨wy, rfl⟩ : ∃ wy : World, wy = wr := ⟨_, rfl⟩
        by_cases hlm : m < gn
        · have c1 : wy.cell? ⟨w.heap.size, 1, none⟩ = some (.slice GA gn gc) := (blk_cell hbm.out 1).trans rfl
          have hinv := (inv_step (inv_R (fd := fdG gs) (n := gn) t) m (by omega)).1
          have hrm := hinv.2 m hlm
          have hrl := hinv.1
          have HMS := Lib.hid (fun (v : Int) (h1 : (Rows0.stepG (fdG gs) gn (R (fdG gs) gn t) m).getD m 0 ≤ v) (h2 : 0 ≤ v) => maxL_set (by rw [hrl]; exact hlm) h1 h2)
          have HNF := Lib.hid (fun h => depthP_none (no_fix (fd := fdG gs) (n := gn) (t := t) hlm h))
          have HCH := Lib.hid (show chg (fdG gs) gn (R (fdG gs) gn t) (m + 1) = (chg (fdG gs) gn (R (fdG gs) gn t) m || decide (need (fdG gs) (Rows0.stepG (fdG gs) gn (R (fdG gs) gn t) m) m gn ≠ (Rows0.stepG (fdG gs) gn (R (fdG gs) gn t) m).getD m 0)) from rfl)
          have HST := Lib.hid (show Rows0.stepG (fdG gs) gn (R (fdG gs) gn t) (m + 1) = (Rows0.stepG (fdG gs) gn (R (fdG gs) gn t) m).set m (need (fdG gs) (Rows0.stepG (fdG gs) gn (R (fdG gs) gn t) m) m gn) from rfl)
          have hpos : ∀ j, 0 ≤ (Rows0.stepG (fdG gs) gn (R (fdG gs) gn t) m).getD j 0 ∧ (Rows0.stepG (fdG gs) gn (R (fdG gs) gn t) m).getD j 0 ≤ ((60 : Nat) : Int) := fun j => by
            have h := (step_bound (fd := fdG gs) (n := gn) (show (0 : Int) ≤ ((t * gn : Nat) : Int) by omega) (R_bound (fd := fdG gs) t) m j).1
            refine ⟨h, ?_⟩
            by_cases hj : j < gn
            · have := hCp.out j hj; omega
            · rw [getD_ge (by rw [hrl]; omega)]; omega
          generalize hrw : Rows0.stepG (fdG gs) gn (R (fdG gs) gn t) m = row at *
          generalize hr2 : Rows0.stepG (fdG gs) gn (R (fdG gs) gn t) (m + 1) = row2 at *
          generalize hc1 : chg (fdG gs) gn (R (fdG gs) gn t) m = ch1 at *
          generalize hc2 : chg (fdG gs) gn (R (fdG gs) gn t) (m + 1) = ch2 at *
          have HC2 := Lib.hid hc2; clear hc2
          have HR2 := Lib.hid hr2; clear hr2
          have HPOS := Lib.hid hpos; clear hpos
          have HRM := Lib.hid hrm; clear hrm
          have HRL := Lib.hid hrl; clear hrl
          clear hc1 hrw hinv
          go_wp2_with fail
          go_loopw [9, 10] (fun d i wz => ∃ q : Nat, q ≤ gn ∧ i = .int .i64 q ∧ d = .int .i64 (need (fdG gs) row m q) ∧ Hid (Below wy.heap.size wy wz)) (fun _ i _ => gn - (intOf i).toNat)
          case atStart => exact ⟨0, by omega, rfl, rfl, Lib.hid (Below.refl _ _)⟩
          case round =>
            obtain ⟨q, hq, rfl, rfl, hBk⟩ := hrel
            clear c1
            obtain ⟨wz, rfl⟩ : ∃ wz : World, wz = wr := ⟨_, rfl⟩
            have HORZ := Lib.hid (pw_own_below hOm.out hBk.out)
            have HBZ := Lib.hid (hBm.out.trans (hBk.out.mono hBm.out.size))
            have HBKZ := Lib.hid (blk_below hbm.out hBk.out)
            by_cases hlk : q < gn
            · obtain ⟨ad, rfl, hgm⟩ := (HG.out.below HBZ.out).at_ m hlm
              obtain ⟨ad2, had2, hgk⟩ := (HG.out.below HBZ.out).at_ q hlk
              obtain rfl : ad = ad2 := by injection had2
              clear had2
              have c1 : wz.cell? ⟨w.heap.size, 1, none⟩ = some (.slice (some ad) gn gc) := (blk_cell HBKZ.out 1).trans rfl
              have HFD := Lib.hid (show fdG gs q m = (((gs.getD m zGate).kind != 0) && (gs.getD m zGate).ins.contains (gs.getD q zGate).out) from rfl)
              have hnd := need_lt (fd := fdG gs) (by decide) HPOS.out m q
              have hrk := HPOS.out q
              have HNY := Lib.hid (fun h => need_yes (fd := fdG gs) (row := row) (i := m) (k := q) h)
              have HNN := Lib.hid (fun h => need_no (fd := fdG gs) (row := row) (i := m) (k := q) h)
              obtain ⟨nq1, nq2⟩ := own_at HORZ.out (q : Int) (by omega) (by omega)
              rw [show rd row (q : Int) = row.getD q 0 from rfl, show ((q : Nat) : Int).toNat = q from rfl] at nq1
              clear nq2
              generalize gs.getD m zGate = G at *
              generalize gs.getD q zGate = H at *
              obtain ⟨kd, ins, out, dl⟩ := G
              obtain ⟨kd2, ins2, out2, dl2⟩ := H
              obtain ⟨g1, ⟨AI, ci, g2, g3, g4⟩, g5, g6⟩ := hgm
              obtain ⟨q1, ⟨AJ, cj, q2, q3, q4⟩, q5, q6⟩ := hgk
              have HG3 := Lib.hid g3; clear g3 q3
              generalize hnk : need (fdG gs) row m q = nd at *
              generalize hnk1 : need (fdG gs) row m (q + 1) = nd1 at *
              have HNK1 := Lib.hid hnk1; clear hnk1
              clear hnk
              generalize row.getD q 0 = rk at *
              go_wp2
              go_still_tail 10, (by kernel_rfl)
              change wpList _ _ _ _ _ wz.drew
              have HBD : Hid (Below wz.heap.size wz wz.drew) := Lib.hid (pw_below_drewN (n := 1) (Below.refl _ _))
              have HGD : Hid (ReadsInt wz.drew .i64 AI ins.length ins) := HG3
              have nqd : wz.drew.cell? ⟨w.heap.size + 1, q, none⟩ = some (.int .i64 rk) := nq1
              clear nq1 g1 g2 g5 g6 q1 q2 q5 q6 c1
              generalize wz.drew = wd at *
              have HBKD := Lib.hid (hBk.out.trans (HBD.out.mono hBk.out.size))
              rcases hfb : ((kd != 0) && ins.contains out2) with _ | _
              · have HN := Lib.hid (HNN.out (HFD.out.trans hfb))
                have HFB := Lib.hid hfb; clear hfb
                go_wp2_with fail
                refine (feeds_is _ _ _ _ _ _ _ _ _ _ _ _ _ _ HGD.out HFB).mono ?_
                rintro e w5 ⟨rfl, hb5⟩
                have HB5 := Lib.hid (HBKD.out.trans (hb5.mono HBKD.out.size)); clear hb5
                go_wp2_with fail
                go_roundw
                case rel => exact ⟨q + 1, by omega, by go_num, by rw [HNK1.out, HN.out], HB5⟩
                case measure => simp [intOf]; omega
              · have HN := Lib.hid (HNY.out (HFD.out.trans hfb))
                have HFB := Lib.hid hfb; clear hfb
                go_wp2_with fail
                refine (feeds_is _ _ _ _ _ _ _ _ _ _ _ _ _ _ HGD.out HFB).mono ?_
                rintro e w5 ⟨rfl, hb5⟩
                have HB5 := Lib.hid (HBKD.out.trans (hb5.mono HBKD.out.size))
                have n5 := pw_cell_below hb5 nqd
                clear hb5 nqd
                have hmx : (if nd < rk + 1 then rk + 1 else nd) = max nd (rk + 1) := by split <;> omega
                have HMX := Lib.hid hmx
                generalize max nd (rk + 1) = mx at *
                go_wp2_with fail
                go_roundw
                case rel => exact ⟨q + 1, by omega, by go_num, by rw [HNK1.out, HN.out], HB5⟩
                case measure => simp [intOf]; omega
            · obtain rfl : q = gn := by omega
              have HND := Lib.hid (show need (fdG gs) row m q = need (fdG gs) row m q from rfl)
              have hnd := need_lt (fd := fdG gs) (by decide) HPOS.out m q
              have hrk := HPOS.out m
              have hrm := HRM.out
              obtain ⟨nq1, nq2⟩ := own_at HORZ.out (m : Int) (by omega) (by omega)
              obtain ⟨ns1, _⟩ := own_store HORZ.out (m : Int) (need (fdG gs) row m q)
              rw [show ((m : Nat) : Int).toNat = m from rfl] at nq1 nq2 ns1
              rw [show rd row (m : Int) = row.getD m 0 from rfl] at nq1
              have HNS := Lib.hid ns1; clear ns1
              have HMS2 := Lib.hid (HMS.out (need (fdG gs) row m q) hrm (by omega))
              have HNF2 := HNF
              have hmxp := maxL_nonneg row
              generalize hnd2 : need (fdG gs) row m q = nd at *
              generalize hrm2 : row.getD m 0 = rm at *
              generalize hmx2 : maxL row = mx at *
              have HND2 := Lib.hid hnd2
              have HRM2 := Lib.hid hrm2
              clear HND hnd2 hrm2 hmx2
              by_cases hbig : (q : Int) < nd
              · have hd := HNF2.out hbig
                have HD := Lib.hid hd; clear hd
                go_wp2_with fail
                go_ret2
                refine ⟨?_, HBZ.out⟩
                rw [HD.out]
                try rfl
              · have hsm : ¬ (q : Int) < nd := hbig
                have hmx : (if rm < nd then nd else rm) = nd := by split <;> omega
                have hms : (if mx < nd then nd else mx) = max mx nd := by split <;> omega
                have nset : (wz.setCell ⟨w.heap.size + 1, m, none⟩ (.int .i64 nd)).cell? ⟨w.heap.size + 1, m, none⟩ = some (.int .i64 nd) := by
                  have h := (own_at HNS.out (m : Int) (by omega) (by omega)).1
                  rw [show ((m : Nat) : Int).toNat = m from rfl, show rd (row.set m nd) (m : Int) = (row.set m nd).getD m 0 from rfl, getD_set_eq (by rw [HRL.out]; exact hlm)] at h
                  exact h
                have HBS := Lib.hid (HBZ.out.setCell (p := ⟨w.heap.size + 1, m, none⟩) (Nat.le_succ _) (.int .i64 nd))
                have HBKS := Lib.hid (blk_far HBKZ.out (p := ⟨w.heap.size + 1, m, none⟩) (show w.heap.size ≠ w.heap.size + 1 by omega) (.int .i64 nd))
                have HR2' : Hid (row2 = row.set m nd) := HST
                have HCP2 : Hid (∀ j, j < q → row2.getD j 0 ≤ q) := Lib.hid (fun j hj => by
                  rw [HR2'.out, Rows0.getD_set]
                  split
                  · omega
                  · exact hCp.out j hj)
                have HMX2 : Hid (max mx nd = maxL row2) := Lib.hid (by rw [HR2'.out, HMS2.out])
                generalize max mx nd = mx2 at *
                cases ch1 with
                | true =>
                  have HC : Hid (ch2 = true) := Lib.hid (by rw [HCH.out]; rfl)
                  go_wp2_with fail
                  go_roundw
                  case rel => exact ⟨m + 1, by omega, by go_num, by rw [HR2.out, HMX2.out], by rw [HC2.out, HC.out], by rw [HR2.out]; exact HCP2, HBS, HBKS, by rw [HR2.out, HR2'.out]; exact HNS⟩
                  case measure => simp [intOf]; omega
                | false =>
                  have hdec : decide (rm < nd) = decide (nd ≠ rm) := by
                    by_cases e : nd = rm
                    · rw [decide_eq_false (by omega), decide_eq_false (by omega)]
                    · rw [decide_eq_true (by omega), decide_eq_true e]
                  have HC : Hid (ch2 = decide (rm < nd)) := Lib.hid (by rw [HCH.out, hdec]; rfl)
                  clear hdec
                  go_wp2_with fail
                  go_roundw
                  case rel => exact ⟨m + 1, by omega, by go_num, by rw [HR2.out, HMX2.out], by rw [HC2.out, HC.out], by rw [HR2.out]; exact HCP2, HBS, HBKS, by rw [HR2.out, HR2'.out]; exact HNS⟩
                  case measure => simp [intOf]; omega
        · obtain rfl : m = gn := by omega
          have hFx2 : Hid (chg (fdG gs) m (R (fdG gs) m t) m = false → Fix (fdG gs) m (R (fdG gs) m (t + 1))) := Lib.hid (fun h => by
            have h1 := fix_of_chg (inv_R (fd := fdG gs) (n := m) t).1 h
            have h2 := (chg_false (fd := fdG gs) (n := m) m h).1
            show Fix (fdG gs) m (Rows0.stepG (fdG gs) m (R (fdG gs) m t) m)
            rw [h2]
            exact h1)
          have hSm2 : Hid (chg (fdG gs) m (R (fdG gs) m t) m = true → ((t + 1 : Nat) : Int) ≤ (R (fdG gs) m (t + 1)).sum) := Lib.hid (fun h => by
            have h1 := sum_step (inv_R (fd := fdG gs) (n := m) t) m (Nat.le_refl _)
            rw [h, if_pos rfl] at h1
            have h2 := HTS.out
            show ((t + 1 : Nat) : Int) ≤ (Rows0.stepG (fdG gs) m (R (fdG gs) m t) m).sum
            omega)
          have hCp2 : Hid (∀ j, j < m → (R (fdG gs) m (t + 1)).getD j 0 ≤ m) := hCp
          have hO2 : Hid (wy.ownsRow (w.heap.size + 1) 3 1 (.slice (some ⟨w.heap.size + 1, 0, none⟩) m m) m (nums .i64 (R (fdG gs) m (t + 1)))) := hOm
          have hmm : Hid (maxL (Rows0.stepG (fdG gs) m (R (fdG gs) m t) m) = maxL (R (fdG gs) m (t + 1))) := Lib.hid rfl
          clear hCp hOm
          generalize hc1 : chg (fdG gs) m (R (fdG gs) m t) m = cb at *
          clear hc1
          generalize maxL (Rows0.stepG (fdG gs) m (R (fdG gs) m t) m) = mx at *
          go_wp2_with fail
          go_roundg (3700 - (t + 1))
          case measure => omega
          case rel => exact ⟨t + 1, cb, by omega, rfl, by rw [hmm.out], rfl, hFx2, hSm2, hCp2, hBm, hbm, hO2⟩
end Go.Proofs.Ytobdhdehmkmjcaa
