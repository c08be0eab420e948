/- Words and walks for the row RowLogicRuns, put together: P2, Z0, Z1. -/
import Derived.Test.YtobdhdehmkmjcaaRuns2
import Derived.StillTailTactics
namespace Go.Proofs.Ytobdhdehmkmjcaa
set_option linter.unusedVariables false
set_option linter.unusedSimpArgs false
open Go.RowKit Go.Proofs.YtobdhdehmkmjcaaW.PrintWords Go.Proofs.YtobdhdehmkmjcaaW.PrintLast

def accG (gs : List GateL) (gv : List Int) (n : Int) : Nat → Int
  | 0 => 4
  | k + 1 => if (gs.getD k zGate).out = n then meetF (accG gs gv n k) (gv.getD k 0) else accG gs gv n k
def accD (ds : List DriveL) (n a : Int) : Nat → Int
  | 0 => a
  | k + 1 => if (ds.getD k zDrive).net = n then meetF (accD ds n a k) (ds.getD k zDrive).v else accD ds n a k
theorem resF_snoc (l : List Int) (x : Int) : resF (l ++ [x]) = meetF (resF l) x := by simp [resF]
theorem resF_addAt {L : List (List Int)} {i x : Int} {n : Nat} (h0 : 0 ≤ i) (h1 : i.toNat < L.length) : resF ((addAt L i x).getD n []) = if i = n then meetF (resF (L.getD n [])) x else resF (L.getD n []) := by
  unfold addAt
  by_cases e : i = n
  · rw [if_pos e]
    have e2 : i.toNat = n := by omega
    rw [e2, getD_set_eq (by omega), resF_snoc]
  · rw [if_neg e, getD_set_ne (by omega)]
theorem accD_eq {nn : Nat} {ds : List DriveL} (hd : ds.all (driveOk nn) = true) {L : List (List Int)} (hL : L.length = nn) (n : Nat) : ∀ k, k ≤ ds.length → accD ds n (resF (L.getD n [])) k = resF ((drivesTo (ds.take k) L).getD n [])
  | 0, _ => rfl
  | k + 1, hk => by
    have ho := driveOk_net (List.all_eq_true.1 hd (ds.getD k zDrive) (by rw [List.getD_eq_getElem?_getD, List.getElem?_eq_getElem (show k < ds.length by omega)]; exact List.getElem_mem _))
    rw [drivesTo_succ (by omega), resF_addAt ho.1 (by rw [drivesTo_length, hL]; omega)]
    show (if (ds.getD k zDrive).net = n then meetF (accD ds n _ k) _ else accD ds n _ k) = _
    rw [accD_eq hd hL n k (by omega)]
theorem accG_val {gs : List GateL} {gv : List Int} (n : Int) (hv : gv.all isVal = true) : ∀ k, k ≤ gv.length → isVal (accG gs gv n k) = true
  | 0, _ => rfl
  | k + 1, hk => by
    unfold accG
    split
    · exact meetF_val (accG_val n hv k (by omega)) (all_getD hv (by omega))
    · exact accG_val n hv k (by omega)
theorem accD_val {nn : Int} {ds : List DriveL} {n a : Int} (ha : isVal a = true) (hd : ds.all (driveOk nn) = true) : ∀ k, k ≤ ds.length → isVal (accD ds n a k) = true
  | 0, _ => ha
  | k + 1, hk => by
    unfold accD
    split
    · refine meetF_val (accD_val ha hd k (by omega)) ?_
      have h := drive_at hd (k := k) (by omega)
      unfold driveOk at h
      simp only [Bool.and_eq_true] at h
      exact h.2
    · exact accD_val ha hd k (by omega)
theorem accG_hit {gs : List GateL} {gv : List Int} {n : Int} {k : Nat} (h : (gs.getD k zGate).out = n) : accG gs gv n (k + 1) = meetF (accG gs gv n k) (gv.getD k 0) := if_pos h
theorem accG_miss {gs : List GateL} {gv : List Int} {n : Int} {k : Nat} (h : (gs.getD k zGate).out ≠ n) : accG gs gv n (k + 1) = accG gs gv n k := if_neg h
theorem accD_hit {ds : List DriveL} {n a : Int} {k : Nat} (h : (ds.getD k zDrive).net = n) : accD ds n a (k + 1) = meetF (accD ds n a k) (ds.getD k zDrive).v := if_pos h
theorem accD_miss {ds : List DriveL} {n a : Int} {k : Nat} (h : (ds.getD k zDrive).net ≠ n) : accD ds n a (k + 1) = accD ds n a k := if_neg h

set_option maxHeartbeats 4000000 in
set_option maxRecDepth 100000 in
theorem rdriven_any (nn : Nat) (GA : Option Addr) (gn gc : Nat) (gs : List GateL) (VA : Option Addr) (vc : Nat) (gv : List Int) (DA : Option Addr) (dn dc : Nat) (ds : List DriveL) (X : List Int) (w : World)
    (hg : RdGates w GA gn gs) (hgv : ReadsInt w .i64 VA gn gv) (hd : RdDrives w DA dn ds) (hvv : gv.all isVal = true) (hdo : ds.all (driveOk nn) = true) (h40 : nn ≤ 40)
    (hX : X.length = nn) (hXa : ∀ n, n < nn → X.getD n 0 = accD ds n (accG gs gv n gn) dn) :
    Calls Try.prog 56 #[.agg #[.int .i64 nn, .slice GA gn gc], .slice VA gn vc, .slice DA dn dc] w fun e w' => ∃ v', e = .returned v' ∧ w'.ownsRow (w.heap.size + 1) 3 1 v' nn (nums .i64 X) ∧ Below w.heap.size w w' := by
  have hgm := hgv.2.1
  have hdm := hd.2.1
  have hB : Below w.heap.size w (w.alloc (.cells #[.int .i64 nn, .slice GA gn gc] 39)) := (Below.refl _ _).alloc (Nat.le_refl _) _
  have hbk : (w.alloc (.cells #[.int .i64 nn, .slice GA gn gc] 39)).heap[w.heap.size]? = some (.cells #[.int .i64 nn, .slice GA gn gc] 39 (0, 0)) := blk_new _ _
  have hsz : (w.alloc (.cells #[.int .i64 nn, .slice GA gn gc] 39)).heap.size = w.heap.size + 1 := Array.size_push _
  have hmk := make22 nn (by omega) (w.alloc (.cells #[.int .i64 nn, .slice GA gn gc] 39))
  rw [hsz] at hmk
  have hnb := own_made (w.alloc (.cells #[.int .i64 nn, .slice GA gn gc] 39)) (w.heap.size + 1) 3 .i64 nn (by rw [hsz]; exact Nat.le_refl _) (by omega)
  rw [hsz] at hnb
  have hnb2 : ((w.alloc (.cells #[.int .i64 nn, .slice GA gn gc] 39)).alloc (.cells (madeCells #[.int .i64 0] nn) 3)).ownsRow (w.heap.size + 1) 3 1 (.slice (some ⟨w.heap.size + 1, 0, none⟩) nn nn) nn (nums .i64 (fillL X 0)) := by
    rw [fillL_zero, hX]; exact hnb
  clear hnb
  have hB2 : Below w.heap.size w ((w.alloc (.cells #[.int .i64 nn, .slice GA gn gc] 39)).alloc (.cells (madeCells #[.int .i64 0] nn) 3)) := hB.alloc (by rw [hsz]; exact Nat.le_succ _) _
  have hbk2 := blk_alloc hbk (.cells (madeCells #[.int .i64 0] nn) 3)
  have HB := Lib.hid hB2; clear hB hB2
  have HBK := Lib.hid hbk2; clear hbk2
  have HNB := Lib.hid hnb2; clear hnb2
  have c0 : (w.alloc (.cells #[.int .i64 nn, .slice GA gn gc] 39)).cell? ⟨w.heap.size, 0, none⟩ = some (.int .i64 nn) := (blk_cell hbk 0).trans rfl
  have HSZ := Lib.hid hsz
  clear hbk hsz
  have HG := Lib.hid hg; clear hg
  have HV := Lib.hid hgv; clear hgv
  have HD := Lib.hid hd; clear hd
  have HVV := Lib.hid hvv; clear hvv
  have HDO := Lib.hid hdo; clear hdo
  have HX := Lib.hid hX; clear hX
  have HXA := Lib.hid hXa; clear hXa
  go_enter Try.func56, Try.ntmps56
  go_wp2_with fail
  go_loopw [8] (fun i wr => ∃ j : Nat, j ≤ nn ∧ i = .int .i64 j ∧ Hid (Below w.heap.size w wr) ∧ Hid (wr.heap[w.heap.size]? = some (.cells #[.int .i64 nn, .slice GA gn gc] 39 (0, 0))) ∧ Hid (wr.ownsRow (w.heap.size + 1) 3 1 (.slice (some ⟨w.heap.size + 1, 0, none⟩) nn nn) nn (nums .i64 (fillL X j)))) (fun i _ => nn - (intOf i).toNat)
  case atStart => exact ⟨0, by omega, rfl, HB, HBK, HNB⟩
  case round =>
    obtain ⟨j, hj, rfl, hB, hbk, hO⟩ := hrel
    clear HB HBK HNB c0 hmk
    obtain ⟨wx, rfl⟩ : ∃ wx : World, wx = wr := ⟨_, rfl⟩
    have c0 : wx.cell? ⟨w.heap.size, 0, none⟩ = some (.int .i64 nn) := (blk_cell hbk.out 0).trans rfl
    by_cases hlt : j < nn
    · obtain ⟨ns1, ns2⟩ := own_store hO.out (j : Int) 4
      obtain ⟨nq1, nq2⟩ := own_at hO.out (j : Int) (by omega) (by omega)
      have hqn : ((j : Nat) : Int).toNat = j := rfl
      rw [hqn] at ns1 nq1 nq2
      have hlen := fillL_length X j (by rw [HX.out]; omega)
      have hfs := fillL_set X j (by rw [HX.out]; omega)
      have HXJ := Lib.hid (HXA.out j hlt)
      have HFS := Lib.hid hfs; clear hfs
      have HLEN := Lib.hid (hlen.trans HX.out); clear hlen
      have HNS := Lib.hid ns1; clear ns1 ns2
      generalize hF : fillL X j = F at *
      generalize rd F (j : Int) = old at *
      have hBs : Hid (Below w.heap.size w (wx.setCell ⟨w.heap.size + 1, j, none⟩ (.int .i64 4))) := Lib.hid (hB.out.setCell (Nat.le_succ _) _)
      have hbs : Hid ((wx.setCell ⟨w.heap.size + 1, j, none⟩ (.int .i64 4)).heap[w.heap.size]? = some (.cells #[.int .i64 nn, .slice GA gn gc] 39 (0, 0))) := Lib.hid (blk_far hbk.out (show w.heap.size ≠ w.heap.size + 1 by omega) _)
      clear hF
      have hinit : Hid ((wx.setCell ⟨w.heap.size + 1, j, none⟩ (.int .i64 4)).ownsRow (w.heap.size + 1) 3 1 (.slice (some ⟨w.heap.size + 1, 0, none⟩) nn nn) nn (nums .i64 (F.set j (accG gs gv j 0)))) := HNS
      have hlj : j < F.length := by rw [HLEN.out]; exact hlt
      have HLJ := Lib.hid hlj; clear hlj
      go_wp2_with fail
      go_loopw [9] (fun i wy => ∃ m : Nat, m ≤ gn ∧ i = .int .i64 m ∧ Hid (Below w.heap.size w wy) ∧ Hid (wy.heap[w.heap.size]? = some (.cells #[.int .i64 nn, .slice GA gn gc] 39 (0, 0))) ∧ Hid (wy.ownsRow (w.heap.size + 1) 3 1 (.slice (some ⟨w.heap.size + 1, 0, none⟩) nn nn) nn (nums .i64 (F.set j (accG gs gv j m))))) (fun i _ => gn - (intOf i).toNat)
      case atStart => exact ⟨0, by omega, rfl, hBs, hbs, hinit⟩
      case round =>
        obtain ⟨m, hm, rfl, hBm, hbm, hOm⟩ := hrel
        clear hBs hbs hinit HNS nq1 nq2 c0
        obtain ⟨wy, rfl⟩ : ∃ wy : World, wy = wr := ⟨_, rfl⟩
        have c1 : wy.cell? ⟨w.heap.size, 1, none⟩ = some (.slice GA gn gc) := (blk_cell hbm.out 1).trans rfl
        by_cases hlm : m < gn
        · obtain ⟨ad, rfl, hg⟩ := (HG.out.below hBm.out).at_ m hlm
          obtain ⟨g1, ⟨AI, ci, g2, g3, g4⟩, g5, g6⟩ := hg
          clear g1 g2 g3 g4 g6
          by_cases ho : (gs.getD m zGate).out = (j : Int)
          · have HACC := Lib.hid (accG_hit (gv := gv) ho)
            rw [ho] at g5
            clear ho
            have hva := accG_val (gs := gs) (j : Int) HVV.out m (by have := HV.out.1; omega)
            have hvb := all_getD HVV.out (k := m) (by have := HV.out.1; omega)
            obtain ⟨bd, rfl, hv⟩ := rdN (HV.out.below hBm.out) m hlm
            obtain ⟨nq1, nq2⟩ := own_at hOm.out (j : Int) (by omega) (by omega)
            have hqn : ((j : Nat) : Int).toNat = j := rfl
            have hrd : rd (F.set j (accG gs gv j m)) (j : Int) = accG gs gv j m := getD_set_eq HLJ.out
            rw [hrd, hqn] at nq1
            rw [hqn] at nq2
            clear hrd hqn
            have HMEET := Lib.hid (bothF_meet hva hvb)
            clear hva hvb
            generalize hacc' : accG gs gv (j : Int) (m + 1) = acc' at *
            have HA' := Lib.hid hacc'; clear hacc'
            generalize hacc : accG gs gv (j : Int) m = acc at *
            clear hacc
            generalize gv.getD m 0 = y at *
            go_wp2
            have s0 : wy.drew.cell? ⟨w.heap.size + 1, j, none⟩ = some (.int .i64 acc) := nq1
            have s1 : wy.drew.cell? (bd.add m) = some (.int .i64 y) := hv
            have hfz : wy.drew.frozen? ⟨w.heap.size + 1, j, none⟩ = false := nq2
            obtain ⟨ns1, _⟩ := own_store hOm.out (j : Int) acc'
            rw [show ((j : Nat) : Int).toNat = j from rfl, List.set_set] at ns1
            have HNS := Lib.hid ns1; clear ns1
            refine wp_region_tail 12 (fun w' => w'.cell? ⟨w.heap.size + 1, j, none⟩ = some (.int .i64 acc) ∧ w'.cell? (bd.add m) = some (.int .i64 y)) (by kernel_rfl) ?_
            change wpAnyF _ _ _ _ _ _ _ _ _ wy.drew
            refine wpAnyF_take (i := 0) (v := .slice (some ⟨w.heap.size + 1, 0, none⟩) nn nn) rfl (by kernel_rfl) (by kernel_rfl) (by kernel_rfl) (by kernel_rfl) (fun _ _ _ h => h) (Or.inl ⟨by rfl, ?_⟩) ⟨s0, s1⟩ ?_
            · rintro W ⟨y0, y1⟩
              go_simp
            try simp only [Act.put, List.setIfInBounds_toArray, List.set_cons_zero, List.set_cons_succ]
            refine wpAnyF_take (i := 1) (v := .int .i64 j) rfl (by kernel_rfl) (by kernel_rfl) (by kernel_rfl) (by kernel_rfl) (fun _ _ _ h => h) (Or.inl ⟨by rfl, ?_⟩) ⟨s0, s1⟩ ?_
            · rintro W ⟨y0, y1⟩
              go_simp
            try simp only [Act.put, List.setIfInBounds_toArray, List.set_cons_zero, List.set_cons_succ]
            refine wpAnyF_take (i := 2) (v := .slice (some ⟨w.heap.size + 1, 0, none⟩) nn nn) rfl (by kernel_rfl) (by kernel_rfl) (by kernel_rfl) (by kernel_rfl) (fun _ _ _ h => h) (Or.inl ⟨by rfl, ?_⟩) ⟨s0, s1⟩ ?_
            · rintro W ⟨y0, y1⟩
              go_simp
            try simp only [Act.put, List.setIfInBounds_toArray, List.set_cons_zero, List.set_cons_succ]
            refine wpAnyF_take (i := 3) (v := .int .i64 j) rfl (by kernel_rfl) (by kernel_rfl) (by kernel_rfl) (by kernel_rfl) (fun _ _ _ h => h) (Or.inl ⟨by rfl, ?_⟩) ⟨s0, s1⟩ ?_
            · rintro W ⟨y0, y1⟩
              go_simp
            try simp only [Act.put, List.setIfInBounds_toArray, List.set_cons_zero, List.set_cons_succ]
            refine wpAnyF_take (i := 4) (v := .pointer (some ⟨w.heap.size + 1, j, none⟩)) rfl (by kernel_rfl) (by kernel_rfl) (by kernel_rfl) (by kernel_rfl) (fun _ _ _ h => h) (Or.inl ⟨by rfl, ?_⟩) ⟨s0, s1⟩ ?_
            · rintro W ⟨y0, y1⟩
              go_simp
            try simp only [Act.put, List.setIfInBounds_toArray, List.set_cons_zero, List.set_cons_succ]
            refine wpAnyF_take (i := 5) (v := .int .i64 acc) rfl (by kernel_rfl) (by kernel_rfl) (by kernel_rfl) (by kernel_rfl) (fun _ _ _ h => h) (Or.inl ⟨by rfl, ?_⟩) ⟨s0, s1⟩ ?_
            · rintro W ⟨y0, y1⟩
              go_simp
            try simp only [Act.put, List.setIfInBounds_toArray, List.set_cons_zero, List.set_cons_succ]
            refine wpAnyF_take (i := 6) (v := .slice (some bd) gn vc) rfl (by kernel_rfl) (by kernel_rfl) (by kernel_rfl) (by kernel_rfl) (fun _ _ _ h => h) (Or.inl ⟨by rfl, ?_⟩) ⟨s0, s1⟩ ?_
            · rintro W ⟨y0, y1⟩
              go_simp
            try simp only [Act.put, List.setIfInBounds_toArray, List.set_cons_zero, List.set_cons_succ]
            refine wpAnyF_take (i := 7) (v := .int .i64 m) rfl (by kernel_rfl) (by kernel_rfl) (by kernel_rfl) (by kernel_rfl) (fun _ _ _ h => h) (Or.inl ⟨by rfl, ?_⟩) ⟨s0, s1⟩ ?_
            · rintro W ⟨y0, y1⟩
              go_simp
            try simp only [Act.put, List.setIfInBounds_toArray, List.set_cons_zero, List.set_cons_succ]
            refine wpAnyF_take (i := 8) (v := .pointer (some (bd.add m))) rfl (by kernel_rfl) (by kernel_rfl) (by kernel_rfl) (by kernel_rfl) (fun _ _ _ h => h) (Or.inl ⟨by rfl, ?_⟩) ⟨s0, s1⟩ ?_
            · rintro W ⟨y0, y1⟩
              go_simp
            try simp only [Act.put, List.setIfInBounds_toArray, List.set_cons_zero, List.set_cons_succ]
            refine wpAnyF_take (i := 9) (v := .int .i64 y) rfl (by kernel_rfl) (by kernel_rfl) (by kernel_rfl) (by kernel_rfl) (fun _ _ _ h => h) (Or.inl ⟨by rfl, ?_⟩) ⟨s0, s1⟩ ?_
            · rintro W ⟨y0, y1⟩
              go_simp
            try simp only [Act.put, List.setIfInBounds_toArray, List.set_cons_zero, List.set_cons_succ]
            refine wpAnyF_one (i := 10) rfl (by kernel_rfl) (fun K hK => ?_)
            refine goes_ (f := 38) Try.func38 (by kernel_rfl) rfl #[.int .i64 acc, .int .i64 y] rfl rfl rfl (by simp [Act.eval]) ?_
            refine (both_any acc y wy.drew).mono ?_
            rintro e wc ⟨rfl, rfl⟩
            rw [HMEET.out, ← HACC.out]
            refine ⟨_, rfl, ?_⟩
            refine hK _ _ (fun _ => ⟨s0, s1⟩) ?_
            clear hK K
            try simp only [Act.put, List.setIfInBounds_toArray, List.set_cons_zero, List.set_cons_succ]
            refine wpAnyF_one (i := 11) rfl (by kernel_rfl) (fun K hK => ?_)
            go_simp
            refine hK _ _ (fun _ => ⟨s0, s1⟩) ?_
            clear hK K
            try simp only [Act.put, List.setIfInBounds_toArray, List.set_cons_zero, List.set_cons_succ]
            refine wpAnyF_one (i := 12) rfl (by kernel_rfl) (fun K hK => ?_)
            go_simp
            refine hK _ _ (fun h => absurd rfl h) ?_
            clear hK K
            try simp only [Act.put, List.setIfInBounds_toArray, List.set_cons_zero, List.set_cons_succ]
            refine wpAnyF_done (by kernel_rfl) ?_ _
            go_wp2_with fail
            go_roundw
            case rel => exact ⟨m + 1, by omega, by go_num, Lib.hid (pw_below_drewN (n := 1) (hBm.out.setCell (Nat.le_succ _) _)), Lib.hid (blk_drew (blk_far hbm.out (show w.heap.size ≠ w.heap.size + 1 by omega) _)), by rw [HA'.out]; exact Lib.hid HNS.out⟩
            case measure => simp [intOf]; omega
          · have HACC := Lib.hid (accG_miss (gv := gv) ho)
            have hof : ((gs.getD m zGate).out == (j : Int)) = false := by simpa using ho
            clear ho
            generalize (gs.getD m zGate).out = oo at *
            go_wp2_with fail
            go_roundw
            case rel => exact ⟨m + 1, by omega, by go_num, hBm, hbm, by rw [HACC.out]; exact hOm⟩
            case measure => simp [intOf]; omega
        · obtain rfl : m = gn := by omega
          have hva := accG_val (gs := gs) (j : Int) HVV.out m (by have := HV.out.1; omega)
          have HXJ' := HXJ
          generalize hag : accG gs gv (j : Int) m = ag at *
          have hstart : Hid (wy.ownsRow (w.heap.size + 1) 3 1 (.slice (some ⟨w.heap.size + 1, 0, none⟩) nn nn) nn (nums .i64 (F.set j (accD ds (j : Int) ag 0)))) := hOm
          clear hag hOm
          have HVA := Lib.hid hva; clear hva
          go_wp2_with fail
          go_loopw [10] (fun i wt => ∃ q : Nat, q ≤ dn ∧ i = .int .i64 q ∧ Hid (Below w.heap.size w wt) ∧ Hid (wt.heap[w.heap.size]? = some (.cells #[.int .i64 nn, .slice GA m gc] 39 (0, 0))) ∧ Hid (wt.ownsRow (w.heap.size + 1) 3 1 (.slice (some ⟨w.heap.size + 1, 0, none⟩) nn nn) nn (nums .i64 (F.set j (accD ds (j : Int) ag q))))) (fun i _ => dn - (intOf i).toNat)
          case atStart => exact ⟨0, by omega, rfl, hBm, hbm, hstart⟩
          case round =>
            obtain ⟨q, hq, rfl, hBq, hbq, hOq⟩ := hrel
            clear hBm hbm hstart c1
            obtain ⟨wt, rfl⟩ : ∃ wt : World, wt = wr := ⟨_, rfl⟩
            by_cases hlq : q < dn
            · obtain ⟨bd, rfl, g5, g6⟩ := (HD.out.below hBq.out).at_ q hlq
              by_cases ho : (ds.getD q zDrive).net = (j : Int)
              · have HACC := Lib.hid (accD_hit (a := ag) ho)
                rw [ho] at g5
                clear ho
                have hva := accD_val (n := (j : Int)) HVA.out HDO.out q (by have := HD.out.1; omega)
                have hvb : isVal (ds.getD q zDrive).v = true := by
                  have h := drive_at HDO.out (k := q) (by have := HD.out.1; omega)
                  unfold driveOk at h
                  simp only [Bool.and_eq_true] at h
                  exact h.2
                obtain ⟨nq1, nq2⟩ := own_at hOq.out (j : Int) (by omega) (by omega)
                have hrd : rd (F.set j (accD ds (j : Int) ag q)) (j : Int) = accD ds (j : Int) ag q := getD_set_eq HLJ.out
                rw [hrd, show ((j : Nat) : Int).toNat = j from rfl] at nq1
                rw [show ((j : Nat) : Int).toNat = j from rfl] at nq2
                clear hrd
                have HMEET := Lib.hid (bothF_meet hva hvb)
                clear hva hvb
                generalize hacc' : accD ds (j : Int) ag (q + 1) = acc' at *
                have HA' := Lib.hid hacc'; clear hacc'
                generalize hacc : accD ds (j : Int) ag q = acc at *
                clear hacc
                generalize (ds.getD q zDrive).v = y at *
                go_wp2_with fail
                have s0 : wt.drew.cell? ⟨w.heap.size + 1, j, none⟩ = some (.int .i64 acc) := nq1
                have s1 : wt.drew.cell? ⟨(bd.add (q * 2)).block, (bd.add (q * 2)).off + 1, none⟩ = some (.int .i64 y) := g6
                have hfz : wt.drew.frozen? ⟨w.heap.size + 1, j, none⟩ = false := nq2
                obtain ⟨ns1, _⟩ := own_store hOq.out (j : Int) acc'
                rw [show ((j : Nat) : Int).toNat = j from rfl, List.set_set] at ns1
                have HNS := Lib.hid ns1; clear ns1
                refine wp_region_tail 13 (fun w' => w'.cell? ⟨w.heap.size + 1, j, none⟩ = some (.int .i64 acc) ∧ w'.cell? ⟨(bd.add (q * 2)).block, (bd.add (q * 2)).off + 1, none⟩ = some (.int .i64 y)) (by kernel_rfl) ?_
                change wpAnyF _ _ _ _ _ _ _ _ _ wt.drew
                refine wpAnyF_take (i := 0) (v := .slice (some ⟨w.heap.size + 1, 0, none⟩) nn nn) rfl (by kernel_rfl) (by kernel_rfl) (by kernel_rfl) (by kernel_rfl) (fun _ _ _ h => h) (Or.inl ⟨by rfl, ?_⟩) ⟨s0, s1⟩ ?_
                · rintro W ⟨y0, y1⟩
                  go_simp
                try simp only [Act.put, List.setIfInBounds_toArray, List.set_cons_zero, List.set_cons_succ]
                refine wpAnyF_take (i := 1) (v := .int .i64 j) rfl (by kernel_rfl) (by kernel_rfl) (by kernel_rfl) (by kernel_rfl) (fun _ _ _ h => h) (Or.inl ⟨by rfl, ?_⟩) ⟨s0, s1⟩ ?_
                · rintro W ⟨y0, y1⟩
                  go_simp
                try simp only [Act.put, List.setIfInBounds_toArray, List.set_cons_zero, List.set_cons_succ]
                refine wpAnyF_take (i := 2) (v := .slice (some ⟨w.heap.size + 1, 0, none⟩) nn nn) rfl (by kernel_rfl) (by kernel_rfl) (by kernel_rfl) (by kernel_rfl) (fun _ _ _ h => h) (Or.inl ⟨by rfl, ?_⟩) ⟨s0, s1⟩ ?_
                · rintro W ⟨y0, y1⟩
                  go_simp
                try simp only [Act.put, List.setIfInBounds_toArray, List.set_cons_zero, List.set_cons_succ]
                refine wpAnyF_take (i := 3) (v := .int .i64 j) rfl (by kernel_rfl) (by kernel_rfl) (by kernel_rfl) (by kernel_rfl) (fun _ _ _ h => h) (Or.inl ⟨by rfl, ?_⟩) ⟨s0, s1⟩ ?_
                · rintro W ⟨y0, y1⟩
                  go_simp
                try simp only [Act.put, List.setIfInBounds_toArray, List.set_cons_zero, List.set_cons_succ]
                refine wpAnyF_take (i := 4) (v := .pointer (some ⟨w.heap.size + 1, j, none⟩)) rfl (by kernel_rfl) (by kernel_rfl) (by kernel_rfl) (by kernel_rfl) (fun _ _ _ h => h) (Or.inl ⟨by rfl, ?_⟩) ⟨s0, s1⟩ ?_
                · rintro W ⟨y0, y1⟩
                  go_simp
                try simp only [Act.put, List.setIfInBounds_toArray, List.set_cons_zero, List.set_cons_succ]
                refine wpAnyF_take (i := 5) (v := .int .i64 acc) rfl (by kernel_rfl) (by kernel_rfl) (by kernel_rfl) (by kernel_rfl) (fun _ _ _ h => h) (Or.inl ⟨by rfl, ?_⟩) ⟨s0, s1⟩ ?_
                · rintro W ⟨y0, y1⟩
                  go_simp
                try simp only [Act.put, List.setIfInBounds_toArray, List.set_cons_zero, List.set_cons_succ]
                refine wpAnyF_take (i := 6) (v := .slice (some bd) dn dc) rfl (by kernel_rfl) (by kernel_rfl) (by kernel_rfl) (by kernel_rfl) (fun _ _ _ h => h) (Or.inl ⟨by rfl, ?_⟩) ⟨s0, s1⟩ ?_
                · rintro W ⟨y0, y1⟩
                  go_simp
                try simp only [Act.put, List.setIfInBounds_toArray, List.set_cons_zero, List.set_cons_succ]
                refine wpAnyF_take (i := 7) (v := .int .i64 q) rfl (by kernel_rfl) (by kernel_rfl) (by kernel_rfl) (by kernel_rfl) (fun _ _ _ h => h) (Or.inl ⟨by rfl, ?_⟩) ⟨s0, s1⟩ ?_
                · rintro W ⟨y0, y1⟩
                  go_simp
                try simp only [Act.put, List.setIfInBounds_toArray, List.set_cons_zero, List.set_cons_succ]
                refine wpAnyF_take (i := 8) (v := .pointer (some (bd.add (q * 2)))) rfl (by kernel_rfl) (by kernel_rfl) (by kernel_rfl) (by kernel_rfl) (fun _ _ _ h => h) (Or.inl ⟨by rfl, ?_⟩) ⟨s0, s1⟩ ?_
                · rintro W ⟨y0, y1⟩
                  go_simp
                try simp only [Act.put, List.setIfInBounds_toArray, List.set_cons_zero, List.set_cons_succ]
                refine wpAnyF_take (i := 9) (v := .pointer (some ⟨(bd.add (q * 2)).block, (bd.add (q * 2)).off + 1, none⟩)) rfl (by kernel_rfl) (by kernel_rfl) (by kernel_rfl) (by kernel_rfl) (fun _ _ _ h => h) (Or.inl ⟨by rfl, ?_⟩) ⟨s0, s1⟩ ?_
                · rintro W ⟨y0, y1⟩
                  go_simp
                try simp only [Act.put, List.setIfInBounds_toArray, List.set_cons_zero, List.set_cons_succ]
                refine wpAnyF_take (i := 10) (v := .int .i64 y) rfl (by kernel_rfl) (by kernel_rfl) (by kernel_rfl) (by kernel_rfl) (fun _ _ _ h => h) (Or.inl ⟨by rfl, ?_⟩) ⟨s0, s1⟩ ?_
                · rintro W ⟨y0, y1⟩
                  go_simp
                try simp only [Act.put, List.setIfInBounds_toArray, List.set_cons_zero, List.set_cons_succ]
                refine wpAnyF_one (i := 11) rfl (by kernel_rfl) (fun K hK => ?_)
                refine goes_ (f := 38) Try.func38 (by kernel_rfl) rfl #[.int .i64 acc, .int .i64 y] rfl rfl rfl (by simp [Act.eval]) ?_
                refine (both_any acc y wt.drew).mono ?_
                rintro e wc ⟨rfl, rfl⟩
                rw [HMEET.out, ← HACC.out]
                refine ⟨_, rfl, ?_⟩
                refine hK _ _ (fun _ => ⟨s0, s1⟩) ?_
                clear hK K
                try simp only [Act.put, List.setIfInBounds_toArray, List.set_cons_zero, List.set_cons_succ]
                refine wpAnyF_one (i := 12) rfl (by kernel_rfl) (fun K hK => ?_)
                go_simp
                refine hK _ _ (fun _ => ⟨s0, s1⟩) ?_
                clear hK K
                try simp only [Act.put, List.setIfInBounds_toArray, List.set_cons_zero, List.set_cons_succ]
                refine wpAnyF_one (i := 13) rfl (by kernel_rfl) (fun K hK => ?_)
                go_simp
                refine hK _ _ (fun h => absurd rfl h) ?_
                clear hK K
                try simp only [Act.put, List.setIfInBounds_toArray, List.set_cons_zero, List.set_cons_succ]
                refine wpAnyF_done (by kernel_rfl) ?_ _
                go_wp2_with fail
                go_roundw
                case rel => exact ⟨q + 1, by omega, by go_num, Lib.hid (pw_below_drewN (n := 1) (hBq.out.setCell (Nat.le_succ _) _)), Lib.hid (blk_drew (blk_far hbq.out (show w.heap.size ≠ w.heap.size + 1 by omega) _)), by rw [HA'.out]; exact Lib.hid HNS.out⟩
                case measure => simp [intOf]; omega
              · have HACC := Lib.hid (accD_miss (a := ag) ho)
                have hof : ((ds.getD q zDrive).net == (j : Int)) = false := by simpa using ho
                clear ho
                generalize (ds.getD q zDrive).net = oo at *
                go_wp2_with fail
                go_roundw
                case rel => exact ⟨q + 1, by omega, by go_num, hBq, hbq, by rw [HACC.out]; exact hOq⟩
                case measure => simp [intOf]; omega
            · obtain rfl : q = dn := by omega
              have hOF : Hid (wt.ownsRow (w.heap.size + 1) 3 1 (.slice (some ⟨w.heap.size + 1, 0, none⟩) nn nn) nn (nums .i64 (fillL X (j + 1)))) := Lib.hid (by
                have h := hOq.out
                rwa [← HXJ.out, HFS.out] at h)
              go_wp2_with fail
              go_roundw
              case rel => exact ⟨j + 1, by omega, by go_num, hBq, hbq, hOF⟩
              case measure => simp [intOf]; omega
    · obtain rfl : j = nn := by omega
      have hfa := fillL_all X
      rw [HX.out] at hfa
      rw [hfa] at hO
      go_wp2_with fail
      go_ret
      exact ⟨_, rfl, hO.out, hB.out⟩
end Go.Proofs.Ytobdhdehmkmjcaa
namespace Go.Proofs.Ytobdhdehmkmjcaa
set_option linter.unusedVariables false
set_option linter.unusedSimpArgs false
open Go.RowKit Go.Proofs.YtobdhdehmkmjcaaW.PrintWords Go.Proofs.YtobdhdehmkmjcaaW.PrintLast

structure SentL where
  t : Int
  gate : Int
  v : Int
structure EdgeL where
  t : Int
  net : Int
  v : Int
structure PulseL where
  t : Int
  net : Int
  v : Int
/-- What drives the gates' nets, the nets, what was sent. -/
structure RS where
  gv : List Int
  nets : List Int
  q : List SentL
def netAt (gs : List GateL) (gv ov : List Int) (n : Nat) : Int := meetF (accG gs gv n gs.length) (ov.getD n 4)
def netsOf (nn : Nat) (gs : List GateL) (gv ov : List Int) : List Int := (List.range nn).map (netAt gs gv ov)
def changedOf (nn : Nat) (new old : List Int) : List Bool := (List.range nn).map fun n => new.getD n 0 != old.getD n 0
def askedB (all : Bool) (ch : List Bool) (g : GateL) : Bool := all || (g.kind != 0 && g.ins.any fun n => ch.getD n.toNat false)
structure AskS where
  gv : List Int
  q : List SentL
  moved : Bool
def askOne (gs : List GateL) (t : Int) (all : Bool) (ch : List Bool) (nets : List Int) (k : Nat) (s : AskS) : AskS :=
  if askedB all ch (gs.getD k zGate) = true then
    if 0 < (gs.getD k zGate).delay then ⟨s.gv, s.q ++ [⟨t + (gs.getD k zGate).delay, k, ansF (gs.getD k zGate) nets⟩], s.moved⟩
    else ⟨s.gv.set k (ansF (gs.getD k zGate) nets), s.q, s.moved || (ansF (gs.getD k zGate) nets != s.gv.getD k 0)⟩
  else s
def askTo (gs : List GateL) (t : Int) (all : Bool) (ch : List Bool) (nets : List Int) (s : AskS) : Nat → AskS
  | 0 => s
  | k + 1 => askOne gs t all ch nets k (askTo gs t all ch nets s k)
def askF (nn : Nat) (gs : List GateL) (t : Int) (ov : List Int) (all : Bool) (s : RS) : AskS :=
  askTo gs t all (changedOf nn (netsOf nn gs s.gv ov) s.nets) (netsOf nn gs s.gv ov) ⟨s.gv, s.q, false⟩ gs.length
def rndS (nn : Nat) (gs : List GateL) (t : Int) (ov : List Int) (all : Bool) (s : RS) : RS :=
  ⟨(askF nn gs t ov all s).gv, netsOf nn gs s.gv ov, (askF nn gs t ov all s).q⟩
def rndAny (nn : Nat) (gs : List GateL) (ov : List Int) (s : RS) : Bool := (changedOf nn (netsOf nn gs s.gv ov) s.nets).any id
def rndMov (nn : Nat) (gs : List GateL) (t : Int) (ov : List Int) (all : Bool) (s : RS) : Bool := (askF nn gs t ov all s).moved
/-- The rounds of a time as the program does them. -/
inductive RunsP (nn : Nat) (gs : List GateL) (t : Int) (ov : List Int) : Nat → List (List Int) → RS → Option RS → Prop
  | stop {k seen s} : rndAny nn gs ov s = false → rndMov nn gs t ov (decide (t = 0) && decide (k = 0)) s = false → RunsP nn gs t ov k seen s (some (rndS nn gs t ov (decide (t = 0) && decide (k = 0)) s))
  | bad {k seen s} : (rndAny nn gs ov s = true ∨ rndMov nn gs t ov (decide (t = 0) && decide (k = 0)) s = true) → ((rndAny nn gs ov s = true ∧ memB seen (netsOf nn gs s.gv ov) = true) ∨ 100 < k + 1) → RunsP nn gs t ov k seen s none
  | go {k seen s r} : (rndAny nn gs ov s = true ∨ rndMov nn gs t ov (decide (t = 0) && decide (k = 0)) s = true) → ¬ (rndAny nn gs ov s = true ∧ memB seen (netsOf nn gs s.gv ov) = true) → k + 1 ≤ 100 → RunsP nn gs t ov (k + 1) (seen ++ [netsOf nn gs s.gv ov]) (rndS nn gs t ov (decide (t = 0) && decide (k = 0)) s) r → RunsP nn gs t ov k seen s r
def seenR (any : Bool) (seen : List (List Int)) (x : List Int) : List (List Int) := if any = true then seen ++ [x] else seen
/-- The rounds of a time as the reference does them. -/
inductive RunsR (nn : Nat) (gs : List GateL) (t : Int) (ov : List Int) : List (List Int) → Bool → RS → Option RS → Prop
  | bad1 {seen first s} : rndAny nn gs ov s = true → memB seen (netsOf nn gs s.gv ov) = true → RunsR nn gs t ov seen first s none
  | bad2 {seen first s} : 101 < (seenR (rndAny nn gs ov s) seen (netsOf nn gs s.gv ov)).length → RunsR nn gs t ov seen first s none
  | stop {seen first s} : (seenR (rndAny nn gs ov s) seen (netsOf nn gs s.gv ov)).length ≤ 101 → rndAny nn gs ov s = false → rndMov nn gs t ov (decide (t = 0) && first) s = false → RunsR nn gs t ov seen first s (some (rndS nn gs t ov (decide (t = 0) && first) s))
  | go {seen first s r} : ¬ (rndAny nn gs ov s = true ∧ memB seen (netsOf nn gs s.gv ov) = true) → (seenR (rndAny nn gs ov s) seen (netsOf nn gs s.gv ov)).length ≤ 101 → (rndAny nn gs ov s = true ∨ rndMov nn gs t ov (decide (t = 0) && first) s = true) → RunsR nn gs t ov (seenR (rndAny nn gs ov s) seen (netsOf nn gs s.gv ov)) false (rndS nn gs t ov (decide (t = 0) && first) s) r → RunsR nn gs t ov seen first s r

/-! ### Lists by places. -/
theorem getD_range {α : Type} (f : Nat → α) (nn n : Nat) (d : α) : ((List.range nn).map f).getD n d = if n < nn then f n else d := by
  by_cases h : n < nn
  · rw [if_pos h, List.getD_eq_getElem?_getD, List.getElem?_map, List.getElem?_range h]; rfl
  · rw [if_neg h, List.getD_eq_getElem?_getD, List.getElem?_eq_none (by simp; omega)]; rfl
theorem netsOf_len (nn : Nat) (gs : List GateL) (gv ov : List Int) : (netsOf nn gs gv ov).length = nn := by simp [netsOf]
theorem netsOf_at {nn : Nat} (gs : List GateL) (gv ov : List Int) {n : Nat} (h : n < nn) : (netsOf nn gs gv ov).getD n 0 = netAt gs gv ov n := by
  unfold netsOf; rw [getD_range, if_pos h]
theorem changedOf_at {nn : Nat} (new old : List Int) {n : Nat} (h : n < nn) : (changedOf nn new old).getD n false = (new.getD n 0 != old.getD n 0) := by
  unfold changedOf; rw [getD_range, if_pos h]
theorem list_ext {l m : List Int} {n : Nat} (hl : l.length = n) (hm : m.length = n) (h : ∀ i, i < n → l.getD i 0 = m.getD i 0) : l = m := by
  apply List.ext_getElem (by omega)
  intro i h1 h2
  have := h i (by omega)
  rwa [List.getD_eq_getElem?_getD, List.getElem?_eq_getElem h1, List.getD_eq_getElem?_getD, List.getElem?_eq_getElem h2] at this
theorem any_false {nn : Nat} {gs : List GateL} {ov : List Int} {s : RS} (hl : s.nets.length = nn) (h : rndAny nn gs ov s = false) : netsOf nn gs s.gv ov = s.nets := by
  refine list_ext (netsOf_len ..) hl fun i hi => ?_
  unfold rndAny changedOf at h
  rw [List.any_eq_false] at h
  have := h _ (List.mem_map.2 ⟨i, List.mem_range.2 hi, rfl⟩)
  simpa using this
theorem any_true {nn : Nat} {gs : List GateL} {ov : List Int} {s : RS} (h : rndAny nn gs ov s = true) : ∃ n, n < nn ∧ (netsOf nn gs s.gv ov).getD n 0 ≠ s.nets.getD n 0 := by
  unfold rndAny changedOf at h
  rw [List.any_eq_true] at h
  obtain ⟨b, hb, hb2⟩ := h
  rw [List.mem_map] at hb
  obtain ⟨i, hi, rfl⟩ := hb
  exact ⟨i, List.mem_range.1 hi, by simpa using hb2⟩
theorem any_of_ne {nn : Nat} {gs : List GateL} {ov : List Int} {s : RS} (hl : s.nets.length = nn) (h : netsOf nn gs s.gv ov ≠ s.nets) : rndAny nn gs ov s = true := by
  cases ha : rndAny nn gs ov s
  · exact absurd (any_false hl ha) h
  · rfl

/-! ### What asking does. -/
section
variable {gs : List GateL} {t : Int} {all : Bool} {ch : List Bool} {nets : List Int} {s : AskS}
theorem askTo_len : ∀ k, (askTo gs t all ch nets s k).gv.length = s.gv.length
  | 0 => rfl
  | k + 1 => by
    unfold askTo askOne
    split
    · split
      · exact askTo_len k
      · rw [List.length_set]; exact askTo_len k
    · exact askTo_len k
theorem askTo_at (i : Nat) : ∀ k, k ≤ s.gv.length → (askTo gs t all ch nets s k).gv.getD i 0 = if i < k ∧ askedB all ch (gs.getD i zGate) = true ∧ ¬ 0 < (gs.getD i zGate).delay then ansF (gs.getD i zGate) nets else s.gv.getD i 0
  | 0, _ => by rw [if_neg (by omega)]; rfl
  | k + 1, hk => by
    have ih := askTo_at i k (by omega)
    have hlen := askTo_len (gs := gs) (t := t) (all := all) (ch := ch) (nets := nets) (s := s) k
    unfold askTo askOne
    by_cases e : i = k
    · subst e
      rw [if_neg (by omega)] at ih
      by_cases ha : askedB all ch (gs.getD i zGate) = true
      · rw [if_pos ha]
        by_cases hd : 0 < (gs.getD i zGate).delay
        · rw [if_pos hd, if_neg (by intro h; exact h.2.2 hd)]; exact ih
        · rw [if_neg hd, if_pos ⟨by omega, ha, hd⟩]
          show (List.set _ i _).getD i 0 = _
          rw [getD_set_eq (by omega)]
      · rw [if_neg ha, if_neg (by intro h; exact ha h.2.1)]; exact ih
    · have : (i < k + 1 ∧ askedB all ch (gs.getD i zGate) = true ∧ ¬ 0 < (gs.getD i zGate).delay) ↔ (i < k ∧ askedB all ch (gs.getD i zGate) = true ∧ ¬ 0 < (gs.getD i zGate).delay) := by
        constructor
        · rintro ⟨h1, h2, h3⟩; exact ⟨by omega, h2, h3⟩
        · rintro ⟨h1, h2, h3⟩; exact ⟨by omega, h2, h3⟩
      simp only [this]
      rw [← ih]
      split
      · split
        · rfl
        · show (List.set _ k _).getD i 0 = _
          rw [getD_set_ne (by omega)]
      · rfl
theorem askTo_none (h : ∀ i, i < gs.length → askedB all ch (gs.getD i zGate) = false) : ∀ k, k ≤ gs.length → askTo gs t all ch nets s k = s
  | 0, _ => rfl
  | k + 1, hk => by
    unfold askTo askOne
    rw [if_neg (by rw [h k (by omega)]; simp)]
    exact askTo_none h k (by omega)
end
theorem mem_getD {l : List Int} {j : Nat} (hj : j < l.length) : l.getD j 0 ∈ l := by
  rw [List.getD_eq_getElem?_getD, List.getElem?_eq_getElem hj]; exact List.getElem_mem _
theorem mov_none {nn : Nat} {gs : List GateL} {t : Int} {ov : List Int} {s : RS} (hg : gs.all (gateOk nn) = true) (h : rndAny nn gs ov s = false) : rndMov nn gs t ov false s = false := by
  unfold rndMov askF
  rw [askTo_none (fun i hi => ?_) _ (Nat.le_refl _)]
  have hok := List.all_eq_true.1 hg (gs.getD i zGate) (by rw [List.getD_eq_getElem?_getD, List.getElem?_eq_getElem hi]; exact List.getElem_mem _)
  unfold askedB
  generalize gs.getD i zGate = g at hok ⊢
  by_cases hk : g.kind = 0
  · simp [hk]
  · rw [Bool.false_or, Bool.and_eq_false_iff]
    right
    rw [List.any_eq_false]
    intro n hn
    obtain ⟨j, hj, rfl⟩ := List.getElem_of_mem hn
    have hin := gateOk_ins hok hk hj
    rw [List.getD_eq_getElem?_getD, List.getElem?_eq_getElem hj] at hin
    simp only [Option.getD_some] at hin
    unfold rndAny at h
    rw [List.any_eq_false] at h
    have hm : (changedOf nn (netsOf nn gs s.gv ov) s.nets).getD g.ins[j].toNat false ∈ changedOf nn (netsOf nn gs s.gv ov) s.nets := by
      rw [List.getD_eq_getElem?_getD, List.getElem?_eq_getElem (by unfold changedOf; simp; omega)]
      exact List.getElem_mem _
    have := h _ hm
    simpa using this
/-- What a gate gives does not turn where none of its inputs changed. -/
theorem ansF_same {nn : Nat} {g : GateL} {a b : List Int} (hok : gateOk nn g = true) (h : g.kind ≠ 0 → ∀ j, j < g.ins.length → a.getD (g.ins.getD j 0).toNat 0 = b.getD (g.ins.getD j 0).toNat 0) : ansF g a = ansF g b := by
  unfold ansF
  by_cases hk : g.kind = 0
  · rw [if_pos hk, if_pos hk]
  · rw [if_neg hk, if_neg hk]
    congr 1
    unfold askedL
    apply List.map_congr_left
    intro n hn
    obtain ⟨j, hj, rfl⟩ := List.getElem_of_mem hn
    have := h hk j hj
    rwa [List.getD_eq_getElem?_getD (l := g.ins), List.getElem?_eq_getElem hj, Option.getD_some] at this
/-- What the gates without delay drive is what they give. -/
def Fresh (gs : List GateL) (s : RS) : Prop := ∀ i, i < gs.length → (gs.getD i zGate).delay = 0 → s.gv.getD i 0 = ansF (gs.getD i zGate) s.nets
theorem gate_ok {nn : Int} {gs : List GateL} (hg : gs.all (gateOk nn) = true) {i : Nat} (hi : i < gs.length) : gateOk nn (gs.getD i zGate) = true :=
  List.all_eq_true.1 hg _ (by rw [List.getD_eq_getElem?_getD, List.getElem?_eq_getElem hi]; exact List.getElem_mem _)
theorem gate_delay {nn : Int} {g : GateL} (h : gateOk nn g = true) : 0 ≤ g.delay := by
  unfold gateOk at h
  simp only [Bool.and_eq_true, decide_eq_true_eq] at h
  exact h.1.1.2
theorem rnd_delayed {nn : Nat} {gs : List GateL} {t : Int} {ov : List Int} {all : Bool} {s : RS} (hl : s.gv.length = gs.length) {i : Nat} (hd : (gs.getD i zGate).delay > 0) : (rndS nn gs t ov all s).gv.getD i 0 = s.gv.getD i 0 := by
  show (askF nn gs t ov all s).gv.getD i 0 = _
  unfold askF
  rw [askTo_at i _ (by show _ ≤ s.gv.length; omega), if_neg (by intro h; exact h.2.2 hd)]
theorem rnd_fresh {nn : Nat} {gs : List GateL} {t : Int} {ov : List Int} {all : Bool} {s : RS} (hg : gs.all (gateOk nn) = true) (hl : s.gv.length = gs.length) (h : all = true ∨ Fresh gs s) : Fresh gs (rndS nn gs t ov all s) := by
  intro i hi hd
  show (askF nn gs t ov all s).gv.getD i 0 = ansF _ (netsOf nn gs s.gv ov)
  unfold askF
  rw [askTo_at i _ (by show _ ≤ s.gv.length; omega)]
  by_cases ha : askedB all (changedOf nn (netsOf nn gs s.gv ov) s.nets) (gs.getD i zGate) = true
  · rw [if_pos ⟨hi, ha, by omega⟩]
  · rw [if_neg (by intro h; exact ha h.2.1)]
    rcases h with h | h
    · exact absurd (by unfold askedB; rw [h]; rfl) ha
    · show s.gv.getD i 0 = _
      rw [h i hi hd]
      have hok := gate_ok hg hi
      refine ansF_same hok fun hk j hj => ?_
      have hin := gateOk_ins hok hk hj
      unfold askedB at ha
      rw [Bool.or_eq_true, not_or] at ha
      have ha2 := ha.2
      rw [Bool.and_eq_true, not_and] at ha2
      have ha3 := ha2 (by simpa using hk)
      rw [Bool.not_eq_true, List.any_eq_false] at ha3
      have ha4 := ha3 ((gs.getD i zGate).ins.getD j 0) (mem_getD hj)
      rw [changedOf_at _ _ (by omega)] at ha4
      simp only [bne_iff_ne, ne_eq, Decidable.not_not] at ha4
      exact ha4.symm
theorem rnd_len {nn : Nat} {gs : List GateL} {t : Int} {ov : List Int} {all : Bool} {s : RS} : (rndS nn gs t ov all s).gv.length = s.gv.length := askTo_len _
end Go.Proofs.Ytobdhdehmkmjcaa
namespace Go.Proofs.Ytobdhdehmkmjcaa
set_option linter.unusedVariables false
set_option linter.unusedSimpArgs false
open Go.RowKit Go.Proofs.YtobdhdehmkmjcaaW.PrintWords Go.Proofs.YtobdhdehmkmjcaaW.PrintLast

section
variable {nn : Nat} {gs : List GateL} {t : Int} {ov : List Int}

theorem sameB_eq {a b : List Int} (h : sameB a b = true) : a = b := by unfold sameB at h; simpa using h
theorem memB_mem {L : List (List Int)} {y : List Int} : memB L y = true ↔ y ∈ L := by
  unfold memB
  rw [List.any_eq_true]
  constructor
  · rintro ⟨x, hx, h⟩; rw [← sameB_eq h]; exact hx
  · intro h; exact ⟨y, h, by simp [sameB]⟩

/-- Where a time is not the first one: the state of the rounds. -/
structure Late (nn : Nat) (gs : List GateL) (ov : List Int) (s0 : RS) (k : Nat) (seen : List (List Int)) (s : RS) : Prop where
  hk : k ≤ 100
  ln : s.nets.length = nn
  lg : s.gv.length = gs.length
  fresh : Fresh gs s
  old : ∀ i, i < gs.length → (gs.getD i zGate).delay > 0 → s.gv.getD i 0 = s0.gv.getD i 0
  len : seen.length = k
  zero : k = 0 → s.nets = s0.nets
  one : 0 < k → netsOf nn gs s0.gv ov ∈ seen ∧ netsOf nn gs s0.gv ov ≠ s0.nets
theorem late_same (hg : gs.all (gateOk nn) = true) (ht : t ≠ 0) {s0 : RS} (h0 : Fresh gs s0) (l0 : s0.nets.length = nn) (g0 : s0.gv.length = gs.length) :
    ∀ {k seen s r}, RunsP nn gs t ov k seen s r → ∀ first r', RunsR nn gs t ov (s0.nets :: seen) first s r' → Late nn gs ov s0 k seen s → r = r' := by
  have hd : ∀ b : Bool, (decide (t = 0) && b) = false := fun b => by rw [decide_eq_false ht]; rfl
  intro k seen s r hP
  induction hP with
  | @stop k seen s ha hm =>
    intro first r' hR hI
    cases hR with
    | bad1 h1 h2 => rw [ha] at h1; cases h1
    | bad2 h1 => rw [ha] at h1; have := hI.len; have := hI.hk; simp [seenR] at h1; omega
    | stop h1 h2 h3 => rw [hd, hd]
    | go h1 h2 h3 h4 => rw [ha, hd] at h3; rw [hd] at hm; rw [hm] at h3; simp at h3
  | @bad k seen s hor hb =>
    intro first r' hR hI
    have ha : rndAny nn gs ov s = true := by
      cases h : rndAny nn gs ov s
      · rw [hd, mov_none hg h, h] at hor; simp at hor
      · rfl
    cases hR with
    | bad1 h1 h2 => rfl
    | bad2 h1 => rfl
    | stop h1 h2 h3 => rw [ha] at h2; cases h2
    | go h1 h2 h3 h4 =>
      rcases hb with ⟨_, hb⟩ | hb
      · exact absurd ⟨ha, memB_mem.2 (List.mem_cons_of_mem _ (memB_mem.1 hb))⟩ h1
      · rw [ha] at h2; have := hI.len; simp [seenR] at h2; omega
  | @go k seen s r hor hn hk hP ih =>
    intro first r' hR hI
    have ha : rndAny nn gs ov s = true := by
      cases h : rndAny nn gs ov s
      · rw [hd, mov_none hg h, h] at hor; simp at hor
      · rfl
    have hnm : netsOf nn gs s.gv ov ∉ seen := fun h => hn ⟨ha, memB_mem.2 h⟩
    have hne : netsOf nn gs s.gv ov ≠ s.nets := by
      intro e
      obtain ⟨n, _, h⟩ := any_true ha
      exact h (by rw [e])
    rw [hd] at hP ih
    have hF : Fresh gs (rndS nn gs t ov false s) := rnd_fresh hg hI.lg (.inr hI.fresh)
    have hO : ∀ i, i < gs.length → (gs.getD i zGate).delay > 0 → (rndS nn gs t ov false s).gv.getD i 0 = s0.gv.getD i 0 := fun i hi h => (rnd_delayed hI.lg h).trans (hI.old i hi h)
    have hL : (rndS nn gs t ov false s).gv.length = gs.length := rnd_len.trans hI.lg
    have hgv : k = 0 → netsOf nn gs s.gv ov = netsOf nn gs s0.gv ov := fun e => by
      have e1 := hI.zero e
      have : s.gv = s0.gv := list_ext hI.lg g0 fun i hi => by
        by_cases hdl : (gs.getD i zGate).delay = 0
        · rw [hI.fresh i hi hdl, h0 i hi hdl, e1]
        · exact hI.old i hi (by have := gate_delay (gate_ok hg hi); omega)
      rw [this]
    have hone : netsOf nn gs s0.gv ov ∈ seen ++ [netsOf nn gs s.gv ov] ∧ netsOf nn gs s0.gv ov ≠ s0.nets := by
      rcases Nat.eq_zero_or_pos k with e | e
      · rw [← hgv e]
        exact ⟨by simp, by rw [← hI.zero e]; exact hne⟩
      · exact ⟨List.mem_append_left _ (hI.one e).1, (hI.one e).2⟩
    have hI' : Late nn gs ov s0 (k + 1) (seen ++ [netsOf nn gs s.gv ov]) (rndS nn gs t ov false s) :=
      ⟨hk, netsOf_len .., hL, hF, hO, by have := hI.len; simp; omega, fun e => by omega, fun _ => hone⟩
    cases hR with
    | bad1 h1 h2 =>
      have hm := memB_mem.1 h2
      rcases List.mem_cons.1 hm with e | e
      · -- back at the begin: the program sees it a round later
        have hgv2 : (rndS nn gs t ov false s).gv = s0.gv := list_ext hL g0 fun i hi => by
          by_cases hdl : (gs.getD i zGate).delay = 0
          · rw [hF i hi hdl, h0 i hi hdl]
            show ansF _ (netsOf nn gs s.gv ov) = _
            rw [e]
          · exact hO i hi (by have := gate_delay (gate_ok hg hi); omega)
        have hn2 : netsOf nn gs (rndS nn gs t ov false s).gv ov = netsOf nn gs s0.gv ov := by rw [hgv2]
        have ha2 : rndAny nn gs ov (rndS nn gs t ov false s) = true := any_of_ne (netsOf_len ..) (by
          rw [hn2]
          show _ ≠ netsOf nn gs s.gv ov
          rw [e]; exact hone.2)
        cases hP with
        | stop h3 h4 => rw [ha2] at h3; cases h3
        | bad h3 h4 => rfl
        | go h3 h4 h5 h6 => exact absurd ⟨ha2, memB_mem.2 (by rw [hn2]; exact hone.1)⟩ h4
      · exact absurd e hnm
    | bad2 h1 => rw [ha] at h1; have := hI.len; simp [seenR] at h1; omega
    | stop h1 h2 h3 => rw [ha] at h2; cases h2
    | go h1 h2 h3 h4 =>
      rw [ha] at h4
      rw [hd] at h4
      exact ih _ _ h4 hI'

/-! ### The first time: values only come up. -/
def LeV (a b : Int) : Prop := a = 0 ∨ a = b
def LeL (nn : Nat) (x y : List Int) : Prop := ∀ n, n < nn → LeV (x.getD n 0) (y.getD n 0)
theorem LeV.refl (a : Int) : LeV a a := .inr rfl
theorem LeV.trans {a b c : Int} (h : LeV a b) (k : LeV b c) : LeV a c := by unfold LeV at *; omega
theorem LeV.anti {a b : Int} (h : LeV a b) (k : LeV b a) : a = b := by unfold LeV at *; omega
theorem meetF_zero_left (b : Int) : meetF 0 b = 0 := by simp [meetF]
theorem meetF_zero_right (a : Int) : meetF a 0 = 0 := by simp [meetF]
theorem meetF_mono {a b c d : Int} (h : LeV a b) (k : LeV c d) : LeV (meetF a c) (meetF b d) := by
  rcases h with rfl | rfl
  · exact .inl (meetF_zero_left _)
  · rcases k with rfl | rfl
    · exact .inl (meetF_zero_right _)
    · exact .inr rfl
theorem accG_mono {gv gv' : List Int} (n : Int) : ∀ k, (∀ i, i < k → LeV (gv.getD i 0) (gv'.getD i 0)) → LeV (accG gs gv n k) (accG gs gv' n k)
  | 0, _ => .inr rfl
  | k + 1, h => by
    unfold accG
    split
    · exact meetF_mono (accG_mono n k fun i hi => h i (by omega)) (h k (by omega))
    · exact accG_mono n k fun i hi => h i (by omega)
theorem nets_mono {gv gv' : List Int} (h : ∀ i, i < gs.length → LeV (gv.getD i 0) (gv'.getD i 0)) : LeL nn (netsOf nn gs gv ov) (netsOf nn gs gv' ov) := fun n hn => by
  rw [netsOf_at _ _ _ hn, netsOf_at _ _ _ hn]
  exact meetF_mono (accG_mono _ _ h) (LeV.refl _)
theorem to01_zero : to01 0 = 0 := by decide
theorem to01_mono {a b : Int} (k : LeV a b) : LeV (to01 a) (to01 b) := by
  rcases k with rfl | rfl
  · exact .inl to01_zero
  · exact .inr rfl
theorem to01_fin (v : Int) : ∃ x : Fin 4, to01 v = (x.val : Int) := by
  rcases to01_four v with h | h | h | h
  · exact ⟨0, h⟩
  · exact ⟨1, h⟩
  · exact ⟨2, h⟩
  · exact ⟨3, h⟩
instance (a b : Int) : Decidable (LeV a b) := inferInstanceAs (Decidable (_ ∨ _))
theorem two_mono (f : Int → Int → Int) (h : ∀ x y : Fin 4, LeV (f 0 y.val) (f x.val y.val) ∧ LeV (f x.val 0) (f x.val y.val)) {a b c d : Int} (h1 : LeV a b) (h2 : LeV c d) :
    LeV (f (to01 a) (to01 c)) (f (to01 b) (to01 d)) := by
  obtain ⟨x, hx⟩ := to01_fin b
  obtain ⟨y, hy⟩ := to01_fin d
  have hc := to01_mono h1
  have hd := to01_mono h2
  rw [hx] at hc ⊢
  rw [hy] at hd ⊢
  refine LeV.trans (b := f (x.val : Int) (to01 c)) ?_ ?_
  · rcases hc with e | e
    · rw [e]
      obtain ⟨z, hz⟩ := to01_fin c
      rw [hz]
      exact (h x z).1
    · rw [e]; exact LeV.refl _
  · rcases hd with e | e
    · rw [e]; exact (h x y).2
    · rw [e]; exact LeV.refl _
theorem one_mono (f : Int → Int) (h : ∀ x : Fin 4, LeV (f 0) (f x.val)) {a b : Int} (h1 : LeV a b) : LeV (f (to01 a)) (f (to01 b)) := by
  obtain ⟨x, hx⟩ := to01_fin b
  have hc := to01_mono h1
  rw [hx] at hc ⊢
  rcases hc with e | e
  · rw [e]; exact h x
  · rw [e]; exact LeV.refl _
theorem gateVal_mono {k : Int} {xs ys : List Int} (h : ∀ j, LeV (xs.getD j 0) (ys.getD j 0)) : LeV (gateVal k xs) (gateVal k ys) := by
  unfold gateVal
  split
  · exact one_mono notF (by decide +kernel) (h 0)
  split
  · exact h 0
  split
  · exact two_mono andF (by decide +kernel) (h 0) (h 1)
  split
  · exact two_mono orF (by decide +kernel) (h 0) (h 1)
  split
  · exact two_mono xorF (by decide +kernel) (h 0) (h 1)
  · exact two_mono triF (by decide +kernel) (h 0) (h 1)
theorem ansF_mono {g : GateL} {a b : List Int} (hok : gateOk nn g = true) (h : LeL nn a b) : LeV (ansF g a) (ansF g b) := by
  unfold ansF
  by_cases hk : g.kind = 0
  · rw [if_pos hk, if_pos hk]; exact LeV.refl _
  · rw [if_neg hk, if_neg hk]
    refine gateVal_mono fun j => ?_
    unfold askedL
    by_cases hj : j < g.ins.length
    · have hin := gateOk_ins hok hk hj
      have := h (g.ins.getD j 0).toNat (by omega)
      rw [List.getD_eq_getElem?_getD, List.getElem?_map, List.getElem?_eq_getElem hj, List.getD_eq_getElem?_getD, List.getElem?_map, List.getElem?_eq_getElem hj]
      rwa [List.getD_eq_getElem?_getD (l := g.ins), List.getElem?_eq_getElem hj, Option.getD_some] at this
    · rw [List.getD_eq_getElem?_getD, List.getElem?_eq_none (by simp; omega), List.getD_eq_getElem?_getD, List.getElem?_eq_none (by simp; omega)]
      exact LeV.refl _
/-- How many nets have a value that is not U. -/
def upN (l : List Int) : Nat := l.countP (fun x => x != 0)
theorem upN_le : ∀ {x y : List Int}, x.length = y.length → (∀ n, n < x.length → LeV (x.getD n 0) (y.getD n 0)) → upN x ≤ upN y ∧ (x ≠ y → upN x < upN y)
  | [], [], _, _ => ⟨Nat.le_refl _, fun h => absurd rfl h⟩
  | a :: x, b :: y, hl, h => by
    have h0 := h 0 (by simp)
    have hr := upN_le (x := x) (y := y) (by simpa using hl) (fun n hn => by have := h (n + 1) (by simpa using hn); simpa using this)
    simp only [List.getD_cons_zero] at h0
    unfold upN at *
    rw [List.countP_cons, List.countP_cons]
    have hc : (if (a != 0) = true then 1 else 0) ≤ (if (b != 0) = true then 1 else 0) ∧ (a ≠ b → (if (a != 0) = true then 1 else 0) < (if (b != 0) = true then 1 else 0)) := by
      rcases h0 with e | e
      · subst e
        by_cases hb : b = 0
        · subst hb; simp
        · simp [hb]
      · subst e; simp
    refine ⟨by omega, fun hne => ?_⟩
    by_cases e : a = b
    · subst e
      have := hr.2 (fun e2 => hne (by rw [e2]))
      omega
    · have := hc.2 e
      omega
theorem LeL.trans {x y z : List Int} (h : LeL nn x y) (k : LeL nn y z) : LeL nn x z := fun n hn => (h n hn).trans (k n hn)
theorem LeL.refl (x : List Int) : LeL nn x x := fun n hn => LeV.refl _
theorem LeL.anti {x y : List Int} (hx : x.length = nn) (hy : y.length = nn) (h : LeL nn x y) (k : LeL nn y x) : x = y := list_ext hx hy fun i hi => (h i hi).anti (k i hi)
/-- At the first time: the state of the rounds. -/
structure Early (nn : Nat) (gs : List GateL) (ov : List Int) (k : Nat) (seenP seenR : List (List Int)) (first : Bool) (s : RS) : Prop where
  ln : s.nets.length = nn
  lg : s.gv.length = gs.length
  fst : first = decide (k = 0)
  up : LeL nn s.nets (netsOf nn gs s.gv ov)
  zero : k = 0 → ∀ i, i < gs.length → s.gv.getD i 0 = 0
  fresh : 0 < k → Fresh gs s
  old : ∀ i, i < gs.length → (gs.getD i zGate).delay > 0 → s.gv.getD i 0 = 0
  seP : ∀ x ∈ seenP, x.length = nn ∧ LeL nn x s.nets
  seR : ∀ x ∈ seenR, x.length = nn ∧ LeL nn x s.nets
  cnt : seenR.length ≤ 1 + upN s.nets
  kle : k ≤ seenR.length
  pos : 1 ≤ seenR.length
theorem early_same (hg : gs.all (gateOk nn) = true) (hn : nn ≤ 40) :
    ∀ {k seen s r}, RunsP nn gs 0 ov k seen s r → ∀ seenR first r', RunsR nn gs 0 ov seenR first s r' → Early nn gs ov k seen seenR first s → r = r' := by
  have hd : ∀ b : Bool, (decide ((0 : Int) = 0) && b) = b := fun b => by simp
  intro k seen s r hP
  -- what a round does
  have hrnd : ∀ {k : Nat} {seen seenR : List (List Int)} {first : Bool} {s : RS}, Early nn gs ov k seen seenR first s →
      Fresh gs (rndS nn gs 0 ov (decide (k = 0)) s) ∧ LeL nn (netsOf nn gs s.gv ov) (netsOf nn gs (rndS nn gs 0 ov (decide (k = 0)) s).gv ov) ∧ upN (netsOf nn gs s.gv ov) ≤ 40 ∧ upN s.nets ≤ upN (netsOf nn gs s.gv ov) ∧
        (rndAny nn gs ov s = true → upN s.nets < upN (netsOf nn gs s.gv ov) ∧ netsOf nn gs s.gv ov ∉ seen ∧ netsOf nn gs s.gv ov ∉ seenR) ∧ (rndAny nn gs ov s = false → 0 < k → rndMov nn gs 0 ov (decide (k = 0)) s = false) := by
    intro k seen seenR first s hI
    have hF : Fresh gs (rndS nn gs 0 ov (decide (k = 0)) s) := rnd_fresh hg hI.lg (by
      rcases Nat.eq_zero_or_pos k with e | e
      · exact .inl (by simpa using e)
      · exact .inr (hI.fresh e))
    have hup := upN_le (x := s.nets) (y := netsOf nn gs s.gv ov) (by rw [hI.ln, netsOf_len]) (fun n hn => hI.up n (by rw [← hI.ln]; exact hn))
    have hne : rndAny nn gs ov s = true → s.nets ≠ netsOf nn gs s.gv ov := fun ha e => by
      obtain ⟨n, _, h⟩ := any_true ha
      exact h (by rw [← e])
    have hnot : rndAny nn gs ov s = true → ∀ L : List (List Int), (∀ x ∈ L, x.length = nn ∧ LeL nn x s.nets) → netsOf nn gs s.gv ov ∉ L := fun ha L hL hm =>
      hne ha (LeL.anti hI.ln (netsOf_len ..) hI.up (hL _ hm).2)
    refine ⟨hF, nets_mono fun i hi => ?_, ?_, hup.1, fun ha => ⟨hup.2 (hne ha), hnot ha _ hI.seP, hnot ha _ hI.seR⟩, fun ha hk => ?_⟩
    · by_cases hdl : (gs.getD i zGate).delay = 0
      · rcases Nat.eq_zero_or_pos k with e | e
        · exact .inl (hI.zero e i hi)
        · rw [hI.fresh e i hi hdl, hF i hi hdl]
          exact ansF_mono (gate_ok hg hi) hI.up
      · rw [rnd_delayed hI.lg (by have := gate_delay (gate_ok hg hi); omega)]
        exact LeV.refl _
    · have := List.countP_le_length (p := fun x : Int => x != 0) (l := netsOf nn gs s.gv ov)
      rw [netsOf_len] at this
      unfold upN
      omega
    · rw [decide_eq_false (show ¬ k = 0 by omega)]
      exact mov_none hg ha
  induction hP with
  | @stop k seen s ha hm =>
    intro seenR first r' hR hI
    obtain ⟨_, _, h40, hle, _, _⟩ := hrnd hI
    have hc := hI.cnt
    have hf := hI.fst
    subst hf
    cases hR with
    | bad1 h1 h2 => rw [ha] at h1; cases h1
    | bad2 h1 => rw [ha] at h1; simp [Ytobdhdehmkmjcaa.seenR] at h1; omega
    | stop h1 h2 h3 => rfl
    | go h1 h2 h3 h4 => rw [ha, hm] at h3; simp at h3
  | @bad k seen s hor hb =>
    intro seenR first r' hR hI
    obtain ⟨_, _, h40, hle, hany, _⟩ := hrnd hI
    have hc := hI.cnt
    have hk := hI.kle
    rcases hb with ⟨ha, hb⟩ | hb
    · exact absurd (memB_mem.1 hb) (hany ha).2.1
    · omega
  | @go k seen s r hor hnm hk hP ih =>
    intro seenR first r' hR hI
    obtain ⟨hF, hmono, h40, hle, hany, hmov⟩ := hrnd hI
    have hc := hI.cnt
    have hkl := hI.kle
    have hf := hI.fst
    subst hf
    rw [hd] at hor hP ih
    have hlen : (Ytobdhdehmkmjcaa.seenR (rndAny nn gs ov s) seenR (netsOf nn gs s.gv ov)).length ≤ 1 + upN (netsOf nn gs s.gv ov) := by
      unfold Ytobdhdehmkmjcaa.seenR
      cases ha : rndAny nn gs ov s
      · simp; omega
      · have := (hany ha).1
        simp; omega
    have hkle : k + 1 ≤ (Ytobdhdehmkmjcaa.seenR (rndAny nn gs ov s) seenR (netsOf nn gs s.gv ov)).length := by
      unfold Ytobdhdehmkmjcaa.seenR
      cases ha : rndAny nn gs ov s
      · have hk0 : k = 0 := by
          rcases Nat.eq_zero_or_pos k with e | e
          · exact e
          · rw [ha, hmov ha e] at hor; simp at hor
        have := hI.pos
        simp; omega
      · simp; omega
    cases hR with
    | bad1 h1 h2 => exact absurd (memB_mem.1 h2) (hany h1).2.2
    | bad2 h1 => omega
    | stop h1 h2 h3 => rw [hd] at h3; rw [h2, h3] at hor; simp at hor
    | go h1 h2 h3 h4 =>
      rw [hd] at h4
      refine ih _ _ _ h4 ⟨netsOf_len .., rnd_len.trans hI.lg, by simp, hmono, fun e => by omega, fun _ => hF, fun i hi hdl => (rnd_delayed hI.lg hdl).trans (hI.old i hi hdl), ?_, ?_, hlen, hkle, by omega⟩
      · intro x hx
        rcases List.mem_append.1 hx with h | h
        · exact ⟨(hI.seP x h).1, (hI.seP x h).2.trans hI.up⟩
        · obtain rfl : x = netsOf nn gs s.gv ov := by simpa using h
          exact ⟨netsOf_len .., LeL.refl _⟩
      · intro x hx
        unfold Ytobdhdehmkmjcaa.seenR at hx
        split at hx
        · rcases List.mem_append.1 hx with h | h
          · exact ⟨(hI.seR x h).1, (hI.seR x h).2.trans hI.up⟩
          · obtain rfl : x = netsOf nn gs s.gv ov := by simpa using h
            exact ⟨netsOf_len .., LeL.refl _⟩
        · exact ⟨(hI.seR x hx).1, (hI.seR x hx).2.trans hI.up⟩
end
end Go.Proofs.Ytobdhdehmkmjcaa
