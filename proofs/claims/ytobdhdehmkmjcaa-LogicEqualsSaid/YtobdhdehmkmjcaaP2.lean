/- What nets are driven at (reference). -/
import Derived.Test.YtobdhdehmkmjcaaP1
import Derived.Test.YtobdhdehmkmjcaaX6
import Derived.StillTailTactics
namespace Go.Proofs.Ytobdhdehmkmjcaa
set_option linter.unusedVariables false
set_option linter.unusedSimpArgs false
open Go.RowKit Go.Proofs.YtobdhdehmkmjcaaW.PrintWords Go.Proofs.YtobdhdehmkmjcaaW.PrintLast

def accG (gs : List GateL) (gv : List Int) (n : Int) : Nat → Int
  | 0 => 4
  | k + 1 => if (gs.getD k zGate).out = n then meetF (accG gs gv n k) (gv.getD k 0) else accG gs gv n k
def accD (ds : List DriveL) (n a : Int) : Nat → Int
  | 0 => a
  | k + 1 => if (ds.getD k zDrive).net = n then meetF (accD ds n a k) (ds.getD k zDrive).v else accD ds n a k
theorem resF_snoc (l : List Int) (x : Int) : resF (l ++ [x]) = meetF (resF l) x := by simp [resF]
theorem resF_addAt {L : List (List Int)} {i x : Int} {n : Nat} (h0 : 0 ≤ i) (h1 : i.toNat < L.length) : resF ((addAt L i x).getD n []) = if i = n then meetF (resF (L.getD n [])) x else resF (L.getD n []) := by
  unfold addAt
  by_cases e : i = n
  · rw [if_pos e]
    have e2 : i.toNat = n := by omega
    rw [e2, getD_set_eq (by omega), resF_snoc]
  · rw [if_neg e, getD_set_ne (by omega)]
theorem accG_eq {nn : Nat} {gs : List GateL} {now : List Int} (hg : gs.all (gateOk nn) = true) (n : Nat) : ∀ k, k ≤ gs.length → accG gs (gs.map fun g => ansF g now) n k = resF ((gatesTo (gs.take k) now (List.replicate nn [])).getD n [])
  | 0, _ => by
    have : (gatesTo (gs.take 0) now (List.replicate nn [])).getD n [] = [] := by
      simp only [List.take_zero, gatesTo, List.foldl_nil]
      rw [List.getD_eq_getElem?_getD, List.getElem?_replicate]
      split <;> rfl
    rw [this]; rfl
  | k + 1, hk => by
    have ho := gateOk_out (List.all_eq_true.1 hg (gs.getD k zGate) (by rw [List.getD_eq_getElem?_getD, List.getElem?_eq_getElem (show k < gs.length by omega)]; exact List.getElem_mem _))
    rw [gatesTo_succ (by omega), resF_addAt ho.1 (by rw [gatesTo_length, List.length_replicate]; omega)]
    have hv : (gs.map fun g => ansF g now).getD k 0 = ansF (gs.getD k zGate) now := by
      simp [List.getD_eq_getElem?_getD, List.getElem?_eq_getElem (show k < gs.length by omega)]
    show (if (gs.getD k zGate).out = n then meetF (accG gs _ n k) _ else accG gs _ n k) = _
    rw [hv, accG_eq hg n k (by omega)]
theorem accD_eq {nn : Nat} {ds : List DriveL} (hd : ds.all (driveOk nn) = true) {L : List (List Int)} (hL : L.length = nn) (n : Nat) : ∀ k, k ≤ ds.length → accD ds n (resF (L.getD n [])) k = resF ((drivesTo (ds.take k) L).getD n [])
  | 0, _ => rfl
  | k + 1, hk => by
    have ho := driveOk_net (List.all_eq_true.1 hd (ds.getD k zDrive) (by rw [List.getD_eq_getElem?_getD, List.getElem?_eq_getElem (show k < ds.length by omega)]; exact List.getElem_mem _))
    rw [drivesTo_succ (by omega), resF_addAt ho.1 (by rw [drivesTo_length, hL]; omega)]
    show (if (ds.getD k zDrive).net = n then meetF (accD ds n _ k) _ else accD ds n _ k) = _
    rw [accD_eq hd hL n k (by omega)]
theorem acc_next {nn : Nat} {gs : List GateL} {ds : List DriveL} {now : List Int} (hg : gs.all (gateOk nn) = true) (hd : ds.all (driveOk nn) = true) (n : Nat) (hn : n < nn) :
    (nextF nn gs ds now).getD n 0 = accD ds n (accG gs (gs.map fun g => ansF g now) n gs.length) ds.length := by
  rw [accG_eq hg n _ (Nat.le_refl _), List.take_length, accD_eq hd (by rw [gatesTo_length, List.length_replicate]) n _ (Nat.le_refl _), List.take_length]
  have hl2 := driversF_length nn gs ds now
  unfold nextF
  rw [List.getD_eq_getElem?_getD, List.getElem?_map]
  rw [show (driversF nn gs ds now)[n]? = some ((driversF nn gs ds now).getD n []) by simp [List.getD_eq_getElem?_getD, List.getElem?_eq_getElem (show n < (driversF nn gs ds now).length by omega)]]
  rfl
theorem accG_val {gs : List GateL} {gv : List Int} (n : Int) (hv : gv.all isVal = true) : ∀ k, k ≤ gv.length → isVal (accG gs gv n k) = true
  | 0, _ => rfl
  | k + 1, hk => by
    unfold accG
    split
    · exact meetF_val (accG_val n hv k (by omega)) (all_getD hv (by omega))
    · exact accG_val n hv k (by omega)
theorem accD_val {nn : Int} {ds : List DriveL} {n a : Int} (ha : isVal a = true) (hd : ds.all (driveOk nn) = true) : ∀ k, k ≤ ds.length → isVal (accD ds n a k) = true
  | 0, _ => ha
  | k + 1, hk => by
    unfold accD
    split
    · refine meetF_val (accD_val ha hd k (by omega)) ?_
      have h := drive_at hd (k := k) (by omega)
      unfold driveOk at h
      simp only [Bool.and_eq_true] at h
      exact h.2
    · exact accD_val ha hd k (by omega)
theorem accG_hit {gs : List GateL} {gv : List Int} {n : Int} {k : Nat} (h : (gs.getD k zGate).out = n) : accG gs gv n (k + 1) = meetF (accG gs gv n k) (gv.getD k 0) := if_pos h
theorem accG_miss {gs : List GateL} {gv : List Int} {n : Int} {k : Nat} (h : (gs.getD k zGate).out ≠ n) : accG gs gv n (k + 1) = accG gs gv n k := if_neg h
theorem accD_hit {ds : List DriveL} {n a : Int} {k : Nat} (h : (ds.getD k zDrive).net = n) : accD ds n a (k + 1) = meetF (accD ds n a k) (ds.getD k zDrive).v := if_pos h
theorem accD_miss {ds : List DriveL} {n a : Int} {k : Nat} (h : (ds.getD k zDrive).net ≠ n) : accD ds n a (k + 1) = accD ds n a k := if_neg h

set_option maxHeartbeats 4000000 in
set_option maxRecDepth 100000 in
theorem rdriven_any (nn : Nat) (GA : Option Addr) (gn gc : Nat) (gs : List GateL) (VA : Option Addr) (vc : Nat) (gv : List Int) (DA : Option Addr) (dn dc : Nat) (ds : List DriveL) (X : List Int) (w : World)
    (hg : RdGates w GA gn gs) (hgv : ReadsInt w .i64 VA gn gv) (hd : RdDrives w DA dn ds) (hvv : gv.all isVal = true) (hdo : ds.all (driveOk nn) = true) (h40 : nn ≤ 40)
    (hX : X.length = nn) (hXa : ∀ n, n < nn → X.getD n 0 = accD ds n (accG gs gv n gn) dn) :
    Calls Try.prog 56 #[.agg #[.int .i64 nn, .slice GA gn gc], .slice VA gn vc, .slice DA dn dc] w fun e w' => ∃ v', e = .returned v' ∧ w'.ownsRow (w.heap.size + 1) 3 1 v' nn (nums .i64 X) ∧ Below w.heap.size w w' := by
  have hgm := hgv.2.1
  have hdm := hd.2.1
  have hB : Below w.heap.size w (w.alloc (.cells #[.int .i64 nn, .slice GA gn gc] 39)) := (Below.refl _ _).alloc (Nat.le_refl _) _
  have hbk : (w.alloc (.cells #[.int .i64 nn, .slice GA gn gc] 39)).heap[w.heap.size]? = some (.cells #[.int .i64 nn, .slice GA gn gc] 39 (0, 0)) := blk_new _ _
  have hsz : (w.alloc (.cells #[.int .i64 nn, .slice GA gn gc] 39)).heap.size = w.heap.size + 1 := Array.size_push _
  have hmk := make22 nn (by omega) (w.alloc (.cells #[.int .i64 nn, .slice GA gn gc] 39))
  rw [hsz] at hmk
  have hnb := own_made (w.alloc (.cells #[.int .i64 nn, .slice GA gn gc] 39)) (w.heap.size + 1) 3 .i64 nn (by rw [hsz]; exact Nat.le_refl _) (by omega)
  rw [hsz] at hnb
  have hnb2 : ((w.alloc (.cells #[.int .i64 nn, .slice GA gn gc] 39)).alloc (.cells (madeCells #[.int .i64 0] nn) 3)).ownsRow (w.heap.size + 1) 3 1 (.slice (some ⟨w.heap.size + 1, 0, none⟩) nn nn) nn (nums .i64 (fillL X 0)) := by
    rw [fillL_zero, hX]; exact hnb
  clear hnb
  have hB2 : Below w.heap.size w ((w.alloc (.cells #[.int .i64 nn, .slice GA gn gc] 39)).alloc (.cells (madeCells #[.int .i64 0] nn) 3)) := hB.alloc (by rw [hsz]; exact Nat.le_succ _) _
  have hbk2 := blk_alloc hbk (.cells (madeCells #[.int .i64 0] nn) 3)
  have HB := Lib.hid hB2; clear hB hB2
  have HBK := Lib.hid hbk2; clear hbk2
  have HNB := Lib.hid hnb2; clear hnb2
  have c0 : (w.alloc (.cells #[.int .i64 nn, .slice GA gn gc] 39)).cell? ⟨w.heap.size, 0, none⟩ = some (.int .i64 nn) := (blk_cell hbk 0).trans rfl
  have HSZ := Lib.hid hsz
  clear hbk hsz
  have HG := Lib.hid hg; clear hg
  have HV := Lib.hid hgv; clear hgv
  have HD := Lib.hid hd; clear hd
  have HVV := Lib.hid hvv; clear hvv
  have HDO := Lib.hid hdo; clear hdo
  have HX := Lib.hid hX; clear hX
  have HXA := Lib.hid hXa; clear hXa
  go_enter Try.func56, Try.ntmps56
  go_wp2_with fail
  go_loopw [8] (fun i wr => ∃ j : Nat, j ≤ nn ∧ i = .int .i64 j ∧ Hid (Below w.heap.size w wr) ∧ Hid (wr.heap[w.heap.size]? = some (.cells #[.int .i64 nn, .slice GA gn gc] 39 (0, 0))) ∧ Hid (wr.ownsRow (w.heap.size + 1) 3 1 (.slice (some ⟨w.heap.size + 1, 0, none⟩) nn nn) nn (nums .i64 (fillL X j)))) (fun i _ => nn - (intOf i).toNat)
  case atStart => exact ⟨0, by omega, rfl, HB, HBK, HNB⟩
  case round =>
    obtain ⟨j, hj, rfl, hB, hbk, hO⟩ := hrel
    clear HB HBK HNB c0 hmk
    obtain ⟨wx, rfl⟩ : ∃ wx : World, wx = wr := ⟨_, rfl⟩
    have c0 : wx.cell? ⟨w.heap.size, 0, none⟩ = some (.int .i64 nn) := (blk_cell hbk.out 0).trans rfl
    by_cases hlt : j < nn
    · obtain ⟨ns1, ns2⟩ := own_store hO.out (j : Int) 4
      obtain ⟨nq1, nq2⟩ := own_at hO.out (j : Int) (by omega) (by omega)
      have hqn : ((j : Nat) : Int).toNat = j := rfl
      rw [hqn] at ns1 nq1 nq2
      have hlen := fillL_length X j (by rw [HX.out]; omega)
      have hfs := fillL_set X j (by rw [HX.out]; omega)
      have HXJ := Lib.hid (HXA.out j hlt)
      have HFS := Lib.hid hfs; clear hfs
      have HLEN := Lib.hid (hlen.trans HX.out); clear hlen
      have HNS := Lib.hid ns1; clear ns1 ns2
      generalize hF : fillL X j = F at *
      generalize rd F (j : Int) = old at *
      have hBs : Hid (Below w.heap.size w (wx.setCell ⟨w.heap.size + 1, j, none⟩ (.int .i64 4))) := Lib.hid (hB.out.setCell (Nat.le_succ _) _)
      have hbs : Hid ((wx.setCell ⟨w.heap.size + 1, j, none⟩ (.int .i64 4)).heap[w.heap.size]? = some (.cells #[.int .i64 nn, .slice GA gn gc] 39 (0, 0))) := Lib.hid (blk_far hbk.out (show w.heap.size ≠ w.heap.size + 1 by omega) _)
      clear hF
      have hinit : Hid ((wx.setCell ⟨w.heap.size + 1, j, none⟩ (.int .i64 4)).ownsRow (w.heap.size + 1) 3 1 (.slice (some ⟨w.heap.size + 1, 0, none⟩) nn nn) nn (nums .i64 (F.set j (accG gs gv j 0)))) := HNS
      have hlj : j < F.length := by rw [HLEN.out]; exact hlt
      have HLJ := Lib.hid hlj; clear hlj
      go_wp2_with fail
      go_loopw [9] (fun i wy => ∃ m : Nat, m ≤ gn ∧ i = .int .i64 m ∧ Hid (Below w.heap.size w wy) ∧ Hid (wy.heap[w.heap.size]? = some (.cells #[.int .i64 nn, .slice GA gn gc] 39 (0, 0))) ∧ Hid (wy.ownsRow (w.heap.size + 1) 3 1 (.slice (some ⟨w.heap.size + 1, 0, none⟩) nn nn) nn (nums .i64 (F.set j (accG gs gv j m))))) (fun i _ => gn - (intOf i).toNat)
      case atStart => exact ⟨0, by omega, rfl, hBs, hbs, hinit⟩
      case round =>
        obtain ⟨m, hm, rfl, hBm, hbm, hOm⟩ := hrel
        clear hBs hbs hinit HNS nq1 nq2 c0
        obtain ⟨wy, rfl⟩ : ∃ wy : World, wy = wr := ⟨_, rfl⟩
        have c1 : wy.cell? ⟨w.heap.size, 1, none⟩ = some (.slice GA gn gc) := (blk_cell hbm.out 1).trans rfl
        by_cases hlm : m < gn
        · obtain ⟨ad, rfl, hg⟩ := (HG.out.below hBm.out).at_ m hlm
          obtain ⟨g1, ⟨AI, ci, g2, g3, g4⟩, g5, g6⟩ := hg
          clear g1 g2 g3 g4 g6
          by_cases ho : (gs.getD m zGate).out = (j : Int)
          · have HACC := Lib.hid (accG_hit (gv := gv) ho)
            rw [ho] at g5
            clear ho
            have hva := accG_val (gs := gs) (j : Int) HVV.out m (by have := HV.out.1; omega)
            have hvb := all_getD HVV.out (k := m) (by have := HV.out.1; omega)
            obtain ⟨bd, rfl, hv⟩ := rdN (HV.out.below hBm.out) m hlm
            obtain ⟨nq1, nq2⟩ := own_at hOm.out (j : Int) (by omega) (by omega)
            have hqn : ((j : Nat) : Int).toNat = j := rfl
            have hrd : rd (F.set j (accG gs gv j m)) (j : Int) = accG gs gv j m := getD_set_eq HLJ.out
            rw [hrd, hqn] at nq1
            rw [hqn] at nq2
            clear hrd hqn
            have HMEET := Lib.hid (bothF_meet hva hvb)
            clear hva hvb
            generalize hacc' : accG gs gv (j : Int) (m + 1) = acc' at *
            have HA' := Lib.hid hacc'; clear hacc'
            generalize hacc : accG gs gv (j : Int) m = acc at *
            clear hacc
            generalize gv.getD m 0 = y at *
            go_wp2
            have s0 : wy.drew.cell? ⟨w.heap.size + 1, j, none⟩ = some (.int .i64 acc) := nq1
            have s1 : wy.drew.cell? (bd.add m) = some (.int .i64 y) := hv
            have hfz : wy.drew.frozen? ⟨w.heap.size + 1, j, none⟩ = false := nq2
            obtain ⟨ns1, _⟩ := own_store hOm.out (j : Int) acc'
            rw [show ((j : Nat) : Int).toNat = j from rfl, List.set_set] at ns1
            have HNS := Lib.hid ns1; clear ns1
            refine wp_region_tail 12 (fun w' => w'.cell? ⟨w.heap.size + 1, j, none⟩ = some (.int .i64 acc) ∧ w'.cell? (bd.add m) = some (.int .i64 y)) (by kernel_rfl) ?_
            change wpAnyF _ _ _ _ _ _ _ _ _ wy.drew
            refine wpAnyF_take (i := 0) (v := .slice (some ⟨w.heap.size + 1, 0, none⟩) nn nn) rfl (by kernel_rfl) (by kernel_rfl) (by kernel_rfl) (by kernel_rfl) (fun _ _ _ h => h) (Or.inl ⟨by rfl, ?_⟩) ⟨s0, s1⟩ ?_
            · rintro W ⟨y0, y1⟩
              go_simp
            try simp only [Act.put, List.setIfInBounds_toArray, List.set_cons_zero, List.set_cons_succ]
            refine wpAnyF_take (i := 1) (v := .int .i64 j) rfl (by kernel_rfl) (by kernel_rfl) (by kernel_rfl) (by kernel_rfl) (fun _ _ _ h => h) (Or.inl ⟨by rfl, ?_⟩) ⟨s0, s1⟩ ?_
            · rintro W ⟨y0, y1⟩
              go_simp
            try simp only [Act.put, List.setIfInBounds_toArray, List.set_cons_zero, List.set_cons_succ]
            refine wpAnyF_take (i := 2) (v := .slice (some ⟨w.heap.size + 1, 0, none⟩) nn nn) rfl (by kernel_rfl) (by kernel_rfl) (by kernel_rfl) (by kernel_rfl) (fun _ _ _ h => h) (Or.inl ⟨by rfl, ?_⟩) ⟨s0, s1⟩ ?_
            · rintro W ⟨y0, y1⟩
              go_simp
            try simp only [Act.put, List.setIfInBounds_toArray, List.set_cons_zero, List.set_cons_succ]
            refine wpAnyF_take (i := 3) (v := .int .i64 j) rfl (by kernel_rfl) (by kernel_rfl) (by kernel_rfl) (by kernel_rfl) (fun _ _ _ h => h) (Or.inl ⟨by rfl, ?_⟩) ⟨s0, s1⟩ ?_
            · rintro W ⟨y0, y1⟩
              go_simp
            try simp only [Act.put, List.setIfInBounds_toArray, List.set_cons_zero, List.set_cons_succ]
            refine wpAnyF_take (i := 4) (v := .pointer (some ⟨w.heap.size + 1, j, none⟩)) rfl (by kernel_rfl) (by kernel_rfl) (by kernel_rfl) (by kernel_rfl) (fun _ _ _ h => h) (Or.inl ⟨by rfl, ?_⟩) ⟨s0, s1⟩ ?_
            · rintro W ⟨y0, y1⟩
              go_simp
            try simp only [Act.put, List.setIfInBounds_toArray, List.set_cons_zero, List.set_cons_succ]
            refine wpAnyF_take (i := 5) (v := .int .i64 acc) rfl (by kernel_rfl) (by kernel_rfl) (by kernel_rfl) (by kernel_rfl) (fun _ _ _ h => h) (Or.inl ⟨by rfl, ?_⟩) ⟨s0, s1⟩ ?_
            · rintro W ⟨y0, y1⟩
              go_simp
            try simp only [Act.put, List.setIfInBounds_toArray, List.set_cons_zero, List.set_cons_succ]
            refine wpAnyF_take (i := 6) (v := .slice (some bd) gn vc) rfl (by kernel_rfl) (by kernel_rfl) (by kernel_rfl) (by kernel_rfl) (fun _ _ _ h => h) (Or.inl ⟨by rfl, ?_⟩) ⟨s0, s1⟩ ?_
            · rintro W ⟨y0, y1⟩
              go_simp
            try simp only [Act.put, List.setIfInBounds_toArray, List.set_cons_zero, List.set_cons_succ]
            refine wpAnyF_take (i := 7) (v := .int .i64 m) rfl (by kernel_rfl) (by kernel_rfl) (by kernel_rfl) (by kernel_rfl) (fun _ _ _ h => h) (Or.inl ⟨by rfl, ?_⟩) ⟨s0, s1⟩ ?_
            · rintro W ⟨y0, y1⟩
              go_simp
            try simp only [Act.put, List.setIfInBounds_toArray, List.set_cons_zero, List.set_cons_succ]
            refine wpAnyF_take (i := 8) (v := .pointer (some (bd.add m))) rfl (by kernel_rfl) (by kernel_rfl) (by kernel_rfl) (by kernel_rfl) (fun _ _ _ h => h) (Or.inl ⟨by rfl, ?_⟩) ⟨s0, s1⟩ ?_
            · rintro W ⟨y0, y1⟩
              go_simp
            try simp only [Act.put, List.setIfInBounds_toArray, List.set_cons_zero, List.set_cons_succ]
            refine wpAnyF_take (i := 9) (v := .int .i64 y) rfl (by kernel_rfl) (by kernel_rfl) (by kernel_rfl) (by kernel_rfl) (fun _ _ _ h => h) (Or.inl ⟨by rfl, ?_⟩) ⟨s0, s1⟩ ?_
            · rintro W ⟨y0, y1⟩
              go_simp
            try simp only [Act.put, List.setIfInBounds_toArray, List.set_cons_zero, List.set_cons_succ]
            refine wpAnyF_one (i := 10) rfl (by kernel_rfl) (fun K hK => ?_)
            refine goes_ (f := 38) Try.func38 (by kernel_rfl) rfl #[.int .i64 acc, .int .i64 y] rfl rfl rfl (by simp [Act.eval]) ?_
            refine (both_any acc y wy.drew).mono ?_
            rintro e wc ⟨rfl, rfl⟩
            rw [HMEET.out, ← HACC.out]
            refine ⟨_, rfl, ?_⟩
            refine hK _ _ (fun _ => ⟨s0, s1⟩) ?_
            clear hK K
            try simp only [Act.put, List.setIfInBounds_toArray, List.set_cons_zero, List.set_cons_succ]
            refine wpAnyF_one (i := 11) rfl (by kernel_rfl) (fun K hK => ?_)
            go_simp
            refine hK _ _ (fun _ => ⟨s0, s1⟩) ?_
            clear hK K
            try simp only [Act.put, List.setIfInBounds_toArray, List.set_cons_zero, List.set_cons_succ]
            refine wpAnyF_one (i := 12) rfl (by kernel_rfl) (fun K hK => ?_)
            go_simp
            refine hK _ _ (fun h => absurd rfl h) ?_
            clear hK K
            try simp only [Act.put, List.setIfInBounds_toArray, List.set_cons_zero, List.set_cons_succ]
            refine wpAnyF_done (by kernel_rfl) ?_ _
            go_wp2_with fail
            go_roundw
            case rel => exact ⟨m + 1, by omega, by go_num, Lib.hid (pw_below_drewN (n := 1) (hBm.out.setCell (Nat.le_succ _) _)), Lib.hid (blk_drew (blk_far hbm.out (show w.heap.size ≠ w.heap.size + 1 by omega) _)), by rw [HA'.out]; exact Lib.hid HNS.out⟩
            case measure => simp [intOf]; omega
          · have HACC := Lib.hid (accG_miss (gv := gv) ho)
            have hof : ((gs.getD m zGate).out == (j : Int)) = false := by simpa using ho
            clear ho
            generalize (gs.getD m zGate).out = oo at *
            go_wp2_with fail
            go_roundw
            case rel => exact ⟨m + 1, by omega, by go_num, hBm, hbm, by rw [HACC.out]; exact hOm⟩
            case measure => simp [intOf]; omega
        · obtain rfl : m = gn := by omega
          have hva := accG_val (gs := gs) (j : Int) HVV.out m (by have := HV.out.1; omega)
          have HXJ' := HXJ
          generalize hag : accG gs gv (j : Int) m = ag at *
          have hstart : Hid (wy.ownsRow (w.heap.size + 1) 3 1 (.slice (some ⟨w.heap.size + 1, 0, none⟩) nn nn) nn (nums .i64 (F.set j (accD ds (j : Int) ag 0)))) := hOm
          clear hag hOm
          have HVA := Lib.hid hva; clear hva
          go_wp2_with fail
          go_loopw [10] (fun i wt => ∃ q : Nat, q ≤ dn ∧ i = .int .i64 q ∧ Hid (Below w.heap.size w wt) ∧ Hid (wt.heap[w.heap.size]? = some (.cells #[.int .i64 nn, .slice GA m gc] 39 (0, 0))) ∧ Hid (wt.ownsRow (w.heap.size + 1) 3 1 (.slice (some ⟨w.heap.size + 1, 0, none⟩) nn nn) nn (nums .i64 (F.set j (accD ds (j : Int) ag q))))) (fun i _ => dn - (intOf i).toNat)
          case atStart => exact ⟨0, by omega, rfl, hBm, hbm, hstart⟩
          case round =>
            obtain ⟨q, hq, rfl, hBq, hbq, hOq⟩ := hrel
            clear hBm hbm hstart c1
            obtain ⟨wt, rfl⟩ : ∃ wt : World, wt = wr := ⟨_, rfl⟩
            by_cases hlq : q < dn
            · obtain ⟨bd, rfl, g5, g6⟩ := (HD.out.below hBq.out).at_ q hlq
              by_cases ho : (ds.getD q zDrive).net = (j : Int)
              · have HACC := Lib.hid (accD_hit (a := ag) ho)
                rw [ho] at g5
                clear ho
                have hva := accD_val (n := (j : Int)) HVA.out HDO.out q (by have := HD.out.1; omega)
                have hvb : isVal (ds.getD q zDrive).v = true := by
                  have h := drive_at HDO.out (k := q) (by have := HD.out.1; omega)
                  unfold driveOk at h
                  simp only [Bool.and_eq_true] at h
                  exact h.2
                obtain ⟨nq1, nq2⟩ := own_at hOq.out (j : Int) (by omega) (by omega)
                have hrd : rd (F.set j (accD ds (j : Int) ag q)) (j : Int) = accD ds (j : Int) ag q := getD_set_eq HLJ.out
                rw [hrd, show ((j : Nat) : Int).toNat = j from rfl] at nq1
                rw [show ((j : Nat) : Int).toNat = j from rfl] at nq2
                clear hrd
                have HMEET := Lib.hid (bothF_meet hva hvb)
                clear hva hvb
                generalize hacc' : accD ds (j : Int) ag (q + 1) = acc' at *
                have HA' := Lib.hid hacc'; clear hacc'
                generalize hacc : accD ds (j : Int) ag q = acc at *
                clear hacc
                generalize (ds.getD q zDrive).v = y at *
                go_wp2_with fail
                have s0 : wt.drew.cell? ⟨w.heap.size + 1, j, none⟩ = some (.int .i64 acc) := nq1
                have s1 : wt.drew.cell? ⟨(bd.add (q * 2)).block, (bd.add (q * 2)).off + 1, none⟩ = some (.int .i64 y) := g6
                have hfz : wt.drew.frozen? ⟨w.heap.size + 1, j, none⟩ = false := nq2
                obtain ⟨ns1, _⟩ := own_store hOq.out (j : Int) acc'
                rw [show ((j : Nat) : Int).toNat = j from rfl, List.set_set] at ns1
                have HNS := Lib.hid ns1; clear ns1
                refine wp_region_tail 13 (fun w' => w'.cell? ⟨w.heap.size + 1, j, none⟩ = some (.int .i64 acc) ∧ w'.cell? ⟨(bd.add (q * 2)).block, (bd.add (q * 2)).off + 1, none⟩ = some (.int .i64 y)) (by kernel_rfl) ?_
                change wpAnyF _ _ _ _ _ _ _ _ _ wt.drew
                refine wpAnyF_take (i := 0) (v := .slice (some ⟨w.heap.size + 1, 0, none⟩) nn nn) rfl (by kernel_rfl) (by kernel_rfl) (by kernel_rfl) (by kernel_rfl) (fun _ _ _ h => h) (Or.inl ⟨by rfl, ?_⟩) ⟨s0, s1⟩ ?_
                · rintro W ⟨y0, y1⟩
                  go_simp
                try simp only [Act.put, List.setIfInBounds_toArray, List.set_cons_zero, List.set_cons_succ]
                refine wpAnyF_take (i := 1) (v := .int .i64 j) rfl (by kernel_rfl) (by kernel_rfl) (by kernel_rfl) (by kernel_rfl) (fun _ _ _ h => h) (Or.inl ⟨by rfl, ?_⟩) ⟨s0, s1⟩ ?_
                · rintro W ⟨y0, y1⟩
                  go_simp
                try simp only [Act.put, List.setIfInBounds_toArray, List.set_cons_zero, List.set_cons_succ]
                refine wpAnyF_take (i := 2) (v := .slice (some ⟨w.heap.size + 1, 0, none⟩) nn nn) rfl (by kernel_rfl) (by kernel_rfl) (by kernel_rfl) (by kernel_rfl) (fun _ _ _ h => h) (Or.inl ⟨by rfl, ?_⟩) ⟨s0, s1⟩ ?_
                · rintro W ⟨y0, y1⟩
                  go_simp
                try simp only [Act.put, List.setIfInBounds_toArray, List.set_cons_zero, List.set_cons_succ]
                refine wpAnyF_take (i := 3) (v := .int .i64 j) rfl (by kernel_rfl) (by kernel_rfl) (by kernel_rfl) (by kernel_rfl) (fun _ _ _ h => h) (Or.inl ⟨by rfl, ?_⟩) ⟨s0, s1⟩ ?_
                · rintro W ⟨y0, y1⟩
                  go_simp
                try simp only [Act.put, List.setIfInBounds_toArray, List.set_cons_zero, List.set_cons_succ]
                refine wpAnyF_take (i := 4) (v := .pointer (some ⟨w.heap.size + 1, j, none⟩)) rfl (by kernel_rfl) (by kernel_rfl) (by kernel_rfl) (by kernel_rfl) (fun _ _ _ h => h) (Or.inl ⟨by rfl, ?_⟩) ⟨s0, s1⟩ ?_
                · rintro W ⟨y0, y1⟩
                  go_simp
                try simp only [Act.put, List.setIfInBounds_toArray, List.set_cons_zero, List.set_cons_succ]
                refine wpAnyF_take (i := 5) (v := .int .i64 acc) rfl (by kernel_rfl) (by kernel_rfl) (by kernel_rfl) (by kernel_rfl) (fun _ _ _ h => h) (Or.inl ⟨by rfl, ?_⟩) ⟨s0, s1⟩ ?_
                · rintro W ⟨y0, y1⟩
                  go_simp
                try simp only [Act.put, List.setIfInBounds_toArray, List.set_cons_zero, List.set_cons_succ]
                refine wpAnyF_take (i := 6) (v := .slice (some bd) dn dc) rfl (by kernel_rfl) (by kernel_rfl) (by kernel_rfl) (by kernel_rfl) (fun _ _ _ h => h) (Or.inl ⟨by rfl, ?_⟩) ⟨s0, s1⟩ ?_
                · rintro W ⟨y0, y1⟩
                  go_simp
                try simp only [Act.put, List.setIfInBounds_toArray, List.set_cons_zero, List.set_cons_succ]
                refine wpAnyF_take (i := 7) (v := .int .i64 q) rfl (by kernel_rfl) (by kernel_rfl) (by kernel_rfl) (by kernel_rfl) (fun _ _ _ h => h) (Or.inl ⟨by rfl, ?_⟩) ⟨s0, s1⟩ ?_
                · rintro W ⟨y0, y1⟩
                  go_simp
                try simp only [Act.put, List.setIfInBounds_toArray, List.set_cons_zero, List.set_cons_succ]
                refine wpAnyF_take (i := 8) (v := .pointer (some (bd.add (q * 2)))) rfl (by kernel_rfl) (by kernel_rfl) (by kernel_rfl) (by kernel_rfl) (fun _ _ _ h => h) (Or.inl ⟨by rfl, ?_⟩) ⟨s0, s1⟩ ?_
                · rintro W ⟨y0, y1⟩
                  go_simp
                try simp only [Act.put, List.setIfInBounds_toArray, List.set_cons_zero, List.set_cons_succ]
                refine wpAnyF_take (i := 9) (v := .pointer (some ⟨(bd.add (q * 2)).block, (bd.add (q * 2)).off + 1, none⟩)) rfl (by kernel_rfl) (by kernel_rfl) (by kernel_rfl) (by kernel_rfl) (fun _ _ _ h => h) (Or.inl ⟨by rfl, ?_⟩) ⟨s0, s1⟩ ?_
                · rintro W ⟨y0, y1⟩
                  go_simp
                try simp only [Act.put, List.setIfInBounds_toArray, List.set_cons_zero, List.set_cons_succ]
                refine wpAnyF_take (i := 10) (v := .int .i64 y) rfl (by kernel_rfl) (by kernel_rfl) (by kernel_rfl) (by kernel_rfl) (fun _ _ _ h => h) (Or.inl ⟨by rfl, ?_⟩) ⟨s0, s1⟩ ?_
                · rintro W ⟨y0, y1⟩
                  go_simp
                try simp only [Act.put, List.setIfInBounds_toArray, List.set_cons_zero, List.set_cons_succ]
                refine wpAnyF_one (i := 11) rfl (by kernel_rfl) (fun K hK => ?_)
                refine goes_ (f := 38) Try.func38 (by kernel_rfl) rfl #[.int .i64 acc, .int .i64 y] rfl rfl rfl (by simp [Act.eval]) ?_
                refine (both_any acc y wt.drew).mono ?_
                rintro e wc ⟨rfl, rfl⟩
                rw [HMEET.out, ← HACC.out]
                refine ⟨_, rfl, ?_⟩
                refine hK _ _ (fun _ => ⟨s0, s1⟩) ?_
                clear hK K
                try simp only [Act.put, List.setIfInBounds_toArray, List.set_cons_zero, List.set_cons_succ]
                refine wpAnyF_one (i := 12) rfl (by kernel_rfl) (fun K hK => ?_)
                go_simp
                refine hK _ _ (fun _ => ⟨s0, s1⟩) ?_
                clear hK K
                try simp only [Act.put, List.setIfInBounds_toArray, List.set_cons_zero, List.set_cons_succ]
                refine wpAnyF_one (i := 13) rfl (by kernel_rfl) (fun K hK => ?_)
                go_simp
                refine hK _ _ (fun h => absurd rfl h) ?_
                clear hK K
                try simp only [Act.put, List.setIfInBounds_toArray, List.set_cons_zero, List.set_cons_succ]
                refine wpAnyF_done (by kernel_rfl) ?_ _
                go_wp2_with fail
                go_roundw
                case rel => exact ⟨q + 1, by omega, by go_num, Lib.hid (pw_below_drewN (n := 1) (hBq.out.setCell (Nat.le_succ _) _)), Lib.hid (blk_drew (blk_far hbq.out (show w.heap.size ≠ w.heap.size + 1 by omega) _)), by rw [HA'.out]; exact Lib.hid HNS.out⟩
                case measure => simp [intOf]; omega
              · have HACC := Lib.hid (accD_miss (a := ag) ho)
                have hof : ((ds.getD q zDrive).net == (j : Int)) = false := by simpa using ho
                clear ho
                generalize (ds.getD q zDrive).net = oo at *
                go_wp2_with fail
                go_roundw
                case rel => exact ⟨q + 1, by omega, by go_num, hBq, hbq, by rw [HACC.out]; exact hOq⟩
                case measure => simp [intOf]; omega
            · obtain rfl : q = dn := by omega
              have hOF : Hid (wt.ownsRow (w.heap.size + 1) 3 1 (.slice (some ⟨w.heap.size + 1, 0, none⟩) nn nn) nn (nums .i64 (fillL X (j + 1)))) := Lib.hid (by
                have h := hOq.out
                rwa [← HXJ.out, HFS.out] at h)
              go_wp2_with fail
              go_roundw
              case rel => exact ⟨j + 1, by omega, by go_num, hBq, hbq, hOF⟩
              case measure => simp [intOf]; omega
    · obtain rfl : j = nn := by omega
      have hfa := fillL_all X
      rw [HX.out] at hfa
      rw [hfa] at hO
      go_wp2_with fail
      go_ret
      exact ⟨_, rfl, hO.out, hB.out⟩
end Go.Proofs.Ytobdhdehmkmjcaa
