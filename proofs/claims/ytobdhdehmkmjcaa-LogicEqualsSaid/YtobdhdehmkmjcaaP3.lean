/- What is asked before a circuit settles, in the program and in the reference; Settle. -/
import Derived.Test.YtobdhdehmkmjcaaP2
import Derived.Test.YtobdhdehmkmjcaaT
namespace Go.Proofs.Ytobdhdehmkmjcaa
set_option linter.unusedVariables false
set_option linter.unusedSimpArgs false
open Go.RowKit Go.Proofs.YtobdhdehmkmjcaaW.PrintWords Go.Proofs.YtobdhdehmkmjcaaW.PrintLast

def settlesF (nets : Int) (gs : List GateL) (ds : List DriveL) (start : List Int) : Int :=
  if validF nets gs ≠ 0 then validF nets gs else if valuesF start ≠ 0 then valuesF start else if (start.length : Int) ≠ nets then 8 else if ds.all (driveOk nets) = false then 1 else if delB gs = true then 7 else 0
theorem settlesF_valid {nets : Int} {gs : List GateL} {ds : List DriveL} {start : List Int} (h : validF nets gs ≠ 0) : settlesF nets gs ds start = validF nets gs := if_pos h
theorem settlesF_values {nets : Int} {gs : List GateL} {ds : List DriveL} {start : List Int} (h : validF nets gs = 0) (h2 : valuesF start ≠ 0) : settlesF nets gs ds start = valuesF start := by
  unfold settlesF
  rw [if_neg (by rw [h]; simp), if_pos h2]
theorem settlesF_fit {nets : Int} {gs : List GateL} {ds : List DriveL} {start : List Int} (h : validF nets gs = 0) (h2 : valuesF start = 0) (h3 : (start.length : Int) ≠ nets) : settlesF nets gs ds start = 8 := by
  unfold settlesF
  rw [if_neg (by rw [h]; simp), if_neg (by rw [h2]; simp), if_pos h3]
theorem settlesF_drive {nets : Int} {gs : List GateL} {ds : List DriveL} {start : List Int} (h : validF nets gs = 0) (h2 : valuesF start = 0) (h3 : (start.length : Int) = nets) (h4 : ds.all (driveOk nets) = false) : settlesF nets gs ds start = 1 := by
  unfold settlesF
  rw [if_neg (by rw [h]; simp), if_neg (by rw [h2]; simp), if_neg (by rw [h3]; simp), if_pos h4]
theorem settlesF_rest {nets : Int} {gs : List GateL} {ds : List DriveL} {start : List Int} (h : validF nets gs = 0) (h2 : valuesF start = 0) (h3 : (start.length : Int) = nets) (h4 : ds.all (driveOk nets) = true) : settlesF nets gs ds start = if delB gs = true then 7 else 0 := by
  unfold settlesF
  rw [if_neg (by rw [h]; simp), if_neg (by rw [h2]; simp), if_neg (by rw [h3]; simp), if_neg (by rw [h4]; simp)]
theorem drives_bad {nets : Int} {ds : List DriveL} {k : Nat} (hk : k < ds.length) (h : driveOk nets (ds.getD k zDrive) = false) : ds.all (driveOk nets) = false := by
  rw [List.all_eq_false]
  rw [List.getD_eq_getElem?_getD, List.getElem?_eq_getElem hk] at h
  exact ⟨_, List.getElem_mem _, by simpa using h⟩
theorem drives_succ {nets : Int} {ds : List DriveL} {k : Nat} (hk : k < ds.length) (h : (ds.take k).all (driveOk nets) = true) (h2 : driveOk nets (ds.getD k zDrive) = true) : (ds.take (k + 1)).all (driveOk nets) = true := by
  rw [List.take_succ_eq_append_getElem hk, List.all_append, h]
  rw [List.getD_eq_getElem?_getD, List.getElem?_eq_getElem hk] at h2
  simpa using h2
theorem driveOk_bad {nets : Int} {d : DriveL} (h : d.net < 0 ∨ nets ≤ d.net ∨ isVal d.v = false) : driveOk nets d = false := by
  unfold driveOk
  rcases h with h | h | h
  · rw [decide_eq_false (by omega)]; rfl
  · rw [decide_eq_false (show ¬ d.net < nets by omega)]; simp
  · rw [h]; simp
theorem driveOk_good {nets : Int} {d : DriveL} (h1 : 0 ≤ d.net) (h2 : d.net < nets) (h3 : isVal d.v = true) : driveOk nets d = true := by
  unfold driveOk
  rw [decide_eq_true h1, decide_eq_true h2, h3]; rfl

set_option maxHeartbeats 2000000 in
set_option maxRecDepth 100000 in
theorem rsettles_any (nets : Int) (GA : Option Addr) (gn gc : Nat) (gs : List GateL) (DA : Option Addr) (dn dc : Nat) (ds : List DriveL) (A : Option Addr) (n c : Nat) (start : List Int) (w : World)
    (hg : RdGates w GA gn gs) (hd : RdDrives w DA dn ds) (hs : ReadsInt w .i64 A n start) :
    Calls Try.prog 54 #[.agg #[.int .i64 nets, .slice GA gn gc], .slice DA dn dc, .slice A n c] w fun e w' => e = .returned (.int .i64 (settlesF nets gs ds start)) ∧ Below w.heap.size w w' := by
  have hdm := hd.2.1
  have hnm := hs.2.1
  have HNL := Lib.hid hs.1
  have HDL := Lib.hid hd.1
  have hB : Below w.heap.size w (w.alloc (.cells #[.int .i64 nets, .slice GA gn gc] 39)) := (Below.refl _ _).alloc (Nat.le_refl _) _
  have hbk : (w.alloc (.cells #[.int .i64 nets, .slice GA gn gc] 39)).heap[w.heap.size]? = some (.cells #[.int .i64 nets, .slice GA gn gc] 39 (0, 0)) := blk_new _ _
  have c0 : (w.alloc (.cells #[.int .i64 nets, .slice GA gn gc] 39)).cell? ⟨w.heap.size, 0, none⟩ = some (.int .i64 nets) := (blk_cell hbk 0).trans rfl
  have c1 : (w.alloc (.cells #[.int .i64 nets, .slice GA gn gc] 39)).cell? ⟨w.heap.size, 1, none⟩ = some (.slice GA gn gc) := (blk_cell hbk 1).trans rfl
  have hg1 := hg.below hB
  have HB := Lib.hid hB; clear hB
  have HBK := Lib.hid hbk; clear hbk
  have HG1 := Lib.hid hg1; clear hg1
  have HG := Lib.hid hg; clear hg
  have HD := Lib.hid hd; clear hd
  have HS := Lib.hid hs; clear hs
  go_enter Try.func54, Try.ntmps54
  go_wp2_with fail
  refine (rvalidate_any _ _ _ _ _ _ HG1.out).mono ?_
  rintro e w1 ⟨rfl, hb1⟩
  have hlt0 : w.heap.size < (w.alloc (.cells #[.int .i64 nets, .slice GA gn gc] 39)).heap.size := by simp
  have HBK1 := Lib.hid (blk_below HBK.out hb1)
  have HB1 := Lib.hid (HB.out.trans (hb1.mono HB.out.size))
  clear hb1 c0 c1 hlt0
  by_cases hv : validF nets gs = 0
  · have HV := Lib.hid hv
    rw [hv]
    clear hv
    go_wp2_with fail
    refine (refValues_any _ _ _ _ _ (HS.out.below HB1.out)).mono ?_
    rintro e w2 ⟨rfl, rfl⟩
    have c0 : w1.cell? ⟨w.heap.size, 0, none⟩ = some (.int .i64 nets) := (blk_cell HBK1.out 0).trans rfl
    by_cases hv2 : valuesF start = 0
    · have HV2 := Lib.hid hv2
      rw [hv2]
      clear hv2
      by_cases h3 : (n : Int) = nets
      · have HN3 := Lib.hid h3
        have h3b : ((n : Int) != nets) = false := by simpa using h3
        clear h3
        go_wp2_with fail
        go_loopw [9] (fun i wr => ∃ k : Nat, k ≤ dn ∧ i = .int .i64 k ∧ Hid ((ds.take k).all (driveOk nets) = true) ∧ Hid (Below w.heap.size w wr) ∧ Hid (wr.heap[w.heap.size]? = some (.cells #[.int .i64 nets, .slice GA gn gc] 39 (0, 0)))) (fun i _ => dn - (intOf i).toNat)
        case atStart => exact ⟨0, by omega, rfl, Lib.hid rfl, HB1, HBK1⟩
        case round =>
          obtain ⟨k, hk, rfl, hall, hB, hbk⟩ := hrel
          clear HB1 HBK1 c0
          have c0 : wr.cell? ⟨w.heap.size, 0, none⟩ = some (.int .i64 nets) := (blk_cell hbk.out 0).trans rfl
          by_cases hlt : k < dn
          · obtain ⟨ad, rfl, g5, g6⟩ := (HD.out.below hB.out).at_ k hlt
            have HBAD := Lib.hid (fun h => drives_bad (nets := nets) (k := k) (by rw [HDL.out]; exact hlt) (driveOk_bad h))
            have HGOOD := Lib.hid (fun h1 h2 h3 => drives_succ (nets := nets) (k := k) (by rw [HDL.out]; exact hlt) hall.out (driveOk_good h1 h2 h3))
            generalize (ds.getD k zDrive).net = dnet at *
            generalize (ds.getD k zDrive).v = dv at *
            by_cases k1 : dnet < 0
            · have HR := Lib.hid (settlesF_drive HV.out HV2.out (by rw [HNL.out]; exact HN3.out) (HBAD.out (.inl k1)))
              go_wp2
              go_quiet (fail)
              go_wp2
              go_ret
              exact ⟨ret_int HR.out.symm, pw_below_drewN hB.out _⟩
            by_cases k2 : nets ≤ dnet
            · have HR := Lib.hid (settlesF_drive HV.out HV2.out (by rw [HNL.out]; exact HN3.out) (HBAD.out (.inr (.inl k2))))
              go_wp2
              go_quiet (fail)
              go_wp2
              go_ret
              exact ⟨ret_int HR.out.symm, pw_below_drewN hB.out _⟩
            by_cases k3 : dv < 0
            · have HR := Lib.hid (settlesF_drive HV.out HV2.out (by rw [HNL.out]; exact HN3.out) (HBAD.out (.inr (.inr (by unfold isVal; rw [decide_eq_false (by omega)]; rfl)))))
              go_wp2
              go_quiet (fail)
              go_wp2
              go_ret
              exact ⟨ret_int HR.out.symm, pw_below_drewN hB.out _⟩
            by_cases k4 : 8 < dv
            · have HR := Lib.hid (settlesF_drive HV.out HV2.out (by rw [HNL.out]; exact HN3.out) (HBAD.out (.inr (.inr (by unfold isVal; rw [decide_eq_false (show ¬ dv ≤ 8 by omega)]; simp)))))
              go_wp2
              go_quiet (fail)
              go_wp2
              go_ret
              exact ⟨ret_int HR.out.symm, pw_below_drewN hB.out _⟩
            have HA := Lib.hid (HGOOD.out (by omega) (by omega) (by unfold isVal; rw [decide_eq_true (show 0 ≤ dv by omega), decide_eq_true (show dv ≤ 8 by omega)]; rfl))
            go_wp2
            go_quiet (fail)
            go_wp2
            go_roundw
            case rel => exact ⟨k + 1, by omega, by go_num, HA, Lib.hid (pw_below_drewN hB.out _), Lib.hid (blk_drewN hbk.out _)⟩
            case measure => simp [intOf]; omega
          · have c1 : wr.cell? ⟨w.heap.size, 1, none⟩ = some (.slice GA gn gc) := (blk_cell hbk.out 1).trans rfl
            have hA := hall.out
            rw [List.take_of_length_le (by rw [HDL.out]; omega)] at hA
            have HR := Lib.hid (settlesF_rest HV.out HV2.out (by rw [HNL.out]; exact HN3.out) hA)
            clear hA
            go_wp2_with fail
            refine (rdelayed_any _ _ _ _ _ _ (HG.out.below hB.out)).mono ?_
            rintro e w3 ⟨rfl, hb3⟩
            have HB3 := Lib.hid (hB.out.trans (hb3.mono hB.out.size)); clear hb3
            cases hdl : delB gs
            · have HDB := Lib.hid hdl; clear hdl
              go_wp2_with fail
              go_ret
              exact ⟨ret_int (by rw [HR.out, if_neg (by rw [HDB.out]; simp)]), HB3.out⟩
            · have HDB := Lib.hid hdl; clear hdl
              go_wp2_with fail
              go_ret
              exact ⟨ret_int (by rw [HR.out, if_pos HDB.out]), HB3.out⟩
      · have HR := Lib.hid (settlesF_fit (ds := ds) HV.out HV2.out (by rw [HNL.out]; exact h3))
        have h3b : ((n : Int) != nets) = true := by simpa using h3
        clear h3
        go_wp2_with fail
        go_ret
        exact ⟨ret_int HR.out.symm, HB1.out⟩
    · have HR := Lib.hid (settlesF_values (ds := ds) HV.out hv2)
      have hb2 : (valuesF start != 0) = true := by simpa using hv2
      clear hv2
      generalize valuesF start = vv at *
      go_wp2_with fail
      go_ret
      exact ⟨ret_int HR.out.symm, HB1.out⟩
  · have HR := Lib.hid (settlesF_valid (ds := ds) (start := start) hv)
    have hb2 : (validF nets gs != 0) = true := by simpa using hv
    clear hv
    generalize validF nets gs = vv at *
    go_wp2_with fail
    go_ret
    exact ⟨ret_int HR.out.symm, HB1.out⟩

end Go.Proofs.Ytobdhdehmkmjcaa
