/- Words and walks for the row RowLogicRuns, put together: MR1. -/
import Derived.Test.YtobdhdehmkmjcaaRunsMB
import Derived.Test.YtobdhdehmkmjcaaRuns3
import Derived.Test.YtobdhdehmkmjcaaRuns6
namespace Go.Proofs.Ytobdhdehmkmjcaa
set_option linter.unusedVariables false
set_option linter.unusedSimpArgs false
open Go Go.RowKit Go.Proofs.YtobdhdehmkmjcaaW.PrintWords Go.Proofs.YtobdhdehmkmjcaaW.PrintLast

set_option maxHeartbeats 4000000 in
set_option maxRecDepth 100000 in
theorem rruns66_any (nets : Int) (GA : Option Addr) (gn gc : Nat) (gs : List GateL) (PA : Option Addr) (pn pc : Nat) (ps : List PulseL) (un : Int) (w : World) (hg : RdGates w GA gn gs) (hps : RdPulses w PA pn ps) :
    Calls Try.prog 66 #[.agg #[.int .i64 nets, .slice GA gn gc], .slice PA pn pc, .int .i64 un] w fun e w' => e = .returned (.int .i64 (preR nets gs ps un)) ∧ Below w.heap.size w w' := by
  have HGL := Lib.hid hg.1
  have HPL := Lib.hid hps.1
  have hpm := hps.2.1
  have hB : Below w.heap.size w (w.alloc (.cells #[.int .i64 nets, .slice GA gn gc] 39)) := (Below.refl _ _).alloc (Nat.le_refl _) _
  have hbk : (w.alloc (.cells #[.int .i64 nets, .slice GA gn gc] 39)).heap[w.heap.size]? = some (.cells #[.int .i64 nets, .slice GA gn gc] 39 (0, 0)) := blk_new _ _
  have c0 : (w.alloc (.cells #[.int .i64 nets, .slice GA gn gc] 39)).cell? ⟨w.heap.size, 0, none⟩ = some (.int .i64 nets) := (blk_cell hbk 0).trans rfl
  have c1 : (w.alloc (.cells #[.int .i64 nets, .slice GA gn gc] 39)).cell? ⟨w.heap.size, 1, none⟩ = some (.slice GA gn gc) := (blk_cell hbk 1).trans rfl
  have HG1 := Lib.hid (hg.below hB)
  have HB := Lib.hid hB; clear hB
  have HBK := Lib.hid hbk; clear hbk
  have HG := Lib.hid hg; clear hg
  have HPS := Lib.hid hps; clear hps
  go_enter Try.func66, Try.ntmps66
  go_wp2_with fail
  refine (rvalidate_any _ _ _ _ _ _ HG1.out).mono ?_
  rintro e w1 ⟨rfl, hb1⟩
  have HBK1 := Lib.hid (blk_below HBK.out hb1)
  have HB1 := Lib.hid (HB.out.trans (hb1.mono HB.out.size))
  clear hb1 c0 c1 HBK HB HG1
  by_cases hv : validF nets gs = 0
  case neg =>
    have hb2 : (validF nets gs != 0) = true := by simpa using hv
    have HX : Hid (preR nets gs ps un = validF nets gs) := Lib.hid (if_pos hv)
    have HV := Lib.hid hv; clear hv
    obtain ⟨vv, hvv⟩ : ∃ vv, validF nets gs = vv := ⟨_, rfl⟩
    rw [hvv] at hb2 HX HV ⊢
    clear hvv
    go_wp2_with fail
    go_ret
    exact ⟨ret_int HX.out.symm, HB1.out⟩
  have HV := Lib.hid hv
  rw [hv]
  clear hv
  by_cases h64 : 64 < pn
  · have hb64 : decide ((64 : Int) < (pn : Int)) = true := by simp; omega
    have HX := Lib.hid (preR_len (un := un) HV.out (by rw [HPL.out]; exact h64))
    go_wp2_with fail
    go_ret
    exact ⟨ret_int HX.out.symm, HB1.out⟩
  have hb64 : decide ((64 : Int) < (pn : Int)) = false := by simp; omega
  have H64 : Hid (¬ 64 < ps.length) := Lib.hid (by rw [HPL.out]; exact h64)
  by_cases hu0 : un < 0
  · have hub0 : decide (un < 0) = true := by simpa using hu0
    have HX := Lib.hid (preR_un HV.out H64.out (.inl hu0))
    clear hu0
    go_wp2_with fail
    go_ret
    exact ⟨ret_int HX.out.symm, HB1.out⟩
  have hub0 : decide (un < 0) = false := by simpa using hu0
  by_cases hu1 : 2000 < un
  · have hub1 : decide (2000 < un) = true := by simpa using hu1
    have HX := Lib.hid (preR_un HV.out H64.out (.inr hu1))
    clear hu1
    go_wp2_with fail
    go_ret
    exact ⟨ret_int HX.out.symm, HB1.out⟩
  have hub1 : decide (2000 < un) = false := by simpa using hu1
  have HUN : Hid (¬ (un < 0 ∨ 2000 < un)) := Lib.hid (by omega)
  clear hu0 hu1
  go_wp2_with fail
  go_loopw [8] (fun i wr => ∃ k : Nat, k ≤ pn ∧ i = .int .i64 k ∧ Hid (Below w.heap.size w wr) ∧ Hid (wr.heap[w.heap.size]? = some (.cells #[.int .i64 nets, .slice GA gn gc] 39 (0, 0))) ∧ Hid ((ps.take k).all (pulseB nets) = true)) (fun i _ => pn - (intOf i).toNat)
  case atStart => exact ⟨0, Nat.zero_le _, rfl, HB1, HBK1, Lib.hid rfl⟩
  case round =>
    obtain ⟨k, hk, rfl, hB, hBK, hA⟩ := hrel
    clear HB1 HBK1
    obtain ⟨wx, rfl⟩ : ∃ wx : World, wx = wr := ⟨_, rfl⟩
    by_cases hlt : k < pn
    · have hlt2 : decide ((k : Int) < (pn : Int)) = true := by simp; omega
      obtain ⟨ad, rfl, q1, q2, q3⟩ := (HPS.out.below hB.out).at_ k hlt
      have hkl : k < ps.length := by rw [HPL.out]; exact hlt
      have HSU := Lib.hid (pall_succ (nets := nets) hkl)
      have HBAD := Lib.hid (pall_bad (nets := nets) hkl)
      clear hkl
      generalize ps.getD k zPulse = p at *
      obtain ⟨pt, pnet, pv⟩ := p
      simp only at q1 q2 q3
      have c0 : wx.cell? ⟨w.heap.size, 0, none⟩ = some (.int .i64 nets) := (blk_cell hBK.out 0).trans rfl
      by_cases b0 : pt < 0
      · have bb0 : decide (pt < 0) = true := by simpa using b0
        have HX := Lib.hid (preR_all HV.out H64.out HUN.out (HBAD.out (by simp only [pulseB]; rw [decide_eq_false (by omega : ¬ 0 ≤ pt)]; rfl)))
        clear b0
        go_wp2
        go_quiet (fail)
        go_wp2
        go_ret
        exact ⟨ret_int HX.out.symm, pw_below_drewN hB.out _⟩
      have bb0 : decide (pt < 0) = false := by simpa using b0
      by_cases b1 : pnet < 0
      · have bb1 : decide (pnet < 0) = true := by simpa using b1
        have HX := Lib.hid (preR_all HV.out H64.out HUN.out (HBAD.out (by simp only [pulseB]; rw [decide_eq_false (by omega : ¬ 0 ≤ pnet)]; simp)))
        clear b1
        go_wp2
        go_quiet (fail)
        go_wp2
        go_ret
        exact ⟨ret_int HX.out.symm, pw_below_drewN hB.out _⟩
      have bb1 : decide (pnet < 0) = false := by simpa using b1
      by_cases b2 : nets ≤ pnet
      · have bb2 : decide (nets ≤ pnet) = true := by simpa using b2
        have HX := Lib.hid (preR_all HV.out H64.out HUN.out (HBAD.out (by simp only [pulseB]; rw [decide_eq_false (by omega : ¬ pnet < nets)]; simp)))
        clear b2
        go_wp2
        go_quiet (fail)
        go_wp2
        go_ret
        exact ⟨ret_int HX.out.symm, pw_below_drewN hB.out _⟩
      have bb2 : decide (nets ≤ pnet) = false := by simpa using b2
      by_cases b3 : pv < 0
      · have bb3 : decide (pv < 0) = true := by simpa using b3
        have HX := Lib.hid (preR_all HV.out H64.out HUN.out (HBAD.out (by simp only [pulseB, isVal]; rw [decide_eq_false (by omega : ¬ 0 ≤ pv)]; simp)))
        clear b3
        go_wp2
        go_quiet (fail)
        go_wp2
        go_ret
        exact ⟨ret_int HX.out.symm, pw_below_drewN hB.out _⟩
      have bb3 : decide (pv < 0) = false := by simpa using b3
      by_cases b4 : 8 < pv
      · have bb4 : decide (8 < pv) = true := by simpa using b4
        have HX := Lib.hid (preR_all HV.out H64.out HUN.out (HBAD.out (by simp only [pulseB, isVal]; rw [decide_eq_false (by omega : ¬ pv ≤ 8)]; simp)))
        clear b4
        go_wp2
        go_quiet (fail)
        go_wp2
        go_ret
        exact ⟨ret_int HX.out.symm, pw_below_drewN hB.out _⟩
      have bb4 : decide (8 < pv) = false := by simpa using b4
      have HPB : Hid (pulseB nets ⟨pt, pnet, pv⟩ = true) := Lib.hid (by simp only [pulseB, isVal]; rw [decide_eq_true (by omega : 0 ≤ pt), decide_eq_true (by omega : 0 ≤ pnet), decide_eq_true (by omega : pnet < nets), decide_eq_true (by omega : 0 ≤ pv), decide_eq_true (by omega : pv ≤ 8)]; rfl)
      clear b0 b1 b2 b3 b4
      go_wp2
      go_quiet (fail)
      go_wp2
      go_roundw
      case rel => exact ⟨k + 1, by omega, by go_num, Lib.hid (pw_below_drewN hB.out _), Lib.hid (blk_drewN hBK.out _), Lib.hid (by rw [HSU.out, hA.out, HPB.out]; rfl)⟩
      case measure => simp [intOf]; omega
    · have hlt2 : decide ((k : Int) < (pn : Int)) = false := by simp; omega
      have HALL : Hid (ps.all (pulseB nets) = true) := Lib.hid (by
        have h := hA.out
        rwa [List.take_of_length_le (by rw [HPL.out]; omega)] at h)
      clear hA hk
      have HTW0 : Hid (∀ i, i < 0 → ∀ j, j < i → sameP (ps.getD i zPulse) (ps.getD j zPulse) = false) := Lib.hid (fun i h => by omega)
      go_wp2_with fail
      clear hlt2 hlt
      go_loopw [9] (fun i wr => ∃ k : Nat, k ≤ pn ∧ i = .int .i64 k ∧ Hid (Below w.heap.size w wr) ∧ Hid (∀ i, i < k → ∀ j, j < i → sameP (ps.getD i zPulse) (ps.getD j zPulse) = false)) (fun i _ => pn - (intOf i).toNat)
      case atStart => exact ⟨0, Nat.zero_le _, rfl, hB, HTW0⟩
      case round =>
        clear hB hBK HTW0
        obtain ⟨k, hk, rfl, hB, hTW⟩ := hrel
        obtain ⟨wx, rfl⟩ : ∃ wx : World, wx = wr := ⟨_, rfl⟩
        by_cases hlt : k < pn
        · have hlt2 : decide ((k : Int) < (pn : Int)) = true := by simp; omega
          obtain ⟨pk, hpk⟩ : ∃ pk, ps.getD k zPulse = pk := ⟨_, rfl⟩
          have HPK := Lib.hid hpk; clear hpk
          obtain ⟨kt, knet, kv⟩ := pk
          have HSM0 : Hid (∀ j, j < 0 → sameP (ps.getD k zPulse) (ps.getD j zPulse) = false) := Lib.hid (fun i h => by omega)
          go_wp2_with fail
          go_loopw [10] (fun i wr => ∃ j : Nat, j ≤ k ∧ i = .int .i64 j ∧ Hid (Below w.heap.size w wr) ∧ Hid (∀ i, i < j → sameP (ps.getD k zPulse) (ps.getD i zPulse) = false)) (fun i _ => k - (intOf i).toNat)
          case atStart => exact ⟨0, Nat.zero_le _, rfl, hB, HSM0⟩
          case round =>
            clear hB HSM0
            obtain ⟨j, hj, rfl, hBj, hSM⟩ := hrel
            obtain ⟨wy, rfl⟩ : ∃ wy : World, wy = wr := ⟨_, rfl⟩
            by_cases hltj : j < k
            · have hltj2 : decide ((j : Int) < (k : Int)) = true := by simp; omega
              obtain ⟨ad, rfl, k1, k2, k3⟩ := (HPS.out.below hBj.out).at_ k hlt
              obtain ⟨ad2, eq2, q1, q2, q3⟩ := (HPS.out.below hBj.out).at_ j (by omega)
              injection eq2 with eq2
              subst eq2
              rw [HPK.out] at k1 k2 k3
              have HTWB := Lib.hid (twice_bad (ps := ps) (i := k) (j := j) hltj (by rw [HPL.out]; exact hlt))
              rw [HPK.out] at HTWB hSM
              obtain ⟨pj, hpj⟩ : ∃ pj, ps.getD j zPulse = pj := ⟨_, rfl⟩
              rw [hpj] at q1 q2 q3 HTWB
              have HPJ := Lib.hid hpj; clear hpj
              obtain ⟨jt, jnet, jv⟩ := pj
              simp only at q1 q2 q3 k1 k2 k3
              have hj1 : (j : Int) < (pn : Int) := by omega
              have hk1 : (k : Int) < (pn : Int) := by omega
              have hj0 : (0 : Int) ≤ (j : Int) := by omega
              have hk0 : (0 : Int) ≤ (k : Int) := by omega
              by_cases a0 : knet = jnet
              · have ab0 : (knet == jnet) = true := by simpa using a0
                by_cases a1 : kt = jt
                · have ab1 : (kt == jt) = true := by simpa using a1
                  have HX := Lib.hid (preR_two HV.out H64.out HUN.out HALL.out (HTWB.out (by simp only [sameP]; rw [decide_eq_true a0, decide_eq_true a1]; rfl)))
                  clear a0 a1
                  go_wp2
                  go_quiet (fail)
                  go_wp2
                  go_ret
                  exact ⟨ret_int HX.out.symm, pw_below_drewN hBj.out _⟩
                · have ab1 : (kt == jt) = false := by simpa using a1
                  have HN : Hid (sameP ⟨kt, knet, kv⟩ ⟨jt, jnet, jv⟩ = false) := Lib.hid (by simp only [sameP]; rw [decide_eq_false a1]; simp)
                  clear a0 a1
                  go_wp2
                  go_quiet (fail)
                  go_wp2
                  go_roundw
                  case rel => exact ⟨j + 1, by omega, by go_num, Lib.hid (pw_below_drewN hBj.out _), Lib.hid (fun i hi => by rcases Nat.lt_succ_iff_lt_or_eq.1 hi with h | h; exact (by rw [HPK.out]; exact hSM.out i h); rw [h, HPK.out, HPJ.out]; exact HN.out)⟩
                  case measure => simp [intOf]; omega
              · have ab0 : (knet == jnet) = false := by simpa using a0
                have HN : Hid (sameP ⟨kt, knet, kv⟩ ⟨jt, jnet, jv⟩ = false) := Lib.hid (by simp only [sameP]; rw [decide_eq_false a0]; simp)
                clear a0
                go_wp2
                go_quiet (fail)
                go_wp2
                go_roundw
                case rel => exact ⟨j + 1, by omega, by go_num, Lib.hid (pw_below_drewN hBj.out _), Lib.hid (fun i hi => by rcases Nat.lt_succ_iff_lt_or_eq.1 hi with h | h; exact (by rw [HPK.out]; exact hSM.out i h); rw [h, HPK.out, HPJ.out]; exact HN.out)⟩
                case measure => simp [intOf]; omega
            · have hltj2 : decide ((j : Int) < (k : Int)) = false := by simp; omega
              go_wp2_with fail
              go_roundw
              case rel => exact ⟨k + 1, by omega, by go_num, hBj, Lib.hid (fun i hi => by rcases Nat.lt_succ_iff_lt_or_eq.1 hi with h | h; exact hTW.out i h; subst h; exact fun j' hj' => hSM.out j' (by omega))⟩
              case measure => simp [intOf]; omega
        · have hlt2 : decide ((k : Int) < (pn : Int)) = false := by simp; omega
          have HX := Lib.hid (preR_ok HV.out H64.out HUN.out HALL.out (twice_ok (fun i hi j hj => hTW.out i (by have := HPL.out; omega) j hj)))
          go_wp2_with fail
          go_ret
          exact ⟨ret_int HX.out.symm, hB.out⟩
end Go.Proofs.Ytobdhdehmkmjcaa
