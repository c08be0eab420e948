/- The program's Equal (30). -/
import Derived.Test.YtobdhdehmkmjcaaEQ2
import Derived.Test.YtobdhdehmkmjcaaY1
namespace Go.Proofs.Ytobdhdehmkmjcaa
set_option linter.unusedVariables false
set_option linter.unusedSimpArgs false
open Rows0 Go.RowKit Go.Proofs.YtobdhdehmkmjcaaW.PrintWords Go.Proofs.YtobdhdehmkmjcaaW.PrintLast

theorem eqAns_bad {nc nd x : Int} {gc gd : List GateL} {ins outs : List Int} (h : preF nc gc nd gd ins outs = x) (hx : x ≠ 0) : eqAns nc gc nd gd ins outs = (none, false, x) := by
  unfold eqAns
  rw [if_pos (by rw [h]; exact hx), h]
theorem eqOut_bad {nc nd x : Int} {gc gd : List GateL} {ins outs : List Int} (h : preF nc gc nd gd ins outs = x) (hx : x ≠ 0) (w : World) :
    eqOut (eqAns nc gc nd gd ins outs) w (.returned (.tuple #[.slice none 0 0, .bool false, .int .i64 x])) := by
  rw [eqAns_bad h hx]; exact rfl
set_option maxHeartbeats 8000000 in
set_option maxRecDepth 100000 in
theorem equal30_any (nc : Int) (CA : Option Addr) (cn cc : Nat) (gc : List GateL) (nd : Int) (DA : Option Addr) (dn dc : Nat) (gd : List GateL) (IA : Option Addr) (im ic : Nat) (ins : List Int) (OA : Option Addr) (om oc : Nat) (outs : List Int) (w : World)
    (hgc : RdGates w CA cn gc) (hgd : RdGates w DA dn gd) (hi : ReadsInt w .i64 IA im ins) (ho : ReadsInt w .i64 OA om outs) (him : im ≤ ic) (hom : om ≤ oc) :
    Calls Try.prog 30 #[.agg #[.int .i64 nc, .slice CA cn cc], .agg #[.int .i64 nd, .slice DA dn dc], .slice IA im ic, .slice OA om oc] w fun e w' => eqOut (eqAns nc gc nd gd ins outs) w' e ∧ Below w.heap.size w w' := by
  obtain ⟨i85, hi85, hz85, hs85, hb85⟩ := info_parts info85
  have HIL := Lib.hid hi.1
  have HGCL := Lib.hid hgc.1
  have HGDL := Lib.hid hgd.1
  have HOL := Lib.hid ho.1
  obtain ⟨w2, hw2⟩ : ∃ w2, (w.alloc (.cells #[.int .i64 nc, .slice CA cn cc] 39)).alloc (.cells #[.int .i64 nd, .slice DA dn dc] 39) = w2 := ⟨_, rfl⟩
  have hz1 : (w.alloc (.cells #[.int .i64 nc, .slice CA cn cc] 39)).heap.size = w.heap.size + 1 := Array.size_push _
  have hbc : w2.heap[w.heap.size]? = some (.cells #[.int .i64 nc, .slice CA cn cc] 39 (0, 0)) := by rw [← hw2]; exact blk_alloc (blk_new w _) _
  have hbd : w2.heap[w.heap.size + 1]? = some (.cells #[.int .i64 nd, .slice DA dn dc] 39 (0, 0)) := by
    have h := blk_new (w.alloc (.cells #[.int .i64 nc, .slice CA cn cc] 39)) (.cells #[.int .i64 nd, .slice DA dn dc] 39)
    rw [hz1] at h
    rw [← hw2]
    exact h
  have hz2 : w2.heap.size = w.heap.size + 2 := by
    rw [← hw2]
    have h : ((w.alloc (.cells #[.int .i64 nc, .slice CA cn cc] 39)).alloc (.cells #[.int .i64 nd, .slice DA dn dc] 39)).heap.size = (w.alloc (.cells #[.int .i64 nc, .slice CA cn cc] 39)).heap.size + 1 := Array.size_push _
    rw [h, hz1]
  have hB : Below w.heap.size w w2 := by rw [← hw2]; exact ((Below.refl _ _).alloc (Nat.le_refl _) _).alloc (by rw [hz1]; exact Nat.le_succ _) _
  have c0 : w2.cell? ⟨w.heap.size, 0, none⟩ = some (.int .i64 nc) := (blk_cell hbc 0).trans rfl
  have c1 : w2.cell? ⟨w.heap.size, 1, none⟩ = some (.slice CA cn cc) := (blk_cell hbc 1).trans rfl
  have d0 : w2.cell? ⟨w.heap.size + 1, 0, none⟩ = some (.int .i64 nd) := (blk_cell hbd 0).trans rfl
  have d1 : w2.cell? ⟨w.heap.size + 1, 1, none⟩ = some (.slice DA dn dc) := (blk_cell hbd 1).trans rfl
  have HB := Lib.hid hB; clear hB
  have HBC := Lib.hid hbc; clear hbc
  have HBD := Lib.hid hbd; clear hbd
  have HGC := Lib.hid hgc; clear hgc
  have HGD := Lib.hid hgd; clear hgd
  have HI := Lib.hid hi; clear hi
  have HO := Lib.hid ho; clear ho
  have HZ2 := Lib.hid hz2; clear hz2 hz1
  go_enter Try.func30, Try.ntmps30
  have HW2 := Lib.hid hw2; clear hw2
  go_wp2_with fail
  rw [HW2.out]
  obtain ⟨w3, hw3⟩ : ∃ w3, w2.alloc (.cells #[.int .i64 nc, .slice CA cn cc, .int .i64 nd, .slice DA dn dc] 39) = w3 := ⟨_, rfl⟩
  have HX3 : Hid (Below w2.heap.size w2 w3) := Lib.hid (by rw [← hw3]; exact (Below.refl _ _).alloc (Nat.le_refl _) _)
  have HB3 := Lib.hid (HB.out.trans (HX3.out.mono HB.out.size))
  have HC3 := Lib.hid (blk_below HBC.out HX3.out)
  have HD3 := Lib.hid (blk_below HBD.out HX3.out)
  have HS3 : Hid (w3.heap[w.heap.size + 1 + 1]? = some (.cells #[.int .i64 nc, .slice CA cn cc, .int .i64 nd, .slice DA dn dc] 39 (0, 0))) := Lib.hid (by
    have h := blk_new w2 (.cells #[.int .i64 nc, .slice CA cn cc, .int .i64 nd, .slice DA dn dc] 39)
    rw [HZ2.out, hw3] at h
    exact h)
  have HW3 := Lib.hid hw3
  rw [hw3]; clear hw3 c0 c1 d0 d1
  go_loopw [37] (fun i wr => ((i = .int .i64 0 ∧ True) ∨ (i = .int .i64 1 ∧ Hid (validF nc gc = 0)) ∨ (i = .int .i64 2 ∧ Hid (validF nc gc = 0 ∧ validF nd gd = 0))) ∧ Hid (Below w.heap.size w wr) ∧ Hid (wr.heap[w.heap.size]? = some (.cells #[.int .i64 nc, .slice CA cn cc] 39 (0, 0))) ∧ Hid (wr.heap[w.heap.size + 1]? = some (.cells #[.int .i64 nd, .slice DA dn dc] 39 (0, 0))) ∧ Hid (wr.heap[w.heap.size + 1 + 1]? = some (.cells #[.int .i64 nc, .slice CA cn cc, .int .i64 nd, .slice DA dn dc] 39 (0, 0)))) (fun i _ => 2 - (intOf i).toNat)
  case atStart => exact ⟨.inl ⟨rfl, trivial⟩, HB3, HC3, HD3, HS3⟩
  case round =>
    obtain ⟨hk, hB, hC, hD, hS⟩ := hrel
    clear HX3 HB3 HC3 HD3 HS3 HW3
    obtain ⟨wx, rfl⟩ : ∃ wx : World, wx = wr := ⟨_, rfl⟩
    rcases hk with ⟨rfl, _⟩ | ⟨rfl, hv1⟩ | ⟨rfl, hv⟩
    -- [[
    · have s0 : wx.cell? ⟨w.heap.size + 1 + 1, 0, none⟩ = some (.int .i64 nc) := (blk_cell hS.out 0).trans rfl
      have s1 : wx.cell? ⟨w.heap.size + 1 + 1, 1, none⟩ = some (.slice CA cn cc) := (blk_cell hS.out 1).trans rfl
      have HX := Lib.hid (Below.alloc (Below.refl wx.heap.size wx) (Nat.le_refl _) (.cells #[.int .i64 nc, .slice CA cn cc] 39))
      go_wp2_with fail
      refine (validate_any _ _ _ _ _ _ ((HGC.out.below hB.out).below HX.out)).mono ?_
      rintro e w4 ⟨rfl, hb4⟩
      have HX4 := Lib.hid (HX.out.trans (hb4.mono HX.out.size))
      have HB4 := Lib.hid (hB.out.trans (HX4.out.mono hB.out.size))
      have HC4 := Lib.hid (blk_below hC.out HX4.out)
      have HD4 := Lib.hid (blk_below hD.out HX4.out)
      have HS4 := Lib.hid (blk_below hS.out HX4.out)
      clear hb4 s0 s1
      by_cases h0 : validF nc gc = 0
      case neg =>
        have h0' : (validF nc gc != 0) = true := by simpa using h0
        have HE : Hid (preF nc gc nd gd ins outs = validF nc gc) := Lib.hid (by unfold preF; rw [if_pos h0])
        have HH := Lib.hid h0; clear h0
        generalize validF nc gc = vv at *
        go_wp2_with fail
        go_ret3
        exact ⟨eqOut_bad HE.out HH.out _, HB4.out⟩
      have H0 := Lib.hid h0
      rw [h0]
      clear h0
      go_wp2_with fail
      first
      | (go_roundw; (case rel => exact ⟨.inr (.inl ⟨rfl, H0⟩), HB4, HC4, HD4, HS4⟩); (case measure => simp [intOf]))
    · have s0 : wx.cell? ⟨w.heap.size + 1 + 1, 2, none⟩ = some (.int .i64 nd) := (blk_cell hS.out 2).trans rfl
      have s1 : wx.cell? ⟨w.heap.size + 1 + 1, 3, none⟩ = some (.slice DA dn dc) := (blk_cell hS.out 3).trans rfl
      have HX := Lib.hid (Below.alloc (Below.refl wx.heap.size wx) (Nat.le_refl _) (.cells #[.int .i64 nd, .slice DA dn dc] 39))
      go_wp2_with fail
      refine (validate_any _ _ _ _ _ _ ((HGD.out.below hB.out).below HX.out)).mono ?_
      rintro e w4 ⟨rfl, hb4⟩
      have HX4 := Lib.hid (HX.out.trans (hb4.mono HX.out.size))
      have HB4 := Lib.hid (hB.out.trans (HX4.out.mono hB.out.size))
      have HC4 := Lib.hid (blk_below hC.out HX4.out)
      have HD4 := Lib.hid (blk_below hD.out HX4.out)
      have HS4 := Lib.hid (blk_below hS.out HX4.out)
      clear hb4 s0 s1
      by_cases h0 : validF nd gd = 0
      case neg =>
        have h0' : (validF nd gd != 0) = true := by simpa using h0
        have HE : Hid (preF nc gc nd gd ins outs = validF nd gd) := Lib.hid (by unfold preF; rw [if_neg (by rw [hv1.out]; simp), if_pos h0])
        have HH := Lib.hid h0; clear h0
        generalize validF nd gd = vv at *
        go_wp2_with fail
        go_ret3
        exact ⟨eqOut_bad HE.out HH.out _, HB4.out⟩
      have H0 := Lib.hid h0
      rw [h0]
      clear h0
      go_wp2_with fail
      first
      | (go_roundw; (case rel => exact ⟨.inr (.inr ⟨rfl, Lib.hid ⟨hv1.out, H0.out⟩⟩), HB4, HC4, HD4, HS4⟩); (case measure => simp [intOf]))
    -- ]]
    · have H1 := Lib.hid hv.out.1
      have H2 := Lib.hid hv.out.2
      clear hv
      have HNE : Hid (∀ x, (if 4 < ins.length ∨ 64 < outs.length then (3 : Int) else if (ins ++ outs).all (netOk nc nd) = false then 1 else if twiceB ins = true then 5 else if delB gc = true ∨ delB gd = true then 7 else if depthP (fdG gc) gc.length < 0 ∨ depthP (fdG gd) gd.length < 0 then 10 else 0) = x → preF nc gc nd gd ins outs = x) := Lib.hid (fun x h => by
        unfold preF; rw [if_neg (by rw [H1.out]; simp), if_neg (by rw [H2.out]; simp)]; exact h)
      have c0 : wx.cell? ⟨w.heap.size, 0, none⟩ = some (.int .i64 nc) := (blk_cell hC.out 0).trans rfl
      have d0 : wx.cell? ⟨w.heap.size + 1, 0, none⟩ = some (.int .i64 nd) := (blk_cell hD.out 0).trans rfl
      have him9 : im ≤ 9223372036854775807 := HI.out.2.1
      have hom9 : om ≤ 9223372036854775807 := HO.out.2.1
      by_cases h3 : 4 < im
      · have h3' : decide ((4 : Int) < (im : Int)) = true := by simp; omega
        have HR := Lib.hid (HNE.out 3 (if_pos (.inl (by rw [HIL.out]; exact h3))))
        go_wp2_with fail
        go_ret3
        exact ⟨eqOut_bad HR.out (by decide) _, hB.out⟩
      have h3' : decide ((4 : Int) < (im : Int)) = false := by simp; omega
      by_cases h4 : 64 < om
      · have h4' : decide ((64 : Int) < (om : Int)) = true := by simp; omega
        have HR := Lib.hid (HNE.out 3 (if_pos (.inr (by rw [HOL.out]; exact h4))))
        go_wp2_with fail
        go_ret3
        exact ⟨eqOut_bad HR.out (by decide) _, hB.out⟩
      have h4' : decide ((64 : Int) < (om : Int)) = false := by simp; omega
      have HS : Hid (¬ (4 < ins.length ∨ 64 < outs.length)) := Lib.hid (by rw [HIL.out, HOL.out]; omega)
      have HN2 : Hid (∀ x, (if (ins ++ outs).all (netOk nc nd) = false then (1 : Int) else if twiceB ins = true then 5 else if delB gc = true ∨ delB gd = true then 7 else if depthP (fdG gc) gc.length < 0 ∨ depthP (fdG gd) gd.length < 0 then 10 else 0) = x → preF nc gc nd gd ins outs = x) := Lib.hid (fun x h => HNE.out x (by rw [if_neg HS.out]; exact h))
      clear HNE
      have HLb := Lib.hid (show (ins.length + om) * 8 ≤ 140737488355328 by have := HIL.out; omega)
      have HIX := Lib.hid (HI.out.below hB.out)
      have HOX := Lib.hid (HO.out.below hB.out)
      go_wp2_with fail
      refine (clone_all _ _ _ _ _ HIX.out (by omega)).mono ?_
      rintro e w5 ⟨q5, rfl, ho5, hb5⟩
      have HB5 := Lib.hid (hB.out.trans (hb5.mono hB.out.size))
      have HC5 := Lib.hid (blk_below hC.out hb5)
      have HD5 := Lib.hid (blk_below hD.out hb5)
      have HL5 := Lib.hid hb5.size
      have HO5 : Hid (w5.ownsRow wx.heap.size 3 1 q5 ins.length (nums .i64 ins)) := Lib.hid (by rw [HIL.out]; exact ho5)
      have HOX5 := Lib.hid (HOX.out.below hb5)
      have HBX5 := Lib.hid hb5
      clear hb5 ho5 c0 d0
      obtain ⟨N, hNN⟩ : ∃ N : Nat, im + om = N := ⟨_, rfl⟩
      have HN : Hid ((ins ++ outs).length = N) := Lib.hid (by rw [← hNN]; have h1 := HIL.out; have h2 := HOL.out; simp; omega)
      have hN68 : N ≤ 68 := by omega
      have HNN := Lib.hid hNN; clear hNN
      go_wp2_with (at_builtin; refine print_append_row wx.heap.size rfl (.tmp 61) (.tmp 62) 22 3 .i64 8 rfl Try.underlying22 info3 (by decide) _ ins outs OA om oc rfl rfl HO5.out HOX5.out HBX5.out HL5.out HLb.out ?_; intro q2 w6 hq1 hq2 hq3 _; obtain ⟨QA, qc, rfl⟩ := own_slice hq1; rw [HN.out] at hq1; rw [HN.out]; have HC6 := Lib.hid (blk_grown HC5.out hq3 (row_ne_blk HO5.out HC5.out (by decide))); have HD6 := Lib.hid (blk_grown HD5.out hq3 (row_ne_blk HO5.out HD5.out (by decide))); have HO2 := Lib.hid hq1; clear hq1; have HX6 := Lib.hid hq2; clear hq2 hq3)
      have hr6 := own_reads' HO2.out
      have HA1 : Hid ((ins ++ outs).all (netOk nc nd) = false → preF nc gc nd gd ins outs = 1) := Lib.hid (fun h => HN2.out 1 (if_pos h))
      have HR6 := Lib.hid hr6; clear hr6
      generalize hAL : ins ++ outs = AL at HR6 HN HA1
      have HAL := Lib.hid hAL; clear hAL
      have HB6 := Lib.hid (hB.out.trans (HX6.out.mono hB.out.size))
      obtain ⟨ls, hls⟩ : ∃ ls, min nc nd = ls := ⟨_, rfl⟩
      have HLS : Hid (∀ x : Int, netOk nc nd x = (decide (0 ≤ x) && decide (x < ls))) := Lib.hid (fun x => by rw [← hls]; unfold netOk; by_cases a : 0 ≤ x <;> by_cases b : x < nc <;> by_cases c : x < nd <;> simp [a, b, c] <;> omega)
      rw [hls]
      clear hls
      clear HO5 HLb HL5 HO2
      go_loopw [65] (fun i wr => ∃ k : Nat, k ≤ N ∧ i = .int .i64 k ∧ Hid ((AL.take k).all (netOk nc nd) = true) ∧ ∃ q, wr = w6.drewN q) (fun i _ => N - (intOf i).toNat)
      case atStart => exact ⟨0, by omega, rfl, Lib.hid rfl, 0, rfl⟩
      case round =>
        obtain ⟨k, hk, rfl, hT, q, rfl⟩ := hrel
        by_cases hlt : k < N
        · obtain ⟨ad, rfl, hc⟩ := rdN HR6.out k hlt
          have HS1 := Lib.hid (fun hx => all_take (p := netOk nc nd) (l := AL) (k := k) (by rw [HN.out]; exact hlt) hT.out hx)
          have HS0 := Lib.hid (fun hx => HA1.out (all_not (p := netOk nc nd) (l := AL) (k := k) (by rw [HN.out]; exact hlt) hx))
          have hlt2 : decide ((k : Int) < (N : Int)) = true := by simp; omega
          generalize AL.getD k 0 = x at hc HS1 HS0
          by_cases hx0 : x < 0
          · have hb0 : decide (x < 0) = true := by simpa using hx0
            have HF := Lib.hid (HS0.out (by simp [netOk]; omega))
            clear hx0
            go_wp2
            go_ret3
            exact ⟨eqOut_bad HF.out (by decide) _, pw_below_drewN (n := q) HB6.out⟩
          have hb0 : decide (x < 0) = false := by simpa using hx0
          by_cases hx1 : ls ≤ x
          · have hb1 : decide (ls ≤ x) = true := by simpa using hx1
            have HF := Lib.hid (HS0.out (by rw [HLS.out]; simp; omega))
            clear hx0 hx1
            go_wp2
            go_ret3
            exact ⟨eqOut_bad HF.out (by decide) _, pw_below_drewN (n := q) HB6.out⟩
          have hb1 : decide (ls ≤ x) = false := by simpa using hx1
          have HF := Lib.hid (HS1.out (by rw [HLS.out]; simp; omega))
          clear hx0 hx1
          go_wp2
          go_roundw
          case rel => exact ⟨k + 1, by omega, by go_num, HF, q, rfl⟩
          case measure => simp [intOf]; omega
        · have hT2 := hT.out
          rw [List.take_of_length_le (by rw [HN.out]; omega)] at hT2
          have HT2 := Lib.hid hT2; clear hT2 hT
          have hlt2 : decide ((k : Int) < (N : Int)) = false := by simp; omega
          have HTA : Hid ((ins ++ outs).all (netOk nc nd) = true) := Lib.hid (by rw [HAL.out]; exact HT2.out)
          have HI6 := Lib.hid (HI.out.below HB6.out)
          have HTWN : Hid (twiceB ins = true → preF nc gc nd gd ins outs = 5) := Lib.hid (fun h => HN2.out 5 (by rw [if_neg (by rw [HTA.out]; simp), if_pos h]))
          clear HT2 HAL HA1 HR6
          go_wp2_with fail
          go_loopw [79] (fun i wr => ∃ k : Nat, k ≤ im ∧ i = .int .i64 k ∧ Hid (∀ i, i < k → (ins.take i).contains (ins.getD i 0) = false) ∧ ∃ q, wr = w6.drewN q) (fun i _ => im - (intOf i).toNat)
          case atStart => exact ⟨0, by omega, rfl, Lib.hid (fun i hi => by omega), q, rfl⟩
          case round =>
            obtain ⟨i, hi, rfl, hTi, q2, rfl⟩ := hrel
            by_cases hlti : i < im
            · have hlti2 : decide ((i : Int) < (im : Int)) = true := by simp; omega
              obtain ⟨ad, rfl, hc1⟩ := rdN HI6.out i hlti
              have HTK := Lib.hid ((HI6.out.below (pw_below_drewN (n := q2) (Below.refl _ _))).take_ i (by omega))
              have HTW := Lib.hid (fun h => HTWN.out (by unfold twiceB; rw [List.any_eq_true]; exact ⟨i, List.mem_range.2 (by rw [HIL.out]; exact hlti), h⟩))
              have HTI : Hid ((ins.take i).contains (ins.getD i 0) = false → ∀ i', i' < i + 1 → (ins.take i').contains (ins.getD i' 0) = false) := Lib.hid (fun h i' hi' => by
                by_cases hq : i' = i
                · subst hq; exact h
                · exact hTi.out i' (by omega))
              generalize ins.getD i 0 = x at hc1 HTW HTI
              generalize ins.take i = tk at HTK HTW HTI
              have hii : (i : Int) ≤ (ic : Int) := by omega
              rcases Bool.eq_false_or_eq_true (tk.contains x) with hcx | hcx
              · have HF := Lib.hid (HTW.out hcx)
                have HCX := Lib.hid hcx; clear hcx
                go_wp2_with ((with_reducible refine (contains_any _ _ _ _ _ _ HTK.out).mono ?_); rintro e w' ⟨rfl, rfl⟩; rw [HCX.out])
                go_ret3
                exact ⟨eqOut_bad HF.out (by decide) _, pw_below_drewN (n := q2) HB6.out⟩
              · have HF := Lib.hid (HTI.out hcx)
                have HCX := Lib.hid hcx; clear hcx
                go_wp2_with ((with_reducible refine (contains_any _ _ _ _ _ _ HTK.out).mono ?_); rintro e w' ⟨rfl, rfl⟩; rw [HCX.out])
                go_roundw
                case rel => exact ⟨i + 1, by omega, by go_num, HF, q2, rfl⟩
                case measure => simp [intOf]; omega
            · have HTW : Hid (twiceB ins = false) := Lib.hid (by
                unfold twiceB
                rw [List.any_eq_false]
                intro i' hi'
                have := List.mem_range.1 hi'
                rw [hTi.out i' (by have := HIL.out; omega)]
                simp)
              have hlti2 : decide ((i : Int) < (im : Int)) = false := by simp; omega
              clear hTi HTWN
              have HBq : Hid (Below w.heap.size w (w6.drewN q2)) := Lib.hid (pw_below_drewN (n := q2) HB6.out)
              have HCq := Lib.hid (blk_drewN HC6.out q2)
              have HDq := Lib.hid (blk_drewN HD6.out q2)
              have HSUB : Hid (w.heap.size + 2 ≤ (w6.drewN q2).heap.size) := Lib.hid (by
                have h1 := blk_lt HD6.out
                show w.heap.size + 2 ≤ w6.heap.size
                omega)
              generalize w6.drewN q2 = w7 at HBq HCq HDq HSUB ⊢
              clear HB6 HC6 HD6 HBX5 HI6 HX6 HB5 HC5 HD5 HOX5
              have HN3 : Hid (∀ x, (if delB gc = true ∨ delB gd = true then (7 : Int) else if depthP (fdG gc) gc.length < 0 ∨ depthP (fdG gd) gd.length < 0 then 10 else 0) = x → preF nc gc nd gd ins outs = x) := Lib.hid (fun x h => HN2.out x (by rw [if_neg (by rw [HTA.out]; simp), if_neg (by rw [HTW.out]; simp)]; exact h))
              clear HN2
              have c0 : w7.cell? ⟨w.heap.size, 0, none⟩ = some (.int .i64 nc) := (blk_cell HCq.out 0).trans rfl
              have c1 : w7.cell? ⟨w.heap.size, 1, none⟩ = some (.slice CA cn cc) := (blk_cell HCq.out 1).trans rfl
              go_wp2_with fail
              refine (delayed_any _ _ _ _ _ _ (HGC.out.below HBq.out)).mono ?_
              rintro e w8 ⟨rfl, hb8⟩
              have HC8 := Lib.hid (blk_below HCq.out hb8)
              have HD8 := Lib.hid (blk_below HDq.out hb8)
              have HB8 := Lib.hid (HBq.out.trans (hb8.mono HBq.out.size))
              have HZ8 : Hid (w.heap.size + 2 ≤ w8.heap.size) := Lib.hid (by have := hb8.size; have := HSUB.out; omega)
              clear hb8 c0 c1 HCq HDq HBq HSUB
              rcases Bool.eq_false_or_eq_true (delB gc) with h5 | h5
              · rw [h5]
                have HR := Lib.hid (HN3.out 7 (by rw [if_pos (.inl h5)]))
                clear h5
                go_wp2_with fail
                go_ret3
                exact ⟨eqOut_bad HR.out (by decide) _, HB8.out⟩
              rw [h5]
              have H5 := Lib.hid h5; clear h5
              have d0 : w8.cell? ⟨w.heap.size + 1, 0, none⟩ = some (.int .i64 nd) := (blk_cell HD8.out 0).trans rfl
              have d1 : w8.cell? ⟨w.heap.size + 1, 1, none⟩ = some (.slice DA dn dc) := (blk_cell HD8.out 1).trans rfl
              go_wp2_with fail
              refine (delayed_any _ _ _ _ _ _ (HGD.out.below HB8.out)).mono ?_
              rintro e w9 ⟨rfl, hb9⟩
              have HC9 := Lib.hid (blk_below HC8.out hb9)
              have HD9 := Lib.hid (blk_below HD8.out hb9)
              have HB9 := Lib.hid (HB8.out.trans (hb9.mono HB8.out.size))
              have HZ9 : Hid (w.heap.size + 2 ≤ w9.heap.size) := Lib.hid (by have := hb9.size; have := HZ8.out; omega)
              clear hb9 d0 d1 HC8 HD8 HB8 HZ8
              rcases Bool.eq_false_or_eq_true (delB gd) with h6 | h6
              · rw [h6]
                have HR := Lib.hid (HN3.out 7 (by rw [if_pos (.inr h6)]))
                clear h6
                go_wp2_with fail
                go_ret3
                exact ⟨eqOut_bad HR.out (by decide) _, HB9.out⟩
              rw [h6]
              have H6 := Lib.hid h6; clear h6
              have HN4 : Hid (∀ x, (if depthP (fdG gc) gc.length < 0 ∨ depthP (fdG gd) gd.length < 0 then (10 : Int) else 0) = x → preF nc gc nd gd ins outs = x) := Lib.hid (fun x h => HN3.out x (by rw [if_neg (by rw [H5.out, H6.out]; simp)]; exact h))
              clear HN3
              have HG1 := Lib.hid (validF_ok H1.out).2.2.1
              have HG2 := Lib.hid (validF_ok H2.out).2.2.1
              have c0 : w9.cell? ⟨w.heap.size, 0, none⟩ = some (.int .i64 nc) := (blk_cell HC9.out 0).trans rfl
              have c1 : w9.cell? ⟨w.heap.size, 1, none⟩ = some (.slice CA cn cc) := (blk_cell HC9.out 1).trans rfl
              go_wp2_with fail
              refine (depth58_any _ _ _ _ _ _ (HGC.out.below HB9.out) (by have := HG1.out; have := HGCL.out; omega)).mono ?_
              rintro e w10 ⟨rfl, hb10⟩
              have HC10 := Lib.hid (blk_below HC9.out hb10)
              have HD10 := Lib.hid (blk_below HD9.out hb10)
              have HB10 := Lib.hid (HB9.out.trans (hb10.mono HB9.out.size))
              have HZ10 : Hid (w.heap.size + 2 ≤ w10.heap.size) := Lib.hid (by have := hb10.size; have := HZ9.out; omega)
              clear hb10 c0 c1 HC9 HD9 HB9 HZ9
              have HDP1 : Hid (depthP (fdG gc) gc.length = depthP (fdG gc) cn) := Lib.hid (by rw [HGCL.out])
              generalize hdp1 : depthP (fdG gc) cn = dp1 at HDP1 ⊢
              have HDE1 := Lib.hid hdp1; clear hdp1
              by_cases h7 : dp1 < 0
              · have h7' : decide (dp1 < 0) = true := by simpa using h7
                have HR := Lib.hid (HN4.out 10 (by rw [if_pos (.inl (by rw [HDP1.out]; exact h7))]))
                clear h7
                go_wp2_with fail
                go_ret3
                exact ⟨eqOut_bad HR.out (by decide) _, HB10.out⟩
              have h7' : decide (dp1 < 0) = false := by simpa using h7
              have d0 : w10.cell? ⟨w.heap.size + 1, 0, none⟩ = some (.int .i64 nd) := (blk_cell HD10.out 0).trans rfl
              have d1 : w10.cell? ⟨w.heap.size + 1, 1, none⟩ = some (.slice DA dn dc) := (blk_cell HD10.out 1).trans rfl
              go_wp2_with fail
              refine (depth58_any _ _ _ _ _ _ (HGD.out.below HB10.out) (by have := HG2.out; have := HGDL.out; omega)).mono ?_
              rintro e w11 ⟨rfl, hb11⟩
              have HC11 := Lib.hid (blk_below HC10.out hb11)
              have HD11 := Lib.hid (blk_below HD10.out hb11)
              have HB11 := Lib.hid (HB10.out.trans (hb11.mono HB10.out.size))
              have HZ11 : Hid (w.heap.size + 2 ≤ w11.heap.size) := Lib.hid (by have := hb11.size; have := HZ10.out; omega)
              clear hb11 d0 d1 HC10 HD10 HB10 HZ10
              have HDP2 : Hid (depthP (fdG gd) gd.length = depthP (fdG gd) dn) := Lib.hid (by rw [HGDL.out])
              generalize hdp2 : depthP (fdG gd) dn = dp2 at HDP2 ⊢
              have HDE2 := Lib.hid hdp2; clear hdp2
              by_cases h8 : dp2 < 0
              · have h8' : decide (dp2 < 0) = true := by simpa using h8
                have HR := Lib.hid (HN4.out 10 (by rw [if_pos (.inr (by rw [HDP2.out]; exact h8))]))
                clear h8
                go_wp2_with fail
                go_ret3
                exact ⟨eqOut_bad HR.out (by decide) _, HB11.out⟩
              have h8' : decide (dp2 < 0) = false := by simpa using h8
              have HP : Hid (preF nc gc nd gd ins outs = 0) := Lib.hid (HN4.out 0 (by rw [HDP1.out, HDP2.out, if_neg (by omega)]))
              clear HN4
              have HE : Hid (eqAns nc gc nd gd ins outs = match (List.range (2 ^ ins.length)).find? (difB nc gc nd gd ins outs) with | some r => (some (rowTo ins.length r ins.length), false, 0) | none => (none, true, 0)) := Lib.hid (if_neg (by rw [HP.out]; simp))
              obtain ⟨v1, v2, v3, v4⟩ := validF_ok H1.out
              obtain ⟨u1, u2, u3, u4⟩ := validF_ok H2.out
              obtain ⟨n1, rfl⟩ := Int.eq_ofNat_of_zero_le (show 0 ≤ nc by omega)
              obtain ⟨n2, rfl⟩ := Int.eq_ofNat_of_zero_le (show 0 ≤ nd by omega)
              have hn1 : n1 ≤ 40 := by omega
              have hn2 : n2 ≤ 40 := by omega
              have hn1' : 1 ≤ n1 := by omega
              have hn2' : 1 ≤ n2 := by omega
              have HV4 := Lib.hid v4
              have HU4 := Lib.hid u4
              have HDG1 : Hid (0 ≤ depthP (fdG gc) gc.length) := Lib.hid (by rw [HDP1.out]; simp at h7'; exact h7')
              have HDG2 : Hid (0 ≤ depthP (fdG gd) gd.length) := Lib.hid (by rw [HDP2.out]; simp at h8'; exact h8')
              clear v1 v2 v3 v4 u1 u2 u3 u4 HP
              obtain ⟨M, hM⟩ : ∃ M : Nat, 2 ^ im = M := ⟨_, rfl⟩
              have hM16 : M ≤ 16 := by
                have h5 : im = 0 ∨ im = 1 ∨ im = 2 ∨ im = 3 ∨ im = 4 := by omega
                rcases h5 with h | h | h | h | h <;> rw [h] at hM <;> omega
              have hw35 : wrap64 (2 ^ im) = (M : Int) := by
                rw [show ((2 : Int) ^ im) = ((2 ^ im : Nat) : Int) by simp, hM]
                simp only [wrap64, IntKind.wrap_i64]
                omega
              have HM := Lib.hid hM; clear hM
              go_wp2_with fail
              rw [hw35]
              clear hw35
              go_loopw [107] (fun i wr => ∃ r : Nat, r ≤ M ∧ i = .int .i64 r ∧ Hid (∀ r', r' < r → difB n1 gc n2 gd ins outs r' = false) ∧ Hid (Below w.heap.size w wr) ∧ Hid (wr.heap[w.heap.size]? = some (.cells #[.int .i64 n1, .slice CA cn cc] 39 (0, 0))) ∧ Hid (wr.heap[w.heap.size + 1]? = some (.cells #[.int .i64 n2, .slice DA dn dc] 39 (0, 0))) ∧ Hid (w.heap.size + 2 ≤ wr.heap.size)) (fun i _ => M - (intOf i).toNat)
              case atStart => exact ⟨0, Nat.zero_le _, rfl, Lib.hid (fun r hr => by omega), HB11, HC11, HD11, HZ11⟩
              case round =>
                obtain ⟨r, hr, rfl, hR, hB, hC, hD, hZ⟩ := hrel
                clear HB11 HC11 HD11 HZ11
                obtain ⟨wx, rfl⟩ : ∃ wx : World, wx = wr := ⟨_, rfl⟩
                by_cases hlt : r < M
                · have hlt2 : decide ((r : Int) < (M : Int)) = true := by simp; omega
                  have hmk0 := make0 im (by omega) wx
                  have hnb0 := own_make0 wx (w.heap.size + 2) im hZ.out (by omega)
                  generalize madeCells #[.int .i64 0] im = mk0 at hmk0 hnb0
                  have HNB0 := Lib.hid hnb0; clear hnb0
                  have HX0 : Hid (Below wx.heap.size wx (wx.alloc (.cells mk0 3))) := Lib.hid ((Below.refl _ _).alloc (Nat.le_refl _) _)
                  go_wp2_with fail
                  clear hmk0
                  have HB0 := Lib.hid (hB.out.trans (HX0.out.mono hB.out.size))
                  have HC0 := Lib.hid (blk_below hC.out HX0.out)
                  have HD0 := Lib.hid (blk_below hD.out HX0.out)
                  have HZ0 : Hid (w.heap.size + 2 ≤ (wx.alloc (.cells mk0 3)).heap.size) := Lib.hid (by have h1 := HX0.out.size; have h2 := hZ.out; omega)
                  have HN0 : Hid ((wx.alloc (.cells mk0 3)).ownsRow (w.heap.size + 2) 85 2 (.slice none 0 0) (dvsTo ins r 0).length (flatD (dvsTo ins r 0))) := Lib.hid (own_nil _ _ _ _)
                  have HN1 : Hid ((wx.alloc (.cells mk0 3)).ownsRow (w.heap.size + 2) 3 1 (.slice (some ⟨wx.heap.size, 0, none⟩) 0 im) (rowTo im r 0).length (nums .i64 (rowTo im r 0))) := HNB0
                  have hrM : r < 16 := by omega
                  go_loopw [21, 20, 115] (fun dv vv i wr => ∃ k : Nat, k ≤ im ∧ i = .int .i64 k ∧ Hid (wr.ownsRow (w.heap.size + 2) 85 2 dv (dvsTo ins r k).length (flatD (dvsTo ins r k))) ∧ Hid (wr.ownsRow (w.heap.size + 2) 3 1 vv (rowTo im r k).length (nums .i64 (rowTo im r k))) ∧ Hid (Below w.heap.size w wr) ∧ Hid (wr.heap[w.heap.size]? = some (.cells #[.int .i64 n1, .slice CA cn cc] 39 (0, 0))) ∧ Hid (wr.heap[w.heap.size + 1]? = some (.cells #[.int .i64 n2, .slice DA dn dc] 39 (0, 0))) ∧ Hid (w.heap.size + 2 ≤ wr.heap.size)) (fun _ _ i _ => im - (intOf i).toNat)
                  case atStart => exact ⟨0, Nat.zero_le _, rfl, HN0, HN1, HB0, HC0, HD0, HZ0⟩
                  case round =>
                    obtain ⟨k, hk, rfl, hDr, hVr, hBk, hCk, hDk, hZk⟩ := hrel
                    clear HN0 HN1 HB0 HC0 HD0 HZ0 HNB0 HX0 hB hC hD hZ
                    obtain ⟨wy, rfl⟩ : ∃ wy : World, wy = wr := ⟨_, rfl⟩
                    by_cases hltk : k < im
                    · have hltk2 : decide ((k : Int) < (im : Int)) = true := by simp; omega
                      obtain ⟨ad, rfl, hcin⟩ := rdN (HI.out.below hBk.out) k hltk
                      have HRD := Lib.hid (fun (W : World) (h : Below w.heap.size w W) => rdN (HI.out.below h) k hltk)
                      obtain ⟨sh, hsh⟩ : ∃ sh : Nat, im - 1 - k = sh := ⟨_, rfl⟩
                      have hs1 : (im : Int) - 1 - (k : Int) = (sh : Int) := by omega
                      have hs2 : sh ≤ 3 := by omega
                      have hand := and1 ((r : Int) / 2 ^ sh)
                      have hbb : 0 ≤ (r : Int) / 2 ^ sh % 2 ∧ (r : Int) / 2 ^ sh % 2 < 2 := by omega
                      have HBV : Hid (bitV im r k = 2 + (r : Int) / 2 ^ sh % 2) := Lib.hid (by unfold bitV; rw [hsh])
                      generalize (r : Int) / 2 ^ sh % 2 = b at hand hbb HBV
                      obtain ⟨hbb0, hbb1⟩ := hbb
                      have HRS : Hid (rowTo im r (k + 1) = rowTo im r k ++ [2 + b]) := Lib.hid (by show rowTo im r k ++ [bitV im r k] = _; rw [HBV.out])
                      have HDS : Hid (dvsTo ins r (k + 1) = dvsTo ins r k ++ [⟨ins.getD k 0, 2 + b⟩]) := Lib.hid (by show dvsTo ins r k ++ [⟨_, bitV ins.length r k⟩] = _; rw [HIL.out, HBV.out])
                      generalize ins.getD k 0 = nk at hcin HDS HRD
                      have HRL := Lib.hid (rowTo_len im r k)
                      have HDL := Lib.hid (dvsTo_len ins r k)
                      have hVr2 := hVr.out
                      have hDr2 := hDr.out
                      clear hVr hDr
                      generalize rowTo im r k = RL at hVr2 HRS HRL
                      generalize dvsTo ins r k = DL at hDr2 HDS HDL
                      obtain ⟨VA, vc, rfl⟩ := own_slice hVr2
                      generalize hdl : DL.length = dl at hDr2 HDL
                      have HDLN := Lib.hid hdl; clear hdl
                      obtain ⟨DRA, dvc, rfl⟩ := own_slice hDr2
                      have HVr := Lib.hid hVr2; clear hVr2
                      have HDr := Lib.hid hDr2; clear hDr2
                      have HLv := Lib.hid (show (RL.length + 1) * 8 ≤ 140737488355328 by have := HRL.out; omega)
                      have hdl4 : dl ≤ 4 := by have := HDL.out; omega
                      go_wp2_with (at_builtin; first
                        | (refine print_append_num (w0 := wy) (w.heap.size + 2) rfl (.tmp 129) (.tmp 131) 22 3 .i64 8 rfl Try.underlying22 info3 (by decide) _ RL (2 + b) rfl rfl HVr.out (Below.refl _ _) hZk.out HLv.out ?_; intro v1 w1 h1 h2 h3 _; have HV1 := Lib.hid h1; have HG1 := Lib.hid h3; clear h1 h2 h3; have HC1 := Lib.hid (blk_grown hCk.out HG1.out (row_ne_blk HVr.out hCk.out (by decide))); have HD1 := Lib.hid (blk_grown hDk.out HG1.out (row_ne_blk HVr.out hDk.out (by decide))); have HB1 : Hid (Below w.heap.size w w1) := Lib.hid (hBk.out.grown HG1.out (by have := hZk.out; omega) (fun q hq => by have := own_base HVr.out q hq; omega)); have HZ1 : Hid (w.heap.size + 2 ≤ w1.heap.size) := Lib.hid (by have h1 := HG1.out.size; have h2 := hZk.out; omega); have HDr1 := Lib.hid (own_other HDr.out HG1.out (own_type_ne HDr.out HVr.out (by decide))); have hcin : w1.cell? (ad.add k) = some (.int .i64 nk) := (by obtain ⟨ad', ha', hc'⟩ := HRD.out w1 HB1.out; injection ha' with ha'; rw [ha']; exact hc'); have HDA := Lib.hid (HDr1.out.alloc (.cells #[.int .i64 nk, .int .i64 (2 + b)] 85)); have HNW := Lib.hid (World.news_of_block (blk_new w1 (.cells #[.int .i64 nk, .int .i64 (2 + b)] 85))); have HSZ : Hid ((w1.alloc (.cells #[.int .i64 nk, .int .i64 (2 + b)] 85)).heap.size = w1.heap.size + 1) := Lib.hid (Array.size_push _); have HBASE : Hid (w.heap.size + 2 ≤ (w1.alloc (.cells #[.int .i64 nk, .int .i64 (2 + b)] 85)).heap.size) := Lib.hid (by have h1 := HSZ.out; have h2 := HZ1.out; omega); have HONE : Hid (∀ u ∈ [Value.int .i64 nk, Value.int .i64 (2 + b)], u.oneCell' = true) := Lib.hid (by simp [Value.oneCell']))
                        | (refine wpList_append_lies (w := (w1.alloc (.cells #[.int .i64 nk, .int .i64 (2 + b)] 85))) rfl (.tmp 133) (.tmp 137) 40 rfl (w.heap.size + 2) 85 i85 (.agg #[.int .i64 0, .int .i64 0]) 2 16 Try.underlying40 hi85 hz85 hs85 hb85 rfl (by omega) (.slice DRA dl dvc) dl (flatD DL) rfl HDA.out ⟨w1.heap.size, 0, none⟩ 1 1 [.int .i64 nk, .int .i64 (2 + b)] rfl rfl HNW.out HONE.out (by omega) (by simp only [maxLen]; omega) (by omega) HBASE.out (w1.heap.size + 1) HSZ.out ?_; intro g2 cap2 w10 hown2 hgrow2 hat2 hlt2; have HD9 := Lib.hid hown2; have HG9 := Lib.hid hgrow2; clear hown2 hgrow2 hat2 hlt2))
                      have HDx : Hid (w10.ownsRow (w.heap.size + 2) 85 2 (.slice (some ⟨g2, 0, none⟩) (dl + 1) cap2) (dvsTo ins r (k + 1)).length (flatD (dvsTo ins r (k + 1)))) := Lib.hid (by rw [HDS.out, flatD_append, List.length_append, HDLN.out]; exact HD9.out)
                      have HVx : Hid (w10.ownsRow (w.heap.size + 2) 3 1 v1 (rowTo im r (k + 1)).length (nums .i64 (rowTo im r (k + 1)))) := Lib.hid (by rw [HRS.out]; exact own_other (HV1.out.alloc (.cells #[.int .i64 nk, .int .i64 (2 + b)] 85)) HG9.out (own_type_ne (HV1.out.alloc (.cells #[.int .i64 nk, .int .i64 (2 + b)] 85)) HDA.out (by decide)))
                      have HBx : Hid (Below w.heap.size w w10) := Lib.hid ((HB1.out.alloc HB1.out.size (.cells #[.int .i64 nk, .int .i64 (2 + b)] 85)).grown HG9.out (by have h1 := HBASE.out; omega) (fun q hq => by have := own_base HDA.out q hq; omega))
                      have HCx := Lib.hid (blk_grown (blk_alloc HC1.out (.cells #[.int .i64 nk, .int .i64 (2 + b)] 85)) HG9.out (row_ne_blk HDA.out (blk_alloc HC1.out (.cells #[.int .i64 nk, .int .i64 (2 + b)] 85)) (by decide)))
                      have HDDx := Lib.hid (blk_grown (blk_alloc HD1.out (.cells #[.int .i64 nk, .int .i64 (2 + b)] 85)) HG9.out (row_ne_blk HDA.out (blk_alloc HD1.out (.cells #[.int .i64 nk, .int .i64 (2 + b)] 85)) (by decide)))
                      have HZx : Hid (w.heap.size + 2 ≤ w10.heap.size) := Lib.hid (by have h1 := HBASE.out; have h2 := HG9.out.size; omega)
                      first
                      | (go_roundw; (case rel => exact ⟨k + 1, by omega, by go_num, HDx, HVx, HBx, HCx, HDDx, HZx⟩); (case measure => simp [intOf]; omega))
                      | exact ⟨⟨k + 1, by omega, by go_num, HDx, HVx, HBx, HCx, HDDx, HZx⟩, by simp [intOf]; omega⟩
                      | exact ⟨⟨_, _, .int .i64 ((k : Int) + 1), ⟨k + 1, by omega, by go_num, HDx, HVx, HBx, HCx, HDDx, HZx⟩, rfl, rfl, rfl⟩, by simp [intOf]; omega⟩
                    · have hltk2 : decide ((k : Int) < (im : Int)) = false := by simp; omega
                      have hkim : k = ins.length := by have := HIL.out; omega
                      rw [hkim] at hDr hVr
                      have hkl : (dvsTo ins r ins.length).length = im := by rw [dvsTo_len, HIL.out]
                      have HDok := Lib.hid (dvsTo_ok HTA.out r ins.length (Nat.le_refl _))
                      clear hkim
                      obtain ⟨q1, m1, e1, _, _, _, _, s1, a1, l1⟩ := restV_is H1.out HDok.out.1 H5.out HDG1.out
                      obtain ⟨q2, m2, e2, _, _, _, _, s2, a2, l2⟩ := restV_is H2.out HDok.out.2 H6.out HDG2.out
                      obtain rfl : n1 = q1 := by omega
                      obtain rfl : n2 = q2 := by omega
                      clear e1 e2
                      have HDIF : Hid (difB n1 gc n2 gd ins outs r = outs.any fun n => (restV n1 gc (dvsTo ins r ins.length)).getD n.toNat 0 != (restV n2 gd (dvsTo ins r ins.length)).getD n.toNat 0) := Lib.hid rfl
                      obtain ⟨DRA, dvc, rfl, hdr⟩ := drow_reads0 hDr.out
                      generalize dvsTo ins r ins.length = DS at hdr HDIF a1 a2 l1 l2 hkl s1 s2 HDok
                      rw [hkl] at hdr ⊢
                      clear a1; have HA1 := Lib.hid s1; clear s1
                      clear a2; have HA2 := Lib.hid s2; clear s2
                      have HL1 := Lib.hid l1; clear l1
                      have HL2 := Lib.hid l2; clear l2
                      clear hkl
                      generalize restV n1 gc DS = V1 at HA1 HL1 HDIF
                      generalize restV n2 gd DS = V2 at HA2 HL2 HDIF
                      have HDSk := Lib.hid hdr; clear hdr hDr
                      have HBk := hBk; have HKCk := hCk; have HKDk := hDk
                      go_wp2_with fail
                      have c0 : wy.cell? ⟨w.heap.size, 0, none⟩ = some (.int .i64 n1) := (blk_cell HKCk.out 0).trans rfl
                      have c1 : wy.cell? ⟨w.heap.size, 1, none⟩ = some (.slice CA cn cc) := (blk_cell HKCk.out 1).trans rfl
                      refine wp_region_tail 99 (fun w' => w'.cell? ⟨w.heap.size, 0, none⟩ = some (.int .i64 n1) ∧ w'.cell? ⟨w.heap.size, 1, none⟩ = some (.slice CA cn cc)) (by kernel_rfl) ?_
                      change wpAnyF _ _ _ _ _ _ _ _ _ wy.drew
                      refine wpAnyF_take (i := 0) (v := .agg #[.int .i64 n1, .slice CA cn cc]) rfl (by kernel_rfl) (by kernel_rfl) (by kernel_rfl) (by kernel_rfl) (fun _ _ _ h => h) (Or.inl ⟨by rfl, ?_⟩) ⟨c0, c1⟩ ?_
                      · rintro W ⟨y0, y1⟩
                        go_simp
                      try simp only [Act.put, List.setIfInBounds_toArray, List.set_cons_zero, List.set_cons_succ]
                      refine wpAnyF_take (i := 2) (v := .slice DRA im dvc) rfl (by kernel_rfl) (by kernel_rfl) (by kernel_rfl) (by kernel_rfl) (fun _ _ _ h => h) (Or.inl ⟨by rfl, ?_⟩) ⟨c0, c1⟩ ?_
                      · rintro W ⟨y0, y1⟩
                        go_simp
                      try simp only [Act.put, List.setIfInBounds_toArray, List.set_cons_zero, List.set_cons_succ]
                      refine wpAnyF_take (i := 3) (v := .pointer (some ⟨w.heap.size, 0, none⟩)) rfl (by kernel_rfl) (by kernel_rfl) (by kernel_rfl) (by kernel_rfl) (fun _ _ _ h => h) (Or.inl ⟨by rfl, ?_⟩) ⟨c0, c1⟩ ?_
                      · rintro W ⟨y0, y1⟩
                        go_simp
                      try simp only [Act.put, List.setIfInBounds_toArray, List.set_cons_zero, List.set_cons_succ]
                      refine wpAnyF_take (i := 4) (v := .int .i64 n1) rfl (by kernel_rfl) (by kernel_rfl) (by kernel_rfl) (by kernel_rfl) (fun _ _ _ h => h) (Or.inl ⟨by rfl, ?_⟩) ⟨c0, c1⟩ ?_
                      · rintro W ⟨y0, y1⟩
                        go_simp
                      try simp only [Act.put, List.setIfInBounds_toArray, List.set_cons_zero, List.set_cons_succ]
                      refine wpAnyF_fork (σ := Nat × Nat × Nat) (some 142) (some 146) (fun x => .pointer (some ⟨x.1, 0, none⟩)) (fun x => .slice (some ⟨x.2.2, 0, none⟩) n1 n1) (fun x W => Hid (Player W x.1 x.2.1 n1 CA cn cc) ∧ Hid (ReadsInt W .i64 (some ⟨x.2.2, 0, none⟩) n1 (List.replicate n1 0)) ∧ Hid (Below wy.heap.size wy W)) 8 (((((((Array.replicate 14 false).setIfInBounds 0 true).setIfInBounds 2 true).setIfInBounds 3 true).setIfInBounds 4 true).setIfInBounds 1 true).setIfInBounds 5 true) ?rest ?fork
                      case fork =>
                        intro REST
                        refine wpAnyF_two (i := 1) (j := 5) rfl rfl (by kernel_rfl) (fun K hK => ?_) (fun K hK => ?_)
                        · refine goes_ (f := 52) Try.func52 (by kernel_rfl) rfl #[.agg #[.int .i64 n1, .slice CA cn cc]] rfl rfl rfl (by simp [Act.eval]) ?_
                          refine (made_any _ _ _ _ _).mono ?_
                          rintro e wp ⟨g, mb, rfl, hpl, hgw, hb5⟩
                          have HY : Hid (Below wy.heap.size wy wp) := Lib.hid ((pw_below_drewN (n := 1) (Below.refl _ _)).trans hb5)
                          have HKX := Lib.hid (blk_below HKCk.out HY.out)
                          clear hb5 c0 c1
                          have c0 : wp.cell? ⟨w.heap.size, 0, none⟩ = some (.int .i64 n1) := (blk_cell HKX.out 0).trans rfl
                          have c1 : wp.cell? ⟨w.heap.size, 1, none⟩ = some (.slice CA cn cc) := (blk_cell HKX.out 1).trans rfl
                          have HPL := Lib.hid hpl; clear hpl hgw
                          have hmk := make22 n1 (by omega) wp
                          have hnb := own_made wp wp.heap.size 3 .i64 n1 (Nat.le_refl _) (by omega)
                          generalize madeCells #[.int .i64 0] n1 = mk at hmk hnb
                          have HNB := Lib.hid hnb; clear hnb
                          have HX : Hid (Below wp.heap.size wp (wp.alloc (.cells mk 3))) := Lib.hid ((Below.refl _ _).alloc (Nat.le_refl _) (.cells mk 3))
                          have HKX2 := Lib.hid (blk_below HKX.out HX.out)
                          refine ⟨_, rfl, ?_⟩
                          refine hK _ _ (fun _ => ⟨c0, c1⟩) ?_
                          clear hK K
                          try simp only [Act.put, List.setIfInBounds_toArray, List.set_cons_zero, List.set_cons_succ]
                          refine wpAnyF_one (i := 5) rfl (by kernel_rfl) (fun K hK => ?_)
                          go_simp
                          refine hK _ _ (fun _ => ⟨(blk_cell HKX2.out 0).trans rfl, (blk_cell HKX2.out 1).trans rfl⟩) ?_
                          clear hK K
                          exact REST (g, mb, wp.heap.size) (wp.alloc (.cells mk 3)) ⟨Lib.hid (HPL.out.below HX.out), Lib.hid (own_reads' HNB.out), Lib.hid (HY.out.trans (HX.out.mono HY.out.size))⟩
                        · have hmk := make22 n1 (by omega) wy.drew
                          have hnb := own_made wy.drew wy.drew.heap.size 3 .i64 n1 (Nat.le_refl _) (by omega)
                          generalize madeCells #[.int .i64 0] n1 = mk at hmk hnb
                          have HNB := Lib.hid hnb; clear hnb
                          have HX : Hid (Below wy.heap.size wy (wy.drew.alloc (.cells mk 3))) := Lib.hid ((pw_below_drewN (n := 1) (Below.refl _ _)).alloc (Nat.le_refl _) (.cells mk 3))
                          have HKX := Lib.hid (blk_below HKCk.out HX.out)
                          go_simp
                          refine hK _ _ (fun _ => ⟨(blk_cell HKX.out 0).trans rfl, (blk_cell HKX.out 1).trans rfl⟩) ?_
                          clear hK K
                          try simp only [Act.put, List.setIfInBounds_toArray, List.set_cons_zero, List.set_cons_succ]
                          refine wpAnyF_one (i := 1) rfl (by kernel_rfl) (fun K hK => ?_)
                          refine goes_ (f := 52) Try.func52 (by kernel_rfl) rfl #[.agg #[.int .i64 n1, .slice CA cn cc]] rfl rfl rfl (by simp [Act.eval]) ?_
                          refine (made_any _ _ _ _ _).mono ?_
                          rintro e wp ⟨g, mb, rfl, hpl, hgw, hb5⟩
                          have HY : Hid (Below wy.heap.size wy wp) := Lib.hid (HX.out.trans (hb5.mono HX.out.size))
                          have HRZ := Lib.hid ((own_reads' HNB.out).below hb5)
                          have HKX3 := Lib.hid (blk_below HKCk.out HY.out)
                          refine ⟨_, rfl, ?_⟩
                          refine hK _ _ (fun _ => ⟨(blk_cell HKX3.out 0).trans rfl, (blk_cell HKX3.out 1).trans rfl⟩) ?_
                          clear hK K
                          rw [Array.setIfInBounds_comm (i := 5) (j := 1) _ _ (by decide)]
                          exact REST (g, mb, wy.drew.heap.size) wp ⟨Lib.hid hpl, HRZ, HY⟩
                      case rest =>
                        rintro ⟨g, mb, b⟩ Wr ⟨HPl, HRz, HBl⟩
                        try simp only [Act.put, List.setIfInBounds_toArray, List.set_cons_zero, List.set_cons_succ]
                        have HBr := Lib.hid (HBk.out.trans (HBl.out.mono HBk.out.size))
                        refine wpAnyF_one (i := 6) rfl (by kernel_rfl) (fun K hK => ?_)
                        refine goes_ (f := 53) Try.func53 (by kernel_rfl) rfl #[.pointer (some ⟨g, 0, none⟩), .slice DRA im dvc, .slice (some ⟨b, 0, none⟩) n1 n1] rfl rfl rfl (by simp [Act.eval]) ?_
                        refine (settle53_any g mb n1 CA cn cc gc DRA im dvc DS _ n1 (List.replicate n1 0) Wr HPl.out (HGC.out.below HBr.out) (HDSk.out.below HBl.out) HRz.out (zeros_val _) HV4.out HDok.out.1 hn1' hn1 (by have := HG1.out; have := HGCL.out; omega) (by omega)).mono ?_
                        rintro e wz ⟨hres, hb5⟩
                        rw [HA1.out] at hres
                        simp only [settleRes] at hres
                        rw [HL1.out] at hres
                        obtain ⟨A5, A5c, rfl, hr5⟩ := hres
                        have HRA5 := Lib.hid hr5; clear hr5
                        have HLOwz : Hid (Below wy.heap.size wy wz) := Lib.hid (HBl.out.trans (hb5.mono HBl.out.size))
                        have HBwz := Lib.hid (HBk.out.trans (HLOwz.out.mono HBk.out.size))
                        have HKCwz := Lib.hid (blk_below HKCk.out HLOwz.out)
                        have HKDwz := Lib.hid (blk_below HKDk.out HLOwz.out)
                        have HDSwz := Lib.hid (HDSk.out.below HLOwz.out)
                        clear hb5 c0 c1 HPl HRz HBl HBr
                        have c0 : wz.cell? ⟨w.heap.size, 0, none⟩ = some (.int .i64 n1) := (blk_cell HKCwz.out 0).trans rfl
                        have c1 : wz.cell? ⟨w.heap.size, 1, none⟩ = some (.slice CA cn cc) := (blk_cell HKCwz.out 1).trans rfl
                        refine ⟨_, rfl, ?_⟩
                        refine hK _ _ (fun _ => ⟨c0, c1⟩) ?_
                        clear hK K
                        try simp only [Act.put, List.setIfInBounds_toArray, List.set_cons_zero, List.set_cons_succ]
                        refine wpAnyF_one (i := 7) rfl (by kernel_rfl) (fun K hK => ?_)
                        go_simp
                        refine hK _ _ (fun _ => ⟨c0, c1⟩) ?_
                        clear hK K
                        try simp only [Act.put, List.setIfInBounds_toArray, List.set_cons_zero, List.set_cons_succ]
                        refine wpAnyF_take (i := 8) (v := .slice A5 n1 A5c) rfl (by kernel_rfl) (by kernel_rfl) (by kernel_rfl) (by kernel_rfl) (fun _ _ _ h => h) (Or.inl ⟨by rfl, ?_⟩) ⟨c0, c1⟩ ?_
                        · rintro W ⟨y0, y1⟩
                          go_simp
                        try simp only [Act.put, List.setIfInBounds_toArray, List.set_cons_zero, List.set_cons_succ]
                        refine wpAnyF_take (i := 9) (v := .int .i64 m1) rfl (by kernel_rfl) (by kernel_rfl) (by kernel_rfl) (by kernel_rfl) (fun _ _ _ h => h) (Or.inl ⟨by rfl, ?_⟩) ⟨c0, c1⟩ ?_
                        · rintro W ⟨y0, y1⟩
                          go_simp
                        try simp only [Act.put, List.setIfInBounds_toArray, List.set_cons_zero, List.set_cons_succ]
                        refine wpAnyF_take (i := 10) (v := .int .i64 0) rfl (by kernel_rfl) (by kernel_rfl) (by kernel_rfl) (by kernel_rfl) (fun _ _ _ h => h) (Or.inl ⟨by rfl, ?_⟩) ⟨c0, c1⟩ ?_
                        · rintro W ⟨y0, y1⟩
                          go_simp
                        try simp only [Act.put, List.setIfInBounds_toArray, List.set_cons_zero, List.set_cons_succ]
                        refine wpAnyF_take (i := 11) (v := .slice A5 n1 A5c) rfl (by kernel_rfl) (by kernel_rfl) (by kernel_rfl) (by kernel_rfl) (fun _ _ _ h => h) (Or.inl ⟨by rfl, ?_⟩) ⟨c0, c1⟩ ?_
                        · rintro W ⟨y0, y1⟩
                          go_simp
                        try simp only [Act.put, List.setIfInBounds_toArray, List.set_cons_zero, List.set_cons_succ]
                        refine wpAnyF_take (i := 12) (v := .int .i64 m1) rfl (by kernel_rfl) (by kernel_rfl) (by kernel_rfl) (by kernel_rfl) (fun _ _ _ h => h) (Or.inl ⟨by rfl, ?_⟩) ⟨c0, c1⟩ ?_
                        · rintro W ⟨y0, y1⟩
                          go_simp
                        try simp only [Act.put, List.setIfInBounds_toArray, List.set_cons_zero, List.set_cons_succ]
                        refine wpAnyF_take (i := 13) (v := .int .i64 0) rfl (by kernel_rfl) (by kernel_rfl) (by kernel_rfl) (by kernel_rfl) (fun _ _ _ h => h) (Or.inl ⟨by rfl, ?_⟩) ⟨c0, c1⟩ ?_
                        · rintro W ⟨y0, y1⟩
                          go_simp
                        try simp only [Act.put, List.setIfInBounds_toArray, List.set_cons_zero, List.set_cons_succ]
                        refine wpAnyF_done (by kernel_rfl) ?_ _
                        clear c0 c1
                        go_simp
                        try simp only [Act.put, List.setIfInBounds_toArray, List.set_cons_zero, List.set_cons_succ]
                        go_wp2_with fail
                        skip
                        have c0 : wz.cell? ⟨w.heap.size + 1, 0, none⟩ = some (.int .i64 n2) := (blk_cell HKDwz.out 0).trans rfl
                        have c1 : wz.cell? ⟨w.heap.size + 1, 1, none⟩ = some (.slice DA dn dc) := (blk_cell HKDwz.out 1).trans rfl
                        refine wp_region_tail 99 (fun w' => w'.cell? ⟨w.heap.size + 1, 0, none⟩ = some (.int .i64 n2) ∧ w'.cell? ⟨w.heap.size + 1, 1, none⟩ = some (.slice DA dn dc)) (by kernel_rfl) ?_
                        change wpAnyF _ _ _ _ _ _ _ _ _ wz.drew
                        refine wpAnyF_take (i := 0) (v := .agg #[.int .i64 n2, .slice DA dn dc]) rfl (by kernel_rfl) (by kernel_rfl) (by kernel_rfl) (by kernel_rfl) (fun _ _ _ h => h) (Or.inl ⟨by rfl, ?_⟩) ⟨c0, c1⟩ ?_
                        · rintro W ⟨y0, y1⟩
                          go_simp
                        try simp only [Act.put, List.setIfInBounds_toArray, List.set_cons_zero, List.set_cons_succ]
                        refine wpAnyF_take (i := 2) (v := .slice DRA im dvc) rfl (by kernel_rfl) (by kernel_rfl) (by kernel_rfl) (by kernel_rfl) (fun _ _ _ h => h) (Or.inl ⟨by rfl, ?_⟩) ⟨c0, c1⟩ ?_
                        · rintro W ⟨y0, y1⟩
                          go_simp
                        try simp only [Act.put, List.setIfInBounds_toArray, List.set_cons_zero, List.set_cons_succ]
                        refine wpAnyF_take (i := 3) (v := .pointer (some ⟨w.heap.size + 1, 0, none⟩)) rfl (by kernel_rfl) (by kernel_rfl) (by kernel_rfl) (by kernel_rfl) (fun _ _ _ h => h) (Or.inl ⟨by rfl, ?_⟩) ⟨c0, c1⟩ ?_
                        · rintro W ⟨y0, y1⟩
                          go_simp
                        try simp only [Act.put, List.setIfInBounds_toArray, List.set_cons_zero, List.set_cons_succ]
                        refine wpAnyF_take (i := 4) (v := .int .i64 n2) rfl (by kernel_rfl) (by kernel_rfl) (by kernel_rfl) (by kernel_rfl) (fun _ _ _ h => h) (Or.inl ⟨by rfl, ?_⟩) ⟨c0, c1⟩ ?_
                        · rintro W ⟨y0, y1⟩
                          go_simp
                        try simp only [Act.put, List.setIfInBounds_toArray, List.set_cons_zero, List.set_cons_succ]
                        refine wpAnyF_fork (σ := Nat × Nat × Nat) (some 153) (some 157) (fun x => .pointer (some ⟨x.1, 0, none⟩)) (fun x => .slice (some ⟨x.2.2, 0, none⟩) n2 n2) (fun x W => Hid (Player W x.1 x.2.1 n2 DA dn dc) ∧ Hid (ReadsInt W .i64 (some ⟨x.2.2, 0, none⟩) n2 (List.replicate n2 0)) ∧ Hid (Below wz.heap.size wz W)) 8 (((((((Array.replicate 14 false).setIfInBounds 0 true).setIfInBounds 2 true).setIfInBounds 3 true).setIfInBounds 4 true).setIfInBounds 1 true).setIfInBounds 5 true) ?rest ?fork
                        case fork =>
                          intro REST
                          refine wpAnyF_two (i := 1) (j := 5) rfl rfl (by kernel_rfl) (fun K hK => ?_) (fun K hK => ?_)
                          · refine goes_ (f := 52) Try.func52 (by kernel_rfl) rfl #[.agg #[.int .i64 n2, .slice DA dn dc]] rfl rfl rfl (by simp [Act.eval]) ?_
                            refine (made_any _ _ _ _ _).mono ?_
                            rintro e wp ⟨g, mb, rfl, hpl, hgw, hb5⟩
                            have HY : Hid (Below wz.heap.size wz wp) := Lib.hid ((pw_below_drewN (n := 1) (Below.refl _ _)).trans hb5)
                            have HKX := Lib.hid (blk_below HKDwz.out HY.out)
                            clear hb5 c0 c1
                            have c0 : wp.cell? ⟨w.heap.size + 1, 0, none⟩ = some (.int .i64 n2) := (blk_cell HKX.out 0).trans rfl
                            have c1 : wp.cell? ⟨w.heap.size + 1, 1, none⟩ = some (.slice DA dn dc) := (blk_cell HKX.out 1).trans rfl
                            have HPL := Lib.hid hpl; clear hpl hgw
                            have hmk := make22 n2 (by omega) wp
                            have hnb := own_made wp wp.heap.size 3 .i64 n2 (Nat.le_refl _) (by omega)
                            generalize madeCells #[.int .i64 0] n2 = mk at hmk hnb
                            have HNB := Lib.hid hnb; clear hnb
                            have HX : Hid (Below wp.heap.size wp (wp.alloc (.cells mk 3))) := Lib.hid ((Below.refl _ _).alloc (Nat.le_refl _) (.cells mk 3))
                            have HKX2 := Lib.hid (blk_below HKX.out HX.out)
                            refine ⟨_, rfl, ?_⟩
                            refine hK _ _ (fun _ => ⟨c0, c1⟩) ?_
                            clear hK K
                            try simp only [Act.put, List.setIfInBounds_toArray, List.set_cons_zero, List.set_cons_succ]
                            refine wpAnyF_one (i := 5) rfl (by kernel_rfl) (fun K hK => ?_)
                            go_simp
                            refine hK _ _ (fun _ => ⟨(blk_cell HKX2.out 0).trans rfl, (blk_cell HKX2.out 1).trans rfl⟩) ?_
                            clear hK K
                            exact REST (g, mb, wp.heap.size) (wp.alloc (.cells mk 3)) ⟨Lib.hid (HPL.out.below HX.out), Lib.hid (own_reads' HNB.out), Lib.hid (HY.out.trans (HX.out.mono HY.out.size))⟩
                          · have hmk := make22 n2 (by omega) wz.drew
                            have hnb := own_made wz.drew wz.drew.heap.size 3 .i64 n2 (Nat.le_refl _) (by omega)
                            generalize madeCells #[.int .i64 0] n2 = mk at hmk hnb
                            have HNB := Lib.hid hnb; clear hnb
                            have HX : Hid (Below wz.heap.size wz (wz.drew.alloc (.cells mk 3))) := Lib.hid ((pw_below_drewN (n := 1) (Below.refl _ _)).alloc (Nat.le_refl _) (.cells mk 3))
                            have HKX := Lib.hid (blk_below HKDwz.out HX.out)
                            go_simp
                            refine hK _ _ (fun _ => ⟨(blk_cell HKX.out 0).trans rfl, (blk_cell HKX.out 1).trans rfl⟩) ?_
                            clear hK K
                            try simp only [Act.put, List.setIfInBounds_toArray, List.set_cons_zero, List.set_cons_succ]
                            refine wpAnyF_one (i := 1) rfl (by kernel_rfl) (fun K hK => ?_)
                            refine goes_ (f := 52) Try.func52 (by kernel_rfl) rfl #[.agg #[.int .i64 n2, .slice DA dn dc]] rfl rfl rfl (by simp [Act.eval]) ?_
                            refine (made_any _ _ _ _ _).mono ?_
                            rintro e wp ⟨g, mb, rfl, hpl, hgw, hb5⟩
                            have HY : Hid (Below wz.heap.size wz wp) := Lib.hid (HX.out.trans (hb5.mono HX.out.size))
                            have HRZ := Lib.hid ((own_reads' HNB.out).below hb5)
                            have HKX3 := Lib.hid (blk_below HKDwz.out HY.out)
                            refine ⟨_, rfl, ?_⟩
                            refine hK _ _ (fun _ => ⟨(blk_cell HKX3.out 0).trans rfl, (blk_cell HKX3.out 1).trans rfl⟩) ?_
                            clear hK K
                            rw [Array.setIfInBounds_comm (i := 5) (j := 1) _ _ (by decide)]
                            exact REST (g, mb, wz.drew.heap.size) wp ⟨Lib.hid hpl, HRZ, HY⟩
                        case rest =>
                          rintro ⟨g, mb, b⟩ Wr ⟨HPl, HRz, HBl⟩
                          try simp only [Act.put, List.setIfInBounds_toArray, List.set_cons_zero, List.set_cons_succ]
                          have HBr := Lib.hid (HBwz.out.trans (HBl.out.mono HBwz.out.size))
                          refine wpAnyF_one (i := 6) rfl (by kernel_rfl) (fun K hK => ?_)
                          refine goes_ (f := 53) Try.func53 (by kernel_rfl) rfl #[.pointer (some ⟨g, 0, none⟩), .slice DRA im dvc, .slice (some ⟨b, 0, none⟩) n2 n2] rfl rfl rfl (by simp [Act.eval]) ?_
                          refine (settle53_any g mb n2 DA dn dc gd DRA im dvc DS _ n2 (List.replicate n2 0) Wr HPl.out (HGD.out.below HBr.out) (HDSwz.out.below HBl.out) HRz.out (zeros_val _) HU4.out HDok.out.2 hn2' hn2 (by have := HG2.out; have := HGDL.out; omega) (by omega)).mono ?_
                          rintro e wv ⟨hres, hb5⟩
                          rw [HA2.out] at hres
                          simp only [settleRes] at hres
                          rw [HL2.out] at hres
                          obtain ⟨B5, B5c, rfl, hr5⟩ := hres
                          have HRB5 := Lib.hid hr5; clear hr5
                          have HLOwv : Hid (Below wz.heap.size wz wv) := Lib.hid (HBl.out.trans (hb5.mono HBl.out.size))
                          have HBwv := Lib.hid (HBwz.out.trans (HLOwv.out.mono HBwz.out.size))
                          have HKCwv := Lib.hid (blk_below HKCwz.out HLOwv.out)
                          have HKDwv := Lib.hid (blk_below HKDwz.out HLOwv.out)
                          have HDSwv := Lib.hid (HDSwz.out.below HLOwv.out)
                          clear hb5 c0 c1 HPl HRz HBl HBr
                          have c0 : wv.cell? ⟨w.heap.size + 1, 0, none⟩ = some (.int .i64 n2) := (blk_cell HKDwv.out 0).trans rfl
                          have c1 : wv.cell? ⟨w.heap.size + 1, 1, none⟩ = some (.slice DA dn dc) := (blk_cell HKDwv.out 1).trans rfl
                          refine ⟨_, rfl, ?_⟩
                          refine hK _ _ (fun _ => ⟨c0, c1⟩) ?_
                          clear hK K
                          try simp only [Act.put, List.setIfInBounds_toArray, List.set_cons_zero, List.set_cons_succ]
                          refine wpAnyF_one (i := 7) rfl (by kernel_rfl) (fun K hK => ?_)
                          go_simp
                          refine hK _ _ (fun _ => ⟨c0, c1⟩) ?_
                          clear hK K
                          try simp only [Act.put, List.setIfInBounds_toArray, List.set_cons_zero, List.set_cons_succ]
                          refine wpAnyF_take (i := 8) (v := .slice B5 n2 B5c) rfl (by kernel_rfl) (by kernel_rfl) (by kernel_rfl) (by kernel_rfl) (fun _ _ _ h => h) (Or.inl ⟨by rfl, ?_⟩) ⟨c0, c1⟩ ?_
                          · rintro W ⟨y0, y1⟩
                            go_simp
                          try simp only [Act.put, List.setIfInBounds_toArray, List.set_cons_zero, List.set_cons_succ]
                          refine wpAnyF_take (i := 9) (v := .int .i64 m2) rfl (by kernel_rfl) (by kernel_rfl) (by kernel_rfl) (by kernel_rfl) (fun _ _ _ h => h) (Or.inl ⟨by rfl, ?_⟩) ⟨c0, c1⟩ ?_
                          · rintro W ⟨y0, y1⟩
                            go_simp
                          try simp only [Act.put, List.setIfInBounds_toArray, List.set_cons_zero, List.set_cons_succ]
                          refine wpAnyF_take (i := 10) (v := .int .i64 0) rfl (by kernel_rfl) (by kernel_rfl) (by kernel_rfl) (by kernel_rfl) (fun _ _ _ h => h) (Or.inl ⟨by rfl, ?_⟩) ⟨c0, c1⟩ ?_
                          · rintro W ⟨y0, y1⟩
                            go_simp
                          try simp only [Act.put, List.setIfInBounds_toArray, List.set_cons_zero, List.set_cons_succ]
                          refine wpAnyF_take (i := 11) (v := .slice B5 n2 B5c) rfl (by kernel_rfl) (by kernel_rfl) (by kernel_rfl) (by kernel_rfl) (fun _ _ _ h => h) (Or.inl ⟨by rfl, ?_⟩) ⟨c0, c1⟩ ?_
                          · rintro W ⟨y0, y1⟩
                            go_simp
                          try simp only [Act.put, List.setIfInBounds_toArray, List.set_cons_zero, List.set_cons_succ]
                          refine wpAnyF_take (i := 12) (v := .int .i64 m2) rfl (by kernel_rfl) (by kernel_rfl) (by kernel_rfl) (by kernel_rfl) (fun _ _ _ h => h) (Or.inl ⟨by rfl, ?_⟩) ⟨c0, c1⟩ ?_
                          · rintro W ⟨y0, y1⟩
                            go_simp
                          try simp only [Act.put, List.setIfInBounds_toArray, List.set_cons_zero, List.set_cons_succ]
                          refine wpAnyF_take (i := 13) (v := .int .i64 0) rfl (by kernel_rfl) (by kernel_rfl) (by kernel_rfl) (by kernel_rfl) (fun _ _ _ h => h) (Or.inl ⟨by rfl, ?_⟩) ⟨c0, c1⟩ ?_
                          · rintro W ⟨y0, y1⟩
                            go_simp
                          try simp only [Act.put, List.setIfInBounds_toArray, List.set_cons_zero, List.set_cons_succ]
                          refine wpAnyF_done (by kernel_rfl) ?_ _
                          clear c0 c1
                          go_simp
                          try simp only [Act.put, List.setIfInBounds_toArray, List.set_cons_zero, List.set_cons_succ]
                          go_wp2_with fail
                          have HAv := Lib.hid (HRA5.out.below HLOwv.out)
                          have HOv := Lib.hid (HO.out.below HBwv.out)
                          have HNET : Hid (∀ j, j < om → 0 ≤ outs.getD j 0 ∧ outs.getD j 0 < n1 ∧ outs.getD j 0 < n2) := Lib.hid (fun j hj => by
                            have hm : outs.getD j 0 ∈ ins ++ outs := by
                              rw [List.getD_eq_getElem?_getD, List.getElem?_eq_getElem (by rw [HOL.out]; exact hj)]
                              exact List.mem_append_right _ (List.getElem_mem _)
                            have hn := List.all_eq_true.1 HTA.out _ hm
                            simpa [netOk, and_assoc] using hn)
                          go_loopw [170] (fun i wr => ∃ j : Nat, j ≤ om ∧ i = .int .i64 j ∧ Hid (∀ j', j' < j → V1.getD (outs.getD j' 0).toNat 0 = V2.getD (outs.getD j' 0).toNat 0) ∧ ∃ q, wr = wv.drewN q) (fun i _ => om - (intOf i).toNat)
                          case atStart => exact ⟨0, Nat.zero_le _, rfl, Lib.hid (fun j hj => by omega), 0, rfl⟩
                          case round =>
                            obtain ⟨j, hj, rfl, hT, q, rfl⟩ := hrel
                            by_cases hltj : j < om
                            · have hltj2 : decide ((j : Int) < (om : Int)) = true := by simp; omega
                              obtain ⟨ao, rfl, hco⟩ := rdN HOv.out j hltj
                              obtain ⟨ho0, ho1, ho2⟩ := HNET.out j hltj
                              obtain ⟨on, hon⟩ := Int.eq_ofNat_of_zero_le ho0
                              rw [hon] at hco ho1 ho2
                              obtain ⟨aa, rfl, hca⟩ := rdN HAv.out on (by omega)
                              obtain ⟨ab, rfl, hcb⟩ := rdN HRB5.out on (by omega)
                              have hnx : Hid (V1.getD on 0 = V2.getD on 0 → ∀ j', j' < j + 1 → V1.getD (outs.getD j' 0).toNat 0 = V2.getD (outs.getD j' 0).toNat 0) := Lib.hid (fun h j' hj' => by
                                by_cases hq : j' = j
                                · subst hq; rw [hon]; exact h
                                · exact hT.out j' (by omega))
                              have hdif : Hid (V1.getD on 0 ≠ V2.getD on 0 → difB n1 gc n2 gd ins outs r = true) := Lib.hid (fun h => by
                                rw [HDIF.out, List.any_eq_true]
                                refine ⟨outs.getD j 0, ?_, ?_⟩
                                · rw [List.getD_eq_getElem?_getD, List.getElem?_eq_getElem (by rw [HOL.out]; exact hltj)]
                                  exact List.getElem_mem _
                                · rw [hon]; simpa using h)
                              have HON := Lib.hid hon; clear hon ho0
                              generalize V1.getD on 0 = x at hca hnx hdif
                              generalize V2.getD on 0 = y at hcb hnx hdif
                              by_cases he : x = y
                              · have hb : (x != y) = false := by simpa using he
                                have HF := Lib.hid (hnx.out he)
                                clear he
                                go_wp2
                                go_quiet (fail)
                                go_wp2
                                first
                                | (go_roundw; (case rel => exact ⟨j + 1, by omega, by go_num, HF, q + nq, by first | rfl | rw [World.drewN_drewN]⟩); (case measure => simp [intOf]; omega))
                              · have hb : (x != y) = true := by simpa using he
                                have HF := Lib.hid (hdif.out he)
                                clear he
                                go_wp2
                                go_quiet (fail)
                                go_wp2
                                have HFD : Hid ((List.range (2 ^ ins.length)).find? (difB n1 gc n2 gd ins outs) = some r) := Lib.hid (find_first (by rw [HIL.out, HM.out]; exact hlt) hR.out HF.out)
                                obtain ⟨VA, vc, hv, hrd⟩ := own_reads hVr.out
                                rw [hv]
                                go_ret3
                                refine ⟨?_, pw_below_drewN (n := _) (by first | exact HBwv.out | exact pw_below_drewN (n := q) HBwv.out)⟩
                                rw [HE.out, HFD.out, HIL.out]
                                have hrd2 := hrd.below (pw_below_drewN (n := nq) (pw_below_drewN (n := q) (HLOwz.out.trans (HLOwv.out.mono HLOwz.out.size))))
                                rw [HIL.out] at hrd2
                                exact ⟨VA, vc, rfl, hrd2⟩
                            · have hltj2 : decide ((j : Int) < (om : Int)) = false := by simp; omega
                              go_wp2_with fail
                              have HDF : Hid (difB n1 gc n2 gd ins outs r = false) := Lib.hid (by
                                rw [HDIF.out, List.any_eq_false]
                                intro n hn
                                obtain ⟨j', hj', e⟩ := List.getElem_of_mem hn
                                have h1 := hT.out j' (by have := HOL.out; omega)
                                rw [List.getD_eq_getElem?_getD (l := outs), List.getElem?_eq_getElem hj', Option.getD_some, e] at h1
                                simpa using h1)
                              have HRn : Hid (∀ r', r' < r + 1 → difB n1 gc n2 gd ins outs r' = false) := Lib.hid (fun r' hr' => by
                                by_cases hq : r' = r
                                · subst hq; exact HDF.out
                                · exact hR.out r' (by omega))
                              have HBn : Hid (Below w.heap.size w (wv.drewN q)) := Lib.hid (pw_below_drewN (n := q) HBwv.out)
                              have HCn := Lib.hid (blk_drewN HKCwv.out q)
                              have HDn := Lib.hid (blk_drewN HKDwv.out q)
                              have HZn : Hid (w.heap.size + 2 ≤ (wv.drewN q).heap.size) := Lib.hid (by have h1 := HLOwz.out.size; have h2 := HLOwv.out.size; have h3 := hZk.out; show _ ≤ wv.heap.size; omega)
                              first
                              | exact ⟨⟨r + 1, by omega, by go_num, HRn, HBn, HCn, HDn, HZn⟩, by simp [intOf]; omega⟩
                              | (go_roundw; (case rel => exact ⟨r + 1, by omega, by go_num, HRn, HBn, HCn, HDn, HZn⟩); (case measure => simp [intOf]; omega))
                · have hlt2 : decide ((r : Int) < (M : Int)) = false := by simp; omega
                  go_wp2_with fail
                  have HFN : Hid ((List.range (2 ^ ins.length)).find? (difB n1 gc n2 gd ins outs) = none) := Lib.hid (find_none (fun i hi => by rw [HIL.out, HM.out] at hi; exact hR.out i (by omega)))
                  go_ret3
                  exact ⟨by rw [HE.out, HFN.out]; exact rfl, hB.out⟩
end Go.Proofs.Ytobdhdehmkmjcaa
