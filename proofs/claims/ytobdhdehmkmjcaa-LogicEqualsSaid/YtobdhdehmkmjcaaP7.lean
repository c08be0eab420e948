/- Settle of the reference. -/
import Derived.Test.YtobdhdehmkmjcaaP6
namespace Go.Proofs.Ytobdhdehmkmjcaa
set_option linter.unusedVariables false
set_option linter.unusedSimpArgs false
open Go.RowKit Go.Proofs.YtobdhdehmkmjcaaW.PrintWords Go.Proofs.YtobdhdehmkmjcaaW.PrintLast

def lenOf : Value → Nat
  | .slice _ n _ => n
  | _ => 0
theorem sameB_comm (xs ys : List Int) : sameB xs ys = sameB ys xs := by
  unfold sameB
  by_cases h : xs = ys
  · subst h; rfl
  · rw [decide_eq_false h, decide_eq_false (fun e => h e.symm)]
theorem mem_at {S : List (List Int)} {y : List Int} {i : Nat} (hi : i < S.length) (h : sameB (S.getD i []) y = true) : memB S y = true := any_at (p := fun x => sameB x y) hi h
theorem SeenOk.rowsL {W : World} {b : Nat} {v : Value} {S : List (List Int)} (h : SeenOk W b v S) : S.length ≤ 9223372036854775807 := h.1

theorem row_ne_blk {W : World} {b n g : Nat} {e t : TypeId} {sz : Nat} {v : Value} {xs : List Value} {cs : Array Value} (h : W.ownsRow b e sz v n xs) (hb : W.heap[g]? = some (.cells cs t (0, 0))) (hne : t ≠ e) : some g ≠ v.ownBlock := by
  intro e'
  rcases h.2 with ⟨rfl, _⟩ | ⟨g', cap, cur, rfl, _, hh, _⟩
  · cases e'
  · simp only [Value.ownBlock, Option.some.injEq] at e'
    subst e'
    rw [hb] at hh
    injection hh with hh
    injection hh with _ h2
    exact hne h2

set_option maxHeartbeats 8000000 in
set_option maxRecDepth 100000 in
theorem rsettle_any (nets : Int) (GA : Option Addr) (gn gc : Nat) (gs : List GateL) (DA : Option Addr) (dn dc : Nat) (ds : List DriveL) (A : Option Addr) (n c : Nat) (start : List Int) (w : World)
    (hg : RdGates w GA gn gs) (hd : RdDrives w DA dn ds) (hs : ReadsInt w .i64 A n start) :
    Calls Try.prog 25 #[.agg #[.int .i64 nets, .slice GA gn gc], .slice DA dn dc, .slice A n c] w fun e w' => settleOut (SettleAns nets gs ds start) w' e ∧ Below w.heap.size w w' := by
  have hnm := hs.2.1
  have HNL := Lib.hid hs.1
  have HDL := Lib.hid hd.1
  have HGL := Lib.hid hg.1
  have hB : Below w.heap.size w (w.alloc (.cells #[.int .i64 nets, .slice GA gn gc] 39)) := (Below.refl _ _).alloc (Nat.le_refl _) _
  have hbk : (w.alloc (.cells #[.int .i64 nets, .slice GA gn gc] 39)).heap[w.heap.size]? = some (.cells #[.int .i64 nets, .slice GA gn gc] 39 (0, 0)) := blk_new _ _
  have c0 : (w.alloc (.cells #[.int .i64 nets, .slice GA gn gc] 39)).cell? ⟨w.heap.size, 0, none⟩ = some (.int .i64 nets) := (blk_cell hbk 0).trans rfl
  have c1 : (w.alloc (.cells #[.int .i64 nets, .slice GA gn gc] 39)).cell? ⟨w.heap.size, 1, none⟩ = some (.slice GA gn gc) := (blk_cell hbk 1).trans rfl
  have HG1 := Lib.hid (hg.below hB)
  have HD1 := Lib.hid (hd.below hB)
  have HS1 := Lib.hid (hs.below hB)
  have HB := Lib.hid hB; clear hB
  have HBK := Lib.hid hbk; clear hbk
  have HG := Lib.hid hg; clear hg
  have HD := Lib.hid hd; clear hd
  have HS := Lib.hid hs; clear hs
  go_enter Try.func25, Try.ntmps25
  go_wp2_with fail
  refine (rsettles_any _ _ _ _ _ _ _ _ _ _ _ _ _ _ HG1.out HD1.out HS1.out).mono ?_
  rintro e w1 ⟨rfl, hb1⟩
  have HBK1 := Lib.hid (blk_below HBK.out hb1)
  have HB1 := Lib.hid (HB.out.trans (hb1.mono HB.out.size))
  clear hb1 c0 c1
  by_cases hz : settlesF nets gs ds start = 0
  · obtain ⟨h1, h2, h3, h4, h5⟩ := settlesF_zero hz
    obtain ⟨v1, v2, v3, v4⟩ := validF_ok h1
    obtain ⟨nn, rfl⟩ := Int.eq_ofNat_of_zero_le (show 0 ≤ nets by omega)
    have hnn : n = nn := by have := HNL.out; omega
    subst hnn
    have HZ := Lib.hid hz
    rw [hz]
    have HDO := Lib.hid h4
    have HGO := Lib.hid v4
    have HSV := Lib.hid (valuesF_ok h2)
    have h60 : gn ≤ 60 := by have := HGL.out; omega
    have h40 : n ≤ 40 := by omega
    clear hz h1 h2 h3 h4 h5 v3 v4
    have hnil : w1.ownsRow w.heap.size 3 1 (.slice none 0 0) ([] : List Int).length (nums .i64 []) := own_nil _ _ _ _
    have HNIL := Lib.hid hnil; clear hnil
    have HS1w := Lib.hid (HS.out.below HB1.out)
    have HL2 := Lib.hid (show (([] : List Int).length + n) * 8 ≤ 140737488355328 by simp; omega)
    have HLE := Lib.hid HB1.out.size
    go_wp2_with (at_builtin; go_must (refine print_append_row w.heap.size rfl (.const (.slice none 0 0)) (.tmp 23) 22 3 .i64 8 rfl Try.underlying22 info3 (by decide) _ [] start A n c rfl rfl HNIL.out HS1w.out HB1.out HLE.out HL2.out ?_); intro q1 wv hq1 hq2 hq3 _; obtain ⟨QA, qc, rfl⟩ := own_slice hq1; have HO1 := Lib.hid hq1; clear hq1; have HB2 := Lib.hid hq2; clear hq2; have HBK2 := Lib.hid (blk_grown HBK1.out hq3 (show some w.heap.size ≠ (Value.slice none 0 0).ownBlock from fun h => by cases h)); clear hq3)
    have HO1' : Hid (wv.ownsRow w.heap.size 3 1 (.slice QA start.length qc) start.length (nums .i64 start)) := HO1
    clear HO1
    have HSE := Lib.hid (seen_new wv w.heap.size _ start HB2.out.size HO1'.out)
    have HB3 := Lib.hid (HB2.out.alloc HB2.out.size (.cells #[.slice QA start.length qc] 22))
    have HBK3 := Lib.hid (blk_alloc HBK2.out (.cells #[.slice QA start.length qc] 22))
    go_wp2_with fail
    go_loopw [10] (fun s wr => ∃ (k : Nat) (now : List Int) (S : List (List Int)) (AS : Option Addr) (cS : Nat), k ≤ 100 ∧ s = .slice AS (k + 1) cS ∧ Hid (SeenOk wr w.heap.size s S) ∧ Hid (S.length = k + 1) ∧ Hid (S.getD k [] = now) ∧ Hid (now.all isVal = true) ∧ Hid (∀ i, i < k + 1 → (S.getD i []).length = n) ∧ Hid (Below w.heap.size w wr) ∧ Hid (wr.heap[w.heap.size]? = some (.cells #[.int .i64 n, .slice GA gn gc] 39 (0, 0))) ∧ Hid (settleF (nextF n gs ds) S now (101 - k) = settleF (nextF n gs ds) [start] start 101)) (fun s _ => 101 - lenOf s)
    case atStart => exact ⟨0, start, [start], _, _, by omega, rfl, HSE, Lib.hid rfl, Lib.hid rfl, Lib.hid HSV.out.1, Lib.hid (fun i hi => by obtain rfl : i = 0 := (by omega); exact HNL.out), HB3, HBK3, Lib.hid rfl⟩
    case round =>
      obtain ⟨k, now, S, AS, cS, hk, rfl, hSE, hSL, hNow, hNV, hLen, hB, hbk, hF⟩ := hrel
      clear HSE HB3 HBK3 HB2 HBK2 HO1' HNIL HS1w
      obtain ⟨wx, rfl⟩ : ∃ wx : World, wx = wr := ⟨_, rfl⟩
      obtain ⟨AS', cS', hse, hSR⟩ := hSE.out.reads
      injection hse with e1 e2 e3
      subst e1 e3
      have hNL : Hid (now.length = n) := Lib.hid (by have := hLen.out k (by omega); rwa [hNow.out] at this)
      obtain ⟨ad, rfl, hcell⟩ := hSR.2.2 (by rw [hSL.out]; omega)
      obtain ⟨NB, nd, nc1, nr1⟩ := hcell k (by rw [hSL.out]; omega)
      rw [hNow.out, hNL.out] at nc1 nr1
      have HSR := Lib.hid hSR; clear hSR
      have HNR := Lib.hid nr1; clear nr1
      clear hcell e2
      have c1 : wx.cell? ⟨w.heap.size, 1, none⟩ = some (.slice GA gn gc) := (blk_cell hbk.out 1).trans rfl
      have hmk := make22 gn (by omega) wx
      have hnb := own_made wx wx.heap.size 3 .i64 gn (Nat.le_refl _) (by omega)
      generalize hGV : (gs.map fun g => ansF g now) = GV at *
      have hgvl : GV.length = gn := by rw [← hGV, List.length_map]; exact HGL.out
      have hgva : ∀ i, i < gn → GV.getD i 0 = ansF (gs.getD i zGate) now := fun i hi => by rw [← hGV]; exact ans_map gs now (by rw [HGL.out]; exact hi)
      have HGV := Lib.hid hGV; clear hGV
      have HGVL := Lib.hid hgvl; clear hgvl
      have HGVA := Lib.hid hgva; clear hgva
      have hnb2 : Hid ((wx.alloc (.cells (madeCells #[.int .i64 0] gn) 3)).ownsRow wx.heap.size 3 1 (.slice (some ⟨wx.heap.size, 0, none⟩) gn gn) gn (nums .i64 (fillL GV 0))) := Lib.hid (by rw [fillL_zero, HGVL.out]; exact hnb)
      clear hnb
      have hwB : Hid (Below wx.heap.size wx (wx.alloc (.cells (madeCells #[.int .i64 0] gn) 3))) := Lib.hid ((Below.refl _ _).alloc (Nat.le_refl _) _)
      go_wp2_with fail
      go_loopw [13] (fun i wy => ∃ q : Nat, q ≤ gn ∧ i = .int .i64 q ∧ Hid (Below wx.heap.size wx wy) ∧ Hid (wy.ownsRow wx.heap.size 3 1 (.slice (some ⟨wx.heap.size, 0, none⟩) gn gn) gn (nums .i64 (fillL GV q)))) (fun i _ => gn - (intOf i).toNat)
      case atStart => exact ⟨0, by omega, rfl, hwB, hnb2⟩
      case round =>
        obtain ⟨q, hq, rfl, hBy, hOy⟩ := hrel
        clear hwB hnb2 hmk c1 nc1
        obtain ⟨wy, rfl⟩ : ∃ wy : World, wy = wr := ⟨_, rfl⟩
        have hBW := Lib.hid (hB.out.trans (hBy.out.mono hB.out.size))
        have hbky := Lib.hid (blk_below hbk.out hBy.out)
        have c1 : wy.cell? ⟨w.heap.size, 1, none⟩ = some (.slice GA gn gc) := (blk_cell hbky.out 1).trans rfl
        by_cases hlq : q < gn
        · obtain ⟨ag, rfl, hgj⟩ := (HG.out.below hBW.out).at_ q hlq
          have hok := all_at HGO.out (k := q) (by rw [HGL.out]; exact hlq)
          have HGQ := Lib.hid (HGVA.out q hlq)
          have HFS := Lib.hid (fillL_set GV q (by rw [HGVL.out]; exact hlq))
          generalize gs.getD q zGate = G at *
          obtain ⟨kd, ins, out, dl⟩ := G
          obtain ⟨g1, ⟨AI, ci, g2, g3, g4⟩, g5, g6⟩ := hgj
          have HG3 := Lib.hid g3; clear g3
          have HOK := Lib.hid hok; clear hok
          obtain ⟨nq1, nq2⟩ := own_at hOy.out (q : Int) (by omega) (by omega)
          rw [show ((q : Nat) : Int).toNat = q from rfl] at nq1 nq2
          clear nq1
          go_wp2_with fail
          refine (rasked_any _ _ _ _ _ _ _ _ _ (n : Int) now _ HOK.out rfl HG3.out (HNR.out.below hBy.out)).mono ?_
          rintro e w5 ⟨rfl, hb5⟩
          have hO5 := pw_own_below hOy.out hb5
          obtain ⟨nr1, nr2⟩ := own_at hO5 (q : Int) (by omega) (by omega)
          obtain ⟨ns1, _⟩ := own_store hO5 (q : Int) (GV.getD q 0)
          rw [show ((q : Nat) : Int).toNat = q from rfl] at nr1 nr2 ns1
          rw [HFS.out] at ns1
          have HNS := Lib.hid ns1; clear ns1 hO5
          have HB5 := Lib.hid (hBy.out.trans (hb5.mono hBy.out.size)); clear hb5
          rw [← HGQ.out]
          generalize GV.getD q 0 = gq at *
          go_wp2_with fail
          go_roundw
          case rel => exact ⟨q + 1, by omega, by go_num, Lib.hid (HB5.out.setCell (Nat.le_refl _) _), HNS⟩
          case measure => simp [intOf]; omega
        · obtain rfl : q = gn := by omega
          have hfa := fillL_all GV
          rw [HGVL.out] at hfa
          rw [hfa] at hOy
          clear hfa
          have c0 : wy.cell? ⟨w.heap.size, 0, none⟩ = some (.int .i64 n) := (blk_cell hbky.out 0).trans rfl
          have HGVV : Hid (GV.all isVal = true) := Lib.hid (by
            rw [← HGV.out, List.all_map, List.all_eq_true]
            intro g hg
            exact ansF_val (List.all_eq_true.1 HGO.out g hg) (by rw [hNL.out]) hNV.out)
          have hxl := nextF_length n gs ds now
          have hxv := nextF_val (ds := ds) HGO.out HDO.out hNL.out hNV.out
          have hxa : ∀ j, j < n → (nextF n gs ds now).getD j 0 = accD ds j (accG gs GV j q) dn := fun j hj => by
            rw [← HGV.out, ← HGL.out, ← HDL.out]; exact acc_next HGO.out HDO.out j hj
          generalize hX : nextF n gs ds now = X at *
          have HX := Lib.hid hX; clear hX
          have HXL := Lib.hid hxl; clear hxl
          have HXV := Lib.hid hxv; clear hxv
          have HXA := Lib.hid hxa; clear hxa
          go_wp2_with fail
          refine (rdriven_any n GA q gc gs _ _ GV DA dn dc ds X _ (HG.out.below hBW.out) (own_reads' hOy.out) (HD.out.below hBW.out) HGVV.out HDO.out h40 HXL.out HXA.out).mono ?_
          rintro e wz ⟨vx, rfl, hox, hbz⟩
          obtain ⟨AX, cX, rfl⟩ := own_slice hox
          have HOX := Lib.hid (own_mono hox (show w.heap.size ≤ wy.heap.size + 1 by have := hBW.out.size; omega)); clear hox
          have HBYZ := Lib.hid hbz
          have HBZ := Lib.hid (hBW.out.trans (hbz.mono hBW.out.size))
          have HBXZ := Lib.hid (hBy.out.trans (hbz.mono hBy.out.size))
          have HBKZ := Lib.hid (blk_below hbky.out hbz); clear hbz
          clear c0 c1
          go_wp2_with fail
          refine (requal_any _ _ _ _ _ now X _ (HNR.out.below HBXZ.out) (own_reads' HOX.out)).mono ?_
          rintro e w6 ⟨rfl, q6, rfl⟩
          rw [sameB_comm now X]
          cases hsb : sameB X now
          · have HSB := Lib.hid hsb; clear hsb
            have HB6 := Lib.hid (pw_below_drewN (n := q6) HBZ.out)
            have HXR := Lib.hid (show ReadsInt (wz.drewN q6) .i64 AX n X from own_reads' HOX.out)
            have HOX6 := Lib.hid (show (wz.drewN q6).ownsRow w.heap.size 3 1 (.slice AX n cX) n (nums .i64 X) from HOX.out)
            have HSE6 := Lib.hid ((hSE.out.below (hBy.out.trans ((show Below wy.heap.size wy wz from HBYZ.out).mono hBy.out.size))).below (show Below wz.heap.size wz (wz.drewN q6) from pw_below_drewN (n := q6) (Below.refl _ _)))
            have HSR6 := Lib.hid ((HSR.out.below (hBy.out.trans ((show Below wy.heap.size wy wz from HBYZ.out).mono hBy.out.size))).below (show Below wz.heap.size wz (wz.drewN q6) from pw_below_drewN (n := q6) (Below.refl _ _)))
            have HBK6 := Lib.hid (show (wz.drewN q6).heap[w.heap.size]? = some (.cells #[.int .i64 n, .slice GA q gc] 39 (0, 0)) from HBKZ.out)
            generalize wz.drewN q6 = wv6 at *
            go_wp2_with fail
            go_loopw [15] (fun i wr => ∃ j : Nat, j ≤ k + 1 ∧ i = .int .i64 j ∧ Hid ((S.take j).any (fun x => sameB x X) = false) ∧ ∃ r, wr = wv6.drewN r) (fun i _ => k + 1 - (intOf i).toNat)
            case atStart => exact ⟨0, by omega, rfl, Lib.hid rfl, 0, rfl⟩
            case round =>
              obtain ⟨j, hj, rfl, hany, r, rfl⟩ := hrel
              by_cases hlj : j < k + 1
              · obtain ⟨ad', had, hcell⟩ := HSR6.out.2.2 (by rw [hSL.out]; omega)
                obtain rfl : ad = ad' := by injection had
                obtain ⟨BJ, dj, cj1, cj2⟩ := hcell j (by rw [hSL.out]; exact hlj)
                have hlnj := hLen.out j hlj
                rw [hlnj] at cj1 cj2
                have HANY := Lib.hid (any_succ (p := fun x => sameB x X) (by rw [hSL.out]; exact hlj) hany.out)
                have HAT := Lib.hid (fun h => any_at (p := fun x => sameB x X) (L := S) (k := j) (by rw [hSL.out]; exact hlj) h)
                clear hcell had hlnj
                generalize S.getD j [] = y at *
                have cj1' : (wv6.drewN r).cell? (ad.add j) = some (.slice BJ n dj) := cj1
                have HCJ : Hid (ReadsInt (wv6.drewN r) .i64 BJ n y) := Lib.hid cj2
                have HXRr : Hid (ReadsInt (wv6.drewN r) .i64 AX n X) := HXR
                clear cj1 cj2
                go_wp2_with fail
                refine (requal_any _ _ _ _ _ y X _ HCJ.out HXRr.out).mono ?_
                rintro e w7 ⟨rfl, q7, rfl⟩
                cases hsy : sameB y X
                · have HS2 := Lib.hid (HANY.out.trans hsy); clear hsy
                  go_wp2_with fail
                  go_roundw
                  case rel => exact ⟨j + 1, by omega, by go_num, HS2, _, by first | rfl | rw [World.drewN_drewN]⟩
                  case measure => simp [intOf]; omega
                · have hmem : memB S X = true := HAT.out hsy
                  have HFIN : Hid (settleF (nextF n gs ds) [start] start 101 = none) := Lib.hid (by
                    rw [← hF.out]
                    exact settleF_stop hk (by rw [HX.out]; exact HSB.out) (.inr (by rw [HX.out]; exact hmem)))
                  clear hsy hmem
                  go_wp2_with fail
                  go_ret3
                  refine ⟨settleOut_ok (nets := (n : Int)) HZ.out ?_, by first | exact pw_below_drewN (n := _) HB6.out | exact pw_below_drewN (n := _) (pw_below_drewN (n := _) HB6.out)⟩
                  rw [Int.toNat_natCast, HFIN.out]
                  exact rfl
              · obtain rfl : j = k + 1 := by omega
                have hmem : memB S X = false := by
                  have h := hany.out
                  rwa [List.take_of_length_le (by rw [hSL.out]; omega)] at h
                have HMEM := Lib.hid hmem; clear hmem hany
                have hbr : Below wv6.heap.size wv6 (wv6.drewN r) := pw_below_drewN (n := r) (Below.refl _ _)
                obtain ⟨cs, hcs, hput⟩ := (HSE6.out.below hbr).own
                have hcl : cs.length = S.length := by have := hcs.1; omega
                have hcs2 := hcs
                rw [← hcl] at hcs2
                have HCS := Lib.hid hcs2; clear hcs2
                have HCS0 := Lib.hid hcs; clear hcs
                have HCL := Lib.hid hcl; clear hcl
                have HPUT := Lib.hid hput; clear hput
                have HBR := Lib.hid (pw_below_drewN (n := r) HB6.out); clear hbr
                have HLE2 := Lib.hid HBR.out.size
                have HOXR : Hid ((wv6.drewN r).ownsRow w.heap.size 3 1 (.slice AX n cX) n (nums .i64 X)) := HOX6
                have HBKR : Hid ((wv6.drewN r).heap[w.heap.size]? = some (.cells #[.int .i64 n, .slice GA q gc] 39 (0, 0))) := HBK6
                have HLB : Hid ((cs.length + 1) * 24 ≤ 140737488355328) := Lib.hid (by have := HCL.out; have := hSL.out; omega)
                have hcl2 : cs.length = k + 1 := by have h1 := HCL.out; have h2 := hSL.out; omega
                go_wp2_with (at_builtin; go_must (refine print_append w.heap.size rfl (.tmp 75) (.tmp 77) 94 22 uV 24 rfl Try.underlying94 info22 rfl (by decide) _ cs (.slice AX n cX) rfl rfl rfl HCS.out HBR.out HLE2.out HLB.out ?_); intro v8 w8 hv8 hb8 hg8 _; obtain ⟨A8, c8, rfl⟩ := own_slice hv8; have HV8 := Lib.hid hv8; clear hv8; have HB8 := Lib.hid hb8; clear hb8; have HBK8 := Lib.hid (blk_grown HBKR.out hg8 (row_ne_blk HCS0.out HBKR.out (by decide))); have HOX8 := Lib.hid (own_other HOXR.out hg8 (own_type_ne HOXR.out HCS0.out (by decide))); have HG8 := Lib.hid hg8; clear hg8)
                · have hk100 : k = 100 := by omega
                  have HFIN : Hid (settleF (nextF n gs ds) [start] start 101 = none) := Lib.hid (by
                    rw [← hF.out]
                    exact settleF_stop hk (by rw [HX.out]; exact HSB.out) (.inl hk100))
                  go_ret3
                  refine ⟨settleOut_ok (nets := (n : Int)) HZ.out ?_, HB8.out⟩
                  rw [Int.toNat_natCast, HFIN.out]
                  exact rfl
                · have hk1 : k < 100 := by omega
                  have hl8 : (cs ++ [Value.slice AX n cX]).length = k + 1 + 1 := by simp; omega
                  rw [hl8] at HV8
                  have HSE8 : Hid (SeenOk w8 w.heap.size (.slice A8 (k + 1 + 1) c8) (S ++ [X])) := Lib.hid (HPUT.out (wv6.drewN r) w8 _ (.slice AX n cX) X (Below.refl _ _) HG8.out (by have := hSL.out; omega) (by rw [show S.length + 1 = k + 1 + 1 by have := hSL.out; omega]; exact HV8.out) (by rw [HXL.out]; exact HOX8.out))
                  have HGO2 : Hid (settleF (nextF n gs ds) (S ++ [X]) X (101 - (k + 1)) = settleF (nextF n gs ds) [start] start 101) := Lib.hid (by
                    rw [← hF.out]
                    have := settleF_go (F := nextF n gs ds) (seen := S) (now := now) (r := k) hk1 (by rw [HX.out]; exact HSB.out) (by rw [HX.out]; exact HMEM.out)
                    rw [HX.out] at this
                    exact this.symm)
                  have HSL2 : Hid ((S ++ [X]).length = k + 1 + 1) := Lib.hid (by rw [List.length_append, hSL.out]; rfl)
                  have HNOW2 : Hid ((S ++ [X]).getD (k + 1) [] = X) := Lib.hid (by rw [List.getD_eq_getElem?_getD, List.getElem?_append_right (by rw [hSL.out]; omega), hSL.out]; simp)
                  have HLEN2 : Hid (∀ i, i < k + 1 + 1 → ((S ++ [X]).getD i []).length = n) := Lib.hid (fun i hi => by
                    by_cases e : i < k + 1
                    · have := hLen.out i e
                      rw [List.getD_eq_getElem?_getD, List.getElem?_append_left (by rw [hSL.out]; exact e), ← List.getD_eq_getElem?_getD]
                      exact this
                    · obtain rfl : i = k + 1 := by omega
                      rw [HNOW2.out, HXL.out])
                  exact ⟨⟨k + 1, X, S ++ [X], _, _, by omega, rfl, HSE8, HSL2, HNOW2, HXV, HLEN2, HB8, HBK8, HGO2⟩, by simp [lenOf]; omega⟩
          · have HSB := Lib.hid hsb; clear hsb
            have HFIN : Hid (settleF (nextF n gs ds) [start] start 101 = some (now, k)) := Lib.hid (by
              rw [← hF.out]
              exact settleF_done hk (by rw [HX.out]; exact HSB.out))
            have hxe : X = now := by have := HSB.out; unfold sameB at this; simpa using this
            have HXE := Lib.hid hxe; clear hxe
            go_wp2_with fail
            go_ret3
            refine ⟨settleOut_ok (nets := (n : Int)) HZ.out ?_, pw_below_drewN (n := q6) HBZ.out⟩
            rw [Int.toNat_natCast, HFIN.out]
            refine ⟨AX, cX, ?_, ?_⟩
            · rw [hNL.out]
              try rfl
            · rw [hNL.out, ← HXE.out]
              exact own_reads' HOX.out
  · have HR := Lib.hid hz
    have hb2 : (settlesF nets gs ds start != 0) = true := by simpa using hz
    have HE := Lib.hid (fun w' => settleOut_bad (nets := nets) (gs := gs) (ds := ds) (start := start) rfl hz w')
    clear hz
    generalize hvv : settlesF nets gs ds start = vv at *
    go_wp2_with fail
    go_ret3
    exact ⟨HE.out _, HB1.out⟩
end Go.Proofs.Ytobdhdehmkmjcaa
