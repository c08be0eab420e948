/- What is wrong with a question for likeness: the reference's equals (62). -/
import Derived.Test.YtobdhdehmkmjcaaEQ0
import Derived.Test.YtobdhdehmkmjcaaT
namespace Go.Proofs.Ytobdhdehmkmjcaa
set_option linter.unusedVariables false
set_option linter.unusedSimpArgs false
open Rows0 Go.RowKit Go.Proofs.YtobdhdehmkmjcaaW.PrintWords Go.Proofs.YtobdhdehmkmjcaaW.PrintLast

theorem all_not {p : Int → Bool} {l : List Int} {k : Nat} (hk : k < l.length) (h : p (l.getD k 0) = false) : l.all p = false := by
  cases ha : l.all p
  · rfl
  · rw [List.getD_eq_getElem?_getD, List.getElem?_eq_getElem hk] at h
    have h2 := List.all_eq_true.1 ha _ (List.getElem_mem hk)
    simp only [Option.getD_some] at h
    rw [h] at h2
    cases h2
theorem all_take {p : Int → Bool} {l : List Int} {k : Nat} (hk : k < l.length) (h1 : (l.take k).all p = true) (h : p (l.getD k 0) = true) : (l.take (k + 1)).all p = true := by
  rw [List.getD_eq_getElem?_getD, List.getElem?_eq_getElem hk] at h
  simp only [Option.getD_some] at h
  rw [List.take_succ_eq_append_getElem hk, List.all_append, h1]
  simp [h]
theorem twice_at {ins : List Int} {i k : Nat} (hi : i < ins.length) (hk : k < i) (h : ins.getD i 0 = ins.getD k 0) : twiceB ins = true := by
  unfold twiceB
  rw [List.any_eq_true]
  refine ⟨i, List.mem_range.2 hi, ?_⟩
  rw [h, List.contains_iff_mem, List.getD_eq_getElem?_getD, List.getElem?_eq_getElem (by omega), Option.getD_some]
  exact List.mem_take_iff_getElem.2 ⟨k, by omega, rfl⟩
theorem twice_not {ins : List Int} (h : ∀ i, i < ins.length → ∀ j, j < i → ins.getD i 0 ≠ ins.getD j 0) : twiceB ins = false := by
  cases ht : twiceB ins
  · rfl
  · unfold twiceB at ht
    rw [List.any_eq_true] at ht
    obtain ⟨i, hi, hc⟩ := ht
    have hi2 := List.mem_range.1 hi
    rw [List.contains_iff_mem] at hc
    obtain ⟨j, hj, e⟩ := List.mem_take_iff_getElem.1 hc
    refine absurd ?_ (h i hi2 j (by omega))
    rw [← e, List.getD_eq_getElem?_getD, List.getElem?_eq_getElem (by omega), Option.getD_some]
set_option maxHeartbeats 4000000 in
set_option maxRecDepth 100000 in
theorem equals62_any (nc : Int) (CA : Option Addr) (cn cc : Nat) (gc : List GateL) (nd : Int) (DA : Option Addr) (dn dc : Nat) (gd : List GateL) (IA : Option Addr) (im ic : Nat) (ins : List Int) (OA : Option Addr) (om oc : Nat) (outs : List Int) (w : World)
    (hgc : RdGates w CA cn gc) (hgd : RdGates w DA dn gd) (hi : ReadsInt w .i64 IA im ins) (ho : ReadsInt w .i64 OA om outs) (him : im ≤ ic) (hom : om ≤ oc) :
    Calls Try.prog 62 #[.agg #[.int .i64 nc, .slice CA cn cc], .agg #[.int .i64 nd, .slice DA dn dc], .slice IA im ic, .slice OA om oc] w fun e w' => e = .returned (.int .i64 (preF nc gc nd gd ins outs)) ∧ Below w.heap.size w w' := by
  have HIL := Lib.hid hi.1
  have HOL := Lib.hid ho.1
  have HGCL := Lib.hid hgc.1
  have HGDL := Lib.hid hgd.1
  obtain ⟨w2, hw2⟩ : ∃ w2, (w.alloc (.cells #[.int .i64 nc, .slice CA cn cc] 39)).alloc (.cells #[.int .i64 nd, .slice DA dn dc] 39) = w2 := ⟨_, rfl⟩
  have hz1 : (w.alloc (.cells #[.int .i64 nc, .slice CA cn cc] 39)).heap.size = w.heap.size + 1 := Array.size_push _
  have hbc : w2.heap[w.heap.size]? = some (.cells #[.int .i64 nc, .slice CA cn cc] 39 (0, 0)) := by rw [← hw2]; exact blk_alloc (blk_new w _) _
  have hbd : w2.heap[w.heap.size + 1]? = some (.cells #[.int .i64 nd, .slice DA dn dc] 39 (0, 0)) := by
    have h := blk_new (w.alloc (.cells #[.int .i64 nc, .slice CA cn cc] 39)) (.cells #[.int .i64 nd, .slice DA dn dc] 39)
    rw [hz1] at h
    rw [← hw2]
    exact h
  have hB : Below w.heap.size w w2 := by rw [← hw2]; exact ((Below.refl _ _).alloc (Nat.le_refl _) _).alloc (by rw [hz1]; exact Nat.le_succ _) _
  have c0 : w2.cell? ⟨w.heap.size, 0, none⟩ = some (.int .i64 nc) := (blk_cell hbc 0).trans rfl
  have c1 : w2.cell? ⟨w.heap.size, 1, none⟩ = some (.slice CA cn cc) := (blk_cell hbc 1).trans rfl
  have d0 : w2.cell? ⟨w.heap.size + 1, 0, none⟩ = some (.int .i64 nd) := (blk_cell hbd 0).trans rfl
  have d1 : w2.cell? ⟨w.heap.size + 1, 1, none⟩ = some (.slice DA dn dc) := (blk_cell hbd 1).trans rfl
  have HB := Lib.hid hB; clear hB
  have HBC := Lib.hid hbc; clear hbc
  have HBD := Lib.hid hbd; clear hbd
  have HGC := Lib.hid hgc; clear hgc
  have HGD := Lib.hid hgd; clear hgd
  have HI := Lib.hid hi; clear hi
  have HO := Lib.hid ho; clear ho
  have HA : Hid (preF nc gc nd gd ins outs = preF nc gc nd gd ins outs) := Lib.hid rfl
  obtain ⟨P, hP⟩ : ∃ P, preF nc gc nd gd ins outs = P := ⟨_, rfl⟩
  have HP := Lib.hid hP
  rw [hP]; clear hP HA
  go_enter Try.func62, Try.ntmps62
  have HW2 := Lib.hid hw2; clear hw2
  go_wp2_with fail
  rw [HW2.out]
  refine (rvalidate_any _ _ _ _ _ _ (HGC.out.below HB.out)).mono ?_
  rintro e w3 ⟨rfl, hb3⟩
  have HBC3 := Lib.hid (blk_below HBC.out hb3)
  have HBD3 := Lib.hid (blk_below HBD.out hb3)
  have HB3 := Lib.hid (HB.out.trans (hb3.mono HB.out.size))
  clear hb3 c0 c1 d0 d1
  have c0 : w3.cell? ⟨w.heap.size, 0, none⟩ = some (.int .i64 nc) := (blk_cell HBC3.out 0).trans rfl
  have c1 : w3.cell? ⟨w.heap.size, 1, none⟩ = some (.slice CA cn cc) := (blk_cell HBC3.out 1).trans rfl
  have d0 : w3.cell? ⟨w.heap.size + 1, 0, none⟩ = some (.int .i64 nd) := (blk_cell HBD3.out 0).trans rfl
  have d1 : w3.cell? ⟨w.heap.size + 1, 1, none⟩ = some (.slice DA dn dc) := (blk_cell HBD3.out 1).trans rfl
  by_cases h1 : validF nc gc = 0
  case neg =>
    have h1' : (validF nc gc != 0) = true := by simpa using h1
    have HR : Hid (validF nc gc = P) := Lib.hid (by rw [← HP.out]; unfold preF; rw [if_pos h1])
    have HH := Lib.hid h1; clear h1
    go_wp2_with fail
    go_ret
    exact ⟨ret_int HR.out, HB3.out⟩
  rw [h1]
  have H1 := Lib.hid h1; clear h1
  go_wp2_with fail
  refine (rvalidate_any _ _ _ _ _ _ (HGD.out.below HB3.out)).mono ?_
  rintro e w4 ⟨rfl, hb4⟩
  have HBC4 := Lib.hid (blk_below HBC3.out hb4)
  have HBD4 := Lib.hid (blk_below HBD3.out hb4)
  have HB4 := Lib.hid (HB3.out.trans (hb4.mono HB3.out.size))
  clear hb4 c0 c1 d0 d1
  have c0 : w4.cell? ⟨w.heap.size, 0, none⟩ = some (.int .i64 nc) := (blk_cell HBC4.out 0).trans rfl
  have c1 : w4.cell? ⟨w.heap.size, 1, none⟩ = some (.slice CA cn cc) := (blk_cell HBC4.out 1).trans rfl
  have d0 : w4.cell? ⟨w.heap.size + 1, 0, none⟩ = some (.int .i64 nd) := (blk_cell HBD4.out 0).trans rfl
  have d1 : w4.cell? ⟨w.heap.size + 1, 1, none⟩ = some (.slice DA dn dc) := (blk_cell HBD4.out 1).trans rfl
  by_cases h2 : validF nd gd = 0
  case neg =>
    have h2' : (validF nd gd != 0) = true := by simpa using h2
    have HR : Hid (validF nd gd = P) := Lib.hid (by rw [← HP.out]; unfold preF; rw [if_neg (by rw [H1.out]; simp), if_pos h2])
    have HH := Lib.hid h2; clear h2
    go_wp2_with fail
    go_ret
    exact ⟨ret_int HR.out, HB4.out⟩
  rw [h2]
  have H2 := Lib.hid h2; clear h2
  by_cases h3 : 4 < im
  · have h3' : decide ((4 : Int) < (im : Int)) = true := by simp; omega
    have HR : Hid (3 = P) := Lib.hid (by rw [← HP.out]; unfold preF; rw [if_neg (by rw [H1.out]; simp), if_neg (by rw [H2.out]; simp), if_pos (.inl (by rw [HIL.out]; exact h3))])
    go_wp2_with fail
    go_ret
    exact ⟨ret_int HR.out, HB4.out⟩
  have h3' : decide ((4 : Int) < (im : Int)) = false := by simp; omega
  by_cases h4 : 64 < om
  · have h4' : decide ((64 : Int) < (om : Int)) = true := by simp; omega
    have HR : Hid (3 = P) := Lib.hid (by rw [← HP.out]; unfold preF; rw [if_neg (by rw [H1.out]; simp), if_neg (by rw [H2.out]; simp), if_pos (.inr (by rw [HOL.out]; exact h4))])
    go_wp2_with fail
    go_ret
    exact ⟨ret_int HR.out, HB4.out⟩
  have h4' : decide ((64 : Int) < (om : Int)) = false := by simp; omega
  have HS : Hid (¬ (4 < ins.length ∨ 64 < outs.length)) := Lib.hid (by rw [HIL.out, HOL.out]; omega)
  have hnil : w4.ownsRow w.heap.size 3 1 (.slice none 0 0) ([] : List Int).length (nums .i64 []) := own_nil _ _ _ _
  have HNIL := Lib.hid hnil; clear hnil
  have HI4 := Lib.hid (HI.out.below HB4.out)
  have HLa := Lib.hid (show (([] : List Int).length + im) * 8 ≤ 140737488355328 by simp; omega)
  have HLb := Lib.hid (show (([] ++ ins : List Int).length + om) * 8 ≤ 140737488355328 by simp; have := HIL.out; omega)
  have HLE := Lib.hid HB4.out.size
  go_wp2_with (at_builtin; first
    | (refine print_append_row w.heap.size rfl (.const (.slice none 0 0)) (.tmp 37) 22 3 .i64 8 rfl Try.underlying22 info3 (by decide) _ [] ins IA im ic rfl rfl HNIL.out HI4.out HB4.out HLE.out HLa.out ?_; intro q1 w5 hq1 hq2 hq3 _; have HBC5 := Lib.hid (blk_grown HBC4.out hq3 (show some w.heap.size ≠ (Value.slice none 0 0).ownBlock from fun h => by cases h)); have HBD5 := Lib.hid (blk_grown HBD4.out hq3 (show some (w.heap.size + 1) ≠ (Value.slice none 0 0).ownBlock from fun h => by cases h)); have HO1 := Lib.hid hq1; clear hq1; have HB5 := Lib.hid hq2; clear hq2 hq3)
    | (refine print_append_row w.heap.size rfl (.tmp 38) (.tmp 39) 22 3 .i64 8 rfl Try.underlying22 info3 (by decide) _ ([] ++ ins) outs OA om oc rfl rfl HO1.out (HO.out.below HB5.out) HB5.out HB5.out.size HLb.out ?_; intro q2 w6 hq1 hq2 hq3 _; have HBC6 := Lib.hid (blk_grown HBC5.out hq3 (row_ne_blk HO1.out HBC5.out (by decide))); have HBD6 := Lib.hid (blk_grown HBD5.out hq3 (row_ne_blk HO1.out HBD5.out (by decide))); have HO2 := Lib.hid hq1; clear hq1; have HB6 := Lib.hid hq2; clear hq2 hq3))
  obtain ⟨QA, qc, rfl⟩ := own_slice HO2.out
  have hr6 := own_reads' HO2.out
  have hN : (([] ++ ins) ++ outs : List Int).length = im + om := by have h1 := HIL.out; have h2 := HOL.out; simp; omega
  have hA0 : (([] ++ ins) ++ outs : List Int) = ins ++ outs := rfl
  rw [hN] at hr6
  rw [hN]
  have HN : Hid ((ins ++ outs).length = im + om) := Lib.hid hN
  have HA1 : Hid ((ins ++ outs).all (netOk nc nd) = false → 1 = P) := Lib.hid (fun h => by rw [← HP.out]; unfold preF; rw [if_neg (by rw [H1.out]; simp), if_neg (by rw [H2.out]; simp), if_neg HS.out, if_pos h])
  rw [hA0] at hr6
  have HR6 := Lib.hid hr6; clear hr6 hN hA0
  generalize hAL : ins ++ outs = AL at HR6 HN HA1
  have HAL := Lib.hid hAL; clear hAL
  have hN68 : im + om ≤ 68 := by omega
  generalize hNN : im + om = N at HR6 HN hN68 ⊢
  have HNN := Lib.hid hNN; clear hNN
  clear HNIL HI4 HLa HLb HLE HO1 c0 c1 d0 d1
  have e0 : w6.cell? ⟨w.heap.size, 0, none⟩ = some (.int .i64 nc) := (blk_cell HBC6.out 0).trans rfl
  have e1 : w6.cell? ⟨w.heap.size + 1, 0, none⟩ = some (.int .i64 nd) := (blk_cell HBD6.out 0).trans rfl
  go_loopw [12] (fun i wr => ∃ k : Nat, k ≤ N ∧ i = .int .i64 k ∧ Hid ((AL.take k).all (netOk nc nd) = true) ∧ ∃ q, wr = w6.drewN q) (fun i _ => N - (intOf i).toNat)
  case atStart => exact ⟨0, by omega, rfl, Lib.hid rfl, 0, rfl⟩
  case round =>
    obtain ⟨k, hk, rfl, hT, q, rfl⟩ := hrel
    by_cases hlt : k < N
    · obtain ⟨ad, rfl, hc⟩ := rdN HR6.out k hlt
      have HS1 := Lib.hid (fun hx => all_take (p := netOk nc nd) (l := AL) (k := k) (by rw [HN.out]; exact hlt) hT.out hx)
      have HS0 := Lib.hid (fun hx => HA1.out (all_not (p := netOk nc nd) (l := AL) (k := k) (by rw [HN.out]; exact hlt) hx))
      generalize AL.getD k 0 = x at hc HS1 HS0
      by_cases hx0 : x < 0
      · have hb0 : decide (x < 0) = true := by simpa using hx0
        have HF := Lib.hid (HS0.out (by simp [netOk]; omega))
        clear hx0
        go_wp2
        go_quiet (fail)
        go_wp2
        go_ret
        exact ⟨ret_int HF.out, pw_below_drewN (n := _) (by first | exact HB6.out | exact pw_below_drewN (n := q) HB6.out)⟩
      have hb0 : decide (x < 0) = false := by simpa using hx0
      by_cases hx1 : nc ≤ x
      · have hb1 : decide (nc ≤ x) = true := by simpa using hx1
        have HF := Lib.hid (HS0.out (by simp [netOk]; omega))
        clear hx0 hx1
        go_wp2
        go_quiet (fail)
        go_wp2
        go_ret
        exact ⟨ret_int HF.out, pw_below_drewN (n := _) (by first | exact HB6.out | exact pw_below_drewN (n := q) HB6.out)⟩
      have hb1 : decide (nc ≤ x) = false := by simpa using hx1
      by_cases hx2 : nd ≤ x
      · have hb2 : decide (nd ≤ x) = true := by simpa using hx2
        have HF := Lib.hid (HS0.out (by simp [netOk]; omega))
        clear hx0 hx1 hx2
        go_wp2
        go_quiet (fail)
        go_wp2
        go_ret
        exact ⟨ret_int HF.out, pw_below_drewN (n := _) (by first | exact HB6.out | exact pw_below_drewN (n := q) HB6.out)⟩
      have hb2 : decide (nd ≤ x) = false := by simpa using hx2
      have HF := Lib.hid (HS1.out (by simp [netOk]; omega))
      clear hx0 hx1 hx2
      go_wp2
      go_quiet (fail)
      go_wp2
      go_roundw
      case rel => exact ⟨k + 1, by omega, by go_num, HF, q + nq, by first | rfl | rw [World.drewN_drewN]⟩
      case measure => simp [intOf]; omega
    · have hT2 := hT.out
      rw [List.take_of_length_le (by rw [HN.out]; omega)] at hT2
      have HT2 := Lib.hid hT2; clear hT2 hT
      go_wp2
      clear HN HR6 HO2
      have HI6 := Lib.hid (HI.out.below HB6.out)
      have HTA : Hid ((ins ++ outs).all (netOk nc nd) = true) := Lib.hid (by rw [HAL.out]; exact HT2.out)
      have HN5 : Hid (twiceB ins = true → 5 = P) := Lib.hid (fun h => by rw [← HP.out]; unfold preF; rw [if_neg (by rw [H1.out]; simp), if_neg (by rw [H2.out]; simp), if_neg HS.out, if_neg (by rw [HTA.out]; simp), if_pos h])
      go_loopw [13] (fun i wr => ∃ k : Nat, k ≤ im ∧ i = .int .i64 k ∧ Hid (∀ i, i < k → ∀ j, j < i → ins.getD i 0 ≠ ins.getD j 0) ∧ ∃ q, wr = w6.drewN q) (fun i _ => im - (intOf i).toNat)
      case atStart => exact ⟨0, by omega, rfl, Lib.hid (fun i hi => by omega), q, rfl⟩
      case round =>
        obtain ⟨i, hi, rfl, hTi, q2, rfl⟩ := hrel
        by_cases hlti : i < im
        · have hlti2 : decide ((i : Int) < (im : Int)) = true := by simp; omega
          go_wp2_with fail
          go_loopw [14] (fun j wr => ∃ k : Nat, k ≤ i ∧ j = .int .i64 k ∧ Hid (∀ j, j < k → ins.getD i 0 ≠ ins.getD j 0) ∧ ∃ q, wr = w6.drewN q) (fun j _ => i - (intOf j).toNat)
          case atStart => exact ⟨0, by omega, rfl, Lib.hid (fun j hj => by omega), q2, rfl⟩
          case round =>
            obtain ⟨j, hj, rfl, hTj, q3, rfl⟩ := hrel
            by_cases hltj : j < i
            · obtain ⟨ad, rfl, hc1⟩ := rdN HI6.out i hlti
              obtain ⟨ad', had, hc2⟩ := rdN HI6.out j (by omega)
              injection had with had
              subst had
              have HEQ := Lib.hid (fun h => HN5.out (twice_at (ins := ins) (i := i) (k := j) (by rw [HIL.out]; exact hlti) hltj h))
              have HNE : Hid (ins.getD i 0 ≠ ins.getD j 0 → ∀ j', j' < j + 1 → ins.getD i 0 ≠ ins.getD j' 0) := Lib.hid (fun h j' hj' => by
                by_cases hq : j' = j
                · subst hq; exact h
                · exact hTj.out j' (by omega))
              generalize hx : ins.getD i 0 = x at hc1 HEQ
              generalize hy : ins.getD j 0 = y at hc2 HEQ
              have HX := Lib.hid hx; clear hx
              have HY := Lib.hid hy; clear hy
              by_cases he : x = y
              · have hb : (x == y) = true := by simpa using he
                have HF := Lib.hid (HEQ.out he)
                clear he
                go_wp2
                go_quiet (fail)
                go_wp2
                go_ret
                exact ⟨ret_int HF.out, pw_below_drewN (n := _) (by first | exact HB6.out | exact pw_below_drewN (n := q3) HB6.out)⟩
              · have hb : (x == y) = false := by simpa using he
                have HF := Lib.hid (HNE.out (by rw [HX.out, HY.out]; exact he))
                clear he
                go_wp2
                go_quiet (fail)
                go_wp2
                go_roundw
                case rel => exact ⟨j + 1, by omega, by go_num, Lib.hid (by rw [← HX.out]; exact HF.out), q3 + nq, by first | rfl | rw [World.drewN_drewN]⟩
                case measure => simp [intOf]; omega
            · obtain rfl : j = i := by omega
              have HF : Hid (∀ i', i' < j + 1 → ∀ j', j' < i' → ins.getD i' 0 ≠ ins.getD j' 0) := Lib.hid (fun i' hi' => by
                by_cases hq : i' = j
                · subst hq; exact hTj.out
                · exact hTi.out i' (by omega))
              go_wp2
              first
              | (go_roundw; (case rel => exact ⟨j + 1, by omega, by go_num, HF, q3, rfl⟩); (case measure => simp [intOf]; omega))
              | exact ⟨⟨j + 1, by omega, by go_num, HF, q3, rfl⟩, by simp [intOf]; omega⟩
        · have HTW : Hid (twiceB ins = false) := Lib.hid (twice_not (fun i' hi' => hTi.out i' (by have := HIL.out; omega)))
          have hlti2 : decide ((i : Int) < (im : Int)) = false := by simp; omega
          have e0b : w6.cell? ⟨w.heap.size, 1, none⟩ = some (.slice CA cn cc) := (blk_cell HBC6.out 1).trans rfl
          have e1b : w6.cell? ⟨w.heap.size + 1, 1, none⟩ = some (.slice DA dn dc) := (blk_cell HBD6.out 1).trans rfl
          clear hTi HN5
          have HBq : Hid (Below w.heap.size w (w6.drewN q2)) := Lib.hid (pw_below_drewN (n := q2) HB6.out)
          go_wp2_with fail
          have HBCq := Lib.hid (blk_drewN HBC6.out q2)
          have HBDq := Lib.hid (blk_drewN HBD6.out q2)
          have HV1 := Lib.hid (validF_ok H1.out).2.2.1
          have HV2 := Lib.hid (validF_ok H2.out).2.2.1
          refine (rdelayed_any _ _ _ _ _ _ (HGC.out.below HBq.out)).mono ?_
          rintro e w7 ⟨rfl, hb7⟩
          have HBC7 := Lib.hid (blk_below HBCq.out hb7)
          have HBD7 := Lib.hid (blk_below HBDq.out hb7)
          have HB7 := Lib.hid (HBq.out.trans (hb7.mono HBq.out.size))
          clear hb7 e0 e0b e1 e1b
          have e0 : w7.cell? ⟨w.heap.size, 0, none⟩ = some (.int .i64 nc) := (blk_cell HBC7.out 0).trans rfl
          have e0b : w7.cell? ⟨w.heap.size, 1, none⟩ = some (.slice CA cn cc) := (blk_cell HBC7.out 1).trans rfl
          have e1 : w7.cell? ⟨w.heap.size + 1, 0, none⟩ = some (.int .i64 nd) := (blk_cell HBD7.out 0).trans rfl
          have e1b : w7.cell? ⟨w.heap.size + 1, 1, none⟩ = some (.slice DA dn dc) := (blk_cell HBD7.out 1).trans rfl
          have HC7 : Hid (delB gc = delB gc) := Lib.hid rfl
          rcases Bool.eq_false_or_eq_true (delB gc) with h5 | h5
          · rw [h5]
            have H5 := Lib.hid h5; clear h5
            have HR : Hid (7 = P) := Lib.hid (by rw [← HP.out]; unfold preF; rw [if_neg (by rw [H1.out]; simp), if_neg (by rw [H2.out]; simp), if_neg HS.out, if_neg (by rw [HTA.out]; simp), if_neg (by rw [HTW.out]; simp), if_pos (.inl H5.out)])
            go_wp2_with fail
            go_ret
            exact ⟨ret_int HR.out, HB7.out⟩
          rw [h5]
          have H5 := Lib.hid h5; clear h5
          go_wp2_with fail
          refine (rdelayed_any _ _ _ _ _ _ (HGD.out.below HB7.out)).mono ?_
          rintro e w8 ⟨rfl, hb8⟩
          have HBC8 := Lib.hid (blk_below HBC7.out hb8)
          have HBD8 := Lib.hid (blk_below HBD7.out hb8)
          have HB8 := Lib.hid (HB7.out.trans (hb8.mono HB7.out.size))
          clear hb8 e0 e0b e1 e1b
          have e0 : w8.cell? ⟨w.heap.size, 0, none⟩ = some (.int .i64 nc) := (blk_cell HBC8.out 0).trans rfl
          have e0b : w8.cell? ⟨w.heap.size, 1, none⟩ = some (.slice CA cn cc) := (blk_cell HBC8.out 1).trans rfl
          have e1 : w8.cell? ⟨w.heap.size + 1, 0, none⟩ = some (.int .i64 nd) := (blk_cell HBD8.out 0).trans rfl
          have e1b : w8.cell? ⟨w.heap.size + 1, 1, none⟩ = some (.slice DA dn dc) := (blk_cell HBD8.out 1).trans rfl
          rcases Bool.eq_false_or_eq_true (delB gd) with h6 | h6
          · rw [h6]
            have H6 := Lib.hid h6; clear h6
            have HR : Hid (7 = P) := Lib.hid (by rw [← HP.out]; unfold preF; rw [if_neg (by rw [H1.out]; simp), if_neg (by rw [H2.out]; simp), if_neg HS.out, if_neg (by rw [HTA.out]; simp), if_neg (by rw [HTW.out]; simp), if_pos (.inr H6.out)])
            go_wp2_with fail
            go_ret
            exact ⟨ret_int HR.out, HB8.out⟩
          rw [h6]
          have H6 := Lib.hid h6; clear h6
          have H56 : Hid (¬ (delB gc = true ∨ delB gd = true)) := Lib.hid (by rw [H5.out, H6.out]; simp)
          go_wp2_with fail
          refine (depth59_any _ _ _ _ _ _ (HGC.out.below HB8.out) (by have h1 := HGCL.out; have h2 := HV1.out; omega)).mono ?_
          rintro e w9 ⟨rfl, hb9⟩
          have HBC9 := Lib.hid (blk_below HBC8.out hb9)
          have HBD9 := Lib.hid (blk_below HBD8.out hb9)
          have HB9 := Lib.hid (HB8.out.trans (hb9.mono HB8.out.size))
          clear hb9 e0 e0b e1 e1b
          have e0 : w9.cell? ⟨w.heap.size, 0, none⟩ = some (.int .i64 nc) := (blk_cell HBC9.out 0).trans rfl
          have e0b : w9.cell? ⟨w.heap.size, 1, none⟩ = some (.slice CA cn cc) := (blk_cell HBC9.out 1).trans rfl
          have e1 : w9.cell? ⟨w.heap.size + 1, 0, none⟩ = some (.int .i64 nd) := (blk_cell HBD9.out 0).trans rfl
          have e1b : w9.cell? ⟨w.heap.size + 1, 1, none⟩ = some (.slice DA dn dc) := (blk_cell HBD9.out 1).trans rfl
          obtain ⟨dp1, hdp1⟩ : ∃ z : Int, depthP (fdG gc) cn = z := ⟨_, rfl⟩
          rw [hdp1]
          rw [← HGCL.out] at hdp1
          have HD1 := Lib.hid hdp1; clear hdp1
          generalize hmx1 : max dp1 0 = mx1
          clear hmx1
          go_wp2_with fail
          refine (depth59_any _ _ _ _ _ _ (HGD.out.below HB9.out) (by have h1 := HGDL.out; have h2 := HV2.out; omega)).mono ?_
          rintro e w10 ⟨rfl, hb10⟩
          have HBC10 := Lib.hid (blk_below HBC9.out hb10)
          have HBD10 := Lib.hid (blk_below HBD9.out hb10)
          have HB10 := Lib.hid (HB9.out.trans (hb10.mono HB9.out.size))
          clear hb10 e0 e0b e1 e1b
          have e0 : w10.cell? ⟨w.heap.size, 0, none⟩ = some (.int .i64 nc) := (blk_cell HBC10.out 0).trans rfl
          have e0b : w10.cell? ⟨w.heap.size, 1, none⟩ = some (.slice CA cn cc) := (blk_cell HBC10.out 1).trans rfl
          have e1 : w10.cell? ⟨w.heap.size + 1, 0, none⟩ = some (.int .i64 nd) := (blk_cell HBD10.out 0).trans rfl
          have e1b : w10.cell? ⟨w.heap.size + 1, 1, none⟩ = some (.slice DA dn dc) := (blk_cell HBD10.out 1).trans rfl
          obtain ⟨dp2, hdp2⟩ : ∃ z : Int, depthP (fdG gd) dn = z := ⟨_, rfl⟩
          rw [hdp2]
          rw [← HGDL.out] at hdp2
          have HD2 := Lib.hid hdp2; clear hdp2
          generalize hmx2 : max dp2 0 = mx2
          clear hmx2
          by_cases h7 : dp1 < 0
          · have hb7 : decide (0 ≤ dp1) = false := by simp; omega
            have H7 := Lib.hid h7
            have HR : Hid (10 = P) := Lib.hid (by rw [← HP.out]; unfold preF; rw [if_neg (by rw [H1.out]; simp), if_neg (by rw [H2.out]; simp), if_neg HS.out, if_neg (by rw [HTA.out]; simp), if_neg (by rw [HTW.out]; simp), if_neg H56.out, if_pos (.inl (by rw [HD1.out]; exact H7.out))])
            go_wp2_with fail
            go_ret
            exact ⟨ret_int HR.out, HB10.out⟩
          have hb7 : decide (0 ≤ dp1) = true := by simp; omega
          by_cases h8 : dp2 < 0
          · have hb8 : decide (0 ≤ dp2) = false := by simp; omega
            have H8 := Lib.hid h8
            have HR : Hid (10 = P) := Lib.hid (by rw [← HP.out]; unfold preF; rw [if_neg (by rw [H1.out]; simp), if_neg (by rw [H2.out]; simp), if_neg HS.out, if_neg (by rw [HTA.out]; simp), if_neg (by rw [HTW.out]; simp), if_neg H56.out, if_pos (.inr (by rw [HD2.out]; exact H8.out))])
            go_wp2_with fail
            go_ret
            exact ⟨ret_int HR.out, HB10.out⟩
          have hb8 : decide (0 ≤ dp2) = true := by simp; omega
          have H78 : Hid (¬ (dp1 < 0 ∨ dp2 < 0)) := Lib.hid (by omega)
          have HR : Hid (0 = P) := Lib.hid (by rw [← HP.out]; unfold preF; rw [if_neg (by rw [H1.out]; simp), if_neg (by rw [H2.out]; simp), if_neg HS.out, if_neg (by rw [HTA.out]; simp), if_neg (by rw [HTW.out]; simp), if_neg H56.out, if_neg (by rw [HD1.out, HD2.out]; exact H78.out)])
          go_wp2_with fail
          go_ret
          exact ⟨ret_int HR.out, HB10.out⟩
end Go.Proofs.Ytobdhdehmkmjcaa
