/- The reference's Equal (31). -/
import Derived.Test.YtobdhdehmkmjcaaEQ1
import Derived.Test.YtobdhdehmkmjcaaA2
namespace Go.Proofs.Ytobdhdehmkmjcaa
set_option linter.unusedVariables false
set_option linter.unusedSimpArgs false
open Rows0 Go.RowKit Go.Proofs.YtobdhdehmkmjcaaW.PrintWords Go.Proofs.YtobdhdehmkmjcaaW.PrintLast

theorem drow_reads0 {W : World} {b : Nat} {v : Value} {ds : List DriveL} (h : W.ownsRow b 85 2 v ds.length (flatD ds)) : ∃ A c, v = .slice A ds.length c ∧ RdDrives W A ds.length ds := by
  cases ds with
  | nil =>
    obtain ⟨A, c, rfl⟩ := own_slice h
    exact ⟨A, c, rfl, rfl, by decide, fun h => absurd h (by decide)⟩
  | cons d ds =>
    obtain ⟨A, c, e, _, hr⟩ := drow_reads h (by simp)
    exact ⟨A, c, e, hr⟩
set_option maxHeartbeats 8000000 in
set_option maxRecDepth 100000 in
theorem requal31_any (nc : Int) (CA : Option Addr) (cn cc : Nat) (gc : List GateL) (nd : Int) (DA : Option Addr) (dn dc : Nat) (gd : List GateL) (IA : Option Addr) (im ic : Nat) (ins : List Int) (OA : Option Addr) (om oc : Nat) (outs : List Int) (w : World)
    (hgc : RdGates w CA cn gc) (hgd : RdGates w DA dn gd) (hi : ReadsInt w .i64 IA im ins) (ho : ReadsInt w .i64 OA om outs) (him : im ≤ ic) (hom : om ≤ oc) :
    Calls Try.prog 31 #[.agg #[.int .i64 nc, .slice CA cn cc], .agg #[.int .i64 nd, .slice DA dn dc], .slice IA im ic, .slice OA om oc] w fun e w' => eqOut (eqAns nc gc nd gd ins outs) w' e ∧ Below w.heap.size w w' := by
  obtain ⟨i85, hi85, hz85, hs85, hb85⟩ := info_parts info85
  have HIL := Lib.hid hi.1
  have HOL := Lib.hid ho.1
  obtain ⟨w2, hw2⟩ : ∃ w2, (w.alloc (.cells #[.int .i64 nc, .slice CA cn cc] 39)).alloc (.cells #[.int .i64 nd, .slice DA dn dc] 39) = w2 := ⟨_, rfl⟩
  have hz1 : (w.alloc (.cells #[.int .i64 nc, .slice CA cn cc] 39)).heap.size = w.heap.size + 1 := Array.size_push _
  have hbc : w2.heap[w.heap.size]? = some (.cells #[.int .i64 nc, .slice CA cn cc] 39 (0, 0)) := by rw [← hw2]; exact blk_alloc (blk_new w _) _
  have hbd : w2.heap[w.heap.size + 1]? = some (.cells #[.int .i64 nd, .slice DA dn dc] 39 (0, 0)) := by
    have h := blk_new (w.alloc (.cells #[.int .i64 nc, .slice CA cn cc] 39)) (.cells #[.int .i64 nd, .slice DA dn dc] 39)
    rw [hz1] at h
    rw [← hw2]
    exact h
  have hz2 : w2.heap.size = w.heap.size + 2 := by
    rw [← hw2]
    have h : ((w.alloc (.cells #[.int .i64 nc, .slice CA cn cc] 39)).alloc (.cells #[.int .i64 nd, .slice DA dn dc] 39)).heap.size = (w.alloc (.cells #[.int .i64 nc, .slice CA cn cc] 39)).heap.size + 1 := Array.size_push _
    rw [h, hz1]
  have hB : Below w.heap.size w w2 := by rw [← hw2]; exact ((Below.refl _ _).alloc (Nat.le_refl _) _).alloc (by rw [hz1]; exact Nat.le_succ _) _
  have c0 : w2.cell? ⟨w.heap.size, 0, none⟩ = some (.int .i64 nc) := (blk_cell hbc 0).trans rfl
  have c1 : w2.cell? ⟨w.heap.size, 1, none⟩ = some (.slice CA cn cc) := (blk_cell hbc 1).trans rfl
  have d0 : w2.cell? ⟨w.heap.size + 1, 0, none⟩ = some (.int .i64 nd) := (blk_cell hbd 0).trans rfl
  have d1 : w2.cell? ⟨w.heap.size + 1, 1, none⟩ = some (.slice DA dn dc) := (blk_cell hbd 1).trans rfl
  have HB := Lib.hid hB; clear hB
  have HBC := Lib.hid hbc; clear hbc
  have HBD := Lib.hid hbd; clear hbd
  have HGC := Lib.hid hgc; clear hgc
  have HGD := Lib.hid hgd; clear hgd
  have HI := Lib.hid hi; clear hi
  have HO := Lib.hid ho; clear ho
  have HZ2 := Lib.hid hz2; clear hz2 hz1
  go_enter Try.func31, Try.ntmps31
  have HW2 := Lib.hid hw2; clear hw2
  go_wp2_with fail
  rw [HW2.out]
  refine (equals62_any _ _ _ _ _ _ _ _ _ _ _ _ _ _ _ _ _ _ _ (HGC.out.below HB.out) (HGD.out.below HB.out) (HI.out.below HB.out) (HO.out.below HB.out) him hom).mono ?_
  rintro e w3 ⟨rfl, hb3⟩
  have HBC3 := Lib.hid (blk_below HBC.out hb3)
  have HBD3 := Lib.hid (blk_below HBD.out hb3)
  have HB3 := Lib.hid (HB.out.trans (hb3.mono HB.out.size))
  have HZ3 : Hid (w.heap.size + 2 ≤ w3.heap.size) := Lib.hid (by have := hb3.size; have := HZ2.out; omega)
  clear hb3 c0 c1 d0 d1
  by_cases hP : preF nc gc nd gd ins outs = 0
  case neg =>
    have HE : Hid (eqAns nc gc nd gd ins outs = (none, false, preF nc gc nd gd ins outs)) := Lib.hid (if_pos hP)
    have hP' : (preF nc gc nd gd ins outs != 0) = true := by simpa using hP
    have HH := Lib.hid hP; clear hP
    generalize preF nc gc nd gd ins outs = P at *
    go_wp2_with fail
    go_ret3
    exact ⟨by rw [HE.out]; exact rfl, HB3.out⟩
  obtain ⟨p1, p2, p3, p4, p5, p6, p7, p8, p9, p10⟩ := preF_zero hP
  have HE : Hid (eqAns nc gc nd gd ins outs = match (List.range (2 ^ ins.length)).find? (difB nc gc nd gd ins outs) with | some r => (some (rowTo ins.length r ins.length), false, 0) | none => (none, true, 0)) := Lib.hid (if_neg (by rw [hP]; simp))
  rw [hP]
  rw [HIL.out] at p3
  rw [HOL.out] at p4
  obtain ⟨v1, v2, v3, v4⟩ := validF_ok p1
  obtain ⟨u1, u2, u3, u4⟩ := validF_ok p2
  obtain ⟨n1, rfl⟩ := Int.eq_ofNat_of_zero_le (show 0 ≤ nc by omega)
  obtain ⟨n2, rfl⟩ := Int.eq_ofNat_of_zero_le (show 0 ≤ nd by omega)
  have hn1 : n1 ≤ 40 := by omega
  have hn2 : n2 ≤ 40 := by omega
  have HP := Lib.hid hP; clear hP
  have HP1 := Lib.hid p1; have HP2 := Lib.hid p2; have HP5 := Lib.hid p5; have HP7 := Lib.hid p7; have HP8 := Lib.hid p8; have HP9 := Lib.hid p9; have HP10 := Lib.hid p10
  clear p1 p2 p5 p6 p7 p8 p9 p10 v1 v2 v3 v4 u1 u2 u3 u4
  obtain ⟨M, hM⟩ : ∃ M : Nat, 2 ^ im = M := ⟨_, rfl⟩
  have hM16 : M ≤ 16 := by
    have h5 : im = 0 ∨ im = 1 ∨ im = 2 ∨ im = 3 ∨ im = 4 := by omega
    rcases h5 with h | h | h | h | h <;> rw [h] at hM <;> omega
  have hw35 : wrap64 (2 ^ im) = (M : Int) := by
    rw [show ((2 : Int) ^ im) = ((2 ^ im : Nat) : Int) by simp, hM]
    simp only [wrap64, IntKind.wrap_i64]
    omega
  have HM := Lib.hid hM; clear hM
  go_wp2_with fail
  go_loopw [12] (fun i wr => ∃ r : Nat, r ≤ M ∧ i = .int .i64 r ∧ Hid (∀ r', r' < r → difB n1 gc n2 gd ins outs r' = false) ∧ Hid (Below w.heap.size w wr) ∧ Hid (wr.heap[w.heap.size]? = some (.cells #[.int .i64 n1, .slice CA cn cc] 39 (0, 0))) ∧ Hid (wr.heap[w.heap.size + 1]? = some (.cells #[.int .i64 n2, .slice DA dn dc] 39 (0, 0))) ∧ Hid (w.heap.size + 2 ≤ wr.heap.size)) (fun i _ => M - (intOf i).toNat)
  case atStart => exact ⟨0, Nat.zero_le _, rfl, Lib.hid (fun r hr => by omega), HB3, HBC3, HBD3, HZ3⟩
  case round =>
    obtain ⟨r, hr, rfl, hR, hB, hC, hD, hZ⟩ := hrel
    clear HB3 HBC3 HBD3 HZ3
    obtain ⟨wx, rfl⟩ : ∃ wx : World, wx = wr := ⟨_, rfl⟩
    by_cases hlt : r < M
    · have hlt2 : decide ((r : Int) < (M : Int)) = true := by simp; omega
      go_wp2_with fail
      have hn0 : wx.ownsRow (w.heap.size + 2) 85 2 (.slice none 0 0) (dvsTo ins r 0).length (flatD (dvsTo ins r 0)) := own_nil _ _ _ _
      have hn1' : wx.ownsRow (w.heap.size + 2) 3 1 (.slice none 0 0) (rowTo im r 0).length (nums .i64 (rowTo im r 0)) := own_nil _ _ _ _
      have HN0 := Lib.hid hn0; clear hn0
      have HN1 := Lib.hid hn1'; clear hn1'
      have hrM : r < 16 := by omega
      go_loopw [13, 14, 15] (fun dv vv i wr => ∃ k : Nat, k ≤ im ∧ i = .int .i64 k ∧ Hid (wr.ownsRow (w.heap.size + 2) 85 2 dv (dvsTo ins r k).length (flatD (dvsTo ins r k))) ∧ Hid (wr.ownsRow (w.heap.size + 2) 3 1 vv (rowTo im r k).length (nums .i64 (rowTo im r k))) ∧ Hid (Below w.heap.size w wr) ∧ Hid (wr.heap[w.heap.size]? = some (.cells #[.int .i64 n1, .slice CA cn cc] 39 (0, 0))) ∧ Hid (wr.heap[w.heap.size + 1]? = some (.cells #[.int .i64 n2, .slice DA dn dc] 39 (0, 0))) ∧ Hid (w.heap.size + 2 ≤ wr.heap.size)) (fun _ _ i _ => im - (intOf i).toNat)
      case atStart => exact ⟨0, Nat.zero_le _, rfl, HN0, HN1, hB, hC, hD, hZ⟩
      case round =>
        obtain ⟨k, hk, rfl, hDr, hVr, hBk, hCk, hDk, hZk⟩ := hrel
        clear HN0 HN1 hB hC hD hZ
        obtain ⟨wy, rfl⟩ : ∃ wy : World, wy = wr := ⟨_, rfl⟩
        by_cases hltk : k < im
        · have hltk2 : decide ((k : Int) < (im : Int)) = true := by simp; omega
          obtain ⟨ad, rfl, hcin⟩ := rdN (HI.out.below hBk.out) k hltk
          have HRD := Lib.hid (fun (W : World) (h : Below w.heap.size w W) => rdN (HI.out.below h) k hltk)
          obtain ⟨sh, hsh⟩ : ∃ sh : Nat, im - 1 - k = sh := ⟨_, rfl⟩
          have hs1 : (im : Int) - 1 - (k : Int) = (sh : Int) := by omega
          have hs2 : sh ≤ 3 := by omega
          have hand := and1 ((r : Int) / 2 ^ sh)
          have hbb : 0 ≤ (r : Int) / 2 ^ sh % 2 ∧ (r : Int) / 2 ^ sh % 2 < 2 := by omega
          have HBV : Hid (bitV im r k = 2 + (r : Int) / 2 ^ sh % 2) := Lib.hid (by unfold bitV; rw [hsh])
          generalize (r : Int) / 2 ^ sh % 2 = b at hand hbb HBV
          obtain ⟨hbb0, hbb1⟩ := hbb
          have HRS : Hid (rowTo im r (k + 1) = rowTo im r k ++ [2 + b]) := Lib.hid (by show rowTo im r k ++ [bitV im r k] = _; rw [HBV.out])
          have HDS : Hid (dvsTo ins r (k + 1) = dvsTo ins r k ++ [⟨ins.getD k 0, 2 + b⟩]) := Lib.hid (by show dvsTo ins r k ++ [⟨_, bitV ins.length r k⟩] = _; rw [HIL.out, HBV.out])
          generalize ins.getD k 0 = nk at hcin HDS HRD
          have HRL := Lib.hid (rowTo_len im r k)
          have HDL := Lib.hid (dvsTo_len ins r k)
          have hVr2 := hVr.out
          have hDr2 := hDr.out
          clear hVr hDr
          generalize rowTo im r k = RL at hVr2 HRS HRL
          generalize dvsTo ins r k = DL at hDr2 HDS HDL
          obtain ⟨VA, vc, rfl⟩ := own_slice hVr2
          generalize hdl : DL.length = dl at hDr2 HDL
          have HDLN := Lib.hid hdl; clear hdl
          obtain ⟨DRA, dvc, rfl⟩ := own_slice hDr2
          have HVr := Lib.hid hVr2; clear hVr2
          have HDr := Lib.hid hDr2; clear hDr2
          have HLv := Lib.hid (show (RL.length + 1) * 8 ≤ 140737488355328 by have := HRL.out; omega)
          have hdl4 : dl ≤ 4 := by have := HDL.out; omega
          go_wp2_with (at_builtin; first
            | (refine print_append_num (w0 := wy) (w.heap.size + 2) rfl (.tmp 53) (.tmp 56) 22 3 .i64 8 rfl Try.underlying22 info3 (by decide) _ RL (2 + b) rfl rfl HVr.out (Below.refl _ _) hZk.out HLv.out ?_; intro v1 w1 h1 h2 h3 _; have HV1 := Lib.hid h1; have HG1 := Lib.hid h3; clear h1 h2 h3; have HC1 := Lib.hid (blk_grown hCk.out HG1.out (row_ne_blk HVr.out hCk.out (by decide))); have HD1 := Lib.hid (blk_grown hDk.out HG1.out (row_ne_blk HVr.out hDk.out (by decide))); have HB1 : Hid (Below w.heap.size w w1) := Lib.hid (hBk.out.grown HG1.out (by have := hZk.out; omega) (fun q hq => by have := own_base HVr.out q hq; omega)); have HZ1 : Hid (w.heap.size + 2 ≤ w1.heap.size) := Lib.hid (by have h1 := HG1.out.size; have h2 := hZk.out; omega); have HDr1 := Lib.hid (own_other HDr.out HG1.out (own_type_ne HDr.out HVr.out (by decide))); have hcin : w1.cell? (ad.add k) = some (.int .i64 nk) := (by obtain ⟨ad', ha', hc'⟩ := HRD.out w1 HB1.out; injection ha' with ha'; rw [ha']; exact hc'); have HDA := Lib.hid (HDr1.out.alloc (.cells #[.int .i64 nk, .int .i64 (2 + b)] 85)); have HNW := Lib.hid (World.news_of_block (blk_new w1 (.cells #[.int .i64 nk, .int .i64 (2 + b)] 85))); have HSZ : Hid ((w1.alloc (.cells #[.int .i64 nk, .int .i64 (2 + b)] 85)).heap.size = w1.heap.size + 1) := Lib.hid (Array.size_push _); have HBASE : Hid (w.heap.size + 2 ≤ (w1.alloc (.cells #[.int .i64 nk, .int .i64 (2 + b)] 85)).heap.size) := Lib.hid (by have h1 := HSZ.out; have h2 := HZ1.out; omega); have HONE : Hid (∀ u ∈ [Value.int .i64 nk, Value.int .i64 (2 + b)], u.oneCell' = true) := Lib.hid (by simp [Value.oneCell']))
            | (refine wpList_append_lies (w := (w1.alloc (.cells #[.int .i64 nk, .int .i64 (2 + b)] 85))) rfl (.tmp 58) (.tmp 66) 40 rfl (w.heap.size + 2) 85 i85 (.agg #[.int .i64 0, .int .i64 0]) 2 16 Try.underlying40 hi85 hz85 hs85 hb85 rfl (by omega) (.slice DRA dl dvc) dl (flatD DL) rfl HDA.out ⟨w1.heap.size, 0, none⟩ 1 1 [.int .i64 nk, .int .i64 (2 + b)] rfl rfl HNW.out HONE.out (by omega) (by simp only [maxLen]; omega) (by omega) HBASE.out (w1.heap.size + 1) HSZ.out ?_; intro g2 cap2 w10 hown2 hgrow2 hat2 hlt2; have HD9 := Lib.hid hown2; have HG9 := Lib.hid hgrow2; clear hown2 hgrow2 hat2 hlt2))
          have HDx : Hid (w10.ownsRow (w.heap.size + 2) 85 2 (.slice (some ⟨g2, 0, none⟩) (dl + 1) cap2) (dvsTo ins r (k + 1)).length (flatD (dvsTo ins r (k + 1)))) := Lib.hid (by rw [HDS.out, flatD_append, List.length_append, HDLN.out]; exact HD9.out)
          have HVx : Hid (w10.ownsRow (w.heap.size + 2) 3 1 v1 (rowTo im r (k + 1)).length (nums .i64 (rowTo im r (k + 1)))) := Lib.hid (by rw [HRS.out]; exact own_other (HV1.out.alloc (.cells #[.int .i64 nk, .int .i64 (2 + b)] 85)) HG9.out (own_type_ne (HV1.out.alloc (.cells #[.int .i64 nk, .int .i64 (2 + b)] 85)) HDA.out (by decide)))
          have HBx : Hid (Below w.heap.size w w10) := Lib.hid ((HB1.out.alloc HB1.out.size (.cells #[.int .i64 nk, .int .i64 (2 + b)] 85)).grown HG9.out (by have h1 := HBASE.out; omega) (fun q hq => by have := own_base HDA.out q hq; omega))
          have HCx := Lib.hid (blk_grown (blk_alloc HC1.out (.cells #[.int .i64 nk, .int .i64 (2 + b)] 85)) HG9.out (row_ne_blk HDA.out (blk_alloc HC1.out (.cells #[.int .i64 nk, .int .i64 (2 + b)] 85)) (by decide)))
          have HDDx := Lib.hid (blk_grown (blk_alloc HD1.out (.cells #[.int .i64 nk, .int .i64 (2 + b)] 85)) HG9.out (row_ne_blk HDA.out (blk_alloc HD1.out (.cells #[.int .i64 nk, .int .i64 (2 + b)] 85)) (by decide)))
          have HZx : Hid (w.heap.size + 2 ≤ w10.heap.size) := Lib.hid (by have h1 := HBASE.out; have h2 := HG9.out.size; omega)
          first
          | (go_roundw; (case rel => exact ⟨k + 1, by omega, by go_num, HDx, HVx, HBx, HCx, HDDx, HZx⟩); (case measure => simp [intOf]; omega))
          | exact ⟨⟨k + 1, by omega, by go_num, HDx, HVx, HBx, HCx, HDDx, HZx⟩, by simp [intOf]; omega⟩
          | exact ⟨⟨_, _, .int .i64 ((k : Int) + 1), ⟨k + 1, by omega, by go_num, HDx, HVx, HBx, HCx, HDDx, HZx⟩, rfl, rfl, rfl⟩, by simp [intOf]; omega⟩
        · have hltk2 : decide ((k : Int) < (im : Int)) = false := by simp; omega
          have hkim : k = ins.length := by have := HIL.out; omega
          rw [hkim] at hDr hVr
          have hkl : (dvsTo ins r ins.length).length = im := by rw [dvsTo_len, HIL.out]
          have HDok := Lib.hid (dvsTo_ok HP5.out r ins.length (Nat.le_refl _))
          clear hkim
          obtain ⟨q1, m1, e1, _, _, _, _, _, a1, l1⟩ := restV_is HP1.out HDok.out.1 HP7.out HP9.out
          obtain ⟨q2, m2, e2, _, _, _, _, _, a2, l2⟩ := restV_is HP2.out HDok.out.2 HP8.out HP10.out
          obtain rfl : n1 = q1 := by omega
          obtain rfl : n2 = q2 := by omega
          clear e1 e2
          have HDIF : Hid (difB n1 gc n2 gd ins outs r = outs.any fun n => (restV n1 gc (dvsTo ins r ins.length)).getD n.toNat 0 != (restV n2 gd (dvsTo ins r ins.length)).getD n.toNat 0) := Lib.hid rfl
          obtain ⟨DRA, dvc, rfl, hdr⟩ := drow_reads0 hDr.out
          generalize dvsTo ins r ins.length = DS at hdr HDIF a1 a2 l1 l2 hkl
          rw [hkl] at hdr ⊢
          have HA1 := Lib.hid a1; clear a1
          have HA2 := Lib.hid a2; clear a2
          have HL1 := Lib.hid l1; clear l1
          have HL2 := Lib.hid l2; clear l2
          clear hkl HDok
          generalize restV n1 gc DS = V1 at HA1 HL1 HDIF
          generalize restV n2 gd DS = V2 at HA2 HL2 HDIF
          have HDSk := Lib.hid hdr; clear hdr hDr
          have HBk := hBk; have HKCk := hCk; have HKDk := hDk
          go_wp2_with fail
          have c0 : wy.cell? ⟨w.heap.size, 0, none⟩ = some (.int .i64 n1) := (blk_cell HKCk.out 0).trans rfl
          have c1 : wy.cell? ⟨w.heap.size, 1, none⟩ = some (.slice CA cn cc) := (blk_cell HKCk.out 1).trans rfl
          have hmk := make22 n1 (by omega) wy.drew
          have hnb := own_made wy.drew wy.drew.heap.size 3 .i64 n1 (Nat.le_refl _) (by omega)
          generalize madeCells #[.int .i64 0] n1 = mk at hmk hnb
          have HNB := Lib.hid hnb; clear hnb
          have HX : Hid (Below wy.heap.size wy (wy.drew.alloc (.cells mk 3))) := Lib.hid ((pw_below_drewN (n := 1) (Below.refl _ _)).alloc (Nat.le_refl _) (.cells mk 3))
          have HBm := Lib.hid (HBk.out.trans (HX.out.mono HBk.out.size))
          have HKCm := Lib.hid (blk_below HKCk.out HX.out)
          have HKDm := Lib.hid (blk_below HKDk.out HX.out)
          have HC3 : Hid ((wy.drew.alloc (.cells mk 3)).cell? ⟨w.heap.size, 0, none⟩ = some (.int .i64 n1) ∧ (wy.drew.alloc (.cells mk 3)).cell? ⟨w.heap.size, 1, none⟩ = some (.slice CA cn cc)) := Lib.hid ⟨(blk_cell HKCm.out 0).trans rfl, (blk_cell HKCm.out 1).trans rfl⟩
          have HDSm := Lib.hid (HDSk.out.below HX.out)
          refine wp_region_tail 99 (fun w' => w'.cell? ⟨w.heap.size, 0, none⟩ = some (.int .i64 n1) ∧ w'.cell? ⟨w.heap.size, 1, none⟩ = some (.slice CA cn cc)) (by kernel_rfl) ?_
          change wpAnyF _ _ _ _ _ _ _ _ _ wy.drew
          refine wpAnyF_take (i := 0) (v := .agg #[.int .i64 n1, (.slice CA cn cc)]) rfl (by kernel_rfl) (by kernel_rfl) (by kernel_rfl) (by kernel_rfl) (fun _ _ _ h => h) (Or.inl ⟨by rfl, ?_⟩) ⟨c0, c1⟩ ?_
          · rintro W ⟨y0, y1⟩
            go_simp
          try simp only [Act.put, List.setIfInBounds_toArray, List.set_cons_zero, List.set_cons_succ]
          refine wpAnyF_take (i := 1) (v := .slice DRA im dvc) rfl (by kernel_rfl) (by kernel_rfl) (by kernel_rfl) (by kernel_rfl) (fun _ _ _ h => h) (Or.inl ⟨by rfl, ?_⟩) ⟨c0, c1⟩ ?_
          · rintro W ⟨y0, y1⟩
            go_simp
          try simp only [Act.put, List.setIfInBounds_toArray, List.set_cons_zero, List.set_cons_succ]
          refine wpAnyF_take (i := 2) (v := .pointer (some ⟨w.heap.size, 0, none⟩)) rfl (by kernel_rfl) (by kernel_rfl) (by kernel_rfl) (by kernel_rfl) (fun _ _ _ h => h) (Or.inl ⟨by rfl, ?_⟩) ⟨c0, c1⟩ ?_
          · rintro W ⟨y0, y1⟩
            go_simp
          try simp only [Act.put, List.setIfInBounds_toArray, List.set_cons_zero, List.set_cons_succ]
          refine wpAnyF_take (i := 3) (v := .int .i64 n1) rfl (by kernel_rfl) (by kernel_rfl) (by kernel_rfl) (by kernel_rfl) (fun _ _ _ h => h) (Or.inl ⟨by rfl, ?_⟩) ⟨c0, c1⟩ ?_
          · rintro W ⟨y0, y1⟩
            go_simp
          try simp only [Act.put, List.setIfInBounds_toArray, List.set_cons_zero, List.set_cons_succ]
          refine wpAnyF_one (i := 4) rfl (by kernel_rfl) (fun K hK => ?_)
          go_simp
          refine hK _ _ (fun _ => HC3.out) ?_
          clear hK K
          try simp only [Act.put, List.setIfInBounds_toArray, List.set_cons_zero, List.set_cons_succ]
          refine wpAnyF_one (i := 5) rfl (by kernel_rfl) (fun K hK => ?_)
          refine goes_ (f := 25) Try.func25 (by kernel_rfl) rfl #[.agg #[.int .i64 n1, (.slice CA cn cc)], .slice DRA im dvc, .slice (some ⟨wy.drew.heap.size, 0, none⟩) n1 n1] rfl rfl rfl (by simp [Act.eval]) ?_
          refine (rsettle_any _ _ _ _ _ _ _ _ _ _ _ _ _ _ (HGC.out.below HBm.out) HDSm.out (own_reads' HNB.out)).mono ?_
          rintro e wz ⟨hres, hb5⟩
          rw [HA1.out] at hres
          simp only [settleOut] at hres
          rw [HL1.out] at hres
          obtain ⟨A5, A5c, rfl, hr5⟩ := hres
          have HRA5 := Lib.hid hr5; clear hr5
          have HBwz := Lib.hid (HBm.out.trans (hb5.mono HBm.out.size))
          have HKCwz := Lib.hid (blk_below HKCm.out hb5)
          have HKDwz := Lib.hid (blk_below HKDm.out hb5)
          have HDSwz := Lib.hid (HDSm.out.below hb5)
          have HLOwz : Hid (Below wy.heap.size wy wz) := Lib.hid (HX.out.trans (hb5.mono HX.out.size))
          clear hb5 c0 c1
          have c0 : wz.cell? ⟨w.heap.size, 0, none⟩ = some (.int .i64 n1) := (blk_cell HKCwz.out 0).trans rfl
          have c1 : wz.cell? ⟨w.heap.size, 1, none⟩ = some (.slice CA cn cc) := (blk_cell HKCwz.out 1).trans rfl
          refine ⟨_, rfl, ?_⟩
          refine hK _ _ (fun _ => ⟨c0, c1⟩) ?_
          clear hK K
          try simp only [Act.put, List.setIfInBounds_toArray, List.set_cons_zero, List.set_cons_succ]
          refine wpAnyF_one (i := 6) rfl (by kernel_rfl) (fun K hK => ?_)
          go_simp
          refine hK _ _ (fun _ => ⟨c0, c1⟩) ?_
          clear hK K
          try simp only [Act.put, List.setIfInBounds_toArray, List.set_cons_zero, List.set_cons_succ]
          refine wpAnyF_take (i := 7) (v := .slice A5 n1 A5c) rfl (by kernel_rfl) (by kernel_rfl) (by kernel_rfl) (by kernel_rfl) (fun _ _ _ h => h) (Or.inl ⟨by rfl, ?_⟩) ⟨c0, c1⟩ ?_
          · rintro W ⟨y0, y1⟩
            go_simp
          try simp only [Act.put, List.setIfInBounds_toArray, List.set_cons_zero, List.set_cons_succ]
          refine wpAnyF_take (i := 8) (v := .int .i64 m1) rfl (by kernel_rfl) (by kernel_rfl) (by kernel_rfl) (by kernel_rfl) (fun _ _ _ h => h) (Or.inl ⟨by rfl, ?_⟩) ⟨c0, c1⟩ ?_
          · rintro W ⟨y0, y1⟩
            go_simp
          try simp only [Act.put, List.setIfInBounds_toArray, List.set_cons_zero, List.set_cons_succ]
          refine wpAnyF_take (i := 9) (v := .int .i64 0) rfl (by kernel_rfl) (by kernel_rfl) (by kernel_rfl) (by kernel_rfl) (fun _ _ _ h => h) (Or.inl ⟨by rfl, ?_⟩) ⟨c0, c1⟩ ?_
          · rintro W ⟨y0, y1⟩
            go_simp
          try simp only [Act.put, List.setIfInBounds_toArray, List.set_cons_zero, List.set_cons_succ]
          refine wpAnyF_take (i := 10) (v := .slice A5 n1 A5c) rfl (by kernel_rfl) (by kernel_rfl) (by kernel_rfl) (by kernel_rfl) (fun _ _ _ h => h) (Or.inl ⟨by rfl, ?_⟩) ⟨c0, c1⟩ ?_
          · rintro W ⟨y0, y1⟩
            go_simp
          try simp only [Act.put, List.setIfInBounds_toArray, List.set_cons_zero, List.set_cons_succ]
          refine wpAnyF_take (i := 11) (v := .int .i64 m1) rfl (by kernel_rfl) (by kernel_rfl) (by kernel_rfl) (by kernel_rfl) (fun _ _ _ h => h) (Or.inl ⟨by rfl, ?_⟩) ⟨c0, c1⟩ ?_
          · rintro W ⟨y0, y1⟩
            go_simp
          try simp only [Act.put, List.setIfInBounds_toArray, List.set_cons_zero, List.set_cons_succ]
          refine wpAnyF_take (i := 12) (v := .int .i64 0) rfl (by kernel_rfl) (by kernel_rfl) (by kernel_rfl) (by kernel_rfl) (fun _ _ _ h => h) (Or.inl ⟨by rfl, ?_⟩) ⟨c0, c1⟩ ?_
          · rintro W ⟨y0, y1⟩
            go_simp
          try simp only [Act.put, List.setIfInBounds_toArray, List.set_cons_zero, List.set_cons_succ]
          refine wpAnyF_done (by kernel_rfl) ?_ _
          clear hmk c0 c1 HC3 HX HNB HBm HKCm HKDm HDSm
          go_simp
          try simp only [Act.put, List.setIfInBounds_toArray, List.set_cons_zero, List.set_cons_succ]
          go_wp2_with fail
          have c0 : wz.cell? ⟨w.heap.size + 1, 0, none⟩ = some (.int .i64 n2) := (blk_cell HKDwz.out 0).trans rfl
          have c1 : wz.cell? ⟨w.heap.size + 1, 1, none⟩ = some (.slice DA dn dc) := (blk_cell HKDwz.out 1).trans rfl
          have hmk := make22 n2 (by omega) wz.drew
          have hnb := own_made wz.drew wz.drew.heap.size 3 .i64 n2 (Nat.le_refl _) (by omega)
          generalize madeCells #[.int .i64 0] n2 = mk at hmk hnb
          have HNB := Lib.hid hnb; clear hnb
          have HX : Hid (Below wz.heap.size wz (wz.drew.alloc (.cells mk 3))) := Lib.hid ((pw_below_drewN (n := 1) (Below.refl _ _)).alloc (Nat.le_refl _) (.cells mk 3))
          have HBm := Lib.hid (HBwz.out.trans (HX.out.mono HBwz.out.size))
          have HKCm := Lib.hid (blk_below HKCwz.out HX.out)
          have HKDm := Lib.hid (blk_below HKDwz.out HX.out)
          have HC3 : Hid ((wz.drew.alloc (.cells mk 3)).cell? ⟨w.heap.size + 1, 0, none⟩ = some (.int .i64 n2) ∧ (wz.drew.alloc (.cells mk 3)).cell? ⟨w.heap.size + 1, 1, none⟩ = some (.slice DA dn dc)) := Lib.hid ⟨(blk_cell HKDm.out 0).trans rfl, (blk_cell HKDm.out 1).trans rfl⟩
          have HDSm := Lib.hid (HDSwz.out.below HX.out)
          refine wp_region_tail 99 (fun w' => w'.cell? ⟨w.heap.size + 1, 0, none⟩ = some (.int .i64 n2) ∧ w'.cell? ⟨w.heap.size + 1, 1, none⟩ = some (.slice DA dn dc)) (by kernel_rfl) ?_
          change wpAnyF _ _ _ _ _ _ _ _ _ wz.drew
          refine wpAnyF_take (i := 0) (v := .agg #[.int .i64 n2, (.slice DA dn dc)]) rfl (by kernel_rfl) (by kernel_rfl) (by kernel_rfl) (by kernel_rfl) (fun _ _ _ h => h) (Or.inl ⟨by rfl, ?_⟩) ⟨c0, c1⟩ ?_
          · rintro W ⟨y0, y1⟩
            go_simp
          try simp only [Act.put, List.setIfInBounds_toArray, List.set_cons_zero, List.set_cons_succ]
          refine wpAnyF_take (i := 1) (v := .slice DRA im dvc) rfl (by kernel_rfl) (by kernel_rfl) (by kernel_rfl) (by kernel_rfl) (fun _ _ _ h => h) (Or.inl ⟨by rfl, ?_⟩) ⟨c0, c1⟩ ?_
          · rintro W ⟨y0, y1⟩
            go_simp
          try simp only [Act.put, List.setIfInBounds_toArray, List.set_cons_zero, List.set_cons_succ]
          refine wpAnyF_take (i := 2) (v := .pointer (some ⟨w.heap.size + 1, 0, none⟩)) rfl (by kernel_rfl) (by kernel_rfl) (by kernel_rfl) (by kernel_rfl) (fun _ _ _ h => h) (Or.inl ⟨by rfl, ?_⟩) ⟨c0, c1⟩ ?_
          · rintro W ⟨y0, y1⟩
            go_simp
          try simp only [Act.put, List.setIfInBounds_toArray, List.set_cons_zero, List.set_cons_succ]
          refine wpAnyF_take (i := 3) (v := .int .i64 n2) rfl (by kernel_rfl) (by kernel_rfl) (by kernel_rfl) (by kernel_rfl) (fun _ _ _ h => h) (Or.inl ⟨by rfl, ?_⟩) ⟨c0, c1⟩ ?_
          · rintro W ⟨y0, y1⟩
            go_simp
          try simp only [Act.put, List.setIfInBounds_toArray, List.set_cons_zero, List.set_cons_succ]
          refine wpAnyF_one (i := 4) rfl (by kernel_rfl) (fun K hK => ?_)
          go_simp
          refine hK _ _ (fun _ => HC3.out) ?_
          clear hK K
          try simp only [Act.put, List.setIfInBounds_toArray, List.set_cons_zero, List.set_cons_succ]
          refine wpAnyF_one (i := 5) rfl (by kernel_rfl) (fun K hK => ?_)
          refine goes_ (f := 25) Try.func25 (by kernel_rfl) rfl #[.agg #[.int .i64 n2, (.slice DA dn dc)], .slice DRA im dvc, .slice (some ⟨wz.drew.heap.size, 0, none⟩) n2 n2] rfl rfl rfl (by simp [Act.eval]) ?_
          refine (rsettle_any _ _ _ _ _ _ _ _ _ _ _ _ _ _ (HGD.out.below HBm.out) HDSm.out (own_reads' HNB.out)).mono ?_
          rintro e wv ⟨hres, hb5⟩
          rw [HA2.out] at hres
          simp only [settleOut] at hres
          rw [HL2.out] at hres
          obtain ⟨B5, B5c, rfl, hr5⟩ := hres
          have HRB5 := Lib.hid hr5; clear hr5
          have HBwv := Lib.hid (HBm.out.trans (hb5.mono HBm.out.size))
          have HKCwv := Lib.hid (blk_below HKCm.out hb5)
          have HKDwv := Lib.hid (blk_below HKDm.out hb5)
          have HDSwv := Lib.hid (HDSm.out.below hb5)
          have HLOwv : Hid (Below wz.heap.size wz wv) := Lib.hid (HX.out.trans (hb5.mono HX.out.size))
          clear hb5 c0 c1
          have c0 : wv.cell? ⟨w.heap.size + 1, 0, none⟩ = some (.int .i64 n2) := (blk_cell HKDwv.out 0).trans rfl
          have c1 : wv.cell? ⟨w.heap.size + 1, 1, none⟩ = some (.slice DA dn dc) := (blk_cell HKDwv.out 1).trans rfl
          refine ⟨_, rfl, ?_⟩
          refine hK _ _ (fun _ => ⟨c0, c1⟩) ?_
          clear hK K
          try simp only [Act.put, List.setIfInBounds_toArray, List.set_cons_zero, List.set_cons_succ]
          refine wpAnyF_one (i := 6) rfl (by kernel_rfl) (fun K hK => ?_)
          go_simp
          refine hK _ _ (fun _ => ⟨c0, c1⟩) ?_
          clear hK K
          try simp only [Act.put, List.setIfInBounds_toArray, List.set_cons_zero, List.set_cons_succ]
          refine wpAnyF_take (i := 7) (v := .slice B5 n2 B5c) rfl (by kernel_rfl) (by kernel_rfl) (by kernel_rfl) (by kernel_rfl) (fun _ _ _ h => h) (Or.inl ⟨by rfl, ?_⟩) ⟨c0, c1⟩ ?_
          · rintro W ⟨y0, y1⟩
            go_simp
          try simp only [Act.put, List.setIfInBounds_toArray, List.set_cons_zero, List.set_cons_succ]
          refine wpAnyF_take (i := 8) (v := .int .i64 m2) rfl (by kernel_rfl) (by kernel_rfl) (by kernel_rfl) (by kernel_rfl) (fun _ _ _ h => h) (Or.inl ⟨by rfl, ?_⟩) ⟨c0, c1⟩ ?_
          · rintro W ⟨y0, y1⟩
            go_simp
          try simp only [Act.put, List.setIfInBounds_toArray, List.set_cons_zero, List.set_cons_succ]
          refine wpAnyF_take (i := 9) (v := .int .i64 0) rfl (by kernel_rfl) (by kernel_rfl) (by kernel_rfl) (by kernel_rfl) (fun _ _ _ h => h) (Or.inl ⟨by rfl, ?_⟩) ⟨c0, c1⟩ ?_
          · rintro W ⟨y0, y1⟩
            go_simp
          try simp only [Act.put, List.setIfInBounds_toArray, List.set_cons_zero, List.set_cons_succ]
          refine wpAnyF_take (i := 10) (v := .slice B5 n2 B5c) rfl (by kernel_rfl) (by kernel_rfl) (by kernel_rfl) (by kernel_rfl) (fun _ _ _ h => h) (Or.inl ⟨by rfl, ?_⟩) ⟨c0, c1⟩ ?_
          · rintro W ⟨y0, y1⟩
            go_simp
          try simp only [Act.put, List.setIfInBounds_toArray, List.set_cons_zero, List.set_cons_succ]
          refine wpAnyF_take (i := 11) (v := .int .i64 m2) rfl (by kernel_rfl) (by kernel_rfl) (by kernel_rfl) (by kernel_rfl) (fun _ _ _ h => h) (Or.inl ⟨by rfl, ?_⟩) ⟨c0, c1⟩ ?_
          · rintro W ⟨y0, y1⟩
            go_simp
          try simp only [Act.put, List.setIfInBounds_toArray, List.set_cons_zero, List.set_cons_succ]
          refine wpAnyF_take (i := 12) (v := .int .i64 0) rfl (by kernel_rfl) (by kernel_rfl) (by kernel_rfl) (by kernel_rfl) (fun _ _ _ h => h) (Or.inl ⟨by rfl, ?_⟩) ⟨c0, c1⟩ ?_
          · rintro W ⟨y0, y1⟩
            go_simp
          try simp only [Act.put, List.setIfInBounds_toArray, List.set_cons_zero, List.set_cons_succ]
          refine wpAnyF_done (by kernel_rfl) ?_ _
          clear hmk c0 c1 HC3 HX HNB HBm HKCm HKDm HDSm
          go_simp
          try simp only [Act.put, List.setIfInBounds_toArray, List.set_cons_zero, List.set_cons_succ]
          go_wp2_with fail
          have HAv := Lib.hid (HRA5.out.below HLOwv.out)
          have HOv := Lib.hid (HO.out.below HBwv.out)
          have HNET : Hid (∀ j, j < om → 0 ≤ outs.getD j 0 ∧ outs.getD j 0 < n1 ∧ outs.getD j 0 < n2) := Lib.hid (fun j hj => by
            have hm : outs.getD j 0 ∈ ins ++ outs := by
              rw [List.getD_eq_getElem?_getD, List.getElem?_eq_getElem (by rw [HOL.out]; exact hj)]
              exact List.mem_append_right _ (List.getElem_mem _)
            have hn := List.all_eq_true.1 HP5.out _ hm
            simpa [netOk, and_assoc] using hn)
          go_loopw [23] (fun i wr => ∃ j : Nat, j ≤ om ∧ i = .int .i64 j ∧ Hid (∀ j', j' < j → V1.getD (outs.getD j' 0).toNat 0 = V2.getD (outs.getD j' 0).toNat 0) ∧ ∃ q, wr = wv.drewN q) (fun i _ => om - (intOf i).toNat)
          case atStart => exact ⟨0, Nat.zero_le _, rfl, Lib.hid (fun j hj => by omega), 0, rfl⟩
          case round =>
            obtain ⟨j, hj, rfl, hT, q, rfl⟩ := hrel
            by_cases hltj : j < om
            · have hltj2 : decide ((j : Int) < (om : Int)) = true := by simp; omega
              obtain ⟨ao, rfl, hco⟩ := rdN HOv.out j hltj
              obtain ⟨ho0, ho1, ho2⟩ := HNET.out j hltj
              obtain ⟨on, hon⟩ := Int.eq_ofNat_of_zero_le ho0
              rw [hon] at hco ho1 ho2
              obtain ⟨aa, rfl, hca⟩ := rdN HAv.out on (by omega)
              obtain ⟨ab, rfl, hcb⟩ := rdN HRB5.out on (by omega)
              have hnx : Hid (V1.getD on 0 = V2.getD on 0 → ∀ j', j' < j + 1 → V1.getD (outs.getD j' 0).toNat 0 = V2.getD (outs.getD j' 0).toNat 0) := Lib.hid (fun h j' hj' => by
                by_cases hq : j' = j
                · subst hq; rw [hon]; exact h
                · exact hT.out j' (by omega))
              have hdif : Hid (V1.getD on 0 ≠ V2.getD on 0 → difB n1 gc n2 gd ins outs r = true) := Lib.hid (fun h => by
                rw [HDIF.out, List.any_eq_true]
                refine ⟨outs.getD j 0, ?_, ?_⟩
                · rw [List.getD_eq_getElem?_getD, List.getElem?_eq_getElem (by rw [HOL.out]; exact hltj)]
                  exact List.getElem_mem _
                · rw [hon]; simpa using h)
              have HON := Lib.hid hon; clear hon ho0
              generalize V1.getD on 0 = x at hca hnx hdif
              generalize V2.getD on 0 = y at hcb hnx hdif
              by_cases he : x = y
              · have hb : (x != y) = false := by simpa using he
                have HF := Lib.hid (hnx.out he)
                clear he
                go_wp2
                go_quiet (fail)
                go_wp2
                first
                | (go_roundw; (case rel => exact ⟨j + 1, by omega, by go_num, HF, q + nq, by first | rfl | rw [World.drewN_drewN]⟩); (case measure => simp [intOf]; omega))
              · have hb : (x != y) = true := by simpa using he
                have HF := Lib.hid (hdif.out he)
                clear he
                go_wp2
                go_quiet (fail)
                go_wp2
                have HFD : Hid ((List.range (2 ^ ins.length)).find? (difB n1 gc n2 gd ins outs) = some r) := Lib.hid (find_first (by rw [HIL.out, HM.out]; exact hlt) hR.out HF.out)
                obtain ⟨VA, vc, hv, hrd⟩ := own_reads hVr.out
                rw [hv]
                go_ret3
                refine ⟨?_, pw_below_drewN (n := _) (by first | exact HBwv.out | exact pw_below_drewN (n := q) HBwv.out)⟩
                rw [HE.out, HFD.out, HIL.out]
                have hrd2 := hrd.below (pw_below_drewN (n := nq) (pw_below_drewN (n := q) (HLOwz.out.trans (HLOwv.out.mono HLOwz.out.size))))
                rw [HIL.out] at hrd2
                exact ⟨VA, vc, rfl, hrd2⟩
            · have hltj2 : decide ((j : Int) < (om : Int)) = false := by simp; omega
              go_wp2_with fail
              have HDF : Hid (difB n1 gc n2 gd ins outs r = false) := Lib.hid (by
                rw [HDIF.out, List.any_eq_false]
                intro n hn
                obtain ⟨j', hj', e⟩ := List.getElem_of_mem hn
                have h1 := hT.out j' (by have := HOL.out; omega)
                rw [List.getD_eq_getElem?_getD (l := outs), List.getElem?_eq_getElem hj', Option.getD_some, e] at h1
                simpa using h1)
              have HRn : Hid (∀ r', r' < r + 1 → difB n1 gc n2 gd ins outs r' = false) := Lib.hid (fun r' hr' => by
                by_cases hq : r' = r
                · subst hq; exact HDF.out
                · exact hR.out r' (by omega))
              have HBn : Hid (Below w.heap.size w (wv.drewN q)) := Lib.hid (pw_below_drewN (n := q) HBwv.out)
              have HCn := Lib.hid (blk_drewN HKCwv.out q)
              have HDn := Lib.hid (blk_drewN HKDwv.out q)
              have HZn : Hid (w.heap.size + 2 ≤ (wv.drewN q).heap.size) := Lib.hid (by have h1 := HLOwz.out.size; have h2 := HLOwv.out.size; have h3 := hZk.out; show _ ≤ wv.heap.size; omega)
              first
              | exact ⟨⟨r + 1, by omega, by go_num, HRn, HBn, HCn, HDn, HZn⟩, by simp [intOf]; omega⟩
              | (go_roundw; (case rel => exact ⟨r + 1, by omega, by go_num, HRn, HBn, HCn, HDn, HZn⟩); (case measure => simp [intOf]; omega))
    · have hlt2 : decide ((r : Int) < (M : Int)) = false := by simp; omega
      go_wp2_with fail
      have HFN : Hid ((List.range (2 ^ ins.length)).find? (difB n1 gc n2 gd ins outs) = none) := Lib.hid (find_none (fun i hi => by rw [HIL.out, HM.out] at hi; exact hR.out i (by omega)))
      go_ret3
      exact ⟨by rw [HE.out, HFN.out]; exact rfl, hB.out⟩
end Go.Proofs.Ytobdhdehmkmjcaa
