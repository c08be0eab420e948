/- Settle. -/
import Derived.Test.YtobdhdehmkmjcaaP3
namespace Go.Proofs.Ytobdhdehmkmjcaa
set_option linter.unusedVariables false
set_option linter.unusedSimpArgs false
open Go.RowKit Go.Proofs.YtobdhdehmkmjcaaW.PrintWords Go.Proofs.YtobdhdehmkmjcaaW.PrintLast

/-- What Settle answers: nets, rounds and error. -/
def SettleAns (nets : Int) (gs : List GateL) (ds : List DriveL) (start : List Int) : Option (List Int × Nat) × Int :=
  if settlesF nets gs ds start ≠ 0 then (none, settlesF nets gs ds start) else
    match settleF (nextF nets.toNat gs ds) [start] start 101 with
    | some r => (some r, 0)
    | none => (none, 10)
def settleOut (r : Option (List Int × Nat) × Int) (w : World) (e : Ending) : Prop :=
  match r.1 with
  | some (xs, k) => ∃ A c, e = .returned (.tuple #[.slice A xs.length c, .int .i64 k, .int .i64 0]) ∧ ReadsInt w .i64 A xs.length xs
  | none => e = .returned (.tuple #[.slice none 0 0, .int .i64 0, .int .i64 r.2])
theorem settleOut_bad {nets : Int} {gs : List GateL} {ds : List DriveL} {start : List Int} {x : Int} (h : settlesF nets gs ds start = x) (hx : x ≠ 0) (w : World) : settleOut (SettleAns nets gs ds start) w (.returned (.tuple #[.slice none 0 0, .int .i64 0, .int .i64 x])) := by
  unfold SettleAns
  rw [if_pos (by rw [h]; exact hx), h]
  exact rfl
theorem settleOut_ok {nets : Int} {gs : List GateL} {ds : List DriveL} {start : List Int} (h : settlesF nets gs ds start = 0) {w : World} {e : Ending} (hr : settleRes (settleF (nextF nets.toNat gs ds) [start] start 101) w e) : settleOut (SettleAns nets gs ds start) w e := by
  unfold SettleAns
  rw [if_neg (by rw [h]; simp)]
  generalize settleF (nextF nets.toNat gs ds) [start] start 101 = r at *
  cases r with
  | none => exact hr
  | some r => exact hr
theorem validF_ok {nets : Int} {gs : List GateL} (h : validF nets gs = 0) : 1 ≤ nets ∧ nets ≤ 40 ∧ gs.length ≤ 60 ∧ gs.all (gateOk nets) = true := by
  unfold validF at h
  split at h
  · cases h
  · split at h
    · cases h
    · split at h
      · rename_i h1 h2 h3
        exact ⟨by omega, by omega, by omega, h3⟩
      · cases h
set_option maxHeartbeats 4000000 in
set_option maxRecDepth 100000 in
theorem settle_any (nets : Int) (GA : Option Addr) (gn gc : Nat) (gs : List GateL) (DA : Option Addr) (dn dc : Nat) (ds : List DriveL) (A : Option Addr) (n c : Nat) (start : List Int) (w : World)
    (hg : RdGates w GA gn gs) (hd : RdDrives w DA dn ds) (hs : ReadsInt w .i64 A n start) (hdn : dn ≤ 140737488355328 / 8 - 100) :
    Calls Try.prog 23 #[.agg #[.int .i64 nets, .slice GA gn gc], .slice DA dn dc, .slice A n c] w fun e w' => settleOut (SettleAns nets gs ds start) w' e ∧ Below w.heap.size w w' := by
  have hdm := hd.2.1
  have hnm := hs.2.1
  have HNL := Lib.hid hs.1
  have HDL := Lib.hid hd.1
  have HGL := Lib.hid hg.1
  have HDN := Lib.hid hdn; clear hdn
  have hB : Below w.heap.size w (w.alloc (.cells #[.int .i64 nets, .slice GA gn gc] 39)) := (Below.refl _ _).alloc (Nat.le_refl _) _
  have hbk : (w.alloc (.cells #[.int .i64 nets, .slice GA gn gc] 39)).heap[w.heap.size]? = some (.cells #[.int .i64 nets, .slice GA gn gc] 39 (0, 0)) := blk_new _ _
  have c0 : (w.alloc (.cells #[.int .i64 nets, .slice GA gn gc] 39)).cell? ⟨w.heap.size, 0, none⟩ = some (.int .i64 nets) := (blk_cell hbk 0).trans rfl
  have c1 : (w.alloc (.cells #[.int .i64 nets, .slice GA gn gc] 39)).cell? ⟨w.heap.size, 1, none⟩ = some (.slice GA gn gc) := (blk_cell hbk 1).trans rfl
  have hg1 := hg.below hB
  have HB := Lib.hid hB; clear hB
  have HBK := Lib.hid hbk; clear hbk
  have HG1 := Lib.hid hg1; clear hg1
  have HG := Lib.hid hg; clear hg
  have HD := Lib.hid hd; clear hd
  have HS := Lib.hid hs; clear hs
  go_enter Try.func23, Try.ntmps23
  go_wp2_with fail
  refine (validate_any _ _ _ _ _ _ HG1.out).mono ?_
  rintro e w1 ⟨rfl, hb1⟩
  have HBK1 := Lib.hid (blk_below HBK.out hb1)
  have HB1 := Lib.hid (HB.out.trans (hb1.mono HB.out.size))
  clear hb1 c0 c1
  by_cases hv : validF nets gs = 0
  · have HV := Lib.hid hv
    rw [hv]
    clear hv
    go_wp2_with fail
    refine (values_any _ _ _ _ _ (HS.out.below HB1.out)).mono ?_
    rintro e w2 ⟨rfl, rfl⟩
    have c0 : w1.cell? ⟨w.heap.size, 0, none⟩ = some (.int .i64 nets) := (blk_cell HBK1.out 0).trans rfl
    by_cases hv2 : valuesF start = 0
    · have HV2 := Lib.hid hv2
      rw [hv2]
      clear hv2
      by_cases h3 : (n : Int) = nets
      · have HN3 := Lib.hid h3
        have h3b : ((n : Int) != nets) = false := by simpa using h3
        clear h3
        go_wp2_with fail
        go_loopw [30] (fun i wr => ∃ k : Nat, k ≤ dn ∧ i = .int .i64 k ∧ Hid ((ds.take k).all (driveOk nets) = true) ∧ Hid (Below w.heap.size w wr) ∧ Hid (wr.heap[w.heap.size]? = some (.cells #[.int .i64 nets, .slice GA gn gc] 39 (0, 0)))) (fun i _ => dn - (intOf i).toNat)
        case atStart => exact ⟨0, by omega, rfl, Lib.hid rfl, HB1, HBK1⟩
        case round =>
          obtain ⟨k, hk, rfl, hall, hB, hbk⟩ := hrel
          clear HB1 HBK1 c0
          by_cases hlt : k < dn
          · obtain ⟨ad, rfl, g5, g6⟩ := (HD.out.below hB.out).at_ k hlt
            have HBAD := Lib.hid (fun h => drives_bad (nets := nets) (k := k) (by rw [HDL.out]; exact hlt) (driveOk_bad h))
            have HGOOD := Lib.hid (fun h1 h2 h3 => drives_succ (nets := nets) (k := k) (by rw [HDL.out]; exact hlt) hall.out (driveOk_good h1 h2 h3))
            generalize (ds.getD k zDrive).net = dnet at *
            generalize (ds.getD k zDrive).v = dv at *
            have hB2 : Below w.heap.size w (wr.alloc (.cells #[.int .i64 dnet, .int .i64 dv] 85)) := hB.out.alloc hB.out.size _
            have hbk2 := blk_alloc hbk.out (.cells #[.int .i64 dnet, .int .i64 dv] 85)
            have d0 : (wr.alloc (.cells #[.int .i64 dnet, .int .i64 dv] 85)).cell? ⟨w.heap.size, 0, none⟩ = some (.int .i64 nets) := (blk_cell hbk2 0).trans rfl
            have HB2 := Lib.hid hB2; clear hB2
            have HBK2 := Lib.hid hbk2; clear hbk2
            by_cases k1 : dnet < 0
            · have HR := Lib.hid (settlesF_drive HV.out HV2.out (by rw [HNL.out]; exact HN3.out) (HBAD.out (.inl k1)))
              go_wp2
              go_ret3
              exact ⟨settleOut_bad HR.out (by decide) _, HB2.out⟩
            by_cases k2 : nets ≤ dnet
            · have HR := Lib.hid (settlesF_drive HV.out HV2.out (by rw [HNL.out]; exact HN3.out) (HBAD.out (.inr (.inl k2))))
              go_wp2
              go_ret3
              exact ⟨settleOut_bad HR.out (by decide) _, HB2.out⟩
            rcases hiv : isVal dv with _ | _
            · have HR := Lib.hid (settlesF_drive HV.out HV2.out (by rw [HNL.out]; exact HN3.out) (HBAD.out (.inr (.inr hiv))))
              have HIV := Lib.hid hiv; clear hiv
              go_wp2_with (go_at_call 43; refine (isValue_any _ _).mono ?_; rintro e w' ⟨rfl, rfl⟩; rw [HIV.out])
              go_ret3
              exact ⟨settleOut_bad HR.out (by decide) _, HB2.out⟩
            · have HA := Lib.hid (HGOOD.out (by omega) (by omega) hiv)
              have HIV := Lib.hid hiv; clear hiv
              go_wp2_with (go_at_call 43; refine (isValue_any _ _).mono ?_; rintro e w' ⟨rfl, rfl⟩; rw [HIV.out])
              go_roundw
              case rel => exact ⟨k + 1, by omega, by go_num, HA, HB2, HBK2⟩
              case measure => simp [intOf]; omega
          · have c0 : wr.cell? ⟨w.heap.size, 0, none⟩ = some (.int .i64 nets) := (blk_cell hbk.out 0).trans rfl
            have c1 : wr.cell? ⟨w.heap.size, 1, none⟩ = some (.slice GA gn gc) := (blk_cell hbk.out 1).trans rfl
            have hA := hall.out
            rw [List.take_of_length_le (by rw [HDL.out]; omega)] at hA
            have HR := Lib.hid (settlesF_rest HV.out HV2.out (by rw [HNL.out]; exact HN3.out) hA)
            have HDO := Lib.hid hA; clear hA
            go_wp2_with fail
            refine (delayed_any _ _ _ _ _ _ (HG.out.below hB.out)).mono ?_
            rintro e w3 ⟨rfl, hb3⟩
            have HB3 := Lib.hid (hB.out.trans (hb3.mono hB.out.size))
            have HBK3 := Lib.hid (blk_below hbk.out hb3); clear hb3
            clear c0 c1
            cases hdl : delB gs
            · have HDB := Lib.hid (show settlesF nets gs ds start = 0 by rw [HR.out, hdl]; simp); clear hdl
              have c0 : w3.cell? ⟨w.heap.size, 0, none⟩ = some (.int .i64 nets) := (blk_cell HBK3.out 0).trans rfl
              have c1 : w3.cell? ⟨w.heap.size, 1, none⟩ = some (.slice GA gn gc) := (blk_cell HBK3.out 1).trans rfl
              go_wp2_with fail
              refine (made_any _ _ _ _ _).mono ?_
              rintro e w4 ⟨g, mb, rfl, hp, hgw, hb4⟩
              have HB4 := Lib.hid (HB3.out.trans (hb4.mono HB3.out.size)); clear hb4
              have HP := Lib.hid hp; clear hp
              obtain ⟨v1, v2, v3, v4⟩ := validF_ok HV.out
              obtain ⟨nn, rfl⟩ := Int.eq_ofNat_of_zero_le (show 0 ≤ nets by omega)
              have hnn : n = nn := by have := HN3.out; omega
              subst hnn
              have HV4 := Lib.hid v4; clear v4
              go_wp2_with fail
              refine (settle53_any g mb n GA gn gc gs DA dn dc ds A c start w4 HP.out (HG.out.below HB4.out) (HD.out.below HB4.out) (HS.out.below HB4.out) (valuesF_ok HV2.out).1 HV4.out HDO.out (by omega) (by omega) (by have := HGL.out; omega) HDN.out).mono ?_
              rintro e w5 ⟨hres, hb5⟩
              have HB5 := Lib.hid (HB4.out.trans (hb5.mono HB4.out.size)); clear hb5
              have HRES := Lib.hid (settleOut_ok (nets := (n : Int)) HDB.out hres)
              generalize hsf : settleF (nextF n gs ds) [start] start 101 = rr at hres
              clear hsf
              rcases rr with _ | ⟨xs, kk⟩
              · have he : e = Ending.returned (.tuple #[.slice none 0 0, .int .i64 0, .int .i64 10]) := hres
                subst he
                clear hres
                go_wp2_with fail
                go_ret3
                exact ⟨HRES.out, HB5.out⟩
              · obtain ⟨A5, c5, rfl, hrd⟩ := hres
                clear hrd
                go_wp2_with fail
                go_ret3
                exact ⟨HRES.out, HB5.out⟩
            · have HDB := Lib.hid (show settlesF nets gs ds start = 7 by rw [HR.out, hdl]; simp); clear hdl
              go_wp2_with fail
              go_ret3
              exact ⟨settleOut_bad HDB.out (by decide) _, HB3.out⟩
      · have HR := Lib.hid (settlesF_fit (ds := ds) HV.out HV2.out (by rw [HNL.out]; exact h3))
        have h3b : ((n : Int) != nets) = true := by simpa using h3
        clear h3
        go_wp2_with fail
        go_ret3
        exact ⟨settleOut_bad HR.out (by decide) _, HB1.out⟩
    · have HR := Lib.hid (settlesF_values (ds := ds) HV.out hv2)
      have hb2 : (valuesF start != 0) = true := by simpa using hv2
      have HNE := Lib.hid hv2
      clear hv2
      generalize valuesF start = vv at *
      go_wp2_with fail
      go_ret3
      exact ⟨settleOut_bad HR.out HNE.out _, HB1.out⟩
  · have HR := Lib.hid (settlesF_valid (ds := ds) (start := start) hv)
    have hb2 : (validF nets gs != 0) = true := by simpa using hv
    have HNE := Lib.hid hv
    clear hv
    generalize validF nets gs = vv at *
    go_wp2_with fail
    go_ret3
    exact ⟨settleOut_bad HR.out HNE.out _, HB1.out⟩
end Go.Proofs.Ytobdhdehmkmjcaa
