/- Validate on both sides. -/
import Derived.Test.YtobdhdehmkmjcaaR
namespace Go.Proofs.Ytobdhdehmkmjcaa
set_option linter.unusedVariables false
set_option linter.unusedSimpArgs false
open Go.RowKit Go.Proofs.YtobdhdehmkmjcaaW.PrintWords Go.Proofs.YtobdhdehmkmjcaaW.PrintLast

theorem all_bad {p : GateL → Bool} {gs : List GateL} {k : Nat} (hk : k < gs.length) (h : p (gs.getD k zGate) = false) : (if gs.all p then (0 : Int) else 1) = 1 := by
  rw [if_neg]
  simp only [Bool.not_eq_true, List.all_eq_false]
  refine ⟨gs.getD k zGate, ?_, h⟩
  rw [List.getD_eq_getElem?_getD, List.getElem?_eq_getElem hk]
  exact List.getElem_mem _
theorem all_good {p : GateL → Bool} {gs : List GateL} (h : gs.all p = true) : (if gs.all p then (0 : Int) else 1) = 0 := by rw [if_pos h]
theorem gtake_succ {p : GateL → Bool} {gs : List GateL} {k : Nat} (hk : k < gs.length) (h : (gs.take k).all p = true) (hp : p (gs.getD k zGate) = true) : (gs.take (k + 1)).all p = true := by
  rw [List.take_succ_eq_append_getElem hk, List.all_append, h]
  rw [List.getD_eq_getElem?_getD, List.getElem?_eq_getElem hk] at hp
  simpa using hp
/-- What a net of a gate has to be. -/
def inOk (nets kind : Int) (n : Int) : Bool := if kind = 0 then isVal n else decide (0 ≤ n) && decide (n < nets)
theorem gateOk_false {nets : Int} {g : GateL} (h : (g.ins.length : Int) ≠ inputsF g.kind ∨ g.out < 0 ∨ nets ≤ g.out ∨ g.delay < 0 ∨ 20 < g.delay ∨ g.ins.all (inOk nets g.kind) = false) : gateOk nets g = false := by
  unfold gateOk
  rcases h with h | h | h | h | h | h
  · simp [h]
  · simp [show ¬ 0 ≤ g.out by omega]
  · simp [show ¬ g.out < nets by omega]
  · simp [show ¬ 0 ≤ g.delay by omega]
  · simp [show ¬ g.delay ≤ 20 by omega]
  · have : g.ins.all (fun n => if g.kind = 0 then isVal n else decide (0 ≤ n) && decide (n < nets)) = false := h
    rw [this, Bool.and_false]
theorem gateOk_true {nets : Int} {g : GateL} (h1 : (g.ins.length : Int) = inputsF g.kind) (h2 : 0 ≤ g.out) (h3 : g.out < nets) (h4 : 0 ≤ g.delay) (h5 : g.delay ≤ 20) (h6 : g.ins.all (inOk nets g.kind) = true) : gateOk nets g = true := by
  unfold gateOk
  have : g.ins.all (fun n => if g.kind = 0 then isVal n else decide (0 ≤ n) && decide (n < nets)) = true := h6
  rw [this]
  simp [h1, h2, h3, h4, h5]
theorem ins_bad {p : Int → Bool} {xs : List Int} {k : Nat} (hk : k < xs.length) (h : p (xs.getD k 0) = false) : xs.all p = false := by
  rw [List.all_eq_false]
  refine ⟨xs.getD k 0, ?_, Bool.eq_false_iff.1 h⟩
  rw [List.getD_eq_getElem?_getD, List.getElem?_eq_getElem hk]
  exact List.getElem_mem _

set_option maxHeartbeats 2000000 in
set_option maxRecDepth 100000 in
theorem validate_any (nets : Int) (A : Option Addr) (n c : Nat) (gs : List GateL) (w : World) (hr : RdGates w A n gs) :
    Calls Try.prog 26 #[.agg #[.int .i64 nets, .slice A n c]] w fun e w' => e = .returned (.int .i64 (validF nets gs)) ∧ Below w.heap.size w w' := by
  have hl := hr.1
  have hm := hr.2.1
  have hB : Below w.heap.size w (w.alloc (.cells #[.int .i64 nets, .slice A n c] 39)) := (Below.refl _ _).alloc (Nat.le_refl _) _
  by_cases h1 : 40 < nets
  · have hv : validF nets gs = 3 := if_pos (.inl h1)
    have HV := Lib.hid hv; clear hv hl
    have HB := Lib.hid hB; clear hB
    go_enter Try.func26, Try.ntmps26
    go_wp2
    go_ret
    exact ⟨ret_int HV.out.symm, HB.out⟩
  by_cases h2 : 60 < n
  · have hv : validF nets gs = 3 := if_pos (.inr (by omega))
    have HV := Lib.hid hv; clear hv hl
    have HB := Lib.hid hB; clear hB
    go_enter Try.func26, Try.ntmps26
    go_wp2
    go_ret
    exact ⟨ret_int HV.out.symm, HB.out⟩
  by_cases h3 : nets < 1
  · have hv : validF nets gs = 1 := by unfold validF; rw [if_neg (by omega), if_pos h3]
    have HV := Lib.hid hv; clear hv hl
    have HB := Lib.hid hB; clear hB
    go_enter Try.func26, Try.ntmps26
    go_wp2
    go_ret
    exact ⟨ret_int HV.out.symm, HB.out⟩
  have hv : validF nets gs = if gs.all (gateOk nets) then 0 else 1 := by unfold validF; rw [if_neg (by omega), if_neg h3]
  have HV := Lib.hid hv; clear hv
  have HL := Lib.hid hl; clear hl
  have HB0 := Lib.hid hB; clear hB
  have hbk : (w.alloc (.cells #[.int .i64 nets, .slice A n c] 39)).heap[w.heap.size]? = some (.cells #[.int .i64 nets, .slice A n c] 39 (0, 0)) := blk_new _ _
  have HBK := Lib.hid hbk; clear hbk
  have HR := Lib.hid hr; clear hr
  go_enter Try.func26, Try.ntmps26
  go_wp2
  go_loopw [22] (fun i wr => ∃ k : Nat, k ≤ n ∧ i = .int .i64 k ∧ Hid ((gs.take k).all (gateOk nets) = true) ∧ Hid (Below w.heap.size w wr) ∧ Hid (wr.heap[w.heap.size]? = some (.cells #[.int .i64 nets, .slice A n c] 39 (0, 0)))) (fun i _ => n - (intOf i).toNat)
  case atStart => exact ⟨0, by omega, rfl, rfl, HB0.out, HBK.out⟩
  case round =>
    obtain ⟨k, hk, rfl, hall, hB, hbk⟩ := hrel
    by_cases hlt : k < n
    · obtain ⟨ad, rfl, hg⟩ := (HR.out.below hB.out).at_ k hlt
      obtain ⟨g1, ⟨AI, ci, g2, g3, g4⟩, g5, g6⟩ := hg
      have G3 := Lib.hid g3; clear g3
      have hm2 := G3.out.2.1
      have c0 : wr.cell? ⟨w.heap.size, 0, none⟩ = some (.int .i64 nets) := (blk_cell hbk.out 0).trans rfl
      have c1 : wr.cell? ⟨w.heap.size, 1, none⟩ = some (.slice (some ad) n c) := (blk_cell hbk.out 1).trans rfl
      generalize hg : (gs.getD k zGate) = g at *
      have HG := Lib.hid hg; clear hg
      obtain ⟨kd, ins, out, dl⟩ := g
      have hB1 : Below w.heap.size w (wr.alloc (.cells #[.int .i64 kd, .slice AI ins.length ci, .int .i64 out, .int .i64 dl] 88)) := hB.out.alloc hB.out.size _
      have d0 : (wr.alloc (.cells #[.int .i64 kd, .slice AI ins.length ci, .int .i64 out, .int .i64 dl] 88)).cell? ⟨w.heap.size, 0, none⟩ = some (.int .i64 nets) := (blk_cell (blk_alloc hbk.out _) 0).trans rfl
      have hbk1 := blk_alloc hbk.out (.cells #[.int .i64 kd, .slice AI ins.length ci, .int .i64 out, .int .i64 dl] 88)
      have HB1 := Lib.hid hB1; clear hB1
      have HBK1 := Lib.hid hbk1; clear hbk1
      have G3' := Lib.hid (G3.out.below (show Below wr.heap.size wr (wr.alloc (.cells #[.int .i64 kd, .slice AI ins.length ci, .int .i64 out, .int .i64 dl] 88)) from (Below.refl _ _).alloc (Nat.le_refl _) _))
      clear hm2
      have hm2 : ins.length ≤ 9223372036854775807 := G3.out.2.1
      generalize hi : inputsF kd = q
      have HI := Lib.hid hi; clear hi
      by_cases k1 : ((ins.length : Int) != q) = true
      · have HBAD := Lib.hid (all_bad (p := gateOk nets) (by rw [HL.out]; exact hlt) (by rw [HG.out]; exact gateOk_false (nets := nets) (.inl (by show (ins.length : Int) ≠ inputsF kd; rw [HI.out]; simpa using k1))))
        have HK1 := Lib.hid k1
        go_wp2
        go_quiet ((go_at_call 39; exact Calls.quiet_of_same ((inputs_any _ _).mono fun _ _ h => ⟨by rw [h.1, HI.out], h.2.symm⟩)))
        go_wp2
        go_ret
        exact ⟨ret_int (by rw [HV.out, HBAD.out]), pw_below_drewN HB1.out _⟩
      have k1' : ((ins.length : Int) != q) = false := by simpa using k1
      have HK1 : Hid ((ins.length : Int) = q) := Lib.hid (by simpa using k1)
      clear k1
      by_cases k2 : out < 0
      · have HBAD := Lib.hid (all_bad (p := gateOk nets) (by rw [HL.out]; exact hlt) (by rw [HG.out]; exact gateOk_false (nets := nets) (.inr (.inl k2))))
        skip
        go_wp2
        go_quiet ((go_at_call 39; exact Calls.quiet_of_same ((inputs_any _ _).mono fun _ _ h => ⟨by rw [h.1, HI.out], h.2.symm⟩)))
        go_wp2
        go_ret
        exact ⟨ret_int (by rw [HV.out, HBAD.out]), pw_below_drewN HB1.out _⟩
      by_cases k3 : nets ≤ out
      · have HBAD := Lib.hid (all_bad (p := gateOk nets) (by rw [HL.out]; exact hlt) (by rw [HG.out]; exact gateOk_false (nets := nets) (.inr (.inr (.inl k3)))))
        skip
        go_wp2
        go_quiet ((go_at_call 39; exact Calls.quiet_of_same ((inputs_any _ _).mono fun _ _ h => ⟨by rw [h.1, HI.out], h.2.symm⟩)))
        go_wp2
        go_ret
        exact ⟨ret_int (by rw [HV.out, HBAD.out]), pw_below_drewN HB1.out _⟩
      by_cases k4 : dl < 0
      · have HBAD := Lib.hid (all_bad (p := gateOk nets) (by rw [HL.out]; exact hlt) (by rw [HG.out]; exact gateOk_false (nets := nets) (.inr (.inr (.inr (.inl k4))))))
        skip
        go_wp2
        go_quiet ((go_at_call 39; exact Calls.quiet_of_same ((inputs_any _ _).mono fun _ _ h => ⟨by rw [h.1, HI.out], h.2.symm⟩)))
        go_wp2
        go_ret
        exact ⟨ret_int (by rw [HV.out, HBAD.out]), pw_below_drewN HB1.out _⟩
      by_cases k5 : 20 < dl
      · have HBAD := Lib.hid (all_bad (p := gateOk nets) (by rw [HL.out]; exact hlt) (by rw [HG.out]; exact gateOk_false (nets := nets) (.inr (.inr (.inr (.inr (.inl k5)))))))
        skip
        go_wp2
        go_quiet ((go_at_call 39; exact Calls.quiet_of_same ((inputs_any _ _).mono fun _ _ h => ⟨by rw [h.1, HI.out], h.2.symm⟩)))
        go_wp2
        go_ret
        exact ⟨ret_int (by rw [HV.out, HBAD.out]), pw_below_drewN HB1.out _⟩
      go_wp2
      go_quiet ((go_at_call 39; exact Calls.quiet_of_same ((inputs_any _ _).mono fun _ _ h => ⟨by rw [h.1, HI.out], h.2.symm⟩)))
      go_wp2
      have hgb : ((wr.alloc (.cells #[.int .i64 kd, .slice AI ins.length ci, .int .i64 out, .int .i64 dl] 88)).drewN nq).heap[wr.heap.size]? = some (.cells #[.int .i64 kd, .slice AI ins.length ci, .int .i64 out, .int .i64 dl] 88 (0, 0)) := blk_new wr _
      have HGB := Lib.hid hgb; clear hgb
      have HBW := Lib.hid (show Below wr.heap.size wr ((wr.alloc (.cells #[.int .i64 kd, .slice AI ins.length ci, .int .i64 out, .int .i64 dl] 88)).drewN nq) from pw_below_drewN ((Below.refl _ _).alloc (Nat.le_refl _) _) _)
      have HRI := Lib.hid (show ReadsInt wr .i64 AI ins.length ins from G3.out)
      go_loopw [58] (fun i wx => ∃ j : Nat, j ≤ ins.length ∧ i = .int .i64 j ∧ Hid ((ins.take j).all (inOk nets kd) = true) ∧ Hid (Below wr.heap.size wr wx) ∧ Hid (Below w.heap.size w wx) ∧ Hid (wx.heap[w.heap.size]? = some (.cells #[.int .i64 nets, .slice (some ad) n c] 39 (0, 0))) ∧ Hid (wx.heap[wr.heap.size]? = some (.cells #[.int .i64 kd, .slice AI ins.length ci, .int .i64 out, .int .i64 dl] 88 (0, 0)))) (fun i _ => ins.length - (intOf i).toNat)
      case atStart => exact ⟨0, by omega, rfl, Lib.hid rfl, HBW, Lib.hid (pw_below_drewN HB1.out _), Lib.hid HBK1.out, HGB⟩
      case round =>
        rename World => wx
        obtain ⟨j, hj, rfl, hall2, hBw, hB2, hbk2, hgb2⟩ := hrel
        by_cases hlt2 : j < ins.length
        · obtain ⟨adi, rfl, hci⟩ := rdN (HRI.out.below hBw.out) j hlt2
          have e0 : wx.cell? ⟨w.heap.size, 0, none⟩ = some (.int .i64 nets) := (blk_cell hbk2.out 0).trans rfl
          have f0 : wx.cell? ⟨_, 0, none⟩ = some (.int .i64 kd) := (blk_cell hgb2.out 0).trans rfl
          generalize hx : ins.getD j 0 = x at *
          have HX := Lib.hid hx; clear hx
          by_cases hk0 : kd = 0
          · subst hk0
            by_cases hv : isVal x = true
            · have hs : inOk nets 0 x = true := hv
              have HS := Lib.hid hs; clear hs
              have HVV := Lib.hid hv; clear hv
              go_wp2_with (go_at_call 43; refine (isValue_is _ _ _ HVV).mono ?_; rintro e w' ⟨rfl, rfl⟩)
              go_round
              case rel => exact ⟨j + 1, by omega, by go_num, Lib.hid ((take_all_succ hlt2 hall2.out).trans (by rw [HX.out]; exact HS.out)), hBw, hB2, Lib.hid hbk2.out, Lib.hid hgb2.out⟩
              case measure => simp [intOf]; omega
            · have hs : inOk nets 0 x = false := (by simpa using hv : isVal x = false)
              have HS := Lib.hid hs; clear hs
              have HVV : Hid (isVal x = false) := Lib.hid (by simpa using hv)
              clear hv
              have HBAD := Lib.hid (all_bad (p := gateOk nets) (by rw [HL.out]; exact hlt) (by rw [HG.out]; exact gateOk_false (nets := nets) (.inr (.inr (.inr (.inr (.inr (ins_bad hlt2 (by rw [HX.out]; exact HS.out)))))))))
              go_wp2_with (go_at_call 43; refine (isValue_is _ _ _ HVV).mono ?_; rintro e w' ⟨rfl, rfl⟩)
              go_ret
              exact ⟨ret_int (by rw [HV.out, HBAD.out]), hB2.out⟩
          · by_cases hv : x < 0 ∨ nets ≤ x
            · have hs : inOk nets kd x = false := by unfold inOk; rw [if_neg hk0]; rcases hv with hv | hv <;> simp [show ¬ 0 ≤ x ∨ ¬ x < nets by omega] <;> omega
              have HS := Lib.hid hs; clear hs
              have HBAD := Lib.hid (all_bad (p := gateOk nets) (by rw [HL.out]; exact hlt) (by rw [HG.out]; exact gateOk_false (nets := nets) (.inr (.inr (.inr (.inr (.inr (ins_bad hlt2 (by rw [HX.out]; exact HS.out)))))))))
              by_cases hv1 : x < 0
              all_goals try have hv2 : nets ≤ x := by omega
              all_goals clear hv
              all_goals go_wp2
              all_goals go_ret
              all_goals exact ⟨ret_int (by rw [HV.out, HBAD.out]), hB2.out⟩
            · have hs : inOk nets kd x = true := by unfold inOk; rw [if_neg hk0]; simp; omega
              have HS := Lib.hid hs; clear hs
              have hv1 : ¬ x < 0 := by omega
              have hv2 : ¬ nets ≤ x := by omega
              clear hv
              go_wp2
              go_round
              case rel => exact ⟨j + 1, by omega, by go_num, Lib.hid ((take_all_succ hlt2 hall2.out).trans (by rw [HX.out]; exact HS.out)), hBw, hB2, Lib.hid hbk2.out, Lib.hid hgb2.out⟩
              case measure => simp [intOf]; omega
        · have hall3 : ins.all (inOk nets kd) = true := by
            have h := hall2.out
            rwa [List.take_of_length_le (by omega)] at h
          have HOK := Lib.hid (gateOk_true (nets := nets) (g := ⟨kd, ins, out, dl⟩) (by rw [HK1.out, HI.out]) (by show 0 ≤ out; omega) (by show out < nets; omega) (by show 0 ≤ dl; omega) (by show dl ≤ 20; omega) hall3)
          go_wp2
          go_round
          case rel => exact ⟨k + 1, by omega, by go_num, Lib.hid (gtake_succ (by rw [HL.out]; exact hlt) hall.out (by rw [HG.out]; exact HOK.out)), hB2, hbk2⟩
          case measure => simp [intOf]; omega
    · go_wp2
      go_ret
      refine ⟨ret_int ?_, hB.out⟩
      have : gs.take k = gs := List.take_of_length_le (by rw [HL.out]; omega)
      rw [HV.out, all_good (by have h := hall.out; rwa [this] at h)]
end Go.Proofs.Ytobdhdehmkmjcaa
