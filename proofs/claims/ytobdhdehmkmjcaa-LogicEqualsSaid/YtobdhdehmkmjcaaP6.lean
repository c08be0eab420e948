/- LogicRests: the walk of the law. -/
import Derived.Test.YtobdhdehmkmjcaaP5
namespace Go.Proofs.Ytobdhdehmkmjcaa
set_option linter.unusedVariables false
set_option linter.unusedSimpArgs false
open Go.RowKit Go.Proofs.YtobdhdehmkmjcaaW.PrintWords Go.Proofs.YtobdhdehmkmjcaaW.PrintLast
open Rows0

theorem validF_cases (nets : Int) (gs : List GateL) : validF nets gs = 0 ∨ validF nets gs = 1 ∨ validF nets gs = 3 := by
  unfold validF
  repeat' split
  all_goals simp
theorem valuesF_cases (xs : List Int) : valuesF xs = 0 ∨ valuesF xs = 1 ∨ valuesF xs = 3 := by
  unfold valuesF
  repeat' split
  all_goals simp
theorem settlesF_ne10 (nets : Int) (gs : List GateL) (ds : List DriveL) (start : List Int) : settlesF nets gs ds start ≠ 10 := by
  unfold settlesF
  rcases validF_cases nets gs with h | h | h <;> rcases valuesF_cases start with h2 | h2 | h2 <;> rw [h, h2]
  all_goals (repeat' split)
  all_goals simp_all
theorem settlesF_zero {nets : Int} {gs : List GateL} {ds : List DriveL} {start : List Int} (h : settlesF nets gs ds start = 0) :
    validF nets gs = 0 ∧ valuesF start = 0 ∧ (start.length : Int) = nets ∧ ds.all (driveOk nets) = true ∧ delB gs = false := by
  unfold settlesF at h
  by_cases h1 : validF nets gs = 0
  · rw [if_neg (by rw [h1]; simp)] at h
    by_cases h2 : valuesF start = 0
    · rw [if_neg (by rw [h2]; simp)] at h
      by_cases h3 : (start.length : Int) = nets
      · rw [if_neg (by rw [h3]; simp)] at h
        by_cases h4 : ds.all (driveOk nets) = false
        · rw [if_pos h4] at h; cases h
        · rw [if_neg h4] at h
          by_cases h5 : delB gs = true
          · rw [if_pos h5] at h; cases h
          · exact ⟨h1, h2, h3, by simpa using h4, by simpa using h5⟩
      · rw [if_pos h3] at h; cases h
    · rw [if_pos h2] at h; exact absurd h h2
  · rw [if_pos h1] at h; exact absurd h h1
theorem settlesF_of {nets : Int} {gs : List GateL} {ds : List DriveL} {start : List Int} (h1 : validF nets gs = 0) (h2 : valuesF start = 0) (h3 : (start.length : Int) = nets) (h4 : ds.all (driveOk nets) = true) (h5 : delB gs = false) : settlesF nets gs ds start = 0 := by
  rw [settlesF_rest h1 h2 h3 h4, h5]; rfl
theorem seq_val {nn : Nat} {gs : List GateL} {ds : List DriveL} {s0 : List Int} (hg : gs.all (gateOk nn) = true) (hd : ds.all (driveOk nn) = true) (hl : s0.length = nn) (hv : s0.all isVal = true) : ∀ t, (seqF (nextF nn gs ds) s0 t).length = nn ∧ (seqF (nextF nn gs ds) s0 t).all isVal = true
  | 0 => ⟨hl, hv⟩
  | t + 1 => by
    obtain ⟨h1, h2⟩ := seq_val hg hd hl hv t
    exact ⟨nextF_length nn gs ds _, nextF_val hg hd h1 h2⟩
theorem depth_le {gs : List GateL} (h60 : gs.length ≤ 60) : depthP (fdG gs) gs.length ≤ 60 := by
  by_cases h : ∃ f, Fix (fdG gs) gs.length f
  · obtain ⟨f, hf⟩ := h
    rw [depthP_fix hf]
    exact maxL_le f _ (by omega) (fun i hi => by have := fix_le hf (by rw [← hf.1]; exact hi); omega)
  · rw [depthP_none (fun f hf => h ⟨f, hf⟩)]; omega
theorem depthAns_le (nets : Int) (gs : List GateL) : 0 ≤ (depthAns nets gs).1 ∧ (depthAns nets gs).1 ≤ 60 := by
  unfold depthAns
  split
  · exact ⟨Int.le_refl _, show (0 : Int) ≤ 60 by omega⟩
  · rename_i h
    have hv := validF_ok (Classical.not_not.1 h)
    have := depth_le hv.2.2.1
    show 0 ≤ max _ 0 ∧ max _ 0 ≤ 60
    omega
/-- What the two answers are together. -/
theorem rests_plain (nets : Int) (gs : List GateL) (ds : List DriveL) (start : List Int) :
    ((depthAns nets gs).2.2 ≠ 0 ∨ (depthAns nets gs).2.1 = false ∨ ((SettleAns nets gs ds start).1 = none ∧ (SettleAns nets gs ds start).2 ≠ 0 ∧ (SettleAns nets gs ds start).2 ≠ 10)) ∨
    ((depthAns nets gs).2.2 = 0 ∧ (depthAns nets gs).2.1 = true ∧ ∃ (v : List Int) (m : Nat), SettleAns nets gs ds start = (some (v, m), 0) ∧ (m : Int) ≤ (depthAns nets gs).1 + 1 ∧ SettleAns nets gs ds v = (some (v, 0), 0)) := by
  by_cases hv : validF nets gs = 0
  · have hA : depthAns nets gs = (max (depthP (fdG gs) gs.length) 0, decide (0 ≤ depthP (fdG gs) gs.length), 0) := by
      unfold depthAns; rw [if_neg (by rw [hv]; simp)]
    rw [hA]
    by_cases hp : 0 ≤ depthP (fdG gs) gs.length
    · by_cases hs : settlesF nets gs ds start = 0
      · right
        obtain ⟨h1, h2, h3, h4, h5⟩ := settlesF_zero hs
        obtain ⟨v1, v2, v3, v4⟩ := validF_ok h1
        obtain ⟨nn, rfl⟩ := Int.eq_ofNat_of_zero_le (show 0 ≤ nets by omega)
        obtain ⟨m, hm, hf, hset⟩ := rests (nn := nn) (ds := ds) (s0 := start) v4 h4 v3 hp
        have hsv := seq_val (s0 := start) v4 h4 (by omega) (valuesF_ok h2).1 m
        refine ⟨rfl, by simpa using hp, seqF (nextF nn gs ds) start m, m, ?_, ?_, ?_⟩
        · unfold SettleAns
          rw [if_neg (by rw [hs]; simp)]
          rw [Int.toNat_natCast, hset]
        · show (m : Int) ≤ max _ 0 + 1
          omega
        · have h6 : settlesF (nn : Int) gs ds (seqF (nextF nn gs ds) start m) = 0 := settlesF_of h1 (by unfold valuesF; rw [if_neg (by omega), hsv.2]; rfl) (by omega) h4 h5
          unfold SettleAns
          rw [if_neg (by rw [h6]; simp)]
          rw [Int.toNat_natCast, show (101 : Nat) = 101 - 0 by rfl, settleF_done (r := 0) (by omega) (by simp [sameB, hf])]
      · left; right; right
        unfold SettleAns
        rw [if_pos hs]
        exact ⟨rfl, hs, settlesF_ne10 _ _ _ _⟩
    · left; right; left
      simpa using hp
  · left; left
    unfold depthAns
    rw [if_pos hv]
    exact hv
theorem settleOut_form {r : Option (List Int × Nat) × Int} {w : World} {e : Ending} (h : settleOut r w e) : ∃ A n c k ee, e = .returned (.tuple #[.slice A n c, .int .i64 k, .int .i64 ee]) ∧ (r.1 = none → ee = r.2) := by
  unfold settleOut at h
  split at h
  · rename_i h1
    obtain ⟨A, c, he, _⟩ := h
    exact ⟨A, _, c, _, _, he, fun h2 => by rw [h1] at h2; cases h2⟩
  · exact ⟨none, 0, 0, 0, r.2, h, fun _ => rfl⟩

set_option maxHeartbeats 4000000 in
set_option maxRecDepth 100000 in
theorem rests_law (nets : Int) (GA : Option Addr) (gn gc : Nat) (gs : List GateL) (DA : Option Addr) (dn dc : Nat) (ds : List DriveL) (A : Option Addr) (n c : Nat) (start : List Int) (w : World)
    (hg : RdGates w GA gn gs) (hd : RdDrives w DA dn ds) (hs : ReadsInt w .i64 A n start) (hdn : dn ≤ 140737488355328 / 8 - 100) :
    Calls Try.prog 7 #[.agg #[.int .i64 nets, .slice GA gn gc], .slice DA dn dc, .slice A n c] w fun e w' => e = .returned (.bool true) ∧ Below w.heap.size w w' := by
  have HDN := Lib.hid hdn; clear hdn
  have hB : Below w.heap.size w (w.alloc (.cells #[.int .i64 nets, .slice GA gn gc] 39)) := (Below.refl _ _).alloc (Nat.le_refl _) _
  have hbk : (w.alloc (.cells #[.int .i64 nets, .slice GA gn gc] 39)).heap[w.heap.size]? = some (.cells #[.int .i64 nets, .slice GA gn gc] 39 (0, 0)) := blk_new _ _
  have c0 : (w.alloc (.cells #[.int .i64 nets, .slice GA gn gc] 39)).cell? ⟨w.heap.size, 0, none⟩ = some (.int .i64 nets) := (blk_cell hbk 0).trans rfl
  have c1 : (w.alloc (.cells #[.int .i64 nets, .slice GA gn gc] 39)).cell? ⟨w.heap.size, 1, none⟩ = some (.slice GA gn gc) := (blk_cell hbk 1).trans rfl
  have HG1 := Lib.hid (hg.below hB)
  have HB := Lib.hid hB; clear hB
  have HBK := Lib.hid hbk; clear hbk
  have HG := Lib.hid hg; clear hg
  have HD := Lib.hid hd; clear hd
  have HS := Lib.hid hs; clear hs
  have HP := Lib.hid (rests_plain nets gs ds start)
  have hdl := depthAns_le nets gs
  go_enter Try.func7, Try.ntmps7
  go_wp2_with fail
  refine (depth28_any _ _ _ _ _ _ HG1.out).mono ?_
  rintro e w1 ⟨rfl, hb1⟩
  have HBK1 := Lib.hid (blk_below HBK.out hb1)
  have HB1 := Lib.hid (HB.out.trans (hb1.mono HB.out.size))
  clear hb1 c0 c1
  generalize depthAns nets gs = dA at *
  obtain ⟨d0, is0, e0⟩ := dA
  have c0 : w1.cell? ⟨w.heap.size, 0, none⟩ = some (.int .i64 nets) := (blk_cell HBK1.out 0).trans rfl
  have c1 : w1.cell? ⟨w.heap.size, 1, none⟩ = some (.slice GA gn gc) := (blk_cell HBK1.out 1).trans rfl
  obtain ⟨hd0, hd1⟩ := hdl
  simp only at hd0 hd1
  go_wp2_with fail
  refine (settle_any _ _ _ _ _ _ _ _ _ _ _ _ _ _ (HG.out.below HB1.out) (HD.out.below HB1.out) (HS.out.below HB1.out) HDN.out).mono ?_
  rintro e w2 ⟨hres, hb2⟩
  have HBK2 := Lib.hid (blk_below HBK1.out hb2)
  have HB2 := Lib.hid (HB1.out.trans (hb2.mono HB1.out.size))
  clear hb2 c0 c1
  rcases HP.out with hbad | ⟨h1, h2, v, m, h3, h4, h5⟩
  · obtain ⟨A2, n2, c2, k2, ee, rfl, hee⟩ := settleOut_form hres
    clear hres
    by_cases hE : e0 = 0
    · subst hE
      cases is0 with
      | false =>
        clear hbad hee
        go_wp2_with fail
        refine (known_any _).mono ?_
        rintro e w3 ⟨rfl, hb3⟩
        have HB3 := Lib.hid (HB2.out.trans (hb3.mono HB2.out.size)); clear hb3
        go_wp2_with fail
        go_ret
        exact ⟨rfl, HB3.out⟩
      | true =>
        have hb3 : (SettleAns nets gs ds start).1 = none ∧ (SettleAns nets gs ds start).2 ≠ 0 ∧ (SettleAns nets gs ds start).2 ≠ 10 := by simpa using hbad
        have he := hee hb3.1
        rw [← he] at hb3
        obtain ⟨_, e1, e2⟩ := hb3
        have e1' : (ee != 0) = true := by simpa using e1
        have e2' : (ee != 10) = true := by simpa using e2
        clear he hee hbad e1 e2
        go_wp2_with fail
        refine (known_any _).mono ?_
        rintro e w3 ⟨rfl, hb3⟩
        have HB3 := Lib.hid (HB2.out.trans (hb3.mono HB2.out.size)); clear hb3
        go_wp2_with fail
        go_ret
        exact ⟨rfl, HB3.out⟩
    · have hE' : (e0 != 0) = true := by simpa using hE
      clear hE hbad hee
      go_wp2_with fail
      refine (known_any _).mono ?_
      rintro e w3 ⟨rfl, hb3⟩
      have HB3 := Lib.hid (HB2.out.trans (hb3.mono HB2.out.size)); clear hb3
      go_wp2_with fail
      go_ret
      exact ⟨rfl, HB3.out⟩
  · have h1' : e0 = 0 := h1
    have h2' : is0 = true := h2
    have h4' : (m : Int) ≤ d0 + 1 := h4
    clear h1 h2 h4
    subst h1' h2'
    rw [h3] at hres
    obtain ⟨A2, c2, rfl, hr2⟩ := hres
    have HR2 := Lib.hid hr2; clear hr2
    have HA5 := Lib.hid h5; clear h5
    clear h3
    have c0 : w2.cell? ⟨w.heap.size, 0, none⟩ = some (.int .i64 nets) := (blk_cell HBK2.out 0).trans rfl
    have c1 : w2.cell? ⟨w.heap.size, 1, none⟩ = some (.slice GA gn gc) := (blk_cell HBK2.out 1).trans rfl
    go_wp2_with fail
    refine (settle_any _ _ _ _ _ _ _ _ _ _ _ _ _ _ (HG.out.below HB2.out) (HD.out.below HB2.out) HR2.out HDN.out).mono ?_
    rintro e w3 ⟨hres, hb3⟩
    rw [HA5.out] at hres
    obtain ⟨A3, c3, rfl, hr3⟩ := hres
    have HR3 := Lib.hid hr3; clear hr3
    have HR2' := Lib.hid (HR2.out.below hb3)
    have HB3 := Lib.hid (HB2.out.trans (hb3.mono HB2.out.size)); clear hb3 c0 c1
    go_wp2_with fail
    refine (same_any _ _ _ _ _ _ v v _ HR2'.out HR3.out).mono ?_
    rintro e w4 ⟨rfl, q, rfl⟩
    rw [show sameB v v = true by simp [sameB]]
    have HB4 := Lib.hid (pw_below_drewN HB3.out q)
    go_wp2_with fail
    refine (known_any _).mono ?_
    rintro e w5 ⟨rfl, hb5⟩
    have HB5 := Lib.hid (HB4.out.trans (hb5.mono HB4.out.size)); clear hb5
    go_wp2_with fail
    go_ret
    exact ⟨rfl, HB5.out⟩
end Go.Proofs.Ytobdhdehmkmjcaa
