/- LogicSettles: the walk of the law. -/
import Derived.Test.YtobdhdehmkmjcaaP7
import Derived.Test.YtobdhdehmkmjcaaP8
namespace Go.Proofs.Ytobdhdehmkmjcaa
set_option linter.unusedVariables false
set_option linter.unusedSimpArgs false
open Go.RowKit Go.Proofs.YtobdhdehmkmjcaaW.PrintWords Go.Proofs.YtobdhdehmkmjcaaW.PrintLast
open Rows0

def outL (r : Option (List Int × Nat) × Int) : List Int × Int × Int :=
  match r.1 with
  | some (xs, k) => (xs, k, 0)
  | none => ([], 0, r.2)
theorem settleOut_reads {r : Option (List Int × Nat) × Int} {w : World} {e : Ending} (h : settleOut r w e) :
    ∃ A n c, e = .returned (.tuple #[.slice A n c, .int .i64 (outL r).2.1, .int .i64 (outL r).2.2]) ∧ ReadsInt w .i64 A n (outL r).1 := by
  obtain ⟨r1, r2⟩ := r
  cases r1 with
  | none => exact ⟨none, 0, 0, h, rfl, by simp, fun h => by omega⟩
  | some p =>
    obtain ⟨xs, k⟩ := p
    obtain ⟨A, c, he, hr⟩ := h
    exact ⟨A, xs.length, c, he, hr⟩
set_option maxHeartbeats 1000000 in
theorem depth29_any (nets : Int) (GA : Option Addr) (gn gc : Nat) (gs : List GateL) (w : World) (hg : RdGates w GA gn gs) :
    Calls Try.prog 29 #[.agg #[.int .i64 nets, .slice GA gn gc]] w fun e w' => e = .returned (.tuple #[.int .i64 (depthAns nets gs).1, .bool (depthAns nets gs).2.1, .int .i64 (depthAns nets gs).2.2]) ∧ Below w.heap.size w w' := by
  have HGL := Lib.hid hg.1
  have hB : Below w.heap.size w (w.alloc (.cells #[.int .i64 nets, .slice GA gn gc] 39)) := (Below.refl _ _).alloc (Nat.le_refl _) _
  have hbk : (w.alloc (.cells #[.int .i64 nets, .slice GA gn gc] 39)).heap[w.heap.size]? = some (.cells #[.int .i64 nets, .slice GA gn gc] 39 (0, 0)) := blk_new _ _
  have c0 : (w.alloc (.cells #[.int .i64 nets, .slice GA gn gc] 39)).cell? ⟨w.heap.size, 0, none⟩ = some (.int .i64 nets) := (blk_cell hbk 0).trans rfl
  have c1 : (w.alloc (.cells #[.int .i64 nets, .slice GA gn gc] 39)).cell? ⟨w.heap.size, 1, none⟩ = some (.slice GA gn gc) := (blk_cell hbk 1).trans rfl
  have HG1 := Lib.hid (hg.below hB)
  have HB := Lib.hid hB; clear hB
  have HBK := Lib.hid hbk; clear hbk
  have HG := Lib.hid hg; clear hg
  go_enter Try.func29, Try.ntmps29
  go_wp2_with fail
  refine (rvalidate_any _ _ _ _ _ _ HG1.out).mono ?_
  rintro e w1 ⟨rfl, hb1⟩
  have HBK1 := Lib.hid (blk_below HBK.out hb1)
  have HB1 := Lib.hid (HB.out.trans (hb1.mono HB.out.size))
  clear hb1 c0 c1
  by_cases hv : validF nets gs = 0
  · have HV := Lib.hid (validF_ok hv)
    have HA : Hid (depthAns nets gs = (max (depthP (fdG gs) gn) 0, decide (0 ≤ depthP (fdG gs) gn), 0)) := Lib.hid (by
      unfold depthAns
      rw [if_neg (by rw [hv]; simp), HGL.out])
    rw [hv]
    clear hv
    have c0 : w1.cell? ⟨w.heap.size, 0, none⟩ = some (.int .i64 nets) := (blk_cell HBK1.out 0).trans rfl
    have c1 : w1.cell? ⟨w.heap.size, 1, none⟩ = some (.slice GA gn gc) := (blk_cell HBK1.out 1).trans rfl
    go_wp2_with fail
    refine (depth59_any _ _ _ _ _ _ (HG.out.below HB1.out) (by have := HV.out.2.2.1; have := HGL.out; omega)).mono ?_
    rintro e w2 ⟨rfl, hb2⟩
    have HB2 := Lib.hid (HB1.out.trans (hb2.mono HB1.out.size)); clear hb2
    generalize max (depthP (fdG gs) gn) 0 = d0 at *
    generalize decide (0 ≤ depthP (fdG gs) gn) = b0 at *
    go_wp2_with fail
    go_ret3
    refine ⟨?_, HB2.out⟩
    rw [HA.out]
    try rfl
  · have hb2 : (validF nets gs != 0) = true := by simpa using hv
    have HA : Hid (depthAns nets gs = (0, false, validF nets gs)) := Lib.hid (if_pos hv)
    clear hv
    generalize validF nets gs = vv at *
    go_wp2_with fail
    go_ret3
    refine ⟨?_, HB1.out⟩
    rw [HA.out]
    try rfl

set_option maxHeartbeats 4000000 in
set_option maxRecDepth 100000 in
theorem settles_law (nets : Int) (GA : Option Addr) (gn gc : Nat) (gs : List GateL) (DA : Option Addr) (dn dc : Nat) (ds : List DriveL) (A : Option Addr) (n c : Nat) (start : List Int) (w : World)
    (hg : RdGates w GA gn gs) (hd : RdDrives w DA dn ds) (hs : ReadsInt w .i64 A n start) (hdn : dn ≤ 140737488355328 / 8 - 100) :
    Calls Try.prog 6 #[.agg #[.int .i64 nets, .slice GA gn gc], .slice DA dn dc, .slice A n c] w fun e w' => e = .returned (.bool true) ∧ Below w.heap.size w w' := by
  have HDN := Lib.hid hdn; clear hdn
  have hB : Below w.heap.size w (w.alloc (.cells #[.int .i64 nets, .slice GA gn gc] 39)) := (Below.refl _ _).alloc (Nat.le_refl _) _
  have hbk : (w.alloc (.cells #[.int .i64 nets, .slice GA gn gc] 39)).heap[w.heap.size]? = some (.cells #[.int .i64 nets, .slice GA gn gc] 39 (0, 0)) := blk_new _ _
  have c0 : (w.alloc (.cells #[.int .i64 nets, .slice GA gn gc] 39)).cell? ⟨w.heap.size, 0, none⟩ = some (.int .i64 nets) := (blk_cell hbk 0).trans rfl
  have c1 : (w.alloc (.cells #[.int .i64 nets, .slice GA gn gc] 39)).cell? ⟨w.heap.size, 1, none⟩ = some (.slice GA gn gc) := (blk_cell hbk 1).trans rfl
  have HG1 := Lib.hid (hg.below hB)
  have HD1 := Lib.hid (hd.below hB)
  have HS1 := Lib.hid (hs.below hB)
  have HB := Lib.hid hB; clear hB
  have HBK := Lib.hid hbk; clear hbk
  have HG := Lib.hid hg; clear hg
  have HD := Lib.hid hd; clear hd
  have HS := Lib.hid hs; clear hs
  go_enter Try.func6, Try.ntmps6
  go_wp2_with fail
  refine (settle_any _ _ _ _ _ _ _ _ _ _ _ _ _ _ HG1.out HD1.out HS1.out HDN.out).mono ?_
  rintro e w1 ⟨hres, hb1⟩
  have HBK1 := Lib.hid (blk_below HBK.out hb1)
  have HB1 := Lib.hid (HB.out.trans (hb1.mono HB.out.size))
  clear hb1 c0 c1
  obtain ⟨A1, n1, c1', rfl, hr1⟩ := settleOut_reads hres
  clear hres
  have HR1 := Lib.hid hr1; clear hr1
  have c0 : w1.cell? ⟨w.heap.size, 0, none⟩ = some (.int .i64 nets) := (blk_cell HBK1.out 0).trans rfl
  have c1 : w1.cell? ⟨w.heap.size, 1, none⟩ = some (.slice GA gn gc) := (blk_cell HBK1.out 1).trans rfl
  go_wp2_with fail
  refine (rsettle_any _ _ _ _ _ _ _ _ _ _ _ _ _ _ (HG.out.below HB1.out) (HD.out.below HB1.out) (HS.out.below HB1.out)).mono ?_
  rintro e w2 ⟨hres, hb2⟩
  have HBK2 := Lib.hid (blk_below HBK1.out hb2)
  have HB2 := Lib.hid (HB1.out.trans (hb2.mono HB1.out.size))
  obtain ⟨A2, n2, c2', rfl, hr2⟩ := settleOut_reads hres
  clear hres
  have HR2 := Lib.hid hr2; clear hr2
  have HR1' := Lib.hid (HR1.out.below hb2)
  clear hb2 c0 c1
  generalize outL (SettleAns nets gs ds start) = oL at *
  obtain ⟨xs, k, ee⟩ := oL
  have c0 : w2.drew.cell? ⟨w.heap.size, 0, none⟩ = some (.int .i64 nets) := (blk_cell HBK2.out 0).trans rfl
  have c1 : w2.drew.cell? ⟨w.heap.size, 1, none⟩ = some (.slice GA gn gc) := (blk_cell HBK2.out 1).trans rfl
  have HBK2D : Hid (w2.drew.heap[w.heap.size]? = some (.cells #[.int .i64 nets, .slice GA gn gc] 39 (0, 0))) := HBK2
  have HB2D : Hid (Below w.heap.size w w2.drew) := Lib.hid (pw_below_drewN (n := 1) HB2.out)
  have HR1D : Hid (ReadsInt w2.drew .i64 A1 n1 xs) := HR1'
  have HR2D : Hid (ReadsInt w2.drew .i64 A2 n2 xs) := HR2
  go_wp2_with fail
  refine wp_region_tail 99 (fun w' => w'.cell? ⟨w.heap.size, 0, none⟩ = some (.int .i64 nets) ∧ w'.cell? ⟨w.heap.size, 1, none⟩ = some (.slice GA gn gc)) (by kernel_rfl) ?_
  change wpAnyF _ _ _ _ _ _ _ _ _ w2.drew
  refine wpAnyF_take (i := 0) (v := .agg #[.int .i64 nets, .slice GA gn gc]) rfl (by kernel_rfl) (by kernel_rfl) (by kernel_rfl) (by kernel_rfl) (fun _ _ _ h => h) (Or.inl ⟨by rfl, ?_⟩) ⟨c0, c1⟩ ?_
  · rintro W ⟨y0, y1⟩
    go_simp
  try simp only [Act.put, List.setIfInBounds_toArray, List.set_cons_zero, List.set_cons_succ]
  refine wpAnyF_take (i := 2) (v := .agg #[.int .i64 nets, .slice GA gn gc]) rfl (by kernel_rfl) (by kernel_rfl) (by kernel_rfl) (by kernel_rfl) (fun _ _ _ h => h) (Or.inl ⟨by rfl, ?_⟩) ⟨c0, c1⟩ ?_
  · rintro W ⟨y0, y1⟩
    go_simp
  try simp only [Act.put, List.setIfInBounds_toArray, List.set_cons_zero, List.set_cons_succ]
  generalize w2.drew = wd at *
  have hBKc : ∀ W : World, Below wd.heap.size wd W → W.cell? ⟨w.heap.size, 0, none⟩ = some (.int .i64 nets) ∧ W.cell? ⟨w.heap.size, 1, none⟩ = some (.slice GA gn gc) := fun W hW => ⟨pw_cell_below hW c0, pw_cell_below hW c1⟩
  have HBKC := Lib.hid hBKc; clear hBKc
  refine wpAnyF_one (i := 1) rfl (by kernel_rfl) (fun K hK => ?_)
  refine goes_ (f := 26) Try.func26 (by kernel_rfl) rfl #[.agg #[.int .i64 nets, .slice GA gn gc]] rfl rfl rfl (by simp [Act.eval]) ?_
  refine (validate_any _ _ _ _ _ _ (HG.out.below HB2D.out)).mono ?_
  rintro e w3 ⟨rfl, hb3⟩
  have HB3 := Lib.hid hb3; clear hb3
  refine ⟨_, rfl, ?_⟩
  refine hK _ _ (fun _ => HBKC.out _ HB3.out) ?_
  clear hK K
  try simp only [Act.put, List.setIfInBounds_toArray, List.set_cons_zero, List.set_cons_succ]
  refine wpAnyF_one (i := 3) rfl (by kernel_rfl) (fun K hK => ?_)
  refine goes_ (f := 27) Try.func27 (by kernel_rfl) rfl #[.agg #[.int .i64 nets, .slice GA gn gc]] rfl rfl rfl (by simp [Act.eval]) ?_
  refine (rvalidate_any _ _ _ _ _ _ (HG.out.below (HB2D.out.trans (HB3.out.mono HB2D.out.size)))).mono ?_
  rintro e w4 ⟨rfl, hb4⟩
  have HB4 := Lib.hid (HB3.out.trans (hb4.mono HB3.out.size)); clear hb4
  refine ⟨_, rfl, ?_⟩
  refine hK _ _ (fun _ => HBKC.out _ HB4.out) ?_
  clear hK K
  try simp only [Act.put, List.setIfInBounds_toArray, List.set_cons_zero, List.set_cons_succ]
  generalize validF nets gs = vf at *
  clear c0 c1
  have hc2 := HBKC.out _ HB4.out
  obtain ⟨d0, d1⟩ := hc2
  refine wpAnyF_one (i := 4) rfl (by kernel_rfl) (fun K hK => ?_)
  go_simp
  refine hK _ _ (fun _ => ⟨d0, d1⟩) ?_
  clear hK K
  try simp only [Act.put, List.setIfInBounds_toArray, List.set_cons_zero, List.set_cons_succ]
  refine wpAnyF_one (i := 5) rfl (by kernel_rfl) (fun K hK => ?_)
  go_simp
  refine hK _ _ (fun _ => ⟨d0, d1⟩) ?_
  clear hK K
  try simp only [Act.put, List.setIfInBounds_toArray, List.set_cons_zero, List.set_cons_succ]
  refine wpAnyF_take (i := 6) (v := .int .i64 k) rfl (by kernel_rfl) (by kernel_rfl) (by kernel_rfl) (by kernel_rfl) (fun _ _ _ h => h) (Or.inl ⟨by rfl, ?_⟩) ⟨d0, d1⟩ ?_
  · rintro W ⟨y0, y1⟩
    go_simp
  try simp only [Act.put, List.setIfInBounds_toArray, List.set_cons_zero, List.set_cons_succ]
  refine wpAnyF_take (i := 7) (v := .int .i64 k) rfl (by kernel_rfl) (by kernel_rfl) (by kernel_rfl) (by kernel_rfl) (fun _ _ _ h => h) (Or.inl ⟨by rfl, ?_⟩) ⟨d0, d1⟩ ?_
  · rintro W ⟨y0, y1⟩
    go_simp
  try simp only [Act.put, List.setIfInBounds_toArray, List.set_cons_zero, List.set_cons_succ]
  refine wpAnyF_one (i := 8) rfl (by kernel_rfl) (fun K hK => ?_)
  go_simp
  refine hK _ _ (fun _ => ⟨d0, d1⟩) ?_
  clear hK K
  try simp only [Act.put, List.setIfInBounds_toArray, List.set_cons_zero, List.set_cons_succ]
  refine wpAnyF_one (i := 9) rfl (by kernel_rfl) (fun K hK => ?_)
  go_simp
  refine hK _ _ (fun _ => ⟨d0, d1⟩) ?_
  clear hK K
  try simp only [Act.put, List.setIfInBounds_toArray, List.set_cons_zero, List.set_cons_succ]
  refine wpAnyF_one (i := 10) rfl (by kernel_rfl) (fun K hK => ?_)
  go_simp
  refine hK _ _ (fun _ => ⟨d0, d1⟩) ?_
  clear hK K
  try simp only [Act.put, List.setIfInBounds_toArray, List.set_cons_zero, List.set_cons_succ]
  refine wpAnyF_take (i := 11) (v := .int .i64 ee) rfl (by kernel_rfl) (by kernel_rfl) (by kernel_rfl) (by kernel_rfl) (fun _ _ _ h => h) (Or.inl ⟨by rfl, ?_⟩) ⟨d0, d1⟩ ?_
  · rintro W ⟨y0, y1⟩
    go_simp
  try simp only [Act.put, List.setIfInBounds_toArray, List.set_cons_zero, List.set_cons_succ]
  refine wpAnyF_take (i := 12) (v := .int .i64 ee) rfl (by kernel_rfl) (by kernel_rfl) (by kernel_rfl) (by kernel_rfl) (fun _ _ _ h => h) (Or.inl ⟨by rfl, ?_⟩) ⟨d0, d1⟩ ?_
  · rintro W ⟨y0, y1⟩
    go_simp
  try simp only [Act.put, List.setIfInBounds_toArray, List.set_cons_zero, List.set_cons_succ]
  refine wpAnyF_one (i := 13) rfl (by kernel_rfl) (fun K hK => ?_)
  go_simp
  refine hK _ _ (fun _ => ⟨d0, d1⟩) ?_
  clear hK K
  try simp only [Act.put, List.setIfInBounds_toArray, List.set_cons_zero, List.set_cons_succ]
  refine wpAnyF_one (i := 14) rfl (by kernel_rfl) (fun K hK => ?_)
  go_simp
  refine hK _ _ (fun _ => ⟨d0, d1⟩) ?_
  clear hK K
  try simp only [Act.put, List.setIfInBounds_toArray, List.set_cons_zero, List.set_cons_succ]
  refine wpAnyF_one (i := 15) rfl (by kernel_rfl) (fun K hK => ?_)
  go_simp
  refine hK _ _ (fun _ => ⟨d0, d1⟩) ?_
  clear hK K
  try simp only [Act.put, List.setIfInBounds_toArray, List.set_cons_zero, List.set_cons_succ]
  refine wpAnyF_take (i := 16) (v := .slice A1 n1 c1') rfl (by kernel_rfl) (by kernel_rfl) (by kernel_rfl) (by kernel_rfl) (fun _ _ _ h => h) (Or.inl ⟨by rfl, ?_⟩) ⟨d0, d1⟩ ?_
  · rintro W ⟨y0, y1⟩
    go_simp
  try simp only [Act.put, List.setIfInBounds_toArray, List.set_cons_zero, List.set_cons_succ]
  refine wpAnyF_take (i := 17) (v := .slice A2 n2 c2') rfl (by kernel_rfl) (by kernel_rfl) (by kernel_rfl) (by kernel_rfl) (fun _ _ _ h => h) (Or.inl ⟨by rfl, ?_⟩) ⟨d0, d1⟩ ?_
  · rintro W ⟨y0, y1⟩
    go_simp
  try simp only [Act.put, List.setIfInBounds_toArray, List.set_cons_zero, List.set_cons_succ]
  have HR1F := Lib.hid (HR1D.out.below HB4.out)
  have HR2F := Lib.hid (HR2D.out.below HB4.out)
  refine wpAnyF_one (i := 18) rfl (by kernel_rfl) (fun K hK => ?_)
  refine goes_ (f := 21) Try.func21 (by kernel_rfl) rfl #[.slice A1 n1 c1', .slice A2 n2 c2'] rfl rfl rfl (by simp [Act.eval]) ?_
  refine (same_any _ _ _ _ _ _ xs xs _ HR1F.out HR2F.out).mono ?_
  rintro e w5 ⟨rfl, q5, rfl⟩
  rw [show sameB xs xs = true by simp [sameB]]
  refine ⟨_, rfl, ?_⟩
  refine hK _ _ (fun _ => ⟨d0, d1⟩) ?_
  clear hK K
  try simp only [Act.put, List.setIfInBounds_toArray, List.set_cons_zero, List.set_cons_succ]
  refine wpAnyF_one (i := 19) rfl (by kernel_rfl) (fun K hK => ?_)
  go_simp
  refine hK _ _ (fun _ => ⟨d0, d1⟩) ?_
  clear hK K
  try simp only [Act.put, List.setIfInBounds_toArray, List.set_cons_zero, List.set_cons_succ]
  refine wpAnyF_one (i := 20) rfl (by kernel_rfl) (fun K hK => ?_)
  go_simp
  refine hK _ _ (fun _ => ⟨d0, d1⟩) ?_
  clear hK K
  try simp only [Act.put, List.setIfInBounds_toArray, List.set_cons_zero, List.set_cons_succ]
  refine wpAnyF_done (by kernel_rfl) ?_ _
  have HB6 : Hid (Below w.heap.size w (w4.drewN q5)) := Lib.hid (pw_below_drewN (n := q5) (HB2D.out.trans (HB4.out.mono HB2D.out.size)))
  have HBK6 : Hid ((w4.drewN q5).heap[w.heap.size]? = some (.cells #[.int .i64 nets, .slice GA gn gc] 39 (0, 0))) := Lib.hid (blk_drewN (blk_below HBK2D.out HB4.out) q5)
  clear d0 d1
  generalize w4.drewN q5 = w6 at *
  have c0 : w6.cell? ⟨w.heap.size, 0, none⟩ = some (.int .i64 nets) := (blk_cell HBK6.out 0).trans rfl
  have c1 : w6.cell? ⟨w.heap.size, 1, none⟩ = some (.slice GA gn gc) := (blk_cell HBK6.out 1).trans rfl
  go_wp2_with fail
  refine (depth28_any _ _ _ _ _ _ (HG.out.below HB6.out)).mono ?_
  rintro e w7 ⟨rfl, hb7⟩
  have HBK7 := Lib.hid (blk_below HBK6.out hb7)
  have HB7 := Lib.hid (HB6.out.trans (hb7.mono HB6.out.size)); clear hb7 c0 c1
  have c0 : w7.cell? ⟨w.heap.size, 0, none⟩ = some (.int .i64 nets) := (blk_cell HBK7.out 0).trans rfl
  have c1 : w7.cell? ⟨w.heap.size, 1, none⟩ = some (.slice GA gn gc) := (blk_cell HBK7.out 1).trans rfl
  go_wp2_with fail
  refine (depth29_any _ _ _ _ _ _ (HG.out.below HB7.out)).mono ?_
  rintro e w8 ⟨rfl, hb8⟩
  have HB8 := Lib.hid (HB7.out.trans (hb8.mono HB7.out.size)); clear hb8 c0 c1
  generalize depthAns nets gs = dA at *
  obtain ⟨x0, b0, e0⟩ := dA
  go_wp2_with fail
  refine (known_any _).mono ?_
  rintro e w9 ⟨rfl, hb9⟩
  have HB9 := Lib.hid (HB8.out.trans (hb9.mono HB8.out.size)); clear hb9
  go_wp2_with fail
  go_ret
  exact ⟨rfl, HB9.out⟩
end Go.Proofs.Ytobdhdehmkmjcaa
