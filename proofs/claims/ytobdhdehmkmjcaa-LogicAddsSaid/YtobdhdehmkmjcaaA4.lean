/- Adders add: the walk of the law. -/
import Derived.Test.YtobdhdehmkmjcaaA3
import Derived.Test.YtobdhdehmkmjcaaG
namespace Go.Proofs.Ytobdhdehmkmjcaa
set_option linter.unusedVariables false
set_option linter.unusedSimpArgs false
open Go.RowKit Go.Proofs.YtobdhdehmkmjcaaW.PrintWords Go.Proofs.YtobdhdehmkmjcaaW.PrintLast

theorem sumNet_lt (k : Nat) (hk : k < 6) : sumNet k < 38 := by unfold sumNet; split <;> omega
set_option maxHeartbeats 8000000 in
set_option maxRecDepth 100000 in
theorem adds_law (a b : Int) (carry weak : Bool) (w : World) :
    Calls Try.prog 5 #[.int .i64 a, .int .i64 b, .bool carry, .bool weak] w fun e w' => e = .returned (.bool true) ∧ Below w.heap.size w w' := by
  obtain ⟨c, hc⟩ : ∃ c : Int, c = if carry then 1 else 0 := ⟨_, rfl⟩
  have hbit : Bit c := by rw [hc]; cases carry <;> simp [Bit]
  have hcb : 0 ≤ c ∧ c < 2 := by rw [hc]; cases carry <;> simp
  obtain ⟨v, m, hans, hvl, hvk⟩ := adds_plain a b weak hbit
  have ha31 := and31 a
  have hb31 := and31 b
  have hra : 0 ≤ a % 32 ∧ a % 32 < 32 := by omega
  have hrb : 0 ≤ b % 32 ∧ b % 32 < 32 := by omega
  generalize a % 32 = ra at *
  generalize b % 32 = rb at *
  obtain ⟨hra0, hra1⟩ := hra
  obtain ⟨hrb0, hrb1⟩ := hrb
  obtain ⟨hc0, hc1⟩ := hcb
  have HANS := Lib.hid hans; clear hans
  have HVL := Lib.hid hvl; clear hvl
  obtain ⟨S, hS⟩ : ∃ S : Int, ra + rb + c = S := ⟨_, rfl⟩
  rw [hS] at hvk
  have HVK := Lib.hid hvk; clear hvk
  have HC := Lib.hid hc
  have hS0 : 0 ≤ S := by omega
  have hS1 : S < 64 := by omega
  have HS := Lib.hid hS; clear hS hc hbit
  go_enter Try.func5, Try.ntmps5
  go_wp2_with fail
  refine (adder22 a b carry weak c HC.out _).mono ?_
  rintro e w1 ⟨GA, gc, DA, dc, rfl, hg, hd, hb1⟩
  have hbA : Below w1.heap.size w1 (w1.alloc (.cells #[.int .i64 38, .slice GA 25 gc] 39)) := (Below.refl _ _).alloc (Nat.le_refl _) _
  have HG := Lib.hid (hg.below hbA); clear hg
  have HD := Lib.hid (hd.below hbA); clear hd
  have HB := Lib.hid (hb1.trans (hbA.mono hb1.size)); clear hb1 hbA
  have HBK := Lib.hid (blk_new w1 (.cells #[.int .i64 38, .slice GA 25 gc] 39))
  go_wp2_with fail
  generalize hgz : w1.heap.size = g at HBK HG HD HB ⊢
  clear hgz
  generalize (w1.alloc (.cells #[.int .i64 38, .slice GA 25 gc] 39)) = wx at HBK HG HD HB ⊢
  have c0 : wx.cell? ⟨g, 0, none⟩ = some (.int .i64 38) := (blk_cell HBK.out 0).trans rfl
  have c1 : wx.cell? ⟨g, 1, none⟩ = some (.slice GA 25 gc) := (blk_cell HBK.out 1).trans rfl
  have hmk : (Instr.makeSlice 22 (.int .i64 38) (.int .i64 38)).run Try.prog wx.drew = .ok (.slice (some ⟨wx.drew.heap.size, 0, none⟩) 38 38) (wx.drew.alloc (.cells (madeCells #[.int .i64 0] 38) 3)) := make22 38 (by decide) wx.drew
  have hnb := own_made wx.drew wx.drew.heap.size 3 .i64 38 (Nat.le_refl _) (by omega)
  generalize madeCells #[.int .i64 0] 38 = mk at hmk hnb
  have HNB := Lib.hid hnb; clear hnb
  have HB3 := Lib.hid ((pw_below_drewN (n := 1) HB.out).alloc (by have := HB.out.size; exact this) (.cells mk 3))
  have HBK3 : Hid ((wx.drew.alloc (.cells mk 3)).heap[g]? = some (.cells #[.int .i64 38, .slice GA 25 gc] 39 (0, 0))) := Lib.hid (blk_alloc (blk_drew HBK.out) _)
  have HX : Hid (Below wx.heap.size wx (wx.drew.alloc (.cells mk 3))) := Lib.hid ((pw_below_drewN (n := 1) (Below.refl _ _)).alloc (Nat.le_refl _) (.cells mk 3))
  have HG3 := Lib.hid (HG.out.below HX.out)
  have HD3 := Lib.hid (HD.out.below HX.out)
  have hc0' : (wx.drew.alloc (.cells mk 3)).cell? ⟨g, 0, none⟩ = some (.int .i64 38) := (blk_cell HBK3.out 0).trans rfl
  have hc1' : (wx.drew.alloc (.cells mk 3)).cell? ⟨g, 1, none⟩ = some (.slice GA 25 gc) := (blk_cell HBK3.out 1).trans rfl
  have HC3 := Lib.hid (And.intro hc0' hc1'); clear hc0' hc1'
  refine wp_region_tail 99 (fun w' => w'.cell? ⟨g, 0, none⟩ = some (.int .i64 38) ∧ w'.cell? ⟨g, 1, none⟩ = some (.slice GA 25 gc)) (by kernel_rfl) ?_
  change wpAnyF _ _ _ _ _ _ _ _ _ wx.drew
  refine wpAnyF_take (i := 0) (v := .agg #[.int .i64 38, .slice GA 25 gc]) rfl (by kernel_rfl) (by kernel_rfl) (by kernel_rfl) (by kernel_rfl) (fun _ _ _ h => h) (Or.inl ⟨by rfl, ?_⟩) ⟨c0, c1⟩ ?_
  · rintro W ⟨y0, y1⟩
    go_simp
  try simp only [Act.put, List.setIfInBounds_toArray, List.set_cons_zero, List.set_cons_succ]
  refine wpAnyF_take (i := 1) (v := .slice DA 11 dc) rfl (by kernel_rfl) (by kernel_rfl) (by kernel_rfl) (by kernel_rfl) (fun _ _ _ h => h) (Or.inl ⟨by rfl, ?_⟩) ⟨c0, c1⟩ ?_
  · rintro W ⟨y0, y1⟩
    go_simp
  try simp only [Act.put, List.setIfInBounds_toArray, List.set_cons_zero, List.set_cons_succ]
  refine wpAnyF_take (i := 2) (v := .pointer (some ⟨g, 0, none⟩)) rfl (by kernel_rfl) (by kernel_rfl) (by kernel_rfl) (by kernel_rfl) (fun _ _ _ h => h) (Or.inl ⟨by rfl, ?_⟩) ⟨c0, c1⟩ ?_
  · rintro W ⟨y0, y1⟩
    go_simp
  try simp only [Act.put, List.setIfInBounds_toArray, List.set_cons_zero, List.set_cons_succ]
  refine wpAnyF_take (i := 3) (v := .int .i64 38) rfl (by kernel_rfl) (by kernel_rfl) (by kernel_rfl) (by kernel_rfl) (fun _ _ _ h => h) (Or.inl ⟨by rfl, ?_⟩) ⟨c0, c1⟩ ?_
  · rintro W ⟨y0, y1⟩
    go_simp
  try simp only [Act.put, List.setIfInBounds_toArray, List.set_cons_zero, List.set_cons_succ]
  refine wpAnyF_one (i := 4) rfl (by kernel_rfl) (fun K hK => ?_)
  go_simp
  refine hK _ _ (fun _ => HC3.out) ?_
  clear hK K
  try simp only [Act.put, List.setIfInBounds_toArray, List.set_cons_zero, List.set_cons_succ]
  refine wpAnyF_one (i := 5) rfl (by kernel_rfl) (fun K hK => ?_)
  refine goes_ (f := 23) Try.func23 (by kernel_rfl) rfl #[.agg #[.int .i64 38, .slice GA 25 gc], .slice DA 11 dc, .slice (some ⟨wx.drew.heap.size, 0, none⟩) 38 38] rfl rfl rfl (by simp [Act.eval]) ?_
  refine (settle_any _ _ _ _ _ _ _ _ _ _ _ _ _ _ HG3.out HD3.out (own_reads' HNB.out) (by decide)).mono ?_
  rintro e w5 ⟨hres, hb5⟩
  rw [HANS.out] at hres
  simp only [settleOut] at hres
  rw [HVL.out] at hres
  obtain ⟨A5, c5, rfl, hr5⟩ := hres
  have HR := Lib.hid hr5; clear hr5
  have HB5 := Lib.hid (HB3.out.trans (hb5.mono HB3.out.size))
  have HBK5 := Lib.hid (blk_below HBK3.out hb5)
  clear hb5 c0 c1
  have c0 : w5.cell? ⟨g, 0, none⟩ = some (.int .i64 38) := (blk_cell HBK5.out 0).trans rfl
  have c1 : w5.cell? ⟨g, 1, none⟩ = some (.slice GA 25 gc) := (blk_cell HBK5.out 1).trans rfl
  refine ⟨_, rfl, ?_⟩
  refine hK _ _ (fun _ => ⟨c0, c1⟩) ?_
  clear hK K
  try simp only [Act.put, List.setIfInBounds_toArray, List.set_cons_zero, List.set_cons_succ]
  refine wpAnyF_one (i := 6) rfl (by kernel_rfl) (fun K hK => ?_)
  go_simp
  refine hK _ _ (fun _ => ⟨c0, c1⟩) ?_
  clear hK K
  try simp only [Act.put, List.setIfInBounds_toArray, List.set_cons_zero, List.set_cons_succ]
  refine wpAnyF_take (i := 7) (v := .slice A5 38 c5) rfl (by kernel_rfl) (by kernel_rfl) (by kernel_rfl) (by kernel_rfl) (fun _ _ _ h => h) (Or.inl ⟨by rfl, ?_⟩) ⟨c0, c1⟩ ?_
  · rintro W ⟨y0, y1⟩
    go_simp
  try simp only [Act.put, List.setIfInBounds_toArray, List.set_cons_zero, List.set_cons_succ]
  refine wpAnyF_take (i := 8) (v := .int .i64 m) rfl (by kernel_rfl) (by kernel_rfl) (by kernel_rfl) (by kernel_rfl) (fun _ _ _ h => h) (Or.inl ⟨by rfl, ?_⟩) ⟨c0, c1⟩ ?_
  · rintro W ⟨y0, y1⟩
    go_simp
  try simp only [Act.put, List.setIfInBounds_toArray, List.set_cons_zero, List.set_cons_succ]
  refine wpAnyF_take (i := 9) (v := .int .i64 0) rfl (by kernel_rfl) (by kernel_rfl) (by kernel_rfl) (by kernel_rfl) (fun _ _ _ h => h) (Or.inl ⟨by rfl, ?_⟩) ⟨c0, c1⟩ ?_
  · rintro W ⟨y0, y1⟩
    go_simp
  try simp only [Act.put, List.setIfInBounds_toArray, List.set_cons_zero, List.set_cons_succ]
  refine wpAnyF_take (i := 10) (v := .slice A5 38 c5) rfl (by kernel_rfl) (by kernel_rfl) (by kernel_rfl) (by kernel_rfl) (fun _ _ _ h => h) (Or.inl ⟨by rfl, ?_⟩) ⟨c0, c1⟩ ?_
  · rintro W ⟨y0, y1⟩
    go_simp
  try simp only [Act.put, List.setIfInBounds_toArray, List.set_cons_zero, List.set_cons_succ]
  refine wpAnyF_take (i := 11) (v := .int .i64 m) rfl (by kernel_rfl) (by kernel_rfl) (by kernel_rfl) (by kernel_rfl) (fun _ _ _ h => h) (Or.inl ⟨by rfl, ?_⟩) ⟨c0, c1⟩ ?_
  · rintro W ⟨y0, y1⟩
    go_simp
  try simp only [Act.put, List.setIfInBounds_toArray, List.set_cons_zero, List.set_cons_succ]
  refine wpAnyF_take (i := 12) (v := .int .i64 0) rfl (by kernel_rfl) (by kernel_rfl) (by kernel_rfl) (by kernel_rfl) (fun _ _ _ h => h) (Or.inl ⟨by rfl, ?_⟩) ⟨c0, c1⟩ ?_
  · rintro W ⟨y0, y1⟩
    go_simp
  try simp only [Act.put, List.setIfInBounds_toArray, List.set_cons_zero, List.set_cons_succ]
  refine wpAnyF_done (by kernel_rfl) ?_ _
  clear hmk
  cases carry
  all_goals
    go_wp2_with fail
    first
      | rw [show ra + rb + 1 = S by rw [← HS.out, HC.out]; rfl]
      | rw [show ra + rb = S by rw [← HS.out, HC.out]; simp]
    have HX0 : Hid (Below w.heap.size w w5) := HB5
    clear c0 c1
    go_loopw [15] (fun i wr => ∃ k : Nat, k ≤ 6 ∧ i = .int .i64 k ∧ Hid (Below w.heap.size w wr) ∧ Hid (ReadsInt wr .i64 A5 38 v)) (fun i _ => 6 - (intOf i).toNat)
    case atStart => exact ⟨0, by omega, rfl, HX0, HR⟩
    case round =>
      obtain ⟨k, hk, rfl, hBk, hRk⟩ := hrel
      obtain ⟨wx2, rfl⟩ : ∃ wx2 : World, wx2 = wr := ⟨_, rfl⟩
      by_cases hlt : k < 6
      · have hRk2 := hRk.out
        have hlt2 : decide ((k : Int) < 6) = true := by simp; omega
        obtain ⟨ad, hA5, hcell⟩ := rdN hRk2 (sumNet k) (sumNet_lt k hlt)
        subst hA5
        rw [HVK.out k hlt] at hcell
        have hsn := sumNet_lt k hlt
        go_wp2_with fail
        obtain ⟨sn, hsnE⟩ : ∃ sn : Nat, sumNet k = sn := ⟨_, rfl⟩
        rw [hsnE] at hcell hsn
        have HSN := Lib.hid hsnE; clear hsnE hRk2
        obtain ⟨pa, hpa⟩ : ∃ pa : Int, S / 2 ^ k = pa := ⟨_, rfl⟩
        rw [hpa] at hcell
        have hand := and1 pa
        have hrb2 : 0 ≤ pa % 2 ∧ pa % 2 < 2 := by omega
        generalize pa % 2 = r at hand hcell hrb2
        obtain ⟨hr0, hr1⟩ := hrb2
        have hw2 : IntKind.i64.wrap (2 + r) = 2 + r := by rw [IntKind.wrap_i64]; omega
        have c0 : wx2.cell? (ad.add sn) = some (.int .i64 (2 + r)) := hcell
        refine wp_region_tail 99 (fun w' => w'.cell? (ad.add sn) = some (.int .i64 (2 + r))) (by kernel_rfl) ?_
        change wpAnyF _ _ _ _ _ _ _ _ _ wx2.drew
        refine wpAnyF_take (i := 0) (v := .slice (some ad) 38 c5) rfl (by kernel_rfl) (by kernel_rfl) (by kernel_rfl) (by kernel_rfl) (fun _ _ _ h => h) (Or.inl ⟨by rfl, ?_⟩) c0 ?_
        · rintro W y0
          go_simp
        try simp only [Act.put, List.setIfInBounds_toArray, List.set_cons_zero, List.set_cons_succ]
        refine wpAnyF_take (i := 1) (v := .int .i64 k) rfl (by kernel_rfl) (by kernel_rfl) (by kernel_rfl) (by kernel_rfl) (fun _ _ _ h => h) (Or.inl ⟨by rfl, ?_⟩) c0 ?_
        · rintro W y0
          go_simp
        try simp only [Act.put, List.setIfInBounds_toArray, List.set_cons_zero, List.set_cons_succ]
        refine wpAnyF_take (i := 5) (v := .int .i64 S) rfl (by kernel_rfl) (by kernel_rfl) (by kernel_rfl) (by kernel_rfl) (fun _ _ _ h => h) (Or.inl ⟨by rfl, ?_⟩) c0 ?_
        · rintro W y0
          go_simp
        try simp only [Act.put, List.setIfInBounds_toArray, List.set_cons_zero, List.set_cons_succ]
        refine wpAnyF_take (i := 6) (v := .int .i64 k) rfl (by kernel_rfl) (by kernel_rfl) (by kernel_rfl) (by kernel_rfl) (fun _ _ _ h => h) (Or.inl ⟨by rfl, ?_⟩) c0 ?_
        · rintro W y0
          go_simp
        try simp only [Act.put, List.setIfInBounds_toArray, List.set_cons_zero, List.set_cons_succ]
        refine wpAnyF_take (i := 7) (v := .int .i64 pa) rfl (by kernel_rfl) (by kernel_rfl) (by kernel_rfl) (by kernel_rfl) (fun _ _ _ h => h) (Or.inl ⟨by rfl, ?_⟩) c0 ?_
        · rintro W y0
          go_simp
        try simp only [Act.put, List.setIfInBounds_toArray, List.set_cons_zero, List.set_cons_succ]
        refine wpAnyF_take (i := 8) (v := .int .i64 r) rfl (by kernel_rfl) (by kernel_rfl) (by kernel_rfl) (by kernel_rfl) (fun _ _ _ h => h) (Or.inl ⟨by rfl, ?_⟩) c0 ?_
        · rintro W y0
          go_simp
        try simp only [Act.put, List.setIfInBounds_toArray, List.set_cons_zero, List.set_cons_succ]
        refine wpAnyF_take (i := 9) (v := .int .i64 (2 + r)) rfl (by kernel_rfl) (by kernel_rfl) (by kernel_rfl) (by kernel_rfl) (fun _ _ _ h => h) (Or.inl ⟨by rfl, ?_⟩) c0 ?_
        · rintro W y0
          go_simp
        try simp only [Act.put, List.setIfInBounds_toArray, List.set_cons_zero, List.set_cons_succ]
        refine wpAnyF_one (i := 2) rfl (by kernel_rfl) (fun K hK => ?_)
        refine goes_ (f := 24) Try.func24 (by kernel_rfl) rfl #[.int .i64 k] rfl rfl rfl (by simp [Act.eval]) ?_
        refine (sumNet24 k hlt wx2.drew).mono ?_
        rintro e w7 ⟨rfl, rfl⟩
        rw [HSN.out]
        refine ⟨_, rfl, ?_⟩
        refine hK _ _ (fun _ => c0) ?_
        clear hK K
        try simp only [Act.put, List.setIfInBounds_toArray, List.set_cons_zero, List.set_cons_succ]
        refine wpAnyF_take (i := 3) (v := .pointer (some (ad.add sn))) rfl (by kernel_rfl) (by kernel_rfl) (by kernel_rfl) (by kernel_rfl) (fun _ _ _ h => h) (Or.inl ⟨by rfl, ?_⟩) c0 ?_
        · rintro W y0
          go_simp
          try (intro h; omega)
        try simp only [Act.put, List.setIfInBounds_toArray, List.set_cons_zero, List.set_cons_succ]
        refine wpAnyF_take (i := 4) (v := .int .i64 (2 + r)) rfl (by kernel_rfl) (by kernel_rfl) (by kernel_rfl) (by kernel_rfl) (fun _ _ _ h => h) (Or.inl ⟨by rfl, ?_⟩) c0 ?_
        · rintro W y0
          go_simp
        try simp only [Act.put, List.setIfInBounds_toArray, List.set_cons_zero, List.set_cons_succ]
        refine wpAnyF_take (i := 10) (v := .bool false) rfl (by kernel_rfl) (by kernel_rfl) (by kernel_rfl) (by kernel_rfl) (fun _ _ _ h => h) (Or.inl ⟨by rfl, ?_⟩) c0 ?_
        · rintro W y0
          go_simp
        try simp only [Act.put, List.setIfInBounds_toArray, List.set_cons_zero, List.set_cons_succ]
        refine wpAnyF_done (by kernel_rfl) ?_ _
        clear hpa hcell hand hw2 HSN hlt2 c0
        have HBk2 := Lib.hid (pw_below_drewN (n := 1) hBk.out)
        have HRk2 : Hid (ReadsInt wx2.drew .i64 (some ad) 38 v) := Lib.hid (own_drew' hRk.out)
        clear hBk hRk HR HX0
        go_simp
        go_wp2_with fail
        first
        | (go_roundw; (case rel => exact ⟨k + 1, by omega, by go_num, HBk2, HRk2⟩); (case measure => simp [intOf]; omega))
        | exact ⟨⟨k + 1, by omega, by go_num, HBk2, HRk2⟩, by simp [intOf]; omega⟩
      · obtain rfl : k = 6 := by omega
        have hlt6 : decide (((6 : Nat) : Int) < 6) = false := rfl
        go_wp2_with fail
        refine (known_any _).mono ?_
        rintro e w9 ⟨rfl, hb9⟩
        have HB9 := Lib.hid (hBk.out.trans (hb9.mono hBk.out.size)); clear hb9
        go_wp2_with fail
        go_ret
        exact ⟨rfl, HB9.out⟩
end Go.Proofs.Ytobdhdehmkmjcaa
