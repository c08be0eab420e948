/- The reference's adder is made: the walk. -/
import Derived.Test.YtobdhdehmkmjcaaA2
namespace Go.Proofs.Ytobdhdehmkmjcaa
set_option linter.unusedVariables false
set_option linter.unusedSimpArgs false
open Go.RowKit Go.Proofs.YtobdhdehmkmjcaaW.PrintWords Go.Proofs.YtobdhdehmkmjcaaW.PrintLast

set_option maxHeartbeats 8000000 in
set_option maxRecDepth 100000 in
theorem adder22 (a b : Int) (carry weak : Bool) (c : Int) (hc : c = if carry then 1 else 0) (w : World) :
    Calls Try.prog 22 #[.int .i64 a, .int .i64 b, .bool carry, .bool weak] w fun e w' => ∃ GA gc DA dc, e = .returned (.tuple #[.agg #[.int .i64 38, .slice GA 25 gc], .slice DA 11 dc]) ∧ RdGates w' GA 25 gsA ∧ RdDrives w' DA 11 (dsG weak a b c 5) ∧ Below w.heap.size w w' := by
  obtain ⟨i85, hi85, hz85, hs85, hb85⟩ := info_parts info85
  obtain ⟨i88, hi88, hz88, hs88, hb88⟩ := info_parts info88
  have hcc : c % 2 = c := by rw [hc]; cases carry <;> rfl
  have HCC := Lib.hid hcc; clear hcc
  have hz1 : (w.alloc (.cells #[.int .i64 0, .slice none 0 0] 39)).heap.size = w.heap.size + 1 := Array.size_push _
  have hbk0 : ((w.alloc (.cells #[.int .i64 0, .slice none 0 0] 39)).alloc (.cells #[.int .i64 38, .slice none 0 0] 39)).heap[w.heap.size]? = some (.cells #[.int .i64 0, .slice none 0 0] 39 (0, 0)) := blk_alloc (blk_new w _) _
  have hbk1 : ((w.alloc (.cells #[.int .i64 0, .slice none 0 0] 39)).alloc (.cells #[.int .i64 38, .slice none 0 0] 39)).heap[w.heap.size + 1]? = some (.cells #[.int .i64 38, .slice none 0 0] 39 (0, 0)) := by
    have h := blk_new (w.alloc (.cells #[.int .i64 0, .slice none 0 0] 39)) (.cells #[.int .i64 38, .slice none 0 0] 39)
    rwa [hz1] at h
  have hB0 : Below w.heap.size w ((w.alloc (.cells #[.int .i64 0, .slice none 0 0] 39)).alloc (.cells #[.int .i64 38, .slice none 0 0] 39)) := ((Below.refl _ _).alloc (Nat.le_refl _) _).alloc (by rw [hz1]; exact Nat.le_succ _) _
  have hz2 : ((w.alloc (.cells #[.int .i64 0, .slice none 0 0] 39)).alloc (.cells #[.int .i64 38, .slice none 0 0] 39)).heap.size = w.heap.size + 2 := by
    have h : ((w.alloc (.cells #[.int .i64 0, .slice none 0 0] 39)).alloc (.cells #[.int .i64 38, .slice none 0 0] 39)).heap.size = (w.alloc (.cells #[.int .i64 0, .slice none 0 0] 39)).heap.size + 1 := Array.size_push _
    rw [h, hz1]
  have HB0 := Lib.hid hB0; clear hB0
  have HBK0 := Lib.hid hbk0; clear hbk0
  have HBK1 := Lib.hid hbk1; clear hbk1
  have HZ2 := Lib.hid hz2; clear hz2 hz1
  go_enter Try.func22, Try.ntmps22
  cases carry
  all_goals
    go_wp2_with fail
    refine (bit50 _ _ _ _).mono ?_
    rintro e w5 ⟨rfl, hb5⟩
    first
      | rw [show (0 : Int) % 2 = c by rw [hc]; rfl]
      | rw [show (1 : Int) % 2 = c by rw [hc]; rfl]
    have HC := Lib.hid hc; clear hc
    have HB5 := Lib.hid (HB0.out.trans (hb5.mono HB0.out.size))
    have HBK05 := Lib.hid (blk_below HBK0.out hb5)
    have HBK15 := Lib.hid (blk_below HBK1.out hb5)
    have hs5 : w.heap.size + 2 ≤ w5.heap.size := by have := hb5.size; rw [HZ2.out] at this; exact this
    clear hb5
    have hlit := World.ownsRow_lit (base := w.heap.size + 2) (e := 85) (size := 2) w5 #[.int .i64 2, .int .i64 (dv weak c)] 1 hs5 (by simp [maxLen]) rfl
    have HD0 : Hid (World.ownsRow (w5.alloc (.cells #[.int .i64 2, .int .i64 (dv weak c)] 85)) (w.heap.size + 2) 85 2 (.slice (some ⟨w5.heap.size, 0, none⟩) 1 1) (dsG weak a b c 0).length (flatD (dsG weak a b c 0))) := Lib.hid hlit
    clear hlit
    have HB6 := Lib.hid (HB5.out.alloc HB5.out.size (.cells #[.int .i64 2, .int .i64 (dv weak c)] 85))
    have HBK06 := Lib.hid (blk_alloc HBK05.out (.cells #[.int .i64 2, .int .i64 (dv weak c)] 85))
    have HBK16 := Lib.hid (blk_alloc HBK15.out (.cells #[.int .i64 2, .int .i64 (dv weak c)] 85))
    have HG0 : Hid (GRow (w5.alloc (.cells #[.int .i64 2, .int .i64 (dv weak c)] 85)) (w.heap.size + 2) (.slice none 0 0) (gsG 0)) := Lib.hid ⟨[], own_nil _ _ _ _, rfl⟩
    have hs6 : Hid (w.heap.size + 2 ≤ (w5.alloc (.cells #[.int .i64 2, .int .i64 (dv weak c)] 85)).heap.size) := Lib.hid (by rw [show (w5.alloc (.cells #[.int .i64 2, .int .i64 (dv weak c)] 85)).heap.size = w5.heap.size + 1 from Array.size_push _]; omega)
    generalize dv weak c = d0 at HD0 HB6 HBK06 HBK16 HG0 hs6 ⊢
    go_wp2_with fail
    go_loopw [12, 13] (fun v i wr => ∃ (k : Nat) (gv : Value), k ≤ 5 ∧ i = .int .i64 k ∧ Hid (wr.ownsRow (w.heap.size + 2) 85 2 v (dsG weak a b c k).length (flatD (dsG weak a b c k))) ∧ Hid (GRow wr (w.heap.size + 2) gv (gsG k)) ∧ Hid (wr.heap[w.heap.size + 1]? = some (.cells #[.int .i64 38, gv] 39 (0, 0))) ∧ Hid (wr.heap[w.heap.size]? = some (.cells #[.int .i64 0, .slice none 0 0] 39 (0, 0))) ∧ Hid (w.heap.size + 2 ≤ wr.heap.size) ∧ Hid (Below w.heap.size w wr)) (fun _ i _ => 5 - (intOf i).toNat)
    case atStart => exact ⟨0, .slice none 0 0, by omega, rfl, HD0, HG0, HBK16, HBK06, hs6, HB6⟩
    case round =>
      obtain ⟨k, gv, hk, rfl, hD, hG, hB1, hB0, hsz, hB⟩ := hrel
      clear HD0 HG0 HBK16 HBK06 hs6 HB6
      obtain ⟨wx, rfl⟩ : ∃ wx : World, wx = wr := ⟨_, rfl⟩
      have hcg := hG.out
      obtain ⟨gcs, hg1, hg2⟩ := hcg
      obtain ⟨GA, gc, rfl⟩ := own_slice hg1
      have hgl := gsG_len k
      clear hg2
      have hdl := dsG_len weak a b c k
      have hD2 := hD.out
      obtain ⟨DA, dc, rfl⟩ := own_slice hD2
      by_cases hlt : k < 5
      · have HD := Lib.hid hD2; clear hD2 hD
        have HGL := Lib.hid hgl; clear hgl hg1
        have HDL := Lib.hid hdl; clear hdl
        have hlt2 : decide ((k : Int) < 5) = true := by simp; omega
        have hn : Hid ((7 : Int) * k = 7 * (k : Int)) := Lib.hid rfl
        go_wp2_with fail
        obtain ⟨n0, hn0⟩ : ∃ n0 : Int, 7 * (k : Int) = n0 := ⟨_, rfl⟩
        have hnb : 0 ≤ n0 ∧ n0 ≤ 28 := by omega
        obtain ⟨hnb0, hnb1⟩ := hnb
        rw [hn0]
        have HN0 := Lib.hid hn0; clear hn0 hn
        obtain ⟨pa, hpa⟩ : ∃ pa : Int, a / 2 ^ k = pa := ⟨_, rfl⟩
        obtain ⟨pb, hpb⟩ : ∃ pb : Int, b / 2 ^ k = pb := ⟨_, rfl⟩
        obtain ⟨va, hva⟩ : ∃ va : Int, dv weak (pa % 2) = va := ⟨_, rfl⟩
        obtain ⟨vb, hvb⟩ : ∃ vb : Int, dv weak (pb % 2) = vb := ⟨_, rfl⟩
        have HDS : Hid (dsG weak a b c (k + 1) = dsG weak a b c k ++ [⟨n0, va⟩, ⟨n0 + 1, vb⟩]) := Lib.hid (by rw [← HN0.out, ← hva, ← hvb, ← hpa, ← hpb]; rfl)
        have HVA := Lib.hid hva; clear hva
        have HVB := Lib.hid hvb; clear hvb
        have hw1 : IntKind.i64.wrap (n0 + 1) = n0 + 1 := by rw [IntKind.wrap_i64]; omega
        generalize hdln : (dsG weak a b c k).length = dl at *
        have HDLN := Lib.hid hdln; clear hdln
        refine wp_region_tail 99 (fun w' => True) (by kernel_rfl) ?_
        change wpAnyF _ _ _ _ _ _ _ _ _ wx.drew
        refine wpAnyF_take (i := 0) (v := .slice DA dl dc) rfl (by kernel_rfl) (by kernel_rfl) (by kernel_rfl) (by kernel_rfl) (fun _ _ _ h => h) (Or.inl ⟨by rfl, ?_⟩) trivial ?_
        · rintro W _
          go_simp
        try simp only [Act.put, List.setIfInBounds_toArray, List.set_cons_zero, List.set_cons_succ]
        refine wpAnyF_take (i := 1) (v := .int .i64 n0) rfl (by kernel_rfl) (by kernel_rfl) (by kernel_rfl) (by kernel_rfl) (fun _ _ _ h => h) (Or.inl ⟨by rfl, ?_⟩) trivial ?_
        · rintro W _
          go_simp
        try simp only [Act.put, List.setIfInBounds_toArray, List.set_cons_zero, List.set_cons_succ]
        refine wpAnyF_take (i := 2) (v := .int .i64 a) rfl (by kernel_rfl) (by kernel_rfl) (by kernel_rfl) (by kernel_rfl) (fun _ _ _ h => h) (Or.inl ⟨by rfl, ?_⟩) trivial ?_
        · rintro W _
          go_simp
        try simp only [Act.put, List.setIfInBounds_toArray, List.set_cons_zero, List.set_cons_succ]
        refine wpAnyF_take (i := 3) (v := .int .i64 k) rfl (by kernel_rfl) (by kernel_rfl) (by kernel_rfl) (by kernel_rfl) (fun _ _ _ h => h) (Or.inl ⟨by rfl, ?_⟩) trivial ?_
        · rintro W _
          go_simp
        try simp only [Act.put, List.setIfInBounds_toArray, List.set_cons_zero, List.set_cons_succ]
        refine wpAnyF_take (i := 4) (v := .int .i64 pa) rfl (by kernel_rfl) (by kernel_rfl) (by kernel_rfl) (by kernel_rfl) (fun _ _ _ h => h) (Or.inl ⟨by rfl, ?_⟩) trivial ?_
        · rintro W _
          go_simp
        try simp only [Act.put, List.setIfInBounds_toArray, List.set_cons_zero, List.set_cons_succ]
        refine wpAnyF_take (i := 5) (v := .bool weak) rfl (by kernel_rfl) (by kernel_rfl) (by kernel_rfl) (by kernel_rfl) (fun _ _ _ h => h) (Or.inl ⟨by rfl, ?_⟩) trivial ?_
        · rintro W _
          go_simp
        try simp only [Act.put, List.setIfInBounds_toArray, List.set_cons_zero, List.set_cons_succ]
        refine wpAnyF_take (i := 7) (v := .int .i64 n0) rfl (by kernel_rfl) (by kernel_rfl) (by kernel_rfl) (by kernel_rfl) (fun _ _ _ h => h) (Or.inl ⟨by rfl, ?_⟩) trivial ?_
        · rintro W _
          go_simp
        try simp only [Act.put, List.setIfInBounds_toArray, List.set_cons_zero, List.set_cons_succ]
        refine wpAnyF_take (i := 8) (v := .int .i64 (n0 + 1)) rfl (by kernel_rfl) (by kernel_rfl) (by kernel_rfl) (by kernel_rfl) (fun _ _ _ h => h) (Or.inl ⟨by rfl, ?_⟩) trivial ?_
        · rintro W _
          go_simp
        try simp only [Act.put, List.setIfInBounds_toArray, List.set_cons_zero, List.set_cons_succ]
        refine wpAnyF_take (i := 9) (v := .int .i64 b) rfl (by kernel_rfl) (by kernel_rfl) (by kernel_rfl) (by kernel_rfl) (fun _ _ _ h => h) (Or.inl ⟨by rfl, ?_⟩) trivial ?_
        · rintro W _
          go_simp
        try simp only [Act.put, List.setIfInBounds_toArray, List.set_cons_zero, List.set_cons_succ]
        refine wpAnyF_take (i := 10) (v := .int .i64 k) rfl (by kernel_rfl) (by kernel_rfl) (by kernel_rfl) (by kernel_rfl) (fun _ _ _ h => h) (Or.inl ⟨by rfl, ?_⟩) trivial ?_
        · rintro W _
          go_simp
        try simp only [Act.put, List.setIfInBounds_toArray, List.set_cons_zero, List.set_cons_succ]
        refine wpAnyF_take (i := 11) (v := .int .i64 pb) rfl (by kernel_rfl) (by kernel_rfl) (by kernel_rfl) (by kernel_rfl) (fun _ _ _ h => h) (Or.inl ⟨by rfl, ?_⟩) trivial ?_
        · rintro W _
          go_simp
        try simp only [Act.put, List.setIfInBounds_toArray, List.set_cons_zero, List.set_cons_succ]
        refine wpAnyF_take (i := 12) (v := .bool weak) rfl (by kernel_rfl) (by kernel_rfl) (by kernel_rfl) (by kernel_rfl) (fun _ _ _ h => h) (Or.inl ⟨by rfl, ?_⟩) trivial ?_
        · rintro W _
          go_simp
        try simp only [Act.put, List.setIfInBounds_toArray, List.set_cons_zero, List.set_cons_succ]
        have HBx : Hid (Below wx.heap.size wx wx.drew) := Lib.hid (pw_below_drewN (n := 1) (Below.refl _ _))
        clear hpa hpb
        refine wpAnyF_one (i := 6) rfl (by kernel_rfl) (fun K hK => ?_)
        refine goes_ (f := 50) Try.func50 (by kernel_rfl) rfl #[.int .i64 n0, .int .i64 pa, .bool weak] rfl rfl rfl (by simp [Act.eval]) ?_
        refine (bit50_is n0 pa va weak wx.drew HVA).mono ?_
        rintro e w7 ⟨rfl, hb⟩
        have HBE6 := Lib.hid hb; clear hb
        refine ⟨_, rfl, ?_⟩
        refine hK _ _ (fun _ => trivial) ?_
        clear hK K
        try simp only [Act.put, List.setIfInBounds_toArray, List.set_cons_zero, List.set_cons_succ]
        refine wpAnyF_one (i := 13) rfl (by kernel_rfl) (fun K hK => ?_)
        refine goes_ (f := 50) Try.func50 (by kernel_rfl) rfl #[.int .i64 (n0 + 1), .int .i64 pb, .bool weak] rfl rfl rfl (by simp [Act.eval]) ?_
        refine (bit50_is (n0 + 1) pb vb weak w7 HVB).mono ?_
        rintro e w8 ⟨rfl, hb⟩
        have HBE13 := Lib.hid hb; clear hb
        refine ⟨_, rfl, ?_⟩
        refine hK _ _ (fun _ => trivial) ?_
        clear hK K
        try simp only [Act.put, List.setIfInBounds_toArray, List.set_cons_zero, List.set_cons_succ]
        have HB8 := Lib.hid (HBx.out.trans ((HBE6.out.trans (HBE13.out.mono HBE6.out.size)).mono HBx.out.size)); clear HBx HBE6 HBE13
        have hD8 := pw_own_below HD.out HB8.out
        have hs8 := HB8.out.size
        have HS8 := Lib.hid (show w.heap.size + 2 ≤ (w8.alloc (.cells #[.int .i64 n0, .int .i64 va, .int .i64 (n0 + 1), .int .i64 vb] 85)).heap.size by rw [show (w8.alloc (.cells #[.int .i64 n0, .int .i64 va, .int .i64 (n0 + 1), .int .i64 vb] 85)).heap.size = w8.heap.size + 1 from Array.size_push _]; have := hsz.out; omega); clear hs8
        refine wpAnyF_one (i := 14) rfl (by kernel_rfl) (fun K hK => ?_)
        go_simp
        refine hK _ _ (fun _ => trivial) ?_
        clear hK K
        try simp only [Act.put, List.setIfInBounds_toArray, List.set_cons_zero, List.set_cons_succ]
        have hdl11 : dl + 2 ≤ 100 := by have h1 := HDL.out; have h2 := HDLN.out; omega
        refine wpAnyF_one (i := 15) rfl (by kernel_rfl) (fun K hK => ?_)
        refine step_append_lies _ (by rfl) _ _ _ (by rfl) (w.heap.size + 2) 85 i85 (.agg #[.int .i64 0, .int .i64 0]) 2 16 Try.underlying40 hi85 hz85 hs85 hb85 rfl (by omega) (.slice DA dl dc) dl (flatD (dsG weak a b c k)) (by rfl) (hD8.alloc _) ⟨w8.heap.size, 0, none⟩ 2 2 [.int .i64 n0, .int .i64 va, .int .i64 (n0 + 1), .int .i64 vb] (by rfl) (by rfl) (World.news_of_block (cs := #[.int .i64 n0, .int .i64 va, .int .i64 (n0 + 1), .int .i64 vb]) (t := 85) (fr := (0, 0)) (heap_alloc_new w8 _)) (by simp [Value.oneCell']) (by omega) (by simp only [maxLen]; omega) (by omega) HS8.out (w8.heap.size + 1) (Array.size_push _) ?_
        intro gg cap w9 hown1 hgrow hat hlt1
        refine hK _ _ (fun _ => trivial) ?_
        clear hK K
        try simp only [Act.put, List.setIfInBounds_toArray, List.set_cons_zero, List.set_cons_succ]
        have hDA := hD8.alloc (.cells #[.int .i64 n0, .int .i64 va, .int .i64 (n0 + 1), .int .i64 vb] 85)
        have HB8a := Lib.hid (HB8.out.alloc HB8.out.size (.cells #[.int .i64 n0, .int .i64 va, .int .i64 (n0 + 1), .int .i64 vb] 85))
        have HG9 := Lib.hid ((hG.out.below HB8a.out).grown hDA hgrow)
        have HBK19 := Lib.hid (blk_grown (blk_below hB1.out HB8a.out) hgrow (row_ne_blk hDA (blk_below hB1.out HB8a.out) (by decide)))
        have HBK09 := Lib.hid (blk_grown (blk_below hB0.out HB8a.out) hgrow (row_ne_blk hDA (blk_below hB0.out HB8a.out) (by decide)))
        have HB9 := Lib.hid ((hB.out.trans (HB8a.out.mono hB.out.size)).grown hgrow (by have := hB.out.size; have := HB8a.out.size; omega) (fun q hq => by have := own_base hDA q hq; omega))
        have HSZ9 := Lib.hid (show w.heap.size + 2 ≤ w9.heap.size by have h1 := HS8.out; have h2 := hgrow.size; omega)
        have HDL1 : Hid ((dsG weak a b c (k + 1)).length = dl + 2) := Lib.hid (by rw [HDS.out, List.length_append, HDLN.out]; rfl)
        have HD9 : Hid (w9.ownsRow (w.heap.size + 2) 85 2 (.slice (some ⟨gg, 0, none⟩) (dl + 2) cap) (dl + 2) (flatD (dsG weak a b c (k + 1)))) := Lib.hid (by rw [HDS.out, flatD_append]; exact hown1)
        clear hDA hown1 hgrow hat hlt1 hD8 hdl11
        refine wpAnyF_one (i := 16) rfl (by kernel_rfl) (fun K hK => ?_)
        go_simp
        refine hK _ _ (fun _ => trivial) ?_
        clear hK K
        refine wpAnyF_done (by kernel_rfl) ?_ _
        have c1 : w9.cell? ⟨w.heap.size + 1, 1, none⟩ = some (.slice GA (gsG k).length gc) := (blk_cell HBK19.out 1).trans rfl
        generalize hgl2 : (gsG k).length = gl at *
        have HGL2 := Lib.hid hgl2; clear hgl2
        have hgll : gl ≤ 20 := by have h1 := HGL.out; have h2 := HGL2.out; omega
        have HK4S : Hid ((k : Int) = 4 → k = 4) := Lib.hid (fun h => by omega)
        rcases Bool.eq_false_or_eq_true ((k : Int) == 4) with hk4' | hk4'
        · have HK4 : Hid (k = 4) := Lib.hid (HK4S.out (by simpa using hk4'))
          obtain ⟨m1, m2, m3, m4⟩ := stage_mem w9 (w.heap.size + 2) n0 37 HSZ9.out
          obtain ⟨gcs, hg1, hg2⟩ := HG9.out
          rw [HGL2.out] at hg1
          have hg1a := pw_own_below hg1 m2
          have hg2a := hg2.imp (fun _ _ _ h => pw_own_below h m2)
          have hbase : w.heap.size + 2 ≤ (stW w9 n0 37).heap.size := by rw [m1]; have := HSZ9.out; omega
          have hnews := World.news_of_block m4
          have HGS : Hid (gsG (k + 1) = gsG k ++ stG n0 37) := Lib.hid (by rw [← HN0.out]; show gsG k ++ stG _ _ = _; rw [if_pos HK4.out])
          have HM3 := Lib.hid m3; clear m3
          have HM2 := Lib.hid m2; clear m2
          have HM1 := Lib.hid m1; clear m1
          have HG1A := Lib.hid hg1a; clear hg1a
          have HG2A := Lib.hid hg2a; clear hg2a hg1 hg2
          have HBASE := Lib.hid hbase; clear hbase
          have HNEWS := Lib.hid hnews; clear hnews m4
          have hone : ∀ u ∈ stCells w9 n0 37, u.oneCell' = true := by simp [stCells, Value.oneCell']
          have HONE := Lib.hid hone; clear hone
          go_wp2_with (at_builtin; go_must (refine wpList_append_lies (w := stW w9 n0 37) rfl (.tmp 49) (.tmp 87) 37 rfl (w.heap.size + 2) 88 i88 (.agg #[.int .i64 0, .slice none 0 0, .int .i64 0, .int .i64 0]) 4 48 Try.underlying37 hi88 hz88 hs88 hb88 rfl (by omega) (.slice GA gl gc) gl gcs rfl HG1A.out ⟨w9.heap.size + 1 + 1 + 1 + 1 + 1, 0, none⟩ 5 5 (stCells w9 n0 37) rfl rfl HNEWS.out HONE.out (by omega) (by simp only [maxLen]; omega) (by omega) HBASE.out (w9.heap.size + 6) HM1.out ?_); intro g2 cap2 w10 hown2 hgrow2 hat2 hlt2; have HB1W := Lib.hid (blk_grown (blk_below HBK19.out HM2.out) hgrow2 (row_ne_blk HG1A.out (blk_below HBK19.out HM2.out) (by decide))); have HB0W := Lib.hid (blk_grown (blk_below HBK09.out HM2.out) hgrow2 (row_ne_blk HG1A.out (blk_below HBK09.out HM2.out) (by decide))); have HDW := Lib.hid (own_other (pw_own_below HD9.out HM2.out) hgrow2 (own_type_ne (pw_own_below HD9.out HM2.out) HG1A.out (by decide))); have HOW := Lib.hid hown2; have HGW := Lib.hid hgrow2; clear hown2 hgrow2 hat2 hlt2; have c10 : w10.cell? ⟨w.heap.size + 1, 1, none⟩ = some (.slice GA gl gc) := (blk_cell HB1W.out 1).trans rfl; have f10 : w10.frozen? ⟨w.heap.size + 1, 1, none⟩ = false := blk_frozen HB1W.out 1)
          have HGR : Hid (GRow w10 (w.heap.size + 2) (.slice (some ⟨g2, 0, none⟩) (gl + 5) cap2) (gsG (k + 1))) := Lib.hid ⟨gcs ++ stCells w9 n0 37, by rw [HGS.out, List.length_append, HGL2.out]; exact HOW.out, by rw [HGS.out]; exact GCells.append (HM3.out.imp fun _ _ _ h => own_other h HGW.out (own_type_ne h HG1A.out (by decide))) (HG2A.out.imp fun _ _ _ h => own_other h HGW.out (own_type_ne h HG1A.out (by decide)))⟩
          have HGR2 := Lib.hid (HGR.out.setCell (p := ⟨w.heap.size + 1, 1, none⟩) (show w.heap.size + 1 < w.heap.size + 2 by omega) (.slice (some ⟨g2, 0, none⟩) (gl + 5) cap2))
          have HB12 : Hid ((w10.setCell ⟨w.heap.size + 1, 1, none⟩ (.slice (some ⟨g2, 0, none⟩) (gl + 5) cap2)).heap[w.heap.size + 1]? = some (.cells #[.int .i64 38, .slice (some ⟨g2, 0, none⟩) (gl + 5) cap2] 39 (0, 0))) := Lib.hid (blk_set HB1W.out 1 _)
          have HB02 := Lib.hid (blk_far HB0W.out (p := ⟨w.heap.size + 1, 1, none⟩) (show w.heap.size ≠ w.heap.size + 1 by omega) (.slice (some ⟨g2, 0, none⟩) (gl + 5) cap2))
          have HD2 : Hid ((w10.setCell ⟨w.heap.size + 1, 1, none⟩ (.slice (some ⟨g2, 0, none⟩) (gl + 5) cap2)).ownsRow (w.heap.size + 2) 85 2 (.slice (some ⟨gg, 0, none⟩) (dl + 2) cap) (dsG weak a b c (k + 1)).length (flatD (dsG weak a b c (k + 1)))) := Lib.hid (by rw [HDL1.out]; exact own_setCell HDW.out (fun e' => by have := own_base HDW.out _ e'.symm; have e3 : (⟨w.heap.size + 1, 1, none⟩ : Addr).block = w.heap.size + 1 := rfl; omega) _)
          have HSZ10 : Hid (w.heap.size + 2 ≤ (w10.setCell ⟨w.heap.size + 1, 1, none⟩ (.slice (some ⟨g2, 0, none⟩) (gl + 5) cap2)).heap.size) := Lib.hid (by have h1 := HBASE.out; have h2 := HGW.out.size; rw [show (w10.setCell ⟨w.heap.size + 1, 1, none⟩ (.slice (some ⟨g2, 0, none⟩) (gl + 5) cap2)).heap.size = w10.heap.size by simp [World.setCell]]; omega)
          have HB10 : Hid (Below w.heap.size w (w10.setCell ⟨w.heap.size + 1, 1, none⟩ (.slice (some ⟨g2, 0, none⟩) (gl + 5) cap2))) := Lib.hid (((HB9.out.trans (HM2.out.mono HB9.out.size)).grown HGW.out (by have h1 := HBASE.out; omega) (fun q hq => by have := own_base HG1A.out q hq; omega)).setCell (Nat.le_succ _) _)
          first
          | (go_roundw; (case rel => exact ⟨k + 1, _, by omega, by go_num, HD2, HGR2, HB12, HB02, HSZ10, HB10⟩); (case measure => simp [intOf]; omega))
          | exact ⟨⟨k + 1, _, by omega, by go_num, HD2, HGR2, HB12, HB02, HSZ10, HB10⟩, by simp [intOf]; omega⟩
          | go_outline
          | skip
        · have HK4 : Hid (¬ k = 4) := Lib.hid (fun h => by rw [h] at hk4'; exact absurd hk4' (by decide))
          obtain ⟨m1, m2, m3, m4⟩ := stage_mem w9 (w.heap.size + 2) n0 (n0 + 9) HSZ9.out
          obtain ⟨gcs, hg1, hg2⟩ := HG9.out
          rw [HGL2.out] at hg1
          have hg1a := pw_own_below hg1 m2
          have hg2a := hg2.imp (fun _ _ _ h => pw_own_below h m2)
          have hbase : w.heap.size + 2 ≤ (stW w9 n0 (n0 + 9)).heap.size := by rw [m1]; have := HSZ9.out; omega
          have hnews := World.news_of_block m4
          have HGS : Hid (gsG (k + 1) = gsG k ++ stG n0 (n0 + 9)) := Lib.hid (by rw [← HN0.out]; show gsG k ++ stG _ _ = _; rw [if_neg HK4.out])
          have HM3 := Lib.hid m3; clear m3
          have HM2 := Lib.hid m2; clear m2
          have HM1 := Lib.hid m1; clear m1
          have HG1A := Lib.hid hg1a; clear hg1a
          have HG2A := Lib.hid hg2a; clear hg2a hg1 hg2
          have HBASE := Lib.hid hbase; clear hbase
          have HNEWS := Lib.hid hnews; clear hnews m4
          have hone : ∀ u ∈ stCells w9 n0 (n0 + 9), u.oneCell' = true := by simp [stCells, Value.oneCell']
          have HONE := Lib.hid hone; clear hone
          go_wp2_with (at_builtin; go_must (refine wpList_append_lies (w := stW w9 n0 (n0 + 9)) rfl (.tmp 49) (.tmp 87) 37 rfl (w.heap.size + 2) 88 i88 (.agg #[.int .i64 0, .slice none 0 0, .int .i64 0, .int .i64 0]) 4 48 Try.underlying37 hi88 hz88 hs88 hb88 rfl (by omega) (.slice GA gl gc) gl gcs rfl HG1A.out ⟨w9.heap.size + 1 + 1 + 1 + 1 + 1, 0, none⟩ 5 5 (stCells w9 n0 (n0 + 9)) rfl rfl HNEWS.out HONE.out (by omega) (by simp only [maxLen]; omega) (by omega) HBASE.out (w9.heap.size + 6) HM1.out ?_); intro g2 cap2 w10 hown2 hgrow2 hat2 hlt2; have HB1W := Lib.hid (blk_grown (blk_below HBK19.out HM2.out) hgrow2 (row_ne_blk HG1A.out (blk_below HBK19.out HM2.out) (by decide))); have HB0W := Lib.hid (blk_grown (blk_below HBK09.out HM2.out) hgrow2 (row_ne_blk HG1A.out (blk_below HBK09.out HM2.out) (by decide))); have HDW := Lib.hid (own_other (pw_own_below HD9.out HM2.out) hgrow2 (own_type_ne (pw_own_below HD9.out HM2.out) HG1A.out (by decide))); have HOW := Lib.hid hown2; have HGW := Lib.hid hgrow2; clear hown2 hgrow2 hat2 hlt2; have c10 : w10.cell? ⟨w.heap.size + 1, 1, none⟩ = some (.slice GA gl gc) := (blk_cell HB1W.out 1).trans rfl; have f10 : w10.frozen? ⟨w.heap.size + 1, 1, none⟩ = false := blk_frozen HB1W.out 1)
          have HGR : Hid (GRow w10 (w.heap.size + 2) (.slice (some ⟨g2, 0, none⟩) (gl + 5) cap2) (gsG (k + 1))) := Lib.hid ⟨gcs ++ stCells w9 n0 (n0 + 9), by rw [HGS.out, List.length_append, HGL2.out]; exact HOW.out, by rw [HGS.out]; exact GCells.append (HM3.out.imp fun _ _ _ h => own_other h HGW.out (own_type_ne h HG1A.out (by decide))) (HG2A.out.imp fun _ _ _ h => own_other h HGW.out (own_type_ne h HG1A.out (by decide)))⟩
          have HGR2 := Lib.hid (HGR.out.setCell (p := ⟨w.heap.size + 1, 1, none⟩) (show w.heap.size + 1 < w.heap.size + 2 by omega) (.slice (some ⟨g2, 0, none⟩) (gl + 5) cap2))
          have HB12 : Hid ((w10.setCell ⟨w.heap.size + 1, 1, none⟩ (.slice (some ⟨g2, 0, none⟩) (gl + 5) cap2)).heap[w.heap.size + 1]? = some (.cells #[.int .i64 38, .slice (some ⟨g2, 0, none⟩) (gl + 5) cap2] 39 (0, 0))) := Lib.hid (blk_set HB1W.out 1 _)
          have HB02 := Lib.hid (blk_far HB0W.out (p := ⟨w.heap.size + 1, 1, none⟩) (show w.heap.size ≠ w.heap.size + 1 by omega) (.slice (some ⟨g2, 0, none⟩) (gl + 5) cap2))
          have HD2 : Hid ((w10.setCell ⟨w.heap.size + 1, 1, none⟩ (.slice (some ⟨g2, 0, none⟩) (gl + 5) cap2)).ownsRow (w.heap.size + 2) 85 2 (.slice (some ⟨gg, 0, none⟩) (dl + 2) cap) (dsG weak a b c (k + 1)).length (flatD (dsG weak a b c (k + 1)))) := Lib.hid (by rw [HDL1.out]; exact own_setCell HDW.out (fun e' => by have := own_base HDW.out _ e'.symm; have e3 : (⟨w.heap.size + 1, 1, none⟩ : Addr).block = w.heap.size + 1 := rfl; omega) _)
          have HSZ10 : Hid (w.heap.size + 2 ≤ (w10.setCell ⟨w.heap.size + 1, 1, none⟩ (.slice (some ⟨g2, 0, none⟩) (gl + 5) cap2)).heap.size) := Lib.hid (by have h1 := HBASE.out; have h2 := HGW.out.size; rw [show (w10.setCell ⟨w.heap.size + 1, 1, none⟩ (.slice (some ⟨g2, 0, none⟩) (gl + 5) cap2)).heap.size = w10.heap.size by simp [World.setCell]]; omega)
          have HB10 : Hid (Below w.heap.size w (w10.setCell ⟨w.heap.size + 1, 1, none⟩ (.slice (some ⟨g2, 0, none⟩) (gl + 5) cap2))) := Lib.hid (((HB9.out.trans (HM2.out.mono HB9.out.size)).grown HGW.out (by have h1 := HBASE.out; omega) (fun q hq => by have := own_base HG1A.out q hq; omega)).setCell (Nat.le_succ _) _)
          first
          | (go_roundw; (case rel => exact ⟨k + 1, _, by omega, by go_num, HD2, HGR2, HB12, HB02, HSZ10, HB10⟩); (case measure => simp [intOf]; omega))
          | exact ⟨⟨k + 1, _, by omega, by go_num, HD2, HGR2, HB12, HB02, HSZ10, HB10⟩, by simp [intOf]; omega⟩
          | go_outline
          | skip
      · obtain rfl : k = 5 := by omega
        have hG2 := hG.out
        have hgl5 := gsG_len 5
        have hdl5 := dsG_len weak a b c 5
        have HGX := Lib.hid hG2; clear hG2 hg1
        have HDX := Lib.hid hD2; clear hD2 hD
        generalize (gsG 5).length = gl at *
        generalize hdln : (dsG weak a b c 5).length = dl at *
        have hgl25 : gl = 25 := by omega
        have hdl11 : dl = 11 := by omega
        clear hgl hgl5 hdl hdl5
        subst hgl25
        subst hdl11
        have HDLN := Lib.hid hdln; clear hdln
        have hnb : w.heap.size ≠ w.heap.size + 1 := by omega
        have hnc : w.heap.size + 1 ≠ w.heap.size := by omega
        have c1 : wx.cell? ⟨w.heap.size + 1, 1, none⟩ = some (.slice GA 25 gc) := (blk_cell hB1.out 1).trans rfl
        have c1a : wx.cell? ⟨w.heap.size + 1, 0, none⟩ = some (.int .i64 38) := (blk_cell hB1.out 0).trans rfl
        have f1 := blk_frozen hB1.out 0
        have f1a := blk_frozen hB1.out 1
        have c2 : wx.cell? ⟨w.heap.size, 0, none⟩ = some (.int .i64 0) := (blk_cell hB0.out 0).trans rfl
        have c2a : wx.cell? ⟨w.heap.size, 1, none⟩ = some (.slice none 0 0) := (blk_cell hB0.out 1).trans rfl
        have f2 := blk_frozen hB0.out 0
        have f2a := blk_frozen hB0.out 1
        go_wp2
        have hbp : (((wx.setCell ⟨w.heap.size, 0, none⟩ (.int .i64 38)).setCell ⟨w.heap.size, 1, none⟩ (.slice GA 25 gc)).heap[w.heap.size]?) = some (.cells #[.int .i64 38, .slice GA 25 gc] 39 (0, 0)) := blk_set (blk_set hB0.out 0 _) 1 _
        refine bodyPost_ret (results_ct rfl _ _ w.heap.size 39 #[.int .i64 38, .slice GA 25 gc] (0, 0) _ rfl hbp Try.underlying39 rfl (by kernel_rfl)) rfl ?_
        have hg9 := (HGX.out.setCell (p := ⟨w.heap.size, 0, none⟩) (show w.heap.size < w.heap.size + 2 by omega) (.int .i64 38)).setCell (p := ⟨w.heap.size, 1, none⟩) (show w.heap.size < w.heap.size + 2 by omega) (.slice GA 25 gc)
        have hd9 := own_setCell (own_setCell HDX.out (p := ⟨w.heap.size, 0, none⟩) (fun e' => by have := own_base HDX.out _ e'.symm; have e3 : (⟨w.heap.size, 0, none⟩ : Addr).block = w.heap.size := rfl; omega) (.int .i64 38)) (p := ⟨w.heap.size, 1, none⟩) (fun e' => by have := own_base HDX.out _ e'.symm; have e3 : (⟨w.heap.size, 1, none⟩ : Addr).block = w.heap.size := rfl; omega) (.slice GA 25 gc)
        have hb9 := (hB.out.setCell (p := ⟨w.heap.size, 0, none⟩) (Nat.le_refl _) (.int .i64 38)).setCell (p := ⟨w.heap.size, 1, none⟩) (Nat.le_refl _) (.slice GA 25 gc)
        rw [gsG_eq] at hg9
        obtain ⟨A1, c1', e1, _, hr1⟩ := hg9.reads (by decide)
        rw [← HDLN.out] at hd9
        obtain ⟨A2, c2', e2, _, hr2⟩ := drow_reads hd9 (by rw [HDLN.out]; decide)
        injection e1 with e1a e1b e1c
        injection e2 with e2a e2b e2c
        subst e1a
        subst e2a
        rw [HDLN.out] at hr2
        exact ⟨_, _, _, _, rfl, hr1, hr2, hb9⟩
end Go.Proofs.Ytobdhdehmkmjcaa
