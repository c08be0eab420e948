/- The walk of LogicAnyOrder. -/
import Derived.Test.YtobdhdehmkmjcaaH
import Derived.Deep.DeepCutAuto
import Derived.Test.YtobdhdehmkmjcaaWLast
namespace Go.Proofs.Ytobdhdehmkmjcaa
open Go.RowKit Go.Proofs.YtobdhdehmkmjcaaW.PrintWords Go.Proofs.YtobdhdehmkmjcaaW.PrintLast

theorem info3 : (Try.prog.info? 3).map (fun i => (i.zero, i.size, i.bytes)) = some (some (.int .i64 0), 1, 8) := by kernel_rfl
theorem cut_drop (A : Option Addr) (n c : Nat) (xs : List Int) (hn : xs.length = n) (j : Nat) (hj : j ≤ n) (hc : n ≤ c) :
    ∃ A' : Option Addr, (∀ W : World, (Instr.slice 22 (.slice A n c) (some (.int .i64 j)) none none).run Try.prog W = .ok (.slice A' (n - j) (c - j)) W) ∧
      (∀ w : World, ReadsInt w .i64 A n xs → ReadsInt w .i64 A' (n - j) (xs.drop j)) := by
  subst hn
  obtain ⟨i0, hi, hzz⟩ := Option.map_eq_some_iff.1 info3
  simp only [Prod.mk.injEq] at hzz
  have := print_drop_of (Value.int .i64) 0 22 3 .i64 Try.underlying22 hi hzz.2.1 A c xs j (by omega) (by omega) hc
  simp only [Int.toNat_natCast, List.length_drop] at this
  obtain ⟨A', h1, h2, _⟩ := this
  exact ⟨A', h1, h2⟩
theorem cut_take (A : Option Addr) (n c : Nat) (xs : List Int) (hn : xs.length = n) (j : Nat) (hj : j ≤ n) (hc : n ≤ c) :
    (∀ W : World, (Instr.slice 22 (.slice A n c) none (some (.int .i64 j)) none).run Try.prog W = .ok (.slice A j c) W) ∧
      (∀ w : World, ReadsInt w .i64 A n xs → ReadsInt w .i64 A j (xs.take j)) := by
  subst hn
  obtain ⟨i0, hi, hzz⟩ := Option.map_eq_some_iff.1 info3
  simp only [Prod.mk.injEq] at hzz
  have := print_take_int (k := .i64) 22 3 Try.underlying22 hi hzz.2.1 A c xs j (by omega) (by omega) hc
  simp only [Int.toNat_natCast, List.length_take, Nat.min_eq_left hj] at this
  exact ⟨this.1, this.2.1⟩

theorem own_drew' {w : World} {k : IntKind} {A : Option Addr} {n : Nat} {xs : List Int} (h : ReadsInt w k A n xs) : ReadsInt w.drew k A n xs := h
set_option maxHeartbeats 400000 in
theorem anyOrder_zero (A : Option Addr) (c : Nat) (cut : Int) (w : World) :
    Calls Try.prog 3 #[.slice A 0 c, .int .i64 cut] w fun e w' => e = .returned (.bool true) ∧ Below w.heap.size w w' := by
  go_enter Try.func3, Try.ntmps3
  go_wp2_with (go_at_call 10; refine (known_any _).mono ?_; rintro e w1 ⟨rfl, h1⟩; have H1 := Lib.hid h1; clear h1)
  go_ret
  exact ⟨rfl, H1.out⟩

set_option maxHeartbeats 1000000 in
set_option maxRecDepth 100000 in
theorem anyOrder_some (A : Option Addr) (n c : Nat) (l : List Int) (cut : Int) (w : World) (hr : ReadsInt w .i64 A n l) (hc : n ≤ c) (h47 : n * 8 ≤ 140737488351232) (h0 : 0 < n) :
    Calls Try.prog 3 #[.slice A n c, .int .i64 cut] w fun e w' => e = .returned (.bool true) ∧ Below w.heap.size w w' := by
  have HL := Lib.hid hr.1
  have hb : ((n : Int) == 0) = false := beq_eq_false_iff_ne.2 (by omega)
  have h1 := Int.tmod_lt_of_pos cut (show (0 : Int) < n by omega)
  have h2 := Int.lt_tmod_of_pos cut (show (0 : Int) < n by omega)
  go_enter Try.func3, Try.ntmps3
  go_upto_if 25 with (fail)
  go_cut [5] (fun s5 wx => (∃ k : Nat, k < n ∧ s5 = .int .i64 k) ∧ wx = w)
  case first =>
    by_cases hs : cut.tmod n < 0
    · go_wp2_with fail
      go_meet
      exact ⟨⟨(cut.tmod n + n).toNat, by omega, by rw [Int.toNat_of_nonneg (by omega)]⟩, rfl⟩
    · go_wp2_with fail
      go_meet
      exact ⟨⟨(cut.tmod n).toNat, by omega, by rw [Int.toNat_of_nonneg (by omega)]⟩, rfl⟩
  case rest =>
    clear h1 h2
    obtain ⟨⟨k, hkn, rfl⟩, rfl⟩ := hcut
    go_wp2_with fail
    refine (resolve_any _ _ _ _ _ hr).mono ?_
    rintro e w1 ⟨rfl, hb1⟩
    obtain ⟨AD, d1, d2⟩ := cut_drop A n c l HL.out k (by omega) hc
    obtain ⟨t1, t2⟩ := cut_take A n c l HL.out k (by omega) hc
    have hr1 := hr.below hb1
    have D2 := Lib.hid d2; clear d2
    have T2 := Lib.hid t2; clear t2
    have HR := Lib.hid hr1; clear hr1 hr
    have HB1 := Lib.hid hb1; clear hb1
    have hrot := rot_resolve l k
    have hpart := fun h : valuesF l = 0 => (part_resolve h k).1
    have hok : valuesF l ≠ 0 → (resolveF l).2 ≠ 0 := fun h => by unfold resolveF; rw [if_neg h]; exact h
    have hok0 : valuesF l = 0 → (resolveF l) = (resF l, 0) := fun h => if_pos h
    have hlen3 : ([] ++ l.drop k ++ l.take k).length = n := by simp [HL.out]; omega
    have hl1 : (([] : List Int).length + (n - k)) * 8 ≤ 140737488355328 := by simp; omega
    have hl2 : (([] ++ l.drop k).length + k) * 8 ≤ 140737488355328 := by simp [HL.out]; omega
    have HROT := Lib.hid hrot; clear hrot
    have HPART := Lib.hid hpart; clear hpart
    have HOK := Lib.hid hok; clear hok
    have HOK0 := Lib.hid hok0; clear hok0
    have HLEN := Lib.hid hlen3; clear hlen3
    have HL1 := Lib.hid hl1; clear hl1
    have HL2 := Lib.hid hl2; clear hl2
    generalize hR1 : (resolveF l).1 = r1
    generalize hR2 : (resolveF l).2 = r2
    have HR1 := Lib.hid hR1; clear hR1
    have HR2 := Lib.hid hR2; clear hR2
    have hkn' : (k : Int) ≤ n := by omega
    have hkc : (k : Int) ≤ c := by omega
    go_upto_region 7 with (fail)
    go_cut [8, 9] (fun s8 s9 wx => s8 = .int .i64 r1 ∧ s9 = .int .i64 r2 ∧ Hid (Below w1.heap.size w1 wx))
    case first =>
      have HD := Lib.hid (D2.out w1 HR.out)
      have HT := Lib.hid (T2.out w1 HR.out)
      go_region_law (first
        | (refine step_append_ints (w0 := w1) w1.heap.size rfl _ _ 22 3 .i64 8 rfl Try.underlying22 info3 (by decide) (.slice none 0 0) [] (l.drop k) AD _ _ rfl rfl (own_nil _ _ _ _) (own_drew' HD.out) (Below.drew (Below.refl _ _)) (Nat.le_refl _) HL1.out ?_; intro v1 wv hown1 hbel1 _)
        | (refine step_append_ints (w0 := w1) w1.heap.size rfl _ _ 22 3 .i64 8 rfl Try.underlying22 info3 (by decide) _ ([] ++ l.drop k) (l.take k) A _ _ rfl rfl hown1 (HT.out.below hbel1) hbel1 hbel1.size HL2.out ?_; intro v2 wz hown2 hbel2 _; rw [HLEN.out] at hown2; obtain ⟨A2, c2, rfl⟩ := own_slice hown2; have HOWN := Lib.hid hown2; clear hown2 hown1 hbel1; have HBEL := Lib.hid hbel2; clear hbel2)
        | (go_must (refine goes_ (f := 11) Try.func11 (by kernel_rfl) rfl #[.slice A2 n c2] rfl rfl rfl (by simp [Act.eval]) ?_); refine (resolve_any _ _ _ _ _ (own_reads' HOWN.out)).mono ?_; rintro e w2 ⟨rfl, hb2⟩; refine ⟨_, rfl, ?_⟩; rw [List.nil_append, HROT.out, HR1.out, HR2.out]; have HB2 := Lib.hid (HBEL.out.trans (hb2.mono HBEL.out.size)); clear hb2))
      all_goals
        go_wp2_with fail
        go_meet
        exact ⟨rfl, rfl, HB2.out⟩
    case rest =>
      obtain ⟨rfl, rfl, HB⟩ := hcut
      clear HL1 HL2 HLEN HROT
      by_cases hv : valuesF l = 0
      · have e0 := HOK0.out hv
        have e1 : r1 = resF l := by rw [← HR1.out, e0]
        have e2 : r2 = 0 := by rw [← HR2.out, e0]
        have HP := Lib.hid (HPART.out hv)
        clear HPART HOK HOK0 e0 hv HR1 HR2
        subst e2
        have E1 := Lib.hid e1; clear e1
        have HR2 := Lib.hid (HR.out.below HB.out); clear HR
        have HB1' := Lib.hid (HB1.out.trans (HB.out.mono HB1.out.size)); clear HB HB1
        go_wp2_with fail
        refine (resolve_any _ _ _ _ _ (T2.out _ HR2.out)).mono ?_
        rintro e w2 ⟨rfl, hb⟩
        have HB2 := Lib.hid (HB1'.out.trans (hb.mono HB1'.out.size)); clear HB1'
        have HR3 := Lib.hid (HR2.out.below hb); clear HR2 hb
        generalize hx1 : (resolveF (l.take k)).1 = x at *
        have HX1 := Lib.hid hx1; clear hx1
        generalize (resolveF (l.take k)).2 = x2
        go_wp2_with fail
        refine (resolve_any _ _ _ _ _ (D2.out _ HR3.out)).mono ?_
        rintro e w3 ⟨rfl, hb⟩
        have HB3 := Lib.hid (HB2.out.trans (hb.mono HB2.out.size)); clear HB2 hb HR3
        generalize hy1 : (resolveF (l.drop k)).1 = y at *
        have HY1 := Lib.hid hy1; clear hy1
        generalize (resolveF (l.drop k)).2 = y2
        go_wp2_with fail
        refine (resolve_lit x y (resF l) w3 HP.out).mono ?_
        rintro e w4 ⟨rfl, hb⟩
        have HB4 := Lib.hid (HB3.out.trans (hb.mono HB3.out.size)); clear HB3 hb
        rw [← E1.out]
        go_wp2_with fail
        refine (known_any _).mono ?_
        rintro e w5 ⟨rfl, hb⟩
        have HB5 := Lib.hid (HB4.out.trans (hb.mono HB4.out.size)); clear HB4 hb
        go_wp2
        go_ret
        exact ⟨rfl, HB5.out⟩
      · have hr2 : r2 ≠ 0 := by rw [← HR2.out]; exact HOK.out hv
        have g1 : (r2 == 0) = false := by simpa using hr2
        have g2 : (r2 != 0) = true := by simpa using hr2
        clear HPART HOK HOK0 hv HR1 HR2 hr2
        have HB1' := Lib.hid (HB1.out.trans (HB.out.mono HB1.out.size)); clear HB HB1
        go_wp2_with fail
        refine (known_any _).mono ?_
        rintro e w5 ⟨rfl, hb⟩
        have HB5 := Lib.hid (HB1'.out.trans (hb.mono HB1'.out.size)); clear HB1' hb
        go_wp2
        go_ret
        exact ⟨rfl, HB5.out⟩

theorem anyOrder_any (A : Option Addr) (n c : Nat) (l : List Int) (cut : Int) (w : World) (hr : ReadsInt w .i64 A n l) (hc : n ≤ c) (h47 : n * 8 ≤ 140737488351232) :
    Calls Try.prog 3 #[.slice A n c, .int .i64 cut] w fun e w' => e = .returned (.bool true) ∧ Below w.heap.size w w' := by
  rcases Nat.eq_zero_or_pos n with rfl | h0
  · exact anyOrder_zero A c cut w
  · exact anyOrder_some A n c l cut w hr hc h47 h0
end Go.Proofs.Ytobdhdehmkmjcaa
