/- Words and walks for the row RowRatLeast, put together: RD. -/
import Derived.Test.YthhgjloephkpaaaLe3
namespace Go.Proofs.Ythhgjloephkpaaa
set_option linter.unusedVariables false
set_option linter.unusedSimpArgs false
open Go Go.RowKit Go.Proofs.YthhgjloephkpaaaW.PrintWords Go.Proofs.YthhgjloephkpaaaW.PrintLast

set_option maxRecDepth 100000 in
set_option maxHeartbeats 1000000 in
theorem addWords_any (A B : Option Addr) (n c m d x y : Nat) (w : World) (hx : Wds w A n c (dg x)) (hy : Wds w B m d (dg y)) (hn : n ≤ 1000000000) (hm : m ≤ 1000000000) :
    Calls Try.prog 113 #[.slice A n c, .slice B m d] w fun e w' => (∃ R r k ls, e = .returned (.slice R r k) ∧ Wds w' R r k ls ∧ Dig ls ∧ val ls = x + y) ∧ Below w.heap.size w w' := by
  have HX := Lib.hid hx
  have HY := Lib.hid hy
  clear hx hy
  by_cases hnm : n < m
  · have hl0 : decide ((n : Int) < (m : Int)) = true := by simp; omega
    have hmx := HY.out.mx
    have hmk := make36c (m + 1) (by omega)
    rw [Int.natCast_succ] at hmk
    go_enter Try.func113, Try.ntmps113
    go_wp2
    go_loopw [5, 6, 22] (fun o cv i wr => ∃ (k : Nat) (ls : List Nat) (c : Nat), k ≤ m ∧ i = .int .i64 k ∧ cv = .int .u64 c ∧ c ≤ 1 ∧ Hid (ls.length = k ∧ Dig ls ∧ val ls + BW ^ k * c = val ((dg y).take k) + val ((dg x).take k)) ∧ Hid (Below w.heap.size w wr) ∧ Hid (wr.ownsRow w.heap.size 100 1 o (us ls).length (nums .u32 (us ls)))) (fun _ _ i _ => m - (intOf i).toNat)
    case atStart => exact ⟨0, [], 0, Nat.zero_le _, rfl, rfl, by omega, Lib.hid ⟨rfl, Dig.nil, by simp [val]⟩, Lib.hid ((Below.refl _ _).alloc (Nat.le_refl _) _), Lib.hid (own_room w _ (m + 1) (Nat.le_refl _) (by omega))⟩
    case round =>
      obtain ⟨k, ls, cv, hk, rfl, rfl, hcv, hI, hB, hO⟩ := hrel
      by_cases h1 : k < m
      · obtain ⟨ad, rfl, hc⟩ := (HY.out.below hB.out).at_ k h1
        by_cases h2 : k < n
        · obtain ⟨bd, rfl, hd⟩ := (HX.out.below hB.out).at_ k h2
          have hlt1 : decide ((k : Int) < (m : Int)) = true := by simp; omega
          have hlt2 : decide ((k : Int) < (n : Int)) = true := by simp; omega
          have ha : (dg y).getD k 0 < 4294967296 := (dg_dig y).at_ k
          have hb : (dg x).getD k 0 < 4294967296 := (dg_dig x).at_ k
          have HST := Lib.hid (plus_step (X := dg y) (Y := dg x) hI.out.1 hI.out.2.1 hI.out.2.2)
          generalize (dg y).getD k 0 = a at *
          generalize (dg x).getD k 0 = b at *
          have hwa : IntKind.u64.wrap (a : Int) = (a : Int) := wrap64 (by omega)
          have hwb : IntKind.u64.wrap (b : Int) = (b : Int) := wrap64 (by omega)
          obtain ⟨s1, hs1⟩ : ∃ s1, s1 = a + cv := ⟨_, rfl⟩
          obtain ⟨s2, hs2⟩ : ∃ s2, s2 = s1 + b := ⟨_, rfl⟩
          have hw1 : IntKind.u64.wrap ((a : Int) + (cv : Int)) = (s1 : Int) := by rw [← Int.natCast_add, wrap64 (by omega), hs1]
          have hw2 : IntKind.u64.wrap ((s1 : Int) + (b : Int)) = (s2 : Int) := by rw [← Int.natCast_add, wrap64 (by omega), hs2]
          have hS : cv + a + b = s2 := by omega
          rw [hS] at HST
          have hq1 : s2 / BW ≤ 1 := by rw [BW_eq]; omega
          clear hs1 hs2 hS ha hb
          have hlo : (s2 : Int) % 4294967296 = ((s2 % BW : Nat) : Int) := rfl
          have hdv : (s2 : Int) / 4294967296 = ((s2 / BW : Nat) : Int) := rfl
          generalize s2 % BW = lo at *
          generalize s2 / BW = dv at *
          go_wp2_with (at_builtin; go_must (refine print_append_num w.heap.size rfl (.tmp 43) (.tmp 46) 36 100 .u32 4 rfl Try.underlying36 info100 (by decide) _ (us ls) lo rfl rfl hO.out hB.out hB.out.size (by rw [us_len, hI.out.1]; omega) ?_); intro v1 w1 h1 h2 _ _; have HO1 := Lib.hid h1; clear h1; have HB1 := Lib.hid h2; clear h2)
          go_roundw
          case rel => exact ⟨k + 1, ls ++ [lo], dv, by omega, by go_num, rfl, hq1, HST, HB1, by rw [us_append]; exact HO1⟩
          case measure => simp [intOf]; omega
        · have hlt1 : decide ((k : Int) < (m : Int)) = true := by simp; omega
          have hlt2 : decide ((k : Int) < (n : Int)) = false := by simp; omega
          have ha : (dg y).getD k 0 < 4294967296 := (dg_dig y).at_ k
          have HST := Lib.hid (plus_step (X := dg y) (Y := dg x) hI.out.1 hI.out.2.1 hI.out.2.2)
          rw [getD_ge (show (dg x).length ≤ k by rw [HX.out.len]; omega)] at HST
          generalize (dg y).getD k 0 = a at *
          have hwa : IntKind.u64.wrap (a : Int) = (a : Int) := wrap64 (by omega)
          obtain ⟨s2, hs1⟩ : ∃ s2, s2 = a + cv := ⟨_, rfl⟩
          have hw1 : IntKind.u64.wrap ((a : Int) + (cv : Int)) = (s2 : Int) := by rw [← Int.natCast_add, wrap64 (by omega), hs1]
          have hS : cv + a + 0 = s2 := by omega
          rw [hS] at HST
          have hq1 : s2 / BW ≤ 1 := by rw [BW_eq]; omega
          clear hs1 hS ha
          have hlo : (s2 : Int) % 4294967296 = ((s2 % BW : Nat) : Int) := rfl
          have hdv : (s2 : Int) / 4294967296 = ((s2 / BW : Nat) : Int) := rfl
          generalize s2 % BW = lo at *
          generalize s2 / BW = dv at *
          go_wp2_with (at_builtin; go_must (refine print_append_num w.heap.size rfl (.tmp 43) (.tmp 46) 36 100 .u32 4 rfl Try.underlying36 info100 (by decide) _ (us ls) lo rfl rfl hO.out hB.out hB.out.size (by rw [us_len, hI.out.1]; omega) ?_); intro v1 w1 h1 h2 _ _; have HO1 := Lib.hid h1; clear h1; have HB1 := Lib.hid h2; clear h2)
          go_roundw
          case rel => exact ⟨k + 1, ls ++ [lo], dv, by omega, by go_num, rfl, hq1, HST, HB1, by rw [us_append]; exact HO1⟩
          case measure => simp [intOf]; omega
      · have hlt1 : decide ((k : Int) < (m : Int)) = false := by simp; omega
        have hlo : (cv : Int) % 4294967296 = (cv : Int) := by omega
        have HV : Hid (val (ls ++ [cv]) = x + y) := Lib.hid (by
          rw [val_snoc, hI.out.1, hI.out.2.2, val_take_le (by rw [HY.out.len]; omega), val_take_le (by rw [HX.out.len]; omega), val_dg, val_dg]; omega)
        have HD : Hid (Dig (ls ++ [cv])) := Lib.hid (hI.out.2.1.snoc (by rw [BW_eq]; omega))
        go_wp2_with (at_builtin; go_must (refine print_append_num w.heap.size rfl (.tmp 51) (.tmp 54) 36 100 .u32 4 rfl Try.underlying36 info100 (by decide) _ (us ls) cv rfl rfl hO.out hB.out hB.out.size (by rw [us_len, hI.out.1]; omega) ?_); intro v1 w1 h1 h2 _ _; obtain ⟨A1, n1, c1, rfl, h3⟩ := own_wds (ls := ls ++ [cv]) (by rw [us_append]; exact h1); have HW1 := Lib.hid h3; clear h1 h3; have HB1 := Lib.hid h2; clear h2)
        go_ret
        exact ⟨⟨_, _, _, _, rfl, HW1.out, HD.out, HV.out⟩, HB1.out⟩
  · have hl0 : decide ((n : Int) < (m : Int)) = false := by simp; omega
    have hmx := HX.out.mx
    have hmk := make36c (n + 1) (by omega)
    rw [Int.natCast_succ] at hmk
    go_enter Try.func113, Try.ntmps113
    go_wp2
    go_loopw [5, 6, 22] (fun o cv i wr => ∃ (k : Nat) (ls : List Nat) (c : Nat), k ≤ n ∧ i = .int .i64 k ∧ cv = .int .u64 c ∧ c ≤ 1 ∧ Hid (ls.length = k ∧ Dig ls ∧ val ls + BW ^ k * c = val ((dg x).take k) + val ((dg y).take k)) ∧ Hid (Below w.heap.size w wr) ∧ Hid (wr.ownsRow w.heap.size 100 1 o (us ls).length (nums .u32 (us ls)))) (fun _ _ i _ => n - (intOf i).toNat)
    case atStart => exact ⟨0, [], 0, Nat.zero_le _, rfl, rfl, by omega, Lib.hid ⟨rfl, Dig.nil, by simp [val]⟩, Lib.hid ((Below.refl _ _).alloc (Nat.le_refl _) _), Lib.hid (own_room w _ (n + 1) (Nat.le_refl _) (by omega))⟩
    case round =>
      obtain ⟨k, ls, cv, hk, rfl, rfl, hcv, hI, hB, hO⟩ := hrel
      by_cases h1 : k < n
      · obtain ⟨ad, rfl, hc⟩ := (HX.out.below hB.out).at_ k h1
        by_cases h2 : k < m
        · obtain ⟨bd, rfl, hd⟩ := (HY.out.below hB.out).at_ k h2
          have hlt1 : decide ((k : Int) < (n : Int)) = true := by simp; omega
          have hlt2 : decide ((k : Int) < (m : Int)) = true := by simp; omega
          have ha : (dg x).getD k 0 < 4294967296 := (dg_dig x).at_ k
          have hb : (dg y).getD k 0 < 4294967296 := (dg_dig y).at_ k
          have HST := Lib.hid (plus_step (X := dg x) (Y := dg y) hI.out.1 hI.out.2.1 hI.out.2.2)
          generalize (dg x).getD k 0 = a at *
          generalize (dg y).getD k 0 = b at *
          have hwa : IntKind.u64.wrap (a : Int) = (a : Int) := wrap64 (by omega)
          have hwb : IntKind.u64.wrap (b : Int) = (b : Int) := wrap64 (by omega)
          obtain ⟨s1, hs1⟩ : ∃ s1, s1 = a + cv := ⟨_, rfl⟩
          obtain ⟨s2, hs2⟩ : ∃ s2, s2 = s1 + b := ⟨_, rfl⟩
          have hw1 : IntKind.u64.wrap ((a : Int) + (cv : Int)) = (s1 : Int) := by rw [← Int.natCast_add, wrap64 (by omega), hs1]
          have hw2 : IntKind.u64.wrap ((s1 : Int) + (b : Int)) = (s2 : Int) := by rw [← Int.natCast_add, wrap64 (by omega), hs2]
          have hS : cv + a + b = s2 := by omega
          rw [hS] at HST
          have hq1 : s2 / BW ≤ 1 := by rw [BW_eq]; omega
          clear hs1 hs2 hS ha hb
          have hlo : (s2 : Int) % 4294967296 = ((s2 % BW : Nat) : Int) := rfl
          have hdv : (s2 : Int) / 4294967296 = ((s2 / BW : Nat) : Int) := rfl
          generalize s2 % BW = lo at *
          generalize s2 / BW = dv at *
          go_wp2_with (at_builtin; go_must (refine print_append_num w.heap.size rfl (.tmp 43) (.tmp 46) 36 100 .u32 4 rfl Try.underlying36 info100 (by decide) _ (us ls) lo rfl rfl hO.out hB.out hB.out.size (by rw [us_len, hI.out.1]; omega) ?_); intro v1 w1 h1 h2 _ _; have HO1 := Lib.hid h1; clear h1; have HB1 := Lib.hid h2; clear h2)
          go_roundw
          case rel => exact ⟨k + 1, ls ++ [lo], dv, by omega, by go_num, rfl, hq1, HST, HB1, by rw [us_append]; exact HO1⟩
          case measure => simp [intOf]; omega
        · have hlt1 : decide ((k : Int) < (n : Int)) = true := by simp; omega
          have hlt2 : decide ((k : Int) < (m : Int)) = false := by simp; omega
          have ha : (dg x).getD k 0 < 4294967296 := (dg_dig x).at_ k
          have HST := Lib.hid (plus_step (X := dg x) (Y := dg y) hI.out.1 hI.out.2.1 hI.out.2.2)
          rw [getD_ge (show (dg y).length ≤ k by rw [HY.out.len]; omega)] at HST
          generalize (dg x).getD k 0 = a at *
          have hwa : IntKind.u64.wrap (a : Int) = (a : Int) := wrap64 (by omega)
          obtain ⟨s2, hs1⟩ : ∃ s2, s2 = a + cv := ⟨_, rfl⟩
          have hw1 : IntKind.u64.wrap ((a : Int) + (cv : Int)) = (s2 : Int) := by rw [← Int.natCast_add, wrap64 (by omega), hs1]
          have hS : cv + a + 0 = s2 := by omega
          rw [hS] at HST
          have hq1 : s2 / BW ≤ 1 := by rw [BW_eq]; omega
          clear hs1 hS ha
          have hlo : (s2 : Int) % 4294967296 = ((s2 % BW : Nat) : Int) := rfl
          have hdv : (s2 : Int) / 4294967296 = ((s2 / BW : Nat) : Int) := rfl
          generalize s2 % BW = lo at *
          generalize s2 / BW = dv at *
          go_wp2_with (at_builtin; go_must (refine print_append_num w.heap.size rfl (.tmp 43) (.tmp 46) 36 100 .u32 4 rfl Try.underlying36 info100 (by decide) _ (us ls) lo rfl rfl hO.out hB.out hB.out.size (by rw [us_len, hI.out.1]; omega) ?_); intro v1 w1 h1 h2 _ _; have HO1 := Lib.hid h1; clear h1; have HB1 := Lib.hid h2; clear h2)
          go_roundw
          case rel => exact ⟨k + 1, ls ++ [lo], dv, by omega, by go_num, rfl, hq1, HST, HB1, by rw [us_append]; exact HO1⟩
          case measure => simp [intOf]; omega
      · have hlt1 : decide ((k : Int) < (n : Int)) = false := by simp; omega
        have hlo : (cv : Int) % 4294967296 = (cv : Int) := by omega
        have HV : Hid (val (ls ++ [cv]) = x + y) := Lib.hid (by
          rw [val_snoc, hI.out.1, hI.out.2.2, val_take_le (by rw [HX.out.len]; omega), val_take_le (by rw [HY.out.len]; omega), val_dg, val_dg])
        have HD : Hid (Dig (ls ++ [cv])) := Lib.hid (hI.out.2.1.snoc (by rw [BW_eq]; omega))
        go_wp2_with (at_builtin; go_must (refine print_append_num w.heap.size rfl (.tmp 51) (.tmp 54) 36 100 .u32 4 rfl Try.underlying36 info100 (by decide) _ (us ls) cv rfl rfl hO.out hB.out hB.out.size (by rw [us_len, hI.out.1]; omega) ?_); intro v1 w1 h1 h2 _ _; obtain ⟨A1, n1, c1, rfl, h3⟩ := own_wds (ls := ls ++ [cv]) (by rw [us_append]; exact h1); have HW1 := Lib.hid h3; clear h1 h3; have HB1 := Lib.hid h2; clear h2)
        go_ret
        exact ⟨⟨_, _, _, _, rfl, HW1.out, HD.out, HV.out⟩, HB1.out⟩
end Go.Proofs.Ythhgjloephkpaaa
