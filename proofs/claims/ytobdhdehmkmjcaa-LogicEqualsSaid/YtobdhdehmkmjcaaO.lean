/- Text and Parse of the program. -/
import Derived.Test.YtobdhdehmkmjcaaN
namespace Go.Proofs.Ytobdhdehmkmjcaa
open Go.RowKit Go.Proofs.YtobdhdehmkmjcaaW.PrintWords Go.Proofs.YtobdhdehmkmjcaaW.PrintLast

theorem byteCells_nums (l : List UInt8) (c : UInt8) : Lib.byteCells (l ++ [c]) = Lib.byteCells l ++ [.int .u8 c.toNat] := by simp [Lib.byteCells]
theorem letNum_of (b : Int) : letNum b.toNat = (letterOf b).toNat := rfl

set_option maxHeartbeats 1000000 in
set_option maxRecDepth 100000 in
theorem text_any (A : Option Addr) (n c : Nat) (xs : List Int) (w : World) (hr : ReadsInt w .i64 A n xs) :
    Calls Try.prog 17 #[.slice A n c] w fun e w' => e = .returned (.tuple #[.string (textS xs), .int .i64 (valuesF xs)]) ∧ Below w.heap.size w w' := by
  have hm := hr.2.1
  by_cases h : valuesF xs = 0
  · have hR : textS xs = strOf (textL xs) := if_pos h
    rw [hR, h]
    have hv := valuesF_ok h
    have H0 := Lib.hid h; clear h hR
    have HL := Lib.hid hr.1
    have HV := Lib.hid hv.1
    have h64 : n ≤ 64 := by rw [← hr.1]; exact hv.2
    clear hv
    go_enter Try.func17, Try.ntmps17
    go_wp2_with (go_at_call 34; refine (values_any _ _ _ _ _ hr).mono ?_; rintro e w' ⟨rfl, rfl⟩; rw [H0.out])
    go_loopw [15] (fun i wr => ∃ k : Nat, k ≤ n ∧ i = .int .i64 k ∧ Hid (Lib.IsBuilder 77 5 w.heap.size w.heap.size (Lib.byteCells (textL (xs.take k))) wr) ∧ Hid (Below w.heap.size w wr)) (fun i _ => n - (intOf i).toNat)
    case atStart => exact ⟨0, by omega, rfl, Lib.fresh_isBuilder 77 5 w, (Below.refl _ _).alloc (Nat.le_refl _) _⟩
    case round =>
      obtain ⟨k, hk, rfl, hI, hB⟩ := hrel
      by_cases hlt : k < n
      · obtain ⟨ad, rfl, hc⟩ := rdN (hr.below hB.out) k hlt
        have h2 := isVal_iff (all_getD HV.out (k := k) (by rw [HL.out]; exact hlt))
        have hst : textL (xs.take (k + 1)) = textL (xs.take k) ++ [letterOf (xs.getD k 0)] := by
          unfold textL
          rw [List.take_succ_eq_append_getElem (by rw [HL.out]; exact hlt), List.map_append]
          simp [List.getD_eq_getElem?_getD, List.getElem?_eq_getElem (show k < xs.length by rw [HL.out]; exact hlt)]
        have HST := Lib.hid hst; clear hst
        have hl : (Lib.byteCells (textL (xs.take k))).length + 1 ≤ 140737488355328 := by simp [Lib.byteCells, textL]; omega
        have HL1 := Lib.hid hl; clear hl
        generalize hb : xs.getD k 0 = b at *
        have HB := Lib.hid hb; clear hb
        obtain ⟨m, hm1⟩ := Int.eq_ofNat_of_zero_le h2.1
        have hm9 : m < 9 := by omega
        have hnum : letNum m = (letterOf b).toNat := by rw [← letNum_of, hm1]; rfl
        have hix := fun W => idxLetter W m hm9
        rw [hnum] at hix
        have HM := Lib.hid hm1
        subst hm1
        clear h2 hnum
        go_wp2_with fail
        refine (writeByte_any _ _ _ _ _ hI.out HL1.out hB.out.size).mono ?_
        rintro e w1 ⟨rfl, h1, h2⟩
        have HI1 := Lib.hid (show Lib.IsBuilder 77 5 w.heap.size w.heap.size _ w1 from .inr h1); clear h1
        have HB1 := Lib.hid (hB.out.trans h2); clear h2
        go_wp2
        go_roundw
        case rel => exact ⟨k + 1, by omega, by go_num, by rw [HST.out, byteCells_nums]; exact HI1.out, HB1.out⟩
        case measure => simp [intOf]; omega
      · obtain rfl : k = n := by omega
        have ht : xs.take k = xs := List.take_of_length_le (by rw [HL.out]; omega)
        rw [ht] at hI
        go_wp2_with fail
        refine (Try.Builder_String_any _ _ _ _ hI.out hB.out.size).mono ?_
        rintro e w1 ⟨rfl, h2⟩
        have HB1 := Lib.hid (hB.out.trans h2); clear h2
        go_wp2
        go_ret2
        exact ⟨rfl, HB1.out⟩
  · have hR : textS xs = strOf [] := if_neg h
    rw [hR]
    have h1 : (valuesF xs == 0) = false := by simpa using h
    have h2 : (valuesF xs != 0) = true := by simpa using h
    go_enter Try.func17, Try.ntmps17
    go_wp2_with (go_at_call 34; refine (values_any _ _ _ _ _ hr).mono ?_; rintro e w' ⟨rfl, rfl⟩)
    go_ret2
    exact ⟨rfl, Below.refl _ _⟩

theorem idx_fin : ∀ n : Fin 256, Lib.indexByte [85, 88, 48, 49, 90, 87, 76, 72, 45] (UInt8.ofNat n.val) = vOf n.val := by decide +kernel
theorem idx_vB (c : UInt8) : Lib.indexByte [85, 88, 48, 49, 90, 87, 76, 72, 45] c = vB c := by
  have := idx_fin ⟨c.toNat, c.toNat_lt⟩
  simpa [vB] using this
theorem indexByte_lit (c : UInt8) (w : World) :
    Calls Try.prog 48 #[.string { data := #[85, 88, 48, 49, 90, 87, 76, 72, 45] }, .int .u8 c.toNat] w fun e w' => e = .returned (.int .i64 (vB c)) ∧ w = w' := by
  refine (Try.strings_IndexByte _ _ _).mono ?_
  rintro e w' ⟨rfl, rfl⟩
  refine ⟨ret_int ?_, rfl⟩
  rw [← idx_vB]
  simp

set_option maxHeartbeats 1000000 in
set_option maxRecDepth 100000 in
theorem parse_any (s : ByteArray) (w : World) (hs : s.size ≤ 140737488351232) :
    Calls Try.prog 19 #[.string s] w fun e w' => SomeList w w' e (ParseTo s.data.toList) := by
  have hlen : s.data.toList.length = s.size := by simp
  by_cases h64 : 64 < s.size
  · go_enter Try.func19, Try.ntmps19
    go_wp2
    go_ret3
    exact ⟨_, _, _, _, rfl, .inl ⟨by rw [hlen]; exact h64, rfl, rfl, rfl⟩, ⟨none, 0, 0, rfl, rfl, by omega, fun h => absurd h (by omega)⟩, Below.refl _ _⟩
  · have HLEN := Lib.hid hlen; clear hlen
    go_enter Try.func19, Try.ntmps19
    go_wp2
    go_loopw [5, 13] (fun o i wr => ∃ k : Nat, k ≤ s.size ∧ i = .int .i64 k ∧ Hid (∀ j, j < k → vOf (s.data.toList.getD j 0).toNat ≠ -1) ∧ Hid (Below w.heap.size w wr) ∧ Hid (wr.ownsRow w.heap.size 3 1 o ((s.data.toList.take k).map vB).length (nums .i64 ((s.data.toList.take k).map vB)))) (fun _ i _ => s.size - (intOf i).toNat)
    case atStart => exact ⟨0, by omega, rfl, fun j hj => absurd hj (by omega), Below.refl _ _, own_nil _ _ _ _⟩
    case round =>
      obtain ⟨k, hk, rfl, hn, hB, hO⟩ := hrel
      by_cases hlt : k < s.size
      · have hbk := bytes_getD s k hlt
        have hsucc := take_map_succ (l := s.data.toList) (k := k) (by rw [HLEN.out]; exact hlt)
        have hr := vOf_range (s.data.toList.getD k 0).toNat
        have HB := Lib.hid hbk; clear hbk
        have HS := Lib.hid hsucc; clear hsucc
        generalize hx : vOf (s.data.toList.getD k 0).toNat = x at *
        have HX := Lib.hid hx; clear hx
        have HX2 : Hid (vB s[k] = x) := Lib.hid (by rw [HB.out]; exact HX.out)
        obtain ⟨hr1, hr2⟩ := hr
        go_wp2_with fail
        refine (indexByte_lit _ _).mono ?_
        rintro e w' ⟨rfl, rfl⟩
        rw [HX2.out]
        have hneg : x = -1 ∨ 0 ≤ x := by omega
        rcases hneg with hneg | hneg
        · have HNEG := Lib.hid hneg
          have hx0 : x < 0 := by omega
          clear hneg
          go_wp2
          go_ret3
          exact ⟨_, _, _, _, rfl, .inr (.inl ⟨by rw [HLEN.out]; omega, k, by rw [HLEN.out]; exact hlt, hn.out, by rw [HX.out]; exact HNEG.out, rfl, rfl, rfl⟩), ⟨none, 0, 0, rfl, rfl, by omega, fun h => absurd h (by omega)⟩, hB.out⟩
        · have hnn : Hid (∀ j, j < k + 1 → vOf (s.data.toList.getD j 0).toNat ≠ -1) := by
            intro j hj
            by_cases e : j = k
            · subst e; rw [HX.out]; omega
            · exact hn.out j (by omega)
          have hlk : (((s.data.toList.take k).map vB).length + 1) * 8 ≤ 140737488355328 := by simp; omega
          have HLK := Lib.hid hlk; clear hlk
          clear hn
          go_wp2_with (at_builtin; go_must (refine print_append_num (w0 := w) w.heap.size rfl (.tmp 23) (.tmp 25) 22 3 .i64 8 rfl Try.underlying22 info3 (by decide) _ ((s.data.toList.take k).map vB) x rfl rfl hO.out hB.out hB.out.size HLK.out ?_); intro v1 w1 h1 h2 _ _; have HO1 := Lib.hid h1; clear h1; have HB1 := Lib.hid h2; clear h2)
          go_roundw
          case rel => exact ⟨k + 1, by omega, by go_num, hnn, HB1.out, by rw [HS.out]; exact HO1.out⟩
          case measure => simp [intOf]; omega
      · go_wp2
        go_ret3
        obtain rfl : k = s.size := by omega
        obtain ⟨A, c, rfl, hr⟩ := own_reads hO.out
        have ht : s.data.toList.take s.size = s.data.toList := List.take_of_length_le (by rw [HLEN.out]; omega)
        rw [ht] at hr
        refine ⟨_, _, _, _, rfl, .inr (.inr ⟨by rw [HLEN.out]; omega, by rw [HLEN.out]; exact hn.out, rfl, rfl, rfl⟩), ⟨_, _, _, rfl, ?_⟩, hB.out⟩
        rw [ht]
        exact hr
end Go.Proofs.Ytobdhdehmkmjcaa
