/- The reference's small functions. -/
import Derived.Test.YtobdhdehmkmjcaaI
namespace Go.Proofs.Ytobdhdehmkmjcaa
open Go.RowKit Go.Proofs.YtobdhdehmkmjcaaW.PrintWords Go.Proofs.YtobdhdehmkmjcaaW.PrintLast

set_option maxHeartbeats 400000 in
theorem is_any (a b v : Int) (w : World) :
    Calls Try.prog 70 #[.int .i64 a, .int .i64 b, .int .i64 v] w fun e w' => e = .returned (.bool (a == v || b == v)) ∧ w = w' := by
  go_enter Try.func70, Try.ntmps70
  go_wp2
  all_goals (go_ret; exact ⟨by simp [*], rfl⟩)

set_option maxHeartbeats 400000 in
theorem refTo01_any (v : Int) (w : World) :
    Calls Try.prog 45 #[.int .i64 v] w fun e w' => e = .returned (.int .i64 (to01 v)) ∧ w = w' := by
  go_enter Try.func45, Try.ntmps45
  go_wp2
  all_goals (go_ret; refine ⟨ret_int ?_, rfl⟩; simp_all [to01])

set_option maxHeartbeats 400000 in
theorem refInputs_any (v : Int) (w : World) :
    Calls Try.prog 41 #[.int .i64 v] w fun e w' => e = .returned (.int .i64 (inputsF v)) ∧ w = w' := by
  go_enter Try.func41, Try.ntmps41
  go_wp2
  all_goals (go_ret; refine ⟨ret_int ?_, rfl⟩; simp_all [inputsF])

set_option maxHeartbeats 400000 in
theorem turned_any (v : Int) (w : World) :
    Calls Try.prog 77 #[.int .i64 v] w fun e w' => e = .returned (.int .i64 (notF v)) ∧ w = w' := by
  go_enter Try.func77, Try.ntmps77
  go_wp2
  all_goals (go_ret; refine ⟨ret_int ?_, rfl⟩; simp_all [notF])

def firstF (a b d o : Int) : Int := if (a == d || b == d) = true then d else if (a == 0 || b == 0) = true then 0 else if (a == 1 || b == 1) = true then 1 else o
theorem is_is (a b v : Int) (r : Bool) (w : World) (h : Hid ((a == v || b == v) = r)) :
    Calls Try.prog 70 #[.int .i64 a, .int .i64 b, .int .i64 v] w fun e w' => e = .returned (.bool r) ∧ w = w' := by
  have := is_any a b v w
  rwa [h.out] at this
set_option maxHeartbeats 400000 in
theorem first_any (a b d o : Int) (w : World) :
    Calls Try.prog 78 #[.int .i64 a, .int .i64 b, .int .i64 d, .int .i64 o] w fun e w' => e = .returned (.int .i64 (firstF a b d o)) ∧ w = w' := by
  go_enter Try.func78, Try.ntmps78
  go_wp2_with (go_at_call 70; refine (is_any _ _ _ _).mono ?_; rintro e w' ⟨rfl, rfl⟩)
  all_goals (go_ret; refine ⟨ret_int ?_, rfl⟩; simp_all [firstF])

def bothF (a b : Int) : Int :=
  if (a == 0 || b == 0) = true then 0 else if (a == 8 || b == 8) = true then 1 else if (a == 1 || b == 1) = true then 1
  else if (a == 2 || b == 2) = true ∧ (a == 3 || b == 3) = true then 1 else if (a == 2 || b == 2) = true then 2 else if (a == 3 || b == 3) = true then 3
  else if a = 4 then b else if b = 4 then a else if (a == 5 || b == 5) = true then 5 else if a = b then a else 5
theorem bothF_fin : ∀ a b : Fin 9, bothF (a.val : Int) b.val = meetF a.val b.val := by decide
theorem bothF_meet {a b : Int} (ha : isVal a = true) (hb : isVal b = true) : bothF a b = meetF a b := by
  obtain ⟨i, rfl⟩ := fin_of ha
  obtain ⟨j, rfl⟩ := fin_of hb
  exact bothF_fin i j
set_option maxHeartbeats 1000000 in
theorem both_any (a b : Int) (w : World) :
    Calls Try.prog 38 #[.int .i64 a, .int .i64 b] w fun e w' => e = .returned (.int .i64 (bothF a b)) ∧ w = w' := by
  go_enter Try.func38, Try.ntmps38
  go_wp2_with (go_at_call 70; refine (is_any _ _ _ _).mono ?_; rintro e w' ⟨rfl, rfl⟩)
  all_goals (go_ret; refine ⟨ret_int ?_, rfl⟩; unfold bothF)
  all_goals (first | (simp_all; done) | grind)

theorem isVal_not {v : Int} (h : isVal v = false) : v < 0 ∨ 8 < v := by
  unfold isVal at h
  rw [Bool.and_eq_false_iff, decide_eq_false_iff_not, decide_eq_false_iff_not] at h
  omega
set_option maxHeartbeats 400000 in
theorem refValues_any (A : Option Addr) (n c : Nat) (xs : List Int) (w : World) (hr : ReadsInt w .i64 A n xs) :
    Calls Try.prog 37 #[.slice A n c] w fun e w' => e = .returned (.int .i64 (valuesF xs)) ∧ w = w' := by
  have hl := hr.1
  have hm := hr.2.1
  by_cases h64 : 64 < n
  · have hv : valuesF xs = 3 := by simp [valuesF, hl, h64]
    have HV := Lib.hid hv; clear hv
    clear hl
    go_enter Try.func37, Try.ntmps37
    go_wp2
    go_ret
    exact ⟨ret_int HV.out.symm, rfl⟩
  · have HL := Lib.hid hl; clear hl
    go_enter Try.func37, Try.ntmps37
    go_wp2
    go_loop [3] (fun i => ∃ k : Nat, k ≤ n ∧ i = .int .i64 k ∧ (xs.take k).all isVal = true) (fun i => n - (intOf i).toNat)
    case atStart => exact ⟨0, by omega, rfl, by simp⟩
    case round =>
      obtain ⟨k, hk, rfl, ha⟩ := hrel
      have HA := Lib.hid ha; clear ha
      by_cases hlt : k < n
      · obtain ⟨ad, rfl, hc⟩ := rdN hr k hlt
        cases hb : isVal (xs.getD k 0)
        · have HB := Lib.hid hb; clear hb
          have hbad := isVal_not HB.out
          rcases hbad with hbad | hbad
          · generalize hx : xs.getD k 0 = x at *
            have HX := Lib.hid hx; clear hx
            go_wp2
            go_ret
            exact ⟨ret_int (values_bad (by rw [HL.out]; exact hlt) (by rw [HL.out]; exact h64) (by rw [HX.out]; exact HB.out)).symm, rfl⟩
          · generalize hx : xs.getD k 0 = x at *
            have HX := Lib.hid hx; clear hx
            have h0 : ¬ x < 0 := by omega
            go_wp2
            go_ret
            exact ⟨ret_int (values_bad (by rw [HL.out]; exact hlt) (by rw [HL.out]; exact h64) (by rw [HX.out]; exact HB.out)).symm, rfl⟩
        · have hg := isVal_iff hb
          have HB := Lib.hid hb; clear hb
          generalize hx : xs.getD k 0 = x at *
          have HX := Lib.hid hx; clear hx
          obtain ⟨hg1, hg2⟩ := hg
          go_wp2
          go_round
          case rel => exact ⟨k + 1, by omega, by go_num, (take_all_succ (by rw [HL.out]; exact hlt) HA.out).trans (by rw [HX.out]; exact HB.out)⟩
          case measure => simp [intOf]; omega
      · go_wp2
        go_ret
        refine ⟨ret_int ?_, rfl⟩
        have hall : xs.all isVal = true := by have := HA.out; rwa [List.take_of_length_le (by rw [HL.out]; omega)] at this
        simp [valuesF, HL.out, h64, hall]

set_option maxHeartbeats 400000 in
theorem refResolve_any (A : Option Addr) (n c : Nat) (xs : List Int) (w : World) (hr : ReadsInt w .i64 A n xs) :
    Calls Try.prog 12 #[.slice A n c] w fun e w' => e = .returned (.tuple #[.int .i64 (resolveF xs).1, .int .i64 (resolveF xs).2]) ∧ w = w' := by
  by_cases h : valuesF xs = 0
  · have HR : Hid (resolveF xs = (resF xs, 0)) := if_pos h
    have hv := (valuesF_ok h).1
    have H0 : Hid (valuesF xs = 0) := h
    have HV := Lib.hid hv; clear hv
    have HL := Lib.hid hr.1
    have hm := hr.2.1
    clear h
    rw [HR.out]
    go_enter Try.func12, Try.ntmps12
    go_wp2_with (go_at_call 37; refine (refValues_any _ _ _ _ _ hr).mono ?_; rintro e w' ⟨rfl, rfl⟩; rw [H0.out])
    go_loop [5, 6] (fun o i => ∃ k : Nat, k ≤ n ∧ i = .int .i64 k ∧ o = .int .i64 (resF (xs.take k))) (fun _ i => n - (intOf i).toNat)
    case atStart => exact ⟨0, by omega, rfl, by simp [resF]⟩
    case round =>
      obtain ⟨k, hk, rfl, rfl⟩ := hrel
      by_cases hlt : k < n
      · obtain ⟨ad, rfl, hc⟩ := rdN hr k hlt
        have hs := resF_succ (xs := xs) (k := k) (by rw [HL.out]; exact hlt)
        have h1 := resF_val (xs := xs.take k) (by rw [List.all_eq_true]; intro x hx; exact List.all_eq_true.1 HV.out x (List.mem_of_mem_take hx))
        have h2 := all_getD HV.out (k := k) (by rw [HL.out]; exact hlt)
        have he := bothF_meet h1 h2
        have HS := Lib.hid (hs.trans he.symm); clear hs he h1 h2
        generalize resF (xs.take k) = a at *
        generalize xs.getD k 0 = b at *
        go_wp2_with (go_at_call 38; refine (both_any _ _ _).mono ?_; rintro e w' ⟨rfl, rfl⟩)
        go_round
        case rel => exact ⟨k + 1, by omega, by go_num, by rw [HS.out]⟩
        case measure => simp [intOf]; omega
      · obtain rfl : k = n := by omega
        go_wp2
        go_ret2
        refine ⟨?_, rfl⟩
        first | rfl | (rw [List.take_of_length_le (by rw [HL.out]; omega)]; rfl)
  · have HR : Hid (resolveF xs = (0, valuesF xs)) := if_neg h
    rw [HR.out]
    have h1 : (valuesF xs == 0) = false := by simpa using h
    have h2 : (valuesF xs != 0) = true := by simpa using h
    go_enter Try.func12, Try.ntmps12
    go_wp2_with (go_at_call 37; refine (refValues_any _ _ _ _ _ hr).mono ?_; rintro e w' ⟨rfl, rfl⟩)
    go_ret2
    exact ⟨rfl, rfl⟩
end Go.Proofs.Ytobdhdehmkmjcaa
