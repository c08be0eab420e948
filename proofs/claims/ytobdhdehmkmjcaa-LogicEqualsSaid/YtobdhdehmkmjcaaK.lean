/- The reference's gates, and Sure on both sides. -/
import Derived.Test.YtobdhdehmkmjcaaJ
namespace Go.Proofs.Ytobdhdehmkmjcaa
open Go.RowKit Go.Proofs.YtobdhdehmkmjcaaW.PrintWords Go.Proofs.YtobdhdehmkmjcaaW.PrintLast

theorem strong3 (x y u v z : Int) : strongF x y [u, v, z] = if (x == u || y == u) = true then u else if (x == v || y == v) = true then v else if (x == z || y == z) = true then z else -1 := by
  unfold strongF
  simp only [List.find?_cons, List.find?_nil]
  split
  · rename_i h; rw [if_pos h]; rfl
  · rename_i h
    rw [if_neg (by rw [h]; decide)]
    split
    · rename_i h; rw [if_pos h]; rfl
    · rename_i h
      rw [if_neg (by rw [h]; decide)]
      split
      · rename_i h; rw [if_pos h]; rfl
      · rename_i h; rw [if_neg (by rw [h]; decide)]; rfl
theorem strong2 (x y u v : Int) : strongF x y [u, v] = if (x == u || y == u) = true then u else if (x == v || y == v) = true then v else -1 := by
  unfold strongF
  simp only [List.find?_cons, List.find?_nil]
  split
  · rename_i h; rw [if_pos h]; rfl
  · rename_i h
    rw [if_neg (by rw [h]; decide)]
    split
    · rename_i h; rw [if_pos h]; rfl
    · rename_i h; rw [if_neg (by rw [h]; decide)]; rfl
theorem andF_first (x y : Int) : andF x y = firstF x y 2 3 := by
  unfold andF firstF
  rw [strong3]
  split
  · rfl
  · split
    · rfl
    · split <;> rfl
theorem orF_first (x y : Int) : orF x y = firstF x y 3 2 := by
  unfold orF firstF
  rw [strong3]
  split
  · rfl
  · split
    · rfl
    · split <;> rfl
theorem xorF_first (x y : Int) : xorF x y = if (x == 0 || y == 0) = true then 0 else if (x == 1 || y == 1) = true then 1 else if x = y then 2 else 3 := by
  unfold xorF
  rw [strong2]
  split
  · rfl
  · split <;> rfl

section
variable (A : Option Addr) (c : Nat) (xs : List Int) (w : World)
set_option maxHeartbeats 400000 in
theorem gives1 (hr : ReadsInt w .i64 A 1 xs) : Calls Try.prog 42 #[.int .i64 1, .slice A 1 c] w fun e w' => e = .returned (.int .i64 (gateVal 1 xs)) ∧ w = w' := by
  show Calls Try.prog 42 _ w fun e w' => e = .returned (.int .i64 (notF (to01 (xs.getD 0 0)))) ∧ w = w'
  obtain ⟨ad, rfl, h0⟩ := rd0 hr (by omega)
  generalize xs.getD 0 0 = p at *
  go_enter Try.func42, Try.ntmps42
  go_wp2_with (first | (go_at_call 45; refine (refTo01_any _ _).mono ?_; rintro e w' ⟨rfl, rfl⟩) | (go_at_call 77; refine (turned_any _ _).mono ?_; rintro e w' ⟨rfl, rfl⟩))
  go_ret
  exact ⟨rfl, rfl⟩
set_option maxHeartbeats 400000 in
theorem gives2 (hr : ReadsInt w .i64 A 1 xs) : Calls Try.prog 42 #[.int .i64 2, .slice A 1 c] w fun e w' => e = .returned (.int .i64 (gateVal 2 xs)) ∧ w = w' := by
  show Calls Try.prog 42 _ w fun e w' => e = .returned (.int .i64 (xs.getD 0 0)) ∧ w = w'
  obtain ⟨ad, rfl, h0⟩ := rd0 hr (by omega)
  generalize xs.getD 0 0 = p at *
  go_enter Try.func42, Try.ntmps42
  go_wp2
  go_ret
  exact ⟨rfl, rfl⟩
set_option maxHeartbeats 400000 in
theorem gives3 (hr : ReadsInt w .i64 A 2 xs) : Calls Try.prog 42 #[.int .i64 3, .slice A 2 c] w fun e w' => e = .returned (.int .i64 (gateVal 3 xs)) ∧ w = w' := by
  show Calls Try.prog 42 _ w fun e w' => e = .returned (.int .i64 (andF (to01 (xs.getD 0 0)) (to01 (xs.getD 1 0)))) ∧ w = w'
  rw [andF_first]
  obtain ⟨ad, rfl, h0⟩ := rd0 hr (by omega)
  obtain ⟨ad', h1', h1⟩ := rd1 hr (by omega)
  injection h1' with h1'
  subst h1'
  generalize xs.getD 0 0 = p at *
  generalize xs.getD 1 0 = q at *
  go_enter Try.func42, Try.ntmps42
  go_wp2_with (first | (go_at_call 45; refine (refTo01_any _ _).mono ?_; rintro e w' ⟨rfl, rfl⟩) | (go_at_call 78; refine (first_any _ _ _ _ _).mono ?_; rintro e w' ⟨rfl, rfl⟩))
  go_ret
  exact ⟨rfl, rfl⟩
set_option maxHeartbeats 400000 in
theorem gives4 (hr : ReadsInt w .i64 A 2 xs) : Calls Try.prog 42 #[.int .i64 4, .slice A 2 c] w fun e w' => e = .returned (.int .i64 (gateVal 4 xs)) ∧ w = w' := by
  show Calls Try.prog 42 _ w fun e w' => e = .returned (.int .i64 (orF (to01 (xs.getD 0 0)) (to01 (xs.getD 1 0)))) ∧ w = w'
  rw [orF_first]
  obtain ⟨ad, rfl, h0⟩ := rd0 hr (by omega)
  obtain ⟨ad', h1', h1⟩ := rd1 hr (by omega)
  injection h1' with h1'
  subst h1'
  generalize xs.getD 0 0 = p at *
  generalize xs.getD 1 0 = q at *
  go_enter Try.func42, Try.ntmps42
  go_wp2_with (first | (go_at_call 45; refine (refTo01_any _ _).mono ?_; rintro e w' ⟨rfl, rfl⟩) | (go_at_call 78; refine (first_any _ _ _ _ _).mono ?_; rintro e w' ⟨rfl, rfl⟩))
  go_ret
  exact ⟨rfl, rfl⟩
set_option maxHeartbeats 400000 in
theorem gives5 (hr : ReadsInt w .i64 A 2 xs) : Calls Try.prog 42 #[.int .i64 5, .slice A 2 c] w fun e w' => e = .returned (.int .i64 (gateVal 5 xs)) ∧ w = w' := by
  show Calls Try.prog 42 _ w fun e w' => e = .returned (.int .i64 (xorF (to01 (xs.getD 0 0)) (to01 (xs.getD 1 0)))) ∧ w = w'
  rw [xorF_first]
  obtain ⟨ad, rfl, h0⟩ := rd0 hr (by omega)
  obtain ⟨ad', h1', h1⟩ := rd1 hr (by omega)
  injection h1' with h1'
  subst h1'
  generalize xs.getD 0 0 = p at *
  generalize xs.getD 1 0 = q at *
  generalize hx : to01 p = x
  generalize hy : to01 q = y
  have HX := Lib.hid hx; clear hx
  have HY := Lib.hid hy; clear hy
  go_enter Try.func42, Try.ntmps42
  go_wp2_with (first | (go_at_call 45; refine (refTo01_any _ _).mono ?_; rintro e w' ⟨rfl, rfl⟩; first | rw [HX.out] | rw [HY.out]) | (go_at_call 70; refine (is_any _ _ _ _).mono ?_; rintro e w' ⟨rfl, rfl⟩))
  all_goals (go_ret; refine ⟨ret_int ?_, rfl⟩; simp_all)
set_option maxHeartbeats 400000 in
theorem gives6 (hr : ReadsInt w .i64 A 2 xs) : Calls Try.prog 42 #[.int .i64 6, .slice A 2 c] w fun e w' => e = .returned (.int .i64 (gateVal 6 xs)) ∧ w = w' := by
  show Calls Try.prog 42 _ w fun e w' => e = .returned (.int .i64 (triF (to01 (xs.getD 0 0)) (to01 (xs.getD 1 0)))) ∧ w = w'
  obtain ⟨ad, rfl, h0⟩ := rd0 hr (by omega)
  obtain ⟨ad', h1', h1⟩ := rd1 hr (by omega)
  injection h1' with h1'
  subst h1'
  generalize xs.getD 0 0 = p at *
  generalize xs.getD 1 0 = q at *
  go_enter Try.func42, Try.ntmps42
  go_wp2_with (go_at_call 45; refine (refTo01_any _ _).mono ?_; rintro e w' ⟨rfl, rfl⟩)
  all_goals (go_ret; refine ⟨ret_int ?_, rfl⟩; simp_all [triF])
theorem gives_any (n : Nat) (k : Int) (hr : ReadsInt w .i64 A n xs) (h0 : k ≠ 0) (hk : (n : Int) = inputsF k) : Calls Try.prog 42 #[.int .i64 k, .slice A n c] w fun e w' => e = .returned (.int .i64 (gateVal k xs)) ∧ w = w' := by
  rcases inputs_kind h0 hk with ⟨rfl, rfl⟩ | ⟨rfl, rfl⟩ | ⟨rfl, rfl⟩ | ⟨rfl, rfl⟩ | ⟨rfl, rfl⟩ | ⟨rfl, rfl⟩
  · exact gives1 A c xs w hr
  · exact gives2 A c xs w hr
  · exact gives3 A c xs w hr
  · exact gives4 A c xs w hr
  · exact gives5 A c xs w hr
  · exact gives6 A c xs w hr
end

set_option maxHeartbeats 400000 in
theorem refGate_any (k : Int) (A : Option Addr) (n c : Nat) (xs : List Int) (w : World) (hr : ReadsInt w .i64 A n xs) :
    Calls Try.prog 14 #[.int .i64 k, .slice A n c] w fun e w' => e = .returned (.tuple #[.int .i64 (gateF k xs).1, .int .i64 (gateF k xs).2]) ∧ w = w' := by
  have hm := hr.2.1
  by_cases h : valuesF xs = 0
  · have H0 := Lib.hid h
    by_cases h0 : k = 0
    · subst h0
      have HR : Hid (gateF 0 xs = (0, 1)) := Lib.hid (by unfold gateF; rw [if_pos h, if_pos (.inl rfl)])
      rw [HR.out]
      clear h
      go_enter Try.func14, Try.ntmps14
      go_wp2_with (go_at_call 37; refine (refValues_any _ _ _ _ _ hr).mono ?_; rintro e w' ⟨rfl, rfl⟩; rw [H0.out])
      go_ret2
      exact ⟨rfl, rfl⟩
    · have hb : (k == 0) = false := by simpa using h0
      by_cases hk : (n : Int) = inputsF k
      · have HR : Hid (gateF k xs = (gateVal k xs, 0)) := Lib.hid (by unfold gateF; rw [if_pos h, if_neg (by rw [hr.1]; omega)])
        rw [HR.out]
        clear h
        have HK := Lib.hid hk; clear hk
        have H00 := Lib.hid h0; clear h0
        go_enter Try.func14, Try.ntmps14
        go_wp2_with (first | (go_at_call 37; refine (refValues_any _ _ _ _ _ hr).mono ?_; rintro e w' ⟨rfl, rfl⟩; rw [H0.out]) | (go_at_call 41; refine (refInputs_any _ _).mono ?_; rintro e w' ⟨rfl, rfl⟩; rw [← HK.out]) | (go_at_call 42; refine (gives_any _ _ _ _ _ _ hr H00.out HK.out).mono ?_; rintro e w' ⟨rfl, rfl⟩))
        go_ret2
        exact ⟨rfl, rfl⟩
      · have HR : Hid (gateF k xs = (0, 1)) := Lib.hid (by unfold gateF; rw [if_pos h, if_pos (.inr (by rw [hr.1]; exact hk))])
        rw [HR.out]
        generalize hi : inputsF k = q at *
        have HI := Lib.hid hi; clear hi
        have hq : (q != (n : Int)) = true := by simpa using fun e => hk e.symm
        clear h
        go_enter Try.func14, Try.ntmps14
        go_wp2_with (first | (go_at_call 37; refine (refValues_any _ _ _ _ _ hr).mono ?_; rintro e w' ⟨rfl, rfl⟩; rw [H0.out]) | (go_at_call 41; refine (refInputs_any _ _).mono ?_; rintro e w' ⟨rfl, rfl⟩; rw [HI.out]))
        go_ret2
        exact ⟨rfl, rfl⟩
  · have HR : Hid (gateF k xs = (0, valuesF xs)) := if_neg h
    rw [HR.out]
    have h1 : (valuesF xs == 0) = false := by simpa using h
    have h2 : (valuesF xs != 0) = true := by simpa using h
    go_enter Try.func14, Try.ntmps14
    go_wp2_with (go_at_call 37; refine (refValues_any _ _ _ _ _ hr).mono ?_; rintro e w' ⟨rfl, rfl⟩)
    go_ret2
    exact ⟨rfl, rfl⟩

def sureF (a b : Int) : Bool × Int :=
  if isVal a = true ∧ isVal b = true then (decide (b = 0 ∨ b = 1 ∨ b = 5 ∨ b = 8 ∨ a = b ∨ to01 a = to01 b ∧ (to01 a = 2 ∨ to01 a = 3)), 0) else (false, 1)
theorem ret_bi {a b : Bool} {c : Int} (h : a = b) : Ending.returned (.tuple #[.bool a, .int .i64 c]) = Ending.returned (.tuple #[.bool b, .int .i64 c]) := by rw [h]
theorem sureF_ok {a b : Int} (ha : isVal a = true) (hb : isVal b = true) : sureF a b = (decide (b = 0 ∨ b = 1 ∨ b = 5 ∨ b = 8 ∨ a = b ∨ to01 a = to01 b ∧ (to01 a = 2 ∨ to01 a = 3)), 0) := if_pos ⟨ha, hb⟩
theorem sureF_bad {a b : Int} (h : isVal a = false ∨ isVal b = false) : sureF a b = (false, 1) := if_neg (by rcases h with h | h <;> simp [h])
set_option maxHeartbeats 1000000 in
theorem sure_ok (a b : Int) (w : World) (ha : isVal a = true) (hb : isVal b = true) :
    Calls Try.prog 15 #[.int .i64 a, .int .i64 b] w fun e w' => e = .returned (.tuple #[.bool (sureF a b).1, .int .i64 (sureF a b).2]) ∧ w = w' := by
  rw [sureF_ok ha hb]
  have HA := Lib.hid ha; clear ha
  have HB := Lib.hid hb; clear hb
  go_enter Try.func15, Try.ntmps15
  go_wp2_with (first | (go_at_call 43; first | ((with_reducible refine (isValue_is a _ _ HA).mono ?_); rintro e w' ⟨rfl, rfl⟩) | ((with_reducible refine (isValue_is b _ _ HB).mono ?_); rintro e w' ⟨rfl, rfl⟩)) | (go_at_call 44; refine (to01_any _ _).mono ?_; rintro e w' ⟨rfl, rfl⟩))
  all_goals (go_ret2; refine ⟨ret_bi ?_, rfl⟩)
  all_goals (first | (simp_all; done) | grind)
set_option maxHeartbeats 400000 in
theorem sure_bad (a b : Int) (w : World) (h : isVal a = false ∨ isVal b = false) :
    Calls Try.prog 15 #[.int .i64 a, .int .i64 b] w fun e w' => e = .returned (.tuple #[.bool (sureF a b).1, .int .i64 (sureF a b).2]) ∧ w = w' := by
  rw [sureF_bad h]
  cases ha : isVal a
  · have HA := Lib.hid ha; clear ha h
    go_enter Try.func15, Try.ntmps15
    go_wp2_with (go_at_call 43; refine (isValue_is a _ _ HA).mono ?_; rintro e w' ⟨rfl, rfl⟩)
    go_ret2
    exact ⟨rfl, rfl⟩
  · have HB := Lib.hid (h.resolve_left (by rw [ha]; decide)); clear h
    have HA := Lib.hid ha; clear ha
    go_enter Try.func15, Try.ntmps15
    go_wp2_with (go_at_call 43; first | ((with_reducible refine (isValue_is a _ _ HA).mono ?_); rintro e w' ⟨rfl, rfl⟩) | ((with_reducible refine (isValue_is b _ _ HB).mono ?_); rintro e w' ⟨rfl, rfl⟩))
    go_ret2
    exact ⟨rfl, rfl⟩
theorem sure_any (a b : Int) (w : World) :
    Calls Try.prog 15 #[.int .i64 a, .int .i64 b] w fun e w' => e = .returned (.tuple #[.bool (sureF a b).1, .int .i64 (sureF a b).2]) ∧ w = w' := by
  cases ha : isVal a
  · exact sure_bad a b w (.inl ha)
  · cases hb : isVal b
    · exact sure_bad a b w (.inr hb)
    · exact sure_ok a b w ha hb

theorem values_two (a b : Int) : valuesF [a, b] = if isVal a = true ∧ isVal b = true then 0 else 1 := by
  unfold valuesF
  rw [if_neg (by simp)]
  simp
set_option maxHeartbeats 1000000 in
theorem refSure_ok (a b : Int) (w : World) (ha : isVal a = true) (hb : isVal b = true) :
    Calls Try.prog 16 #[.int .i64 a, .int .i64 b] w fun e w' => e = .returned (.tuple #[.bool (sureF a b).1, .int .i64 (sureF a b).2]) ∧ Below w.heap.size w w' := by
  rw [sureF_ok ha hb]
  have H0 : Hid (valuesF [a, b] = 0) := (values_two a b).trans (if_pos ⟨ha, hb⟩)
  have hB : Below w.heap.size w (w.alloc (.cells #[.int .i64 a, .int .i64 b] 3)) := (Below.refl _ _).alloc (Nat.le_refl _) _
  have HB := Lib.hid hB; clear hB
  have HL := Lib.hid (readsLit w 3 [a, b] #[.int .i64 a, .int .i64 b] w.heap.size 2 rfl rfl rfl (by omega))
  clear ha hb
  generalize hx : to01 a = x
  generalize hy : to01 b = y
  have HX := Lib.hid hx; clear hx
  have HY := Lib.hid hy; clear hy
  go_enter Try.func16, Try.ntmps16
  go_wp2_with (first | (go_at_call 37; refine (refValues_any _ _ _ _ _ HL.out).mono ?_; rintro e w' ⟨rfl, rfl⟩; rw [H0.out]) | (go_at_call 45; refine (refTo01_any _ _).mono ?_; rintro e w' ⟨rfl, rfl⟩; first | rw [HX.out] | rw [HY.out]))
  all_goals (go_ret2; refine ⟨ret_bi ?_, (Below.refl _ _).alloc (Nat.le_refl _) _⟩)
  all_goals (first | (simp_all; done) | grind)
set_option maxHeartbeats 400000 in
theorem refSure_bad (a b : Int) (w : World) (h : isVal a = false ∨ isVal b = false) :
    Calls Try.prog 16 #[.int .i64 a, .int .i64 b] w fun e w' => e = .returned (.tuple #[.bool (sureF a b).1, .int .i64 (sureF a b).2]) ∧ Below w.heap.size w w' := by
  rw [sureF_bad h]
  have H0 : Hid (valuesF [a, b] = 1) := (values_two a b).trans (if_neg (by rcases h with h | h <;> simp [h]))
  have hB : Below w.heap.size w (w.alloc (.cells #[.int .i64 a, .int .i64 b] 3)) := (Below.refl _ _).alloc (Nat.le_refl _) _
  have HB := Lib.hid hB; clear hB
  have HL := Lib.hid (readsLit w 3 [a, b] #[.int .i64 a, .int .i64 b] w.heap.size 2 rfl rfl rfl (by omega))
  clear h
  go_enter Try.func16, Try.ntmps16
  go_wp2_with (go_at_call 37; refine (refValues_any _ _ _ _ _ HL.out).mono ?_; rintro e w' ⟨rfl, rfl⟩; rw [H0.out])
  go_ret2
  exact ⟨rfl, HB.out⟩
theorem refSure_any (a b : Int) (w : World) :
    Calls Try.prog 16 #[.int .i64 a, .int .i64 b] w fun e w' => e = .returned (.tuple #[.bool (sureF a b).1, .int .i64 (sureF a b).2]) ∧ Below w.heap.size w w' := by
  cases ha : isVal a
  · exact refSure_bad a b w (.inl ha)
  · cases hb : isVal b
    · exact refSure_bad a b w (.inr hb)
    · exact refSure_ok a b w ha hb
end Go.Proofs.Ytobdhdehmkmjcaa
