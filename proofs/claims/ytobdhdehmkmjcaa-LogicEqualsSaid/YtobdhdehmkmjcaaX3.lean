/- Whether a list is among some that lie in memory. -/
import Derived.Test.YtobdhdehmkmjcaaX2
namespace Go.Proofs.Ytobdhdehmkmjcaa
set_option linter.unusedVariables false
set_option linter.unusedSimpArgs false
open Go.RowKit Go.Proofs.YtobdhdehmkmjcaaW.PrintWords Go.Proofs.YtobdhdehmkmjcaaW.PrintLast

/-- A slice of slices of ints is read. -/
def ReadsRows (W : World) (A : Option Addr) (n : Nat) (L : List (List Int)) : Prop :=
  L.length = n ∧ n ≤ 9223372036854775807 ∧ (0 < n → ∃ ad, A = some ad ∧ ∀ i, i < n → ∃ B d, W.cell? (ad.add i) = some (.slice B (L.getD i []).length d) ∧ ReadsInt W .i64 B (L.getD i []).length (L.getD i []))
theorem ReadsRows.below {W W1 : World} {A : Option Addr} {n : Nat} {L : List (List Int)} (h : ReadsRows W A n L) (hb : Below W.heap.size W W1) : ReadsRows W1 A n L :=
  ⟨h.1, h.2.1, fun hn => by
    obtain ⟨ad, e, hc⟩ := h.2.2 hn
    refine ⟨ad, e, fun i hi => ?_⟩
    obtain ⟨B, d, h1, h2⟩ := hc i hi
    exact ⟨B, d, pw_cell_below hb h1, h2.below hb⟩⟩
def memB (L : List (List Int)) (y : List Int) : Bool := L.any fun x => sameB x y

set_option maxHeartbeats 400000 in
theorem eq86_any (A B : Option Addr) (n c m d : Nat) (xs ys : List Int) (P : Nat) (w : World) (hx : ReadsInt w .i64 A n xs) (hy : ReadsInt w .i64 B m ys) (hp : w.cell? ⟨P, 0, none⟩ = some (.slice B m d)) :
    Calls Try.prog 86 #[.slice A n c, .pointer (some ⟨P, 0, none⟩)] w fun e w' => e = .returned (.bool (sameB xs ys)) ∧ ∃ q, w' = w.drewN q := by
  have HX := Lib.hid hx; clear hx
  have HY := Lib.hid hy; clear hy
  go_enter Try.func86, Try.ntmps86
  go_wp2_with fail
  refine (equal_any _ _ _ _ _ _ _ _ _ HX.out HY.out).mono ?_
  rintro e w' ⟨rfl, q, rfl⟩
  go_wp2_with fail
  go_ret
  exact ⟨rfl, q, rfl⟩
theorem eq86_is (A B : Option Addr) (n c m d : Nat) (xs ys : List Int) (P : Nat) (b : Bool) (w : World) (hx : ReadsInt w .i64 A n xs) (hy : ReadsInt w .i64 B m ys) (hp : w.cell? ⟨P, 0, none⟩ = some (.slice B m d)) (hb : Hid (sameB xs ys = b)) :
    Calls Try.prog 86 #[.slice A n c, .pointer (some ⟨P, 0, none⟩)] w fun e w' => e = .returned (.bool b) ∧ ∃ q, w' = w.drewN q := by
  have := eq86_any A B n c m d xs ys P w hx hy hp
  rwa [hb.out] at this
theorem any_succ {p : List Int → Bool} {L : List (List Int)} {k : Nat} (hk : k < L.length) (h : (L.take k).any p = false) : (L.take (k + 1)).any p = p (L.getD k []) := by
  rw [List.take_succ_eq_append_getElem hk, List.any_append, h]
  simp [List.getD_eq_getElem?_getD, List.getElem?_eq_getElem hk]
theorem any_at {p : List Int → Bool} {L : List (List Int)} {k : Nat} (hk : k < L.length) (h : p (L.getD k []) = true) : L.any p = true := by
  rw [List.any_eq_true]
  rw [List.getD_eq_getElem?_getD, List.getElem?_eq_getElem hk] at h
  exact ⟨_, List.getElem_mem _, h⟩

set_option maxHeartbeats 1000000 in
theorem index102_any (A : Option Addr) (n c : Nat) (L : List (List Int)) (B : Option Addr) (m d : Nat) (ys : List Int) (P : Nat) (w : World) (hL : ReadsRows w A n L) (hy : ReadsInt w .i64 B m ys) (hp : w.cell? ⟨P, 0, none⟩ = some (.slice B m d)) :
    Calls Try.prog 102 #[.slice A n c, .func (.func 86) #[] #[.pointer (some ⟨P, 0, none⟩)]] w fun e w' => (∃ r : Int, e = .returned (.int .i64 r) ∧ (decide (0 ≤ r)) = memB L ys) ∧ ∃ q, w' = w.drewN q := by
  have hm := hL.2.1
  have HN := Lib.hid hL.1
  have HL := Lib.hid hL; clear hL
  have HY := Lib.hid hy; clear hy
  have HP := Lib.hid hp; clear hp
  go_enter Try.func102, Try.ntmps102
  go_wp2
  go_loopw [8] (fun i wr => ∃ k : Nat, k ≤ n ∧ i = .int .i64 k ∧ Hid ((L.take k).any (fun x => sameB x ys) = false) ∧ ∃ q, wr = w.drewN q) (fun i _ => n - (intOf i).toNat)
  case atStart => exact ⟨0, by omega, rfl, Lib.hid rfl, 0, rfl⟩
  case round =>
    obtain ⟨k, hk, rfl, hany, q, rfl⟩ := hrel
    by_cases hlt : k < n
    · obtain ⟨ad, rfl, hc⟩ := HL.out.2.2 (by omega)
      obtain ⟨B1, d1, h1, h2⟩ := hc k hlt
      have h1' : (w.drewN q).cell? (ad.add k) = some (.slice B1 (L.getD k []).length d1) := h1
      have H2 : Hid (ReadsInt (w.drewN q) .i64 B1 (L.getD k []).length (L.getD k [])) := Lib.hid h2
      clear h1 h2 hc
      have HA := Lib.hid (any_succ (p := fun x => sameB x ys) (by rw [HN.out]; exact hlt) hany.out)
      have HAT := fun h => any_at (p := fun x => sameB x ys) (L := L) (k := k) (by rw [HN.out]; exact hlt) h
      generalize hx : L.getD k [] = x at *
      have HX := Lib.hid hx; clear hx
      generalize hln : x.length = ln at *
      cases hb : sameB x ys
      all_goals have HB := Lib.hid hb
      · have HS : Hid ((L.take (k + 1)).any (fun x => sameB x ys) = false) := Lib.hid (HA.out.trans hb)
        clear hb HAT
        go_wp2_with (go_at_call 86; refine (eq86_is _ B _ _ m d _ _ _ _ _ H2.out HY.out HP.out HB).mono ?_; rintro e w' ⟨rfl, q2, rfl⟩)
        go_roundw
        case rel => exact ⟨k + 1, by omega, by go_num, HS, _, rfl⟩
        case measure => simp [intOf]; omega
      · have HT := Lib.hid (HAT hb)
        clear hb HAT
        go_wp2_with (go_at_call 86; refine (eq86_is _ B _ _ m d _ _ _ _ _ H2.out HY.out HP.out HB).mono ?_; rintro e w' ⟨rfl, q2, rfl⟩)
        go_ret
        exact ⟨⟨_, rfl, by unfold memB; rw [HT.out]; simp⟩, _, rfl⟩
    · go_wp2
      go_ret
      refine ⟨⟨_, rfl, ?_⟩, q, rfl⟩
      have h := hany.out
      rw [List.take_of_length_le (by rw [HN.out]; omega)] at h
      unfold memB
      rw [h]
      rfl
set_option maxHeartbeats 400000 in
theorem contains85_any (A : Option Addr) (n c : Nat) (L : List (List Int)) (B : Option Addr) (m d : Nat) (ys : List Int) (P : Nat) (w : World) (hL : ReadsRows w A n L) (hy : ReadsInt w .i64 B m ys) (hp : w.cell? ⟨P, 0, none⟩ = some (.slice B m d)) :
    Calls Try.prog 85 #[.slice A n c, .func (.func 86) #[] #[.pointer (some ⟨P, 0, none⟩)]] w fun e w' => e = .returned (.bool (memB L ys)) ∧ ∃ q, w' = w.drewN q := by
  have HL := Lib.hid hL; clear hL
  have HY := Lib.hid hy; clear hy
  have HP := Lib.hid hp; clear hp
  go_enter Try.func85, Try.ntmps85
  go_wp2_with (go_at_call 102; refine (index102_any _ _ _ _ B m d _ _ _ HL.out HY.out HP.out).mono ?_; rintro e w' ⟨⟨r, rfl, hr⟩, q, rfl⟩; have HR := Lib.hid hr; clear hr)
  go_ret
  exact ⟨ret_bool HR.out, q, rfl⟩
end Go.Proofs.Ytobdhdehmkmjcaa
