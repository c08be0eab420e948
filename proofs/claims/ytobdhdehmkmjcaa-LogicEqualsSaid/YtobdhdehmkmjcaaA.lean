/- Walks of small functions of the logic layer. -/
import Derived.Test.YtobdhdehmkmjcaaProg
import Derived.Test.YtobdhdehmkmjcaaWWords
import Derived.WalkKit
import Derived.WalkSpells
import Derived.WalkLawsBesides
import Derived.Lib.Hide
namespace Go.Proofs.Ytobdhdehmkmjcaa
open Go.RowKit Go.Proofs.YtobdhdehmkmjcaaW.PrintWords

theorem ret_int {k : IntKind} {a b : Int} (h : a = b) : Ending.returned (.int k a) = .returned (.int k b) := by rw [h]
theorem ret_bool {a b : Bool} (h : a = b) : Ending.returned (.bool a) = .returned (.bool b) := by rw [h]

def isVal (v : Int) : Bool := decide (0 ≤ v) && decide (v ≤ 8)
def inputsF (k : Int) : Int := if k = 0 ∨ k = 1 ∨ k = 2 then 1 else if k = 3 ∨ k = 4 ∨ k = 5 ∨ k = 6 then 2 else -1
def to01 (v : Int) : Int := if v = 2 ∨ v = 6 then 2 else if v = 3 ∨ v = 7 then 3 else if v = 0 then 0 else 1
def valuesF (xs : List Int) : Int := if xs.length > 64 then 3 else if xs.all isVal then 0 else 1

set_option maxHeartbeats 400000 in
theorem isValue_any (v : Int) (w : World) :
    Calls Try.prog 43 #[.int .i64 v] w fun e w' => e = .returned (.bool (isVal v)) ∧ w = w' := by
  go_enter Try.func43, Try.ntmps43
  go_wp2
  all_goals (go_ret; refine ⟨ret_bool ?_, rfl⟩; simp [isVal, *]; try omega)

set_option maxHeartbeats 400000 in
theorem to01_any (v : Int) (w : World) :
    Calls Try.prog 44 #[.int .i64 v] w fun e w' => e = .returned (.int .i64 (to01 v)) ∧ w = w' := by
  go_enter Try.func44, Try.ntmps44
  go_wp2
  all_goals (go_ret; refine ⟨ret_int ?_, rfl⟩; simp_all [to01])

set_option maxHeartbeats 400000 in
theorem inputs_any (v : Int) (w : World) :
    Calls Try.prog 39 #[.int .i64 v] w fun e w' => e = .returned (.int .i64 (inputsF v)) ∧ w = w' := by
  go_enter Try.func39, Try.ntmps39
  go_wp2
  all_goals (go_ret; refine ⟨ret_int ?_, rfl⟩; simp_all [inputsF])

theorem isValue_is (v : Int) (b : Bool) (w : World) (h : Hid (isVal v = b)) :
    Calls Try.prog 43 #[.int .i64 v] w fun e w' => e = .returned (.bool b) ∧ w = w' := by
  have := isValue_any v w
  rwa [h.out] at this
theorem rdN {w : World} {k : IntKind} {A : Option Addr} {n : Nat} {xs : List Int} (h : ReadsInt w k A n xs) (i : Nat) (hi : i < n) : ∃ ad, A = some ad ∧ w.cell? (ad.add i) = some (.int k (xs.getD i 0)) := by
  obtain ⟨ad, e, hc⟩ := h.2.2 (by omega)
  exact ⟨ad, e, hc _ hi⟩
theorem take_all_succ {p : Int → Bool} {xs : List Int} {k : Nat} (hk : k < xs.length) (h : (xs.take k).all p = true) : (xs.take (k + 1)).all p = p (xs.getD k 0) := by
  rw [List.take_succ_eq_append_getElem hk, List.all_append, h]
  simp [List.getD_eq_getElem?_getD, List.getElem?_eq_getElem hk]
theorem values_bad {xs : List Int} {k : Nat} (hk : k < xs.length) (h64 : ¬ 64 < xs.length) (hb : isVal (xs.getD k 0) = false) : valuesF xs = 1 := by
  unfold valuesF
  rw [if_neg (by omega), if_neg]
  simp only [Bool.not_eq_true, List.all_eq_false]
  refine ⟨xs.getD k 0, ?_, hb⟩
  rw [List.getD_eq_getElem?_getD, List.getElem?_eq_getElem hk]
  exact List.getElem_mem _

set_option maxHeartbeats 400000 in
theorem values_any (A : Option Addr) (n c : Nat) (xs : List Int) (w : World) (hr : ReadsInt w .i64 A n xs) :
    Calls Try.prog 34 #[.slice A n c] w fun e w' => e = .returned (.int .i64 (valuesF xs)) ∧ w = w' := by
  have hl := hr.1
  have hm := hr.2.1
  by_cases h64 : 64 < n
  · have hv : valuesF xs = 3 := by simp [valuesF, hl, h64]
    have HV := Lib.hid hv; clear hv
    clear hl
    go_enter Try.func34, Try.ntmps34
    go_wp2
    go_ret
    exact ⟨ret_int HV.out.symm, rfl⟩
  · have HL := Lib.hid hl; clear hl
    go_enter Try.func34, Try.ntmps34
    go_wp2
    go_loop [10] (fun i => ∃ k : Nat, k ≤ n ∧ i = .int .i64 k ∧ (xs.take k).all isVal = true) (fun i => n - (intOf i).toNat)
    case atStart => exact ⟨0, by omega, rfl, by simp⟩
    case round =>
      obtain ⟨k, hk, rfl, ha⟩ := hrel
      have HA := Lib.hid ha; clear ha
      by_cases hlt : k < n
      · obtain ⟨ad, rfl, hc⟩ := rdN hr k hlt
        cases hb : isVal (xs.getD k 0)
        all_goals have HB := Lib.hid hb; clear hb
        · go_wp2_with (go_at_call 43; refine (isValue_is _ _ _ HB).mono ?_; rintro e w' ⟨rfl, rfl⟩)
          go_ret
          exact ⟨ret_int (values_bad (by rw [HL.out]; exact hlt) (by rw [HL.out]; exact h64) HB.out).symm, rfl⟩
        · go_wp2_with (go_at_call 43; refine (isValue_is _ _ _ HB).mono ?_; rintro e w' ⟨rfl, rfl⟩)
          go_round
          case rel => exact ⟨k + 1, by omega, by go_num, (take_all_succ (by rw [HL.out]; exact hlt) HA.out).trans HB.out⟩
          case measure => simp [intOf]; omega
      · go_wp2
        go_ret
        refine ⟨ret_int ?_, rfl⟩
        have hall : xs.all isVal = true := by have := HA.out; rwa [List.take_of_length_le (by rw [HL.out]; omega)] at this
        simp [valuesF, HL.out, h64, hall]
end Go.Proofs.Ytobdhdehmkmjcaa
