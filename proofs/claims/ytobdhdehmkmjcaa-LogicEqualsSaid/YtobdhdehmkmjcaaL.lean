/- Texts of values. -/
import Derived.Test.YtobdhdehmkmjcaaK
import Derived.IntWalk
namespace Go.Proofs.Ytobdhdehmkmjcaa
open Go.RowKit Go.Proofs.YtobdhdehmkmjcaaW.PrintWords Go.Proofs.YtobdhdehmkmjcaaW.PrintLast

def letterL : List UInt8 := [85, 88, 48, 49, 90, 87, 76, 72, 45]
def letterOf (v : Int) : UInt8 := letterL.getD v.toNat 0
def textL (xs : List Int) : List UInt8 := xs.map letterOf
def strOf (l : List UInt8) : ByteArray := ⟨l.toArray⟩
def textS (xs : List Int) : ByteArray := if valuesF xs = 0 then strOf (textL xs) else strOf []

theorem textL_succ {xs : List Int} {k : Nat} (hk : k < xs.length) : strOf (textL (xs.take (k + 1))) = strOf (textL (xs.take k)) ++ strOf [letterOf (xs.getD k 0)] := by
  apply ByteArray.ext
  rw [ByteArray.data_append]
  show (textL (xs.take (k + 1))).toArray = (textL (xs.take k)).toArray ++ #[letterOf (xs.getD k 0)]
  rw [List.take_succ_eq_append_getElem hk]
  unfold textL
  rw [List.map_append]
  simp only [List.map_cons, List.map_nil, List.getD_eq_getElem?_getD, List.getElem?_eq_getElem hk, Option.getD_some, List.append_toArray]
set_option maxRecDepth 100000 in
theorem cutLetter (W : World) (b : Int) (h0 : 0 ≤ b) (h8 : b ≤ 8) :
    (Instr.slice 9 (.string { data := #[85, 88, 48, 49, 90, 87, 76, 72, 45] }) (some (.int .i64 b)) (some (.int .i64 (b + 1))) none).run Try.prog W = .ok (.string (strOf [letterOf b])) W := by
  have : b = 0 ∨ b = 1 ∨ b = 2 ∨ b = 3 ∨ b = 4 ∨ b = 5 ∨ b = 6 ∨ b = 7 ∨ b = 8 := by omega
  rcases this with rfl | rfl | rfl | rfl | rfl | rfl | rfl | rfl | rfl <;> rfl
set_option maxHeartbeats 400000 in
theorem refText_any (A : Option Addr) (n c : Nat) (xs : List Int) (w : World) (hr : ReadsInt w .i64 A n xs) :
    Calls Try.prog 18 #[.slice A n c] w fun e w' => e = .returned (.tuple #[.string (textS xs), .int .i64 (valuesF xs)]) ∧ ∃ m, w' = w.drewN m := by
  have hm := hr.2.1
  by_cases h : valuesF xs = 0
  · have hR : textS xs = strOf (textL xs) := if_pos h
    rw [hR, h]
    have hv := valuesF_ok h
    have H0 := Lib.hid h; clear h hR
    have HL := Lib.hid hr.1
    have HV := Lib.hid hv.1
    go_enter Try.func18, Try.ntmps18
    go_wp2_with (go_at_call 37; refine (refValues_any _ _ _ _ _ hr).mono ?_; rintro e w' ⟨rfl, rfl⟩; rw [H0.out])
    go_loopw [5, 6] (fun o i wr => ∃ k : Nat, k ≤ n ∧ i = .int .i64 k ∧ o = .string (strOf (textL (xs.take k))) ∧ ∃ m, wr = w.drewN m) (fun _ i _ => n - (intOf i).toNat)
    case atStart => exact ⟨0, by omega, rfl, by simp [textL, strOf], 0, rfl⟩
    case round =>
      obtain ⟨k, hk, rfl, rfl, m, rfl⟩ := hrel
      by_cases hlt : k < n
      · obtain ⟨ad, rfl, hc⟩ := rdN hr k hlt
        have h2 := isVal_iff (all_getD HV.out (k := k) (by rw [HL.out]; exact hlt))
        generalize hb : xs.getD k 0 = b at *
        have HB := Lib.hid hb; clear hb
        obtain ⟨h3, h4⟩ := h2
        have hsl := fun W => cutLetter W b h3 h4
        have hwr : IntKind.i64.wrap (b + 1) = b + 1 := IntWalk.i64_in _ (by omega)
        have hsz : (strOf (textL (xs.take k))).size ≤ 64 := by
          show (textL (xs.take k)).toArray.size ≤ 64
          simp [textL]; omega
        have hst : strOf (textL (xs.take (k + 1))) = strOf (textL (xs.take k)) ++ strOf [letterOf b] := by
          rw [← HB.out]; exact textL_succ (by rw [HL.out]; exact hlt)
        have HST := Lib.hid hst; clear hst
        have h1s : (strOf [letterOf b]).size = 1 := rfl
        generalize strOf (textL (xs.take k)) = s at *
        generalize strOf [letterOf b] = t at *
        go_wp2
        go_quiet (fail)
        go_wp2
        refine ⟨⟨k + 1, by omega, by go_num, by rw [HST.out], m + nq, rfl⟩, by simp [intOf]; omega⟩
      · obtain rfl : k = n := by omega
        go_wp2
        go_ret2
        refine ⟨?_, m, rfl⟩
        first | rfl | (rw [List.take_of_length_le (by rw [HL.out]; omega)]; rfl)
  · have hR : textS xs = strOf [] := if_neg h
    rw [hR]
    have h1 : (valuesF xs == 0) = false := by simpa using h
    have h2 : (valuesF xs != 0) = true := by simpa using h
    go_enter Try.func18, Try.ntmps18
    go_wp2_with (go_at_call 37; refine (refValues_any _ _ _ _ _ hr).mono ?_; rintro e w' ⟨rfl, rfl⟩)
    go_ret2
    exact ⟨rfl, 0, rfl⟩
end Go.Proofs.Ytobdhdehmkmjcaa
