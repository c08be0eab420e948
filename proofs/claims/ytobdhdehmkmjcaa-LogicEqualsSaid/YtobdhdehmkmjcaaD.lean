/- Resolve and the gates. -/
import Derived.Test.YtobdhdehmkmjcaaC
import Derived.Deep.QuietTactic
import Derived.BigQuiet
namespace Go.Proofs.Ytobdhdehmkmjcaa
open Go.RowKit Go.Proofs.YtobdhdehmkmjcaaW.PrintWords

theorem isVal_iff {v : Int} (h : isVal v = true) : 0 ≤ v ∧ v ≤ 8 := by simpa [isVal] using h
theorem meetF_val {a b : Int} (ha : isVal a = true) (hb : isVal b = true) : isVal (meetF a b) = true := by
  unfold meetF
  repeat' split
  all_goals first | assumption | rfl
def resF (xs : List Int) : Int := xs.foldl meetF 4
theorem resF_val {xs : List Int} (h : xs.all isVal = true) : isVal (resF xs) = true := by
  unfold resF
  have : ∀ (xs : List Int) (z : Int), isVal z = true → xs.all isVal = true → isVal (xs.foldl meetF z) = true := by
    intro xs
    induction xs with
    | nil => intro z hz _; exact hz
    | cons x xs ih =>
      intro z hz h
      simp only [List.all_cons, Bool.and_eq_true] at h
      exact ih _ (meetF_val hz h.1) h.2
  exact this xs 4 rfl h
theorem resF_succ {xs : List Int} {k : Nat} (hk : k < xs.length) : resF (xs.take (k + 1)) = meetF (resF (xs.take k)) (xs.getD k 0) := by
  unfold resF
  rw [List.take_succ_eq_append_getElem hk, List.foldl_append]
  simp [List.getD_eq_getElem?_getD, List.getElem?_eq_getElem hk]
theorem all_getD {p : Int → Bool} {xs : List Int} (h : xs.all p = true) {k : Nat} (hk : k < xs.length) : p (xs.getD k 0) = true := by
  rw [List.getD_eq_getElem?_getD, List.getElem?_eq_getElem hk]
  exact List.all_eq_true.1 h _ (List.getElem_mem _)
theorem tab_cell {w : World} {g : Nat} {cur : Array Value} (h : w.heap[g]? = some (.cells cur 62 (0, 0))) (ht : TabTo 81 cur) (a b : Int) (ha : 0 ≤ a ∧ a ≤ 8) (hb : 0 ≤ b ∧ b ≤ 8) :
    w.cell? ⟨g, a.toNat * 9 + b.toNat, none⟩ = some (.int .i64 (meetF a b)) := by
  rw [blk_cell h, ht.2 _ (by omega), ← tabV_of _ _ (by omega), Int.toNat_of_nonneg ha.1, Int.toNat_of_nonneg hb.1]

set_option maxHeartbeats 400000 in
theorem resolved_any (g : Nat) (cur : Array Value) (A : Option Addr) (n c : Nat) (xs : List Int) (w : World) (hg : w.heap[g]? = some (.cells cur 62 (0, 0))) (ht : TabTo 81 cur)
    (hr : ReadsInt w .i64 A n xs) (hv : xs.all isVal = true) :
    Calls Try.prog 36 #[.pointer (some ⟨g, 0, none⟩), .slice A n c] w fun e w' => e = .returned (.int .i64 (resF xs)) ∧ w = w' := by
  have HG := Lib.hid hg; clear hg
  have HV := Lib.hid hv; clear hv
  have HL := Lib.hid hr.1
  have hm := hr.2.1
  go_enter Try.func36, Try.ntmps36
  go_wp2
  go_loop [5, 10] (fun o i => ∃ k : Nat, k ≤ n ∧ i = .int .i64 k ∧ o = .int .i64 (resF (xs.take k))) (fun _ i => n - (intOf i).toNat)
  case atStart => exact ⟨0, by omega, rfl, by simp [resF]⟩
  case round =>
    obtain ⟨k, hk, rfl, rfl⟩ := hrel
    by_cases hlt : k < n
    · obtain ⟨ad, rfl, hc⟩ := rdN hr k hlt
      have hlt' : decide ((k : Int) < (n : Int)) = true := by simp; omega
      have hs := resF_succ (xs := xs) (k := k) (by rw [HL.out]; exact hlt)
      have h1 := isVal_iff (resF_val (xs := xs.take k) (by rw [List.all_eq_true]; intro x hx; exact List.all_eq_true.1 HV.out x (List.mem_of_mem_take hx)))
      have h2 := isVal_iff (all_getD HV.out (k := k) (by rw [HL.out]; exact hlt))
      have hcell := tab_cell HG.out ht _ _ h1 h2
      have HS := Lib.hid hs; clear hs
      generalize resF (xs.take k) = a at *
      generalize xs.getD k 0 = b at *
      obtain ⟨h1a, h1b⟩ := h1
      obtain ⟨h2a, h2b⟩ := h2
      go_wp2
      go_round
      case rel => exact ⟨k + 1, by omega, by go_num, by rw [HS.out]⟩
      case measure => simp [intOf]; omega
    · obtain rfl : k = n := by omega
      go_wp2
      go_ret
      exact ⟨ret_int (by rw [List.take_of_length_le (by rw [HL.out]; omega)]), rfl⟩

def resolveF (xs : List Int) : Int × Int := if valuesF xs = 0 then (resF xs, 0) else (0, valuesF xs)
theorem valuesF_ok {xs : List Int} (h : valuesF xs = 0) : xs.all isVal = true ∧ xs.length ≤ 64 := by
  unfold valuesF at h
  split at h
  · cases h
  · split at h
    · exact ⟨‹_›, by omega⟩
    · cases h
set_option maxHeartbeats 400000 in
theorem resolve_any (A : Option Addr) (n c : Nat) (xs : List Int) (w : World) (hr : ReadsInt w .i64 A n xs) :
    Calls Try.prog 11 #[.slice A n c] w fun e w' => e = .returned (.tuple #[.int .i64 (resolveF xs).1, .int .i64 (resolveF xs).2]) ∧ Below w.heap.size w w' := by
  by_cases h : valuesF xs = 0
  · have HR : Hid (resolveF xs = (resF xs, 0)) := if_pos h
    have hv := (valuesF_ok h).1
    have H0 : Hid (valuesF xs = 0) := h
    clear h
    rw [HR.out]
    go_enter Try.func11, Try.ntmps11
    go_wp2_with (go_at_call 34; refine (values_any _ _ _ _ _ hr).mono ?_; rintro e w' ⟨rfl, rfl⟩; rw [H0.out])
    refine (table_any _).mono ?_
    rintro e w1 ⟨⟨cur, rfl, hcur⟩, hb1⟩
    have hs1 : (Try.prog.info? 62).map (·.size) = some cur.size := by rw [hcur.1]; exact size62
    have hs0 : Try.zeroCells62.size = cur.size := by rw [hcur.1]; kernel_rfl
    have h1c : cur.all (·.oneCell') = true := hcur.one
    have hr1 := hr.below hb1
    have HC := Lib.hid hcur; clear hcur
    have HS1 := Lib.hid hs1; clear hs1
    have HS0 := Lib.hid hs0; clear hs0
    have H1c := Lib.hid h1c; clear h1c
    have HB := Lib.hid hb1; clear hb1
    have hbel : Below w.heap.size w ((w1.alloc (.cells Try.zeroCells62 62)).setRow w1.heap.size cur) :=
      (HB.out.alloc HB.out.size _).trans ⟨rfl, rfl, rfl, by simp, fun k hk => setRow_other _ _ _ _ (by have := HB.out.size; omega)⟩
    have HBel := Lib.hid hbel; clear hbel
    go_wp2_with (first | (refine wpList_store_row rfl 62 _ _ rfl w1.heap.size cur rfl rfl 62 Try.zeroCells62 (blk_new _ _) HS1.out HS0.out H1c.out ?_) | (go_at_call 36; refine (resolved_any w1.heap.size cur _ _ _ _ _ (setRow_heap _ _ Try.zeroCells62 _ _ _ (blk_new _ _)) HC.out (ReadsInt.below hr HBel.out) hv).mono ?_; rintro e w' ⟨rfl, rfl⟩))
    go_ret2
    exact ⟨rfl, HBel.out⟩
  · have HR : Hid (resolveF xs = (0, valuesF xs)) := if_neg h
    rw [HR.out]
    have h1 : (valuesF xs == 0) = false := by simpa using h
    have h2 : (valuesF xs != 0) = true := by simpa using h
    go_enter Try.func11, Try.ntmps11
    go_wp2_with (go_at_call 34; refine (values_any _ _ _ _ _ hr).mono ?_; rintro e w' ⟨rfl, rfl⟩)
    go_ret2
    exact ⟨rfl, Below.refl _ _⟩
end Go.Proofs.Ytobdhdehmkmjcaa
