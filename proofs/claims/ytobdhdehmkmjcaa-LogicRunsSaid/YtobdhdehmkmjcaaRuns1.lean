/- Words and walks for the row RowLogicRuns, put together: A, B, C, D, E, F, G, H, I, J, K, L, M, Q, R. -/
import Derived.Test.YtobdhdehmkmjcaaProg
import Derived.Test.YtobdhdehmkmjcaaWWords
import Derived.WalkKit
import Derived.WalkSpells
import Derived.WalkLawsBesides
import Derived.Lib.Hide
import Derived.Deep.RegionWith
import Derived.Deep.QuietTactic
import Derived.BigQuiet
import Derived.MapKept
import Derived.Deep.RegionLaw
import Derived.Deep.DeepCutAuto
import Derived.Test.YtobdhdehmkmjcaaWLast
import Derived.IntWalk
import Derived.Lib.Bytealg
import Derived.Test.YtobdhdehmkmjcaaShelf
import Derived.Lib.MakeNoZero
import Derived.Laws.Externs
import Derived.Laws.BitsLemmas
namespace Go.Proofs.Ytobdhdehmkmjcaa
open Go.RowKit Go.Proofs.YtobdhdehmkmjcaaW.PrintWords

theorem ret_int {k : IntKind} {a b : Int} (h : a = b) : Ending.returned (.int k a) = .returned (.int k b) := by rw [h]
theorem ret_bool {a b : Bool} (h : a = b) : Ending.returned (.bool a) = .returned (.bool b) := by rw [h]

def isVal (v : Int) : Bool := decide (0 ≤ v) && decide (v ≤ 8)
def inputsF (k : Int) : Int := if k = 0 ∨ k = 1 ∨ k = 2 then 1 else if k = 3 ∨ k = 4 ∨ k = 5 ∨ k = 6 then 2 else -1
def to01 (v : Int) : Int := if v = 2 ∨ v = 6 then 2 else if v = 3 ∨ v = 7 then 3 else if v = 0 then 0 else 1
def valuesF (xs : List Int) : Int := if xs.length > 64 then 3 else if xs.all isVal then 0 else 1

set_option maxHeartbeats 400000 in
theorem isValue_any (v : Int) (w : World) :
    Calls Try.prog 43 #[.int .i64 v] w fun e w' => e = .returned (.bool (isVal v)) ∧ w = w' := by
  go_enter Try.func43, Try.ntmps43
  go_wp2
  all_goals (go_ret; refine ⟨ret_bool ?_, rfl⟩; simp [isVal, *]; try omega)

set_option maxHeartbeats 400000 in
theorem to01_any (v : Int) (w : World) :
    Calls Try.prog 44 #[.int .i64 v] w fun e w' => e = .returned (.int .i64 (to01 v)) ∧ w = w' := by
  go_enter Try.func44, Try.ntmps44
  go_wp2
  all_goals (go_ret; refine ⟨ret_int ?_, rfl⟩; simp_all [to01])

set_option maxHeartbeats 400000 in
theorem inputs_any (v : Int) (w : World) :
    Calls Try.prog 39 #[.int .i64 v] w fun e w' => e = .returned (.int .i64 (inputsF v)) ∧ w = w' := by
  go_enter Try.func39, Try.ntmps39
  go_wp2
  all_goals (go_ret; refine ⟨ret_int ?_, rfl⟩; simp_all [inputsF])

theorem isValue_is (v : Int) (b : Bool) (w : World) (h : Hid (isVal v = b)) :
    Calls Try.prog 43 #[.int .i64 v] w fun e w' => e = .returned (.bool b) ∧ w = w' := by
  have := isValue_any v w
  rwa [h.out] at this
theorem rdN {w : World} {k : IntKind} {A : Option Addr} {n : Nat} {xs : List Int} (h : ReadsInt w k A n xs) (i : Nat) (hi : i < n) : ∃ ad, A = some ad ∧ w.cell? (ad.add i) = some (.int k (xs.getD i 0)) := by
  obtain ⟨ad, e, hc⟩ := h.2.2 (by omega)
  exact ⟨ad, e, hc _ hi⟩
theorem take_all_succ {p : Int → Bool} {xs : List Int} {k : Nat} (hk : k < xs.length) (h : (xs.take k).all p = true) : (xs.take (k + 1)).all p = p (xs.getD k 0) := by
  rw [List.take_succ_eq_append_getElem hk, List.all_append, h]
  simp [List.getD_eq_getElem?_getD, List.getElem?_eq_getElem hk]
theorem values_bad {xs : List Int} {k : Nat} (hk : k < xs.length) (h64 : ¬ 64 < xs.length) (hb : isVal (xs.getD k 0) = false) : valuesF xs = 1 := by
  unfold valuesF
  rw [if_neg (by omega), if_neg]
  simp only [Bool.not_eq_true, List.all_eq_false]
  refine ⟨xs.getD k 0, ?_, hb⟩
  rw [List.getD_eq_getElem?_getD, List.getElem?_eq_getElem hk]
  exact List.getElem_mem _

set_option maxHeartbeats 400000 in
theorem values_any (A : Option Addr) (n c : Nat) (xs : List Int) (w : World) (hr : ReadsInt w .i64 A n xs) :
    Calls Try.prog 34 #[.slice A n c] w fun e w' => e = .returned (.int .i64 (valuesF xs)) ∧ w = w' := by
  have hl := hr.1
  have hm := hr.2.1
  by_cases h64 : 64 < n
  · have hv : valuesF xs = 3 := by simp [valuesF, hl, h64]
    have HV := Lib.hid hv; clear hv
    clear hl
    go_enter Try.func34, Try.ntmps34
    go_wp2
    go_ret
    exact ⟨ret_int HV.out.symm, rfl⟩
  · have HL := Lib.hid hl; clear hl
    go_enter Try.func34, Try.ntmps34
    go_wp2
    go_loop [10] (fun i => ∃ k : Nat, k ≤ n ∧ i = .int .i64 k ∧ (xs.take k).all isVal = true) (fun i => n - (intOf i).toNat)
    case atStart => exact ⟨0, by omega, rfl, by simp⟩
    case round =>
      obtain ⟨k, hk, rfl, ha⟩ := hrel
      have HA := Lib.hid ha; clear ha
      by_cases hlt : k < n
      · obtain ⟨ad, rfl, hc⟩ := rdN hr k hlt
        cases hb : isVal (xs.getD k 0)
        all_goals have HB := Lib.hid hb; clear hb
        · go_wp2_with (go_at_call 43; refine (isValue_is _ _ _ HB).mono ?_; rintro e w' ⟨rfl, rfl⟩)
          go_ret
          exact ⟨ret_int (values_bad (by rw [HL.out]; exact hlt) (by rw [HL.out]; exact h64) HB.out).symm, rfl⟩
        · go_wp2_with (go_at_call 43; refine (isValue_is _ _ _ HB).mono ?_; rintro e w' ⟨rfl, rfl⟩)
          go_round
          case rel => exact ⟨k + 1, by omega, by go_num, (take_all_succ (by rw [HL.out]; exact hlt) HA.out).trans HB.out⟩
          case measure => simp [intOf]; omega
      · go_wp2
        go_ret
        refine ⟨ret_int ?_, rfl⟩
        have hall : xs.all isVal = true := by have := HA.out; rwa [List.take_of_length_le (by rw [HL.out]; omega)] at this
        simp [valuesF, HL.out, h64, hall]
end Go.Proofs.Ytobdhdehmkmjcaa
namespace Go.Proofs.Ytobdhdehmkmjcaa
open Go.RowKit Go.Proofs.YtobdhdehmkmjcaaW.PrintWords

set_option maxHeartbeats 400000 in
theorem meetc_any (v a b : Int) (pa pb : Addr) (w : World) (ha : w.cell? pa = some (.int .i64 a)) (hb : w.cell? pb = some (.int .i64 b)) :
    Calls Try.prog 97 #[.int .i64 v, .pointer (some pa), .pointer (some pb)] w fun e w' => e = .returned (.bool (a == v || b == v)) ∧ w = w' := by
  go_enter Try.func97, Try.ntmps97
  go_wp2
  all_goals (go_ret; exact ⟨by simp [*], rfl⟩)

def meetF (a b : Int) : Int :=
  if (a == 0 || b == 0) = true then 0 else if (a == 8 || b == 8) = true then 1 else if a = b then a
  else if (a == 1 || b == 1) = true then 1 else if (a == 2 || b == 2) = true then (if (a == 3 || b == 3) = true then 1 else 2)
  else if (a == 3 || b == 3) = true then 3 else if a = 4 then b else if b = 4 then a else 5

set_option maxHeartbeats 400000 in
theorem meet_any (a b : Int) (w : World) :
    Calls Try.prog 69 #[.int .i64 a, .int .i64 b] w fun e w' => e = .returned (.int .i64 (meetF a b)) ∧ Below w.heap.size w w' := by
  have hB : Below w.heap.size w ((w.alloc (.cells #[.int .i64 a] 3)).alloc (.cells #[.int .i64 b] 3)) := (((Below.refl _ _).alloc (Nat.le_refl _) _).alloc (by simp) _)
  go_enter Try.func69, Try.ntmps69
  go_wp2_with (go_at_call 97; refine (meetc_any _ a b _ _ _ (by go_simp) (by go_simp)).mono ?_; rintro e w' ⟨rfl, rfl⟩)
  all_goals (go_ret; refine ⟨?_, hB⟩)
  all_goals (refine ret_int ?_; unfold meetF)
  all_goals (first | (simp_all; done) | grind)

end Go.Proofs.Ytobdhdehmkmjcaa
namespace Go.Proofs.Ytobdhdehmkmjcaa
open Go.RowKit Go.Proofs.YtobdhdehmkmjcaaW.PrintWords

def tabV (j : Nat) : Value := .int .i64 (meetF (j / 9 : Nat) (j % 9 : Nat))
def TabTo (k : Nat) (cur : Array Value) : Prop := cur.size = 81 ∧ ∀ j, j < k → cur[j]? = some (tabV j)
theorem TabTo.put {k : Nat} {cur : Array Value} (h : TabTo k cur) (hk : k < 81) : TabTo (k + 1) (cur.setIfInBounds k (tabV k)) := by
  refine ⟨by simp [h.1], fun j hj => ?_⟩
  by_cases e : k = j
  · subst e
    simp [h.1, hk]
  · rw [Array.getElem?_setIfInBounds_ne e]
    exact h.2 j (by omega)
theorem TabTo.one {cur : Array Value} (h : TabTo 81 cur) : cur.all (·.oneCell') = true := by
  rw [Array.all_eq_true]
  intro i hi
  have h2 := h.2 i (by rw [← h.1]; exact hi)
  rw [Array.getElem?_eq_getElem hi] at h2
  rw [Option.some.inj h2]
  rfl
theorem size62 : (Try.prog.info? 62).map (·.size) = some 81 := by kernel_rfl
theorem tabV_of (a b : Nat) (hb : b < 9) : Value.int .i64 (meetF a b) = tabV (a * 9 + b) := by
  unfold tabV
  rw [show (a * 9 + b) / 9 = a by omega, show (a * 9 + b) % 9 = b by omega]
/-- The blocks of the two arrays. -/
def TabW (w wr : World) (k : Nat) : Prop := Below w.heap.size w wr ∧ wr.heap[w.heap.size]? = some (.cells Try.zeroCells62 62 (0, 0)) ∧ ∃ cur, wr.heap[w.heap.size + 1]? = some (.cells cur 62 (0, 0)) ∧ TabTo k cur

set_option maxHeartbeats 400000 in
theorem table_any (w : World) :
    Calls Try.prog 35 #[] w fun e w' => (∃ cur, e = .returned (.agg cur) ∧ TabTo 81 cur) ∧ Below w.heap.size w w' := by
  have hT : TabW w ((w.alloc (Obj.cells Try.zeroCells62 62)).alloc (Obj.cells Try.zeroCells62 62)) 0 := by
    refine ⟨((Below.refl _ _).alloc (Nat.le_refl _) _).alloc (by simp) _, blk_alloc (blk_new _ _) _, Try.zeroCells62, by simpa using blk_new (w.alloc (Obj.cells Try.zeroCells62 62)) _, by kernel_rfl, fun j hj => absurd hj (by omega)⟩
  have HT := Lib.hid hT; clear hT
  go_enter Try.func35, Try.ntmps35
  go_wp2
  go_loopw [4] (fun i wr => ∃ a : Nat, a ≤ 9 ∧ i = .int .i64 a ∧ Hid (TabW w wr (a * 9))) (fun i _ => 9 - (intOf i).toNat)
  case atStart => exact ⟨0, by omega, rfl, HT.out⟩
  case round =>
    obtain ⟨a, ha, rfl, hA⟩ := hrel
    clear HT
    by_cases hlt : a < 9
    · have hd : decide ((a : Int) < 9) = true := by simp; omega
      go_wp2
      obtain ⟨wo, rfl⟩ : ∃ wo : World, wo = wr := ⟨_, rfl⟩
      go_loopw [7] (fun i wr => ∃ b : Nat, b ≤ 9 ∧ i = .int .i64 b ∧ Hid (TabW w wr (a * 9 + b))) (fun i _ => 9 - (intOf i).toNat)
      case atStart => exact ⟨0, by omega, rfl, hA.out⟩
      case round =>
        obtain ⟨b, hb, rfl, hB⟩ := hrel
        by_cases hlt2 : b < 9
        · obtain ⟨h1, h2, cur, h3, h4⟩ := hB.out
          clear hB hA
          have hlt80 : a * 9 + b < 81 := by omega
          have hd2 : decide ((b : Int) < 9) = true := by simp; omega
          have hcell : cur[a * 9 + b]? = some (cur[a * 9 + b]'(by rw [h4.1]; exact hlt80)) := by simp [h4.1, hlt80]
          generalize cur[a * 9 + b]'(by rw [h4.1]; exact hlt80) = old at hcell
          have hF : Hid (∀ W1, Below wr.drew.heap.size wr.drew W1 → W1.cell? ⟨w.heap.size + 1, a * 9 + b, none⟩ = some old ∧ W1.frozen? ⟨w.heap.size + 1, a * 9 + b, none⟩ = false ∧ TabW w (W1.setCell ⟨w.heap.size + 1, a * 9 + b, none⟩ (.int .i64 (meetF a b))) (a * 9 + b + 1)) := by
            intro W1 hb
            have hc1 := blk_below (w := wr.drew) h3 hb
            have hz1 := blk_below (w := wr.drew) h2 hb
            refine ⟨(blk_cell hc1 _).trans hcell, blk_frozen hc1 _, ?_, ?_, ?_⟩
            · refine Below.setCell ?_ (by simp) _
              exact h1.trans ((Below.drew (Below.refl _ _)).trans (hb.mono h1.size))
            · exact blk_far hz1 (by simp) _
            · exact ⟨_, blk_set hc1 _ _, by rw [tabV_of a b hlt2]; exact h4.put hlt80⟩
          clear h1 h2 h3 h4 hcell cur
          go_wp2
          go_region_with (go_at_call 69; refine (meet_any _ _ _).mono ?_; rintro e w1 ⟨rfl, hb1⟩; obtain ⟨g1, g2, g3⟩ := hF.out w1 hb1; have G3 := Lib.hid g3; clear g3 hb1)
          all_goals
            go_wp2
            go_roundw
            case rel => exact ⟨b + 1, by omega, by go_num, G3.out⟩
            case measure => simp [intOf]; omega
        · obtain rfl : b = 9 := by omega
          have hB' := Lib.hid hB; clear hB
          go_wp2
          go_roundw
          case rel => exact ⟨a + 1, by omega, by go_num, by have := hB'.out.out; rwa [show (a + 1) * 9 = a * 9 + 9 by omega]⟩
          case measure => simp [intOf]; omega
    · obtain rfl : a = 9 := by omega
      obtain ⟨h1, h2, cur, h3, h4⟩ := hA.out
      clear hA
      have hs1 : (Try.prog.info? 62).map (·.size) = some cur.size := by rw [h4.1]; exact size62
      have hs0 : Try.zeroCells62.size = cur.size := by rw [h4.1]; kernel_rfl
      have h1c : cur.all (·.oneCell') = true := h4.one
      have H4 := Lib.hid h4; clear h4
      have H3 := Lib.hid h3; clear h3
      have H2 := Lib.hid h2; clear h2
      have H1 := Lib.hid h1; clear h1
      have HS1 := Lib.hid hs1; clear hs1
      have HS0 := Lib.hid hs0; clear hs0
      have H1c := Lib.hid h1c; clear h1c
      go_wp2_with (first | (refine wpList_load_row rfl 62 _ rfl (w.heap.size + 1) rfl 62 cur (0, 0) _ H3.out Try.underlying62 rfl HS1.out ?_) | (refine wpList_store_row rfl 62 _ _ rfl w.heap.size cur rfl rfl 62 Try.zeroCells62 H2.out HS1.out HS0.out H1c.out ?_))
      refine bodyPost_ret (v := .agg cur) (results_cell_row rfl _ _ w.heap.size 62 cur (0, 0) _ rfl (setRow_heap _ _ Try.zeroCells62 _ _ _ H2.out) Try.underlying62 rfl HS1.out) rfl ⟨⟨cur, rfl, H4.out⟩, ?_⟩
      exact H1.out.trans ⟨rfl, rfl, rfl, by simp, fun k hk => setRow_other _ _ _ _ (by omega)⟩
end Go.Proofs.Ytobdhdehmkmjcaa
namespace Go.Proofs.Ytobdhdehmkmjcaa
open Go.RowKit Go.Proofs.YtobdhdehmkmjcaaW.PrintWords

theorem isVal_iff {v : Int} (h : isVal v = true) : 0 ≤ v ∧ v ≤ 8 := by simpa [isVal] using h
theorem meetF_val {a b : Int} (ha : isVal a = true) (hb : isVal b = true) : isVal (meetF a b) = true := by
  unfold meetF
  repeat' split
  all_goals first | assumption | rfl
def resF (xs : List Int) : Int := xs.foldl meetF 4
theorem resF_val {xs : List Int} (h : xs.all isVal = true) : isVal (resF xs) = true := by
  unfold resF
  have : ∀ (xs : List Int) (z : Int), isVal z = true → xs.all isVal = true → isVal (xs.foldl meetF z) = true := by
    intro xs
    induction xs with
    | nil => intro z hz _; exact hz
    | cons x xs ih =>
      intro z hz h
      simp only [List.all_cons, Bool.and_eq_true] at h
      exact ih _ (meetF_val hz h.1) h.2
  exact this xs 4 rfl h
theorem resF_succ {xs : List Int} {k : Nat} (hk : k < xs.length) : resF (xs.take (k + 1)) = meetF (resF (xs.take k)) (xs.getD k 0) := by
  unfold resF
  rw [List.take_succ_eq_append_getElem hk, List.foldl_append]
  simp [List.getD_eq_getElem?_getD, List.getElem?_eq_getElem hk]
theorem all_getD {p : Int → Bool} {xs : List Int} (h : xs.all p = true) {k : Nat} (hk : k < xs.length) : p (xs.getD k 0) = true := by
  rw [List.getD_eq_getElem?_getD, List.getElem?_eq_getElem hk]
  exact List.all_eq_true.1 h _ (List.getElem_mem _)
theorem tab_cell {w : World} {g : Nat} {cur : Array Value} (h : w.heap[g]? = some (.cells cur 62 (0, 0))) (ht : TabTo 81 cur) (a b : Int) (ha : 0 ≤ a ∧ a ≤ 8) (hb : 0 ≤ b ∧ b ≤ 8) :
    w.cell? ⟨g, a.toNat * 9 + b.toNat, none⟩ = some (.int .i64 (meetF a b)) := by
  rw [blk_cell h, ht.2 _ (by omega), ← tabV_of _ _ (by omega), Int.toNat_of_nonneg ha.1, Int.toNat_of_nonneg hb.1]

set_option maxHeartbeats 400000 in
theorem resolved_any (g : Nat) (cur : Array Value) (A : Option Addr) (n c : Nat) (xs : List Int) (w : World) (hg : w.heap[g]? = some (.cells cur 62 (0, 0))) (ht : TabTo 81 cur)
    (hr : ReadsInt w .i64 A n xs) (hv : xs.all isVal = true) :
    Calls Try.prog 36 #[.pointer (some ⟨g, 0, none⟩), .slice A n c] w fun e w' => e = .returned (.int .i64 (resF xs)) ∧ w = w' := by
  have HG := Lib.hid hg; clear hg
  have HV := Lib.hid hv; clear hv
  have HL := Lib.hid hr.1
  have hm := hr.2.1
  go_enter Try.func36, Try.ntmps36
  go_wp2
  go_loop [5, 10] (fun o i => ∃ k : Nat, k ≤ n ∧ i = .int .i64 k ∧ o = .int .i64 (resF (xs.take k))) (fun _ i => n - (intOf i).toNat)
  case atStart => exact ⟨0, by omega, rfl, by simp [resF]⟩
  case round =>
    obtain ⟨k, hk, rfl, rfl⟩ := hrel
    by_cases hlt : k < n
    · obtain ⟨ad, rfl, hc⟩ := rdN hr k hlt
      have hlt' : decide ((k : Int) < (n : Int)) = true := by simp; omega
      have hs := resF_succ (xs := xs) (k := k) (by rw [HL.out]; exact hlt)
      have h1 := isVal_iff (resF_val (xs := xs.take k) (by rw [List.all_eq_true]; intro x hx; exact List.all_eq_true.1 HV.out x (List.mem_of_mem_take hx)))
      have h2 := isVal_iff (all_getD HV.out (k := k) (by rw [HL.out]; exact hlt))
      have hcell := tab_cell HG.out ht _ _ h1 h2
      have HS := Lib.hid hs; clear hs
      generalize resF (xs.take k) = a at *
      generalize xs.getD k 0 = b at *
      obtain ⟨h1a, h1b⟩ := h1
      obtain ⟨h2a, h2b⟩ := h2
      go_wp2
      go_round
      case rel => exact ⟨k + 1, by omega, by go_num, by rw [HS.out]⟩
      case measure => simp [intOf]; omega
    · obtain rfl : k = n := by omega
      go_wp2
      go_ret
      exact ⟨ret_int (by rw [List.take_of_length_le (by rw [HL.out]; omega)]), rfl⟩

def resolveF (xs : List Int) : Int × Int := if valuesF xs = 0 then (resF xs, 0) else (0, valuesF xs)
theorem valuesF_ok {xs : List Int} (h : valuesF xs = 0) : xs.all isVal = true ∧ xs.length ≤ 64 := by
  unfold valuesF at h
  split at h
  · cases h
  · split at h
    · exact ⟨‹_›, by omega⟩
    · cases h
set_option maxHeartbeats 400000 in
theorem resolve_any (A : Option Addr) (n c : Nat) (xs : List Int) (w : World) (hr : ReadsInt w .i64 A n xs) :
    Calls Try.prog 11 #[.slice A n c] w fun e w' => e = .returned (.tuple #[.int .i64 (resolveF xs).1, .int .i64 (resolveF xs).2]) ∧ Below w.heap.size w w' := by
  by_cases h : valuesF xs = 0
  · have HR : Hid (resolveF xs = (resF xs, 0)) := if_pos h
    have hv := (valuesF_ok h).1
    have H0 : Hid (valuesF xs = 0) := h
    clear h
    rw [HR.out]
    go_enter Try.func11, Try.ntmps11
    go_wp2_with (go_at_call 34; refine (values_any _ _ _ _ _ hr).mono ?_; rintro e w' ⟨rfl, rfl⟩; rw [H0.out])
    refine (table_any _).mono ?_
    rintro e w1 ⟨⟨cur, rfl, hcur⟩, hb1⟩
    have hs1 : (Try.prog.info? 62).map (·.size) = some cur.size := by rw [hcur.1]; exact size62
    have hs0 : Try.zeroCells62.size = cur.size := by rw [hcur.1]; kernel_rfl
    have h1c : cur.all (·.oneCell') = true := hcur.one
    have hr1 := hr.below hb1
    have HC := Lib.hid hcur; clear hcur
    have HS1 := Lib.hid hs1; clear hs1
    have HS0 := Lib.hid hs0; clear hs0
    have H1c := Lib.hid h1c; clear h1c
    have HB := Lib.hid hb1; clear hb1
    have hbel : Below w.heap.size w ((w1.alloc (.cells Try.zeroCells62 62)).setRow w1.heap.size cur) :=
      (HB.out.alloc HB.out.size _).trans ⟨rfl, rfl, rfl, by simp, fun k hk => setRow_other _ _ _ _ (by have := HB.out.size; omega)⟩
    have HBel := Lib.hid hbel; clear hbel
    go_wp2_with (first | (refine wpList_store_row rfl 62 _ _ rfl w1.heap.size cur rfl rfl 62 Try.zeroCells62 (blk_new _ _) HS1.out HS0.out H1c.out ?_) | (go_at_call 36; refine (resolved_any w1.heap.size cur _ _ _ _ _ (setRow_heap _ _ Try.zeroCells62 _ _ _ (blk_new _ _)) HC.out (ReadsInt.below hr HBel.out) hv).mono ?_; rintro e w' ⟨rfl, rfl⟩))
    go_ret2
    exact ⟨rfl, HBel.out⟩
  · have HR : Hid (resolveF xs = (0, valuesF xs)) := if_neg h
    rw [HR.out]
    have h1 : (valuesF xs == 0) = false := by simpa using h
    have h2 : (valuesF xs != 0) = true := by simpa using h
    go_enter Try.func11, Try.ntmps11
    go_wp2_with (go_at_call 34; refine (values_any _ _ _ _ _ hr).mono ?_; rintro e w' ⟨rfl, rfl⟩)
    go_ret2
    exact ⟨rfl, Below.refl _ _⟩
end Go.Proofs.Ytobdhdehmkmjcaa
namespace Go.Proofs.Ytobdhdehmkmjcaa
open Go.RowKit Go.Proofs.YtobdhdehmkmjcaaW.PrintWords

def strongF (x y : Int) (l : List Int) : Int := (l.find? fun v => x == v || y == v).getD (-1)
theorem strongF_none {x y : Int} {l : List Int} (h : l.all (fun v => !(x == v || y == v)) = true) : strongF x y l = -1 := by
  unfold strongF
  rw [List.find?_eq_none.2]
  · rfl
  · intro v hv
    have := List.all_eq_true.1 h v hv
    simpa using this
theorem strongF_at {x y : Int} {l : List Int} {k : Nat} (hk : k < l.length) (h : (l.take k).all (fun v => !(x == v || y == v)) = true) (hb : (x == l.getD k 0 || y == l.getD k 0) = true) : strongF x y l = l.getD k 0 := by
  have e : l = l.take k ++ (l.getD k 0 :: l.drop (k + 1)) := by rw [List.getD_eq_getElem?_getD, List.getElem?_eq_getElem hk]; simp
  generalize l.getD k 0 = z at *
  have hf : l.find? (fun v => x == v || y == v) = some z := by
    rw [e, List.find?_append, List.find?_eq_none.2 (fun v hv => by simpa using List.all_eq_true.1 h v hv)]
    simp [hb]
  unfold strongF
  rw [hf]
  rfl

theorem rd0 {w : World} {k : IntKind} {A : Option Addr} {n : Nat} {xs : List Int} (h : ReadsInt w k A n xs) (hi : 0 < n) : ∃ ad, A = some ad ∧ w.cell? ad = some (.int k (xs.getD 0 0)) := rdN h 0 hi
theorem rd1 {w : World} {k : IntKind} {A : Option Addr} {n : Nat} {xs : List Int} (h : ReadsInt w k A n xs) (hi : 1 < n) : ∃ ad, A = some ad ∧ w.cell? ⟨ad.block, ad.off + 1, none⟩ = some (.int k (xs.getD 1 0)) := rdN h 1 hi
/-- A slice of numbers that was just written out. -/
theorem readsLit (w : World) (t : TypeId) (xs : List Int) (cs : Array Value) (g n : Nat) (hg : g = w.heap.size) (hn : n = xs.length) (hc : cs = (xs.map (Value.int .i64)).toArray) (hm : n ≤ 9223372036854775807) :
    ReadsInt (w.alloc (.cells cs t)) .i64 (some ⟨g, 0, none⟩) n xs := by
  subst hg hn hc
  refine ⟨rfl, hm, fun _ => ⟨_, rfl, fun j hj => ?_⟩⟩
  rw [add_plain, blk_cell (blk_new w _)]
  simp [List.getD_eq_getElem?_getD, List.getElem?_eq_getElem hj]
/-- The world in which a gate's methods look at their inputs. -/
abbrev gw (w : World) (A : Option Addr) (n c : Nat) : World := w.alloc (.cells #[.slice A n c] 71)
theorem gw_below (w : World) (A : Option Addr) (n c : Nat) : Below w.heap.size w (gw w A n c) := (Below.refl _ _).alloc (Nat.le_refl _) _

set_option maxHeartbeats 400000 in
theorem strong_any (A B : Option Addr) (n c m d : Nat) (xs l : List Int) (w : World) (hr : ReadsInt w .i64 A n xs) (h2 : 2 ≤ n) (hl : ReadsInt w .i64 B m l) :
    Calls Try.prog 98 #[.agg #[.slice A n c], .slice B m d] w fun e w' => e = .returned (.int .i64 (strongF (to01 (xs.getD 0 0)) (to01 (xs.getD 1 0)) l)) ∧ Below w.heap.size w w' := by
  have hB := gw_below w A n c
  obtain ⟨ad, rfl, h0⟩ := rd0 (hr.below hB) (by omega)
  obtain ⟨ad', h1', h1⟩ := rd1 (hr.below hB) (by omega)
  injection h1' with h1'
  subst h1'
  have hn := hr.2.1
  have hm := hl.2.1
  have HL := Lib.hid hl.1
  have HLr := Lib.hid (hl.below hB); clear hl
  have HB := Lib.hid hB; clear hB
  generalize xs.getD 0 0 = p at *
  generalize xs.getD 1 0 = q at *
  clear hr
  unfold gw at h0 h1 HLr HB
  go_enter Try.func98, Try.ntmps98
  go_wp2
  go_loop [9] (fun i => ∃ k : Nat, k ≤ m ∧ i = .int .i64 k ∧ (l.take k).all (fun v => !(to01 p == v || to01 q == v)) = true) (fun i => m - (intOf i).toNat)
  case atStart => exact ⟨0, by omega, rfl, by simp⟩
  case round =>
    obtain ⟨k, hk, rfl, ha⟩ := hrel
    have HA := Lib.hid ha; clear ha
    by_cases hlt : k < m
    · obtain ⟨bd, rfl, hc⟩ := rdN HLr.out k hlt
      have hlt' : decide ((k : Int) < (m : Int)) = true := by simp; omega
      have hat := @strongF_at (to01 p) (to01 q) l k (by rw [HL.out]; exact hlt) HA.out
      have hall := @take_all_succ (fun v => !(to01 p == v || to01 q == v)) l k (by rw [HL.out]; exact hlt) HA.out
      have HAT := Lib.hid hat; clear hat
      have HALL := Lib.hid hall; clear hall
      generalize l.getD k 0 = v at *
      cases hp : (to01 p == v) with
      | true =>
        go_wp2_with (go_at_call 44; refine (to01_any _ _).mono ?_; rintro e w' ⟨rfl, rfl⟩)
        go_ret
        exact ⟨ret_int (HAT.out (by simp [hp])).symm, HB.out⟩
      | false =>
        cases hq : (to01 q == v) with
        | true =>
          go_wp2_with (go_at_call 44; refine (to01_any _ _).mono ?_; rintro e w' ⟨rfl, rfl⟩)
          go_ret
          exact ⟨ret_int (HAT.out (by simp [hq])).symm, HB.out⟩
        | false =>
          go_wp2_with (go_at_call 44; refine (to01_any _ _).mono ?_; rintro e w' ⟨rfl, rfl⟩)
          go_round
          case rel => exact ⟨k + 1, by omega, by go_num, by rw [HALL.out, hp, hq]; rfl⟩
          case measure => simp [intOf]; omega
    · go_wp2
      go_ret
      exact ⟨ret_int (strongF_none (by have := HA.out; rwa [List.take_of_length_le (by rw [HL.out]; omega)] at this)).symm, HB.out⟩

def notF (v : Int) : Int := if v = 2 then 3 else if v = 3 then 2 else v
set_option maxHeartbeats 400000 in
theorem not_any (A : Option Addr) (n c : Nat) (xs : List Int) (w : World) (hr : ReadsInt w .i64 A n xs) (h1 : 1 ≤ n) :
    Calls Try.prog 71 #[.agg #[.slice A n c]] w fun e w' => e = .returned (.int .i64 (notF (to01 (xs.getD 0 0)))) ∧ Below w.heap.size w w' := by
  have hB := gw_below w A n c
  obtain ⟨ad, rfl, h0⟩ := rd0 (hr.below hB) (by omega)
  have HB := Lib.hid hB; clear hB
  generalize xs.getD 0 0 = p at *
  have hn := hr.2.1
  clear hr
  unfold gw at h0 HB
  go_enter Try.func71, Try.ntmps71
  go_wp2_with (go_at_call 44; refine (to01_any _ _).mono ?_; rintro e w' ⟨rfl, rfl⟩)
  all_goals (go_ret; refine ⟨ret_int ?_, HB.out⟩; simp_all [notF])

set_option maxHeartbeats 400000 in
theorem buf_any (A : Option Addr) (n c : Nat) (xs : List Int) (w : World) (hr : ReadsInt w .i64 A n xs) (h1 : 1 ≤ n) :
    Calls Try.prog 72 #[.agg #[.slice A n c]] w fun e w' => e = .returned (.int .i64 (xs.getD 0 0)) ∧ Below w.heap.size w w' := by
  have hB := gw_below w A n c
  obtain ⟨ad, rfl, h0⟩ := rd0 (hr.below hB) (by omega)
  have HB := Lib.hid hB; clear hB
  generalize xs.getD 0 0 = p at *
  have hn := hr.2.1
  clear hr
  unfold gw at h0 HB
  go_enter Try.func72, Try.ntmps72
  go_wp2
  all_goals (go_ret; exact ⟨rfl, HB.out⟩)

def triF (x y : Int) : Int := if y = 3 then x else if y = 2 then 4 else y
set_option maxHeartbeats 400000 in
theorem tri_any (A : Option Addr) (n c : Nat) (xs : List Int) (w : World) (hr : ReadsInt w .i64 A n xs) (h2 : 2 ≤ n) :
    Calls Try.prog 76 #[.agg #[.slice A n c]] w fun e w' => e = .returned (.int .i64 (triF (to01 (xs.getD 0 0)) (to01 (xs.getD 1 0)))) ∧ Below w.heap.size w w' := by
  have hB := gw_below w A n c
  obtain ⟨ad, rfl, h0⟩ := rd0 (hr.below hB) (by omega)
  obtain ⟨ad', h1', h1⟩ := rd1 (hr.below hB) (by omega)
  injection h1' with h1'
  subst h1'
  have HB := Lib.hid hB; clear hB
  generalize xs.getD 0 0 = p at *
  generalize xs.getD 1 0 = q at *
  have hn := hr.2.1
  clear hr
  unfold gw at h0 h1 HB
  go_enter Try.func76, Try.ntmps76
  go_wp2_with (go_at_call 44; refine (to01_any _ _).mono ?_; rintro e w' ⟨rfl, rfl⟩)
  all_goals (go_ret; refine ⟨ret_int ?_, HB.out⟩; simp_all [triF])

def xorF (x y : Int) : Int := if 0 ≤ strongF x y [0, 1] then strongF x y [0, 1] else if x = y then 2 else 3
def andF (x y : Int) : Int := if 0 ≤ strongF x y [2, 0, 1] then strongF x y [2, 0, 1] else 3
def orF (x y : Int) : Int := if 0 ≤ strongF x y [3, 0, 1] then strongF x y [3, 0, 1] else 2

set_option maxHeartbeats 400000 in
theorem and_any (A : Option Addr) (n c : Nat) (xs : List Int) (w : World) (hr : ReadsInt w .i64 A n xs) (h2 : 2 ≤ n) :
    Calls Try.prog 73 #[.agg #[.slice A n c]] w fun e w' => e = .returned (.int .i64 (andF (to01 (xs.getD 0 0)) (to01 (xs.getD 1 0)))) ∧ Below w.heap.size w w' := by
  have hB := gw_below w A n c
  have hB2 : Below w.heap.size w ((gw w A n c).alloc (.cells #[.int .i64 2, .int .i64 0, .int .i64 1] 3)) := hB.alloc hB.size _
  have hl := readsLit (gw w A n c) 3 [2, 0, 1] #[.int .i64 2, .int .i64 0, .int .i64 1] (w.heap.size + 1) 3 (by simp) rfl rfl (by omega)
  have hr2 := hr.below hB2
  have HB2 := Lib.hid hB2; clear hB2 hB
  generalize hX : to01 (xs.getD 0 0) = x at *
  generalize hY : to01 (xs.getD 1 0) = y at *
  unfold gw at hl hr2 HB2
  have HX := Lib.hid hX; clear hX
  have HY := Lib.hid hY; clear hY
  have HR := Lib.hid hr2; clear hr2
  have HL := Lib.hid hl; clear hl
  clear hr
  have H2 := Lib.hid h2; clear h2
  go_enter Try.func73, Try.ntmps73
  go_wp2_with fail
  refine (strong_any _ _ _ _ _ _ _ _ _ HR.out H2.out HL.out).mono ?_
  rintro e w1 ⟨rfl, hb⟩
  rw [HX.out, HY.out]
  have HB1 := Lib.hid (HB2.out.trans (hb.mono HB2.out.size)); clear hb
  generalize hs : strongF x y [2, 0, 1] = s
  have HS := Lib.hid hs; clear hs
  by_cases h : 0 ≤ s
  · go_wp2
    go_ret
    exact ⟨ret_int (by unfold andF; rw [HS.out, if_pos h]), HB1.out⟩
  · go_wp2
    go_ret
    exact ⟨ret_int (by unfold andF; rw [HS.out, if_neg (by omega)]), HB1.out⟩

set_option maxHeartbeats 400000 in
theorem or_any (A : Option Addr) (n c : Nat) (xs : List Int) (w : World) (hr : ReadsInt w .i64 A n xs) (h2 : 2 ≤ n) :
    Calls Try.prog 74 #[.agg #[.slice A n c]] w fun e w' => e = .returned (.int .i64 (orF (to01 (xs.getD 0 0)) (to01 (xs.getD 1 0)))) ∧ Below w.heap.size w w' := by
  have hB := gw_below w A n c
  have hB2 : Below w.heap.size w ((gw w A n c).alloc (.cells #[.int .i64 3, .int .i64 0, .int .i64 1] 3)) := hB.alloc hB.size _
  have hl := readsLit (gw w A n c) 3 [3, 0, 1] #[.int .i64 3, .int .i64 0, .int .i64 1] (w.heap.size + 1) 3 (by simp) rfl rfl (by omega)
  have hr2 := hr.below hB2
  have HB2 := Lib.hid hB2; clear hB2 hB
  generalize hX : to01 (xs.getD 0 0) = x at *
  generalize hY : to01 (xs.getD 1 0) = y at *
  unfold gw at hl hr2 HB2
  have HX := Lib.hid hX; clear hX
  have HY := Lib.hid hY; clear hY
  have HR := Lib.hid hr2; clear hr2
  have HL := Lib.hid hl; clear hl
  clear hr
  have H2 := Lib.hid h2; clear h2
  go_enter Try.func74, Try.ntmps74
  go_wp2_with fail
  refine (strong_any _ _ _ _ _ _ _ _ _ HR.out H2.out HL.out).mono ?_
  rintro e w1 ⟨rfl, hb⟩
  rw [HX.out, HY.out]
  have HB1 := Lib.hid (HB2.out.trans (hb.mono HB2.out.size)); clear hb
  generalize hs : strongF x y [3, 0, 1] = s
  have HS := Lib.hid hs; clear hs
  by_cases h : 0 ≤ s
  · go_wp2
    go_ret
    exact ⟨ret_int (by unfold orF; rw [HS.out, if_pos h]), HB1.out⟩
  · go_wp2
    go_ret
    exact ⟨ret_int (by unfold orF; rw [HS.out, if_neg (by omega)]), HB1.out⟩

set_option maxHeartbeats 400000 in
theorem xor_any (A : Option Addr) (n c : Nat) (xs : List Int) (w : World) (hr : ReadsInt w .i64 A n xs) (h2 : 2 ≤ n) :
    Calls Try.prog 75 #[.agg #[.slice A n c]] w fun e w' => e = .returned (.int .i64 (xorF (to01 (xs.getD 0 0)) (to01 (xs.getD 1 0)))) ∧ Below w.heap.size w w' := by
  have hB := gw_below w A n c
  have hB2 : Below w.heap.size w ((gw w A n c).alloc (.cells #[.int .i64 0, .int .i64 1] 3)) := hB.alloc hB.size _
  have hl := readsLit (gw w A n c) 3 [0, 1] #[.int .i64 0, .int .i64 1] (w.heap.size + 1) 2 (by simp) rfl rfl (by omega)
  have hr2 := hr.below hB2
  have HB2 := Lib.hid hB2; clear hB2 hB
  generalize hX : to01 (xs.getD 0 0) = x at *
  generalize hY : to01 (xs.getD 1 0) = y at *
  unfold gw at hl hr2 HB2
  have HX := Lib.hid hX; clear hX
  have HY := Lib.hid hY; clear hY
  have HR := Lib.hid hr2; clear hr2
  have HL := Lib.hid hl; clear hl
  clear hr
  have H2 := Lib.hid h2; clear h2
  go_enter Try.func75, Try.ntmps75
  go_wp2_with fail
  refine (strong_any _ _ _ _ _ _ _ _ _ HR.out H2.out HL.out).mono ?_
  rintro e w1 ⟨rfl, hb⟩
  rw [HX.out, HY.out]
  have HB1 := Lib.hid (HB2.out.trans (hb.mono HB2.out.size))
  have HW := Lib.hid hb; clear hb
  generalize hs : strongF x y [0, 1] = s
  have HS := Lib.hid hs; clear hs
  by_cases h : 0 ≤ s
  · go_wp2
    go_ret
    exact ⟨ret_int (by unfold xorF; rw [HS.out, if_pos h]), HB1.out⟩
  · have hrw := HR.out.below HW.out
    obtain ⟨ad, rfl, h0⟩ := rd0 hrw (by have := H2.out; omega)
    obtain ⟨ad', h1', h1⟩ := rd1 hrw (by have := H2.out; omega)
    injection h1' with h1'
    subst h1'
    have hbl := (blk_cell (blk_below (blk_alloc (blk_new w (.cells #[.slice (some ad) n c] 71)) _) HW.out) 0)
    replace hbl : w1.cell? ⟨w.heap.size, 0, none⟩ = some (.slice (some ad) n c) := hbl
    have hn := HR.out.2.1
    have hh2 := H2.out
    clear hrw
    generalize xs.getD 0 0 = p at *
    generalize xs.getD 1 0 = q at *
    go_wp2
    go_quiet ((go_at_call 44; exact Calls.quiet_of_same ((to01_any _ _).mono fun _ _ h => ⟨h.1, h.2.symm⟩)))
    all_goals (rw [HX.out, HY.out])
    go_wp2
    all_goals (go_ret; refine ⟨ret_int ?_, ?_⟩)
    all_goals first | exact pw_below_drewN HB1.out _ | (unfold xorF; rw [HS.out, if_neg (by omega)]; simp_all)

end Go.Proofs.Ytobdhdehmkmjcaa
namespace Go.Proofs.Ytobdhdehmkmjcaa
open Go.RowKit Go.Proofs.YtobdhdehmkmjcaaW.PrintWords

section
variable {P : Program}
/-- A new key goes into a map of ints whose block stands in the world. -/
theorem run_insert_int (w : World) (t kt et : TypeId) (hu : P.underlying t = some (.map kt et)) (hk : P.underlying kt = some (.int .i64)) (g : Nat) (es : Array MapEntry) (c : Nat) (k : Int) (v : Value)
    (hb : w.heap[g]? = some (.map es c)) (hf : Instr.findNow (.int .i64) (.int .i64 k) es.toList 0 = some none) :
    (Instr.mapUpdate t (.map (some g)) (.int .i64 k) v).run P w = .ok () { w with heap := w.heap.setIfInBounds g (.map (es.push { key := .int .i64 k, val := v, born := c }) (c + 1)) } := by
  simp [Instr.mapUpdate, run_underlying hu, MapKept.run_getObj_map hb, MapKept.run_checkKey (n := 9999) hk (show MapKept.IsKey (.int .i64) (.int .i64 k) from rfl), MapKept.run_findKey hk hf, MapKept.run_setObj_map _ hb, Result.andThen]
theorem run_lookup_int (w : World) (t kt et : TypeId) (hu : P.underlying t = some (.map kt et)) (hk : P.underlying kt = some (.int .i64)) (g : Nat) (es : Array MapEntry) (c : Nat) (k : Int) (i : Nat) (v : Value)
    (hb : w.heap[g]? = some (.map es c)) (hf : Instr.findNow (.int .i64) (.int .i64 k) es.toList 0 = some (some (i, v))) :
    (Instr.lookup t (.map (some g)) (.int .i64 k) false).run P w = .ok v w := by
  simp [Instr.lookup, run_underlying hu, MapKept.run_getObj_map hb, MapKept.run_checkKey (n := 9999) hk (show MapKept.IsKey (.int .i64) (.int .i64 k) from rfl), MapKept.run_findKey hk hf, Result.andThen]
end

def fnV (f : Nat) : Value := .func (.func f) #[] #[]
def gE0 : Array MapEntry := #[]
def gE1 : Array MapEntry := gE0.push ⟨.int .i64 1, fnV 71, 0⟩
def gE2 : Array MapEntry := gE1.push ⟨.int .i64 2, fnV 72, 1⟩
def gE3 : Array MapEntry := gE2.push ⟨.int .i64 3, fnV 73, 2⟩
def gE4 : Array MapEntry := gE3.push ⟨.int .i64 4, fnV 74, 3⟩
def gE5 : Array MapEntry := gE4.push ⟨.int .i64 5, fnV 75, 4⟩
def gE6 : Array MapEntry := gE5.push ⟨.int .i64 6, fnV 76, 5⟩
theorem setNew (w : World) (a b : Obj) : ({ (w.alloc a) with heap := (w.alloc a).heap.setIfInBounds w.heap.size b } : World) = w.alloc b := by
  have : (w.alloc a).heap.setIfInBounds w.heap.size b = (w.alloc b).heap := by
    show (w.heap.push a).setIfInBounds w.heap.size b = w.heap.push b
    apply Array.ext_getElem?
    intro i
    simp only [Array.getElem?_setIfInBounds, Array.getElem?_push, Array.size_push]
    by_cases h : w.heap.size = i
    · subst h; simp
    · rw [if_neg h]
      have : i ≠ w.heap.size := fun e => h e.symm
      simp [this]
  rw [this]
  rfl
theorem insStep (w : World) (es : Array MapEntry) (c : Nat) (k : Int) (f : Nat) (hf : Instr.findNow (.int .i64) (.int .i64 k) es.toList 0 = some none) :
    (Instr.mapUpdate 68 (.map (some w.heap.size)) (.int .i64 k) (.func (.func f) #[] #[])).run Try.prog (w.alloc (.map es c)) = .ok () (w.alloc (.map (es.push ⟨.int .i64 k, fnV f, c⟩) (c + 1))) := by
  rw [run_insert_int _ 68 3 67 Try.underlying68 Try.underlying3 w.heap.size es c k _ (blk_new _ _) hf, setNew]
  rfl

set_option maxHeartbeats 400000 in
theorem gates_any (w : World) :
    Calls Try.prog 40 #[] w fun e w' => e = .returned (.map (some w.heap.size)) ∧ w.alloc (.map gE6 6) = w' := by
  have h0 : (Instr.makeMap 68 none).run Try.prog w = .ok (.map (some w.heap.size)) (w.alloc (.map gE0 0)) := by simp [Instr.makeMap, Result.andThen]; rfl
  have h1 : (Instr.mapUpdate 68 (.map (some w.heap.size)) (.int .i64 1) (.func (.func 71) #[] #[])).run Try.prog (w.alloc (.map gE0 0)) = .ok () (w.alloc (.map gE1 1)) := insStep w gE0 0 1 71 (by kernel_rfl)
  have h2 : (Instr.mapUpdate 68 (.map (some w.heap.size)) (.int .i64 2) (.func (.func 72) #[] #[])).run Try.prog (w.alloc (.map gE1 1)) = .ok () (w.alloc (.map gE2 2)) := insStep w gE1 1 2 72 (by kernel_rfl)
  have h3 : (Instr.mapUpdate 68 (.map (some w.heap.size)) (.int .i64 3) (.func (.func 73) #[] #[])).run Try.prog (w.alloc (.map gE2 2)) = .ok () (w.alloc (.map gE3 3)) := insStep w gE2 2 3 73 (by kernel_rfl)
  have h4 : (Instr.mapUpdate 68 (.map (some w.heap.size)) (.int .i64 4) (.func (.func 74) #[] #[])).run Try.prog (w.alloc (.map gE3 3)) = .ok () (w.alloc (.map gE4 4)) := insStep w gE3 3 4 74 (by kernel_rfl)
  have h5 : (Instr.mapUpdate 68 (.map (some w.heap.size)) (.int .i64 5) (.func (.func 75) #[] #[])).run Try.prog (w.alloc (.map gE4 4)) = .ok () (w.alloc (.map gE5 5)) := insStep w gE4 4 5 75 (by kernel_rfl)
  have h6 : (Instr.mapUpdate 68 (.map (some w.heap.size)) (.int .i64 6) (.func (.func 76) #[] #[])).run Try.prog (w.alloc (.map gE5 5)) = .ok () (w.alloc (.map gE6 6)) := insStep w gE5 5 6 76 (by kernel_rfl)
  go_enter Try.func40, Try.ntmps40
  go_wp2
  go_ret
  exact ⟨rfl, rfl⟩

theorem gate_look (w : World) (k : Int) (i : Nat) (hf : Instr.findNow (.int .i64) (.int .i64 k) gE6.toList 0 = some (some (i, .func (.func (71 + i)) #[] #[]))) :
    (Instr.lookup 68 (.map (some w.heap.size)) (.int .i64 k) false).run Try.prog (w.alloc (.map gE6 6)) = .ok (.func (.func (71 + i)) #[] #[]) (w.alloc (.map gE6 6)) :=
  run_lookup_int _ 68 3 67 Try.underlying68 Try.underlying3 _ gE6 6 k i _ (blk_new _ _) hf

def gateVal (k : Int) (xs : List Int) : Int :=
  if k = 1 then notF (to01 (xs.getD 0 0)) else if k = 2 then xs.getD 0 0 else if k = 3 then andF (to01 (xs.getD 0 0)) (to01 (xs.getD 1 0))
  else if k = 4 then orF (to01 (xs.getD 0 0)) (to01 (xs.getD 1 0)) else if k = 5 then xorF (to01 (xs.getD 0 0)) (to01 (xs.getD 1 0)) else triF (to01 (xs.getD 0 0)) (to01 (xs.getD 1 0))
def gateF (k : Int) (xs : List Int) : Int × Int := if valuesF xs = 0 then (if k = 0 ∨ (xs.length : Int) ≠ inputsF k then (0, 1) else (gateVal k xs, 0)) else (0, valuesF xs)

set_option maxHeartbeats 400000 in
theorem gate_bad (k : Int) (A : Option Addr) (n c : Nat) (xs : List Int) (w : World) (hr : ReadsInt w .i64 A n xs) (h : valuesF xs ≠ 0) :
    Calls Try.prog 13 #[.int .i64 k, .slice A n c] w fun e w' => e = .returned (.tuple #[.int .i64 (gateF k xs).1, .int .i64 (gateF k xs).2]) ∧ Below w.heap.size w w' := by
  have HR : Hid (gateF k xs = (0, valuesF xs)) := if_neg h
  rw [HR.out]
  have h1 : (valuesF xs == 0) = false := by simpa using h
  have h2 : (valuesF xs != 0) = true := by simpa using h
  go_enter Try.func13, Try.ntmps13
  go_wp2_with (go_at_call 34; refine (values_any _ _ _ _ _ hr).mono ?_; rintro e w' ⟨rfl, rfl⟩)
  go_ret2
  exact ⟨rfl, Below.refl _ _⟩
set_option maxHeartbeats 400000 in
theorem gate_not (k : Int) (A : Option Addr) (n c : Nat) (xs : List Int) (w : World) (hr : ReadsInt w .i64 A n xs) (h : valuesF xs = 0) (hk : k = 0 ∨ (n : Int) ≠ inputsF k) :
    Calls Try.prog 13 #[.int .i64 k, .slice A n c] w fun e w' => e = .returned (.tuple #[.int .i64 (gateF k xs).1, .int .i64 (gateF k xs).2]) ∧ Below w.heap.size w w' := by
  have HR : Hid (gateF k xs = (0, 1)) := Lib.hid (by unfold gateF; rw [if_pos h, if_pos (by rw [hr.1]; exact hk)])
  rw [HR.out]
  have H0 := Lib.hid h; clear h
  have hm := hr.2.1
  by_cases h0 : k = 0
  · subst h0
    clear hk
    go_enter Try.func13, Try.ntmps13
    go_wp2_with (go_at_call 34; refine (values_any _ _ _ _ _ hr).mono ?_; rintro e w' ⟨rfl, rfl⟩; rw [H0.out])
    go_ret2
    exact ⟨rfl, Below.refl _ _⟩
  · replace hk := hk.resolve_left h0
    have hb : (k == 0) = false := by simpa using h0
    generalize hi : inputsF k = q at *
    have HI := Lib.hid hi; clear hi
    have hq : ((n : Int) != q) = true := by simpa using hk
    go_enter Try.func13, Try.ntmps13
    go_wp2_with (first | (go_at_call 34; refine (values_any _ _ _ _ _ hr).mono ?_; rintro e w' ⟨rfl, rfl⟩; rw [H0.out]) | (go_at_call 39; refine (inputs_any _ _).mono ?_; rintro e w' ⟨rfl, rfl⟩; rw [HI.out]))
    go_ret2
    exact ⟨rfl, Below.refl _ _⟩
theorem inputs_kind {k : Int} {n : Nat} (h0 : k ≠ 0) (h : (n : Int) = inputsF k) : (k = 1 ∧ n = 1) ∨ (k = 2 ∧ n = 1) ∨ (k = 3 ∧ n = 2) ∨ (k = 4 ∧ n = 2) ∨ (k = 5 ∧ n = 2) ∨ (k = 6 ∧ n = 2) := by
  unfold inputsF at h
  split at h
  · omega
  · split at h <;> omega
set_option maxHeartbeats 400000 in
theorem gate_good (k : Int) (A : Option Addr) (n c : Nat) (xs : List Int) (w : World) (hr : ReadsInt w .i64 A n xs) (h : valuesF xs = 0) (h0 : k ≠ 0) (hk : (n : Int) = inputsF k) :
    Calls Try.prog 13 #[.int .i64 k, .slice A n c] w fun e w' => e = .returned (.tuple #[.int .i64 (gateF k xs).1, .int .i64 (gateF k xs).2]) ∧ Below w.heap.size w w' := by
  have HR : Hid (gateF k xs = (gateVal k xs, 0)) := Lib.hid (by unfold gateF; rw [if_pos h, if_neg (by rw [hr.1]; omega)])
  rw [HR.out]
  clear HR
  have H0 := Lib.hid h; clear h
  have hm := hr.2.1
  have hB : Below w.heap.size w (w.alloc (.map gE6 6)) := (Below.refl _ _).alloc (Nat.le_refl _) _
  have hr2 := hr.below hB
  have HB := Lib.hid hB; clear hB
  rcases inputs_kind h0 hk with ⟨rfl, rfl⟩ | ⟨rfl, rfl⟩ | ⟨rfl, rfl⟩ | ⟨rfl, rfl⟩ | ⟨rfl, rfl⟩ | ⟨rfl, rfl⟩
  · have HI := Lib.hid hk; clear hk h0
    have HL := Lib.hid (gate_look w 1 0 (by kernel_rfl))
    go_enter Try.func13, Try.ntmps13
    go_wp2_with (first | (go_at_call 34; refine (values_any _ _ _ _ _ hr).mono ?_; rintro e w' ⟨rfl, rfl⟩; rw [H0.out]) | (go_at_call 39; refine (inputs_any _ _).mono ?_; rintro e w' ⟨rfl, rfl⟩; rw [← HI.out]) | (go_at_call 40; refine (gates_any _).mono ?_; rintro e w' ⟨rfl, rfl⟩; have hl := HL.out) | (go_at_call 71; refine (not_any _ _ _ _ _ hr2 (by omega)).mono ?_; rintro e w1 ⟨rfl, hb1⟩))
    go_ret2
    exact ⟨rfl, HB.out.trans (hb1.mono HB.out.size)⟩
  · have HI := Lib.hid hk; clear hk h0
    have HL := Lib.hid (gate_look w 2 1 (by kernel_rfl))
    go_enter Try.func13, Try.ntmps13
    go_wp2_with (first | (go_at_call 34; refine (values_any _ _ _ _ _ hr).mono ?_; rintro e w' ⟨rfl, rfl⟩; rw [H0.out]) | (go_at_call 39; refine (inputs_any _ _).mono ?_; rintro e w' ⟨rfl, rfl⟩; rw [← HI.out]) | (go_at_call 40; refine (gates_any _).mono ?_; rintro e w' ⟨rfl, rfl⟩; have hl := HL.out) | (go_at_call 72; refine (buf_any _ _ _ _ _ hr2 (by omega)).mono ?_; rintro e w1 ⟨rfl, hb1⟩))
    go_ret2
    exact ⟨rfl, HB.out.trans (hb1.mono HB.out.size)⟩
  · have HI := Lib.hid hk; clear hk h0
    have HL := Lib.hid (gate_look w 3 2 (by kernel_rfl))
    go_enter Try.func13, Try.ntmps13
    go_wp2_with (first | (go_at_call 34; refine (values_any _ _ _ _ _ hr).mono ?_; rintro e w' ⟨rfl, rfl⟩; rw [H0.out]) | (go_at_call 39; refine (inputs_any _ _).mono ?_; rintro e w' ⟨rfl, rfl⟩; rw [← HI.out]) | (go_at_call 40; refine (gates_any _).mono ?_; rintro e w' ⟨rfl, rfl⟩; have hl := HL.out) | (go_at_call 73; refine (and_any _ _ _ _ _ hr2 (by omega)).mono ?_; rintro e w1 ⟨rfl, hb1⟩))
    go_ret2
    exact ⟨rfl, HB.out.trans (hb1.mono HB.out.size)⟩
  · have HI := Lib.hid hk; clear hk h0
    have HL := Lib.hid (gate_look w 4 3 (by kernel_rfl))
    go_enter Try.func13, Try.ntmps13
    go_wp2_with (first | (go_at_call 34; refine (values_any _ _ _ _ _ hr).mono ?_; rintro e w' ⟨rfl, rfl⟩; rw [H0.out]) | (go_at_call 39; refine (inputs_any _ _).mono ?_; rintro e w' ⟨rfl, rfl⟩; rw [← HI.out]) | (go_at_call 40; refine (gates_any _).mono ?_; rintro e w' ⟨rfl, rfl⟩; have hl := HL.out) | (go_at_call 74; refine (or_any _ _ _ _ _ hr2 (by omega)).mono ?_; rintro e w1 ⟨rfl, hb1⟩))
    go_ret2
    exact ⟨rfl, HB.out.trans (hb1.mono HB.out.size)⟩
  · have HI := Lib.hid hk; clear hk h0
    have HL := Lib.hid (gate_look w 5 4 (by kernel_rfl))
    go_enter Try.func13, Try.ntmps13
    go_wp2_with (first | (go_at_call 34; refine (values_any _ _ _ _ _ hr).mono ?_; rintro e w' ⟨rfl, rfl⟩; rw [H0.out]) | (go_at_call 39; refine (inputs_any _ _).mono ?_; rintro e w' ⟨rfl, rfl⟩; rw [← HI.out]) | (go_at_call 40; refine (gates_any _).mono ?_; rintro e w' ⟨rfl, rfl⟩; have hl := HL.out) | (go_at_call 75; refine (xor_any _ _ _ _ _ hr2 (by omega)).mono ?_; rintro e w1 ⟨rfl, hb1⟩))
    go_ret2
    exact ⟨rfl, HB.out.trans (hb1.mono HB.out.size)⟩
  · have HI := Lib.hid hk; clear hk h0
    have HL := Lib.hid (gate_look w 6 5 (by kernel_rfl))
    go_enter Try.func13, Try.ntmps13
    go_wp2_with (first | (go_at_call 34; refine (values_any _ _ _ _ _ hr).mono ?_; rintro e w' ⟨rfl, rfl⟩; rw [H0.out]) | (go_at_call 39; refine (inputs_any _ _).mono ?_; rintro e w' ⟨rfl, rfl⟩; rw [← HI.out]) | (go_at_call 40; refine (gates_any _).mono ?_; rintro e w' ⟨rfl, rfl⟩; have hl := HL.out) | (go_at_call 76; refine (tri_any _ _ _ _ _ hr2 (by omega)).mono ?_; rintro e w1 ⟨rfl, hb1⟩))
    go_ret2
    exact ⟨rfl, HB.out.trans (hb1.mono HB.out.size)⟩

theorem gate_any (k : Int) (A : Option Addr) (n c : Nat) (xs : List Int) (w : World) (hr : ReadsInt w .i64 A n xs) :
    Calls Try.prog 13 #[.int .i64 k, .slice A n c] w fun e w' => e = .returned (.tuple #[.int .i64 (gateF k xs).1, .int .i64 (gateF k xs).2]) ∧ Below w.heap.size w w' := by
  by_cases h : valuesF xs = 0
  · by_cases hk : k = 0 ∨ (n : Int) ≠ inputsF k
    · exact gate_not k A n c xs w hr h hk
    · exact gate_good k A n c xs w hr h (fun e => hk (.inl e)) (Classical.not_not.1 fun e => hk (.inr e))
  · exact gate_bad k A n c xs w hr h
end Go.Proofs.Ytobdhdehmkmjcaa
namespace Go.Proofs.Ytobdhdehmkmjcaa
open Go.RowKit Go.Proofs.YtobdhdehmkmjcaaW.PrintWords

theorem resolve_lit (a b r : Int) (W : World) (h : resolveF [a, b] = (r, 0)) :
    Calls Try.prog 11 #[.slice (some ⟨W.heap.size, 0, none⟩) 2 2] (W.alloc (.cells #[.int .i64 a, .int .i64 b] 3)) fun e w' => e = .returned (.tuple #[.int .i64 r, .int .i64 0]) ∧ Below W.heap.size W w' := by
  have hb : Below W.heap.size W (W.alloc (.cells #[.int .i64 a, .int .i64 b] 3)) := (Below.refl _ _).alloc (Nat.le_refl _) _
  refine (resolve_any _ _ _ [a, b] _ (readsLit W 3 [a, b] _ _ 2 rfl rfl rfl (by omega))).mono ?_
  rintro e w' ⟨rfl, h1⟩
  rw [h]
  exact ⟨rfl, hb.trans (h1.mono hb.size)⟩
theorem gate_lit (k a b r : Int) (W : World) (h : gateF k [a, b] = (r, 0)) :
    Calls Try.prog 13 #[.int .i64 k, .slice (some ⟨W.heap.size, 0, none⟩) 2 2] (W.alloc (.cells #[.int .i64 a, .int .i64 b] 3)) fun e w' => e = .returned (.tuple #[.int .i64 r, .int .i64 0]) ∧ Below W.heap.size W w' := by
  have hb : Below W.heap.size W (W.alloc (.cells #[.int .i64 a, .int .i64 b] 3)) := (Below.refl _ _).alloc (Nat.le_refl _) _
  refine (gate_any _ _ _ _ [a, b] _ (readsLit W 3 [a, b] _ _ 2 rfl rfl rfl (by omega))).mono ?_
  rintro e w' ⟨rfl, h1⟩
  rw [h]
  exact ⟨rfl, hb.trans (h1.mono hb.size)⟩

set_option maxHeartbeats 400000 in
theorem known_any (w : World) :
    Calls Try.prog 10 #[] w fun e w' => e = .returned (.bool true) ∧ Below w.heap.size w w' := by
  go_enter Try.func10, Try.ntmps10
  go_wp2_with fail
  refine (resolve_lit 2 7 2 _ (by decide)).mono ?_
  rintro e w1 ⟨rfl, h1⟩
  have H1 := Lib.hid h1; clear h1
  go_wp2_with fail
  refine (resolve_lit 6 7 5 _ (by decide)).mono ?_
  rintro e w2 ⟨rfl, h2⟩
  have H2 := Lib.hid (H1.out.trans (h2.mono H1.out.size)); clear h2 H1
  go_wp2_with fail
  refine (gate_lit 3 6 1 2 _ (by decide)).mono ?_
  rintro e w3 ⟨rfl, h3⟩
  have H3 := Lib.hid (H2.out.trans (h3.mono H2.out.size)); clear h3 H2
  go_wp2
  go_ret
  exact ⟨rfl, H3.out⟩
end Go.Proofs.Ytobdhdehmkmjcaa
namespace Go.Proofs.Ytobdhdehmkmjcaa
open Go.RowKit Go.Proofs.YtobdhdehmkmjcaaW.PrintWords

theorem fin_of {a : Int} (h : isVal a = true) : ∃ i : Fin 9, a = i.val := by
  have := isVal_iff h
  exact ⟨⟨a.toNat, by omega⟩, by simp; omega⟩
section
variable {P : Program} {ops : Array Oper} {o : Oper} {a : Act} {K : Act → World → Prop} {Q : Exit → Act → World → Prop} {E : Prop}
end
end Go.Proofs.Ytobdhdehmkmjcaa
namespace Go.Proofs.Ytobdhdehmkmjcaa
open Go.RowKit Go.Proofs.YtobdhdehmkmjcaaW.PrintWords Go.Proofs.YtobdhdehmkmjcaaW.PrintLast

theorem info3 : (Try.prog.info? 3).map (fun i => (i.zero, i.size, i.bytes)) = some (some (.int .i64 0), 1, 8) := by kernel_rfl
end Go.Proofs.Ytobdhdehmkmjcaa
namespace Go.Proofs.Ytobdhdehmkmjcaa
open Go.RowKit Go.Proofs.YtobdhdehmkmjcaaW.PrintWords Go.Proofs.YtobdhdehmkmjcaaW.PrintLast

set_option maxHeartbeats 400000 in
theorem is_any (a b v : Int) (w : World) :
    Calls Try.prog 70 #[.int .i64 a, .int .i64 b, .int .i64 v] w fun e w' => e = .returned (.bool (a == v || b == v)) ∧ w = w' := by
  go_enter Try.func70, Try.ntmps70
  go_wp2
  all_goals (go_ret; exact ⟨by simp [*], rfl⟩)

set_option maxHeartbeats 400000 in
theorem refTo01_any (v : Int) (w : World) :
    Calls Try.prog 45 #[.int .i64 v] w fun e w' => e = .returned (.int .i64 (to01 v)) ∧ w = w' := by
  go_enter Try.func45, Try.ntmps45
  go_wp2
  all_goals (go_ret; refine ⟨ret_int ?_, rfl⟩; simp_all [to01])

set_option maxHeartbeats 400000 in
theorem refInputs_any (v : Int) (w : World) :
    Calls Try.prog 41 #[.int .i64 v] w fun e w' => e = .returned (.int .i64 (inputsF v)) ∧ w = w' := by
  go_enter Try.func41, Try.ntmps41
  go_wp2
  all_goals (go_ret; refine ⟨ret_int ?_, rfl⟩; simp_all [inputsF])

set_option maxHeartbeats 400000 in
theorem turned_any (v : Int) (w : World) :
    Calls Try.prog 77 #[.int .i64 v] w fun e w' => e = .returned (.int .i64 (notF v)) ∧ w = w' := by
  go_enter Try.func77, Try.ntmps77
  go_wp2
  all_goals (go_ret; refine ⟨ret_int ?_, rfl⟩; simp_all [notF])

def firstF (a b d o : Int) : Int := if (a == d || b == d) = true then d else if (a == 0 || b == 0) = true then 0 else if (a == 1 || b == 1) = true then 1 else o
set_option maxHeartbeats 400000 in
theorem first_any (a b d o : Int) (w : World) :
    Calls Try.prog 78 #[.int .i64 a, .int .i64 b, .int .i64 d, .int .i64 o] w fun e w' => e = .returned (.int .i64 (firstF a b d o)) ∧ w = w' := by
  go_enter Try.func78, Try.ntmps78
  go_wp2_with (go_at_call 70; refine (is_any _ _ _ _).mono ?_; rintro e w' ⟨rfl, rfl⟩)
  all_goals (go_ret; refine ⟨ret_int ?_, rfl⟩; simp_all [firstF])

def bothF (a b : Int) : Int :=
  if (a == 0 || b == 0) = true then 0 else if (a == 8 || b == 8) = true then 1 else if (a == 1 || b == 1) = true then 1
  else if (a == 2 || b == 2) = true ∧ (a == 3 || b == 3) = true then 1 else if (a == 2 || b == 2) = true then 2 else if (a == 3 || b == 3) = true then 3
  else if a = 4 then b else if b = 4 then a else if (a == 5 || b == 5) = true then 5 else if a = b then a else 5
theorem bothF_fin : ∀ a b : Fin 9, bothF (a.val : Int) b.val = meetF a.val b.val := by decide
theorem bothF_meet {a b : Int} (ha : isVal a = true) (hb : isVal b = true) : bothF a b = meetF a b := by
  obtain ⟨i, rfl⟩ := fin_of ha
  obtain ⟨j, rfl⟩ := fin_of hb
  exact bothF_fin i j
set_option maxHeartbeats 1000000 in
theorem both_any (a b : Int) (w : World) :
    Calls Try.prog 38 #[.int .i64 a, .int .i64 b] w fun e w' => e = .returned (.int .i64 (bothF a b)) ∧ w = w' := by
  go_enter Try.func38, Try.ntmps38
  go_wp2_with (go_at_call 70; refine (is_any _ _ _ _).mono ?_; rintro e w' ⟨rfl, rfl⟩)
  all_goals (go_ret; refine ⟨ret_int ?_, rfl⟩; unfold bothF)
  all_goals (first | (simp_all; done) | grind)

end Go.Proofs.Ytobdhdehmkmjcaa
namespace Go.Proofs.Ytobdhdehmkmjcaa
open Go.RowKit Go.Proofs.YtobdhdehmkmjcaaW.PrintWords Go.Proofs.YtobdhdehmkmjcaaW.PrintLast

theorem strong3 (x y u v z : Int) : strongF x y [u, v, z] = if (x == u || y == u) = true then u else if (x == v || y == v) = true then v else if (x == z || y == z) = true then z else -1 := by
  unfold strongF
  simp only [List.find?_cons, List.find?_nil]
  split
  · rename_i h; rw [if_pos h]; rfl
  · rename_i h
    rw [if_neg (by rw [h]; decide)]
    split
    · rename_i h; rw [if_pos h]; rfl
    · rename_i h
      rw [if_neg (by rw [h]; decide)]
      split
      · rename_i h; rw [if_pos h]; rfl
      · rename_i h; rw [if_neg (by rw [h]; decide)]; rfl
theorem strong2 (x y u v : Int) : strongF x y [u, v] = if (x == u || y == u) = true then u else if (x == v || y == v) = true then v else -1 := by
  unfold strongF
  simp only [List.find?_cons, List.find?_nil]
  split
  · rename_i h; rw [if_pos h]; rfl
  · rename_i h
    rw [if_neg (by rw [h]; decide)]
    split
    · rename_i h; rw [if_pos h]; rfl
    · rename_i h; rw [if_neg (by rw [h]; decide)]; rfl
theorem andF_first (x y : Int) : andF x y = firstF x y 2 3 := by
  unfold andF firstF
  rw [strong3]
  split
  · rfl
  · split
    · rfl
    · split <;> rfl
theorem orF_first (x y : Int) : orF x y = firstF x y 3 2 := by
  unfold orF firstF
  rw [strong3]
  split
  · rfl
  · split
    · rfl
    · split <;> rfl
theorem xorF_first (x y : Int) : xorF x y = if (x == 0 || y == 0) = true then 0 else if (x == 1 || y == 1) = true then 1 else if x = y then 2 else 3 := by
  unfold xorF
  rw [strong2]
  split
  · rfl
  · split <;> rfl

section
variable (A : Option Addr) (c : Nat) (xs : List Int) (w : World)
set_option maxHeartbeats 400000 in
theorem gives1 (hr : ReadsInt w .i64 A 1 xs) : Calls Try.prog 42 #[.int .i64 1, .slice A 1 c] w fun e w' => e = .returned (.int .i64 (gateVal 1 xs)) ∧ w = w' := by
  show Calls Try.prog 42 _ w fun e w' => e = .returned (.int .i64 (notF (to01 (xs.getD 0 0)))) ∧ w = w'
  obtain ⟨ad, rfl, h0⟩ := rd0 hr (by omega)
  generalize xs.getD 0 0 = p at *
  go_enter Try.func42, Try.ntmps42
  go_wp2_with (first | (go_at_call 45; refine (refTo01_any _ _).mono ?_; rintro e w' ⟨rfl, rfl⟩) | (go_at_call 77; refine (turned_any _ _).mono ?_; rintro e w' ⟨rfl, rfl⟩))
  go_ret
  exact ⟨rfl, rfl⟩
set_option maxHeartbeats 400000 in
theorem gives2 (hr : ReadsInt w .i64 A 1 xs) : Calls Try.prog 42 #[.int .i64 2, .slice A 1 c] w fun e w' => e = .returned (.int .i64 (gateVal 2 xs)) ∧ w = w' := by
  show Calls Try.prog 42 _ w fun e w' => e = .returned (.int .i64 (xs.getD 0 0)) ∧ w = w'
  obtain ⟨ad, rfl, h0⟩ := rd0 hr (by omega)
  generalize xs.getD 0 0 = p at *
  go_enter Try.func42, Try.ntmps42
  go_wp2
  go_ret
  exact ⟨rfl, rfl⟩
set_option maxHeartbeats 400000 in
theorem gives3 (hr : ReadsInt w .i64 A 2 xs) : Calls Try.prog 42 #[.int .i64 3, .slice A 2 c] w fun e w' => e = .returned (.int .i64 (gateVal 3 xs)) ∧ w = w' := by
  show Calls Try.prog 42 _ w fun e w' => e = .returned (.int .i64 (andF (to01 (xs.getD 0 0)) (to01 (xs.getD 1 0)))) ∧ w = w'
  rw [andF_first]
  obtain ⟨ad, rfl, h0⟩ := rd0 hr (by omega)
  obtain ⟨ad', h1', h1⟩ := rd1 hr (by omega)
  injection h1' with h1'
  subst h1'
  generalize xs.getD 0 0 = p at *
  generalize xs.getD 1 0 = q at *
  go_enter Try.func42, Try.ntmps42
  go_wp2_with (first | (go_at_call 45; refine (refTo01_any _ _).mono ?_; rintro e w' ⟨rfl, rfl⟩) | (go_at_call 78; refine (first_any _ _ _ _ _).mono ?_; rintro e w' ⟨rfl, rfl⟩))
  go_ret
  exact ⟨rfl, rfl⟩
set_option maxHeartbeats 400000 in
theorem gives4 (hr : ReadsInt w .i64 A 2 xs) : Calls Try.prog 42 #[.int .i64 4, .slice A 2 c] w fun e w' => e = .returned (.int .i64 (gateVal 4 xs)) ∧ w = w' := by
  show Calls Try.prog 42 _ w fun e w' => e = .returned (.int .i64 (orF (to01 (xs.getD 0 0)) (to01 (xs.getD 1 0)))) ∧ w = w'
  rw [orF_first]
  obtain ⟨ad, rfl, h0⟩ := rd0 hr (by omega)
  obtain ⟨ad', h1', h1⟩ := rd1 hr (by omega)
  injection h1' with h1'
  subst h1'
  generalize xs.getD 0 0 = p at *
  generalize xs.getD 1 0 = q at *
  go_enter Try.func42, Try.ntmps42
  go_wp2_with (first | (go_at_call 45; refine (refTo01_any _ _).mono ?_; rintro e w' ⟨rfl, rfl⟩) | (go_at_call 78; refine (first_any _ _ _ _ _).mono ?_; rintro e w' ⟨rfl, rfl⟩))
  go_ret
  exact ⟨rfl, rfl⟩
set_option maxHeartbeats 400000 in
theorem gives5 (hr : ReadsInt w .i64 A 2 xs) : Calls Try.prog 42 #[.int .i64 5, .slice A 2 c] w fun e w' => e = .returned (.int .i64 (gateVal 5 xs)) ∧ w = w' := by
  show Calls Try.prog 42 _ w fun e w' => e = .returned (.int .i64 (xorF (to01 (xs.getD 0 0)) (to01 (xs.getD 1 0)))) ∧ w = w'
  rw [xorF_first]
  obtain ⟨ad, rfl, h0⟩ := rd0 hr (by omega)
  obtain ⟨ad', h1', h1⟩ := rd1 hr (by omega)
  injection h1' with h1'
  subst h1'
  generalize xs.getD 0 0 = p at *
  generalize xs.getD 1 0 = q at *
  generalize hx : to01 p = x
  generalize hy : to01 q = y
  have HX := Lib.hid hx; clear hx
  have HY := Lib.hid hy; clear hy
  go_enter Try.func42, Try.ntmps42
  go_wp2_with (first | (go_at_call 45; refine (refTo01_any _ _).mono ?_; rintro e w' ⟨rfl, rfl⟩; first | rw [HX.out] | rw [HY.out]) | (go_at_call 70; refine (is_any _ _ _ _).mono ?_; rintro e w' ⟨rfl, rfl⟩))
  all_goals (go_ret; refine ⟨ret_int ?_, rfl⟩; simp_all)
set_option maxHeartbeats 400000 in
theorem gives6 (hr : ReadsInt w .i64 A 2 xs) : Calls Try.prog 42 #[.int .i64 6, .slice A 2 c] w fun e w' => e = .returned (.int .i64 (gateVal 6 xs)) ∧ w = w' := by
  show Calls Try.prog 42 _ w fun e w' => e = .returned (.int .i64 (triF (to01 (xs.getD 0 0)) (to01 (xs.getD 1 0)))) ∧ w = w'
  obtain ⟨ad, rfl, h0⟩ := rd0 hr (by omega)
  obtain ⟨ad', h1', h1⟩ := rd1 hr (by omega)
  injection h1' with h1'
  subst h1'
  generalize xs.getD 0 0 = p at *
  generalize xs.getD 1 0 = q at *
  go_enter Try.func42, Try.ntmps42
  go_wp2_with (go_at_call 45; refine (refTo01_any _ _).mono ?_; rintro e w' ⟨rfl, rfl⟩)
  all_goals (go_ret; refine ⟨ret_int ?_, rfl⟩; simp_all [triF])
theorem gives_any (n : Nat) (k : Int) (hr : ReadsInt w .i64 A n xs) (h0 : k ≠ 0) (hk : (n : Int) = inputsF k) : Calls Try.prog 42 #[.int .i64 k, .slice A n c] w fun e w' => e = .returned (.int .i64 (gateVal k xs)) ∧ w = w' := by
  rcases inputs_kind h0 hk with ⟨rfl, rfl⟩ | ⟨rfl, rfl⟩ | ⟨rfl, rfl⟩ | ⟨rfl, rfl⟩ | ⟨rfl, rfl⟩ | ⟨rfl, rfl⟩
  · exact gives1 A c xs w hr
  · exact gives2 A c xs w hr
  · exact gives3 A c xs w hr
  · exact gives4 A c xs w hr
  · exact gives5 A c xs w hr
  · exact gives6 A c xs w hr
end

end Go.Proofs.Ytobdhdehmkmjcaa
namespace Go.Proofs.Ytobdhdehmkmjcaa
open Go.RowKit Go.Proofs.YtobdhdehmkmjcaaW.PrintWords Go.Proofs.YtobdhdehmkmjcaaW.PrintLast

def letterL : List UInt8 := [85, 88, 48, 49, 90, 87, 76, 72, 45]
end Go.Proofs.Ytobdhdehmkmjcaa
namespace Go.Proofs.Ytobdhdehmkmjcaa
open Go.RowKit Go.Proofs.YtobdhdehmkmjcaaW.PrintWords Go.Proofs.YtobdhdehmkmjcaaW.PrintLast

def vOf (x : Int) : Int := if x = 85 then 0 else if x = 88 then 1 else if x = 48 then 2 else if x = 49 then 3 else if x = 90 then 4 else if x = 87 then 5 else if x = 76 then 6 else if x = 72 then 7 else if x = 45 then 8 else -1
def vB (c : UInt8) : Int := vOf c.toNat
def NotTo (x : Int) (k : Nat) : Prop := (0 < k → x ≠ 85) ∧ (1 < k → x ≠ 88) ∧ (2 < k → x ≠ 48) ∧ (3 < k → x ≠ 49) ∧ (4 < k → x ≠ 90) ∧ (5 < k → x ≠ 87) ∧ (6 < k → x ≠ 76) ∧ (7 < k → x ≠ 72) ∧ (8 < k → x ≠ 45)
def letNum (k : Nat) : Int := (letterL.getD k 0).toNat
theorem NotTo.succ {x : Int} {k : Nat} (h : NotTo x k) (hk : k < 9) (hne : letNum k ≠ x) : NotTo x (k + 1) := by
  have : k = 0 ∨ k = 1 ∨ k = 2 ∨ k = 3 ∨ k = 4 ∨ k = 5 ∨ k = 6 ∨ k = 7 ∨ k = 8 := by omega
  rcases this with rfl | rfl | rfl | rfl | rfl | rfl | rfl | rfl | rfl <;> (simp [letNum, letterL] at hne; simp_all [NotTo]; try omega)
theorem NotTo.at_ {x : Int} {k : Nat} (h : NotTo x k) (hk : k < 9) (he : letNum k = x) : vOf x = k := by
  have : k = 0 ∨ k = 1 ∨ k = 2 ∨ k = 3 ∨ k = 4 ∨ k = 5 ∨ k = 6 ∨ k = 7 ∨ k = 8 := by omega
  subst he
  rcases this with rfl | rfl | rfl | rfl | rfl | rfl | rfl | rfl | rfl <;> decide
theorem NotTo.all {x : Int} (h : NotTo x 9) : vOf x = -1 := by
  simp [NotTo] at h
  simp [vOf, h]
/-- How Parse answers: the values so far, or the first byte that is none. -/
def ParseTo (l : List UInt8) (r : List Int) (pos err : Int) : Prop :=
  (64 < l.length ∧ r = [] ∧ pos = 0 ∧ err = 3) ∨
  (l.length ≤ 64 ∧ ∃ k : Nat, k < l.length ∧ (∀ j, j < k → vOf (l.getD j 0).toNat ≠ -1) ∧ vOf (l.getD k 0).toNat = -1 ∧ r = [] ∧ pos = k ∧ err = 2) ∨
  (l.length ≤ 64 ∧ (∀ j, j < l.length → vOf (l.getD j 0).toNat ≠ -1) ∧ r = l.map vB ∧ pos = 0 ∧ err = 0)
theorem ParseTo.one {l : List UInt8} {r r' : List Int} {pos pos' err err' : Int} (h : ParseTo l r pos err) (h' : ParseTo l r' pos' err') : r = r' ∧ pos = pos' ∧ err = err' := by
  rcases h with ⟨h1, rfl, rfl, rfl⟩ | ⟨h1, k, h2, h3, h4, rfl, rfl, rfl⟩ | ⟨h1, h2, rfl, rfl, rfl⟩ <;> rcases h' with ⟨g1, rfl, rfl, rfl⟩ | ⟨g1, k', g2, g3, g4, rfl, rfl, rfl⟩ | ⟨g1, g2, rfl, rfl, rfl⟩
  all_goals first
    | exact ⟨rfl, rfl, rfl⟩
    | omega
    | (exact absurd h4 (g2 k h2))
    | (exact absurd g4 (h2 k' g2))
    | (have : k = k' := by
        rcases Nat.lt_trichotomy k k' with h | h | h
        · exact absurd h4 (g3 k h)
        · exact h
        · exact absurd g4 (h3 k' h)
       subst this; exact ⟨rfl, rfl, rfl⟩)
end Go.Proofs.Ytobdhdehmkmjcaa
namespace Go.Proofs.Ytobdhdehmkmjcaa
open Go.RowKit Go.Proofs.YtobdhdehmkmjcaaW.PrintWords Go.Proofs.YtobdhdehmkmjcaaW.PrintLast

def sameB (xs ys : List Int) : Bool := decide (xs = ys)
theorem take_eq_succ {xs ys : List Int} {k : Nat} (hx : k < xs.length) (hy : k < ys.length) (h : xs.take k = ys.take k) (he : xs.getD k 0 = ys.getD k 0) : xs.take (k + 1) = ys.take (k + 1) := by
  rw [List.take_succ_eq_append_getElem hx, List.take_succ_eq_append_getElem hy, h]
  rw [List.getD_eq_getElem?_getD, List.getElem?_eq_getElem hx, List.getD_eq_getElem?_getD, List.getElem?_eq_getElem hy] at he
  simp at he
  rw [he]
theorem sameB_ne {xs ys : List Int} {k : Nat} (he : xs.getD k 0 ≠ ys.getD k 0) : sameB xs ys = false := by
  unfold sameB
  rw [decide_eq_false_iff_not]
  rintro rfl
  exact he rfl
theorem sameB_end {xs ys : List Int} {k : Nat} (hx : k ≤ xs.length) (_hy : k ≤ ys.length) (h : xs.take k = ys.take k) (hend : k = xs.length ∨ k = ys.length) : sameB xs ys = decide (xs.length = ys.length) := by
  unfold sameB
  by_cases e : xs.length = ys.length
  · have hk : k = xs.length ∧ k = ys.length := by omega
    rw [List.take_of_length_le (by omega), List.take_of_length_le (by omega)] at h
    rw [h]
    simp
  · rw [decide_eq_false e, decide_eq_false]
    exact fun h => e (by rw [h])

set_option maxHeartbeats 1000000 in
theorem same_any (A B : Option Addr) (n c m d : Nat) (xs ys : List Int) (w : World) (hx : ReadsInt w .i64 A n xs) (hy : ReadsInt w .i64 B m ys) :
    Calls Try.prog 21 #[.slice A n c, .slice B m d] w fun e w' => e = .returned (.bool (sameB xs ys)) ∧ ∃ q, w' = w.drewN q := by
  have hm1 := hx.2.1
  have hm2 := hy.2.1
  have HL1 := Lib.hid hx.1
  have HL2 := Lib.hid hy.1
  go_enter Try.func21, Try.ntmps21
  go_wp2
  go_loopw [5] (fun i wr => ∃ k : Nat, k ≤ n ∧ k ≤ m ∧ i = .int .i64 k ∧ Hid (xs.take k = ys.take k) ∧ ∃ q, wr = w.drewN q) (fun i _ => n - (intOf i).toNat)
  case atStart => exact ⟨0, by omega, by omega, rfl, rfl, 0, rfl⟩
  case round =>
    obtain ⟨k, hk1, hk2, rfl, hT, q, rfl⟩ := hrel
    by_cases h1 : k < n
    · by_cases h2 : k < m
      · obtain ⟨ad, rfl, hc1⟩ := rdN hx k h1
        obtain ⟨bd, rfl, hc2⟩ := rdN hy k h2
        have hs := fun he => take_eq_succ (xs := xs) (ys := ys) (k := k) (by rw [HL1.out]; exact h1) (by rw [HL2.out]; exact h2) hT.out he
        have hn := fun he => sameB_ne (xs := xs) (ys := ys) (k := k) he
        have HS := Lib.hid hs; clear hs
        have HN := Lib.hid hn; clear hn
        generalize xs.getD k 0 = x at *
        generalize ys.getD k 0 = y at *
        by_cases he : x = y
        · subst he
          go_wp2
          go_quiet (fail)
          go_wp2
          go_roundw
          case rel => exact ⟨k + 1, by omega, by omega, by go_num, by first | exact HS.out rfl | exact HS.out trivial, q + nq, by first | rfl | rw [World.drewN_drewN]⟩
          case measure => simp [intOf]; omega
        · have hb : (x != y) = true := by simpa using he
          go_wp2
          go_quiet (fail)
          go_wp2
          go_ret
          exact ⟨ret_bool (HN.out he).symm, q + nq, by first | rfl | rw [World.drewN_drewN]⟩
      · have hend := sameB_end (xs := xs) (ys := ys) (k := k) (by rw [HL1.out]; exact hk1) (by rw [HL2.out]; exact hk2) hT.out (.inr (by rw [HL2.out]; omega))
        have HE := Lib.hid hend; clear hend
        have hne : ((n : Int) == (m : Int)) = false := by simp; omega
        go_wp2
        go_ret
        exact ⟨ret_bool (by rw [HE.out, HL1.out, HL2.out, decide_eq_false (by omega)]), _, rfl⟩
    · have hend := sameB_end (xs := xs) (ys := ys) (k := k) (by rw [HL1.out]; exact hk1) (by rw [HL2.out]; exact hk2) hT.out (.inl (by rw [HL1.out]; omega))
      have HE := Lib.hid hend; clear hend
      go_wp2
      go_ret
      refine ⟨ret_bool ?_, _, rfl⟩
      rw [HE.out, HL1.out, HL2.out]
      by_cases e : n = m
      · subst e; simp
      · rw [decide_eq_false e]; simp; omega

end Go.Proofs.Ytobdhdehmkmjcaa
namespace Go.Proofs.Ytobdhdehmkmjcaa
open Go.RowKit Go.Proofs.YtobdhdehmkmjcaaW.PrintWords Go.Proofs.YtobdhdehmkmjcaaW.PrintLast

theorem cell_spot {w : World} {ad : Addr} {v : Value} (h : w.cell? ad = some v) : ad = ⟨ad.block, ad.off, none⟩ := by
  cases ad with
  | mk b o s =>
    cases s with
    | none => rfl
    | some s =>
      unfold World.cell? at h
      split at h
      · simp at h
      · cases h
theorem reads_at {w : World} {k : IntKind} {A : Option Addr} {n : Nat} {xs : List Int} (h : ReadsInt w k A n xs) (hn : 0 < n) : ∃ b o, A = some ⟨b, o, none⟩ ∧ ∀ j, j < xs.length → w.cell? ⟨b, o + j, none⟩ = some (.int k (xs.getD j 0)) := by
  obtain ⟨ad, rfl, hc⟩ := h.2.2 hn
  have h0 := hc 0 hn
  have hs := cell_spot (show w.cell? ad = _ from h0)
  refine ⟨ad.block, ad.off, congrArg some hs, fun j hj => ?_⟩
  have := hc j (by rw [← h.1]; exact hj)
  rw [hs] at this
  unfold Addr.add at this
  split at this
  · subst_vars; exact this
  · exact this
theorem clone_any (A : Option Addr) (n c : Nat) (xs : List Int) (w : World) (hr : ReadsInt w .i64 A n xs) (hn : 0 < n) (hb : n * 8 ≤ 140737488355328) :
    Calls Try.prog 60 #[.slice A n c] w fun e w' => ∃ v', e = .returned v' ∧ w'.ownsRow w.heap.size 3 1 v' n (nums .i64 xs) ∧ Below w.heap.size w w' := by
  obtain ⟨b, o, rfl, hc⟩ := reads_at hr hn
  have hl := hr.1
  refine (Try.slices_Clone_int b o n c xs w (by omega) hb hc).mono ?_
  rintro e w' ⟨v', rfl, h1, _, h2⟩
  rw [List.take_of_length_le (by omega)] at h1
  exact ⟨v', rfl, h1, h2⟩
theorem equal_any (A B : Option Addr) (n c m d : Nat) (xs ys : List Int) (w : World) (hx : ReadsInt w .i64 A n xs) (hy : ReadsInt w .i64 B m ys) :
    Calls Try.prog 84 #[.slice A n c, .slice B m d] w fun e w' => e = .returned (.bool (sameB xs ys)) ∧ ∃ q, w' = w.drewN q := by
  have h1 := hx.1
  have h2 := hy.1
  by_cases hnm : n = m
  · subst hnm
    rcases Nat.eq_zero_or_pos n with rfl | hn
    · refine (Try.slices_Equal_int_empty A B c 0 d w (by omega)).mono ?_
      rintro e w' ⟨rfl, rfl⟩
      have e1 : xs = [] := List.eq_nil_of_length_eq_zero h1
      have e2 : ys = [] := List.eq_nil_of_length_eq_zero h2
      subst e1 e2
      exact ⟨rfl, 0, rfl⟩
    · obtain ⟨b1, o1, rfl, c1⟩ := reads_at hx hn
      obtain ⟨b2, o2, rfl, c2⟩ := reads_at hy hn
      refine (Try.slices_Equal_int b1 o1 n c b2 o2 n d xs ys w (by omega) (by omega) hx.2.1 hy.2.1 c1 c2).mono ?_
      rintro e w' ⟨rfl, q, rfl⟩
      rw [List.take_of_length_le (by omega), List.take_of_length_le (by omega)]
      refine ⟨ret_bool ?_, q, rfl⟩
      unfold sameB
      by_cases e : xs = ys <;> simp [e]
  · refine (Try.slices_Equal_int_lens A B n c m d w hnm).mono ?_
    rintro e w' ⟨rfl, rfl⟩
    refine ⟨ret_bool ?_, 0, rfl⟩
    unfold sameB
    rw [decide_eq_false]
    exact fun e => hnm (by rw [← h1, ← h2, e])

/-- A gate as data. -/
structure GateL where
  kind : Int
  ins : List Int
  out : Int
  delay : Int
def RdGate (w : World) (ad : Addr) (g : GateL) : Prop :=
  w.cell? ad = some (.int .i64 g.kind) ∧ (∃ A c, w.cell? ⟨ad.block, ad.off + 1, none⟩ = some (.slice A g.ins.length c) ∧ ReadsInt w .i64 A g.ins.length g.ins ∧ g.ins.length ≤ c) ∧ w.cell? ⟨ad.block, ad.off + 2, none⟩ = some (.int .i64 g.out) ∧ w.cell? ⟨ad.block, ad.off + 3, none⟩ = some (.int .i64 g.delay)
def zGate : GateL := ⟨0, [], 0, 0⟩
def RdGates (w : World) (A : Option Addr) (n : Nat) (gs : List GateL) : Prop :=
  gs.length = n ∧ n ≤ 9223372036854775807 ∧ (0 < n → ∃ ad, A = some ad ∧ ∀ i, i < n → RdGate w (ad.add (i * 4)) (gs.getD i zGate))
theorem RdGate.below {w w1 : World} {ad : Addr} {g : GateL} (h : RdGate w ad g) (hb : Below w.heap.size w w1) : RdGate w1 ad g := by
  obtain ⟨h1, ⟨A, c, h2, h3, h4⟩, h5, h6⟩ := h
  exact ⟨pw_cell_below hb h1, ⟨A, c, pw_cell_below hb h2, h3.below hb, h4⟩, pw_cell_below hb h5, pw_cell_below hb h6⟩
theorem RdGates.below {w w1 : World} {A : Option Addr} {n : Nat} {gs : List GateL} (h : RdGates w A n gs) (hb : Below w.heap.size w w1) : RdGates w1 A n gs :=
  ⟨h.1, h.2.1, fun hn => by
    obtain ⟨ad, e, hc⟩ := h.2.2 hn
    exact ⟨ad, e, fun i hi => (hc i hi).below hb⟩⟩
theorem RdGates.at_ {w : World} {A : Option Addr} {n : Nat} {gs : List GateL} (h : RdGates w A n gs) (i : Nat) (hi : i < n) : ∃ ad, A = some ad ∧ RdGate w (ad.add (i * 4)) (gs.getD i zGate) := by
  obtain ⟨ad, e, hc⟩ := h.2.2 (by omega)
  exact ⟨ad, e, hc i hi⟩

def gateOk (nets : Int) (g : GateL) : Bool :=
  decide ((g.ins.length : Int) = inputsF g.kind) && decide (0 ≤ g.out) && decide (g.out < nets) && decide (0 ≤ g.delay) && decide (g.delay ≤ 20) &&
    g.ins.all (fun n => if g.kind = 0 then isVal n else decide (0 ≤ n) && decide (n < nets))
def validF (nets : Int) (gs : List GateL) : Int := if 40 < nets ∨ 60 < gs.length then 3 else if nets < 1 then 1 else if gs.all (gateOk nets) then 0 else 1
end Go.Proofs.Ytobdhdehmkmjcaa
