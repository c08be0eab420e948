/- Lists held against each other; the walk of LogicResolves. -/
import Derived.Test.YtobdhdehmkmjcaaO
namespace Go.Proofs.Ytobdhdehmkmjcaa
open Go.RowKit Go.Proofs.YtobdhdehmkmjcaaW.PrintWords Go.Proofs.YtobdhdehmkmjcaaW.PrintLast

def sameB (xs ys : List Int) : Bool := decide (xs = ys)
theorem take_eq_succ {xs ys : List Int} {k : Nat} (hx : k < xs.length) (hy : k < ys.length) (h : xs.take k = ys.take k) (he : xs.getD k 0 = ys.getD k 0) : xs.take (k + 1) = ys.take (k + 1) := by
  rw [List.take_succ_eq_append_getElem hx, List.take_succ_eq_append_getElem hy, h]
  rw [List.getD_eq_getElem?_getD, List.getElem?_eq_getElem hx, List.getD_eq_getElem?_getD, List.getElem?_eq_getElem hy] at he
  simp at he
  rw [he]
theorem sameB_ne {xs ys : List Int} {k : Nat} (he : xs.getD k 0 ≠ ys.getD k 0) : sameB xs ys = false := by
  unfold sameB
  rw [decide_eq_false_iff_not]
  rintro rfl
  exact he rfl
theorem sameB_end {xs ys : List Int} {k : Nat} (hx : k ≤ xs.length) (_hy : k ≤ ys.length) (h : xs.take k = ys.take k) (hend : k = xs.length ∨ k = ys.length) : sameB xs ys = decide (xs.length = ys.length) := by
  unfold sameB
  by_cases e : xs.length = ys.length
  · have hk : k = xs.length ∧ k = ys.length := by omega
    rw [List.take_of_length_le (by omega), List.take_of_length_le (by omega)] at h
    rw [h]
    simp
  · rw [decide_eq_false e, decide_eq_false]
    exact fun h => e (by rw [h])

set_option maxHeartbeats 1000000 in
theorem same_any (A B : Option Addr) (n c m d : Nat) (xs ys : List Int) (w : World) (hx : ReadsInt w .i64 A n xs) (hy : ReadsInt w .i64 B m ys) :
    Calls Try.prog 21 #[.slice A n c, .slice B m d] w fun e w' => e = .returned (.bool (sameB xs ys)) ∧ ∃ q, w' = w.drewN q := by
  have hm1 := hx.2.1
  have hm2 := hy.2.1
  have HL1 := Lib.hid hx.1
  have HL2 := Lib.hid hy.1
  go_enter Try.func21, Try.ntmps21
  go_wp2
  go_loopw [5] (fun i wr => ∃ k : Nat, k ≤ n ∧ k ≤ m ∧ i = .int .i64 k ∧ Hid (xs.take k = ys.take k) ∧ ∃ q, wr = w.drewN q) (fun i _ => n - (intOf i).toNat)
  case atStart => exact ⟨0, by omega, by omega, rfl, rfl, 0, rfl⟩
  case round =>
    obtain ⟨k, hk1, hk2, rfl, hT, q, rfl⟩ := hrel
    by_cases h1 : k < n
    · by_cases h2 : k < m
      · obtain ⟨ad, rfl, hc1⟩ := rdN hx k h1
        obtain ⟨bd, rfl, hc2⟩ := rdN hy k h2
        have hs := fun he => take_eq_succ (xs := xs) (ys := ys) (k := k) (by rw [HL1.out]; exact h1) (by rw [HL2.out]; exact h2) hT.out he
        have hn := fun he => sameB_ne (xs := xs) (ys := ys) (k := k) he
        have HS := Lib.hid hs; clear hs
        have HN := Lib.hid hn; clear hn
        generalize xs.getD k 0 = x at *
        generalize ys.getD k 0 = y at *
        by_cases he : x = y
        · subst he
          go_wp2
          go_quiet (fail)
          go_wp2
          go_roundw
          case rel => exact ⟨k + 1, by omega, by omega, by go_num, by first | exact HS.out rfl | exact HS.out trivial, q + nq, by first | rfl | rw [World.drewN_drewN]⟩
          case measure => simp [intOf]; omega
        · have hb : (x != y) = true := by simpa using he
          go_wp2
          go_quiet (fail)
          go_wp2
          go_ret
          exact ⟨ret_bool (HN.out he).symm, q + nq, by first | rfl | rw [World.drewN_drewN]⟩
      · have hend := sameB_end (xs := xs) (ys := ys) (k := k) (by rw [HL1.out]; exact hk1) (by rw [HL2.out]; exact hk2) hT.out (.inr (by rw [HL2.out]; omega))
        have HE := Lib.hid hend; clear hend
        have hne : ((n : Int) == (m : Int)) = false := by simp; omega
        go_wp2
        go_ret
        exact ⟨ret_bool (by rw [HE.out, HL1.out, HL2.out, decide_eq_false (by omega)]), _, rfl⟩
    · have hend := sameB_end (xs := xs) (ys := ys) (k := k) (by rw [HL1.out]; exact hk1) (by rw [HL2.out]; exact hk2) hT.out (.inl (by rw [HL1.out]; omega))
      have HE := Lib.hid hend; clear hend
      go_wp2
      go_ret
      refine ⟨ret_bool ?_, _, rfl⟩
      rw [HE.out, HL1.out, HL2.out]
      by_cases e : n = m
      · subst e; simp
      · rw [decide_eq_false e]; simp; omega

set_option maxHeartbeats 2000000 in
set_option maxRecDepth 100000 in
theorem resolves_any (A : Option Addr) (n c : Nat) (l : List Int) (kind : Int) (s : ByteArray) (x y : Int) (w : World) (hr : ReadsInt w .i64 A n l) (hs : s.size ≤ 140737488351232) :
    Calls Try.prog 4 #[.slice A n c, .int .i64 kind, .string s, .int .i64 x, .int .i64 y] w fun e w' => e = .returned (.bool true) ∧ Below w.heap.size w w' := by
  go_enter Try.func4, Try.ntmps4
  have HR := Lib.hid hr; clear hr
  have HSZ := Lib.hid hs; clear hs
  go_wp2_with fail
  refine (resolve_any _ _ _ _ _ HR.out).mono ?_
  rintro e w1 ⟨rfl, hb⟩
  have HR1 := Lib.hid (HR.out.below hb); clear HR
  have HB := Lib.hid hb; clear hb
  go_wp2_with fail
  refine (refResolve_any _ _ _ _ _ HR1.out).mono ?_
  rintro e w' ⟨rfl, rfl⟩
  generalize (resolveF l).1 = r1
  generalize (resolveF l).2 = r2
  go_wp2_with fail
  refine (gate_any _ _ _ _ _ _ HR1.out).mono ?_
  rintro e w2 ⟨rfl, hb⟩
  have HR2 := Lib.hid (HR1.out.below hb); clear HR1
  have HB2 := Lib.hid (HB.out.trans (hb.mono HB.out.size)); clear HB hb
  go_wp2_with fail
  refine (refGate_any _ _ _ _ _ _ HR2.out).mono ?_
  rintro e w' ⟨rfl, rfl⟩
  generalize (gateF kind l).1 = g1
  generalize (gateF kind l).2 = g2
  go_wp2_with fail
  refine (sure_any _ _ _).mono ?_
  rintro e w' ⟨rfl, rfl⟩
  go_wp2_with fail
  refine (refSure_any _ _ _).mono ?_
  rintro e w3 ⟨rfl, hb⟩
  have HR3 := Lib.hid (HR2.out.below hb); clear HR2
  have HB3 := Lib.hid (HB2.out.trans (hb.mono HB2.out.size)); clear HB2 hb
  generalize (sureF x y).1 = s1
  generalize (sureF x y).2 = s2
  go_wp2_with fail
  refine (text_any _ _ _ _ _ HR3.out).mono ?_
  rintro e w4 ⟨rfl, hb⟩
  have HR4 := Lib.hid (HR3.out.below hb); clear HR3
  have HB4 := Lib.hid (HB3.out.trans (hb.mono HB3.out.size)); clear HB3 hb
  go_wp2_with fail
  refine (refText_any _ _ _ _ _ HR4.out).mono ?_
  rintro e w' ⟨rfl, q, rfl⟩
  have HB5 : Hid (Below w.heap.size w (w4.drewN q)) := pw_below_drewN HB4.out q
  clear HB4 HR4
  generalize textS l = t1
  generalize valuesF l = t2
  go_wp2_with fail
  refine (parse_any _ _ HSZ.out).mono ?_
  rintro e w5 ⟨v1, p1, q1, e1, rfl, hp1, ⟨A1, n1, c1, rfl, hr1⟩, hb⟩
  have HP1 := Lib.hid hp1; clear hp1
  have HV1 := Lib.hid hr1; clear hr1
  have HB6 := Lib.hid (HB5.out.trans (hb.mono HB5.out.size)); clear HB5 hb
  go_wp2_with fail
  refine (refParse_any _ _ HSZ.out).mono ?_
  rintro e w6 ⟨v2, p2, q2, e2, rfl, hp2, ⟨A2, n2, c2, rfl, hr2⟩, hb⟩
  obtain ⟨rfl, rfl, rfl⟩ := ParseTo.one HP1.out hp2
  clear hp2 HP1
  have HV2 := Lib.hid hr2; clear hr2
  have HV1' := Lib.hid (HV1.out.below hb); clear HV1
  have HB7 := Lib.hid (HB6.out.trans (hb.mono HB6.out.size)); clear HB6 hb
  go_wp2_with fail
  refine (same_any _ _ _ _ _ _ _ _ _ HV1'.out HV2.out).mono ?_
  rintro e w' ⟨rfl, q, rfl⟩
  have hsame : sameB p1 p1 = true := by simp [sameB]
  rw [hsame]
  clear hsame
  have HB8 : Hid (Below w.heap.size w (w6.drewN q)) := pw_below_drewN HB7.out q
  go_wp2_with fail
  refine (known_any _).mono ?_
  rintro e w7 ⟨rfl, hb⟩
  have HB9 := Lib.hid (HB8.out.trans (hb.mono HB8.out.size)); clear HB8 hb
  go_wp2
  go_ret
  exact ⟨rfl, HB9.out⟩
end Go.Proofs.Ytobdhdehmkmjcaa
