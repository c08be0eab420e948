/- The gates. -/
import Derived.Test.YtobdhdehmkmjcaaD
namespace Go.Proofs.Ytobdhdehmkmjcaa
open Go.RowKit Go.Proofs.YtobdhdehmkmjcaaW.PrintWords

def strongF (x y : Int) (l : List Int) : Int := (l.find? fun v => x == v || y == v).getD (-1)
theorem strongF_none {x y : Int} {l : List Int} (h : l.all (fun v => !(x == v || y == v)) = true) : strongF x y l = -1 := by
  unfold strongF
  rw [List.find?_eq_none.2]
  · rfl
  · intro v hv
    have := List.all_eq_true.1 h v hv
    simpa using this
theorem strongF_at {x y : Int} {l : List Int} {k : Nat} (hk : k < l.length) (h : (l.take k).all (fun v => !(x == v || y == v)) = true) (hb : (x == l.getD k 0 || y == l.getD k 0) = true) : strongF x y l = l.getD k 0 := by
  have e : l = l.take k ++ (l.getD k 0 :: l.drop (k + 1)) := by rw [List.getD_eq_getElem?_getD, List.getElem?_eq_getElem hk]; simp
  generalize l.getD k 0 = z at *
  have hf : l.find? (fun v => x == v || y == v) = some z := by
    rw [e, List.find?_append, List.find?_eq_none.2 (fun v hv => by simpa using List.all_eq_true.1 h v hv)]
    simp [hb]
  unfold strongF
  rw [hf]
  rfl

theorem rd0 {w : World} {k : IntKind} {A : Option Addr} {n : Nat} {xs : List Int} (h : ReadsInt w k A n xs) (hi : 0 < n) : ∃ ad, A = some ad ∧ w.cell? ad = some (.int k (xs.getD 0 0)) := rdN h 0 hi
theorem rd1 {w : World} {k : IntKind} {A : Option Addr} {n : Nat} {xs : List Int} (h : ReadsInt w k A n xs) (hi : 1 < n) : ∃ ad, A = some ad ∧ w.cell? ⟨ad.block, ad.off + 1, none⟩ = some (.int k (xs.getD 1 0)) := rdN h 1 hi
/-- A slice of numbers that was just written out. -/
theorem readsLit (w : World) (t : TypeId) (xs : List Int) (cs : Array Value) (g n : Nat) (hg : g = w.heap.size) (hn : n = xs.length) (hc : cs = (xs.map (Value.int .i64)).toArray) (hm : n ≤ 9223372036854775807) :
    ReadsInt (w.alloc (.cells cs t)) .i64 (some ⟨g, 0, none⟩) n xs := by
  subst hg hn hc
  refine ⟨rfl, hm, fun _ => ⟨_, rfl, fun j hj => ?_⟩⟩
  rw [add_plain, blk_cell (blk_new w _)]
  simp [List.getD_eq_getElem?_getD, List.getElem?_eq_getElem hj]
/-- The world in which a gate's methods look at their inputs. -/
abbrev gw (w : World) (A : Option Addr) (n c : Nat) : World := w.alloc (.cells #[.slice A n c] 71)
theorem gw_below (w : World) (A : Option Addr) (n c : Nat) : Below w.heap.size w (gw w A n c) := (Below.refl _ _).alloc (Nat.le_refl _) _

set_option maxHeartbeats 400000 in
theorem strong_any (A B : Option Addr) (n c m d : Nat) (xs l : List Int) (w : World) (hr : ReadsInt w .i64 A n xs) (h2 : 2 ≤ n) (hl : ReadsInt w .i64 B m l) :
    Calls Try.prog 98 #[.agg #[.slice A n c], .slice B m d] w fun e w' => e = .returned (.int .i64 (strongF (to01 (xs.getD 0 0)) (to01 (xs.getD 1 0)) l)) ∧ Below w.heap.size w w' := by
  have hB := gw_below w A n c
  obtain ⟨ad, rfl, h0⟩ := rd0 (hr.below hB) (by omega)
  obtain ⟨ad', h1', h1⟩ := rd1 (hr.below hB) (by omega)
  injection h1' with h1'
  subst h1'
  have hn := hr.2.1
  have hm := hl.2.1
  have HL := Lib.hid hl.1
  have HLr := Lib.hid (hl.below hB); clear hl
  have HB := Lib.hid hB; clear hB
  generalize xs.getD 0 0 = p at *
  generalize xs.getD 1 0 = q at *
  clear hr
  unfold gw at h0 h1 HLr HB
  go_enter Try.func98, Try.ntmps98
  go_wp2
  go_loop [9] (fun i => ∃ k : Nat, k ≤ m ∧ i = .int .i64 k ∧ (l.take k).all (fun v => !(to01 p == v || to01 q == v)) = true) (fun i => m - (intOf i).toNat)
  case atStart => exact ⟨0, by omega, rfl, by simp⟩
  case round =>
    obtain ⟨k, hk, rfl, ha⟩ := hrel
    have HA := Lib.hid ha; clear ha
    by_cases hlt : k < m
    · obtain ⟨bd, rfl, hc⟩ := rdN HLr.out k hlt
      have hlt' : decide ((k : Int) < (m : Int)) = true := by simp; omega
      have hat := @strongF_at (to01 p) (to01 q) l k (by rw [HL.out]; exact hlt) HA.out
      have hall := @take_all_succ (fun v => !(to01 p == v || to01 q == v)) l k (by rw [HL.out]; exact hlt) HA.out
      have HAT := Lib.hid hat; clear hat
      have HALL := Lib.hid hall; clear hall
      generalize l.getD k 0 = v at *
      cases hp : (to01 p == v) with
      | true =>
        go_wp2_with (go_at_call 44; refine (to01_any _ _).mono ?_; rintro e w' ⟨rfl, rfl⟩)
        go_ret
        exact ⟨ret_int (HAT.out (by simp [hp])).symm, HB.out⟩
      | false =>
        cases hq : (to01 q == v) with
        | true =>
          go_wp2_with (go_at_call 44; refine (to01_any _ _).mono ?_; rintro e w' ⟨rfl, rfl⟩)
          go_ret
          exact ⟨ret_int (HAT.out (by simp [hq])).symm, HB.out⟩
        | false =>
          go_wp2_with (go_at_call 44; refine (to01_any _ _).mono ?_; rintro e w' ⟨rfl, rfl⟩)
          go_round
          case rel => exact ⟨k + 1, by omega, by go_num, by rw [HALL.out, hp, hq]; rfl⟩
          case measure => simp [intOf]; omega
    · go_wp2
      go_ret
      exact ⟨ret_int (strongF_none (by have := HA.out; rwa [List.take_of_length_le (by rw [HL.out]; omega)] at this)).symm, HB.out⟩

def notF (v : Int) : Int := if v = 2 then 3 else if v = 3 then 2 else v
set_option maxHeartbeats 400000 in
theorem not_any (A : Option Addr) (n c : Nat) (xs : List Int) (w : World) (hr : ReadsInt w .i64 A n xs) (h1 : 1 ≤ n) :
    Calls Try.prog 71 #[.agg #[.slice A n c]] w fun e w' => e = .returned (.int .i64 (notF (to01 (xs.getD 0 0)))) ∧ Below w.heap.size w w' := by
  have hB := gw_below w A n c
  obtain ⟨ad, rfl, h0⟩ := rd0 (hr.below hB) (by omega)
  have HB := Lib.hid hB; clear hB
  generalize xs.getD 0 0 = p at *
  have hn := hr.2.1
  clear hr
  unfold gw at h0 HB
  go_enter Try.func71, Try.ntmps71
  go_wp2_with (go_at_call 44; refine (to01_any _ _).mono ?_; rintro e w' ⟨rfl, rfl⟩)
  all_goals (go_ret; refine ⟨ret_int ?_, HB.out⟩; simp_all [notF])

set_option maxHeartbeats 400000 in
theorem buf_any (A : Option Addr) (n c : Nat) (xs : List Int) (w : World) (hr : ReadsInt w .i64 A n xs) (h1 : 1 ≤ n) :
    Calls Try.prog 72 #[.agg #[.slice A n c]] w fun e w' => e = .returned (.int .i64 (xs.getD 0 0)) ∧ Below w.heap.size w w' := by
  have hB := gw_below w A n c
  obtain ⟨ad, rfl, h0⟩ := rd0 (hr.below hB) (by omega)
  have HB := Lib.hid hB; clear hB
  generalize xs.getD 0 0 = p at *
  have hn := hr.2.1
  clear hr
  unfold gw at h0 HB
  go_enter Try.func72, Try.ntmps72
  go_wp2
  all_goals (go_ret; exact ⟨rfl, HB.out⟩)

def triF (x y : Int) : Int := if y = 3 then x else if y = 2 then 4 else y
set_option maxHeartbeats 400000 in
theorem tri_any (A : Option Addr) (n c : Nat) (xs : List Int) (w : World) (hr : ReadsInt w .i64 A n xs) (h2 : 2 ≤ n) :
    Calls Try.prog 76 #[.agg #[.slice A n c]] w fun e w' => e = .returned (.int .i64 (triF (to01 (xs.getD 0 0)) (to01 (xs.getD 1 0)))) ∧ Below w.heap.size w w' := by
  have hB := gw_below w A n c
  obtain ⟨ad, rfl, h0⟩ := rd0 (hr.below hB) (by omega)
  obtain ⟨ad', h1', h1⟩ := rd1 (hr.below hB) (by omega)
  injection h1' with h1'
  subst h1'
  have HB := Lib.hid hB; clear hB
  generalize xs.getD 0 0 = p at *
  generalize xs.getD 1 0 = q at *
  have hn := hr.2.1
  clear hr
  unfold gw at h0 h1 HB
  go_enter Try.func76, Try.ntmps76
  go_wp2_with (go_at_call 44; refine (to01_any _ _).mono ?_; rintro e w' ⟨rfl, rfl⟩)
  all_goals (go_ret; refine ⟨ret_int ?_, HB.out⟩; simp_all [triF])

def xorF (x y : Int) : Int := if 0 ≤ strongF x y [0, 1] then strongF x y [0, 1] else if x = y then 2 else 3
def andF (x y : Int) : Int := if 0 ≤ strongF x y [2, 0, 1] then strongF x y [2, 0, 1] else 3
def orF (x y : Int) : Int := if 0 ≤ strongF x y [3, 0, 1] then strongF x y [3, 0, 1] else 2

set_option maxHeartbeats 400000 in
theorem and_any (A : Option Addr) (n c : Nat) (xs : List Int) (w : World) (hr : ReadsInt w .i64 A n xs) (h2 : 2 ≤ n) :
    Calls Try.prog 73 #[.agg #[.slice A n c]] w fun e w' => e = .returned (.int .i64 (andF (to01 (xs.getD 0 0)) (to01 (xs.getD 1 0)))) ∧ Below w.heap.size w w' := by
  have hB := gw_below w A n c
  have hB2 : Below w.heap.size w ((gw w A n c).alloc (.cells #[.int .i64 2, .int .i64 0, .int .i64 1] 3)) := hB.alloc hB.size _
  have hl := readsLit (gw w A n c) 3 [2, 0, 1] #[.int .i64 2, .int .i64 0, .int .i64 1] (w.heap.size + 1) 3 (by simp) rfl rfl (by omega)
  have hr2 := hr.below hB2
  have HB2 := Lib.hid hB2; clear hB2 hB
  generalize hX : to01 (xs.getD 0 0) = x at *
  generalize hY : to01 (xs.getD 1 0) = y at *
  unfold gw at hl hr2 HB2
  have HX := Lib.hid hX; clear hX
  have HY := Lib.hid hY; clear hY
  have HR := Lib.hid hr2; clear hr2
  have HL := Lib.hid hl; clear hl
  clear hr
  have H2 := Lib.hid h2; clear h2
  go_enter Try.func73, Try.ntmps73
  go_wp2_with fail
  refine (strong_any _ _ _ _ _ _ _ _ _ HR.out H2.out HL.out).mono ?_
  rintro e w1 ⟨rfl, hb⟩
  rw [HX.out, HY.out]
  have HB1 := Lib.hid (HB2.out.trans (hb.mono HB2.out.size)); clear hb
  generalize hs : strongF x y [2, 0, 1] = s
  have HS := Lib.hid hs; clear hs
  by_cases h : 0 ≤ s
  · go_wp2
    go_ret
    exact ⟨ret_int (by unfold andF; rw [HS.out, if_pos h]), HB1.out⟩
  · go_wp2
    go_ret
    exact ⟨ret_int (by unfold andF; rw [HS.out, if_neg (by omega)]), HB1.out⟩

set_option maxHeartbeats 400000 in
theorem or_any (A : Option Addr) (n c : Nat) (xs : List Int) (w : World) (hr : ReadsInt w .i64 A n xs) (h2 : 2 ≤ n) :
    Calls Try.prog 74 #[.agg #[.slice A n c]] w fun e w' => e = .returned (.int .i64 (orF (to01 (xs.getD 0 0)) (to01 (xs.getD 1 0)))) ∧ Below w.heap.size w w' := by
  have hB := gw_below w A n c
  have hB2 : Below w.heap.size w ((gw w A n c).alloc (.cells #[.int .i64 3, .int .i64 0, .int .i64 1] 3)) := hB.alloc hB.size _
  have hl := readsLit (gw w A n c) 3 [3, 0, 1] #[.int .i64 3, .int .i64 0, .int .i64 1] (w.heap.size + 1) 3 (by simp) rfl rfl (by omega)
  have hr2 := hr.below hB2
  have HB2 := Lib.hid hB2; clear hB2 hB
  generalize hX : to01 (xs.getD 0 0) = x at *
  generalize hY : to01 (xs.getD 1 0) = y at *
  unfold gw at hl hr2 HB2
  have HX := Lib.hid hX; clear hX
  have HY := Lib.hid hY; clear hY
  have HR := Lib.hid hr2; clear hr2
  have HL := Lib.hid hl; clear hl
  clear hr
  have H2 := Lib.hid h2; clear h2
  go_enter Try.func74, Try.ntmps74
  go_wp2_with fail
  refine (strong_any _ _ _ _ _ _ _ _ _ HR.out H2.out HL.out).mono ?_
  rintro e w1 ⟨rfl, hb⟩
  rw [HX.out, HY.out]
  have HB1 := Lib.hid (HB2.out.trans (hb.mono HB2.out.size)); clear hb
  generalize hs : strongF x y [3, 0, 1] = s
  have HS := Lib.hid hs; clear hs
  by_cases h : 0 ≤ s
  · go_wp2
    go_ret
    exact ⟨ret_int (by unfold orF; rw [HS.out, if_pos h]), HB1.out⟩
  · go_wp2
    go_ret
    exact ⟨ret_int (by unfold orF; rw [HS.out, if_neg (by omega)]), HB1.out⟩

set_option maxHeartbeats 400000 in
theorem xor_any (A : Option Addr) (n c : Nat) (xs : List Int) (w : World) (hr : ReadsInt w .i64 A n xs) (h2 : 2 ≤ n) :
    Calls Try.prog 75 #[.agg #[.slice A n c]] w fun e w' => e = .returned (.int .i64 (xorF (to01 (xs.getD 0 0)) (to01 (xs.getD 1 0)))) ∧ Below w.heap.size w w' := by
  have hB := gw_below w A n c
  have hB2 : Below w.heap.size w ((gw w A n c).alloc (.cells #[.int .i64 0, .int .i64 1] 3)) := hB.alloc hB.size _
  have hl := readsLit (gw w A n c) 3 [0, 1] #[.int .i64 0, .int .i64 1] (w.heap.size + 1) 2 (by simp) rfl rfl (by omega)
  have hr2 := hr.below hB2
  have HB2 := Lib.hid hB2; clear hB2 hB
  generalize hX : to01 (xs.getD 0 0) = x at *
  generalize hY : to01 (xs.getD 1 0) = y at *
  unfold gw at hl hr2 HB2
  have HX := Lib.hid hX; clear hX
  have HY := Lib.hid hY; clear hY
  have HR := Lib.hid hr2; clear hr2
  have HL := Lib.hid hl; clear hl
  clear hr
  have H2 := Lib.hid h2; clear h2
  go_enter Try.func75, Try.ntmps75
  go_wp2_with fail
  refine (strong_any _ _ _ _ _ _ _ _ _ HR.out H2.out HL.out).mono ?_
  rintro e w1 ⟨rfl, hb⟩
  rw [HX.out, HY.out]
  have HB1 := Lib.hid (HB2.out.trans (hb.mono HB2.out.size))
  have HW := Lib.hid hb; clear hb
  generalize hs : strongF x y [0, 1] = s
  have HS := Lib.hid hs; clear hs
  by_cases h : 0 ≤ s
  · go_wp2
    go_ret
    exact ⟨ret_int (by unfold xorF; rw [HS.out, if_pos h]), HB1.out⟩
  · have hrw := HR.out.below HW.out
    obtain ⟨ad, rfl, h0⟩ := rd0 hrw (by have := H2.out; omega)
    obtain ⟨ad', h1', h1⟩ := rd1 hrw (by have := H2.out; omega)
    injection h1' with h1'
    subst h1'
    have hbl := (blk_cell (blk_below (blk_alloc (blk_new w (.cells #[.slice (some ad) n c] 71)) _) HW.out) 0)
    replace hbl : w1.cell? ⟨w.heap.size, 0, none⟩ = some (.slice (some ad) n c) := hbl
    have hn := HR.out.2.1
    have hh2 := H2.out
    clear hrw
    generalize xs.getD 0 0 = p at *
    generalize xs.getD 1 0 = q at *
    go_wp2
    go_quiet ((go_at_call 44; exact Calls.quiet_of_same ((to01_any _ _).mono fun _ _ h => ⟨h.1, h.2.symm⟩)))
    all_goals (rw [HX.out, HY.out])
    go_wp2
    all_goals (go_ret; refine ⟨ret_int ?_, ?_⟩)
    all_goals first | exact pw_below_drewN HB1.out _ | (unfold xorF; rw [HS.out, if_neg (by omega)]; simp_all)

end Go.Proofs.Ytobdhdehmkmjcaa
