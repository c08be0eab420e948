/- The law of likeness: the program's answer is the reference's. -/
import Derived.Test.YtobdhdehmkmjcaaEQ3
namespace Go.Proofs.Ytobdhdehmkmjcaa
set_option linter.unusedVariables false
set_option linter.unusedSimpArgs false
open Rows0 Go.RowKit Go.Proofs.YtobdhdehmkmjcaaW.PrintWords Go.Proofs.YtobdhdehmkmjcaaW.PrintLast

theorem eqOut_reads {r : Option (List Int) × Bool × Int} {w : World} {e : Ending} (h : eqOut r w e) :
    ∃ A n c, e = .returned (.tuple #[.slice A n c, .bool r.2.1, .int .i64 r.2.2]) ∧ ReadsInt w .i64 A n (r.1.getD []) := by
  obtain ⟨x, b, y⟩ := r
  cases x with
  | none => exact ⟨none, 0, 0, h, rfl, by simp, fun h => by omega⟩
  | some xs =>
    obtain ⟨A, c, he, hr⟩ := h
    exact ⟨A, xs.length, c, he, hr⟩
set_option maxHeartbeats 4000000 in
set_option maxRecDepth 100000 in
theorem equals_law (nc : Int) (CA : Option Addr) (cn cc : Nat) (gc : List GateL) (nd : Int) (DA : Option Addr) (dn dc : Nat) (gd : List GateL) (IA : Option Addr) (im ic : Nat) (ins : List Int) (OA : Option Addr) (om oc : Nat) (outs : List Int) (w : World)
    (hgc : RdGates w CA cn gc) (hgd : RdGates w DA dn gd) (hi : ReadsInt w .i64 IA im ins) (ho : ReadsInt w .i64 OA om outs) (him : im ≤ ic) (hom : om ≤ oc) :
    Calls Try.prog 8 #[.agg #[.int .i64 nc, .slice CA cn cc], .agg #[.int .i64 nd, .slice DA dn dc], .slice IA im ic, .slice OA om oc] w fun e w' => e = .returned (.bool true) ∧ Below w.heap.size w w' := by
  have HIL := Lib.hid hi.1
  have HOL := Lib.hid ho.1
  obtain ⟨w2, hw2⟩ : ∃ w2, (w.alloc (.cells #[.int .i64 nc, .slice CA cn cc] 39)).alloc (.cells #[.int .i64 nd, .slice DA dn dc] 39) = w2 := ⟨_, rfl⟩
  have hz1 : (w.alloc (.cells #[.int .i64 nc, .slice CA cn cc] 39)).heap.size = w.heap.size + 1 := Array.size_push _
  have hbc : w2.heap[w.heap.size]? = some (.cells #[.int .i64 nc, .slice CA cn cc] 39 (0, 0)) := by rw [← hw2]; exact blk_alloc (blk_new w _) _
  have hbd : w2.heap[w.heap.size + 1]? = some (.cells #[.int .i64 nd, .slice DA dn dc] 39 (0, 0)) := by
    have h := blk_new (w.alloc (.cells #[.int .i64 nc, .slice CA cn cc] 39)) (.cells #[.int .i64 nd, .slice DA dn dc] 39)
    rw [hz1] at h
    rw [← hw2]
    exact h
  have hz2 : w2.heap.size = w.heap.size + 2 := by
    rw [← hw2]
    have h : ((w.alloc (.cells #[.int .i64 nc, .slice CA cn cc] 39)).alloc (.cells #[.int .i64 nd, .slice DA dn dc] 39)).heap.size = (w.alloc (.cells #[.int .i64 nc, .slice CA cn cc] 39)).heap.size + 1 := Array.size_push _
    rw [h, hz1]
  have hB : Below w.heap.size w w2 := by rw [← hw2]; exact ((Below.refl _ _).alloc (Nat.le_refl _) _).alloc (by rw [hz1]; exact Nat.le_succ _) _
  have c0 : w2.cell? ⟨w.heap.size, 0, none⟩ = some (.int .i64 nc) := (blk_cell hbc 0).trans rfl
  have c1 : w2.cell? ⟨w.heap.size, 1, none⟩ = some (.slice CA cn cc) := (blk_cell hbc 1).trans rfl
  have d0 : w2.cell? ⟨w.heap.size + 1, 0, none⟩ = some (.int .i64 nd) := (blk_cell hbd 0).trans rfl
  have d1 : w2.cell? ⟨w.heap.size + 1, 1, none⟩ = some (.slice DA dn dc) := (blk_cell hbd 1).trans rfl
  have HB := Lib.hid hB; clear hB
  have HBC := Lib.hid hbc; clear hbc
  have HBD := Lib.hid hbd; clear hbd
  have HGC := Lib.hid hgc; clear hgc
  have HGD := Lib.hid hgd; clear hgd
  have HI := Lib.hid hi; clear hi
  have HO := Lib.hid ho; clear ho
  have HZ2 := Lib.hid hz2; clear hz2 hz1
  go_enter Try.func8, Try.ntmps8
  have HW2 := Lib.hid hw2; clear hw2
  go_wp2_with fail
  rw [HW2.out]
  refine (equal30_any _ _ _ _ _ _ _ _ _ _ _ _ _ _ _ _ _ _ _ (HGC.out.below HB.out) (HGD.out.below HB.out) (HI.out.below HB.out) (HO.out.below HB.out) him hom).mono ?_
  rintro e w3 ⟨hres, hb3⟩
  obtain ⟨A1, n1, c1', rfl, hr1⟩ := eqOut_reads hres
  clear hres
  have HR1 := Lib.hid hr1; clear hr1
  have HBC3 := Lib.hid (blk_below HBC.out hb3)
  have HBD3 := Lib.hid (blk_below HBD.out hb3)
  have HB3 := Lib.hid (HB.out.trans (hb3.mono HB.out.size))
  clear hb3 c0 c1 d0 d1
  have c0 : w3.cell? ⟨w.heap.size, 0, none⟩ = some (.int .i64 nc) := (blk_cell HBC3.out 0).trans rfl
  have c1 : w3.cell? ⟨w.heap.size, 1, none⟩ = some (.slice CA cn cc) := (blk_cell HBC3.out 1).trans rfl
  have d0 : w3.cell? ⟨w.heap.size + 1, 0, none⟩ = some (.int .i64 nd) := (blk_cell HBD3.out 0).trans rfl
  have d1 : w3.cell? ⟨w.heap.size + 1, 1, none⟩ = some (.slice DA dn dc) := (blk_cell HBD3.out 1).trans rfl
  go_wp2_with fail
  refine (requal31_any _ _ _ _ _ _ _ _ _ _ _ _ _ _ _ _ _ _ _ (HGC.out.below HB3.out) (HGD.out.below HB3.out) (HI.out.below HB3.out) (HO.out.below HB3.out) him hom).mono ?_
  rintro e w4 ⟨hres, hb4⟩
  obtain ⟨A2, n2, c2', rfl, hr2⟩ := eqOut_reads hres
  clear hres
  have HR2 := Lib.hid hr2; clear hr2
  have HR1' := Lib.hid (HR1.out.below hb4)
  have HB4 := Lib.hid (HB3.out.trans (hb4.mono HB3.out.size))
  clear hb4 c0 c1 d0 d1 HR1
  generalize eqAns nc gc nd gd ins outs = r at *
  obtain ⟨x, b, y⟩ := r
  simp only at HR1' HR2
  generalize x.getD [] = xs at *
  go_wp2_with fail
  refine (same_any _ _ _ _ _ _ xs xs _ HR1'.out HR2.out).mono ?_
  rintro e w5 ⟨rfl, q5, rfl⟩
  rw [show sameB xs xs = true by simp [sameB]]
  have HB5 : Hid (Below w.heap.size w (w4.drewN q5)) := Lib.hid (pw_below_drewN (n := q5) HB4.out)
  generalize w4.drewN q5 = w6 at *
  go_wp2_with fail
  refine (known_any _).mono ?_
  rintro e w9 ⟨rfl, hb9⟩
  have HB9 := Lib.hid (HB5.out.trans (hb9.mono HB5.out.size)); clear hb9
  go_wp2_with fail
  go_ret
  exact ⟨rfl, HB9.out⟩
end Go.Proofs.Ytobdhdehmkmjcaa
