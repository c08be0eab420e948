/- Plain law: adders made of gates add. -/
import Derived.Test.YtobdhdehmkmjcaaP6
namespace Go.Proofs.Ytobdhdehmkmjcaa
set_option linter.unusedVariables false
set_option linter.unusedSimpArgs false
open Rows0

def dv (weak : Bool) (x : Int) : Int := if weak then 6 + x else 2 + x
def gsA : List GateL := [⟨5, [0, 1], 3, 0⟩, ⟨5, [3, 2], 4, 0⟩, ⟨3, [0, 1], 5, 0⟩, ⟨3, [3, 2], 6, 0⟩, ⟨4, [5, 6], 9, 0⟩, ⟨5, [7, 8], 10, 0⟩, ⟨5, [10, 9], 11, 0⟩, ⟨3, [7, 8], 12, 0⟩, ⟨3, [10, 9], 13, 0⟩, ⟨4, [12, 13], 16, 0⟩, ⟨5, [14, 15], 17, 0⟩, ⟨5, [17, 16], 18, 0⟩, ⟨3, [14, 15], 19, 0⟩, ⟨3, [17, 16], 20, 0⟩, ⟨4, [19, 20], 23, 0⟩, ⟨5, [21, 22], 24, 0⟩, ⟨5, [24, 23], 25, 0⟩, ⟨3, [21, 22], 26, 0⟩, ⟨3, [24, 23], 27, 0⟩, ⟨4, [26, 27], 30, 0⟩, ⟨5, [28, 29], 31, 0⟩, ⟨5, [31, 30], 32, 0⟩, ⟨3, [28, 29], 33, 0⟩, ⟨3, [31, 30], 34, 0⟩, ⟨4, [33, 34], 37, 0⟩]
def dsA (weak : Bool) (a0 a1 a2 a3 a4 b0 b1 b2 b3 b4 c0 : Int) : List DriveL := [⟨2, dv weak c0⟩, ⟨0, dv weak a0⟩, ⟨1, dv weak b0⟩, ⟨7, dv weak a1⟩, ⟨8, dv weak b1⟩, ⟨14, dv weak a2⟩, ⟨15, dv weak b2⟩, ⟨21, dv weak a3⟩, ⟨22, dv weak b3⟩, ⟨28, dv weak a4⟩, ⟨29, dv weak b4⟩]
def Bit (x : Int) : Prop := x = 0 ∨ x = 1
theorem fixA : Fix (fdG gsA) 25 [1, 2, 1, 2, 3, 1, 4, 1, 4, 5, 1, 6, 1, 6, 7, 1, 8, 1, 8, 9, 1, 10, 1, 10, 11] := ⟨rfl, by decide +kernel⟩
theorem gsA_ok : gsA.all (gateOk (38 : Nat)) = true := by decide +kernel
theorem gsA_delay : delB gsA = false := by decide +kernel
theorem gsA_valid : validF 38 gsA = 0 := by decide +kernel
theorem depthA : 0 ≤ depthP (fdG gsA) gsA.length := by
  have h := depthP_fix fixA
  have hl : gsA.length = 25 := rfl
  rw [hl, h]
  exact maxL_nonneg _
theorem dv_val {weak : Bool} {x : Int} (h : Bit x) : isVal (dv weak x) = true := by
  rcases h with rfl | rfl <;> cases weak <;> decide
theorem dsA_ok (weak : Bool) {a0 a1 a2 a3 a4 b0 b1 b2 b3 b4 c0 : Int} (ha0 : Bit a0) (ha1 : Bit a1) (ha2 : Bit a2) (ha3 : Bit a3) (ha4 : Bit a4) (hb0 : Bit b0) (hb1 : Bit b1) (hb2 : Bit b2) (hb3 : Bit b3) (hb4 : Bit b4) (hc0 : Bit c0) : (dsA weak a0 a1 a2 a3 a4 b0 b1 b2 b3 b4 c0).all (driveOk 38) = true := by
  unfold dsA driveOk
  simp only [List.all_cons, List.all_nil, Bool.and_true, Bool.and_eq_true]
  simp only [dv_val ha0, dv_val ha1, dv_val ha2, dv_val ha3, dv_val ha4, dv_val hb0, dv_val hb1, dv_val hb2, dv_val hb3, dv_val hb4, dv_val hc0]
  simp
theorem dv01 {weak : Bool} {x : Int} (h : Bit x) : to01 (meetF 4 (dv weak x)) = 2 + x := by
  rcases h with rfl | rfl <;> cases weak <;> decide
/-- One bit. -/
theorem stage {x y ci t σ u v co p q c : Int} (hp : Bit p) (hq : Bit q) (hc : Bit c) (hx : to01 x = 2 + p) (hy : to01 y = 2 + q) (hci : to01 ci = 2 + c)
    (ht : t = meetF 4 (xorF (to01 x) (to01 y))) (hs : σ = meetF 4 (xorF (to01 t) (to01 ci))) (hu : u = meetF 4 (andF (to01 x) (to01 y))) (hv : v = meetF 4 (andF (to01 t) (to01 ci))) (hco : co = meetF 4 (orF (to01 u) (to01 v))) :
    ∃ s k, Bit s ∧ Bit k ∧ σ = 2 + s ∧ co = 2 + k ∧ to01 co = 2 + k ∧ s + 2 * k = p + q + c := by
  rw [hx, hy] at ht hu
  rw [hci] at hs hv
  refine ⟨((p + q) % 2 + c) % 2, (p + q + c) / 2, ?_, ?_, ?_, ?_, ?_, ?_⟩
  · unfold Bit; omega
  · unfold Bit at *; omega
  · rw [hs, ht]
    rcases hp with rfl | rfl <;> rcases hq with rfl | rfl <;> rcases hc with rfl | rfl <;> decide
  · rw [hco, hu, hv, ht]
    rcases hp with rfl | rfl <;> rcases hq with rfl | rfl <;> rcases hc with rfl | rfl <;> decide
  · rw [hco, hu, hv, ht]
    rcases hp with rfl | rfl <;> rcases hq with rfl | rfl <;> rcases hc with rfl | rfl <;> decide
  · rcases hp with rfl | rfl <;> rcases hq with rfl | rfl <;> rcases hc with rfl | rfl <;> decide
theorem restA {weak : Bool} {a0 a1 a2 a3 a4 b0 b1 b2 b3 b4 c0 : Int} {s : List Int} (hs : nextF 38 gsA (dsA weak a0 a1 a2 a3 a4 b0 b1 b2 b3 b4 c0) s = s) :
    s.getD 0 0 = meetF 4 (dv weak a0) ∧ s.getD 1 0 = meetF 4 (dv weak b0) ∧ s.getD 2 0 = meetF 4 (dv weak c0) ∧ s.getD 7 0 = meetF 4 (dv weak a1) ∧ s.getD 8 0 = meetF 4 (dv weak b1) ∧ s.getD 14 0 = meetF 4 (dv weak a2) ∧ s.getD 15 0 = meetF 4 (dv weak b2) ∧ s.getD 21 0 = meetF 4 (dv weak a3) ∧ s.getD 22 0 = meetF 4 (dv weak b3) ∧ s.getD 28 0 = meetF 4 (dv weak a4) ∧ s.getD 29 0 = meetF 4 (dv weak b4) ∧ s.getD 3 0 = meetF 4 (xorF (to01 (s.getD 0 0)) (to01 (s.getD 1 0))) ∧ s.getD 4 0 = meetF 4 (xorF (to01 (s.getD 3 0)) (to01 (s.getD 2 0))) ∧ s.getD 5 0 = meetF 4 (andF (to01 (s.getD 0 0)) (to01 (s.getD 1 0))) ∧ s.getD 6 0 = meetF 4 (andF (to01 (s.getD 3 0)) (to01 (s.getD 2 0))) ∧ s.getD 9 0 = meetF 4 (orF (to01 (s.getD 5 0)) (to01 (s.getD 6 0))) ∧ s.getD 10 0 = meetF 4 (xorF (to01 (s.getD 7 0)) (to01 (s.getD 8 0))) ∧ s.getD 11 0 = meetF 4 (xorF (to01 (s.getD 10 0)) (to01 (s.getD 9 0))) ∧ s.getD 12 0 = meetF 4 (andF (to01 (s.getD 7 0)) (to01 (s.getD 8 0))) ∧ s.getD 13 0 = meetF 4 (andF (to01 (s.getD 10 0)) (to01 (s.getD 9 0))) ∧ s.getD 16 0 = meetF 4 (orF (to01 (s.getD 12 0)) (to01 (s.getD 13 0))) ∧ s.getD 17 0 = meetF 4 (xorF (to01 (s.getD 14 0)) (to01 (s.getD 15 0))) ∧ s.getD 18 0 = meetF 4 (xorF (to01 (s.getD 17 0)) (to01 (s.getD 16 0))) ∧ s.getD 19 0 = meetF 4 (andF (to01 (s.getD 14 0)) (to01 (s.getD 15 0))) ∧ s.getD 20 0 = meetF 4 (andF (to01 (s.getD 17 0)) (to01 (s.getD 16 0))) ∧ s.getD 23 0 = meetF 4 (orF (to01 (s.getD 19 0)) (to01 (s.getD 20 0))) ∧ s.getD 24 0 = meetF 4 (xorF (to01 (s.getD 21 0)) (to01 (s.getD 22 0))) ∧ s.getD 25 0 = meetF 4 (xorF (to01 (s.getD 24 0)) (to01 (s.getD 23 0))) ∧ s.getD 26 0 = meetF 4 (andF (to01 (s.getD 21 0)) (to01 (s.getD 22 0))) ∧ s.getD 27 0 = meetF 4 (andF (to01 (s.getD 24 0)) (to01 (s.getD 23 0))) ∧ s.getD 30 0 = meetF 4 (orF (to01 (s.getD 26 0)) (to01 (s.getD 27 0))) ∧ s.getD 31 0 = meetF 4 (xorF (to01 (s.getD 28 0)) (to01 (s.getD 29 0))) ∧ s.getD 32 0 = meetF 4 (xorF (to01 (s.getD 31 0)) (to01 (s.getD 30 0))) ∧ s.getD 33 0 = meetF 4 (andF (to01 (s.getD 28 0)) (to01 (s.getD 29 0))) ∧ s.getD 34 0 = meetF 4 (andF (to01 (s.getD 31 0)) (to01 (s.getD 30 0))) ∧ s.getD 37 0 = meetF 4 (orF (to01 (s.getD 33 0)) (to01 (s.getD 34 0))) := by
  refine ⟨?_, ?_, ?_, ?_, ?_, ?_, ?_, ?_, ?_, ?_, ?_, ?_, ?_, ?_, ?_, ?_, ?_, ?_, ?_, ?_, ?_, ?_, ?_, ?_, ?_, ?_, ?_, ?_, ?_, ?_, ?_, ?_, ?_, ?_, ?_, ?_⟩
  · have h : (nextF 38 gsA (dsA weak a0 a1 a2 a3 a4 b0 b1 b2 b3 b4 c0) s).getD 0 0 = meetF 4 (dv weak a0) := by kernel_rfl
    rw [hs] at h
    exact h
  · have h : (nextF 38 gsA (dsA weak a0 a1 a2 a3 a4 b0 b1 b2 b3 b4 c0) s).getD 1 0 = meetF 4 (dv weak b0) := by kernel_rfl
    rw [hs] at h
    exact h
  · have h : (nextF 38 gsA (dsA weak a0 a1 a2 a3 a4 b0 b1 b2 b3 b4 c0) s).getD 2 0 = meetF 4 (dv weak c0) := by kernel_rfl
    rw [hs] at h
    exact h
  · have h : (nextF 38 gsA (dsA weak a0 a1 a2 a3 a4 b0 b1 b2 b3 b4 c0) s).getD 7 0 = meetF 4 (dv weak a1) := by kernel_rfl
    rw [hs] at h
    exact h
  · have h : (nextF 38 gsA (dsA weak a0 a1 a2 a3 a4 b0 b1 b2 b3 b4 c0) s).getD 8 0 = meetF 4 (dv weak b1) := by kernel_rfl
    rw [hs] at h
    exact h
  · have h : (nextF 38 gsA (dsA weak a0 a1 a2 a3 a4 b0 b1 b2 b3 b4 c0) s).getD 14 0 = meetF 4 (dv weak a2) := by kernel_rfl
    rw [hs] at h
    exact h
  · have h : (nextF 38 gsA (dsA weak a0 a1 a2 a3 a4 b0 b1 b2 b3 b4 c0) s).getD 15 0 = meetF 4 (dv weak b2) := by kernel_rfl
    rw [hs] at h
    exact h
  · have h : (nextF 38 gsA (dsA weak a0 a1 a2 a3 a4 b0 b1 b2 b3 b4 c0) s).getD 21 0 = meetF 4 (dv weak a3) := by kernel_rfl
    rw [hs] at h
    exact h
  · have h : (nextF 38 gsA (dsA weak a0 a1 a2 a3 a4 b0 b1 b2 b3 b4 c0) s).getD 22 0 = meetF 4 (dv weak b3) := by kernel_rfl
    rw [hs] at h
    exact h
  · have h : (nextF 38 gsA (dsA weak a0 a1 a2 a3 a4 b0 b1 b2 b3 b4 c0) s).getD 28 0 = meetF 4 (dv weak a4) := by kernel_rfl
    rw [hs] at h
    exact h
  · have h : (nextF 38 gsA (dsA weak a0 a1 a2 a3 a4 b0 b1 b2 b3 b4 c0) s).getD 29 0 = meetF 4 (dv weak b4) := by kernel_rfl
    rw [hs] at h
    exact h
  · have h : (nextF 38 gsA (dsA weak a0 a1 a2 a3 a4 b0 b1 b2 b3 b4 c0) s).getD 3 0 = meetF 4 (xorF (to01 (s.getD 0 0)) (to01 (s.getD 1 0))) := by kernel_rfl
    rw [hs] at h
    exact h
  · have h : (nextF 38 gsA (dsA weak a0 a1 a2 a3 a4 b0 b1 b2 b3 b4 c0) s).getD 4 0 = meetF 4 (xorF (to01 (s.getD 3 0)) (to01 (s.getD 2 0))) := by kernel_rfl
    rw [hs] at h
    exact h
  · have h : (nextF 38 gsA (dsA weak a0 a1 a2 a3 a4 b0 b1 b2 b3 b4 c0) s).getD 5 0 = meetF 4 (andF (to01 (s.getD 0 0)) (to01 (s.getD 1 0))) := by kernel_rfl
    rw [hs] at h
    exact h
  · have h : (nextF 38 gsA (dsA weak a0 a1 a2 a3 a4 b0 b1 b2 b3 b4 c0) s).getD 6 0 = meetF 4 (andF (to01 (s.getD 3 0)) (to01 (s.getD 2 0))) := by kernel_rfl
    rw [hs] at h
    exact h
  · have h : (nextF 38 gsA (dsA weak a0 a1 a2 a3 a4 b0 b1 b2 b3 b4 c0) s).getD 9 0 = meetF 4 (orF (to01 (s.getD 5 0)) (to01 (s.getD 6 0))) := by kernel_rfl
    rw [hs] at h
    exact h
  · have h : (nextF 38 gsA (dsA weak a0 a1 a2 a3 a4 b0 b1 b2 b3 b4 c0) s).getD 10 0 = meetF 4 (xorF (to01 (s.getD 7 0)) (to01 (s.getD 8 0))) := by kernel_rfl
    rw [hs] at h
    exact h
  · have h : (nextF 38 gsA (dsA weak a0 a1 a2 a3 a4 b0 b1 b2 b3 b4 c0) s).getD 11 0 = meetF 4 (xorF (to01 (s.getD 10 0)) (to01 (s.getD 9 0))) := by kernel_rfl
    rw [hs] at h
    exact h
  · have h : (nextF 38 gsA (dsA weak a0 a1 a2 a3 a4 b0 b1 b2 b3 b4 c0) s).getD 12 0 = meetF 4 (andF (to01 (s.getD 7 0)) (to01 (s.getD 8 0))) := by kernel_rfl
    rw [hs] at h
    exact h
  · have h : (nextF 38 gsA (dsA weak a0 a1 a2 a3 a4 b0 b1 b2 b3 b4 c0) s).getD 13 0 = meetF 4 (andF (to01 (s.getD 10 0)) (to01 (s.getD 9 0))) := by kernel_rfl
    rw [hs] at h
    exact h
  · have h : (nextF 38 gsA (dsA weak a0 a1 a2 a3 a4 b0 b1 b2 b3 b4 c0) s).getD 16 0 = meetF 4 (orF (to01 (s.getD 12 0)) (to01 (s.getD 13 0))) := by kernel_rfl
    rw [hs] at h
    exact h
  · have h : (nextF 38 gsA (dsA weak a0 a1 a2 a3 a4 b0 b1 b2 b3 b4 c0) s).getD 17 0 = meetF 4 (xorF (to01 (s.getD 14 0)) (to01 (s.getD 15 0))) := by kernel_rfl
    rw [hs] at h
    exact h
  · have h : (nextF 38 gsA (dsA weak a0 a1 a2 a3 a4 b0 b1 b2 b3 b4 c0) s).getD 18 0 = meetF 4 (xorF (to01 (s.getD 17 0)) (to01 (s.getD 16 0))) := by kernel_rfl
    rw [hs] at h
    exact h
  · have h : (nextF 38 gsA (dsA weak a0 a1 a2 a3 a4 b0 b1 b2 b3 b4 c0) s).getD 19 0 = meetF 4 (andF (to01 (s.getD 14 0)) (to01 (s.getD 15 0))) := by kernel_rfl
    rw [hs] at h
    exact h
  · have h : (nextF 38 gsA (dsA weak a0 a1 a2 a3 a4 b0 b1 b2 b3 b4 c0) s).getD 20 0 = meetF 4 (andF (to01 (s.getD 17 0)) (to01 (s.getD 16 0))) := by kernel_rfl
    rw [hs] at h
    exact h
  · have h : (nextF 38 gsA (dsA weak a0 a1 a2 a3 a4 b0 b1 b2 b3 b4 c0) s).getD 23 0 = meetF 4 (orF (to01 (s.getD 19 0)) (to01 (s.getD 20 0))) := by kernel_rfl
    rw [hs] at h
    exact h
  · have h : (nextF 38 gsA (dsA weak a0 a1 a2 a3 a4 b0 b1 b2 b3 b4 c0) s).getD 24 0 = meetF 4 (xorF (to01 (s.getD 21 0)) (to01 (s.getD 22 0))) := by kernel_rfl
    rw [hs] at h
    exact h
  · have h : (nextF 38 gsA (dsA weak a0 a1 a2 a3 a4 b0 b1 b2 b3 b4 c0) s).getD 25 0 = meetF 4 (xorF (to01 (s.getD 24 0)) (to01 (s.getD 23 0))) := by kernel_rfl
    rw [hs] at h
    exact h
  · have h : (nextF 38 gsA (dsA weak a0 a1 a2 a3 a4 b0 b1 b2 b3 b4 c0) s).getD 26 0 = meetF 4 (andF (to01 (s.getD 21 0)) (to01 (s.getD 22 0))) := by kernel_rfl
    rw [hs] at h
    exact h
  · have h : (nextF 38 gsA (dsA weak a0 a1 a2 a3 a4 b0 b1 b2 b3 b4 c0) s).getD 27 0 = meetF 4 (andF (to01 (s.getD 24 0)) (to01 (s.getD 23 0))) := by kernel_rfl
    rw [hs] at h
    exact h
  · have h : (nextF 38 gsA (dsA weak a0 a1 a2 a3 a4 b0 b1 b2 b3 b4 c0) s).getD 30 0 = meetF 4 (orF (to01 (s.getD 26 0)) (to01 (s.getD 27 0))) := by kernel_rfl
    rw [hs] at h
    exact h
  · have h : (nextF 38 gsA (dsA weak a0 a1 a2 a3 a4 b0 b1 b2 b3 b4 c0) s).getD 31 0 = meetF 4 (xorF (to01 (s.getD 28 0)) (to01 (s.getD 29 0))) := by kernel_rfl
    rw [hs] at h
    exact h
  · have h : (nextF 38 gsA (dsA weak a0 a1 a2 a3 a4 b0 b1 b2 b3 b4 c0) s).getD 32 0 = meetF 4 (xorF (to01 (s.getD 31 0)) (to01 (s.getD 30 0))) := by kernel_rfl
    rw [hs] at h
    exact h
  · have h : (nextF 38 gsA (dsA weak a0 a1 a2 a3 a4 b0 b1 b2 b3 b4 c0) s).getD 33 0 = meetF 4 (andF (to01 (s.getD 28 0)) (to01 (s.getD 29 0))) := by kernel_rfl
    rw [hs] at h
    exact h
  · have h : (nextF 38 gsA (dsA weak a0 a1 a2 a3 a4 b0 b1 b2 b3 b4 c0) s).getD 34 0 = meetF 4 (andF (to01 (s.getD 31 0)) (to01 (s.getD 30 0))) := by kernel_rfl
    rw [hs] at h
    exact h
  · have h : (nextF 38 gsA (dsA weak a0 a1 a2 a3 a4 b0 b1 b2 b3 b4 c0) s).getD 37 0 = meetF 4 (orF (to01 (s.getD 33 0)) (to01 (s.getD 34 0))) := by kernel_rfl
    rw [hs] at h
    exact h
/-- The sum's bits at a rest. -/
theorem sumA {weak : Bool} {a0 a1 a2 a3 a4 b0 b1 b2 b3 b4 c0 : Int} (ha0 : Bit a0) (ha1 : Bit a1) (ha2 : Bit a2) (ha3 : Bit a3) (ha4 : Bit a4) (hb0 : Bit b0) (hb1 : Bit b1) (hb2 : Bit b2) (hb3 : Bit b3) (hb4 : Bit b4) (hc0 : Bit c0) {s : List Int} (hs : nextF 38 gsA (dsA weak a0 a1 a2 a3 a4 b0 b1 b2 b3 b4 c0) s = s) :
    ∃ s0 s1 s2 s3 s4 k : Int, Bit s0 ∧ Bit s1 ∧ Bit s2 ∧ Bit s3 ∧ Bit s4 ∧ Bit k ∧ s.getD 4 0 = 2 + s0 ∧ s.getD 11 0 = 2 + s1 ∧ s.getD 18 0 = 2 + s2 ∧ s.getD 25 0 = 2 + s3 ∧ s.getD 32 0 = 2 + s4 ∧ s.getD 37 0 = 2 + k ∧
      s0 + 2 * s1 + 4 * s2 + 8 * s3 + 16 * s4 + 32 * k = (a0 + 2 * a1 + 4 * a2 + 8 * a3 + 16 * a4) + (b0 + 2 * b1 + 4 * b2 + 8 * b3 + 16 * b4) + c0 := by
  obtain ⟨e0, e1, e2, e7, e8, e14, e15, e21, e22, e28, e29, g3, g4, g5, g6, g9, g10, g11, g12, g13, g16, g17, g18, g19, g20, g23, g24, g25, g26, g27, g30, g31, g32, g33, g34, g37⟩ := restA hs
  obtain ⟨s0, k0, hs0, hk0, es0, ek0, ec0, q0⟩ := stage ha0 hb0 hc0 (by rw [e0]; exact dv01 ha0) (by rw [e1]; exact dv01 hb0) (by rw [e2]; exact dv01 hc0) g3 g4 g5 g6 g9
  obtain ⟨s1, k1, hs1, hk1, es1, ek1, ec1, q1⟩ := stage ha1 hb1 hk0 (by rw [e7]; exact dv01 ha1) (by rw [e8]; exact dv01 hb1) ec0 g10 g11 g12 g13 g16
  obtain ⟨s2, k2, hs2, hk2, es2, ek2, ec2, q2⟩ := stage ha2 hb2 hk1 (by rw [e14]; exact dv01 ha2) (by rw [e15]; exact dv01 hb2) ec1 g17 g18 g19 g20 g23
  obtain ⟨s3, k3, hs3, hk3, es3, ek3, ec3, q3⟩ := stage ha3 hb3 hk2 (by rw [e21]; exact dv01 ha3) (by rw [e22]; exact dv01 hb3) ec2 g24 g25 g26 g27 g30
  obtain ⟨s4, k4, hs4, hk4, es4, ek4, ec4, q4⟩ := stage ha4 hb4 hk3 (by rw [e28]; exact dv01 ha4) (by rw [e29]; exact dv01 hb4) ec3 g31 g32 g33 g34 g37
  exact ⟨s0, s1, s2, s3, s4, k4, hs0, hs1, hs2, hs3, hs4, hk4, es0, es1, es2, es3, es4, ek4, by omega⟩
/-- What Settle answers to an adder. -/
theorem settleA (weak : Bool) {a0 a1 a2 a3 a4 b0 b1 b2 b3 b4 c0 : Int} (ha0 : Bit a0) (ha1 : Bit a1) (ha2 : Bit a2) (ha3 : Bit a3) (ha4 : Bit a4) (hb0 : Bit b0) (hb1 : Bit b1) (hb2 : Bit b2) (hb3 : Bit b3) (hb4 : Bit b4) (hc0 : Bit c0) :
    ∃ (v : List Int) (m : Nat), SettleAns 38 gsA (dsA weak a0 a1 a2 a3 a4 b0 b1 b2 b3 b4 c0) (List.replicate 38 0) = (some (v, m), 0) ∧ v.length = 38 ∧ nextF 38 gsA (dsA weak a0 a1 a2 a3 a4 b0 b1 b2 b3 b4 c0) v = v := by
  have hd := dsA_ok weak ha0 ha1 ha2 ha3 ha4 hb0 hb1 hb2 hb3 hb4 hc0
  have hz : settlesF 38 gsA (dsA weak a0 a1 a2 a3 a4 b0 b1 b2 b3 b4 c0) (List.replicate 38 0) = 0 := settlesF_of gsA_valid (by decide +kernel) rfl hd gsA_delay
  obtain ⟨m, hm, hf, hset⟩ := rests (nn := 38) (ds := dsA weak a0 a1 a2 a3 a4 b0 b1 b2 b3 b4 c0) (s0 := List.replicate 38 0) gsA_ok hd (by decide) depthA
  refine ⟨_, m, ?_, (seq_val (nn := 38) (gs := gsA) (ds := dsA weak a0 a1 a2 a3 a4 b0 b1 b2 b3 b4 c0) (s0 := List.replicate 38 0) gsA_ok hd rfl (by decide +kernel) m).1, hf⟩
  unfold SettleAns
  rw [if_neg (by rw [hz]; simp)]
  rw [show Int.toNat 38 = 38 from rfl]
  rw [hset]
end Go.Proofs.Ytobdhdehmkmjcaa
