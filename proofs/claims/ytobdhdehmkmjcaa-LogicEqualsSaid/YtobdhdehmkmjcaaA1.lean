/- What an adder's drivers are; what the law asks of an adder. -/
import Derived.Test.YtobdhdehmkmjcaaA0
import Derived.Laws.BitsLemmas
namespace Go.Proofs.Ytobdhdehmkmjcaa
set_option linter.unusedVariables false
set_option linter.unusedSimpArgs false
open Go.RowKit Go.Proofs.YtobdhdehmkmjcaaW.PrintWords Go.Proofs.YtobdhdehmkmjcaaW.PrintLast

theorem and1 (a : Int) : Go.bits .and .i64 a 1 = a % 2 := by
  have h : Go.bits .and .i64 a 1 = IntKind.i64.wrap (((BitVec.ofInt 64 a).toNat &&& (2 ^ 1 - 1) : Nat) : Int) := rfl
  rw [h, Nat.and_two_pow_sub_one_eq_mod, BitVec.toNat_ofInt, IntKind.wrap_i64]
  omega
theorem and31 (a : Int) : Go.bits .and .i64 a 31 = a % 32 := by
  have h : Go.bits .and .i64 a 31 = IntKind.i64.wrap (((BitVec.ofInt 64 a).toNat &&& (2 ^ 5 - 1) : Nat) : Int) := rfl
  rw [h, Nat.and_two_pow_sub_one_eq_mod, BitVec.toNat_ofInt, IntKind.wrap_i64]
  omega
theorem bit_mod (x : Int) : Bit (x % 2) := by unfold Bit; omega
/-- The drivers' list while it grows. -/
def dsG (weak : Bool) (a b c : Int) : Nat → List DriveL
  | 0 => [⟨2, dv weak c⟩]
  | k + 1 => dsG weak a b c k ++ [⟨7 * k, dv weak (a / 2 ^ k % 2)⟩, ⟨7 * k + 1, dv weak (b / 2 ^ k % 2)⟩]
theorem dsG_eq (weak : Bool) (a b c : Int) : dsG weak a b c 5 = dsA weak (a % 2) (a / 2 % 2) (a / 4 % 2) (a / 8 % 2) (a / 16 % 2) (b % 2) (b / 2 % 2) (b / 4 % 2) (b / 8 % 2) (b / 16 % 2) c := by
  have h0 : a / 2 ^ 0 = a := by simp
  have h1 : b / 2 ^ 0 = b := by simp
  show [_, _, _, _, _, _, _, _, _, _, _] = [_, _, _, _, _, _, _, _, _, _, _]
  rw [h0, h1]
  rfl
def sumNet (k : Nat) : Nat := if k = 5 then 37 else 7 * k + 4
theorem bits_of {s0 s1 s2 s3 s4 k5 S : Int} (t0 : Bit s0) (t1 : Bit s1) (t2 : Bit s2) (t3 : Bit s3) (t4 : Bit s4) (t5 : Bit k5) (h : S = s0 + 2 * s1 + 4 * s2 + 8 * s3 + 16 * s4 + 32 * k5) :
    S % 2 = s0 ∧ S / 2 % 2 = s1 ∧ S / 4 % 2 = s2 ∧ S / 8 % 2 = s3 ∧ S / 16 % 2 = s4 ∧ S / 32 % 2 = k5 := by
  unfold Bit at *
  omega
theorem low5 (a : Int) : a % 32 = a % 2 + 2 * (a / 2 % 2) + 4 * (a / 4 % 2) + 8 * (a / 8 % 2) + 16 * (a / 16 % 2) := by omega
theorem pows (S : Int) : S / 2 ^ 0 = S ∧ S / 2 ^ 1 = S / 2 ∧ S / 2 ^ 2 = S / 4 ∧ S / 2 ^ 3 = S / 8 ∧ S / 2 ^ 4 = S / 16 ∧ S / 2 ^ 5 = S / 32 := by simp
/-- What the law asks of an adder. -/
theorem adds_plain (a b : Int) (weak : Bool) {c : Int} (hc : Bit c) : ∃ (v : List Int) (m : Nat), SettleAns 38 gsA (dsG weak a b c 5) (List.replicate 38 0) = (some (v, m), 0) ∧ v.length = 38 ∧
    ∀ k, k < 6 → v.getD (sumNet k) 0 = 2 + (a % 32 + b % 32 + c) / 2 ^ k % 2 := by
  rw [dsG_eq weak a b c]
  obtain ⟨v, m, h1, h2, h3⟩ := settleA weak (bit_mod a) (bit_mod (a / 2)) (bit_mod (a / 4)) (bit_mod (a / 8)) (bit_mod (a / 16)) (bit_mod b) (bit_mod (b / 2)) (bit_mod (b / 4)) (bit_mod (b / 8)) (bit_mod (b / 16)) hc
  obtain ⟨s0, s1, s2, s3, s4, k5, t0, t1, t2, t3, t4, t5, e0, e1, e2, e3, e4, e5, hs⟩ := sumA (bit_mod a) (bit_mod (a / 2)) (bit_mod (a / 4)) (bit_mod (a / 8)) (bit_mod (a / 16)) (bit_mod b) (bit_mod (b / 2)) (bit_mod (b / 4)) (bit_mod (b / 8)) (bit_mod (b / 16)) hc h3
  refine ⟨v, m, h1, h2, ?_⟩
  have hA := low5 a
  have hB := low5 b
  have hS : a % 32 + b % 32 + c = s0 + 2 * s1 + 4 * s2 + 8 * s3 + 16 * s4 + 32 * k5 := by rw [hA, hB]; exact hs.symm
  obtain ⟨b0, b1, b2, b3, b4, b5⟩ := bits_of t0 t1 t2 t3 t4 t5 hS
  obtain ⟨p0, p1, p2, p3, p4, p5⟩ := pows (a % 32 + b % 32 + c)
  clear h1 h3 hs hA hB hS
  generalize a % 32 + b % 32 + c = S at *
  intro k hk
  have hk2 : k = 0 ∨ k = 1 ∨ k = 2 ∨ k = 3 ∨ k = 4 ∨ k = 5 := by omega
  rcases hk2 with rfl | rfl | rfl | rfl | rfl | rfl
  · rw [p0, b0]; exact e0
  · rw [p1, b1]; exact e1
  · rw [p2, b2]; exact e2
  · rw [p3, b3]; exact e3
  · rw [p4, b4]; exact e4
  · rw [p5, b5]; exact e5
set_option maxHeartbeats 400000 in
theorem bit50 (net v : Int) (weak : Bool) (w : World) :
    Calls Try.prog 50 #[.int .i64 net, .int .i64 v, .bool weak] w fun e w' => e = .returned (.agg #[.int .i64 net, .int .i64 (dv weak (v % 2))]) ∧ Below w.heap.size w w' := by
  have h1 := and1 v
  have hb : 0 ≤ v % 2 ∧ v % 2 < 2 := by omega
  generalize v % 2 = r at *
  obtain ⟨hb0, hb1⟩ := hb
  cases weak
  · have HB : Below w.heap.size w (w.alloc (.cells #[.int .i64 net, .int .i64 (2 + r)] 85)) := (Below.refl _ _).alloc (Nat.le_refl _) _
    have HB1 := Lib.hid HB; clear HB
    go_enter Try.func50, Try.ntmps50
    go_wp2
    exact bodyPost_ret (results_cell_row rfl _ _ w.heap.size 85 #[.int .i64 net, .int .i64 (2 + r)] (0, 0) _ rfl (blk_new _ _) Try.underlying85 rfl (by kernel_rfl)) rfl ⟨rfl, HB1.out⟩
  · have HB : Below w.heap.size w (w.alloc (.cells #[.int .i64 net, .int .i64 (6 + r)] 85)) := (Below.refl _ _).alloc (Nat.le_refl _) _
    have HB1 := Lib.hid HB; clear HB
    go_enter Try.func50, Try.ntmps50
    go_wp2
    exact bodyPost_ret (results_cell_row rfl _ _ w.heap.size 85 #[.int .i64 net, .int .i64 (6 + r)] (0, 0) _ rfl (blk_new _ _) Try.underlying85 rfl (by kernel_rfl)) rfl ⟨rfl, HB1.out⟩
set_option maxHeartbeats 400000 in
theorem sumNet24 (k : Nat) (hk : k < 6) (w : World) :
    Calls Try.prog 24 #[.int .i64 k] w fun e w' => e = .returned (.int .i64 (sumNet k)) ∧ w' = w := by
  by_cases h : k = 5
  · subst h
    go_enter Try.func24, Try.ntmps24
    go_wp2
    go_ret
    exact ⟨rfl, rfl⟩
  · have h1 : ((k : Int) == 5) = false := by simp; omega
    have h2 : Hid (((sumNet k : Nat) : Int) = 7 * k + 4) := Lib.hid (by unfold sumNet; rw [if_neg h]; omega)
    clear h
    go_enter Try.func24, Try.ntmps24
    go_wp2
    go_ret
    refine ⟨ret_int ?_, rfl⟩
    rw [h2.out]
end Go.Proofs.Ytobdhdehmkmjcaa
