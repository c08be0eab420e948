/- The known examples. -/
import Derived.Test.YtobdhdehmkmjcaaF
namespace Go.Proofs.Ytobdhdehmkmjcaa
open Go.RowKit Go.Proofs.YtobdhdehmkmjcaaW.PrintWords

theorem resolve_lit (a b r : Int) (W : World) (h : resolveF [a, b] = (r, 0)) :
    Calls Try.prog 11 #[.slice (some ⟨W.heap.size, 0, none⟩) 2 2] (W.alloc (.cells #[.int .i64 a, .int .i64 b] 3)) fun e w' => e = .returned (.tuple #[.int .i64 r, .int .i64 0]) ∧ Below W.heap.size W w' := by
  have hb : Below W.heap.size W (W.alloc (.cells #[.int .i64 a, .int .i64 b] 3)) := (Below.refl _ _).alloc (Nat.le_refl _) _
  refine (resolve_any _ _ _ [a, b] _ (readsLit W 3 [a, b] _ _ 2 rfl rfl rfl (by omega))).mono ?_
  rintro e w' ⟨rfl, h1⟩
  rw [h]
  exact ⟨rfl, hb.trans (h1.mono hb.size)⟩
theorem gate_lit (k a b r : Int) (W : World) (h : gateF k [a, b] = (r, 0)) :
    Calls Try.prog 13 #[.int .i64 k, .slice (some ⟨W.heap.size, 0, none⟩) 2 2] (W.alloc (.cells #[.int .i64 a, .int .i64 b] 3)) fun e w' => e = .returned (.tuple #[.int .i64 r, .int .i64 0]) ∧ Below W.heap.size W w' := by
  have hb : Below W.heap.size W (W.alloc (.cells #[.int .i64 a, .int .i64 b] 3)) := (Below.refl _ _).alloc (Nat.le_refl _) _
  refine (gate_any _ _ _ _ [a, b] _ (readsLit W 3 [a, b] _ _ 2 rfl rfl rfl (by omega))).mono ?_
  rintro e w' ⟨rfl, h1⟩
  rw [h]
  exact ⟨rfl, hb.trans (h1.mono hb.size)⟩

set_option maxHeartbeats 400000 in
theorem known_any (w : World) :
    Calls Try.prog 10 #[] w fun e w' => e = .returned (.bool true) ∧ Below w.heap.size w w' := by
  go_enter Try.func10, Try.ntmps10
  go_wp2_with fail
  refine (resolve_lit 2 7 2 _ (by decide)).mono ?_
  rintro e w1 ⟨rfl, h1⟩
  have H1 := Lib.hid h1; clear h1
  go_wp2_with fail
  refine (resolve_lit 6 7 5 _ (by decide)).mono ?_
  rintro e w2 ⟨rfl, h2⟩
  have H2 := Lib.hid (H1.out.trans (h2.mono H1.out.size)); clear h2 H1
  go_wp2_with fail
  refine (gate_lit 3 6 1 2 _ (by decide)).mono ?_
  rintro e w3 ⟨rfl, h3⟩
  have H3 := Lib.hid (H2.out.trans (h3.mono H2.out.size)); clear h3 H2
  go_wp2
  go_ret
  exact ⟨rfl, H3.out⟩
end Go.Proofs.Ytobdhdehmkmjcaa
