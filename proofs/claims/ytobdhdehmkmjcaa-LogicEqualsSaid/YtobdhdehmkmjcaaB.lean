/- Walks of small functions of the logic layer. -/
import Derived.Test.YtobdhdehmkmjcaaProg
import Derived.WalkKit
import Derived.WalkSpells
import Derived.WalkLawsBesides
import Derived.Lib.Hide
import Derived.Deep.RegionWith
import Derived.Test.YtobdhdehmkmjcaaA
namespace Go.Proofs.Ytobdhdehmkmjcaa
open Go.RowKit Go.Proofs.YtobdhdehmkmjcaaW.PrintWords

set_option maxHeartbeats 400000 in
theorem meetc_any (v a b : Int) (pa pb : Addr) (w : World) (ha : w.cell? pa = some (.int .i64 a)) (hb : w.cell? pb = some (.int .i64 b)) :
    Calls Try.prog 97 #[.int .i64 v, .pointer (some pa), .pointer (some pb)] w fun e w' => e = .returned (.bool (a == v || b == v)) ∧ w = w' := by
  go_enter Try.func97, Try.ntmps97
  go_wp2
  all_goals (go_ret; exact ⟨by simp [*], rfl⟩)

def meetF (a b : Int) : Int :=
  if (a == 0 || b == 0) = true then 0 else if (a == 8 || b == 8) = true then 1 else if a = b then a
  else if (a == 1 || b == 1) = true then 1 else if (a == 2 || b == 2) = true then (if (a == 3 || b == 3) = true then 1 else 2)
  else if (a == 3 || b == 3) = true then 3 else if a = 4 then b else if b = 4 then a else 5

set_option maxHeartbeats 400000 in
theorem meet_any (a b : Int) (w : World) :
    Calls Try.prog 69 #[.int .i64 a, .int .i64 b] w fun e w' => e = .returned (.int .i64 (meetF a b)) ∧ Below w.heap.size w w' := by
  have hB : Below w.heap.size w ((w.alloc (.cells #[.int .i64 a] 3)).alloc (.cells #[.int .i64 b] 3)) := (((Below.refl _ _).alloc (Nat.le_refl _) _).alloc (by simp) _)
  go_enter Try.func69, Try.ntmps69
  go_wp2_with (go_at_call 97; refine (meetc_any _ a b _ _ _ (by go_simp) (by go_simp)).mono ?_; rintro e w' ⟨rfl, rfl⟩)
  all_goals (go_ret; refine ⟨?_, hB⟩)
  all_goals (refine ret_int ?_; unfold meetF)
  all_goals (first | (simp_all; done) | grind)

end Go.Proofs.Ytobdhdehmkmjcaa
