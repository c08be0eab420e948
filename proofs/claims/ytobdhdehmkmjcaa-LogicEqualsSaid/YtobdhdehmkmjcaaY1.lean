/- Drawn regions with two operations that may go first; clones and makes. -/
import Derived.Test.YtobdhdehmkmjcaaX6
namespace Go.Proofs.Ytobdhdehmkmjcaa
set_option linter.unusedVariables false
set_option linter.unusedSimpArgs false
open Go Go.RowKit Go.Proofs.YtobdhdehmkmjcaaW.PrintWords Go.Proofs.YtobdhdehmkmjcaaW.PrintLast

section
variable {P : Program} {ops : Array Oper} {Q : Exit → Act → World → Prop} {md : Region.Mode} {S : World → Prop} {f : Nat}
theorem wpAnyF_two {i j : Nat} {o o' : Oper} {fuel : Nat} {listed : Array Bool} {a : Act} {w : World} (hi : ops[i]? = some o) (hj : ops[j]? = some o') (hr : Region.ready md ops listed = [i, j])
    (h : ∀ K' : Act → World → Prop, (∀ a w, (i ≠ f → S w) → wpAnyF P md ops Q S f fuel (listed.setIfInBounds i true) a w → K' a w) → if Region.wanted o (yielded ops a.tmps) = true then Oper.wp P o a w K' Q else K' (a.put o.dst undef) w)
    (h' : ∀ K' : Act → World → Prop, (∀ a w, (j ≠ f → S w) → wpAnyF P md ops Q S f fuel (listed.setIfInBounds j true) a w → K' a w) → if Region.wanted o' (yielded ops a.tmps) = true then Oper.wp P o' a w K' Q else K' (a.put o'.dst undef) w) : wpAnyF P md ops Q S f (fuel + 1) listed a w :=
  wpAnyF_all hr (by simp) (fun k hk => by
    have hk' : k = i ∨ k = j := by simpa using hk
    rcases hk' with rfl | rfl
    · exact wpOp_step hi (fun K' hK => h K' (fun a w hS hW => hK a w ⟨hS, hW⟩))
    · exact wpOp_step hj (fun K' hK => h' K' (fun a w hS hW => hK a w ⟨hS, hW⟩)))
/-- Where two orders meet again. -/
theorem wpAnyF_fork {σ : Type} (d1 d2 : Option Tmp) (v1 v2 : σ → Value) (F : σ → World → Prop) (fuel' : Nat) (l' : Array Bool) {fuel : Nat} {l : Array Bool} {a : Act} {w : World}
    (hrest : ∀ x W, F x W → wpAnyF P md ops Q S f fuel' l' ((a.put d1 (v1 x)).put d2 (v2 x)) W)
    (h : (∀ x W, F x W → wpAnyF P md ops Q S f fuel' l' ((a.put d1 (v1 x)).put d2 (v2 x)) W) → wpAnyF P md ops Q S f fuel l a w) : wpAnyF P md ops Q S f fuel l a w := h hrest
theorem put_comm {a : Act} {i j : Tmp} (h : i ≠ j) (u v : Value) : (a.put (some i) u).put (some j) v = (a.put (some j) v).put (some i) u := by
  simp only [Act.put]
  congr 1
  exact Array.setIfInBounds_comm _ _ h
end

theorem clone_all (A : Option Addr) (n c : Nat) (xs : List Int) (w : World) (hr : ReadsInt w .i64 A n xs) (hb : n * 8 ≤ 140737488355328) :
    Calls Try.prog 60 #[.slice A n c] w fun e w' => ∃ v', e = .returned v' ∧ w'.ownsRow w.heap.size 3 1 v' n (nums .i64 xs) ∧ Below w.heap.size w w' := by
  rcases Nat.eq_zero_or_pos n with rfl | hn
  · obtain rfl : xs = [] := List.eq_nil_of_length_eq_zero hr.1
    cases A with
    | none =>
      refine (Try.slices_Clone_int_nil 0 c w).mono ?_
      rintro e w' ⟨rfl, rfl⟩
      exact ⟨_, rfl, own_nil _ _ _ _, Below.refl _ _⟩
    | some a =>
      refine (Try.slices_Clone_int_zero a c w).mono ?_
      rintro e w' ⟨v', rfl, h1, _, h2⟩
      exact ⟨v', rfl, h1, h2⟩
  · exact clone_any A n c xs w hr hn hb
theorem make0 (m : Nat) (hn : m * 8 ≤ 281474976710656) (W : World) :
    (Instr.makeSlice 22 (.int .i64 0) (.int .i64 (m : Int))).run Try.prog W = .ok (.slice (some ⟨W.heap.size, 0, none⟩) 0 m) (W.alloc (.cells (madeCells #[.int .i64 0] m) 3)) := by
  obtain ⟨i, hi, hz, hs, hb⟩ := info_parts info3
  have h := run_make (P := Try.prog) W 22 3 i (.int .i64 0) Try.underlying22 hi hz .i64 .i64 0 (m : Int) (Int.le_refl _) (by omega) (by rw [hb]; omega) (by omega)
  rw [hs] at h
  simp at h
  exact h
theorem own_make0 (W : World) (b m : Nat) (hb : b ≤ W.heap.size) (hm : m ≤ 9223372036854775807) :
    (W.alloc (.cells (madeCells #[.int .i64 0] m) 3)).ownsRow b 3 1 (.slice (some ⟨W.heap.size, 0, none⟩) 0 m) 0 (nums .i64 []) :=
  World.ownsRow_made (base := b) (e := 3) (size := 1) W (madeCells #[.int .i64 0] m) m hb (by simpa [maxLen] using hm) (by simp [size_madeCells])
end Go.Proofs.Ytobdhdehmkmjcaa
