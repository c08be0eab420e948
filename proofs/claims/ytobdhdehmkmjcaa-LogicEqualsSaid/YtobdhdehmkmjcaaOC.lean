/- Circuits and drives that come in are read. -/
import Derived.Test.YtobdhdehmkmjcaaX5
import Derived.Lib.SmallJoins
import Derived.Deep.Slices
import Derived.WalkKit
import Derived.OpenShut
import Derived.DataReads
import Derived.SizedLaws
namespace Go.Proofs.Ytobdhdehmkmjcaa
set_option linter.unusedVariables false
set_option linter.unusedSimpArgs false
open Go.ChangeShapes Go.WideShapes Go.ChangeAt Go.RowKit Go.Proofs.YtobdhdehmkmjcaaW.PrintWords Go.Proofs.YtobdhdehmkmjcaaW.PrintLast

set_option maxRecDepth 100000
theorem list2 {α : Type} {cs : List α} (h : cs.length = 2) : ∃ a b, cs = [a, b] := by
  match cs, h with
  | [a, b], _ => exact ⟨a, b, rfl⟩
theorem list4 {α : Type} {cs : List α} (h : cs.length = 4) : ∃ a b c d, cs = [a, b, c, d] := by
  match cs, h with
  | [a, b, c, d], _ => exact ⟨a, b, c, d, rfl⟩
section
variable {H : Type} {enc : TypeId × Value → H} {w : World}

theorem ints_read {fuel : Nat} {v : Value} {x : DataW H × List MemPlace} (h : DataW.trod enc Try.prog w 0 (fun _ => true) true fuel 22 [v] = some x) :
    ∃ A l c xs, v = .slice A l c ∧ l ≤ c ∧ ReadsInt w .i64 A l xs := by
  rcases open_ints Try.underlying22 Try.underlying3 (by kernel_rfl) h with ⟨hcs, _⟩ | ⟨x, l, c, zs, hcs, _, hl, hm, hz, _, hcell, hwz⟩
  · simp at hcs
    exact ⟨none, 0, 0, [], hcs, Nat.le_refl _, rfl, by simp, fun h => by omega⟩
  · simp at hcs
    simp at hz
    refine ⟨some x, l, c, zs.take l, hcs, hl, by simp; omega, by simp only [maxLen] at hm; omega, fun h0 => ⟨x, rfl, fun i hi => ?_⟩⟩
    have := hcell i (by omega)
    rw [this]
    simp [rdOf, List.getD_eq_getElem?_getD, List.getElem?_take, hi]

theorem gate_read {fuel : Nat} {ad : Addr} {cs : List Value} {x : DataW H × List MemPlace} (hc : w.cells? 0 ad 4 = some cs) (h : DataW.trod enc Try.prog w 0 (fun _ => true) true fuel 88 cs = some x) :
    ∃ g, RdGate w ad g := by
  obtain ⟨_, hl, hcell⟩ := World.cells?_some hc
  obtain ⟨y0, y1, y2, y3, n, _, _, h0, h1, h2, h3⟩ := Go.Joins.trod_struct4 Try.underlying88 h
  obtain ⟨c0, c1, c2, c3, rfl⟩ := list4 hl
  obtain ⟨k, e0, _, _⟩ := DataW.trod_int Try.underlying3 h0
  obtain ⟨A, l, c, xs, e1, hle, hr⟩ := ints_read (v := c1) h1
  obtain ⟨o, e2, _, _⟩ := DataW.trod_int Try.underlying3 h2
  obtain ⟨d, e3, _, _⟩ := DataW.trod_int Try.underlying3 h3
  have p3 : Try.prog.cellsOf 3 = 1 := by kernel_rfl
  simp only [p3, List.drop_zero, List.drop_succ_cons, List.take_succ_cons, List.take_zero, List.cons.injEq, and_true] at e0 e2 e3
  subst e0 e1 e2 e3
  have q0 := hcell 0 (by omega)
  have q1 := hcell 1 (by omega)
  have q2 := hcell 2 (by omega)
  have q3 := hcell 3 (by omega)
  have hl2 : l = xs.length := hr.1.symm
  subst hl2
  refine ⟨⟨k, xs, o, d⟩, ?_, ⟨A, c, ?_, hr, hle⟩, ?_, ?_⟩
  · have := q0.trans rfl
    rwa [show ad.add 0 = ad by simp [Addr.add]] at this
  · rw [show (⟨ad.block, ad.off + 1, none⟩ : Addr) = ad.add 1 by simp [Addr.add]]
    exact q1.trans rfl
  · rw [show (⟨ad.block, ad.off + 2, none⟩ : Addr) = ad.add 2 by simp [Addr.add]]
    exact q2.trans rfl
  · rw [show (⟨ad.block, ad.off + 3, none⟩ : Addr) = ad.add 3 by simp [Addr.add]]
    exact q3.trans rfl

theorem drive_read {fuel : Nat} {ad : Addr} {cs : List Value} {x : DataW H × List MemPlace} (hc : w.cells? 0 ad 2 = some cs) (h : DataW.trod enc Try.prog w 0 (fun _ => true) true fuel 85 cs = some x) :
    ∃ g, RdDrive w ad g := by
  obtain ⟨_, hl, hcell⟩ := World.cells?_some hc
  obtain ⟨y0, y1, n, _, _, h0, h1⟩ := trod_struct2 Try.underlying85 h
  obtain ⟨c0, c1, rfl⟩ := list2 hl
  obtain ⟨k, e0, _, _⟩ := DataW.trod_int Try.underlying3 h0
  obtain ⟨o, e1, _, _⟩ := DataW.trod_int Try.underlying3 h1
  have p3 : Try.prog.cellsOf 3 = 1 := by kernel_rfl
  simp only [p3, List.drop_zero, List.drop_succ_cons, List.take_succ_cons, List.take_zero, List.cons.injEq, and_true] at e0 e1
  subst e0 e1
  have q0 := hcell 0 (by omega)
  have q1 := hcell 1 (by omega)
  refine ⟨⟨k, o⟩, ?_, ?_⟩
  · have := q0.trans rfl
    rwa [show ad.add 0 = ad by simp [Addr.add]] at this
  · rw [show (⟨ad.block, ad.off + 1, none⟩ : Addr) = ad.add 1 by simp [Addr.add]]
    exact q1.trans rfl
theorem choose_at {α : Type} {P : Nat → α → Prop} (z : α) {n : Nat} (h : ∀ i, i < n → ∃ y, P i y) : ∃ l : List α, l.length = n ∧ ∀ i, i < n → P i (l.getD i z) := by
  induction n with
  | zero => exact ⟨[], rfl, fun i hi => absurd hi (Nat.not_lt_zero _)⟩
  | succ n ih =>
    obtain ⟨l, hl, hp⟩ := ih (fun i hi => h i (by omega))
    obtain ⟨y, hy⟩ := h n (by omega)
    refine ⟨l ++ [y], by simp [hl], fun i hi => ?_⟩
    by_cases e : i < n
    · have := hp i e
      rwa [List.getD_eq_getElem?_getD, List.getElem?_append_left (by omega), ← List.getD_eq_getElem?_getD]
    · obtain rfl : i = n := by omega
      rw [List.getD_eq_getElem?_getD, List.getElem?_append_right (by omega)]
      simpa [hl] using hy
theorem gates_read {fuel : Nat} {v : Value} {x : DataW H × List MemPlace} (h : DataW.trod enc Try.prog w 0 (fun _ => true) true fuel 37 [v] = some x) :
    ∃ A n c gs, v = .slice A n c ∧ n ≤ c ∧ RdGates w A n gs := by
  rcases Go.Deep.open_slice Try.underlying37 h with ⟨hcs, _⟩ | ⟨a, len, cap, m, n, D, Pl, hcs, _, hl, hm, hmm, _, hx⟩
  · simp at hcs
    exact ⟨none, 0, 0, [], hcs, Nat.le_refl _, rfl, by simp, fun h => by omega⟩
  · simp at hcs hmm
    have p88 : Try.prog.cellsOf 88 = 4 := by kernel_rfl
    rw [p88] at hx
    obtain ⟨gs, hgl, hgs⟩ := choose_at (P := fun i g => RdGate w (a.add (i * 4)) g) zGate (n := len) (fun i hi => by
      obtain ⟨cs', h1, h2⟩ := hx i (by omega)
      exact gate_read h1 h2)
    exact ⟨some a, len, cap, gs, hcs, hl, hgl, by simp only [maxLen] at hm; omega, fun _ => ⟨a, rfl, hgs⟩⟩
theorem drives_read {fuel : Nat} {v : Value} {x : DataW H × List MemPlace} (h : DataW.trod enc Try.prog w 0 (fun _ => true) true fuel 40 [v] = some x) :
    ∃ A n c ds, v = .slice A n c ∧ n ≤ c ∧ RdDrives w A n ds := by
  rcases Go.Deep.open_slice Try.underlying40 h with ⟨hcs, _⟩ | ⟨a, len, cap, m, n, D, Pl, hcs, _, hl, hm, hmm, _, hx⟩
  · simp at hcs
    exact ⟨none, 0, 0, [], hcs, Nat.le_refl _, rfl, by simp, fun h => by omega⟩
  · simp at hcs hmm
    have p85 : Try.prog.cellsOf 85 = 2 := by kernel_rfl
    rw [p85] at hx
    obtain ⟨gs, hgl, hgs⟩ := choose_at (P := fun i g => RdDrive w (a.add (i * 2)) g) zDrive (n := len) (fun i hi => by
      obtain ⟨cs', h1, h2⟩ := hx i (by omega)
      exact drive_read h1 h2)
    exact ⟨some a, len, cap, gs, hcs, hl, hgl, by simp only [maxLen] at hm; omega, fun _ => ⟨a, rfl, hgs⟩⟩
/-- A circuit by value. -/
theorem circuit_read {r : Reach} {b0 : Nat} {v : Value} {d : DataW H} {p : List MemPlace} (hv : Value.okWide Try.prog w r b0 39 v) (h : DataW.Trod enc Try.prog w 0 (fun _ => true) true 39 v d p) :
    ∃ nets A n c gs, v = .agg #[.int .i64 nets, .slice A n c] ∧ n ≤ c ∧ RdGates w A n gs := by
  obtain ⟨v0, v1, y0, y1, n, rfl, _, _, h0, h1⟩ := Go.Joins.open_agg2 Try.underlying39 (by kernel_rfl) (by kernel_rfl) hv h
  obtain ⟨k, e0, _, _⟩ := DataW.trod_int Try.underlying3 h0
  obtain ⟨A, m, c, gs, rfl, hle, hg⟩ := gates_read h1
  simp only [List.cons.injEq, and_true] at e0
  subst e0
  exact ⟨k, A, m, c, gs, rfl, hle, hg⟩
theorem drives_arg {r : Reach} {b0 : Nat} {v : Value} {d : DataW H} {p : List MemPlace} (hv : Value.okWide Try.prog w r b0 40 v) (h : DataW.Trod enc Try.prog w 0 (fun _ => true) true 40 v d p) :
    ∃ A n c ds, v = .slice A n c ∧ n ≤ c ∧ RdDrives w A n ds := by
  obtain ⟨A, n, c, rfl⟩ := okWide_slice Try.underlying40 hv
  obtain ⟨fuel, hf⟩ := h
  obtain ⟨A', n', c', ds, e, hle, hd⟩ := drives_read (v := .slice A n c) hf
  injection e with e1 e2 e3
  subst e1 e2 e3
  exact ⟨A, n, c, ds, rfl, hle, hd⟩
theorem ints_arg {r : Reach} {b0 : Nat} {v : Value} {d : DataW H} {p : List MemPlace} (hv : Value.okWide Try.prog w r b0 22 v) (h : DataW.Trod enc Try.prog w 0 (fun _ => true) true 22 v d p) :
    ∃ A n c xs, v = .slice A n c ∧ n ≤ c ∧ ReadsInt w .i64 A n xs := by
  obtain ⟨A, n, c, rfl⟩ := okWide_slice Try.underlying22 hv
  obtain ⟨fuel, hf⟩ := h
  obtain ⟨A', n', c', ds, e, hle, hd⟩ := ints_read (v := .slice A n c) hf
  injection e with e1 e2 e3
  subst e1 e2 e3
  exact ⟨A, n, c, ds, rfl, hle, hd⟩
/-- A slice that comes in is no longer than its weight allows. -/
theorem sized_any {P : Program} {base : Nat} {spare : Nat → Bool} {held : Bool} {t e : TypeId} {a : Option Addr} {len cap : Nat} {d : DataW H} {ps : List MemPlace} {ts : List TypeId} {ds : List (DataW H)} {j : Nat}
    (hsz : (DataW.weightsEach P ts ds).all (· ≤ reachBytes) = true) (ht : ts[j]? = some t) (hd : ds[j]? = some d) (hu : P.underlying t = some (.slice e)) {B : Nat} (hB : P.bytesOf e = B)
    (h : DataW.Trod enc P w base spare held t (.slice a len cap) d ps) : len * B ≤ 140737488351232 := by
  obtain ⟨fuel, hf⟩ := h
  rcases Go.Deep.open_slice hu hf with ⟨hcs, _⟩ | ⟨x, l, c, m, n, D, Pl, hcs, _, hl, _, hm, hx, _⟩
  · simp [Value.cells] at hcs
    obtain ⟨rfl, rfl, rfl⟩ := hcs
    simp
  · simp [Value.cells] at hcs
    obtain ⟨rfl, rfl, rfl⟩ := hcs
    simp only [Prod.mk.injEq] at hx
    obtain ⟨rfl, _⟩ := hx
    have := sized_slice hsz ht hd hu
    rw [hB] at this
    simp only [List.length_map, List.length_range] at this
    have h2 : reachBytes = 140737488351232 := by decide
    rw [h2] at this
    exact Nat.le_trans (Nat.mul_le_mul_right _ (Nat.le_add_right _ _)) this
end
end Go.Proofs.Ytobdhdehmkmjcaa
