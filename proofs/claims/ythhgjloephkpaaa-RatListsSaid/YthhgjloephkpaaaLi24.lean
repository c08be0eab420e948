/- Words and walks for the row RowRatLists, put together: LXR. -/
import Derived.Test.YthhgjloephkpaaaProg
import Derived.Test.YthhgjloephkpaaaWSized
import Derived.WalkKit
import Derived.ProofKit
import Derived.OpenShut
import Derived.ChangeOld
import Derived.Below
import Derived.SizedLaws
import Derived.Lib.SmallJoins
import Derived.DataReads
import Derived.Test.YthhgjloephkpaaaLi23
import Derived.Deep.Slices
namespace Go.Proofs.Ythhgjloephkpaaa
set_option linter.unusedVariables false
set_option linter.unusedSimpArgs false
open Go Go.Joins Go.ChangeShapes Go.WideShapes Go.ChangeAt Go.RowKit Go.Proofs.YthhgjloephkpaaaW.PrintWords Go.Proofs.YthhgjloephkpaaaW.PrintLast
section
variable {H : Type} {enc : TypeId × Value → H} {w : World}
/-- A slice of fractions in a world. -/
def RdRats (w : World) (A : Option Addr) (n : Nat) (l : List (Int × Int)) : Prop := l.length = n ∧ (0 < n → ∃ ad, A = some ad ∧ ∀ i, i < n → w.cell? (ad.add (2 * i)) = some (.int .i64 (l.getD i (0, 0)).1) ∧ w.cell? ((ad.add (2 * i)).add 1) = some (.int .i64 (l.getD i (0, 0)).2))
theorem list2' {α : Type} {l : List α} (h : l.length = 2) : ∃ a b, l = [a, b] := by
  match l, h with
  | [a, b], _ => exact ⟨a, b, rfl⟩
set_option maxRecDepth 100000 in
theorem rat_read {fuel : Nat} {ad : Addr} {cs : List Value} {x : DataW H × List MemPlace} (hc : w.cells? 0 ad 2 = some cs) (h : DataW.trod enc Try.prog w 0 (fun _ => true) true fuel 23 cs = some x) :
    ∃ g : Int × Int, w.cell? ad = some (.int .i64 g.1) ∧ w.cell? (ad.add 1) = some (.int .i64 g.2) := by
  obtain ⟨_, hl, hcell⟩ := World.cells?_some hc
  obtain ⟨y0, y1, n, _, _, h0, h1⟩ := trod_struct2 Try.underlying23 h
  obtain ⟨c0, c1, rfl⟩ := list2' hl
  obtain ⟨k, e0, _, _⟩ := DataW.trod_int Try.underlying3 h0
  obtain ⟨o, e1, _, _⟩ := DataW.trod_int Try.underlying3 h1
  have p3 : Try.prog.cellsOf 3 = 1 := by kernel_rfl
  simp only [p3, List.drop_zero, List.drop_succ_cons, List.take_succ_cons, List.take_zero, List.cons.injEq, and_true] at e0 e1
  subst e0 e1
  have q0 := hcell 0 (by omega)
  have q1 := hcell 1 (by omega)
  refine ⟨(k, o), ?_, ?_⟩
  · have := q0.trans rfl
    rwa [show ad.add 0 = ad by simp [Addr.add]] at this
  · exact q1.trans rfl
theorem choose_at' {α : Type} {P : Nat → α → Prop} (z : α) {n : Nat} (h : ∀ i, i < n → ∃ y, P i y) : ∃ l : List α, l.length = n ∧ ∀ i, i < n → P i (l.getD i z) := by
  induction n with
  | zero => exact ⟨[], rfl, fun i hi => absurd hi (Nat.not_lt_zero _)⟩
  | succ n ih =>
    obtain ⟨l, hl, hp⟩ := ih (fun i hi => h i (by omega))
    obtain ⟨y, hy⟩ := h n (by omega)
    refine ⟨l ++ [y], by simp [hl], fun i hi => ?_⟩
    by_cases e : i < n
    · have := hp i e
      rwa [List.getD_eq_getElem?_getD, List.getElem?_append_left (by omega), ← List.getD_eq_getElem?_getD]
    · obtain rfl : i = n := by omega
      rw [List.getD_eq_getElem?_getD, List.getElem?_append_right (by omega)]
      simpa [hl] using hy
set_option maxRecDepth 100000 in
theorem rats_read {fuel : Nat} {v : Value} {x : DataW H × List MemPlace} (h : DataW.trod enc Try.prog w 0 (fun _ => true) true fuel 54 [v] = some x) :
    ∃ A n c ds, v = .slice A n c ∧ n ≤ c ∧ RdRats w A n ds := by
  rcases Go.Deep.open_slice Try.underlying54 h with ⟨hcs, _⟩ | ⟨a, len, cap, m, n, D, Pl, hcs, _, hl, hm, hmm, _, hx⟩
  · simp at hcs
    exact ⟨none, 0, 0, [], hcs, Nat.le_refl _, rfl, fun h => by omega⟩
  · simp at hcs hmm
    have p23 : Try.prog.cellsOf 23 = 2 := by kernel_rfl
    rw [p23] at hx
    obtain ⟨gs, hgl, hgs⟩ := choose_at' (P := fun i (g : Int × Int) => w.cell? (a.add (i * 2)) = some (.int .i64 g.1) ∧ w.cell? ((a.add (i * 2)).add 1) = some (.int .i64 g.2)) (0, 0) (n := len) (fun i hi => by
      obtain ⟨cs', h1, h2⟩ := hx i (by omega)
      exact rat_read h1 h2)
    exact ⟨some a, len, cap, gs, hcs, hl, hgl, fun _ => ⟨a, rfl, fun i hi => by rw [Nat.mul_comm 2 i]; exact hgs i hi⟩⟩
set_option maxRecDepth 100000 in
theorem rats_arg {r : Reach} {b0 : Nat} {v : Value} {d : DataW H} {p : List MemPlace} (hv : Value.okWide Try.prog w r b0 54 v) (h : DataW.Trod enc Try.prog w 0 (fun _ => true) true 54 v d p) :
    ∃ A n c ds, v = .slice A n c ∧ n ≤ c ∧ RdRats w A n ds := by
  obtain ⟨A, n, c, rfl⟩ := okWide_slice Try.underlying54 hv
  obtain ⟨fuel, hf⟩ := h
  obtain ⟨A', n', c', ds, e, hle, hd⟩ := rats_read (v := .slice A n c) hf
  injection e with e1 e2 e3
  subst e1 e2 e3
  exact ⟨A, n, c, ds, rfl, hle, hd⟩
/-- A slice that comes in is no longer than its weight allows. -/
theorem sized_any {P : Program} {base : Nat} {spare : Nat → Bool} {held : Bool} {t e : TypeId} {a : Option Addr} {len cap : Nat} {d : DataW H} {ps : List MemPlace} {ts : List TypeId} {ds : List (DataW H)} {j : Nat}
    (hsz : (DataW.weightsEach P ts ds).all (· ≤ reachBytes) = true) (ht : ts[j]? = some t) (hd : ds[j]? = some d) (hu : P.underlying t = some (.slice e)) {B : Nat} (hB : P.bytesOf e = B)
    (h : DataW.Trod enc P w base spare held t (.slice a len cap) d ps) : len * B ≤ 140737488351232 := by
  obtain ⟨fuel, hf⟩ := h
  rcases Go.Deep.open_slice hu hf with ⟨hcs, _⟩ | ⟨x, l, c, m, n, D, Pl, hcs, _, hl, _, hm, hx, _⟩
  · simp [Value.cells] at hcs
    obtain ⟨rfl, rfl, rfl⟩ := hcs
    simp
  · simp [Value.cells] at hcs
    obtain ⟨rfl, rfl, rfl⟩ := hcs
    simp only [Prod.mk.injEq] at hx
    obtain ⟨rfl, _⟩ := hx
    have := sized_slice hsz ht hd hu
    rw [hB] at this
    simp only [List.length_map, List.length_range] at this
    have h2 : reachBytes = 140737488351232 := by decide
    rw [h2] at this
    exact Nat.le_trans (Nat.mul_le_mul_right _ (Nat.le_add_right _ _)) this
theorem RdRats.rep {A : Option Addr} {n c : Nat} {l : List (Int × Int)} {γ : Nat → Nat} (h : RdRats w A n l) (hl : n ≤ c) (hy : n * 16 ≤ 140737488351232) : (Lx.Lv l).Rep γ (Lx.Kst.of w) (.slice A n c) := by
  refine Lx.vl ⟨h.1, hl, by omega, h.2⟩ fun ad h0 e => ?_
  obtain ⟨ad', e', hc⟩ := h.2 h0
  rw [e] at e'
  injection e' with e'
  subst e'
  have h1 := (hc 0 h0).1
  show ad.block < w.heap.size
  rcases Nat.lt_or_ge ad.block w.heap.size with h2 | h2
  · exact h2
  · unfold World.cell? at h1
    rw [Lx.addr_block, Array.getElem?_eq_none h2] at h1
    cases h1
theorem lists9 {A B : Option Addr} {n c n' c' : Nat} {l m : List (Int × Int)} (h : RdRats w A n l) (hl : n ≤ c) (hy : n * 16 ≤ 140737488351232) (h' : RdRats w B n' m) (hl' : n' ≤ c') (hy' : n' * 16 ≤ 140737488351232) :
    Calls Try.prog 9 #[.slice A n c, .slice B n' c'] w (RetV w (.bool true)) :=
  Lx.law_run (vs := [_, _]) (Lx.s9 (l := l) (m := m)) ⟨_, _, rfl, h.rep hl hy, _, _, rfl, h'.rep hl' hy', rfl⟩
end
end Go.Proofs.Ythhgjloephkpaaa
