/- Clones and comparisons of lists; how a circuit lies in memory. -/
import Derived.Test.YtobdhdehmkmjcaaQ
namespace Go.Proofs.Ytobdhdehmkmjcaa
open Go.RowKit Go.Proofs.YtobdhdehmkmjcaaW.PrintWords Go.Proofs.YtobdhdehmkmjcaaW.PrintLast

theorem cell_spot {w : World} {ad : Addr} {v : Value} (h : w.cell? ad = some v) : ad = ⟨ad.block, ad.off, none⟩ := by
  cases ad with
  | mk b o s =>
    cases s with
    | none => rfl
    | some s =>
      unfold World.cell? at h
      split at h
      · simp at h
      · cases h
theorem reads_at {w : World} {k : IntKind} {A : Option Addr} {n : Nat} {xs : List Int} (h : ReadsInt w k A n xs) (hn : 0 < n) : ∃ b o, A = some ⟨b, o, none⟩ ∧ ∀ j, j < xs.length → w.cell? ⟨b, o + j, none⟩ = some (.int k (xs.getD j 0)) := by
  obtain ⟨ad, rfl, hc⟩ := h.2.2 hn
  have h0 := hc 0 hn
  have hs := cell_spot (show w.cell? ad = _ from h0)
  refine ⟨ad.block, ad.off, congrArg some hs, fun j hj => ?_⟩
  have := hc j (by rw [← h.1]; exact hj)
  rw [hs] at this
  unfold Addr.add at this
  split at this
  · subst_vars; exact this
  · exact this
theorem clone_any (A : Option Addr) (n c : Nat) (xs : List Int) (w : World) (hr : ReadsInt w .i64 A n xs) (hn : 0 < n) (hb : n * 8 ≤ 140737488355328) :
    Calls Try.prog 60 #[.slice A n c] w fun e w' => ∃ v', e = .returned v' ∧ w'.ownsRow w.heap.size 3 1 v' n (nums .i64 xs) ∧ Below w.heap.size w w' := by
  obtain ⟨b, o, rfl, hc⟩ := reads_at hr hn
  have hl := hr.1
  refine (Try.slices_Clone_int b o n c xs w (by omega) hb hc).mono ?_
  rintro e w' ⟨v', rfl, h1, _, h2⟩
  rw [List.take_of_length_le (by omega)] at h1
  exact ⟨v', rfl, h1, h2⟩
theorem equal_any (A B : Option Addr) (n c m d : Nat) (xs ys : List Int) (w : World) (hx : ReadsInt w .i64 A n xs) (hy : ReadsInt w .i64 B m ys) :
    Calls Try.prog 84 #[.slice A n c, .slice B m d] w fun e w' => e = .returned (.bool (sameB xs ys)) ∧ ∃ q, w' = w.drewN q := by
  have h1 := hx.1
  have h2 := hy.1
  by_cases hnm : n = m
  · subst hnm
    rcases Nat.eq_zero_or_pos n with rfl | hn
    · refine (Try.slices_Equal_int_empty A B c 0 d w (by omega)).mono ?_
      rintro e w' ⟨rfl, rfl⟩
      have e1 : xs = [] := List.eq_nil_of_length_eq_zero h1
      have e2 : ys = [] := List.eq_nil_of_length_eq_zero h2
      subst e1 e2
      exact ⟨rfl, 0, rfl⟩
    · obtain ⟨b1, o1, rfl, c1⟩ := reads_at hx hn
      obtain ⟨b2, o2, rfl, c2⟩ := reads_at hy hn
      refine (Try.slices_Equal_int b1 o1 n c b2 o2 n d xs ys w (by omega) (by omega) hx.2.1 hy.2.1 c1 c2).mono ?_
      rintro e w' ⟨rfl, q, rfl⟩
      rw [List.take_of_length_le (by omega), List.take_of_length_le (by omega)]
      refine ⟨ret_bool ?_, q, rfl⟩
      unfold sameB
      by_cases e : xs = ys <;> simp [e]
  · refine (Try.slices_Equal_int_lens A B n c m d w hnm).mono ?_
    rintro e w' ⟨rfl, rfl⟩
    refine ⟨ret_bool ?_, 0, rfl⟩
    unfold sameB
    rw [decide_eq_false]
    exact fun e => hnm (by rw [← h1, ← h2, e])

/-- A gate as data. -/
structure GateL where
  kind : Int
  ins : List Int
  out : Int
  delay : Int
def RdGate (w : World) (ad : Addr) (g : GateL) : Prop :=
  w.cell? ad = some (.int .i64 g.kind) ∧ (∃ A c, w.cell? ⟨ad.block, ad.off + 1, none⟩ = some (.slice A g.ins.length c) ∧ ReadsInt w .i64 A g.ins.length g.ins ∧ g.ins.length ≤ c) ∧ w.cell? ⟨ad.block, ad.off + 2, none⟩ = some (.int .i64 g.out) ∧ w.cell? ⟨ad.block, ad.off + 3, none⟩ = some (.int .i64 g.delay)
def zGate : GateL := ⟨0, [], 0, 0⟩
def RdGates (w : World) (A : Option Addr) (n : Nat) (gs : List GateL) : Prop :=
  gs.length = n ∧ n ≤ 9223372036854775807 ∧ (0 < n → ∃ ad, A = some ad ∧ ∀ i, i < n → RdGate w (ad.add (i * 4)) (gs.getD i zGate))
theorem RdGate.below {w w1 : World} {ad : Addr} {g : GateL} (h : RdGate w ad g) (hb : Below w.heap.size w w1) : RdGate w1 ad g := by
  obtain ⟨h1, ⟨A, c, h2, h3, h4⟩, h5, h6⟩ := h
  exact ⟨pw_cell_below hb h1, ⟨A, c, pw_cell_below hb h2, h3.below hb, h4⟩, pw_cell_below hb h5, pw_cell_below hb h6⟩
theorem RdGates.below {w w1 : World} {A : Option Addr} {n : Nat} {gs : List GateL} (h : RdGates w A n gs) (hb : Below w.heap.size w w1) : RdGates w1 A n gs :=
  ⟨h.1, h.2.1, fun hn => by
    obtain ⟨ad, e, hc⟩ := h.2.2 hn
    exact ⟨ad, e, fun i hi => (hc i hi).below hb⟩⟩
theorem RdGates.at_ {w : World} {A : Option Addr} {n : Nat} {gs : List GateL} (h : RdGates w A n gs) (i : Nat) (hi : i < n) : ∃ ad, A = some ad ∧ RdGate w (ad.add (i * 4)) (gs.getD i zGate) := by
  obtain ⟨ad, e, hc⟩ := h.2.2 (by omega)
  exact ⟨ad, e, hc i hi⟩

def gateOk (nets : Int) (g : GateL) : Bool :=
  decide ((g.ins.length : Int) = inputsF g.kind) && decide (0 ≤ g.out) && decide (g.out < nets) && decide (0 ≤ g.delay) && decide (g.delay ≤ 20) &&
    g.ins.all (fun n => if g.kind = 0 then isVal n else decide (0 ≤ n) && decide (n < nets))
def validF (nets : Int) (gs : List GateL) : Int := if 40 < nets ∨ 60 < gs.length then 3 else if nets < 1 then 1 else if gs.all (gateOk nets) then 0 else 1
end Go.Proofs.Ytobdhdehmkmjcaa
