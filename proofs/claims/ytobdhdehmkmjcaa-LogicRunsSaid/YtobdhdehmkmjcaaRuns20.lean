/- Words and walks for the row RowLogicRuns, put together: OC, MR7. -/
import Derived.Test.YtobdhdehmkmjcaaRuns2
import Derived.Lib.SmallJoins
import Derived.Deep.Slices
import Derived.WalkKit
import Derived.OpenShut
import Derived.DataReads
import Derived.SizedLaws
import Derived.Test.YtobdhdehmkmjcaaRunsMR6
import Derived.Test.YtobdhdehmkmjcaaRuns1
import Derived.Deep.Strs
namespace Go.Proofs.Ytobdhdehmkmjcaa
set_option linter.unusedVariables false
set_option linter.unusedSimpArgs false
open Go.ChangeShapes Go.WideShapes Go.ChangeAt Go.RowKit Go.Proofs.YtobdhdehmkmjcaaW.PrintWords Go.Proofs.YtobdhdehmkmjcaaW.PrintLast

set_option maxRecDepth 100000
theorem list4 {α : Type} {cs : List α} (h : cs.length = 4) : ∃ a b c d, cs = [a, b, c, d] := by
  match cs, h with
  | [a, b, c, d], _ => exact ⟨a, b, c, d, rfl⟩
section
variable {H : Type} {enc : TypeId × Value → H} {w : World}

theorem ints_read {fuel : Nat} {v : Value} {x : DataW H × List MemPlace} (h : DataW.trod enc Try.prog w 0 (fun _ => true) true fuel 22 [v] = some x) :
    ∃ A l c xs, v = .slice A l c ∧ l ≤ c ∧ ReadsInt w .i64 A l xs := by
  rcases open_ints Try.underlying22 Try.underlying3 (by kernel_rfl) h with ⟨hcs, _⟩ | ⟨x, l, c, zs, hcs, _, hl, hm, hz, _, hcell, hwz⟩
  · simp at hcs
    exact ⟨none, 0, 0, [], hcs, Nat.le_refl _, rfl, by simp, fun h => by omega⟩
  · simp at hcs
    simp at hz
    refine ⟨some x, l, c, zs.take l, hcs, hl, by simp; omega, by simp only [maxLen] at hm; omega, fun h0 => ⟨x, rfl, fun i hi => ?_⟩⟩
    have := hcell i (by omega)
    rw [this]
    simp [rdOf, List.getD_eq_getElem?_getD, List.getElem?_take, hi]

theorem gate_read {fuel : Nat} {ad : Addr} {cs : List Value} {x : DataW H × List MemPlace} (hc : w.cells? 0 ad 4 = some cs) (h : DataW.trod enc Try.prog w 0 (fun _ => true) true fuel 88 cs = some x) :
    ∃ g, RdGate w ad g := by
  obtain ⟨_, hl, hcell⟩ := World.cells?_some hc
  obtain ⟨y0, y1, y2, y3, n, _, _, h0, h1, h2, h3⟩ := Go.Joins.trod_struct4 Try.underlying88 h
  obtain ⟨c0, c1, c2, c3, rfl⟩ := list4 hl
  obtain ⟨k, e0, _, _⟩ := DataW.trod_int Try.underlying3 h0
  obtain ⟨A, l, c, xs, e1, hle, hr⟩ := ints_read (v := c1) h1
  obtain ⟨o, e2, _, _⟩ := DataW.trod_int Try.underlying3 h2
  obtain ⟨d, e3, _, _⟩ := DataW.trod_int Try.underlying3 h3
  have p3 : Try.prog.cellsOf 3 = 1 := by kernel_rfl
  simp only [p3, List.drop_zero, List.drop_succ_cons, List.take_succ_cons, List.take_zero, List.cons.injEq, and_true] at e0 e2 e3
  subst e0 e1 e2 e3
  have q0 := hcell 0 (by omega)
  have q1 := hcell 1 (by omega)
  have q2 := hcell 2 (by omega)
  have q3 := hcell 3 (by omega)
  have hl2 : l = xs.length := hr.1.symm
  subst hl2
  refine ⟨⟨k, xs, o, d⟩, ?_, ⟨A, c, ?_, hr, hle⟩, ?_, ?_⟩
  · have := q0.trans rfl
    rwa [show ad.add 0 = ad by simp [Addr.add]] at this
  · rw [show (⟨ad.block, ad.off + 1, none⟩ : Addr) = ad.add 1 by simp [Addr.add]]
    exact q1.trans rfl
  · rw [show (⟨ad.block, ad.off + 2, none⟩ : Addr) = ad.add 2 by simp [Addr.add]]
    exact q2.trans rfl
  · rw [show (⟨ad.block, ad.off + 3, none⟩ : Addr) = ad.add 3 by simp [Addr.add]]
    exact q3.trans rfl

theorem choose_at {α : Type} {P : Nat → α → Prop} (z : α) {n : Nat} (h : ∀ i, i < n → ∃ y, P i y) : ∃ l : List α, l.length = n ∧ ∀ i, i < n → P i (l.getD i z) := by
  induction n with
  | zero => exact ⟨[], rfl, fun i hi => absurd hi (Nat.not_lt_zero _)⟩
  | succ n ih =>
    obtain ⟨l, hl, hp⟩ := ih (fun i hi => h i (by omega))
    obtain ⟨y, hy⟩ := h n (by omega)
    refine ⟨l ++ [y], by simp [hl], fun i hi => ?_⟩
    by_cases e : i < n
    · have := hp i e
      rwa [List.getD_eq_getElem?_getD, List.getElem?_append_left (by omega), ← List.getD_eq_getElem?_getD]
    · obtain rfl : i = n := by omega
      rw [List.getD_eq_getElem?_getD, List.getElem?_append_right (by omega)]
      simpa [hl] using hy
theorem gates_read {fuel : Nat} {v : Value} {x : DataW H × List MemPlace} (h : DataW.trod enc Try.prog w 0 (fun _ => true) true fuel 37 [v] = some x) :
    ∃ A n c gs, v = .slice A n c ∧ n ≤ c ∧ RdGates w A n gs := by
  rcases Go.Deep.open_slice Try.underlying37 h with ⟨hcs, _⟩ | ⟨a, len, cap, m, n, D, Pl, hcs, _, hl, hm, hmm, _, hx⟩
  · simp at hcs
    exact ⟨none, 0, 0, [], hcs, Nat.le_refl _, rfl, by simp, fun h => by omega⟩
  · simp at hcs hmm
    have p88 : Try.prog.cellsOf 88 = 4 := by kernel_rfl
    rw [p88] at hx
    obtain ⟨gs, hgl, hgs⟩ := choose_at (P := fun i g => RdGate w (a.add (i * 4)) g) zGate (n := len) (fun i hi => by
      obtain ⟨cs', h1, h2⟩ := hx i (by omega)
      exact gate_read h1 h2)
    exact ⟨some a, len, cap, gs, hcs, hl, hgl, by simp only [maxLen] at hm; omega, fun _ => ⟨a, rfl, hgs⟩⟩
/-- A circuit by value. -/
theorem circuit_read {r : Reach} {b0 : Nat} {v : Value} {d : DataW H} {p : List MemPlace} (hv : Value.okWide Try.prog w r b0 39 v) (h : DataW.Trod enc Try.prog w 0 (fun _ => true) true 39 v d p) :
    ∃ nets A n c gs, v = .agg #[.int .i64 nets, .slice A n c] ∧ n ≤ c ∧ RdGates w A n gs := by
  obtain ⟨v0, v1, y0, y1, n, rfl, _, _, h0, h1⟩ := Go.Joins.open_agg2 Try.underlying39 (by kernel_rfl) (by kernel_rfl) hv h
  obtain ⟨k, e0, _, _⟩ := DataW.trod_int Try.underlying3 h0
  obtain ⟨A, m, c, gs, rfl, hle, hg⟩ := gates_read h1
  simp only [List.cons.injEq, and_true] at e0
  subst e0
  exact ⟨k, A, m, c, gs, rfl, hle, hg⟩
/-- A slice that comes in is no longer than its weight allows. -/
theorem sized_any {P : Program} {base : Nat} {spare : Nat → Bool} {held : Bool} {t e : TypeId} {a : Option Addr} {len cap : Nat} {d : DataW H} {ps : List MemPlace} {ts : List TypeId} {ds : List (DataW H)} {j : Nat}
    (hsz : (DataW.weightsEach P ts ds).all (· ≤ reachBytes) = true) (ht : ts[j]? = some t) (hd : ds[j]? = some d) (hu : P.underlying t = some (.slice e)) {B : Nat} (hB : P.bytesOf e = B)
    (h : DataW.Trod enc P w base spare held t (.slice a len cap) d ps) : len * B ≤ 140737488351232 := by
  obtain ⟨fuel, hf⟩ := h
  rcases Go.Deep.open_slice hu hf with ⟨hcs, _⟩ | ⟨x, l, c, m, n, D, Pl, hcs, _, hl, _, hm, hx, _⟩
  · simp [Value.cells] at hcs
    obtain ⟨rfl, rfl, rfl⟩ := hcs
    simp
  · simp [Value.cells] at hcs
    obtain ⟨rfl, rfl, rfl⟩ := hcs
    simp only [Prod.mk.injEq] at hx
    obtain ⟨rfl, _⟩ := hx
    have := sized_slice hsz ht hd hu
    rw [hB] at this
    simp only [List.length_map, List.length_range] at this
    have h2 : reachBytes = 140737488351232 := by decide
    rw [h2] at this
    exact Nat.le_trans (Nat.mul_le_mul_right _ (Nat.le_add_right _ _)) this
end
end Go.Proofs.Ytobdhdehmkmjcaa
namespace Go.Proofs.Ytobdhdehmkmjcaa
set_option linter.unusedVariables false
set_option linter.unusedSimpArgs false
open Go Rows0 Go.RowKit Go.Proofs.YtobdhdehmkmjcaaW.PrintWords Go.Proofs.YtobdhdehmkmjcaaW.PrintLast

def edR : OutR → List EdgeL
  | .err _ => []
  | .ok ed _ => ed
def ntR : OutR → List Int
  | .err _ => []
  | .ok _ nets => nets
def erR : OutR → Int
  | .err x => x
  | .ok _ _ => 0
theorem runOut_reads {r : OutR} {w : World} {e : Ending} (h : runOut r w e) : ∃ A c B d, e = .returned (.tuple #[.slice A (edR r).length c, .slice B (ntR r).length d, .int .i64 (erR r)]) ∧ RdEdges w A (edR r).length (edR r) ∧ ReadsInt w .i64 B (ntR r).length (ntR r) := by
  cases r with
  | err x => exact ⟨none, 0, none, 0, h, ⟨rfl, by simp [edR], fun h => absurd h (by simp [edR])⟩, ⟨rfl, by simp [ntR], fun h => absurd h (by simp [ntR])⟩⟩
  | ok ed nets => exact h
theorem S0_ok (nn : Nat) (gs : List GateL) : TOk nn gs 0 (S0 nn gs.length) :=
  ⟨by simp [S0], by simp [S0], (fun e he => by cases he), fun h => absurd rfl h, fun _ => ⟨fun i hi => by simp [S0, List.getD_eq_getElem?_getD, hi], fun n hn => by simp [S0, List.getD_eq_getElem?_getD, hn], rfl⟩⟩
theorem run_same {nets : Int} {gs : List GateL} {gn : Nat} {ps : List PulseL} {un : Int} {r r' : OutR} (hg : gs.length = gn)
    (h1 : preR nets gs ps un ≠ 0 → r = .err (preR nets gs ps un)) (h2 : preR nets gs ps un = 0 → TP nets.toNat gs ps un (some 0) (S0 nets.toNat gn) r)
    (k1 : preR nets gs ps un ≠ 0 → r' = .err (preR nets gs ps un)) (k2 : preR nets gs ps un = 0 → TR nets.toNat gs ps un 0 (S0 nets.toNat gn) r') : r = r' := by
  by_cases h : preR nets gs ps un = 0
  · obtain ⟨hvz, h64, hu0, hu1, hall, htw⟩ := preR_zero h
    obtain ⟨v1, v2, v3, v4⟩ := validF_ok hvz
    obtain ⟨nn, rfl⟩ : ∃ nn : Nat, nets = (nn : Int) := ⟨nets.toNat, by omega⟩
    subst hg
    exact times_same v4 (by omega) (h2 h) 0 r' rfl (Int.le_refl _) (S0_ok nn gs) (.inr (.inl (Int.le_refl _))) (k2 h)
  · rw [h1 h, k1 h]
section
variable {H : Type} {enc : TypeId × Value → H} {w : World}
open Go.ChangeShapes Go.WideShapes Go.ChangeAt
set_option maxRecDepth 100000
theorem list3 {α : Type} {cs : List α} (h : cs.length = 3) : ∃ a b c, cs = [a, b, c] := by
  match cs, h with
  | [a, b, c], _ => exact ⟨a, b, c, rfl⟩
theorem pulse_read {fuel : Nat} {ad : Addr} {cs : List Value} {x : DataW H × List MemPlace} (hc : w.cells? 0 ad 3 = some cs) (h : DataW.trod enc Try.prog w 0 (fun _ => true) true fuel 103 cs = some x) :
    ∃ g, RdPulse w ad g := by
  obtain ⟨_, hl, hcell⟩ := World.cells?_some hc
  obtain ⟨y0, y1, y2, n, _, _, h0, h1, h2⟩ := Go.Deep.trod_struct3 Try.underlying103 h
  obtain ⟨c0, c1, c2, rfl⟩ := list3 hl
  obtain ⟨k, e0, _, _⟩ := DataW.trod_int Try.underlying3 h0
  obtain ⟨o, e1, _, _⟩ := DataW.trod_int Try.underlying3 h1
  obtain ⟨d, e2, _, _⟩ := DataW.trod_int Try.underlying3 h2
  have p3 : Try.prog.cellsOf 3 = 1 := by kernel_rfl
  simp only [p3, List.drop_zero, List.drop_succ_cons, List.take_succ_cons, List.take_zero, List.cons.injEq, and_true] at e0 e1 e2
  subst e0 e1 e2
  have q0 := hcell 0 (by omega)
  have q1 := hcell 1 (by omega)
  have q2 := hcell 2 (by omega)
  refine ⟨⟨k, o, d⟩, ?_, ?_, ?_⟩
  · have := q0.trans rfl
    rwa [show ad.add 0 = ad by simp [Addr.add]] at this
  · rw [show (⟨ad.block, ad.off + 1, none⟩ : Addr) = ad.add 1 by simp [Addr.add]]
    exact q1.trans rfl
  · rw [show (⟨ad.block, ad.off + 2, none⟩ : Addr) = ad.add 2 by simp [Addr.add]]
    exact q2.trans rfl
theorem pulses_read {fuel : Nat} {v : Value} {x : DataW H × List MemPlace} (h : DataW.trod enc Try.prog w 0 (fun _ => true) true fuel 53 [v] = some x) :
    ∃ A n c ds, v = .slice A n c ∧ n ≤ c ∧ RdPulses w A n ds := by
  rcases Go.Deep.open_slice Try.underlying53 h with ⟨hcs, _⟩ | ⟨a, len, cap, m, n, D, Pl, hcs, _, hl, hm, hmm, _, hx⟩
  · simp at hcs
    exact ⟨none, 0, 0, [], hcs, Nat.le_refl _, rfl, by simp, fun h => by omega⟩
  · simp at hcs hmm
    have p103 : Try.prog.cellsOf 103 = 3 := by kernel_rfl
    rw [p103] at hx
    obtain ⟨gs, hgl, hgs⟩ := choose_at (P := fun i g => RdPulse w (a.add (i * 3)) g) zPulse (n := len) (fun i hi => by
      obtain ⟨cs', h1, h2⟩ := hx i (by omega)
      exact pulse_read h1 h2)
    exact ⟨some a, len, cap, gs, hcs, hl, hgl, by simp only [maxLen] at hm; omega, fun _ => ⟨a, rfl, hgs⟩⟩
theorem pulses_arg {r : Reach} {b0 : Nat} {v : Value} {d : DataW H} {p : List MemPlace} (hv : Value.okWide Try.prog w r b0 53 v) (h : DataW.Trod enc Try.prog w 0 (fun _ => true) true 53 v d p) :
    ∃ A n c ds, v = .slice A n c ∧ n ≤ c ∧ RdPulses w A n ds := by
  obtain ⟨A, n, c, rfl⟩ := okWide_slice Try.underlying53 hv
  obtain ⟨fuel, hf⟩ := h
  obtain ⟨A', n', c', ds, e, hle, hd⟩ := pulses_read (v := .slice A n c) hf
  injection e with e1 e2 e3
  subst e1 e2 e3
  exact ⟨A, n, c, ds, rfl, hle, hd⟩
end
set_option maxHeartbeats 4000000 in
set_option maxRecDepth 100000 in
theorem runs_law (nets : Int) (GA : Option Addr) (gn gc : Nat) (gs : List GateL) (PA : Option Addr) (pn pc : Nat) (ps : List PulseL) (un : Int) (w : World) (hg : RdGates w GA gn gs) (hps : RdPulses w PA pn ps) (hpc : pn ≤ pc) :
    Calls Try.prog 9 #[.agg #[.int .i64 nets, .slice GA gn gc], .slice PA pn pc, .int .i64 un] w fun e w' => e = .returned (.bool true) ∧ Below w.heap.size w w' := by
  have HGL := Lib.hid hg.1
  have hB : Below w.heap.size w (w.alloc (.cells #[.int .i64 nets, .slice GA gn gc] 39)) := (Below.refl _ _).alloc (Nat.le_refl _) _
  have hbk : (w.alloc (.cells #[.int .i64 nets, .slice GA gn gc] 39)).heap[w.heap.size]? = some (.cells #[.int .i64 nets, .slice GA gn gc] 39 (0, 0)) := blk_new _ _
  have c0 : (w.alloc (.cells #[.int .i64 nets, .slice GA gn gc] 39)).cell? ⟨w.heap.size, 0, none⟩ = some (.int .i64 nets) := (blk_cell hbk 0).trans rfl
  have c1 : (w.alloc (.cells #[.int .i64 nets, .slice GA gn gc] 39)).cell? ⟨w.heap.size, 1, none⟩ = some (.slice GA gn gc) := (blk_cell hbk 1).trans rfl
  have HG1 := Lib.hid (hg.below hB)
  have HPS1 := Lib.hid (hps.below hB)
  have HB := Lib.hid hB; clear hB
  have HBK := Lib.hid hbk; clear hbk
  clear hg hps
  go_enter Try.func9, Try.ntmps9
  go_wp2_with fail
  refine (run32_any _ _ _ _ _ _ _ _ _ _ _ HG1.out HPS1.out hpc).mono ?_
  rintro e w1 ⟨r, hr1, hr2, hro, hb1⟩
  obtain ⟨A1, c1', B1, d1, rfl, he1, hn1⟩ := runOut_reads hro
  have HR1 := Lib.hid hr1; clear hr1
  have HR2 := Lib.hid hr2; clear hr2 hro
  have HE1 := Lib.hid he1; clear he1
  have HN1 := Lib.hid hn1; clear hn1
  have HG2 := Lib.hid (HG1.out.below hb1)
  have HPS2 := Lib.hid (HPS1.out.below hb1)
  have HBK1 := Lib.hid (blk_below HBK.out hb1)
  have HB1 := Lib.hid (HB.out.trans (hb1.mono HB.out.size))
  clear hb1 c0 c1 HBK HB HG1 HPS1
  have c0 : w1.cell? ⟨w.heap.size, 0, none⟩ = some (.int .i64 nets) := (blk_cell HBK1.out 0).trans rfl
  have c1 : w1.cell? ⟨w.heap.size, 1, none⟩ = some (.slice GA gn gc) := (blk_cell HBK1.out 1).trans rfl
  go_wp2_with fail
  refine (rrun33_any _ _ _ _ _ _ _ _ _ _ _ HG2.out HPS2.out).mono ?_
  rintro e w2 ⟨r', hr1, hr2, hro, hb2⟩
  obtain rfl : r = r' := run_same HGL.out HR1.out HR2.out hr1 hr2
  obtain ⟨A2, c2', B2, d2, rfl, he2, hn2⟩ := runOut_reads hro
  have HE2 := Lib.hid he2; clear he2
  have HN2 := Lib.hid hn2; clear hn2
  have HE1' := Lib.hid (HE1.out.below hb2)
  have HN1' := Lib.hid (HN1.out.below hb2)
  have HB2 := Lib.hid (HB1.out.trans (hb2.mono HB1.out.size))
  clear hr1 hr2 hro hb2 c0 c1 HE1 HN1 HB1 HBK1 HG2 HPS2 HR1 HR2
  obtain ⟨ed, hed⟩ : ∃ ed, edR r = ed := ⟨_, rfl⟩
  obtain ⟨nt, hnt⟩ : ∃ nt, ntR r = nt := ⟨_, rfl⟩
  rw [hed] at HE2 HE1' ⊢
  rw [hnt] at HN2 HN1' ⊢
  generalize erR r = x
  clear hed hnt
  obtain ⟨en, hen⟩ : ∃ en, ed.length = en := ⟨_, rfl⟩
  obtain ⟨mn, hmn⟩ : ∃ mn, nt.length = mn := ⟨_, rfl⟩
  rw [hen] at HE2 HE1' ⊢
  rw [hmn] at HN2 HN1' ⊢
  have HEN := Lib.hid hen; clear hen hmn
  have hem : en ≤ 9223372036854775807 := HE2.out.2.1
  go_wp2_with fail
  refine (same_any _ _ _ _ _ _ nt nt _ HN1'.out HN2.out).mono ?_
  rintro e w5 ⟨rfl, q5, rfl⟩
  rw [show sameB nt nt = true by simp [sameB]]
  have HB5 : Hid (Below w.heap.size w (w2.drewN q5)) := Lib.hid (pw_below_drewN (n := q5) HB2.out)
  have HEa : Hid (RdEdges (w2.drewN q5) A1 en ed) := Lib.hid (HE1'.out.below (pw_below_drewN (n := q5) (Below.refl _ _)))
  have HEb : Hid (RdEdges (w2.drewN q5) A2 en ed) := Lib.hid (HE2.out.below (pw_below_drewN (n := q5) (Below.refl _ _)))
  clear HE1' HE2 HN1' HN2 HB2
  generalize w2.drewN q5 = w6 at *
  go_wp2_with fail
  go_loopw [13] (fun i wr => ∃ k : Nat, k ≤ en ∧ i = .int .i64 k ∧ Hid (Below w6.heap.size w6 wr)) (fun i _ => en - (intOf i).toNat)
  case atStart => exact ⟨0, Nat.zero_le _, rfl, Lib.hid (Below.refl _ _)⟩
  case round =>
    obtain ⟨k, hk, rfl, hBk⟩ := hrel
    obtain ⟨wx, rfl⟩ : ∃ wx : World, wx = wr := ⟨_, rfl⟩
    by_cases hlt : k < en
    · have hlt2 : decide ((k : Int) < (en : Int)) = true := by simp; omega
      have hj0 : (0 : Int) ≤ (k : Int) := by omega
      have hj1 : (k : Int) < (en : Int) := by omega
      obtain ⟨ad, rfl, a0, a1, a2⟩ := (HEa.out.below hBk.out).at_ k hlt
      obtain ⟨bd, rfl, b0, b1, b2⟩ := (HEb.out.below hBk.out).at_ k hlt
      generalize ed.getD k zEdge = E at *
      obtain ⟨et, en2, ev⟩ := E
      simp only at a0 a1 a2 b0 b1 b2
      go_wp2
      go_quiet (fail)
      go_wp2
      go_roundw
      case rel => exact ⟨k + 1, by omega, by go_num, Lib.hid (pw_below_drewN hBk.out _)⟩
      case measure => simp [intOf]; omega
    · have hlt2 : decide ((k : Int) < (en : Int)) = false := by simp; omega
      have HB7 := Lib.hid (HB5.out.trans (hBk.out.mono HB5.out.size))
      go_wp2_with fail
      refine (known_any _).mono ?_
      rintro e w9 ⟨rfl, hb9⟩
      have HB9 := Lib.hid (HB7.out.trans (hb9.mono HB7.out.size)); clear hb9
      go_wp2_with fail
      go_ret
      exact ⟨rfl, HB9.out⟩
end Go.Proofs.Ytobdhdehmkmjcaa
