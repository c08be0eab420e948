/- Words and walks for the row RowLogicRuns, put together: MB. -/
import Derived.Test.YtobdhdehmkmjcaaRuns15
namespace Go.Proofs.Ytobdhdehmkmjcaa
set_option linter.unusedVariables false
set_option linter.unusedSimpArgs false
open Go Go.RowKit Go.Proofs.YtobdhdehmkmjcaaW.PrintWords Go.Proofs.YtobdhdehmkmjcaaW.PrintLast

theorem pall_succ {nets : Int} {ps : List PulseL} {k : Nat} (hk : k < ps.length) : (ps.take (k + 1)).all (pulseB nets) = ((ps.take k).all (pulseB nets) && pulseB nets (ps.getD k zPulse)) := by
  rw [List.take_succ_eq_append_getElem hk, List.all_append]
  simp [List.getD_eq_getElem?_getD, List.getElem?_eq_getElem hk]
theorem pall_bad {nets : Int} {ps : List PulseL} {k : Nat} (hk : k < ps.length) (h : pulseB nets (ps.getD k zPulse) = false) : ps.all (pulseB nets) = false := by
  rw [List.all_eq_false]
  refine ⟨ps[k], List.getElem_mem _, ?_⟩
  have e : ps.getD k zPulse = ps[k] := by simp [List.getD_eq_getElem?_getD, List.getElem?_eq_getElem hk]
  rw [← e, h]; simp
theorem take_any {ps : List PulseL} {i j : Nat} {p : PulseL} (hj : j < i) (hi : i < ps.length) (h : sameP p (ps.getD j zPulse) = true) : ((ps.take i).any fun q => sameP p q) = true := by
  rw [List.any_eq_true]
  have e : ps.getD j zPulse = ps[j] := by simp [List.getD_eq_getElem?_getD, List.getElem?_eq_getElem (show j < ps.length by omega)]
  rw [e] at h
  exact ⟨ps[j], List.mem_take_iff_getElem.2 ⟨j, by omega, rfl⟩, h⟩
theorem twice_bad {ps : List PulseL} {i j : Nat} (hj : j < i) (hi : i < ps.length) (h : sameP (ps.getD i zPulse) (ps.getD j zPulse) = true) : twiceP ps = true := by
  unfold twiceP
  rw [List.any_eq_true]
  exact ⟨i, List.mem_range.2 hi, take_any hj hi h⟩
theorem twice_ok {ps : List PulseL} (h : ∀ i, i < ps.length → ∀ j, j < i → sameP (ps.getD i zPulse) (ps.getD j zPulse) = false) : twiceP ps = false := by
  unfold twiceP
  rw [List.any_eq_false]
  intro i hi
  rw [List.mem_range] at hi
  simp only [Bool.not_eq_true]
  rw [List.any_eq_false]
  intro q hq
  obtain ⟨j, hj, rfl⟩ := List.mem_take_iff_getElem.1 hq
  have h2 := h i hi j (by omega)
  have e : ps.getD j zPulse = ps[j] := by simp [List.getD_eq_getElem?_getD, List.getElem?_eq_getElem (show j < ps.length by omega)]
  rw [e] at h2
  rw [h2]; simp
theorem preR_len {nets : Int} {gs : List GateL} {ps : List PulseL} {un : Int} (h0 : validF nets gs = 0) (h : 64 < ps.length) : preR nets gs ps un = 3 := by
  unfold preR; rw [if_neg (by rw [h0]; simp), if_pos h]
theorem preR_un {nets : Int} {gs : List GateL} {ps : List PulseL} {un : Int} (h0 : validF nets gs = 0) (h : ¬ 64 < ps.length) (h1 : un < 0 ∨ 2000 < un) : preR nets gs ps un = 1 := by
  unfold preR; rw [if_neg (by rw [h0]; simp), if_neg h, if_pos h1]
theorem preR_all {nets : Int} {gs : List GateL} {ps : List PulseL} {un : Int} (h0 : validF nets gs = 0) (h : ¬ 64 < ps.length) (h1 : ¬ (un < 0 ∨ 2000 < un)) (h2 : ps.all (pulseB nets) = false) : preR nets gs ps un = 1 := by
  unfold preR; rw [if_neg (by rw [h0]; simp), if_neg h, if_neg h1, if_pos h2]
theorem preR_two {nets : Int} {gs : List GateL} {ps : List PulseL} {un : Int} (h0 : validF nets gs = 0) (h : ¬ 64 < ps.length) (h1 : ¬ (un < 0 ∨ 2000 < un)) (h2 : ps.all (pulseB nets) = true) (h3 : twiceP ps = true) : preR nets gs ps un = 5 := by
  unfold preR; rw [if_neg (by rw [h0]; simp), if_neg h, if_neg h1, if_neg (by rw [h2]; simp), if_pos h3]
theorem preR_ok {nets : Int} {gs : List GateL} {ps : List PulseL} {un : Int} (h0 : validF nets gs = 0) (h : ¬ 64 < ps.length) (h1 : ¬ (un < 0 ∨ 2000 < un)) (h2 : ps.all (pulseB nets) = true) (h3 : twiceP ps = false) : preR nets gs ps un = 0 := by
  unfold preR; rw [if_neg (by rw [h0]; simp), if_neg h, if_neg h1, if_neg (by rw [h2]; simp), if_neg (by rw [h3]; simp)]
/-- What Run answers. -/
def RunRes (nets : Int) (gs : List GateL) (gn : Nat) (ps : List PulseL) (un : Int) (w w' : World) (e : Ending) : Prop :=
  ∃ r, (preR nets gs ps un ≠ 0 → r = .err (preR nets gs ps un)) ∧ (preR nets gs ps un = 0 → TP nets.toNat gs ps un (some 0) (S0 nets.toNat gn) r) ∧ runOut r w' e ∧ Below w.heap.size w w'
theorem RunRes.err {nets : Int} {gs : List GateL} {gn : Nat} {ps : List PulseL} {un : Int} {w w' : World} {e : Ending} (x : Int) (h : preR nets gs ps un = x) (hx : x ≠ 0) (he : e = .returned (.tuple #[.slice none 0 0, .slice none 0 0, .int .i64 x])) (hb : Below w.heap.size w w') : RunRes nets gs gn ps un w w' e :=
  ⟨.err x, fun _ => by rw [h], fun h0 => absurd (h.symm.trans h0) hx, he, hb⟩
section
variable {P : Program} {ops : Array Oper} {Q : Exit → Act → World → Prop} {md : Region.Mode} {S : World → Prop} {f : Nat}
theorem wpAnyF_to {fuel : Nat} {l l' : Array Bool} {a a' : Act} {w : World} (hl : l' = l) (ha : a' = a) (h : wpAnyF P md ops Q S f fuel l a w) : wpAnyF P md ops Q S f fuel l' a' w := by
  subst hl ha; exact h
end
theorem PlayerB.below {w w' : World} {g mb : Nat} {nets : Int} {A : Option Addr} {n c : Nat} (h : PlayerB w g mb nets A n c) (hb : Below w.heap.size w w') : PlayerB w' g mb nets A n c := ⟨blk_below h.1 hb, blk_below h.2 hb⟩
/-- What a run's memory holds behind its making. -/
def MadeSt (w : World) (nn gn gc dn : Nat) (GA : Option Addr) (x : Nat × Nat × Nat × Nat × Nat) (W : World) : Prop :=
  PlayerB W x.1 x.2.1 (nn : Int) GA gn gc ∧ W.ownsRow w.heap.size 3 1 (.slice (some ⟨x.2.2.1, 0, none⟩) dn dn) dn (nums .i64 (List.replicate dn 0)) ∧ W.ownsRow w.heap.size 4 1 (.slice (some ⟨x.2.2.2.1, 0, none⟩) nn nn) nn (bools (List.replicate nn false)) ∧ W.ownsRow w.heap.size 3 1 (.slice (some ⟨x.2.2.2.2, 0, none⟩) nn nn) nn (nums .i64 (List.replicate nn 0)) ∧ x.2.2.1 ≠ x.2.2.2.2
def fillD (gn nn k : Nat) : List Int := List.replicate gn 0 ++ (List.replicate k 4 ++ List.replicate (nn - k) 0)
theorem fillD_zero {gn nn dn : Nat} (h : dn = gn + nn) : fillD gn nn 0 = List.replicate dn 0 := by
  simp [fillD, h]
theorem fillD_all (gn nn : Nat) : fillD gn nn nn = List.replicate gn 0 ++ List.replicate nn 4 := by simp [fillD]
theorem fillD_set {gn nn k : Nat} (h : k < nn) : (fillD gn nn k).set (gn + k) 4 = fillD gn nn (k + 1) := by
  unfold fillD
  rw [set_app2 4 (by simp)]
  congr 1
  rw [List.set_append_right _ _ (by simp), List.length_replicate, Nat.sub_self, show nn - k = (nn - (k + 1)) + 1 by omega, List.replicate_succ, List.set_cons_zero, List.replicate_succ', List.append_assoc]
  rfl
theorem pulse_ok {nn : Nat} {ps : List PulseL} (h : ps.all (pulseB (nn : Int)) = true) {k : Nat} (hk : k < ps.length) : PulseOk nn (ps.getD k zPulse) := by
  rw [List.all_eq_true] at h
  have e : ps.getD k zPulse = ps[k] := by simp [List.getD_eq_getElem?_getD, List.getElem?_eq_getElem hk]
  have h2 := h ps[k] (List.getElem_mem _)
  rw [e]
  simp only [pulseB, Bool.and_eq_true, decide_eq_true_eq] at h2
  exact ⟨h2.1.1.1, h2.1.1.2, h2.1.2, h2.2⟩
/-- What a run's memory holds between its times. -/
def RunSt (B0 : Nat) (wr : World) (gr gp mb nn gn gc dn gO cO gN cN : Nat) (GA PA : Option Addr) (pn pc : Nat) (outs : List Bool) (S : TS) : Prop :=
  PlayerB wr gp mb (nn : Int) GA gn gc ∧ (∃ gD cD qk ek, wr.heap[gr]? = some (.cells #[.pointer (some ⟨gp, 0, none⟩), .slice PA pn pc, qk, .slice (some ⟨gD, 0, none⟩) dn cD, .slice (some ⟨gO, 0, none⟩) nn cO, .slice (some ⟨gN, 0, none⟩) nn cN, ek] 108 (0, 0)) ∧
    wr.ownsRow B0 3 1 (.slice (some ⟨gD, 0, none⟩) dn cD) dn (nums .i64 (S.gv ++ S.ov)) ∧ wr.ownsRow B0 132 3 qk S.q.length (flatS S.q) ∧ wr.ownsRow B0 58 3 ek S.ed.length (flatE S.ed) ∧ gD ≠ gN) ∧
  wr.ownsRow B0 4 1 (.slice (some ⟨gO, 0, none⟩) nn cO) nn (bools outs) ∧ wr.ownsRow B0 3 1 (.slice (some ⟨gN, 0, none⟩) nn cN) nn (nums .i64 S.nets)
structure GoodT (nn gn : Nat) (outs : List Bool) (S : TS) : Prop where
  lg : S.gv.length = gn
  vg : S.gv.all isVal = true
  lo : S.ov.length = nn
  vo : S.ov.all isVal = true
  o4 : ∀ n, n < nn → outs.getD n false = false → S.ov.getD n 0 = 4
  ln : S.nets.length = nn
  vn : S.nets.all isVal = true
  qo : QOk gn S.q
theorem rep_val {n : Nat} {v : Int} (h : isVal v = true) : (List.replicate n v).all isVal = true := by
  rw [List.all_eq_true]
  intro x hx
  rw [List.eq_of_mem_replicate hx]; exact h
theorem GoodT.start (nn gn : Nat) (outs : List Bool) : GoodT nn gn outs (S0 nn gn) :=
  ⟨by simp [S0], rep_val rfl, by simp [S0], rep_val rfl, fun n hn _ => by simp [S0, List.getD_eq_getElem?_getD, hn], by simp [S0], rep_val rfl, fun e he => by simp [S0] at he⟩
theorem GoodT.beg {nn gn : Nat} {ps : List PulseL} {S : TS} {t : Int} (h : GoodT nn gn (outsTo nn ps) S) : GoodS nn gn (begS t S) :=
  ⟨(dueG_len t S.q S.gv).trans h.lg, dueG_val (gn := gn) h.qo h.vg, h.ln, h.vn, fun e he => h.qo e (List.mem_filter.1 he).1⟩
theorem GoodT.end_ {nn gn : Nat} {ps : List PulseL} {S : TS} {t : Int} {s : RS} (h : GoodT nn gn (outsTo nn ps) S) (hp : ∀ p ∈ ps, isVal p.v = true) (hs : GoodS nn gn s) : GoodT nn gn (outsTo nn ps) (endS nn t ps S s) :=
  ⟨hs.lg, hs.vg, (dueO_len t ps S.ov).trans h.lo, dueO_val (nn := nn) hp h.vo, out_four h.o4, hs.ln, hs.vn, hs.qo⟩
theorem nextT_lt {t : Int} {ps : List PulseL} {q : List SentL} {u : Int} (h : nextT t ps q = some u) : t < u := by
  have h1 := nextT_min t ps q
  rw [h] at h1
  exact h1.1
def meaT (un : Int) (t : Value) : Value → Nat
  | .bool true => (un + 1 - intOf t).toNat + 1
  | _ => 0
theorem blk_q {w : World} {gr : Nat} {a0 a1 a2 a3 a4 a5 a6 b0 b1 b2 b3 b4 b5 b6 : Value} (h : w.heap[gr]? = some (.cells #[a0, a1, a2, a3, a4, a5, a6] 108 (0, 0))) (h' : w.heap[gr]? = some (.cells #[b0, b1, b2, b3, b4, b5, b6] 108 (0, 0))) : b2 = a2 := by
  rw [h] at h'
  simp at h'
  exact h'.2.2.1.symm
theorem edgesTo_len (t : Int) (old new : List Int) : ∀ n, (edgesTo t old new n).length ≤ n
  | 0 => Nat.le_refl _
  | n + 1 => by
    have := edgesTo_len t old new n
    unfold edgesTo
    split
    · simp; exact this
    · omega
theorem meaT_lt {un t u : Int} {b : Bool} (h : t ≤ un) (hu : b = true → t < u) : meaT un (.int .i64 u) (.bool b) < meaT un (.int .i64 t) (.bool true) := by
  cases b
  · show 0 < (un + 1 - t).toNat + 1
    omega
  · have := hu rfl
    show (un + 1 - u).toNat + 1 < (un + 1 - t).toNat + 1
    omega
theorem RunSt.below {B0 : Nat} {w1 w2 : World} {gr gp mb nn gn gc dn gO cO gN cN : Nat} {GA PA : Option Addr} {pn pc : Nat} {outs : List Bool} {S : TS} (h : RunSt B0 w1 gr gp mb nn gn gc dn gO cO gN cN GA PA pn pc outs S) (hb : Below w1.heap.size w1 w2) : RunSt B0 w2 gr gp mb nn gn gc dn gO cO gN cN GA PA pn pc outs S := by
  obtain ⟨hP, ⟨gD, cD, qk, ek, hR, hD, hQ, hE, hne⟩, hO, hN⟩ := h
  exact ⟨hP.below hb, ⟨gD, cD, qk, ek, blk_below hR hb, pw_own_below hD hb, pw_own_below hQ hb, pw_own_below hE hb, hne⟩, pw_own_below hO hb, pw_own_below hN hb⟩
/-- One edge more. -/
theorem SetOut.cases {B0 : Nat} {w w' : World} {gr gp nn dn gO cO gN cN : Nat} {pv qv ev : Value} {ov : List Int} {gn q0 : Nat} {e : Ending} {gs : List GateL} {t : Int} {s0 : RS} (h : ∃ r, RunsP nn gs t ov 0 [] s0 r ∧ SetOut B0 w w' gr gp nn dn gO cO gN cN pv qv ev ov gn q0 r e) :
    (RunsP nn gs t ov 0 [] s0 none ∧ e = .returned (.int .i64 10) ∧ KeptS (fun i => i = gr ∨ i = gN ∨ some i = qv.ownBlock) w w') ∨ (∃ s, RunsP nn gs t ov 0 [] s0 (some s) ∧ e = .returned (.int .i64 0) ∧ SetSt B0 w w' gr gp nn dn gO cO gN cN pv qv ev ov s ∧ GoodS nn gn s ∧ s.q.length ≤ q0 + 60 * 101) := by
  obtain ⟨r, h1, h2⟩ := h
  cases r with
  | none => exact .inl ⟨h1, h2⟩
  | some s => exact .inr ⟨s, h1, h2⟩
theorem RunSt.edge {B0 : Nat} {W w1 : World} {gr gp mb nn gn gc dn gO cO gN cN : Nat} {GA PA : Option Addr} {pn pc : Nat} {outs : List Bool} {S : TS} {gD cD el : Nat} {qk ek v1 : Value} (t n v : Int) (hl : S.ed.length = el)
    (hP : PlayerB W gp mb (nn : Int) GA gn gc) (hR : W.heap[gr]? = some (.cells #[.pointer (some ⟨gp, 0, none⟩), .slice PA pn pc, qk, .slice (some ⟨gD, 0, none⟩) dn cD, .slice (some ⟨gO, 0, none⟩) nn cO, .slice (some ⟨gN, 0, none⟩) nn cN, ek] 108 (0, 0)))
    (hD : W.ownsRow B0 3 1 (.slice (some ⟨gD, 0, none⟩) dn cD) dn (nums .i64 (S.gv ++ S.ov))) (hQ : W.ownsRow B0 132 3 qk S.q.length (flatS S.q)) (hE : W.ownsRow B0 58 3 ek el (flatE S.ed)) (hne : gD ≠ gN)
    (hO : W.ownsRow B0 4 1 (.slice (some ⟨gO, 0, none⟩) nn cO) nn (bools outs)) (hN : W.ownsRow B0 3 1 (.slice (some ⟨gN, 0, none⟩) nn cN) nn (nums .i64 S.nets))
    (h1 : w1.ownsRow B0 58 3 v1 (el + 1) (flatE S.ed ++ [.int .i64 t, .int .i64 n, .int .i64 v])) (hg : W.grownBy w1 ek.ownBlock) :
    RunSt B0 (w1.setCell ⟨gr, 6, none⟩ v1) gr gp mb nn gn gc dn gO cO gN cN GA PA pn pc outs ⟨S.gv, S.ov, S.nets, S.q, S.ed ++ [⟨t, n, v⟩]⟩ := by
  subst hl
  have hK : KeptS (fun i => some i = ek.ownBlock) W w1 := KeptS.grown hg (fun k hk _ => hk.symm)
  have e1 : some gp ≠ ek.ownBlock := own_ne hE hP.1 (by decide)
  have e2 : some mb ≠ ek.ownBlock := own_ne_map (m := #[]) (k := 0) hE hP.2 (fun _ _ _ h => by cases h)
  have e3 : some gr ≠ ek.ownBlock := own_ne hE hR (by decide)
  have hP1 := hP.kept hK e1 e2
  have hR1 := hK.blk hR e3
  have hD1 := hK.own hD (fun g hh => by have := own_ne_own hE hD (by decide) hh; exact this)
  have hQ1 := hK.own hQ (fun g hh => by have := own_ne_own hE hQ (by decide) hh; exact this)
  have hO1 := hK.own hO (fun g hh => by have := own_ne_own hE hO (by decide) hh; exact this)
  have hN1 := hK.own hN (fun g hh => by have := own_ne_own hE hN (by decide) hh; exact this)
  have hS : KeptS (· = gr) w1 (w1.setCell ⟨gr, 6, none⟩ v1) := KeptS.setCell (S := (· = gr)) (p := ⟨gr, 6, none⟩) rfl _
  have n1 : ¬ gp = gr := fun e => blk_ne hP1.1 hR1 (by decide) e
  have n2 : ¬ mb = gr := fun e => by
    have h := hP1.2
    rw [e, hR1] at h
    cases h
  refine ⟨hP1.kept hS n1 n2, ⟨gD, cD, qk, v1, ?_, ?_, ?_, ?_, hne⟩, ?_, ?_⟩
  · rw [blk_set hR1]; rfl
  · exact hS.own hD1 (fun g hh e => own_ne hD1 hR1 (by decide) (by rw [hh, e]))
  · exact hS.own hQ1 (fun g hh e => own_ne hQ1 hR1 (by decide) (by rw [hh, e]))
  · have := hS.own h1 (fun g hh e => own_ne h1 hR1 (by decide) (by rw [hh, e]))
    rw [List.length_append, flatE_append]
    exact this
  · exact hS.own hO1 (fun g hh e => own_ne hO1 hR1 (by decide) (by rw [hh, e]))
  · exact hS.own hN1 (fun g hh e => own_ne hN1 hR1 (by decide) (by rw [hh, e]))
/-- The state behind what came due. -/
theorem RunSt.due {B0 : Nat} {w1 w2 : World} {gr gp mb nn gn gc dn gO cO gN cN : Nat} {GA PA : Option Addr} {pn pc : Nat} {outs : List Bool} {gD cD : Nat} {qk ek : Value} {ed : List EdgeL} {nets xs : List Int}
    (hP : PlayerB w1 gp mb (nn : Int) GA gn gc) (hR : w1.heap[gr]? = some (.cells #[.pointer (some ⟨gp, 0, none⟩), .slice PA pn pc, qk, .slice (some ⟨gD, 0, none⟩) dn cD, .slice (some ⟨gO, 0, none⟩) nn cO, .slice (some ⟨gN, 0, none⟩) nn cN, ek] 108 (0, 0)))
    (hD : w1.ownsRow B0 3 1 (.slice (some ⟨gD, 0, none⟩) dn cD) dn (nums .i64 xs)) (hE : w1.ownsRow B0 58 3 ek ed.length (flatE ed)) (hne : gD ≠ gN)
    (hO : w1.ownsRow B0 4 1 (.slice (some ⟨gO, 0, none⟩) nn cO) nn (bools outs)) (hN : w1.ownsRow B0 3 1 (.slice (some ⟨gN, 0, none⟩) nn cN) nn (nums .i64 nets)) (hk : KeptS (fun i => i = gr ∨ i = gD) w1 w2) :
    PlayerB w2 gp mb (nn : Int) GA gn gc ∧ w2.ownsRow B0 58 3 ek ed.length (flatE ed) ∧ w2.ownsRow B0 4 1 (.slice (some ⟨gO, 0, none⟩) nn cO) nn (bools outs) ∧ w2.ownsRow B0 3 1 (.slice (some ⟨gN, 0, none⟩) nn cN) nn (nums .i64 nets) := by
  have dg : (Value.slice (some ⟨gD, 0, none⟩) dn cD).ownBlock = some gD := rfl
  refine ⟨hP.kept hk ?_ ?_, hk.own hE ?_, hk.own hO ?_, hk.own hN ?_⟩
  · rintro (e | e)
    · exact blk_ne hP.1 hR (by decide) e
    · exact own_ne hD hP.1 (by decide) (by rw [e]; rfl)
  · rintro (e | e)
    · have h := hP.2
      rw [e, hR] at h
      cases h
    · exact own_ne_map (m := #[]) (k := 0) hD hP.2 (fun _ _ _ h => by cases h) (by rw [e]; rfl)
  · rintro g hh (e | e)
    · exact own_ne hE hR (by decide) (by rw [hh, e])
    · exact own_ne_own hE hD (by decide) dg (by rw [hh, e])
  · rintro g hh (e | e)
    · exact own_ne hO hR (by decide) (by rw [hh, e])
    · exact own_ne_own hO hD (by decide) dg (by rw [hh, e])
  · rintro g hh (e | e)
    · exact own_ne hN hR (by decide) (by rw [hh, e])
    · have : gN = g := Option.some.inj hh
      exact hne (by rw [this]; exact e.symm)
/-- The state behind the rounds. -/
theorem RunSt.set {B0 : Nat} {w2 w3 : World} {gr gp mb nn gn gc dn gO gN : Nat} {GA PA : Option Addr} {pn pc : Nat} {outs : List Bool} {qv ek : Value} {ed : List EdgeL} {q : List SentL} {nets ov : List Int} {s : RS} {gD cD : Nat}
    (hP : PlayerB w2 gp mb (nn : Int) GA gn gc) (hR : w2.heap[gr]? = some (.cells #[.pointer (some ⟨gp, 0, none⟩), .slice PA pn pc, qv, .slice (some ⟨gD, 0, none⟩) dn cD, .slice (some ⟨gO, 0, none⟩) nn nn, .slice (some ⟨gN, 0, none⟩) nn nn, ek] 108 (0, 0)))
    (hQ : w2.ownsRow B0 132 3 qv q.length (flatS q)) (hE : w2.ownsRow B0 58 3 ek ed.length (flatE ed))
    (hO : w2.ownsRow B0 4 1 (.slice (some ⟨gO, 0, none⟩) nn nn) nn (bools outs)) (hN : w2.ownsRow B0 3 1 (.slice (some ⟨gN, 0, none⟩) nn nn) nn (nums .i64 nets))
    (hS : SetSt B0 w2 w3 gr gp nn dn gO nn gN nn (.slice PA pn pc) qv ek ov s) : RunSt B0 w3 gr gp mb nn gn gc dn gO nn gN nn GA PA pn pc outs ⟨s.gv, ov, s.nets, s.q, ed⟩ := by
  obtain ⟨hk, ⟨gD2, cD2, qk2, hr3, hd3, hq3, hne3, _⟩, hn3⟩ := hS
  have ng : (Value.slice (some ⟨gN, 0, none⟩) nn nn).ownBlock = some gN := rfl
  refine ⟨hP.kept hk ?_ ?_, ⟨gD2, cD2, qk2, ek, hr3, hd3, hq3, hk.own hE ?_, hne3⟩, hk.own hO ?_, hn3⟩
  · rintro (e | e | e)
    · exact blk_ne hP.1 hR (by decide) e
    · exact own_ne hN hP.1 (by decide) (by rw [e]; rfl)
    · exact own_ne hQ hP.1 (by decide) e
  · rintro (e | e | e)
    · have h := hP.2
      rw [e, hR] at h
      cases h
    · exact own_ne_map (m := #[]) (k := 0) hN hP.2 (fun _ _ _ h => by cases h) (by rw [e]; rfl)
    · exact own_ne_map (m := #[]) (k := 0) hQ hP.2 (fun _ _ _ h => by cases h) e
  · rintro g hh (e | e | e)
    · exact own_ne hE hR (by decide) (by rw [hh, e])
    · exact own_ne_own hE hN (by decide) ng (by rw [hh, e])
    · exact own_ne_own hQ hE (by decide) hh e
  · rintro g hh (e | e | e)
    · exact own_ne hO hR (by decide) (by rw [hh, e])
    · exact own_ne_own hO hN (by decide) ng (by rw [hh, e])
    · exact own_ne_own hQ hO (by decide) hh e
theorem set_base {B0 : Nat} {w : World} {gr gN nn nq : Nat} {qv : Value} {xs : List Value} {nets : List Int} (hrb : B0 ≤ gr) (hQ : w.ownsRow B0 132 3 qv nq xs) (hN : w.ownsRow B0 3 1 (.slice (some ⟨gN, 0, none⟩) nn nn) nn (nums .i64 nets)) : ∀ i, (i = gr ∨ i = gN ∨ some i = qv.ownBlock) → B0 ≤ i := by
  rintro i (h | h | h)
  · rw [h]; exact hrb
  · rw [h]; exact own_base hN gN rfl
  · exact own_base hQ i h.symm
theorem RunRes.fin {nn gn : Nat} {gs : List GateL} {ps : List PulseL} {un : Int} {w wx : World} {ed : List EdgeL} {nets : List Int} {EA NA : Option Addr} {ec nc : Nat} {q : Nat} (h0 : preR (nn : Int) gs ps un = 0) (h : TP nn gs ps un (some 0) (S0 nn gn) (.ok ed nets)) (hl : nets.length = nn) (he : RdEdges wx EA ed.length ed) (hn : ReadsInt wx .i64 NA nn nets) (hB : Below w.heap.size w wx) :
    RunRes (nn : Int) gs gn ps un w (wx.drewN q) (.returned (.tuple #[.slice EA ed.length ec, .slice NA nn nc, .int .i64 0])) := by
  refine ⟨.ok ed nets, fun h1 => absurd h0 h1, fun _ => h, ⟨EA, ec, NA, nc, by rw [hl], ?_, ?_⟩, pw_below_drewN hB q⟩
  · exact he
  · rw [hl]; exact hn
theorem RunRes.err2 {nn gn : Nat} {gs : List GateL} {ps : List PulseL} {un : Int} {w wx : World} (x : Int) (h0 : preR (nn : Int) gs ps un = 0) (h : TP nn gs ps un (some 0) (S0 nn gn) (.err x)) (hB : Below w.heap.size w wx) :
    RunRes (nn : Int) gs gn ps un w wx (.returned (.tuple #[.slice none 0 0, .slice none 0 0, .int .i64 x])) :=
  ⟨.err x, fun h1 => absurd h0 h1, fun _ => h, rfl, hB⟩
theorem edges_yes {t : Int} {old new : List Int} {k : Nat} {ed : List EdgeL} {a b : Int} (ha : new.getD k 0 = a) (hb : old.getD k 0 = b) (h : a ≠ b) : ed ++ edgesTo t old new (k + 1) = ed ++ edgesTo t old new k ++ [⟨t, k, a⟩] := by
  have : edgesTo t old new (k + 1) = edgesTo t old new k ++ [⟨t, k, new.getD k 0⟩] := if_pos (by rw [ha, hb]; exact h)
  rw [this, ha, List.append_assoc]
theorem edges_no {t : Int} {old new : List Int} {k : Nat} {ed : List EdgeL} {a b : Int} (ha : new.getD k 0 = a) (hb : old.getD k 0 = b) (h : a = b) : ed ++ edgesTo t old new (k + 1) = ed ++ edgesTo t old new k := by
  have : edgesTo t old new (k + 1) = edgesTo t old new k := if_neg (by rw [ha, hb]; exact fun e => e h)
  rw [this]
theorem tp_next {nn : Nat} {gs : List GateL} {ps : List PulseL} {un t : Int} {S : TS} {s : RS} {nx : Option Int} {T0 : Option Int} {S0' : TS} (hTP : ∀ r, TP nn gs ps un (some t) S r → TP nn gs ps un T0 S0' r) (hle : t ≤ un) (hrun : RunsP nn gs t (dueO t ps S.ov) 0 [] (begS t S) (some s)) (he : (endS nn t ps S s).ed.length ≤ 60) (hnx : nextT t ps s.q = nx) :
    ∀ r, TP nn gs ps un (if nx.isSome = true then some (nx.getD 0) else none) (endS nn t ps S s) r → TP nn gs ps un T0 S0' r := by
  intro r h
  refine hTP r (TP.go hle hrun he ?_)
  rw [hnx]
  cases nx with
  | none => exact h
  | some u => exact h
theorem next_lt {t : Int} {ps : List PulseL} {q : List SentL} {nx : Option Int} (h : nextT t ps q = nx) (hb : nx.isSome = true) : t < nx.getD 0 := by
  cases nx with
  | none => cases hb
  | some u => exact nextT_lt h
set_option maxHeartbeats 8000000 in
set_option maxRecDepth 100000 in
theorem run32_any (nets : Int) (GA : Option Addr) (gn gc : Nat) (gs : List GateL) (PA : Option Addr) (pn pc : Nat) (ps : List PulseL) (un : Int) (w : World) (hg : RdGates w GA gn gs) (hps : RdPulses w PA pn ps) (hpc : pn ≤ pc) :
    Calls Try.prog 32 #[.agg #[.int .i64 nets, .slice GA gn gc], .slice PA pn pc, .int .i64 un] w fun e w' => RunRes nets gs gn ps un w w' e := by
  have HGL := Lib.hid hg.1
  have HPL := Lib.hid hps.1
  have hpm := hps.2.1
  have hB : Below w.heap.size w (w.alloc (.cells #[.int .i64 nets, .slice GA gn gc] 39)) := (Below.refl _ _).alloc (Nat.le_refl _) _
  have hbk : (w.alloc (.cells #[.int .i64 nets, .slice GA gn gc] 39)).heap[w.heap.size]? = some (.cells #[.int .i64 nets, .slice GA gn gc] 39 (0, 0)) := blk_new _ _
  have c0 : (w.alloc (.cells #[.int .i64 nets, .slice GA gn gc] 39)).cell? ⟨w.heap.size, 0, none⟩ = some (.int .i64 nets) := (blk_cell hbk 0).trans rfl
  have c1 : (w.alloc (.cells #[.int .i64 nets, .slice GA gn gc] 39)).cell? ⟨w.heap.size, 1, none⟩ = some (.slice GA gn gc) := (blk_cell hbk 1).trans rfl
  have HG1 := Lib.hid (hg.below hB)
  have HB := Lib.hid hB; clear hB
  have HBK := Lib.hid hbk; clear hbk
  have HG := Lib.hid hg; clear hg
  have HPS := Lib.hid hps; clear hps
  go_enter Try.func32, Try.ntmps32
  go_wp2_with fail
  refine (validate_any _ _ _ _ _ _ HG1.out).mono ?_
  rintro e w1 ⟨rfl, hb1⟩
  have HBK1 := Lib.hid (blk_below HBK.out hb1)
  have HB1 := Lib.hid (HB.out.trans (hb1.mono HB.out.size))
  clear hb1 c0 c1 HBK HB HG1
  by_cases hv : validF nets gs = 0
  case neg =>
    have hb2 : (validF nets gs != 0) = true := by simpa using hv
    have HX : Hid (preR nets gs ps un = validF nets gs) := Lib.hid (if_pos hv)
    have HV := Lib.hid hv; clear hv
    obtain ⟨vv, hvv⟩ : ∃ vv, validF nets gs = vv := ⟨_, rfl⟩
    rw [hvv] at hb2 HX HV ⊢
    clear hvv
    go_wp2_with fail
    go_ret3
    exact RunRes.err _ HX.out HV.out rfl HB1.out
  have HV := Lib.hid hv
  rw [hv]
  clear hv
  by_cases h64 : 64 < pn
  · have hb64 : decide ((64 : Int) < (pn : Int)) = true := by simp; omega
    have HX := Lib.hid (preR_len (un := un) HV.out (by rw [HPL.out]; exact h64))
    go_wp2_with fail
    go_ret3
    exact RunRes.err 3 HX.out (by decide) rfl HB1.out
  have hb64 : decide ((64 : Int) < (pn : Int)) = false := by simp; omega
  have H64 : Hid (¬ 64 < ps.length) := Lib.hid (by rw [HPL.out]; exact h64)
  by_cases hu0 : un < 0
  · have hub0 : decide (un < 0) = true := by simpa using hu0
    have HX := Lib.hid (preR_un HV.out H64.out (.inl hu0))
    clear hu0
    go_wp2_with fail
    go_ret3
    exact RunRes.err 1 HX.out (by decide) rfl HB1.out
  have hub0 : decide (un < 0) = false := by simpa using hu0
  by_cases hu1 : 2000 < un
  · have hub1 : decide (2000 < un) = true := by simpa using hu1
    have HX := Lib.hid (preR_un HV.out H64.out (.inr hu1))
    clear hu1
    go_wp2_with fail
    go_ret3
    exact RunRes.err 1 HX.out (by decide) rfl HB1.out
  have hub1 : decide (2000 < un) = false := by simpa using hu1
  have HUN : Hid (¬ (un < 0 ∨ 2000 < un)) := Lib.hid (by omega)
  have HUN0 : Hid (0 ≤ un ∧ un ≤ 2000) := Lib.hid (by omega)
  clear hu0 hu1
  have HB1k := HB1
  have HBK1k := HBK1
  go_wp2_with fail
  go_loopw [42] (fun i wr => ∃ k : Nat, k ≤ pn ∧ i = .int .i64 k ∧ Hid (Below w.heap.size w wr) ∧ Hid (wr.heap[w.heap.size]? = some (.cells #[.int .i64 nets, .slice GA gn gc] 39 (0, 0))) ∧ Hid ((ps.take k).all (pulseB nets) = true)) (fun i _ => pn - (intOf i).toNat)
  case atStart => exact ⟨0, Nat.zero_le _, rfl, HB1, HBK1, Lib.hid rfl⟩
  case round =>
    obtain ⟨k, hk, rfl, hB, hBK, hA⟩ := hrel
    clear HB1k HBK1k HB1 HBK1
    obtain ⟨wx, rfl⟩ : ∃ wx : World, wx = wr := ⟨_, rfl⟩
    by_cases hlt : k < pn
    · have hlt2 : decide ((k : Int) < (pn : Int)) = true := by simp; omega
      -- [[
      obtain ⟨ad, rfl, q1, q2, q3⟩ := (HPS.out.below hB.out).at_ k hlt
      have hkl : k < ps.length := by rw [HPL.out]; exact hlt
      have HSU := Lib.hid (pall_succ (nets := nets) hkl)
      have HBAD := Lib.hid (pall_bad (nets := nets) hkl)
      clear hkl
      generalize ps.getD k zPulse = p at *
      obtain ⟨pt, pnet, pv⟩ := p
      simp only at q1 q2 q3
      have HWG : Hid (Below wx.heap.size wx (wx.alloc (.cells #[.int .i64 pt, .int .i64 pnet, .int .i64 pv] 103))) := Lib.hid ((Below.refl _ _).alloc (Nat.le_refl _) _)
      have HBG := Lib.hid (hB.out.trans (HWG.out.mono hB.out.size))
      have HBKG := Lib.hid (blk_below hBK.out HWG.out)
      have hc0 : (wx.alloc (.cells #[.int .i64 pt, .int .i64 pnet, .int .i64 pv] 103)).cell? ⟨w.heap.size, 0, none⟩ = some (.int .i64 nets) := (blk_cell HBKG.out 0).trans rfl
      have hgb : (wx.alloc (.cells #[.int .i64 pt, .int .i64 pnet, .int .i64 pv] 103)).heap[wx.heap.size]? = some (.cells #[.int .i64 pt, .int .i64 pnet, .int .i64 pv] 103 (0, 0)) := blk_new _ _
      have s0 : (wx.alloc (.cells #[.int .i64 pt, .int .i64 pnet, .int .i64 pv] 103)).cell? ⟨wx.heap.size, 0, none⟩ = some (.int .i64 pt) := (blk_cell hgb 0).trans rfl
      have s1 : (wx.alloc (.cells #[.int .i64 pt, .int .i64 pnet, .int .i64 pv] 103)).cell? ⟨wx.heap.size, 1, none⟩ = some (.int .i64 pnet) := (blk_cell hgb 1).trans rfl
      have s2 : (wx.alloc (.cells #[.int .i64 pt, .int .i64 pnet, .int .i64 pv] 103)).cell? ⟨wx.heap.size, 2, none⟩ = some (.int .i64 pv) := (blk_cell hgb 2).trans rfl
      clear hgb
      by_cases b0 : pt < 0
      · have bb0 : decide (pt < 0) = true := by simpa using b0
        have HX := Lib.hid (preR_all HV.out H64.out HUN.out (HBAD.out (by simp only [pulseB]; rw [decide_eq_false (by omega : ¬ 0 ≤ pt)]; rfl)))
        clear b0
        go_wp2_with fail
        go_ret3
        exact RunRes.err 1 HX.out (by decide) rfl HBG.out
      have bb0 : decide (pt < 0) = false := by simpa using b0
      by_cases b1 : pnet < 0
      · have bb1 : decide (pnet < 0) = true := by simpa using b1
        have HX := Lib.hid (preR_all HV.out H64.out HUN.out (HBAD.out (by simp only [pulseB]; rw [decide_eq_false (by omega : ¬ 0 ≤ pnet)]; simp)))
        clear b1
        go_wp2_with fail
        go_ret3
        exact RunRes.err 1 HX.out (by decide) rfl HBG.out
      have bb1 : decide (pnet < 0) = false := by simpa using b1
      by_cases b2 : nets ≤ pnet
      · have bb2 : decide (nets ≤ pnet) = true := by simpa using b2
        have HX := Lib.hid (preR_all HV.out H64.out HUN.out (HBAD.out (by simp only [pulseB]; rw [decide_eq_false (by omega : ¬ pnet < nets)]; simp)))
        clear b2
        go_wp2_with fail
        go_ret3
        exact RunRes.err 1 HX.out (by decide) rfl HBG.out
      have bb2 : decide (nets ≤ pnet) = false := by simpa using b2
      have HPB : Hid (pulseB nets ⟨pt, pnet, pv⟩ = isVal pv) := Lib.hid (by simp only [pulseB]; rw [decide_eq_true (by omega : 0 ≤ pt), decide_eq_true (by omega : 0 ≤ pnet), decide_eq_true (by omega : pnet < nets)]; rfl)
      clear b0 b1 b2
      go_wp2_with fail
      refine (isValue_any _ _).mono ?_
      rintro e w' ⟨rfl, rfl⟩
      obtain ⟨vb, hvb⟩ : ∃ vb, isVal pv = vb := ⟨_, rfl⟩
      rw [hvb] at HPB ⊢
      clear hvb
      cases vb
      · have HX := Lib.hid (preR_all HV.out H64.out HUN.out (HBAD.out HPB.out))
        go_wp2_with fail
        go_ret3
        exact RunRes.err 1 HX.out (by decide) rfl HBG.out
      · go_wp2_with fail
        go_roundw
        case rel => exact ⟨k + 1, by omega, by go_num, HBG, HBKG, Lib.hid (by rw [HSU.out, hA.out, HPB.out]; rfl)⟩
        case measure => simp [intOf]; omega
      -- ]]
    · have hlt2 : decide ((k : Int) < (pn : Int)) = false := by simp; omega
      have HALL : Hid (ps.all (pulseB nets) = true) := Lib.hid (by
        have h := hA.out
        rwa [List.take_of_length_le (by rw [HPL.out]; omega)] at h)
      clear hA hk
      have HTW0 : Hid (∀ i, i < 0 → ∀ j, j < i → sameP (ps.getD i zPulse) (ps.getD j zPulse) = false) := Lib.hid (fun i h => by omega)
      go_wp2_with fail
      clear hlt2 hlt
      go_loopw [70] (fun i wr => ∃ k : Nat, k ≤ pn ∧ i = .int .i64 k ∧ Hid (Below w.heap.size w wr) ∧ Hid (wr.heap[w.heap.size]? = some (.cells #[.int .i64 nets, .slice GA gn gc] 39 (0, 0))) ∧ Hid (∀ i, i < k → ∀ j, j < i → sameP (ps.getD i zPulse) (ps.getD j zPulse) = false)) (fun i _ => pn - (intOf i).toNat)
      case atStart => exact ⟨0, Nat.zero_le _, rfl, hB, hBK, HTW0⟩
      case round =>
        clear hB hBK HTW0
        obtain ⟨k, hk, rfl, hB, hBK, hTW⟩ := hrel
        obtain ⟨wx, rfl⟩ : ∃ wx : World, wx = wr := ⟨_, rfl⟩
        by_cases hlt : k < pn
        · have hlt2 : decide ((k : Int) < (pn : Int)) = true := by simp; omega
          -- [[
          obtain ⟨ad, rfl, q1, q2, q3⟩ := (HPS.out.below hB.out).at_ k hlt
          obtain ⟨pk, hpk⟩ : ∃ pk, ps.getD k zPulse = pk := ⟨_, rfl⟩
          rw [hpk] at q1 q2 q3
          have HPK := Lib.hid hpk; clear hpk
          obtain ⟨kt, knet, kv⟩ := pk
          simp only at q1 q2 q3
          have HWG : Hid (Below wx.heap.size wx (wx.alloc (.cells #[.int .i64 kt, .int .i64 knet, .int .i64 kv] 103))) := Lib.hid ((Below.refl _ _).alloc (Nat.le_refl _) _)
          have HBG := Lib.hid (hB.out.trans (HWG.out.mono hB.out.size))
          have HBKG := Lib.hid (blk_below hBK.out HWG.out)
          have HKB : Hid ((wx.alloc (.cells #[.int .i64 kt, .int .i64 knet, .int .i64 kv] 103)).heap[wx.heap.size]? = some (.cells #[.int .i64 kt, .int .i64 knet, .int .i64 kv] 103 (0, 0))) := Lib.hid (blk_new _ _)
          have hkpc : (k : Int) ≤ (pc : Int) := by omega
          have HSM0 : Hid (∀ j, j < 0 → sameP (ps.getD k zPulse) (ps.getD j zPulse) = false) := Lib.hid (fun i h => by omega)
          go_wp2_with fail
          go_loopw [79] (fun i wr => ∃ j : Nat, j ≤ k ∧ i = .int .i64 j ∧ Hid (Below w.heap.size w wr) ∧ Hid (wr.heap[w.heap.size]? = some (.cells #[.int .i64 nets, .slice GA gn gc] 39 (0, 0))) ∧ Hid (wr.heap[wx.heap.size]? = some (.cells #[.int .i64 kt, .int .i64 knet, .int .i64 kv] 103 (0, 0))) ∧ Hid (∀ i, i < j → sameP (ps.getD k zPulse) (ps.getD i zPulse) = false)) (fun i _ => k - (intOf i).toNat)
          case atStart => exact ⟨0, Nat.zero_le _, rfl, HBG, HBKG, HKB, HSM0⟩
          case round =>
            clear HWG HBG HBKG HKB HSM0 q1 q2 q3
            obtain ⟨j, hj, rfl, hBj, hBKj, hKBj, hSM⟩ := hrel
            obtain ⟨wy, rfl⟩ : ∃ wy : World, wy = wr := ⟨_, rfl⟩
            by_cases hltj : j < k
            · have hltj2 : decide ((j : Int) < (k : Int)) = true := by simp; omega
              obtain ⟨ad2, eq2, q1, q2, q3⟩ := (HPS.out.below hBj.out).at_ j (by omega)
              injection eq2 with eq2
              subst eq2
              have HTWB := Lib.hid (twice_bad (ps := ps) (i := k) (j := j) hltj (by rw [HPL.out]; exact hlt))
              rw [HPK.out] at HTWB hSM
              obtain ⟨pj, hpj⟩ : ∃ pj, ps.getD j zPulse = pj := ⟨_, rfl⟩
              rw [hpj] at q1 q2 q3 HTWB
              have HPJ := Lib.hid hpj; clear hpj
              obtain ⟨jt, jnet, jv⟩ := pj
              simp only at q1 q2 q3
              have HWJ : Hid (Below wy.heap.size wy (wy.alloc (.cells #[.int .i64 jt, .int .i64 jnet, .int .i64 jv] 103))) := Lib.hid ((Below.refl _ _).alloc (Nat.le_refl _) _)
              have HBG := Lib.hid (hBj.out.trans (HWJ.out.mono hBj.out.size))
              have HBKG := Lib.hid (blk_below hBKj.out HWJ.out)
              have HKBG := Lib.hid (blk_below hKBj.out HWJ.out)
              have s0 : (wy.alloc (.cells #[.int .i64 jt, .int .i64 jnet, .int .i64 jv] 103)).cell? ⟨wx.heap.size, 0, none⟩ = some (.int .i64 kt) := (blk_cell HKBG.out 0).trans rfl
              have s1 : (wy.alloc (.cells #[.int .i64 jt, .int .i64 jnet, .int .i64 jv] 103)).cell? ⟨wx.heap.size, 1, none⟩ = some (.int .i64 knet) := (blk_cell HKBG.out 1).trans rfl
              have hgb : (wy.alloc (.cells #[.int .i64 jt, .int .i64 jnet, .int .i64 jv] 103)).heap[wy.heap.size]? = some (.cells #[.int .i64 jt, .int .i64 jnet, .int .i64 jv] 103 (0, 0)) := blk_new _ _
              have s2 : (wy.alloc (.cells #[.int .i64 jt, .int .i64 jnet, .int .i64 jv] 103)).cell? ⟨wy.heap.size, 0, none⟩ = some (.int .i64 jt) := (blk_cell hgb 0).trans rfl
              have s3 : (wy.alloc (.cells #[.int .i64 jt, .int .i64 jnet, .int .i64 jv] 103)).cell? ⟨wy.heap.size, 1, none⟩ = some (.int .i64 jnet) := (blk_cell hgb 1).trans rfl
              clear hgb
              by_cases a0 : kt = jt
              · have ab0 : (kt == jt) = true := by simpa using a0
                by_cases a1 : knet = jnet
                · have ab1 : (knet == jnet) = true := by simpa using a1
                  have HX := Lib.hid (preR_two HV.out H64.out HUN.out HALL.out (HTWB.out (by simp only [sameP]; rw [decide_eq_true a0, decide_eq_true a1]; rfl)))
                  clear a0 a1
                  go_wp2_with fail
                  go_ret3
                  exact RunRes.err 5 HX.out (by decide) rfl HBG.out
                · have ab1 : (knet == jnet) = false := by simpa using a1
                  have HN : Hid (sameP ⟨kt, knet, kv⟩ ⟨jt, jnet, jv⟩ = false) := Lib.hid (by simp only [sameP]; rw [decide_eq_false a1]; simp)
                  clear a0 a1
                  go_wp2_with fail
                  go_roundw
                  case rel => exact ⟨j + 1, by omega, by go_num, HBG, HBKG, HKBG, Lib.hid (fun i hi => by rcases Nat.lt_succ_iff_lt_or_eq.1 hi with h | h; exact (by rw [HPK.out]; exact hSM.out i h); rw [h, HPK.out, HPJ.out]; exact HN.out)⟩
                  case measure => simp [intOf]; omega
              · have ab0 : (kt == jt) = false := by simpa using a0
                have HN : Hid (sameP ⟨kt, knet, kv⟩ ⟨jt, jnet, jv⟩ = false) := Lib.hid (by simp only [sameP]; rw [decide_eq_false a0]; simp)
                clear a0
                go_wp2_with fail
                go_roundw
                case rel => exact ⟨j + 1, by omega, by go_num, HBG, HBKG, HKBG, Lib.hid (fun i hi => by rcases Nat.lt_succ_iff_lt_or_eq.1 hi with h | h; exact (by rw [HPK.out]; exact hSM.out i h); rw [h, HPK.out, HPJ.out]; exact HN.out)⟩
                case measure => simp [intOf]; omega
            · have hltj2 : decide ((j : Int) < (k : Int)) = false := by simp; omega
              go_wp2_with fail
              go_roundw
              case rel => exact ⟨k + 1, by omega, by go_num, hBj, hBKj, Lib.hid (fun i hi => by rcases Nat.lt_succ_iff_lt_or_eq.1 hi with h | h; exact hTW.out i h; subst h; exact fun j' hj' => hSM.out j' (by omega))⟩
              case measure => simp [intOf]; omega
          -- ]]
        · have hlt2 : decide ((k : Int) < (pn : Int)) = false := by simp; omega
          have HTW : Hid (twiceP ps = false) := Lib.hid (twice_ok (fun i hi => hTW.out i (by rw [HPL.out] at hi; omega)))
          have HPRE := Lib.hid (preR_ok HV.out H64.out HUN.out HALL.out HTW.out)
          clear hTW hk
          go_wp2_with fail
          obtain ⟨hv1, hv2, hv3, HGO⟩ := validF_ok HV.out
          obtain ⟨nn, rfl⟩ : ∃ nn : Nat, nets = (nn : Int) := ⟨nets.toNat, by omega⟩
          replace HGO := Lib.hid HGO
          have hn1 : 1 ≤ nn := by omega
          have hn40 : nn ≤ 40 := by omega
          have hg60 : gn ≤ 60 := by have := HGL.out; omega
          clear hv1 hv2 hv3
          obtain ⟨dn, hdn⟩ : ∃ dn, gn + nn = dn := ⟨_, rfl⟩
          have hsum : IntKind.i64.wrap ((gn : Int) + (nn : Int)) = (dn : Int) := by rw [IntWalk.i64_in _ (by omega)]; omega
          have HDN : Hid (dn = gn + nn) := Lib.hid hdn.symm
          have hdn100 : dn ≤ 100 := by omega
          clear hdn
          have c0 : wx.drew.cell? ⟨w.heap.size, 0, none⟩ = some (.int .i64 nn) := (blk_cell hBK.out 0).trans rfl
          have c1 : wx.drew.cell? ⟨w.heap.size, 1, none⟩ = some (.slice GA gn gc) := (blk_cell hBK.out 1).trans rfl
          have HBD : Hid (Below w.heap.size w wx.drew) := Lib.hid (pw_below_drewN (n := 1) hB.out)
          have HBKD : Hid (wx.drew.heap[w.heap.size]? = some (.cells #[.int .i64 nn, .slice GA gn gc] 39 (0, 0))) := hBK
          refine wp_region_named 18 (fun w' => w'.cell? ⟨w.heap.size, 0, none⟩ = some (.int .i64 nn) ∧ w'.cell? ⟨w.heap.size, 1, none⟩ = some (.slice GA gn gc)) (fun w' => (w'.cell? ⟨w.heap.size, 0, none⟩ = some (.int .i64 nn)) ∧ (w'.cell? ⟨w.heap.size, 1, none⟩ = some (.slice GA gn gc)) ∧ (Hid (Below w.heap.size w w')) ∧ (Hid (w'.heap[w.heap.size]? = some (.cells #[.int .i64 nn, .slice GA gn gc] 39 (0, 0))))) (by kernel_rfl) ⟨c0, c1, HBD, HBKD⟩ ?_
          rintro W0 ⟨c0, c1, HBW0, HBK0⟩
          clear hB hBK HBD HBKD
          refine wpAnyF_take (i := 0) (v := .agg #[.int .i64 nn, .slice GA gn gc]) rfl (by kernel_rfl) (by kernel_rfl) (by kernel_rfl) (by kernel_rfl) (fun _ _ _ h => h) (Or.inl ⟨by rfl, ?_⟩) ⟨c0, c1⟩ ?_
          · rintro W ⟨y0, y1⟩
            go_simp
          try simp only [Act.put, List.setIfInBounds_toArray, List.set_cons_zero, List.set_cons_succ]
          refine wpAnyF_take (i := 2) (v := .slice PA pn pc) rfl (by kernel_rfl) (by kernel_rfl) (by kernel_rfl) (by kernel_rfl) (fun _ _ _ h => h) (Or.inl ⟨by rfl, ?_⟩) ⟨c0, c1⟩ ?_
          · rintro W ⟨y0, y1⟩
            go_simp
          try simp only [Act.put, List.setIfInBounds_toArray, List.set_cons_zero, List.set_cons_succ]
          refine wpAnyF_take (i := 3) (v := .pointer (some ⟨w.heap.size, 1, none⟩)) rfl (by kernel_rfl) (by kernel_rfl) (by kernel_rfl) (by kernel_rfl) (fun _ _ _ h => h) (Or.inl ⟨by rfl, ?_⟩) ⟨c0, c1⟩ ?_
          · rintro W ⟨y0, y1⟩
            go_simp
          try simp only [Act.put, List.setIfInBounds_toArray, List.set_cons_zero, List.set_cons_succ]
          refine wpAnyF_take (i := 4) (v := .slice GA gn gc) rfl (by kernel_rfl) (by kernel_rfl) (by kernel_rfl) (by kernel_rfl) (fun _ _ _ h => h) (Or.inl ⟨by rfl, ?_⟩) ⟨c0, c1⟩ ?_
          · rintro W ⟨y0, y1⟩
            go_simp
          try simp only [Act.put, List.setIfInBounds_toArray, List.set_cons_zero, List.set_cons_succ]
          refine wpAnyF_take (i := 5) (v := .int .i64 gn) rfl (by kernel_rfl) (by kernel_rfl) (by kernel_rfl) (by kernel_rfl) (fun _ _ _ h => h) (Or.inl ⟨by rfl, ?_⟩) ⟨c0, c1⟩ ?_
          · rintro W ⟨y0, y1⟩
            go_simp
          try simp only [Act.put, List.setIfInBounds_toArray, List.set_cons_zero, List.set_cons_succ]
          refine wpAnyF_take (i := 6) (v := .pointer (some ⟨w.heap.size, 0, none⟩)) rfl (by kernel_rfl) (by kernel_rfl) (by kernel_rfl) (by kernel_rfl) (fun _ _ _ h => h) (Or.inl ⟨by rfl, ?_⟩) ⟨c0, c1⟩ ?_
          · rintro W ⟨y0, y1⟩
            go_simp
          try simp only [Act.put, List.setIfInBounds_toArray, List.set_cons_zero, List.set_cons_succ]
          refine wpAnyF_take (i := 7) (v := .int .i64 nn) rfl (by kernel_rfl) (by kernel_rfl) (by kernel_rfl) (by kernel_rfl) (fun _ _ _ h => h) (Or.inl ⟨by rfl, ?_⟩) ⟨c0, c1⟩ ?_
          · rintro W ⟨y0, y1⟩
            go_simp
          try simp only [Act.put, List.setIfInBounds_toArray, List.set_cons_zero, List.set_cons_succ]
          refine wpAnyF_take (i := 8) (v := .int .i64 dn) rfl (by kernel_rfl) (by kernel_rfl) (by kernel_rfl) (by kernel_rfl) (fun _ _ _ h => h) (Or.inl ⟨by rfl, ?_⟩) ⟨c0, c1⟩ ?_
          · rintro W ⟨y0, y1⟩
            go_simp
          try simp only [Act.put, List.setIfInBounds_toArray, List.set_cons_zero, List.set_cons_succ]
          refine wpAnyF_take (i := 10) (v := .pointer (some ⟨w.heap.size, 0, none⟩)) rfl (by kernel_rfl) (by kernel_rfl) (by kernel_rfl) (by kernel_rfl) (fun _ _ _ h => h) (Or.inl ⟨by rfl, ?_⟩) ⟨c0, c1⟩ ?_
          · rintro W ⟨y0, y1⟩
            go_simp
          try simp only [Act.put, List.setIfInBounds_toArray, List.set_cons_zero, List.set_cons_succ]
          refine wpAnyF_take (i := 11) (v := .int .i64 nn) rfl (by kernel_rfl) (by kernel_rfl) (by kernel_rfl) (by kernel_rfl) (fun _ _ _ h => h) (Or.inl ⟨by rfl, ?_⟩) ⟨c0, c1⟩ ?_
          · rintro W ⟨y0, y1⟩
            go_simp
          try simp only [Act.put, List.setIfInBounds_toArray, List.set_cons_zero, List.set_cons_succ]
          refine wpAnyF_take (i := 13) (v := .pointer (some ⟨w.heap.size, 0, none⟩)) rfl (by kernel_rfl) (by kernel_rfl) (by kernel_rfl) (by kernel_rfl) (fun _ _ _ h => h) (Or.inl ⟨by rfl, ?_⟩) ⟨c0, c1⟩ ?_
          · rintro W ⟨y0, y1⟩
            go_simp
          try simp only [Act.put, List.setIfInBounds_toArray, List.set_cons_zero, List.set_cons_succ]
          refine wpAnyF_take (i := 14) (v := .int .i64 nn) rfl (by kernel_rfl) (by kernel_rfl) (by kernel_rfl) (by kernel_rfl) (fun _ _ _ h => h) (Or.inl ⟨by rfl, ?_⟩) ⟨c0, c1⟩ ?_
          · rintro W ⟨y0, y1⟩
            go_simp
          try simp only [Act.put, List.setIfInBounds_toArray, List.set_cons_zero, List.set_cons_succ]
          have SKEEP : Hid (∀ W : World, Below W0.heap.size W0 W → W.cell? ⟨w.heap.size, 0, none⟩ = some (.int .i64 nn) ∧ W.cell? ⟨w.heap.size, 1, none⟩ = some (.slice GA gn gc)) := Lib.hid (fun W hW => ⟨pw_cell_below hW c0, pw_cell_below hW c1⟩)
          refine wpAnyF_join4 (σ := Nat × Nat × Nat × Nat × Nat) (some 98) (some 106) (some 109) (some 112) (fun x => .pointer (some ⟨x.1, 0, none⟩)) (fun x => .slice (some ⟨x.2.2.1, 0, none⟩) dn dn) (fun x => .slice (some ⟨x.2.2.2.1, 0, none⟩) nn nn) (fun x => .slice (some ⟨x.2.2.2.2, 0, none⟩) nn nn) (fun x W => Hid (Below W0.heap.size W0 W) ∧ Hid (MadeSt w nn gn gc dn GA x W)) 3 (((((((((((((((((Array.replicate 19 false).setIfInBounds 0 true).setIfInBounds 2 true).setIfInBounds 3 true).setIfInBounds 4 true).setIfInBounds 5 true).setIfInBounds 6 true).setIfInBounds 7 true).setIfInBounds 8 true).setIfInBounds 10 true).setIfInBounds 11 true).setIfInBounds 13 true).setIfInBounds 14 true).setIfInBounds 1 true).setIfInBounds 9 true).setIfInBounds 12 true).setIfInBounds 15 true) ?rest ?fork
          case fork =>
            intro REST
            have HZ0 : Hid (w.heap.size ≤ W0.heap.size) := Lib.hid HBW0.out.size
            have HB0 : Hid (Below W0.heap.size W0 W0) := Lib.hid (Below.refl _ _)
            refine wpAnyF_four (i := 1) (j := 9) (k := 12) (m := 15) (o := { dst := some 98, op := Op.call { callee := Callee.value (Operand.func 52), args := #[Operand.tmp 97], argTypes := #[39] }, type := 90, pos := "logic.go:493", after := #[{ on := 0, ground := Ground.data }], guard := none }) (o' := { dst := some 106, op := Op.makeSlice 22 (Operand.tmp 105) (Operand.tmp 105), type := 22, pos := "logic.go:493", after := #[{ on := 8, ground := Ground.data }, { on := 8, ground := Ground.data }], guard := none }) (o'' := { dst := some 109, op := Op.makeSlice 105 (Operand.tmp 108) (Operand.tmp 108), type := 105, pos := "logic.go:493", after := #[{ on := 11, ground := Ground.data }, { on := 11, ground := Ground.data }], guard := none }) (o3 := { dst := some 112, op := Op.makeSlice 22 (Operand.tmp 111) (Operand.tmp 111), type := 22, pos := "logic.go:493", after := #[{ on := 14, ground := Ground.data }, { on := 14, ground := Ground.data }], guard := none }) (by kernel_rfl) (by kernel_rfl) (by kernel_rfl) (by kernel_rfl) (by kernel_rfl)  (fun K hK => ?_) (fun K hK => ?_) (fun K hK => ?_) (fun K hK => ?_)
            · refine goes_ (f := 52) Try.func52 (by kernel_rfl) rfl #[.agg #[.int .i64 nn, .slice GA gn gc]] rfl rfl rfl (by simp [Act.eval]) ?_
              refine (made2_any _ _ _ _ _).mono ?_
              rintro e W1 ⟨gp, mb, rfl, hpl, hb⟩
              have HP := Lib.hid hpl; clear hpl
              have HS1 : Hid (Below W0.heap.size W0 W1) := Lib.hid hb; clear hb
              have HB1 := Lib.hid (HB0.out.trans (HS1.out.mono HB0.out.size))
              have HZ1 : Hid (w.heap.size ≤ W1.heap.size) := Lib.hid (Nat.le_trans HZ0.out HS1.out.size)
              refine ⟨_, rfl, ?_⟩
              with_reducible refine hK _ _ (fun _ => SKEEP.out _ HB1.out) ?_
              clear hK K
              try simp only [Act.put, List.setIfInBounds_toArray, List.set_cons_zero, List.set_cons_succ]
              refine wpAnyF_three (i := 9) (j := 12) (k := 15) (o := { dst := some 106, op := Op.makeSlice 22 (Operand.tmp 105) (Operand.tmp 105), type := 22, pos := "logic.go:493", after := #[{ on := 8, ground := Ground.data }, { on := 8, ground := Ground.data }], guard := none }) (o' := { dst := some 109, op := Op.makeSlice 105 (Operand.tmp 108) (Operand.tmp 108), type := 105, pos := "logic.go:493", after := #[{ on := 11, ground := Ground.data }, { on := 11, ground := Ground.data }], guard := none }) (o'' := { dst := some 112, op := Op.makeSlice 22 (Operand.tmp 111) (Operand.tmp 111), type := 22, pos := "logic.go:493", after := #[{ on := 14, ground := Ground.data }, { on := 14, ground := Ground.data }], guard := none }) (by kernel_rfl) (by kernel_rfl) (by kernel_rfl) (by kernel_rfl)  (fun K hK => ?_) (fun K hK => ?_) (fun K hK => ?_)
              · with_reducible refine mk22_step w.heap.size 105 106 22 "logic.go:493" _ dn HZ1.out (by omega) (by simp [Act.eval]) ?_
                intro gD W2 hg hs hd
                have HS2 := Lib.hid hs; clear hs
                have HD := Lib.hid hd; clear hd
                clear hg
                replace HP := Lib.hid (HP.out.below HS2.out)
                have HB2 := Lib.hid (HB1.out.trans (HS2.out.mono HB1.out.size))
                have HZ2 : Hid (w.heap.size ≤ W2.heap.size) := Lib.hid (Nat.le_trans HZ1.out HS2.out.size)
                with_reducible refine hK _ _ (fun _ => SKEEP.out _ HB2.out) ?_
                clear hK K
                try simp only [Act.put, List.setIfInBounds_toArray, List.set_cons_zero, List.set_cons_succ]
                refine wpAnyF_two (i := 12) (j := 15) (o := { dst := some 109, op := Op.makeSlice 105 (Operand.tmp 108) (Operand.tmp 108), type := 105, pos := "logic.go:493", after := #[{ on := 11, ground := Ground.data }, { on := 11, ground := Ground.data }], guard := none }) (o' := { dst := some 112, op := Op.makeSlice 22 (Operand.tmp 111) (Operand.tmp 111), type := 22, pos := "logic.go:493", after := #[{ on := 14, ground := Ground.data }, { on := 14, ground := Ground.data }], guard := none }) (by kernel_rfl) (by kernel_rfl) (by kernel_rfl)  (fun K hK => ?_) (fun K hK => ?_)
                · with_reducible refine mk105_step w.heap.size 108 109 105 "logic.go:493" _ nn HZ2.out (by omega) (by simp [Act.eval]) ?_
                  intro gO W3 hg hs hd
                  have HS3 := Lib.hid hs; clear hs
                  have HO := Lib.hid hd; clear hd
                  clear hg
                  replace HP := Lib.hid (HP.out.below HS3.out)
                  replace HD := Lib.hid (pw_own_below HD.out HS3.out)
                  have HB3 := Lib.hid (HB2.out.trans (HS3.out.mono HB2.out.size))
                  have HZ3 : Hid (w.heap.size ≤ W3.heap.size) := Lib.hid (Nat.le_trans HZ2.out HS3.out.size)
                  with_reducible refine hK _ _ (fun _ => SKEEP.out _ HB3.out) ?_
                  clear hK K
                  try simp only [Act.put, List.setIfInBounds_toArray, List.set_cons_zero, List.set_cons_succ]
                  refine wpAnyF_one (i := 15) (o := { dst := some 112, op := Op.makeSlice 22 (Operand.tmp 111) (Operand.tmp 111), type := 22, pos := "logic.go:493", after := #[{ on := 14, ground := Ground.data }, { on := 14, ground := Ground.data }], guard := none }) (by kernel_rfl) (by kernel_rfl)  (fun K hK => ?_)
                  with_reducible refine mk22_step w.heap.size 111 112 22 "logic.go:493" _ nn HZ3.out (by omega) (by simp [Act.eval]) ?_
                  intro gN W4 hg hs hd
                  have HS4 := Lib.hid hs; clear hs
                  have HN := Lib.hid hd; clear hd
                  have HNE : Hid (gD ≠ gN) := Lib.hid (by have h := own_lt HD.out gD rfl; omega)
                  clear hg
                  replace HP := Lib.hid (HP.out.below HS4.out)
                  replace HD := Lib.hid (pw_own_below HD.out HS4.out)
                  replace HO := Lib.hid (pw_own_below HO.out HS4.out)
                  have HB4 := Lib.hid (HB3.out.trans (HS4.out.mono HB3.out.size))
                  have HZ4 : Hid (w.heap.size ≤ W4.heap.size) := Lib.hid (Nat.le_trans HZ3.out HS4.out.size)
                  with_reducible refine hK _ _ (fun _ => SKEEP.out _ HB4.out) ?_
                  clear hK K
                  try simp only [Act.put, List.setIfInBounds_toArray, List.set_cons_zero, List.set_cons_succ]
                  have HM : Hid (MadeSt w nn gn gc dn GA (gp, mb, gD, gO, gN) W4) := Lib.hid ⟨HP.out, HD.out, HO.out, HN.out, HNE.out⟩
                  with_reducible exact wpAnyF_to (by kernel_rfl) (by kernel_rfl) (REST (gp, mb, gD, gO, gN) W4 ⟨HB4, HM⟩)
                · with_reducible refine mk22_step w.heap.size 111 112 22 "logic.go:493" _ nn HZ2.out (by omega) (by simp [Act.eval]) ?_
                  intro gN W3 hg hs hd
                  have HS3 := Lib.hid hs; clear hs
                  have HN := Lib.hid hd; clear hd
                  have HNE : Hid (gD ≠ gN) := Lib.hid (by have h := own_lt HD.out gD rfl; omega)
                  clear hg
                  replace HP := Lib.hid (HP.out.below HS3.out)
                  replace HD := Lib.hid (pw_own_below HD.out HS3.out)
                  have HB3 := Lib.hid (HB2.out.trans (HS3.out.mono HB2.out.size))
                  have HZ3 : Hid (w.heap.size ≤ W3.heap.size) := Lib.hid (Nat.le_trans HZ2.out HS3.out.size)
                  with_reducible refine hK _ _ (fun _ => SKEEP.out _ HB3.out) ?_
                  clear hK K
                  try simp only [Act.put, List.setIfInBounds_toArray, List.set_cons_zero, List.set_cons_succ]
                  refine wpAnyF_one (i := 12) (o := { dst := some 109, op := Op.makeSlice 105 (Operand.tmp 108) (Operand.tmp 108), type := 105, pos := "logic.go:493", after := #[{ on := 11, ground := Ground.data }, { on := 11, ground := Ground.data }], guard := none }) (by kernel_rfl) (by kernel_rfl)  (fun K hK => ?_)
                  with_reducible refine mk105_step w.heap.size 108 109 105 "logic.go:493" _ nn HZ3.out (by omega) (by simp [Act.eval]) ?_
                  intro gO W4 hg hs hd
                  have HS4 := Lib.hid hs; clear hs
                  have HO := Lib.hid hd; clear hd
                  clear hg
                  replace HP := Lib.hid (HP.out.below HS4.out)
                  replace HD := Lib.hid (pw_own_below HD.out HS4.out)
                  replace HN := Lib.hid (pw_own_below HN.out HS4.out)
                  have HB4 := Lib.hid (HB3.out.trans (HS4.out.mono HB3.out.size))
                  have HZ4 : Hid (w.heap.size ≤ W4.heap.size) := Lib.hid (Nat.le_trans HZ3.out HS4.out.size)
                  with_reducible refine hK _ _ (fun _ => SKEEP.out _ HB4.out) ?_
                  clear hK K
                  try simp only [Act.put, List.setIfInBounds_toArray, List.set_cons_zero, List.set_cons_succ]
                  have HM : Hid (MadeSt w nn gn gc dn GA (gp, mb, gD, gO, gN) W4) := Lib.hid ⟨HP.out, HD.out, HO.out, HN.out, HNE.out⟩
                  with_reducible exact wpAnyF_to (by kernel_rfl) (by kernel_rfl) (REST (gp, mb, gD, gO, gN) W4 ⟨HB4, HM⟩)
              · with_reducible refine mk105_step w.heap.size 108 109 105 "logic.go:493" _ nn HZ1.out (by omega) (by simp [Act.eval]) ?_
                intro gO W2 hg hs hd
                have HS2 := Lib.hid hs; clear hs
                have HO := Lib.hid hd; clear hd
                clear hg
                replace HP := Lib.hid (HP.out.below HS2.out)
                have HB2 := Lib.hid (HB1.out.trans (HS2.out.mono HB1.out.size))
                have HZ2 : Hid (w.heap.size ≤ W2.heap.size) := Lib.hid (Nat.le_trans HZ1.out HS2.out.size)
                with_reducible refine hK _ _ (fun _ => SKEEP.out _ HB2.out) ?_
                clear hK K
                try simp only [Act.put, List.setIfInBounds_toArray, List.set_cons_zero, List.set_cons_succ]
                refine wpAnyF_two (i := 9) (j := 15) (o := { dst := some 106, op := Op.makeSlice 22 (Operand.tmp 105) (Operand.tmp 105), type := 22, pos := "logic.go:493", after := #[{ on := 8, ground := Ground.data }, { on := 8, ground := Ground.data }], guard := none }) (o' := { dst := some 112, op := Op.makeSlice 22 (Operand.tmp 111) (Operand.tmp 111), type := 22, pos := "logic.go:493", after := #[{ on := 14, ground := Ground.data }, { on := 14, ground := Ground.data }], guard := none }) (by kernel_rfl) (by kernel_rfl) (by kernel_rfl)  (fun K hK => ?_) (fun K hK => ?_)
                · with_reducible refine mk22_step w.heap.size 105 106 22 "logic.go:493" _ dn HZ2.out (by omega) (by simp [Act.eval]) ?_
                  intro gD W3 hg hs hd
                  have HS3 := Lib.hid hs; clear hs
                  have HD := Lib.hid hd; clear hd
                  clear hg
                  replace HP := Lib.hid (HP.out.below HS3.out)
                  replace HO := Lib.hid (pw_own_below HO.out HS3.out)
                  have HB3 := Lib.hid (HB2.out.trans (HS3.out.mono HB2.out.size))
                  have HZ3 : Hid (w.heap.size ≤ W3.heap.size) := Lib.hid (Nat.le_trans HZ2.out HS3.out.size)
                  with_reducible refine hK _ _ (fun _ => SKEEP.out _ HB3.out) ?_
                  clear hK K
                  try simp only [Act.put, List.setIfInBounds_toArray, List.set_cons_zero, List.set_cons_succ]
                  refine wpAnyF_one (i := 15) (o := { dst := some 112, op := Op.makeSlice 22 (Operand.tmp 111) (Operand.tmp 111), type := 22, pos := "logic.go:493", after := #[{ on := 14, ground := Ground.data }, { on := 14, ground := Ground.data }], guard := none }) (by kernel_rfl) (by kernel_rfl)  (fun K hK => ?_)
                  with_reducible refine mk22_step w.heap.size 111 112 22 "logic.go:493" _ nn HZ3.out (by omega) (by simp [Act.eval]) ?_
                  intro gN W4 hg hs hd
                  have HS4 := Lib.hid hs; clear hs
                  have HN := Lib.hid hd; clear hd
                  have HNE : Hid (gD ≠ gN) := Lib.hid (by have h := own_lt HD.out gD rfl; omega)
                  clear hg
                  replace HP := Lib.hid (HP.out.below HS4.out)
                  replace HD := Lib.hid (pw_own_below HD.out HS4.out)
                  replace HO := Lib.hid (pw_own_below HO.out HS4.out)
                  have HB4 := Lib.hid (HB3.out.trans (HS4.out.mono HB3.out.size))
                  have HZ4 : Hid (w.heap.size ≤ W4.heap.size) := Lib.hid (Nat.le_trans HZ3.out HS4.out.size)
                  with_reducible refine hK _ _ (fun _ => SKEEP.out _ HB4.out) ?_
                  clear hK K
                  try simp only [Act.put, List.setIfInBounds_toArray, List.set_cons_zero, List.set_cons_succ]
                  have HM : Hid (MadeSt w nn gn gc dn GA (gp, mb, gD, gO, gN) W4) := Lib.hid ⟨HP.out, HD.out, HO.out, HN.out, HNE.out⟩
                  with_reducible exact wpAnyF_to (by kernel_rfl) (by kernel_rfl) (REST (gp, mb, gD, gO, gN) W4 ⟨HB4, HM⟩)
                · with_reducible refine mk22_step w.heap.size 111 112 22 "logic.go:493" _ nn HZ2.out (by omega) (by simp [Act.eval]) ?_
                  intro gN W3 hg hs hd
                  have HS3 := Lib.hid hs; clear hs
                  have HN := Lib.hid hd; clear hd
                  clear hg
                  replace HP := Lib.hid (HP.out.below HS3.out)
                  replace HO := Lib.hid (pw_own_below HO.out HS3.out)
                  have HB3 := Lib.hid (HB2.out.trans (HS3.out.mono HB2.out.size))
                  have HZ3 : Hid (w.heap.size ≤ W3.heap.size) := Lib.hid (Nat.le_trans HZ2.out HS3.out.size)
                  with_reducible refine hK _ _ (fun _ => SKEEP.out _ HB3.out) ?_
                  clear hK K
                  try simp only [Act.put, List.setIfInBounds_toArray, List.set_cons_zero, List.set_cons_succ]
                  refine wpAnyF_one (i := 9) (o := { dst := some 106, op := Op.makeSlice 22 (Operand.tmp 105) (Operand.tmp 105), type := 22, pos := "logic.go:493", after := #[{ on := 8, ground := Ground.data }, { on := 8, ground := Ground.data }], guard := none }) (by kernel_rfl) (by kernel_rfl)  (fun K hK => ?_)
                  with_reducible refine mk22_step w.heap.size 105 106 22 "logic.go:493" _ dn HZ3.out (by omega) (by simp [Act.eval]) ?_
                  intro gD W4 hg hs hd
                  have HS4 := Lib.hid hs; clear hs
                  have HD := Lib.hid hd; clear hd
                  have HNE : Hid (gD ≠ gN) := Lib.hid (by have h := own_lt HN.out gN rfl; omega)
                  clear hg
                  replace HP := Lib.hid (HP.out.below HS4.out)
                  replace HO := Lib.hid (pw_own_below HO.out HS4.out)
                  replace HN := Lib.hid (pw_own_below HN.out HS4.out)
                  have HB4 := Lib.hid (HB3.out.trans (HS4.out.mono HB3.out.size))
                  have HZ4 : Hid (w.heap.size ≤ W4.heap.size) := Lib.hid (Nat.le_trans HZ3.out HS4.out.size)
                  with_reducible refine hK _ _ (fun _ => SKEEP.out _ HB4.out) ?_
                  clear hK K
                  try simp only [Act.put, List.setIfInBounds_toArray, List.set_cons_zero, List.set_cons_succ]
                  have HM : Hid (MadeSt w nn gn gc dn GA (gp, mb, gD, gO, gN) W4) := Lib.hid ⟨HP.out, HD.out, HO.out, HN.out, HNE.out⟩
                  with_reducible exact wpAnyF_to (by kernel_rfl) (by kernel_rfl) (REST (gp, mb, gD, gO, gN) W4 ⟨HB4, HM⟩)
              · with_reducible refine mk22_step w.heap.size 111 112 22 "logic.go:493" _ nn HZ1.out (by omega) (by simp [Act.eval]) ?_
                intro gN W2 hg hs hd
                have HS2 := Lib.hid hs; clear hs
                have HN := Lib.hid hd; clear hd
                clear hg
                replace HP := Lib.hid (HP.out.below HS2.out)
                have HB2 := Lib.hid (HB1.out.trans (HS2.out.mono HB1.out.size))
                have HZ2 : Hid (w.heap.size ≤ W2.heap.size) := Lib.hid (Nat.le_trans HZ1.out HS2.out.size)
                with_reducible refine hK _ _ (fun _ => SKEEP.out _ HB2.out) ?_
                clear hK K
                try simp only [Act.put, List.setIfInBounds_toArray, List.set_cons_zero, List.set_cons_succ]
                refine wpAnyF_two (i := 9) (j := 12) (o := { dst := some 106, op := Op.makeSlice 22 (Operand.tmp 105) (Operand.tmp 105), type := 22, pos := "logic.go:493", after := #[{ on := 8, ground := Ground.data }, { on := 8, ground := Ground.data }], guard := none }) (o' := { dst := some 109, op := Op.makeSlice 105 (Operand.tmp 108) (Operand.tmp 108), type := 105, pos := "logic.go:493", after := #[{ on := 11, ground := Ground.data }, { on := 11, ground := Ground.data }], guard := none }) (by kernel_rfl) (by kernel_rfl) (by kernel_rfl)  (fun K hK => ?_) (fun K hK => ?_)
                · with_reducible refine mk22_step w.heap.size 105 106 22 "logic.go:493" _ dn HZ2.out (by omega) (by simp [Act.eval]) ?_
                  intro gD W3 hg hs hd
                  have HS3 := Lib.hid hs; clear hs
                  have HD := Lib.hid hd; clear hd
                  have HNE : Hid (gD ≠ gN) := Lib.hid (by have h := own_lt HN.out gN rfl; omega)
                  clear hg
                  replace HP := Lib.hid (HP.out.below HS3.out)
                  replace HN := Lib.hid (pw_own_below HN.out HS3.out)
                  have HB3 := Lib.hid (HB2.out.trans (HS3.out.mono HB2.out.size))
                  have HZ3 : Hid (w.heap.size ≤ W3.heap.size) := Lib.hid (Nat.le_trans HZ2.out HS3.out.size)
                  with_reducible refine hK _ _ (fun _ => SKEEP.out _ HB3.out) ?_
                  clear hK K
                  try simp only [Act.put, List.setIfInBounds_toArray, List.set_cons_zero, List.set_cons_succ]
                  refine wpAnyF_one (i := 12) (o := { dst := some 109, op := Op.makeSlice 105 (Operand.tmp 108) (Operand.tmp 108), type := 105, pos := "logic.go:493", after := #[{ on := 11, ground := Ground.data }, { on := 11, ground := Ground.data }], guard := none }) (by kernel_rfl) (by kernel_rfl)  (fun K hK => ?_)
                  with_reducible refine mk105_step w.heap.size 108 109 105 "logic.go:493" _ nn HZ3.out (by omega) (by simp [Act.eval]) ?_
                  intro gO W4 hg hs hd
                  have HS4 := Lib.hid hs; clear hs
                  have HO := Lib.hid hd; clear hd
                  clear hg
                  replace HP := Lib.hid (HP.out.below HS4.out)
                  replace HD := Lib.hid (pw_own_below HD.out HS4.out)
                  replace HN := Lib.hid (pw_own_below HN.out HS4.out)
                  have HB4 := Lib.hid (HB3.out.trans (HS4.out.mono HB3.out.size))
                  have HZ4 : Hid (w.heap.size ≤ W4.heap.size) := Lib.hid (Nat.le_trans HZ3.out HS4.out.size)
                  with_reducible refine hK _ _ (fun _ => SKEEP.out _ HB4.out) ?_
                  clear hK K
                  try simp only [Act.put, List.setIfInBounds_toArray, List.set_cons_zero, List.set_cons_succ]
                  have HM : Hid (MadeSt w nn gn gc dn GA (gp, mb, gD, gO, gN) W4) := Lib.hid ⟨HP.out, HD.out, HO.out, HN.out, HNE.out⟩
                  with_reducible exact wpAnyF_to (by kernel_rfl) (by kernel_rfl) (REST (gp, mb, gD, gO, gN) W4 ⟨HB4, HM⟩)
                · with_reducible refine mk105_step w.heap.size 108 109 105 "logic.go:493" _ nn HZ2.out (by omega) (by simp [Act.eval]) ?_
                  intro gO W3 hg hs hd
                  have HS3 := Lib.hid hs; clear hs
                  have HO := Lib.hid hd; clear hd
                  clear hg
                  replace HP := Lib.hid (HP.out.below HS3.out)
                  replace HN := Lib.hid (pw_own_below HN.out HS3.out)
                  have HB3 := Lib.hid (HB2.out.trans (HS3.out.mono HB2.out.size))
                  have HZ3 : Hid (w.heap.size ≤ W3.heap.size) := Lib.hid (Nat.le_trans HZ2.out HS3.out.size)
                  with_reducible refine hK _ _ (fun _ => SKEEP.out _ HB3.out) ?_
                  clear hK K
                  try simp only [Act.put, List.setIfInBounds_toArray, List.set_cons_zero, List.set_cons_succ]
                  refine wpAnyF_one (i := 9) (o := { dst := some 106, op := Op.makeSlice 22 (Operand.tmp 105) (Operand.tmp 105), type := 22, pos := "logic.go:493", after := #[{ on := 8, ground := Ground.data }, { on := 8, ground := Ground.data }], guard := none }) (by kernel_rfl) (by kernel_rfl)  (fun K hK => ?_)
                  with_reducible refine mk22_step w.heap.size 105 106 22 "logic.go:493" _ dn HZ3.out (by omega) (by simp [Act.eval]) ?_
                  intro gD W4 hg hs hd
                  have HS4 := Lib.hid hs; clear hs
                  have HD := Lib.hid hd; clear hd
                  have HNE : Hid (gD ≠ gN) := Lib.hid (by have h := own_lt HN.out gN rfl; omega)
                  clear hg
                  replace HP := Lib.hid (HP.out.below HS4.out)
                  replace HO := Lib.hid (pw_own_below HO.out HS4.out)
                  replace HN := Lib.hid (pw_own_below HN.out HS4.out)
                  have HB4 := Lib.hid (HB3.out.trans (HS4.out.mono HB3.out.size))
                  have HZ4 : Hid (w.heap.size ≤ W4.heap.size) := Lib.hid (Nat.le_trans HZ3.out HS4.out.size)
                  with_reducible refine hK _ _ (fun _ => SKEEP.out _ HB4.out) ?_
                  clear hK K
                  try simp only [Act.put, List.setIfInBounds_toArray, List.set_cons_zero, List.set_cons_succ]
                  have HM : Hid (MadeSt w nn gn gc dn GA (gp, mb, gD, gO, gN) W4) := Lib.hid ⟨HP.out, HD.out, HO.out, HN.out, HNE.out⟩
                  with_reducible exact wpAnyF_to (by kernel_rfl) (by kernel_rfl) (REST (gp, mb, gD, gO, gN) W4 ⟨HB4, HM⟩)
            · with_reducible refine mk22_step w.heap.size 105 106 22 "logic.go:493" _ dn HZ0.out (by omega) (by simp [Act.eval]) ?_
              intro gD W1 hg hs hd
              have HS1 := Lib.hid hs; clear hs
              have HD := Lib.hid hd; clear hd
              clear hg
              have HB1 := Lib.hid (HB0.out.trans (HS1.out.mono HB0.out.size))
              have HZ1 : Hid (w.heap.size ≤ W1.heap.size) := Lib.hid (Nat.le_trans HZ0.out HS1.out.size)
              with_reducible refine hK _ _ (fun _ => SKEEP.out _ HB1.out) ?_
              clear hK K
              try simp only [Act.put, List.setIfInBounds_toArray, List.set_cons_zero, List.set_cons_succ]
              refine wpAnyF_three (i := 1) (j := 12) (k := 15) (o := { dst := some 98, op := Op.call { callee := Callee.value (Operand.func 52), args := #[Operand.tmp 97], argTypes := #[39] }, type := 90, pos := "logic.go:493", after := #[{ on := 0, ground := Ground.data }], guard := none }) (o' := { dst := some 109, op := Op.makeSlice 105 (Operand.tmp 108) (Operand.tmp 108), type := 105, pos := "logic.go:493", after := #[{ on := 11, ground := Ground.data }, { on := 11, ground := Ground.data }], guard := none }) (o'' := { dst := some 112, op := Op.makeSlice 22 (Operand.tmp 111) (Operand.tmp 111), type := 22, pos := "logic.go:493", after := #[{ on := 14, ground := Ground.data }, { on := 14, ground := Ground.data }], guard := none }) (by kernel_rfl) (by kernel_rfl) (by kernel_rfl) (by kernel_rfl)  (fun K hK => ?_) (fun K hK => ?_) (fun K hK => ?_)
              · refine goes_ (f := 52) Try.func52 (by kernel_rfl) rfl #[.agg #[.int .i64 nn, .slice GA gn gc]] rfl rfl rfl (by simp [Act.eval]) ?_
                refine (made2_any _ _ _ _ _).mono ?_
                rintro e W2 ⟨gp, mb, rfl, hpl, hb⟩
                have HP := Lib.hid hpl; clear hpl
                have HS2 : Hid (Below W1.heap.size W1 W2) := Lib.hid hb; clear hb
                replace HD := Lib.hid (pw_own_below HD.out HS2.out)
                have HB2 := Lib.hid (HB1.out.trans (HS2.out.mono HB1.out.size))
                have HZ2 : Hid (w.heap.size ≤ W2.heap.size) := Lib.hid (Nat.le_trans HZ1.out HS2.out.size)
                refine ⟨_, rfl, ?_⟩
                with_reducible refine hK _ _ (fun _ => SKEEP.out _ HB2.out) ?_
                clear hK K
                try simp only [Act.put, List.setIfInBounds_toArray, List.set_cons_zero, List.set_cons_succ]
                refine wpAnyF_two (i := 12) (j := 15) (o := { dst := some 109, op := Op.makeSlice 105 (Operand.tmp 108) (Operand.tmp 108), type := 105, pos := "logic.go:493", after := #[{ on := 11, ground := Ground.data }, { on := 11, ground := Ground.data }], guard := none }) (o' := { dst := some 112, op := Op.makeSlice 22 (Operand.tmp 111) (Operand.tmp 111), type := 22, pos := "logic.go:493", after := #[{ on := 14, ground := Ground.data }, { on := 14, ground := Ground.data }], guard := none }) (by kernel_rfl) (by kernel_rfl) (by kernel_rfl)  (fun K hK => ?_) (fun K hK => ?_)
                · with_reducible refine mk105_step w.heap.size 108 109 105 "logic.go:493" _ nn HZ2.out (by omega) (by simp [Act.eval]) ?_
                  intro gO W3 hg hs hd
                  have HS3 := Lib.hid hs; clear hs
                  have HO := Lib.hid hd; clear hd
                  clear hg
                  replace HP := Lib.hid (HP.out.below HS3.out)
                  replace HD := Lib.hid (pw_own_below HD.out HS3.out)
                  have HB3 := Lib.hid (HB2.out.trans (HS3.out.mono HB2.out.size))
                  have HZ3 : Hid (w.heap.size ≤ W3.heap.size) := Lib.hid (Nat.le_trans HZ2.out HS3.out.size)
                  with_reducible refine hK _ _ (fun _ => SKEEP.out _ HB3.out) ?_
                  clear hK K
                  try simp only [Act.put, List.setIfInBounds_toArray, List.set_cons_zero, List.set_cons_succ]
                  refine wpAnyF_one (i := 15) (o := { dst := some 112, op := Op.makeSlice 22 (Operand.tmp 111) (Operand.tmp 111), type := 22, pos := "logic.go:493", after := #[{ on := 14, ground := Ground.data }, { on := 14, ground := Ground.data }], guard := none }) (by kernel_rfl) (by kernel_rfl)  (fun K hK => ?_)
                  with_reducible refine mk22_step w.heap.size 111 112 22 "logic.go:493" _ nn HZ3.out (by omega) (by simp [Act.eval]) ?_
                  intro gN W4 hg hs hd
                  have HS4 := Lib.hid hs; clear hs
                  have HN := Lib.hid hd; clear hd
                  have HNE : Hid (gD ≠ gN) := Lib.hid (by have h := own_lt HD.out gD rfl; omega)
                  clear hg
                  replace HP := Lib.hid (HP.out.below HS4.out)
                  replace HD := Lib.hid (pw_own_below HD.out HS4.out)
                  replace HO := Lib.hid (pw_own_below HO.out HS4.out)
                  have HB4 := Lib.hid (HB3.out.trans (HS4.out.mono HB3.out.size))
                  have HZ4 : Hid (w.heap.size ≤ W4.heap.size) := Lib.hid (Nat.le_trans HZ3.out HS4.out.size)
                  with_reducible refine hK _ _ (fun _ => SKEEP.out _ HB4.out) ?_
                  clear hK K
                  try simp only [Act.put, List.setIfInBounds_toArray, List.set_cons_zero, List.set_cons_succ]
                  have HM : Hid (MadeSt w nn gn gc dn GA (gp, mb, gD, gO, gN) W4) := Lib.hid ⟨HP.out, HD.out, HO.out, HN.out, HNE.out⟩
                  with_reducible exact wpAnyF_to (by kernel_rfl) (by kernel_rfl) (REST (gp, mb, gD, gO, gN) W4 ⟨HB4, HM⟩)
                · with_reducible refine mk22_step w.heap.size 111 112 22 "logic.go:493" _ nn HZ2.out (by omega) (by simp [Act.eval]) ?_
                  intro gN W3 hg hs hd
                  have HS3 := Lib.hid hs; clear hs
                  have HN := Lib.hid hd; clear hd
                  have HNE : Hid (gD ≠ gN) := Lib.hid (by have h := own_lt HD.out gD rfl; omega)
                  clear hg
                  replace HP := Lib.hid (HP.out.below HS3.out)
                  replace HD := Lib.hid (pw_own_below HD.out HS3.out)
                  have HB3 := Lib.hid (HB2.out.trans (HS3.out.mono HB2.out.size))
                  have HZ3 : Hid (w.heap.size ≤ W3.heap.size) := Lib.hid (Nat.le_trans HZ2.out HS3.out.size)
                  with_reducible refine hK _ _ (fun _ => SKEEP.out _ HB3.out) ?_
                  clear hK K
                  try simp only [Act.put, List.setIfInBounds_toArray, List.set_cons_zero, List.set_cons_succ]
                  refine wpAnyF_one (i := 12) (o := { dst := some 109, op := Op.makeSlice 105 (Operand.tmp 108) (Operand.tmp 108), type := 105, pos := "logic.go:493", after := #[{ on := 11, ground := Ground.data }, { on := 11, ground := Ground.data }], guard := none }) (by kernel_rfl) (by kernel_rfl)  (fun K hK => ?_)
                  with_reducible refine mk105_step w.heap.size 108 109 105 "logic.go:493" _ nn HZ3.out (by omega) (by simp [Act.eval]) ?_
                  intro gO W4 hg hs hd
                  have HS4 := Lib.hid hs; clear hs
                  have HO := Lib.hid hd; clear hd
                  clear hg
                  replace HP := Lib.hid (HP.out.below HS4.out)
                  replace HD := Lib.hid (pw_own_below HD.out HS4.out)
                  replace HN := Lib.hid (pw_own_below HN.out HS4.out)
                  have HB4 := Lib.hid (HB3.out.trans (HS4.out.mono HB3.out.size))
                  have HZ4 : Hid (w.heap.size ≤ W4.heap.size) := Lib.hid (Nat.le_trans HZ3.out HS4.out.size)
                  with_reducible refine hK _ _ (fun _ => SKEEP.out _ HB4.out) ?_
                  clear hK K
                  try simp only [Act.put, List.setIfInBounds_toArray, List.set_cons_zero, List.set_cons_succ]
                  have HM : Hid (MadeSt w nn gn gc dn GA (gp, mb, gD, gO, gN) W4) := Lib.hid ⟨HP.out, HD.out, HO.out, HN.out, HNE.out⟩
                  with_reducible exact wpAnyF_to (by kernel_rfl) (by kernel_rfl) (REST (gp, mb, gD, gO, gN) W4 ⟨HB4, HM⟩)
              · with_reducible refine mk105_step w.heap.size 108 109 105 "logic.go:493" _ nn HZ1.out (by omega) (by simp [Act.eval]) ?_
                intro gO W2 hg hs hd
                have HS2 := Lib.hid hs; clear hs
                have HO := Lib.hid hd; clear hd
                clear hg
                replace HD := Lib.hid (pw_own_below HD.out HS2.out)
                have HB2 := Lib.hid (HB1.out.trans (HS2.out.mono HB1.out.size))
                have HZ2 : Hid (w.heap.size ≤ W2.heap.size) := Lib.hid (Nat.le_trans HZ1.out HS2.out.size)
                with_reducible refine hK _ _ (fun _ => SKEEP.out _ HB2.out) ?_
                clear hK K
                try simp only [Act.put, List.setIfInBounds_toArray, List.set_cons_zero, List.set_cons_succ]
                refine wpAnyF_two (i := 1) (j := 15) (o := { dst := some 98, op := Op.call { callee := Callee.value (Operand.func 52), args := #[Operand.tmp 97], argTypes := #[39] }, type := 90, pos := "logic.go:493", after := #[{ on := 0, ground := Ground.data }], guard := none }) (o' := { dst := some 112, op := Op.makeSlice 22 (Operand.tmp 111) (Operand.tmp 111), type := 22, pos := "logic.go:493", after := #[{ on := 14, ground := Ground.data }, { on := 14, ground := Ground.data }], guard := none }) (by kernel_rfl) (by kernel_rfl) (by kernel_rfl)  (fun K hK => ?_) (fun K hK => ?_)
                · refine goes_ (f := 52) Try.func52 (by kernel_rfl) rfl #[.agg #[.int .i64 nn, .slice GA gn gc]] rfl rfl rfl (by simp [Act.eval]) ?_
                  refine (made2_any _ _ _ _ _).mono ?_
                  rintro e W3 ⟨gp, mb, rfl, hpl, hb⟩
                  have HP := Lib.hid hpl; clear hpl
                  have HS3 : Hid (Below W2.heap.size W2 W3) := Lib.hid hb; clear hb
                  replace HD := Lib.hid (pw_own_below HD.out HS3.out)
                  replace HO := Lib.hid (pw_own_below HO.out HS3.out)
                  have HB3 := Lib.hid (HB2.out.trans (HS3.out.mono HB2.out.size))
                  have HZ3 : Hid (w.heap.size ≤ W3.heap.size) := Lib.hid (Nat.le_trans HZ2.out HS3.out.size)
                  refine ⟨_, rfl, ?_⟩
                  with_reducible refine hK _ _ (fun _ => SKEEP.out _ HB3.out) ?_
                  clear hK K
                  try simp only [Act.put, List.setIfInBounds_toArray, List.set_cons_zero, List.set_cons_succ]
                  refine wpAnyF_one (i := 15) (o := { dst := some 112, op := Op.makeSlice 22 (Operand.tmp 111) (Operand.tmp 111), type := 22, pos := "logic.go:493", after := #[{ on := 14, ground := Ground.data }, { on := 14, ground := Ground.data }], guard := none }) (by kernel_rfl) (by kernel_rfl)  (fun K hK => ?_)
                  with_reducible refine mk22_step w.heap.size 111 112 22 "logic.go:493" _ nn HZ3.out (by omega) (by simp [Act.eval]) ?_
                  intro gN W4 hg hs hd
                  have HS4 := Lib.hid hs; clear hs
                  have HN := Lib.hid hd; clear hd
                  have HNE : Hid (gD ≠ gN) := Lib.hid (by have h := own_lt HD.out gD rfl; omega)
                  clear hg
                  replace HP := Lib.hid (HP.out.below HS4.out)
                  replace HD := Lib.hid (pw_own_below HD.out HS4.out)
                  replace HO := Lib.hid (pw_own_below HO.out HS4.out)
                  have HB4 := Lib.hid (HB3.out.trans (HS4.out.mono HB3.out.size))
                  have HZ4 : Hid (w.heap.size ≤ W4.heap.size) := Lib.hid (Nat.le_trans HZ3.out HS4.out.size)
                  with_reducible refine hK _ _ (fun _ => SKEEP.out _ HB4.out) ?_
                  clear hK K
                  try simp only [Act.put, List.setIfInBounds_toArray, List.set_cons_zero, List.set_cons_succ]
                  have HM : Hid (MadeSt w nn gn gc dn GA (gp, mb, gD, gO, gN) W4) := Lib.hid ⟨HP.out, HD.out, HO.out, HN.out, HNE.out⟩
                  with_reducible exact wpAnyF_to (by kernel_rfl) (by kernel_rfl) (REST (gp, mb, gD, gO, gN) W4 ⟨HB4, HM⟩)
                · with_reducible refine mk22_step w.heap.size 111 112 22 "logic.go:493" _ nn HZ2.out (by omega) (by simp [Act.eval]) ?_
                  intro gN W3 hg hs hd
                  have HS3 := Lib.hid hs; clear hs
                  have HN := Lib.hid hd; clear hd
                  have HNE : Hid (gD ≠ gN) := Lib.hid (by have h := own_lt HD.out gD rfl; omega)
                  clear hg
                  replace HD := Lib.hid (pw_own_below HD.out HS3.out)
                  replace HO := Lib.hid (pw_own_below HO.out HS3.out)
                  have HB3 := Lib.hid (HB2.out.trans (HS3.out.mono HB2.out.size))
                  have HZ3 : Hid (w.heap.size ≤ W3.heap.size) := Lib.hid (Nat.le_trans HZ2.out HS3.out.size)
                  with_reducible refine hK _ _ (fun _ => SKEEP.out _ HB3.out) ?_
                  clear hK K
                  try simp only [Act.put, List.setIfInBounds_toArray, List.set_cons_zero, List.set_cons_succ]
                  refine wpAnyF_one (i := 1) (o := { dst := some 98, op := Op.call { callee := Callee.value (Operand.func 52), args := #[Operand.tmp 97], argTypes := #[39] }, type := 90, pos := "logic.go:493", after := #[{ on := 0, ground := Ground.data }], guard := none }) (by kernel_rfl) (by kernel_rfl)  (fun K hK => ?_)
                  refine goes_ (f := 52) Try.func52 (by kernel_rfl) rfl #[.agg #[.int .i64 nn, .slice GA gn gc]] rfl rfl rfl (by simp [Act.eval]) ?_
                  refine (made2_any _ _ _ _ _).mono ?_
                  rintro e W4 ⟨gp, mb, rfl, hpl, hb⟩
                  have HP := Lib.hid hpl; clear hpl
                  have HS4 : Hid (Below W3.heap.size W3 W4) := Lib.hid hb; clear hb
                  replace HD := Lib.hid (pw_own_below HD.out HS4.out)
                  replace HO := Lib.hid (pw_own_below HO.out HS4.out)
                  replace HN := Lib.hid (pw_own_below HN.out HS4.out)
                  have HB4 := Lib.hid (HB3.out.trans (HS4.out.mono HB3.out.size))
                  have HZ4 : Hid (w.heap.size ≤ W4.heap.size) := Lib.hid (Nat.le_trans HZ3.out HS4.out.size)
                  refine ⟨_, rfl, ?_⟩
                  with_reducible refine hK _ _ (fun _ => SKEEP.out _ HB4.out) ?_
                  clear hK K
                  try simp only [Act.put, List.setIfInBounds_toArray, List.set_cons_zero, List.set_cons_succ]
                  have HM : Hid (MadeSt w nn gn gc dn GA (gp, mb, gD, gO, gN) W4) := Lib.hid ⟨HP.out, HD.out, HO.out, HN.out, HNE.out⟩
                  with_reducible exact wpAnyF_to (by kernel_rfl) (by kernel_rfl) (REST (gp, mb, gD, gO, gN) W4 ⟨HB4, HM⟩)
              · with_reducible refine mk22_step w.heap.size 111 112 22 "logic.go:493" _ nn HZ1.out (by omega) (by simp [Act.eval]) ?_
                intro gN W2 hg hs hd
                have HS2 := Lib.hid hs; clear hs
                have HN := Lib.hid hd; clear hd
                have HNE : Hid (gD ≠ gN) := Lib.hid (by have h := own_lt HD.out gD rfl; omega)
                clear hg
                replace HD := Lib.hid (pw_own_below HD.out HS2.out)
                have HB2 := Lib.hid (HB1.out.trans (HS2.out.mono HB1.out.size))
                have HZ2 : Hid (w.heap.size ≤ W2.heap.size) := Lib.hid (Nat.le_trans HZ1.out HS2.out.size)
                with_reducible refine hK _ _ (fun _ => SKEEP.out _ HB2.out) ?_
                clear hK K
                try simp only [Act.put, List.setIfInBounds_toArray, List.set_cons_zero, List.set_cons_succ]
                refine wpAnyF_two (i := 1) (j := 12) (o := { dst := some 98, op := Op.call { callee := Callee.value (Operand.func 52), args := #[Operand.tmp 97], argTypes := #[39] }, type := 90, pos := "logic.go:493", after := #[{ on := 0, ground := Ground.data }], guard := none }) (o' := { dst := some 109, op := Op.makeSlice 105 (Operand.tmp 108) (Operand.tmp 108), type := 105, pos := "logic.go:493", after := #[{ on := 11, ground := Ground.data }, { on := 11, ground := Ground.data }], guard := none }) (by kernel_rfl) (by kernel_rfl) (by kernel_rfl)  (fun K hK => ?_) (fun K hK => ?_)
                · refine goes_ (f := 52) Try.func52 (by kernel_rfl) rfl #[.agg #[.int .i64 nn, .slice GA gn gc]] rfl rfl rfl (by simp [Act.eval]) ?_
                  refine (made2_any _ _ _ _ _).mono ?_
                  rintro e W3 ⟨gp, mb, rfl, hpl, hb⟩
                  have HP := Lib.hid hpl; clear hpl
                  have HS3 : Hid (Below W2.heap.size W2 W3) := Lib.hid hb; clear hb
                  replace HD := Lib.hid (pw_own_below HD.out HS3.out)
                  replace HN := Lib.hid (pw_own_below HN.out HS3.out)
                  have HB3 := Lib.hid (HB2.out.trans (HS3.out.mono HB2.out.size))
                  have HZ3 : Hid (w.heap.size ≤ W3.heap.size) := Lib.hid (Nat.le_trans HZ2.out HS3.out.size)
                  refine ⟨_, rfl, ?_⟩
                  with_reducible refine hK _ _ (fun _ => SKEEP.out _ HB3.out) ?_
                  clear hK K
                  try simp only [Act.put, List.setIfInBounds_toArray, List.set_cons_zero, List.set_cons_succ]
                  refine wpAnyF_one (i := 12) (o := { dst := some 109, op := Op.makeSlice 105 (Operand.tmp 108) (Operand.tmp 108), type := 105, pos := "logic.go:493", after := #[{ on := 11, ground := Ground.data }, { on := 11, ground := Ground.data }], guard := none }) (by kernel_rfl) (by kernel_rfl)  (fun K hK => ?_)
                  with_reducible refine mk105_step w.heap.size 108 109 105 "logic.go:493" _ nn HZ3.out (by omega) (by simp [Act.eval]) ?_
                  intro gO W4 hg hs hd
                  have HS4 := Lib.hid hs; clear hs
                  have HO := Lib.hid hd; clear hd
                  clear hg
                  replace HP := Lib.hid (HP.out.below HS4.out)
                  replace HD := Lib.hid (pw_own_below HD.out HS4.out)
                  replace HN := Lib.hid (pw_own_below HN.out HS4.out)
                  have HB4 := Lib.hid (HB3.out.trans (HS4.out.mono HB3.out.size))
                  have HZ4 : Hid (w.heap.size ≤ W4.heap.size) := Lib.hid (Nat.le_trans HZ3.out HS4.out.size)
                  with_reducible refine hK _ _ (fun _ => SKEEP.out _ HB4.out) ?_
                  clear hK K
                  try simp only [Act.put, List.setIfInBounds_toArray, List.set_cons_zero, List.set_cons_succ]
                  have HM : Hid (MadeSt w nn gn gc dn GA (gp, mb, gD, gO, gN) W4) := Lib.hid ⟨HP.out, HD.out, HO.out, HN.out, HNE.out⟩
                  with_reducible exact wpAnyF_to (by kernel_rfl) (by kernel_rfl) (REST (gp, mb, gD, gO, gN) W4 ⟨HB4, HM⟩)
                · with_reducible refine mk105_step w.heap.size 108 109 105 "logic.go:493" _ nn HZ2.out (by omega) (by simp [Act.eval]) ?_
                  intro gO W3 hg hs hd
                  have HS3 := Lib.hid hs; clear hs
                  have HO := Lib.hid hd; clear hd
                  clear hg
                  replace HD := Lib.hid (pw_own_below HD.out HS3.out)
                  replace HN := Lib.hid (pw_own_below HN.out HS3.out)
                  have HB3 := Lib.hid (HB2.out.trans (HS3.out.mono HB2.out.size))
                  have HZ3 : Hid (w.heap.size ≤ W3.heap.size) := Lib.hid (Nat.le_trans HZ2.out HS3.out.size)
                  with_reducible refine hK _ _ (fun _ => SKEEP.out _ HB3.out) ?_
                  clear hK K
                  try simp only [Act.put, List.setIfInBounds_toArray, List.set_cons_zero, List.set_cons_succ]
                  refine wpAnyF_one (i := 1) (o := { dst := some 98, op := Op.call { callee := Callee.value (Operand.func 52), args := #[Operand.tmp 97], argTypes := #[39] }, type := 90, pos := "logic.go:493", after := #[{ on := 0, ground := Ground.data }], guard := none }) (by kernel_rfl) (by kernel_rfl)  (fun K hK => ?_)
                  refine goes_ (f := 52) Try.func52 (by kernel_rfl) rfl #[.agg #[.int .i64 nn, .slice GA gn gc]] rfl rfl rfl (by simp [Act.eval]) ?_
                  refine (made2_any _ _ _ _ _).mono ?_
                  rintro e W4 ⟨gp, mb, rfl, hpl, hb⟩
                  have HP := Lib.hid hpl; clear hpl
                  have HS4 : Hid (Below W3.heap.size W3 W4) := Lib.hid hb; clear hb
                  replace HD := Lib.hid (pw_own_below HD.out HS4.out)
                  replace HO := Lib.hid (pw_own_below HO.out HS4.out)
                  replace HN := Lib.hid (pw_own_below HN.out HS4.out)
                  have HB4 := Lib.hid (HB3.out.trans (HS4.out.mono HB3.out.size))
                  have HZ4 : Hid (w.heap.size ≤ W4.heap.size) := Lib.hid (Nat.le_trans HZ3.out HS4.out.size)
                  refine ⟨_, rfl, ?_⟩
                  with_reducible refine hK _ _ (fun _ => SKEEP.out _ HB4.out) ?_
                  clear hK K
                  try simp only [Act.put, List.setIfInBounds_toArray, List.set_cons_zero, List.set_cons_succ]
                  have HM : Hid (MadeSt w nn gn gc dn GA (gp, mb, gD, gO, gN) W4) := Lib.hid ⟨HP.out, HD.out, HO.out, HN.out, HNE.out⟩
                  with_reducible exact wpAnyF_to (by kernel_rfl) (by kernel_rfl) (REST (gp, mb, gD, gO, gN) W4 ⟨HB4, HM⟩)
            · with_reducible refine mk105_step w.heap.size 108 109 105 "logic.go:493" _ nn HZ0.out (by omega) (by simp [Act.eval]) ?_
              intro gO W1 hg hs hd
              have HS1 := Lib.hid hs; clear hs
              have HO := Lib.hid hd; clear hd
              clear hg
              have HB1 := Lib.hid (HB0.out.trans (HS1.out.mono HB0.out.size))
              have HZ1 : Hid (w.heap.size ≤ W1.heap.size) := Lib.hid (Nat.le_trans HZ0.out HS1.out.size)
              with_reducible refine hK _ _ (fun _ => SKEEP.out _ HB1.out) ?_
              clear hK K
              try simp only [Act.put, List.setIfInBounds_toArray, List.set_cons_zero, List.set_cons_succ]
              refine wpAnyF_three (i := 1) (j := 9) (k := 15) (o := { dst := some 98, op := Op.call { callee := Callee.value (Operand.func 52), args := #[Operand.tmp 97], argTypes := #[39] }, type := 90, pos := "logic.go:493", after := #[{ on := 0, ground := Ground.data }], guard := none }) (o' := { dst := some 106, op := Op.makeSlice 22 (Operand.tmp 105) (Operand.tmp 105), type := 22, pos := "logic.go:493", after := #[{ on := 8, ground := Ground.data }, { on := 8, ground := Ground.data }], guard := none }) (o'' := { dst := some 112, op := Op.makeSlice 22 (Operand.tmp 111) (Operand.tmp 111), type := 22, pos := "logic.go:493", after := #[{ on := 14, ground := Ground.data }, { on := 14, ground := Ground.data }], guard := none }) (by kernel_rfl) (by kernel_rfl) (by kernel_rfl) (by kernel_rfl)  (fun K hK => ?_) (fun K hK => ?_) (fun K hK => ?_)
              · refine goes_ (f := 52) Try.func52 (by kernel_rfl) rfl #[.agg #[.int .i64 nn, .slice GA gn gc]] rfl rfl rfl (by simp [Act.eval]) ?_
                refine (made2_any _ _ _ _ _).mono ?_
                rintro e W2 ⟨gp, mb, rfl, hpl, hb⟩
                have HP := Lib.hid hpl; clear hpl
                have HS2 : Hid (Below W1.heap.size W1 W2) := Lib.hid hb; clear hb
                replace HO := Lib.hid (pw_own_below HO.out HS2.out)
                have HB2 := Lib.hid (HB1.out.trans (HS2.out.mono HB1.out.size))
                have HZ2 : Hid (w.heap.size ≤ W2.heap.size) := Lib.hid (Nat.le_trans HZ1.out HS2.out.size)
                refine ⟨_, rfl, ?_⟩
                with_reducible refine hK _ _ (fun _ => SKEEP.out _ HB2.out) ?_
                clear hK K
                try simp only [Act.put, List.setIfInBounds_toArray, List.set_cons_zero, List.set_cons_succ]
                refine wpAnyF_two (i := 9) (j := 15) (o := { dst := some 106, op := Op.makeSlice 22 (Operand.tmp 105) (Operand.tmp 105), type := 22, pos := "logic.go:493", after := #[{ on := 8, ground := Ground.data }, { on := 8, ground := Ground.data }], guard := none }) (o' := { dst := some 112, op := Op.makeSlice 22 (Operand.tmp 111) (Operand.tmp 111), type := 22, pos := "logic.go:493", after := #[{ on := 14, ground := Ground.data }, { on := 14, ground := Ground.data }], guard := none }) (by kernel_rfl) (by kernel_rfl) (by kernel_rfl)  (fun K hK => ?_) (fun K hK => ?_)
                · with_reducible refine mk22_step w.heap.size 105 106 22 "logic.go:493" _ dn HZ2.out (by omega) (by simp [Act.eval]) ?_
                  intro gD W3 hg hs hd
                  have HS3 := Lib.hid hs; clear hs
                  have HD := Lib.hid hd; clear hd
                  clear hg
                  replace HP := Lib.hid (HP.out.below HS3.out)
                  replace HO := Lib.hid (pw_own_below HO.out HS3.out)
                  have HB3 := Lib.hid (HB2.out.trans (HS3.out.mono HB2.out.size))
                  have HZ3 : Hid (w.heap.size ≤ W3.heap.size) := Lib.hid (Nat.le_trans HZ2.out HS3.out.size)
                  with_reducible refine hK _ _ (fun _ => SKEEP.out _ HB3.out) ?_
                  clear hK K
                  try simp only [Act.put, List.setIfInBounds_toArray, List.set_cons_zero, List.set_cons_succ]
                  refine wpAnyF_one (i := 15) (o := { dst := some 112, op := Op.makeSlice 22 (Operand.tmp 111) (Operand.tmp 111), type := 22, pos := "logic.go:493", after := #[{ on := 14, ground := Ground.data }, { on := 14, ground := Ground.data }], guard := none }) (by kernel_rfl) (by kernel_rfl)  (fun K hK => ?_)
                  with_reducible refine mk22_step w.heap.size 111 112 22 "logic.go:493" _ nn HZ3.out (by omega) (by simp [Act.eval]) ?_
                  intro gN W4 hg hs hd
                  have HS4 := Lib.hid hs; clear hs
                  have HN := Lib.hid hd; clear hd
                  have HNE : Hid (gD ≠ gN) := Lib.hid (by have h := own_lt HD.out gD rfl; omega)
                  clear hg
                  replace HP := Lib.hid (HP.out.below HS4.out)
                  replace HD := Lib.hid (pw_own_below HD.out HS4.out)
                  replace HO := Lib.hid (pw_own_below HO.out HS4.out)
                  have HB4 := Lib.hid (HB3.out.trans (HS4.out.mono HB3.out.size))
                  have HZ4 : Hid (w.heap.size ≤ W4.heap.size) := Lib.hid (Nat.le_trans HZ3.out HS4.out.size)
                  with_reducible refine hK _ _ (fun _ => SKEEP.out _ HB4.out) ?_
                  clear hK K
                  try simp only [Act.put, List.setIfInBounds_toArray, List.set_cons_zero, List.set_cons_succ]
                  have HM : Hid (MadeSt w nn gn gc dn GA (gp, mb, gD, gO, gN) W4) := Lib.hid ⟨HP.out, HD.out, HO.out, HN.out, HNE.out⟩
                  with_reducible exact wpAnyF_to (by kernel_rfl) (by kernel_rfl) (REST (gp, mb, gD, gO, gN) W4 ⟨HB4, HM⟩)
                · with_reducible refine mk22_step w.heap.size 111 112 22 "logic.go:493" _ nn HZ2.out (by omega) (by simp [Act.eval]) ?_
                  intro gN W3 hg hs hd
                  have HS3 := Lib.hid hs; clear hs
                  have HN := Lib.hid hd; clear hd
                  clear hg
                  replace HP := Lib.hid (HP.out.below HS3.out)
                  replace HO := Lib.hid (pw_own_below HO.out HS3.out)
                  have HB3 := Lib.hid (HB2.out.trans (HS3.out.mono HB2.out.size))
                  have HZ3 : Hid (w.heap.size ≤ W3.heap.size) := Lib.hid (Nat.le_trans HZ2.out HS3.out.size)
                  with_reducible refine hK _ _ (fun _ => SKEEP.out _ HB3.out) ?_
                  clear hK K
                  try simp only [Act.put, List.setIfInBounds_toArray, List.set_cons_zero, List.set_cons_succ]
                  refine wpAnyF_one (i := 9) (o := { dst := some 106, op := Op.makeSlice 22 (Operand.tmp 105) (Operand.tmp 105), type := 22, pos := "logic.go:493", after := #[{ on := 8, ground := Ground.data }, { on := 8, ground := Ground.data }], guard := none }) (by kernel_rfl) (by kernel_rfl)  (fun K hK => ?_)
                  with_reducible refine mk22_step w.heap.size 105 106 22 "logic.go:493" _ dn HZ3.out (by omega) (by simp [Act.eval]) ?_
                  intro gD W4 hg hs hd
                  have HS4 := Lib.hid hs; clear hs
                  have HD := Lib.hid hd; clear hd
                  have HNE : Hid (gD ≠ gN) := Lib.hid (by have h := own_lt HN.out gN rfl; omega)
                  clear hg
                  replace HP := Lib.hid (HP.out.below HS4.out)
                  replace HO := Lib.hid (pw_own_below HO.out HS4.out)
                  replace HN := Lib.hid (pw_own_below HN.out HS4.out)
                  have HB4 := Lib.hid (HB3.out.trans (HS4.out.mono HB3.out.size))
                  have HZ4 : Hid (w.heap.size ≤ W4.heap.size) := Lib.hid (Nat.le_trans HZ3.out HS4.out.size)
                  with_reducible refine hK _ _ (fun _ => SKEEP.out _ HB4.out) ?_
                  clear hK K
                  try simp only [Act.put, List.setIfInBounds_toArray, List.set_cons_zero, List.set_cons_succ]
                  have HM : Hid (MadeSt w nn gn gc dn GA (gp, mb, gD, gO, gN) W4) := Lib.hid ⟨HP.out, HD.out, HO.out, HN.out, HNE.out⟩
                  with_reducible exact wpAnyF_to (by kernel_rfl) (by kernel_rfl) (REST (gp, mb, gD, gO, gN) W4 ⟨HB4, HM⟩)
              · with_reducible refine mk22_step w.heap.size 105 106 22 "logic.go:493" _ dn HZ1.out (by omega) (by simp [Act.eval]) ?_
                intro gD W2 hg hs hd
                have HS2 := Lib.hid hs; clear hs
                have HD := Lib.hid hd; clear hd
                clear hg
                replace HO := Lib.hid (pw_own_below HO.out HS2.out)
                have HB2 := Lib.hid (HB1.out.trans (HS2.out.mono HB1.out.size))
                have HZ2 : Hid (w.heap.size ≤ W2.heap.size) := Lib.hid (Nat.le_trans HZ1.out HS2.out.size)
                with_reducible refine hK _ _ (fun _ => SKEEP.out _ HB2.out) ?_
                clear hK K
                try simp only [Act.put, List.setIfInBounds_toArray, List.set_cons_zero, List.set_cons_succ]
                refine wpAnyF_two (i := 1) (j := 15) (o := { dst := some 98, op := Op.call { callee := Callee.value (Operand.func 52), args := #[Operand.tmp 97], argTypes := #[39] }, type := 90, pos := "logic.go:493", after := #[{ on := 0, ground := Ground.data }], guard := none }) (o' := { dst := some 112, op := Op.makeSlice 22 (Operand.tmp 111) (Operand.tmp 111), type := 22, pos := "logic.go:493", after := #[{ on := 14, ground := Ground.data }, { on := 14, ground := Ground.data }], guard := none }) (by kernel_rfl) (by kernel_rfl) (by kernel_rfl)  (fun K hK => ?_) (fun K hK => ?_)
                · refine goes_ (f := 52) Try.func52 (by kernel_rfl) rfl #[.agg #[.int .i64 nn, .slice GA gn gc]] rfl rfl rfl (by simp [Act.eval]) ?_
                  refine (made2_any _ _ _ _ _).mono ?_
                  rintro e W3 ⟨gp, mb, rfl, hpl, hb⟩
                  have HP := Lib.hid hpl; clear hpl
                  have HS3 : Hid (Below W2.heap.size W2 W3) := Lib.hid hb; clear hb
                  replace HD := Lib.hid (pw_own_below HD.out HS3.out)
                  replace HO := Lib.hid (pw_own_below HO.out HS3.out)
                  have HB3 := Lib.hid (HB2.out.trans (HS3.out.mono HB2.out.size))
                  have HZ3 : Hid (w.heap.size ≤ W3.heap.size) := Lib.hid (Nat.le_trans HZ2.out HS3.out.size)
                  refine ⟨_, rfl, ?_⟩
                  with_reducible refine hK _ _ (fun _ => SKEEP.out _ HB3.out) ?_
                  clear hK K
                  try simp only [Act.put, List.setIfInBounds_toArray, List.set_cons_zero, List.set_cons_succ]
                  refine wpAnyF_one (i := 15) (o := { dst := some 112, op := Op.makeSlice 22 (Operand.tmp 111) (Operand.tmp 111), type := 22, pos := "logic.go:493", after := #[{ on := 14, ground := Ground.data }, { on := 14, ground := Ground.data }], guard := none }) (by kernel_rfl) (by kernel_rfl)  (fun K hK => ?_)
                  with_reducible refine mk22_step w.heap.size 111 112 22 "logic.go:493" _ nn HZ3.out (by omega) (by simp [Act.eval]) ?_
                  intro gN W4 hg hs hd
                  have HS4 := Lib.hid hs; clear hs
                  have HN := Lib.hid hd; clear hd
                  have HNE : Hid (gD ≠ gN) := Lib.hid (by have h := own_lt HD.out gD rfl; omega)
                  clear hg
                  replace HP := Lib.hid (HP.out.below HS4.out)
                  replace HD := Lib.hid (pw_own_below HD.out HS4.out)
                  replace HO := Lib.hid (pw_own_below HO.out HS4.out)
                  have HB4 := Lib.hid (HB3.out.trans (HS4.out.mono HB3.out.size))
                  have HZ4 : Hid (w.heap.size ≤ W4.heap.size) := Lib.hid (Nat.le_trans HZ3.out HS4.out.size)
                  with_reducible refine hK _ _ (fun _ => SKEEP.out _ HB4.out) ?_
                  clear hK K
                  try simp only [Act.put, List.setIfInBounds_toArray, List.set_cons_zero, List.set_cons_succ]
                  have HM : Hid (MadeSt w nn gn gc dn GA (gp, mb, gD, gO, gN) W4) := Lib.hid ⟨HP.out, HD.out, HO.out, HN.out, HNE.out⟩
                  with_reducible exact wpAnyF_to (by kernel_rfl) (by kernel_rfl) (REST (gp, mb, gD, gO, gN) W4 ⟨HB4, HM⟩)
                · with_reducible refine mk22_step w.heap.size 111 112 22 "logic.go:493" _ nn HZ2.out (by omega) (by simp [Act.eval]) ?_
                  intro gN W3 hg hs hd
                  have HS3 := Lib.hid hs; clear hs
                  have HN := Lib.hid hd; clear hd
                  have HNE : Hid (gD ≠ gN) := Lib.hid (by have h := own_lt HD.out gD rfl; omega)
                  clear hg
                  replace HD := Lib.hid (pw_own_below HD.out HS3.out)
                  replace HO := Lib.hid (pw_own_below HO.out HS3.out)
                  have HB3 := Lib.hid (HB2.out.trans (HS3.out.mono HB2.out.size))
                  have HZ3 : Hid (w.heap.size ≤ W3.heap.size) := Lib.hid (Nat.le_trans HZ2.out HS3.out.size)
                  with_reducible refine hK _ _ (fun _ => SKEEP.out _ HB3.out) ?_
                  clear hK K
                  try simp only [Act.put, List.setIfInBounds_toArray, List.set_cons_zero, List.set_cons_succ]
                  refine wpAnyF_one (i := 1) (o := { dst := some 98, op := Op.call { callee := Callee.value (Operand.func 52), args := #[Operand.tmp 97], argTypes := #[39] }, type := 90, pos := "logic.go:493", after := #[{ on := 0, ground := Ground.data }], guard := none }) (by kernel_rfl) (by kernel_rfl)  (fun K hK => ?_)
                  refine goes_ (f := 52) Try.func52 (by kernel_rfl) rfl #[.agg #[.int .i64 nn, .slice GA gn gc]] rfl rfl rfl (by simp [Act.eval]) ?_
                  refine (made2_any _ _ _ _ _).mono ?_
                  rintro e W4 ⟨gp, mb, rfl, hpl, hb⟩
                  have HP := Lib.hid hpl; clear hpl
                  have HS4 : Hid (Below W3.heap.size W3 W4) := Lib.hid hb; clear hb
                  replace HD := Lib.hid (pw_own_below HD.out HS4.out)
                  replace HO := Lib.hid (pw_own_below HO.out HS4.out)
                  replace HN := Lib.hid (pw_own_below HN.out HS4.out)
                  have HB4 := Lib.hid (HB3.out.trans (HS4.out.mono HB3.out.size))
                  have HZ4 : Hid (w.heap.size ≤ W4.heap.size) := Lib.hid (Nat.le_trans HZ3.out HS4.out.size)
                  refine ⟨_, rfl, ?_⟩
                  with_reducible refine hK _ _ (fun _ => SKEEP.out _ HB4.out) ?_
                  clear hK K
                  try simp only [Act.put, List.setIfInBounds_toArray, List.set_cons_zero, List.set_cons_succ]
                  have HM : Hid (MadeSt w nn gn gc dn GA (gp, mb, gD, gO, gN) W4) := Lib.hid ⟨HP.out, HD.out, HO.out, HN.out, HNE.out⟩
                  with_reducible exact wpAnyF_to (by kernel_rfl) (by kernel_rfl) (REST (gp, mb, gD, gO, gN) W4 ⟨HB4, HM⟩)
              · with_reducible refine mk22_step w.heap.size 111 112 22 "logic.go:493" _ nn HZ1.out (by omega) (by simp [Act.eval]) ?_
                intro gN W2 hg hs hd
                have HS2 := Lib.hid hs; clear hs
                have HN := Lib.hid hd; clear hd
                clear hg
                replace HO := Lib.hid (pw_own_below HO.out HS2.out)
                have HB2 := Lib.hid (HB1.out.trans (HS2.out.mono HB1.out.size))
                have HZ2 : Hid (w.heap.size ≤ W2.heap.size) := Lib.hid (Nat.le_trans HZ1.out HS2.out.size)
                with_reducible refine hK _ _ (fun _ => SKEEP.out _ HB2.out) ?_
                clear hK K
                try simp only [Act.put, List.setIfInBounds_toArray, List.set_cons_zero, List.set_cons_succ]
                refine wpAnyF_two (i := 1) (j := 9) (o := { dst := some 98, op := Op.call { callee := Callee.value (Operand.func 52), args := #[Operand.tmp 97], argTypes := #[39] }, type := 90, pos := "logic.go:493", after := #[{ on := 0, ground := Ground.data }], guard := none }) (o' := { dst := some 106, op := Op.makeSlice 22 (Operand.tmp 105) (Operand.tmp 105), type := 22, pos := "logic.go:493", after := #[{ on := 8, ground := Ground.data }, { on := 8, ground := Ground.data }], guard := none }) (by kernel_rfl) (by kernel_rfl) (by kernel_rfl)  (fun K hK => ?_) (fun K hK => ?_)
                · refine goes_ (f := 52) Try.func52 (by kernel_rfl) rfl #[.agg #[.int .i64 nn, .slice GA gn gc]] rfl rfl rfl (by simp [Act.eval]) ?_
                  refine (made2_any _ _ _ _ _).mono ?_
                  rintro e W3 ⟨gp, mb, rfl, hpl, hb⟩
                  have HP := Lib.hid hpl; clear hpl
                  have HS3 : Hid (Below W2.heap.size W2 W3) := Lib.hid hb; clear hb
                  replace HO := Lib.hid (pw_own_below HO.out HS3.out)
                  replace HN := Lib.hid (pw_own_below HN.out HS3.out)
                  have HB3 := Lib.hid (HB2.out.trans (HS3.out.mono HB2.out.size))
                  have HZ3 : Hid (w.heap.size ≤ W3.heap.size) := Lib.hid (Nat.le_trans HZ2.out HS3.out.size)
                  refine ⟨_, rfl, ?_⟩
                  with_reducible refine hK _ _ (fun _ => SKEEP.out _ HB3.out) ?_
                  clear hK K
                  try simp only [Act.put, List.setIfInBounds_toArray, List.set_cons_zero, List.set_cons_succ]
                  refine wpAnyF_one (i := 9) (o := { dst := some 106, op := Op.makeSlice 22 (Operand.tmp 105) (Operand.tmp 105), type := 22, pos := "logic.go:493", after := #[{ on := 8, ground := Ground.data }, { on := 8, ground := Ground.data }], guard := none }) (by kernel_rfl) (by kernel_rfl)  (fun K hK => ?_)
                  with_reducible refine mk22_step w.heap.size 105 106 22 "logic.go:493" _ dn HZ3.out (by omega) (by simp [Act.eval]) ?_
                  intro gD W4 hg hs hd
                  have HS4 := Lib.hid hs; clear hs
                  have HD := Lib.hid hd; clear hd
                  have HNE : Hid (gD ≠ gN) := Lib.hid (by have h := own_lt HN.out gN rfl; omega)
                  clear hg
                  replace HP := Lib.hid (HP.out.below HS4.out)
                  replace HO := Lib.hid (pw_own_below HO.out HS4.out)
                  replace HN := Lib.hid (pw_own_below HN.out HS4.out)
                  have HB4 := Lib.hid (HB3.out.trans (HS4.out.mono HB3.out.size))
                  have HZ4 : Hid (w.heap.size ≤ W4.heap.size) := Lib.hid (Nat.le_trans HZ3.out HS4.out.size)
                  with_reducible refine hK _ _ (fun _ => SKEEP.out _ HB4.out) ?_
                  clear hK K
                  try simp only [Act.put, List.setIfInBounds_toArray, List.set_cons_zero, List.set_cons_succ]
                  have HM : Hid (MadeSt w nn gn gc dn GA (gp, mb, gD, gO, gN) W4) := Lib.hid ⟨HP.out, HD.out, HO.out, HN.out, HNE.out⟩
                  with_reducible exact wpAnyF_to (by kernel_rfl) (by kernel_rfl) (REST (gp, mb, gD, gO, gN) W4 ⟨HB4, HM⟩)
                · with_reducible refine mk22_step w.heap.size 105 106 22 "logic.go:493" _ dn HZ2.out (by omega) (by simp [Act.eval]) ?_
                  intro gD W3 hg hs hd
                  have HS3 := Lib.hid hs; clear hs
                  have HD := Lib.hid hd; clear hd
                  have HNE : Hid (gD ≠ gN) := Lib.hid (by have h := own_lt HN.out gN rfl; omega)
                  clear hg
                  replace HO := Lib.hid (pw_own_below HO.out HS3.out)
                  replace HN := Lib.hid (pw_own_below HN.out HS3.out)
                  have HB3 := Lib.hid (HB2.out.trans (HS3.out.mono HB2.out.size))
                  have HZ3 : Hid (w.heap.size ≤ W3.heap.size) := Lib.hid (Nat.le_trans HZ2.out HS3.out.size)
                  with_reducible refine hK _ _ (fun _ => SKEEP.out _ HB3.out) ?_
                  clear hK K
                  try simp only [Act.put, List.setIfInBounds_toArray, List.set_cons_zero, List.set_cons_succ]
                  refine wpAnyF_one (i := 1) (o := { dst := some 98, op := Op.call { callee := Callee.value (Operand.func 52), args := #[Operand.tmp 97], argTypes := #[39] }, type := 90, pos := "logic.go:493", after := #[{ on := 0, ground := Ground.data }], guard := none }) (by kernel_rfl) (by kernel_rfl)  (fun K hK => ?_)
                  refine goes_ (f := 52) Try.func52 (by kernel_rfl) rfl #[.agg #[.int .i64 nn, .slice GA gn gc]] rfl rfl rfl (by simp [Act.eval]) ?_
                  refine (made2_any _ _ _ _ _).mono ?_
                  rintro e W4 ⟨gp, mb, rfl, hpl, hb⟩
                  have HP := Lib.hid hpl; clear hpl
                  have HS4 : Hid (Below W3.heap.size W3 W4) := Lib.hid hb; clear hb
                  replace HD := Lib.hid (pw_own_below HD.out HS4.out)
                  replace HO := Lib.hid (pw_own_below HO.out HS4.out)
                  replace HN := Lib.hid (pw_own_below HN.out HS4.out)
                  have HB4 := Lib.hid (HB3.out.trans (HS4.out.mono HB3.out.size))
                  have HZ4 : Hid (w.heap.size ≤ W4.heap.size) := Lib.hid (Nat.le_trans HZ3.out HS4.out.size)
                  refine ⟨_, rfl, ?_⟩
                  with_reducible refine hK _ _ (fun _ => SKEEP.out _ HB4.out) ?_
                  clear hK K
                  try simp only [Act.put, List.setIfInBounds_toArray, List.set_cons_zero, List.set_cons_succ]
                  have HM : Hid (MadeSt w nn gn gc dn GA (gp, mb, gD, gO, gN) W4) := Lib.hid ⟨HP.out, HD.out, HO.out, HN.out, HNE.out⟩
                  with_reducible exact wpAnyF_to (by kernel_rfl) (by kernel_rfl) (REST (gp, mb, gD, gO, gN) W4 ⟨HB4, HM⟩)
            · with_reducible refine mk22_step w.heap.size 111 112 22 "logic.go:493" _ nn HZ0.out (by omega) (by simp [Act.eval]) ?_
              intro gN W1 hg hs hd
              have HS1 := Lib.hid hs; clear hs
              have HN := Lib.hid hd; clear hd
              clear hg
              have HB1 := Lib.hid (HB0.out.trans (HS1.out.mono HB0.out.size))
              have HZ1 : Hid (w.heap.size ≤ W1.heap.size) := Lib.hid (Nat.le_trans HZ0.out HS1.out.size)
              with_reducible refine hK _ _ (fun _ => SKEEP.out _ HB1.out) ?_
              clear hK K
              try simp only [Act.put, List.setIfInBounds_toArray, List.set_cons_zero, List.set_cons_succ]
              refine wpAnyF_three (i := 1) (j := 9) (k := 12) (o := { dst := some 98, op := Op.call { callee := Callee.value (Operand.func 52), args := #[Operand.tmp 97], argTypes := #[39] }, type := 90, pos := "logic.go:493", after := #[{ on := 0, ground := Ground.data }], guard := none }) (o' := { dst := some 106, op := Op.makeSlice 22 (Operand.tmp 105) (Operand.tmp 105), type := 22, pos := "logic.go:493", after := #[{ on := 8, ground := Ground.data }, { on := 8, ground := Ground.data }], guard := none }) (o'' := { dst := some 109, op := Op.makeSlice 105 (Operand.tmp 108) (Operand.tmp 108), type := 105, pos := "logic.go:493", after := #[{ on := 11, ground := Ground.data }, { on := 11, ground := Ground.data }], guard := none }) (by kernel_rfl) (by kernel_rfl) (by kernel_rfl) (by kernel_rfl)  (fun K hK => ?_) (fun K hK => ?_) (fun K hK => ?_)
              · refine goes_ (f := 52) Try.func52 (by kernel_rfl) rfl #[.agg #[.int .i64 nn, .slice GA gn gc]] rfl rfl rfl (by simp [Act.eval]) ?_
                refine (made2_any _ _ _ _ _).mono ?_
                rintro e W2 ⟨gp, mb, rfl, hpl, hb⟩
                have HP := Lib.hid hpl; clear hpl
                have HS2 : Hid (Below W1.heap.size W1 W2) := Lib.hid hb; clear hb
                replace HN := Lib.hid (pw_own_below HN.out HS2.out)
                have HB2 := Lib.hid (HB1.out.trans (HS2.out.mono HB1.out.size))
                have HZ2 : Hid (w.heap.size ≤ W2.heap.size) := Lib.hid (Nat.le_trans HZ1.out HS2.out.size)
                refine ⟨_, rfl, ?_⟩
                with_reducible refine hK _ _ (fun _ => SKEEP.out _ HB2.out) ?_
                clear hK K
                try simp only [Act.put, List.setIfInBounds_toArray, List.set_cons_zero, List.set_cons_succ]
                refine wpAnyF_two (i := 9) (j := 12) (o := { dst := some 106, op := Op.makeSlice 22 (Operand.tmp 105) (Operand.tmp 105), type := 22, pos := "logic.go:493", after := #[{ on := 8, ground := Ground.data }, { on := 8, ground := Ground.data }], guard := none }) (o' := { dst := some 109, op := Op.makeSlice 105 (Operand.tmp 108) (Operand.tmp 108), type := 105, pos := "logic.go:493", after := #[{ on := 11, ground := Ground.data }, { on := 11, ground := Ground.data }], guard := none }) (by kernel_rfl) (by kernel_rfl) (by kernel_rfl)  (fun K hK => ?_) (fun K hK => ?_)
                · with_reducible refine mk22_step w.heap.size 105 106 22 "logic.go:493" _ dn HZ2.out (by omega) (by simp [Act.eval]) ?_
                  intro gD W3 hg hs hd
                  have HS3 := Lib.hid hs; clear hs
                  have HD := Lib.hid hd; clear hd
                  have HNE : Hid (gD ≠ gN) := Lib.hid (by have h := own_lt HN.out gN rfl; omega)
                  clear hg
                  replace HP := Lib.hid (HP.out.below HS3.out)
                  replace HN := Lib.hid (pw_own_below HN.out HS3.out)
                  have HB3 := Lib.hid (HB2.out.trans (HS3.out.mono HB2.out.size))
                  have HZ3 : Hid (w.heap.size ≤ W3.heap.size) := Lib.hid (Nat.le_trans HZ2.out HS3.out.size)
                  with_reducible refine hK _ _ (fun _ => SKEEP.out _ HB3.out) ?_
                  clear hK K
                  try simp only [Act.put, List.setIfInBounds_toArray, List.set_cons_zero, List.set_cons_succ]
                  refine wpAnyF_one (i := 12) (o := { dst := some 109, op := Op.makeSlice 105 (Operand.tmp 108) (Operand.tmp 108), type := 105, pos := "logic.go:493", after := #[{ on := 11, ground := Ground.data }, { on := 11, ground := Ground.data }], guard := none }) (by kernel_rfl) (by kernel_rfl)  (fun K hK => ?_)
                  with_reducible refine mk105_step w.heap.size 108 109 105 "logic.go:493" _ nn HZ3.out (by omega) (by simp [Act.eval]) ?_
                  intro gO W4 hg hs hd
                  have HS4 := Lib.hid hs; clear hs
                  have HO := Lib.hid hd; clear hd
                  clear hg
                  replace HP := Lib.hid (HP.out.below HS4.out)
                  replace HD := Lib.hid (pw_own_below HD.out HS4.out)
                  replace HN := Lib.hid (pw_own_below HN.out HS4.out)
                  have HB4 := Lib.hid (HB3.out.trans (HS4.out.mono HB3.out.size))
                  have HZ4 : Hid (w.heap.size ≤ W4.heap.size) := Lib.hid (Nat.le_trans HZ3.out HS4.out.size)
                  with_reducible refine hK _ _ (fun _ => SKEEP.out _ HB4.out) ?_
                  clear hK K
                  try simp only [Act.put, List.setIfInBounds_toArray, List.set_cons_zero, List.set_cons_succ]
                  have HM : Hid (MadeSt w nn gn gc dn GA (gp, mb, gD, gO, gN) W4) := Lib.hid ⟨HP.out, HD.out, HO.out, HN.out, HNE.out⟩
                  with_reducible exact wpAnyF_to (by kernel_rfl) (by kernel_rfl) (REST (gp, mb, gD, gO, gN) W4 ⟨HB4, HM⟩)
                · with_reducible refine mk105_step w.heap.size 108 109 105 "logic.go:493" _ nn HZ2.out (by omega) (by simp [Act.eval]) ?_
                  intro gO W3 hg hs hd
                  have HS3 := Lib.hid hs; clear hs
                  have HO := Lib.hid hd; clear hd
                  clear hg
                  replace HP := Lib.hid (HP.out.below HS3.out)
                  replace HN := Lib.hid (pw_own_below HN.out HS3.out)
                  have HB3 := Lib.hid (HB2.out.trans (HS3.out.mono HB2.out.size))
                  have HZ3 : Hid (w.heap.size ≤ W3.heap.size) := Lib.hid (Nat.le_trans HZ2.out HS3.out.size)
                  with_reducible refine hK _ _ (fun _ => SKEEP.out _ HB3.out) ?_
                  clear hK K
                  try simp only [Act.put, List.setIfInBounds_toArray, List.set_cons_zero, List.set_cons_succ]
                  refine wpAnyF_one (i := 9) (o := { dst := some 106, op := Op.makeSlice 22 (Operand.tmp 105) (Operand.tmp 105), type := 22, pos := "logic.go:493", after := #[{ on := 8, ground := Ground.data }, { on := 8, ground := Ground.data }], guard := none }) (by kernel_rfl) (by kernel_rfl)  (fun K hK => ?_)
                  with_reducible refine mk22_step w.heap.size 105 106 22 "logic.go:493" _ dn HZ3.out (by omega) (by simp [Act.eval]) ?_
                  intro gD W4 hg hs hd
                  have HS4 := Lib.hid hs; clear hs
                  have HD := Lib.hid hd; clear hd
                  have HNE : Hid (gD ≠ gN) := Lib.hid (by have h := own_lt HN.out gN rfl; omega)
                  clear hg
                  replace HP := Lib.hid (HP.out.below HS4.out)
                  replace HO := Lib.hid (pw_own_below HO.out HS4.out)
                  replace HN := Lib.hid (pw_own_below HN.out HS4.out)
                  have HB4 := Lib.hid (HB3.out.trans (HS4.out.mono HB3.out.size))
                  have HZ4 : Hid (w.heap.size ≤ W4.heap.size) := Lib.hid (Nat.le_trans HZ3.out HS4.out.size)
                  with_reducible refine hK _ _ (fun _ => SKEEP.out _ HB4.out) ?_
                  clear hK K
                  try simp only [Act.put, List.setIfInBounds_toArray, List.set_cons_zero, List.set_cons_succ]
                  have HM : Hid (MadeSt w nn gn gc dn GA (gp, mb, gD, gO, gN) W4) := Lib.hid ⟨HP.out, HD.out, HO.out, HN.out, HNE.out⟩
                  with_reducible exact wpAnyF_to (by kernel_rfl) (by kernel_rfl) (REST (gp, mb, gD, gO, gN) W4 ⟨HB4, HM⟩)
              · with_reducible refine mk22_step w.heap.size 105 106 22 "logic.go:493" _ dn HZ1.out (by omega) (by simp [Act.eval]) ?_
                intro gD W2 hg hs hd
                have HS2 := Lib.hid hs; clear hs
                have HD := Lib.hid hd; clear hd
                have HNE : Hid (gD ≠ gN) := Lib.hid (by have h := own_lt HN.out gN rfl; omega)
                clear hg
                replace HN := Lib.hid (pw_own_below HN.out HS2.out)
                have HB2 := Lib.hid (HB1.out.trans (HS2.out.mono HB1.out.size))
                have HZ2 : Hid (w.heap.size ≤ W2.heap.size) := Lib.hid (Nat.le_trans HZ1.out HS2.out.size)
                with_reducible refine hK _ _ (fun _ => SKEEP.out _ HB2.out) ?_
                clear hK K
                try simp only [Act.put, List.setIfInBounds_toArray, List.set_cons_zero, List.set_cons_succ]
                refine wpAnyF_two (i := 1) (j := 12) (o := { dst := some 98, op := Op.call { callee := Callee.value (Operand.func 52), args := #[Operand.tmp 97], argTypes := #[39] }, type := 90, pos := "logic.go:493", after := #[{ on := 0, ground := Ground.data }], guard := none }) (o' := { dst := some 109, op := Op.makeSlice 105 (Operand.tmp 108) (Operand.tmp 108), type := 105, pos := "logic.go:493", after := #[{ on := 11, ground := Ground.data }, { on := 11, ground := Ground.data }], guard := none }) (by kernel_rfl) (by kernel_rfl) (by kernel_rfl)  (fun K hK => ?_) (fun K hK => ?_)
                · refine goes_ (f := 52) Try.func52 (by kernel_rfl) rfl #[.agg #[.int .i64 nn, .slice GA gn gc]] rfl rfl rfl (by simp [Act.eval]) ?_
                  refine (made2_any _ _ _ _ _).mono ?_
                  rintro e W3 ⟨gp, mb, rfl, hpl, hb⟩
                  have HP := Lib.hid hpl; clear hpl
                  have HS3 : Hid (Below W2.heap.size W2 W3) := Lib.hid hb; clear hb
                  replace HD := Lib.hid (pw_own_below HD.out HS3.out)
                  replace HN := Lib.hid (pw_own_below HN.out HS3.out)
                  have HB3 := Lib.hid (HB2.out.trans (HS3.out.mono HB2.out.size))
                  have HZ3 : Hid (w.heap.size ≤ W3.heap.size) := Lib.hid (Nat.le_trans HZ2.out HS3.out.size)
                  refine ⟨_, rfl, ?_⟩
                  with_reducible refine hK _ _ (fun _ => SKEEP.out _ HB3.out) ?_
                  clear hK K
                  try simp only [Act.put, List.setIfInBounds_toArray, List.set_cons_zero, List.set_cons_succ]
                  refine wpAnyF_one (i := 12) (o := { dst := some 109, op := Op.makeSlice 105 (Operand.tmp 108) (Operand.tmp 108), type := 105, pos := "logic.go:493", after := #[{ on := 11, ground := Ground.data }, { on := 11, ground := Ground.data }], guard := none }) (by kernel_rfl) (by kernel_rfl)  (fun K hK => ?_)
                  with_reducible refine mk105_step w.heap.size 108 109 105 "logic.go:493" _ nn HZ3.out (by omega) (by simp [Act.eval]) ?_
                  intro gO W4 hg hs hd
                  have HS4 := Lib.hid hs; clear hs
                  have HO := Lib.hid hd; clear hd
                  clear hg
                  replace HP := Lib.hid (HP.out.below HS4.out)
                  replace HD := Lib.hid (pw_own_below HD.out HS4.out)
                  replace HN := Lib.hid (pw_own_below HN.out HS4.out)
                  have HB4 := Lib.hid (HB3.out.trans (HS4.out.mono HB3.out.size))
                  have HZ4 : Hid (w.heap.size ≤ W4.heap.size) := Lib.hid (Nat.le_trans HZ3.out HS4.out.size)
                  with_reducible refine hK _ _ (fun _ => SKEEP.out _ HB4.out) ?_
                  clear hK K
                  try simp only [Act.put, List.setIfInBounds_toArray, List.set_cons_zero, List.set_cons_succ]
                  have HM : Hid (MadeSt w nn gn gc dn GA (gp, mb, gD, gO, gN) W4) := Lib.hid ⟨HP.out, HD.out, HO.out, HN.out, HNE.out⟩
                  with_reducible exact wpAnyF_to (by kernel_rfl) (by kernel_rfl) (REST (gp, mb, gD, gO, gN) W4 ⟨HB4, HM⟩)
                · with_reducible refine mk105_step w.heap.size 108 109 105 "logic.go:493" _ nn HZ2.out (by omega) (by simp [Act.eval]) ?_
                  intro gO W3 hg hs hd
                  have HS3 := Lib.hid hs; clear hs
                  have HO := Lib.hid hd; clear hd
                  clear hg
                  replace HD := Lib.hid (pw_own_below HD.out HS3.out)
                  replace HN := Lib.hid (pw_own_below HN.out HS3.out)
                  have HB3 := Lib.hid (HB2.out.trans (HS3.out.mono HB2.out.size))
                  have HZ3 : Hid (w.heap.size ≤ W3.heap.size) := Lib.hid (Nat.le_trans HZ2.out HS3.out.size)
                  with_reducible refine hK _ _ (fun _ => SKEEP.out _ HB3.out) ?_
                  clear hK K
                  try simp only [Act.put, List.setIfInBounds_toArray, List.set_cons_zero, List.set_cons_succ]
                  refine wpAnyF_one (i := 1) (o := { dst := some 98, op := Op.call { callee := Callee.value (Operand.func 52), args := #[Operand.tmp 97], argTypes := #[39] }, type := 90, pos := "logic.go:493", after := #[{ on := 0, ground := Ground.data }], guard := none }) (by kernel_rfl) (by kernel_rfl)  (fun K hK => ?_)
                  refine goes_ (f := 52) Try.func52 (by kernel_rfl) rfl #[.agg #[.int .i64 nn, .slice GA gn gc]] rfl rfl rfl (by simp [Act.eval]) ?_
                  refine (made2_any _ _ _ _ _).mono ?_
                  rintro e W4 ⟨gp, mb, rfl, hpl, hb⟩
                  have HP := Lib.hid hpl; clear hpl
                  have HS4 : Hid (Below W3.heap.size W3 W4) := Lib.hid hb; clear hb
                  replace HD := Lib.hid (pw_own_below HD.out HS4.out)
                  replace HO := Lib.hid (pw_own_below HO.out HS4.out)
                  replace HN := Lib.hid (pw_own_below HN.out HS4.out)
                  have HB4 := Lib.hid (HB3.out.trans (HS4.out.mono HB3.out.size))
                  have HZ4 : Hid (w.heap.size ≤ W4.heap.size) := Lib.hid (Nat.le_trans HZ3.out HS4.out.size)
                  refine ⟨_, rfl, ?_⟩
                  with_reducible refine hK _ _ (fun _ => SKEEP.out _ HB4.out) ?_
                  clear hK K
                  try simp only [Act.put, List.setIfInBounds_toArray, List.set_cons_zero, List.set_cons_succ]
                  have HM : Hid (MadeSt w nn gn gc dn GA (gp, mb, gD, gO, gN) W4) := Lib.hid ⟨HP.out, HD.out, HO.out, HN.out, HNE.out⟩
                  with_reducible exact wpAnyF_to (by kernel_rfl) (by kernel_rfl) (REST (gp, mb, gD, gO, gN) W4 ⟨HB4, HM⟩)
              · with_reducible refine mk105_step w.heap.size 108 109 105 "logic.go:493" _ nn HZ1.out (by omega) (by simp [Act.eval]) ?_
                intro gO W2 hg hs hd
                have HS2 := Lib.hid hs; clear hs
                have HO := Lib.hid hd; clear hd
                clear hg
                replace HN := Lib.hid (pw_own_below HN.out HS2.out)
                have HB2 := Lib.hid (HB1.out.trans (HS2.out.mono HB1.out.size))
                have HZ2 : Hid (w.heap.size ≤ W2.heap.size) := Lib.hid (Nat.le_trans HZ1.out HS2.out.size)
                with_reducible refine hK _ _ (fun _ => SKEEP.out _ HB2.out) ?_
                clear hK K
                try simp only [Act.put, List.setIfInBounds_toArray, List.set_cons_zero, List.set_cons_succ]
                refine wpAnyF_two (i := 1) (j := 9) (o := { dst := some 98, op := Op.call { callee := Callee.value (Operand.func 52), args := #[Operand.tmp 97], argTypes := #[39] }, type := 90, pos := "logic.go:493", after := #[{ on := 0, ground := Ground.data }], guard := none }) (o' := { dst := some 106, op := Op.makeSlice 22 (Operand.tmp 105) (Operand.tmp 105), type := 22, pos := "logic.go:493", after := #[{ on := 8, ground := Ground.data }, { on := 8, ground := Ground.data }], guard := none }) (by kernel_rfl) (by kernel_rfl) (by kernel_rfl)  (fun K hK => ?_) (fun K hK => ?_)
                · refine goes_ (f := 52) Try.func52 (by kernel_rfl) rfl #[.agg #[.int .i64 nn, .slice GA gn gc]] rfl rfl rfl (by simp [Act.eval]) ?_
                  refine (made2_any _ _ _ _ _).mono ?_
                  rintro e W3 ⟨gp, mb, rfl, hpl, hb⟩
                  have HP := Lib.hid hpl; clear hpl
                  have HS3 : Hid (Below W2.heap.size W2 W3) := Lib.hid hb; clear hb
                  replace HO := Lib.hid (pw_own_below HO.out HS3.out)
                  replace HN := Lib.hid (pw_own_below HN.out HS3.out)
                  have HB3 := Lib.hid (HB2.out.trans (HS3.out.mono HB2.out.size))
                  have HZ3 : Hid (w.heap.size ≤ W3.heap.size) := Lib.hid (Nat.le_trans HZ2.out HS3.out.size)
                  refine ⟨_, rfl, ?_⟩
                  with_reducible refine hK _ _ (fun _ => SKEEP.out _ HB3.out) ?_
                  clear hK K
                  try simp only [Act.put, List.setIfInBounds_toArray, List.set_cons_zero, List.set_cons_succ]
                  refine wpAnyF_one (i := 9) (o := { dst := some 106, op := Op.makeSlice 22 (Operand.tmp 105) (Operand.tmp 105), type := 22, pos := "logic.go:493", after := #[{ on := 8, ground := Ground.data }, { on := 8, ground := Ground.data }], guard := none }) (by kernel_rfl) (by kernel_rfl)  (fun K hK => ?_)
                  with_reducible refine mk22_step w.heap.size 105 106 22 "logic.go:493" _ dn HZ3.out (by omega) (by simp [Act.eval]) ?_
                  intro gD W4 hg hs hd
                  have HS4 := Lib.hid hs; clear hs
                  have HD := Lib.hid hd; clear hd
                  have HNE : Hid (gD ≠ gN) := Lib.hid (by have h := own_lt HN.out gN rfl; omega)
                  clear hg
                  replace HP := Lib.hid (HP.out.below HS4.out)
                  replace HO := Lib.hid (pw_own_below HO.out HS4.out)
                  replace HN := Lib.hid (pw_own_below HN.out HS4.out)
                  have HB4 := Lib.hid (HB3.out.trans (HS4.out.mono HB3.out.size))
                  have HZ4 : Hid (w.heap.size ≤ W4.heap.size) := Lib.hid (Nat.le_trans HZ3.out HS4.out.size)
                  with_reducible refine hK _ _ (fun _ => SKEEP.out _ HB4.out) ?_
                  clear hK K
                  try simp only [Act.put, List.setIfInBounds_toArray, List.set_cons_zero, List.set_cons_succ]
                  have HM : Hid (MadeSt w nn gn gc dn GA (gp, mb, gD, gO, gN) W4) := Lib.hid ⟨HP.out, HD.out, HO.out, HN.out, HNE.out⟩
                  with_reducible exact wpAnyF_to (by kernel_rfl) (by kernel_rfl) (REST (gp, mb, gD, gO, gN) W4 ⟨HB4, HM⟩)
                · with_reducible refine mk22_step w.heap.size 105 106 22 "logic.go:493" _ dn HZ2.out (by omega) (by simp [Act.eval]) ?_
                  intro gD W3 hg hs hd
                  have HS3 := Lib.hid hs; clear hs
                  have HD := Lib.hid hd; clear hd
                  have HNE : Hid (gD ≠ gN) := Lib.hid (by have h := own_lt HN.out gN rfl; omega)
                  clear hg
                  replace HO := Lib.hid (pw_own_below HO.out HS3.out)
                  replace HN := Lib.hid (pw_own_below HN.out HS3.out)
                  have HB3 := Lib.hid (HB2.out.trans (HS3.out.mono HB2.out.size))
                  have HZ3 : Hid (w.heap.size ≤ W3.heap.size) := Lib.hid (Nat.le_trans HZ2.out HS3.out.size)
                  with_reducible refine hK _ _ (fun _ => SKEEP.out _ HB3.out) ?_
                  clear hK K
                  try simp only [Act.put, List.setIfInBounds_toArray, List.set_cons_zero, List.set_cons_succ]
                  refine wpAnyF_one (i := 1) (o := { dst := some 98, op := Op.call { callee := Callee.value (Operand.func 52), args := #[Operand.tmp 97], argTypes := #[39] }, type := 90, pos := "logic.go:493", after := #[{ on := 0, ground := Ground.data }], guard := none }) (by kernel_rfl) (by kernel_rfl)  (fun K hK => ?_)
                  refine goes_ (f := 52) Try.func52 (by kernel_rfl) rfl #[.agg #[.int .i64 nn, .slice GA gn gc]] rfl rfl rfl (by simp [Act.eval]) ?_
                  refine (made2_any _ _ _ _ _).mono ?_
                  rintro e W4 ⟨gp, mb, rfl, hpl, hb⟩
                  have HP := Lib.hid hpl; clear hpl
                  have HS4 : Hid (Below W3.heap.size W3 W4) := Lib.hid hb; clear hb
                  replace HD := Lib.hid (pw_own_below HD.out HS4.out)
                  replace HO := Lib.hid (pw_own_below HO.out HS4.out)
                  replace HN := Lib.hid (pw_own_below HN.out HS4.out)
                  have HB4 := Lib.hid (HB3.out.trans (HS4.out.mono HB3.out.size))
                  have HZ4 : Hid (w.heap.size ≤ W4.heap.size) := Lib.hid (Nat.le_trans HZ3.out HS4.out.size)
                  refine ⟨_, rfl, ?_⟩
                  with_reducible refine hK _ _ (fun _ => SKEEP.out _ HB4.out) ?_
                  clear hK K
                  try simp only [Act.put, List.setIfInBounds_toArray, List.set_cons_zero, List.set_cons_succ]
                  have HM : Hid (MadeSt w nn gn gc dn GA (gp, mb, gD, gO, gN) W4) := Lib.hid ⟨HP.out, HD.out, HO.out, HN.out, HNE.out⟩
                  with_reducible exact wpAnyF_to (by kernel_rfl) (by kernel_rfl) (REST (gp, mb, gD, gO, gN) W4 ⟨HB4, HM⟩)
          case rest =>
            rintro ⟨gp, mb, gD, gO, gN⟩ Wr ⟨HBr, HM⟩
            try simp only [Act.put, List.setIfInBounds_toArray, List.set_cons_zero, List.set_cons_succ]
            have HBW := Lib.hid (HBW0.out.trans (HBr.out.mono HBW0.out.size))
            refine wpAnyF_one (i := 16) rfl (by kernel_rfl) (fun K hK => ?_)
            go_simp
            refine hK _ _ (fun _ => SKEEP.out _ HBr.out) ?_
            clear hK K
            try simp only [Act.put, List.setIfInBounds_toArray, List.set_cons_zero, List.set_cons_succ]
            refine wpAnyF_one (i := 17) rfl (by kernel_rfl) (fun K hK => ?_)
            go_simp
            have HAL : Hid (Below Wr.heap.size Wr (Wr.alloc (.cells #[.pointer (some ⟨gp, 0, none⟩), .slice PA pn pc, .slice none 0 0, .slice (some ⟨gD, 0, none⟩) dn dn, .slice (some ⟨gO, 0, none⟩) nn nn, .slice (some ⟨gN, 0, none⟩) nn nn, .slice none 0 0] 108))) := Lib.hid ((Below.refl _ _).alloc (Nat.le_refl _) _)
            refine hK _ _ (fun _ => SKEEP.out _ (HBr.out.trans (HAL.out.mono HBr.out.size))) ?_
            clear hK K
            try simp only [Act.put, List.setIfInBounds_toArray, List.set_cons_zero, List.set_cons_succ]
            refine wpAnyF_one (i := 18) rfl (by kernel_rfl) (fun K hK => ?_)
            go_simp
            refine hK _ _ (fun h => absurd rfl h) ?_
            clear hK K
            try simp only [Act.put, List.setIfInBounds_toArray, List.set_cons_zero, List.set_cons_succ]
            refine wpAnyF_done (by kernel_rfl) ?_ _
            have HK : Hid (KeptS (fun _ => False) Wr (Wr.alloc (.cells #[.pointer (some ⟨gp, 0, none⟩), .slice PA pn pc, .slice none 0 0, .slice (some ⟨gD, 0, none⟩) dn dn, .slice (some ⟨gO, 0, none⟩) nn nn, .slice (some ⟨gN, 0, none⟩) nn nn, .slice none 0 0] 108))) := Lib.hid (KeptS.of_below HAL.out)
            have hc0 := (SKEEP.out _ (HBr.out.trans (HAL.out.mono HBr.out.size))).1
            have hc1 := (SKEEP.out _ (HBr.out.trans (HAL.out.mono HBr.out.size))).2
            go_wp2_with fail
            have HMs := HM
            obtain ⟨hPl, hD, hO, hN, hne⟩ := HM.out
            simp only at hPl hD hO hN hne
            have HR0 : Hid ((Wr.alloc (.cells #[.pointer (some ⟨gp, 0, none⟩), .slice PA pn pc, .slice none 0 0, .slice (some ⟨gD, 0, none⟩) dn dn, .slice (some ⟨gO, 0, none⟩) nn nn, .slice (some ⟨gN, 0, none⟩) nn nn, .slice none 0 0] 108)).heap[Wr.heap.size]? = some (.cells #[.pointer (some ⟨gp, 0, none⟩), .slice PA pn pc, .slice none 0 0, .slice (some ⟨gD, 0, none⟩) dn dn, .slice (some ⟨gO, 0, none⟩) nn nn, .slice (some ⟨gN, 0, none⟩) nn nn, .slice none 0 0] 108 (0, 0))) := Lib.hid (blk_new _ _)
            have HP1 := Lib.hid (hPl.below HAL.out)
            have HD1 : Hid ((Wr.alloc (.cells #[.pointer (some ⟨gp, 0, none⟩), .slice PA pn pc, .slice none 0 0, .slice (some ⟨gD, 0, none⟩) dn dn, .slice (some ⟨gO, 0, none⟩) nn nn, .slice (some ⟨gN, 0, none⟩) nn nn, .slice none 0 0] 108)).ownsRow w.heap.size 3 1 (.slice (some ⟨gD, 0, none⟩) dn dn) dn (nums .i64 (fillD gn nn 0))) := Lib.hid (by rw [fillD_zero HDN.out]; exact pw_own_below hD HAL.out)
            have HO1 := Lib.hid (pw_own_below hO HAL.out)
            have HN1 := Lib.hid (pw_own_below hN HAL.out)
            have HB1 := Lib.hid (HBW.out.trans (HAL.out.mono HBW.out.size))
            have HBK1 := Lib.hid (blk_below HBK0.out (HBr.out.trans (HAL.out.mono HBr.out.size)))
            clear hPl hD hO hN
            have hgb : w.heap.size ≤ Wr.heap.size := HBW.out.size
            generalize Wr.alloc (.cells #[.pointer (some ⟨gp, 0, none⟩), .slice PA pn pc, .slice none 0 0, .slice (some ⟨gD, 0, none⟩) dn dn, .slice (some ⟨gO, 0, none⟩) nn nn, .slice (some ⟨gN, 0, none⟩) nn nn, .slice none 0 0] 108) = Wm at *
            clear HAL HBr HM HMs hc0 hc1 HBW HK HBW0 HBK0
            generalize Wr.heap.size = gr at *
            go_loopw [117] (fun i wr => ∃ k : Nat, k ≤ nn ∧ i = .int .i64 k ∧ Hid (Below w.heap.size w wr) ∧ Hid (wr.heap[w.heap.size]? = some (.cells #[.int .i64 nn, .slice GA gn gc] 39 (0, 0))) ∧ Hid (wr.heap[gr]? = some (.cells #[.pointer (some ⟨gp, 0, none⟩), .slice PA pn pc, .slice none 0 0, .slice (some ⟨gD, 0, none⟩) dn dn, .slice (some ⟨gO, 0, none⟩) nn nn, .slice (some ⟨gN, 0, none⟩) nn nn, .slice none 0 0] 108 (0, 0))) ∧ Hid (PlayerB wr gp mb nn GA gn gc) ∧ Hid (wr.ownsRow w.heap.size 3 1 (.slice (some ⟨gD, 0, none⟩) dn dn) dn (nums .i64 (fillD gn nn k))) ∧ Hid (wr.ownsRow w.heap.size 4 1 (.slice (some ⟨gO, 0, none⟩) nn nn) nn (bools (List.replicate nn false))) ∧ Hid (wr.ownsRow w.heap.size 3 1 (.slice (some ⟨gN, 0, none⟩) nn nn) nn (nums .i64 (List.replicate nn 0)))) (fun i _ => nn - (intOf i).toNat)
            case atStart => exact ⟨0, Nat.zero_le _, rfl, HB1, HBK1, HR0, HP1, HD1, HO1, HN1⟩
            case round =>
              clear HB1 HBK1 HR0 HP1 HD1 HO1 HN1
              obtain ⟨k, hk, rfl, hB, hBK, hR, hP, hD, hO, hN⟩ := hrel
              obtain ⟨wx, rfl⟩ : ∃ wx : World, wx = wr := ⟨_, rfl⟩
              by_cases hlt : k < nn
              · have hlt2 : decide ((k : Int) < (nn : Int)) = true := by simp; omega
                have n1 : gr ≠ gD := fun e => own_ne hD.out hR.out (by decide) (by rw [e]; rfl)
                have n2 : gp ≠ gD := fun e => own_ne hD.out hP.out.1 (by decide) (by rw [e]; rfl)
                have n3 : mb ≠ gD := fun e => own_ne_map (m := #[]) (k := 0) hD.out hP.out.2 (fun _ _ _ h => by cases h) (by rw [e]; rfl)
                have n4 : w.heap.size ≠ gD := fun e => own_ne hD.out hBK.out (by decide) (by rw [← e]; rfl)
                have n5 : gO ≠ gD := fun e => own_ne_own hD.out hO.out (by decide) rfl (by rw [e]; rfl)
                have hgDb := own_base hD.out gD rfl
                have s0 : wx.drew.cell? ⟨gr, 3, none⟩ = some (.slice (some ⟨gD, 0, none⟩) dn dn) := (blk_cell hR.out 3).trans rfl
                have s1 : wx.drew.cell? ⟨w.heap.size, 1, none⟩ = some (.slice GA gn gc) := (blk_cell hBK.out 1).trans rfl
                obtain ⟨d0, df⟩ := own_get hD.out (gn + k) (by have := HDN.out; omega)
                generalize (fillD gn nn k).getD (gn + k) 0 = od at d0
                have d0' : wx.drew.cell? ⟨gD, gn + k, none⟩ = some (.int .i64 od) := d0
                have df' : wx.drew.frozen? ⟨gD, gn + k, none⟩ = false := df
                clear d0 df
                have hsumk : IntKind.i64.wrap ((gn : Int) + (k : Int)) = (gn : Int) + (k : Int) := IntWalk.i64_in _ (by omega)
                have hj0 : (0 : Int) ≤ (gn : Int) + (k : Int) := by omega
                have hj1 : (gn : Int) + (k : Int) < (dn : Int) := by have := HDN.out; omega
                go_wp2_with fail
                refine wp_region_named 10 (fun w' => w'.cell? ⟨gr, 3, none⟩ = some (.slice (some ⟨gD, 0, none⟩) dn dn) ∧ w'.cell? ⟨w.heap.size, 1, none⟩ = some (.slice GA gn gc)) (fun w' => (w'.cell? ⟨gr, 3, none⟩ = some (.slice (some ⟨gD, 0, none⟩) dn dn)) ∧ (w'.cell? ⟨w.heap.size, 1, none⟩ = some (.slice GA gn gc)) ∧ (w'.cell? ⟨gD, gn + k, none⟩ = some (.int .i64 od)) ∧ (w'.frozen? ⟨gD, gn + k, none⟩ = false) ∧ (Hid (Below w.heap.size w w')) ∧ (Hid (w'.heap[w.heap.size]? = some (.cells #[.int .i64 nn, .slice GA gn gc] 39 (0, 0)))) ∧ (Hid (w'.heap[gr]? = some (.cells #[.pointer (some ⟨gp, 0, none⟩), .slice PA pn pc, .slice none 0 0, .slice (some ⟨gD, 0, none⟩) dn dn, .slice (some ⟨gO, 0, none⟩) nn nn, .slice (some ⟨gN, 0, none⟩) nn nn, .slice none 0 0] 108 (0, 0)))) ∧ (Hid (PlayerB w' gp mb nn GA gn gc)) ∧ (Hid (w'.ownsRow w.heap.size 3 1 (.slice (some ⟨gD, 0, none⟩) dn dn) dn (nums .i64 (fillD gn nn k)))) ∧ (Hid (w'.ownsRow w.heap.size 4 1 (.slice (some ⟨gO, 0, none⟩) nn nn) nn (bools (List.replicate nn false)))) ∧ (Hid (w'.ownsRow w.heap.size 3 1 (.slice (some ⟨gN, 0, none⟩) nn nn) nn (nums .i64 (List.replicate nn 0))))) (by kernel_rfl) ⟨s0, s1, d0', df', Lib.hid (pw_below_drewN (n := 1) hB.out), hBK, hR, hP, hD, hO, hN⟩ ?_
                rintro wc ⟨s0, s1, d0', df', HBc, HBKc, HRc, HPc, HDc, HOc, HNc⟩
                refine wpAnyF_take (i := 0) (v := .pointer (some ⟨gr, 0, none⟩)) rfl (by kernel_rfl) (by kernel_rfl) (by kernel_rfl) (by kernel_rfl) (fun _ _ _ h => h) (Or.inl ⟨by rfl, ?_⟩) ⟨s0, s1⟩ ?_
                · rintro W ⟨y0, y1⟩
                  go_simp
                try simp only [Act.put, List.setIfInBounds_toArray, List.set_cons_zero, List.set_cons_succ]
                refine wpAnyF_take (i := 1) (v := .pointer (some ⟨gr, 0, none⟩)) rfl (by kernel_rfl) (by kernel_rfl) (by kernel_rfl) (by kernel_rfl) (fun _ _ _ h => h) (Or.inl ⟨by rfl, ?_⟩) ⟨s0, s1⟩ ?_
                · rintro W ⟨y0, y1⟩
                  go_simp
                try simp only [Act.put, List.setIfInBounds_toArray, List.set_cons_zero, List.set_cons_succ]
                refine wpAnyF_take (i := 2) (v := .pointer (some ⟨gr, 3, none⟩)) rfl (by kernel_rfl) (by kernel_rfl) (by kernel_rfl) (by kernel_rfl) (fun _ _ _ h => h) (Or.inl ⟨by rfl, ?_⟩) ⟨s0, s1⟩ ?_
                · rintro W ⟨y0, y1⟩
                  go_simp
                try simp only [Act.put, List.setIfInBounds_toArray, List.set_cons_zero, List.set_cons_succ]
                refine wpAnyF_take (i := 3) (v := .slice (some ⟨gD, 0, none⟩) dn dn) rfl (by kernel_rfl) (by kernel_rfl) (by kernel_rfl) (by kernel_rfl) (fun _ _ _ h => h) (Or.inl ⟨by rfl, ?_⟩) ⟨s0, s1⟩ ?_
                · rintro W ⟨y0, y1⟩
                  go_simp
                try simp only [Act.put, List.setIfInBounds_toArray, List.set_cons_zero, List.set_cons_succ]
                refine wpAnyF_take (i := 4) (v := .pointer (some ⟨w.heap.size, 1, none⟩)) rfl (by kernel_rfl) (by kernel_rfl) (by kernel_rfl) (by kernel_rfl) (fun _ _ _ h => h) (Or.inl ⟨by rfl, ?_⟩) ⟨s0, s1⟩ ?_
                · rintro W ⟨y0, y1⟩
                  go_simp
                try simp only [Act.put, List.setIfInBounds_toArray, List.set_cons_zero, List.set_cons_succ]
                refine wpAnyF_take (i := 5) (v := .slice GA gn gc) rfl (by kernel_rfl) (by kernel_rfl) (by kernel_rfl) (by kernel_rfl) (fun _ _ _ h => h) (Or.inl ⟨by rfl, ?_⟩) ⟨s0, s1⟩ ?_
                · rintro W ⟨y0, y1⟩
                  go_simp
                try simp only [Act.put, List.setIfInBounds_toArray, List.set_cons_zero, List.set_cons_succ]
                refine wpAnyF_take (i := 6) (v := .int .i64 gn) rfl (by kernel_rfl) (by kernel_rfl) (by kernel_rfl) (by kernel_rfl) (fun _ _ _ h => h) (Or.inl ⟨by rfl, ?_⟩) ⟨s0, s1⟩ ?_
                · rintro W ⟨y0, y1⟩
                  go_simp
                try simp only [Act.put, List.setIfInBounds_toArray, List.set_cons_zero, List.set_cons_succ]
                refine wpAnyF_take (i := 7) (v := .int .i64 k) rfl (by kernel_rfl) (by kernel_rfl) (by kernel_rfl) (by kernel_rfl) (fun _ _ _ h => h) (Or.inl ⟨by rfl, ?_⟩) ⟨s0, s1⟩ ?_
                · rintro W ⟨y0, y1⟩
                  go_simp
                try simp only [Act.put, List.setIfInBounds_toArray, List.set_cons_zero, List.set_cons_succ]
                refine wpAnyF_take (i := 8) (v := .int .i64 ((gn : Int) + (k : Int))) rfl (by kernel_rfl) (by kernel_rfl) (by kernel_rfl) (by kernel_rfl) (fun _ _ _ h => h) (Or.inl ⟨by rfl, ?_⟩) ⟨s0, s1⟩ ?_
                · rintro W ⟨y0, y1⟩
                  go_simp
                try simp only [Act.put, List.setIfInBounds_toArray, List.set_cons_zero, List.set_cons_succ]
                refine wpAnyF_take (i := 9) (v := .pointer (some ⟨gD, gn + k, none⟩)) rfl (by kernel_rfl) (by kernel_rfl) (by kernel_rfl) (by kernel_rfl) (fun _ _ _ h => h) (Or.inl ⟨by rfl, ?_⟩) ⟨s0, s1⟩ ?_
                · rintro W ⟨y0, y1⟩
                  go_simp
                try simp only [Act.put, List.setIfInBounds_toArray, List.set_cons_zero, List.set_cons_succ]
                refine wpAnyF_one (i := 10) rfl (by kernel_rfl) (fun K hK => ?_)
                go_simp
                refine hK _ _ (fun h => absurd rfl h) ?_
                clear hK K
                refine wpAnyF_done (by kernel_rfl) ?_ _
                have HK : Hid (KeptS (· = gD) wc (wc.setCell ⟨gD, gn + k, none⟩ (.int .i64 4))) := Lib.hid (KeptS.setCell (S := (· = gD)) (p := ⟨gD, gn + k, none⟩) rfl _)
                have HB2 : Hid (Below w.heap.size w (wc.setCell ⟨gD, gn + k, none⟩ (.int .i64 4))) := Lib.hid (HBc.out.trans (HK.out.below HBc.out.size (fun i hi => by rw [hi]; exact hgDb)))
                have HD2 : Hid ((wc.setCell ⟨gD, gn + k, none⟩ (.int .i64 4)).ownsRow w.heap.size 3 1 (.slice (some ⟨gD, 0, none⟩) dn dn) dn (nums .i64 (fillD gn nn (k + 1)))) := Lib.hid (by
                  have h := own_put HDc.out (gn + k) 4
                  rw [fillD_set hlt] at h
                  exact h)
                have HBK2 := Lib.hid (HK.out.blk HBKc.out n4)
                have HR2 := Lib.hid (HK.out.blk HRc.out n1)
                have HP2 := Lib.hid (HPc.out.kept HK.out n2 n3)
                have HO2 := Lib.hid (HK.out.own HOc.out (fun g hg => by have e : gO = g := Option.some.inj hg; rw [← e]; exact n5))
                have HN2 := Lib.hid (HK.out.own HNc.out (fun g hg => by have e : gN = g := Option.some.inj hg; rw [← e]; exact fun e => hne e.symm))
                go_wp2_with fail
                first
                | (go_roundw; (case rel => exact ⟨k + 1, by omega, by go_num, HB2, HBK2, HR2, HP2, HD2, HO2, HN2⟩); (case measure => simp [intOf]; omega))
                | exact ⟨⟨k + 1, by omega, by go_num, HB2, HBK2, HR2, HP2, HD2, HO2, HN2⟩, by simp [intOf]; omega⟩
              · have hlt2 : decide ((k : Int) < (nn : Int)) = false := by simp; omega
                have hkn : k = nn := by omega
                have HD1 : Hid (wx.ownsRow w.heap.size 3 1 (.slice (some ⟨gD, 0, none⟩) dn dn) dn (nums .i64 (List.replicate gn 0 ++ List.replicate nn 4))) := Lib.hid (by
                  have h := hD.out
                  rw [hkn, fillD_all] at h
                  exact h)
                have HO1 : Hid (wx.ownsRow w.heap.size 4 1 (.slice (some ⟨gO, 0, none⟩) nn nn) nn (bools (outsTo nn (ps.take 0)))) := hO
                clear hD hO hk hkn
                go_wp2_with fail
                clear hlt2 hlt
                go_loopw [133] (fun i wr => ∃ k : Nat, k ≤ pn ∧ i = .int .i64 k ∧ Hid (Below w.heap.size w wr) ∧ Hid (wr.heap[w.heap.size]? = some (.cells #[.int .i64 nn, .slice GA gn gc] 39 (0, 0))) ∧ Hid (wr.heap[gr]? = some (.cells #[.pointer (some ⟨gp, 0, none⟩), .slice PA pn pc, .slice none 0 0, .slice (some ⟨gD, 0, none⟩) dn dn, .slice (some ⟨gO, 0, none⟩) nn nn, .slice (some ⟨gN, 0, none⟩) nn nn, .slice none 0 0] 108 (0, 0))) ∧ Hid (PlayerB wr gp mb nn GA gn gc) ∧ Hid (wr.ownsRow w.heap.size 3 1 (.slice (some ⟨gD, 0, none⟩) dn dn) dn (nums .i64 (List.replicate gn 0 ++ List.replicate nn 4))) ∧ Hid (wr.ownsRow w.heap.size 4 1 (.slice (some ⟨gO, 0, none⟩) nn nn) nn (bools (outsTo nn (ps.take k)))) ∧ Hid (wr.ownsRow w.heap.size 3 1 (.slice (some ⟨gN, 0, none⟩) nn nn) nn (nums .i64 (List.replicate nn 0)))) (fun i _ => pn - (intOf i).toNat)
                case atStart => exact ⟨0, Nat.zero_le _, rfl, hB, hBK, hR, hP, HD1, HO1, hN⟩
                case round =>
                  clear hB hBK hR hP HD1 HO1 hN
                  obtain ⟨k, hk, rfl, hB, hBK, hR, hP, hD, hO, hN⟩ := hrel
                  obtain ⟨wx, rfl⟩ : ∃ wx : World, wx = wr := ⟨_, rfl⟩
                  by_cases hlt : k < pn
                  · have hlt2 : decide ((k : Int) < (pn : Int)) = true := by simp; omega
                    obtain ⟨ad, rfl, q1, q2, q3⟩ := (HPS.out.below hB.out).at_ k hlt
                    have hkl : k < ps.length := by rw [HPL.out]; exact hlt
                    obtain ⟨po0, po1, po2, po3⟩ := pulse_ok HALL.out hkl
                    have HSU := Lib.hid (outsTo_succ (nn := nn) hkl)
                    clear hkl
                    generalize ps.getD k zPulse = p at *
                    obtain ⟨pt, pnet, pv⟩ := p
                    simp only at q1 q2 q3 po0 po1 po2 po3
                    obtain ⟨m, rfl⟩ := Int.eq_ofNat_of_zero_le po1
                    have hmn : m < nn := by omega
                    have hmm : ((m : Nat) : Int).toNat = m := rfl
                    rw [hmm] at HSU
                    clear hmm
                    have HWG : Hid (Below wx.heap.size wx (wx.alloc (.cells #[.int .i64 pt, .int .i64 m, .int .i64 pv] 103))) := Lib.hid ((Below.refl _ _).alloc (Nat.le_refl _) _)
                    have HBg := Lib.hid (hB.out.trans (HWG.out.mono hB.out.size))
                    have HBKg := Lib.hid (blk_below hBK.out HWG.out)
                    have HRg := Lib.hid (blk_below hR.out HWG.out)
                    have HPg := Lib.hid (hP.out.below HWG.out)
                    have HDg := Lib.hid (pw_own_below hD.out HWG.out)
                    have HOg := Lib.hid (pw_own_below hO.out HWG.out)
                    have HNg := Lib.hid (pw_own_below hN.out HWG.out)
                    have n1 : gr ≠ gO := fun e => own_ne HOg.out HRg.out (by decide) (by rw [e]; rfl)
                    have n2 : gp ≠ gO := fun e => own_ne HOg.out HPg.out.1 (by decide) (by rw [e]; rfl)
                    have n3 : mb ≠ gO := fun e => own_ne_map (m := #[]) (k := 0) HOg.out HPg.out.2 (fun _ _ _ h => by cases h) (by rw [e]; rfl)
                    have n4 : w.heap.size ≠ gO := fun e => own_ne HOg.out HBKg.out (by decide) (by rw [← e]; rfl)
                    have n5 : gD ≠ gO := fun e => own_ne_own HOg.out HDg.out (by decide) rfl (by rw [e]; rfl)
                    have n6 : gN ≠ gO := fun e => own_ne_own HOg.out HNg.out (by decide) rfl (by rw [e]; rfl)
                    have hgOb := own_base HOg.out gO rfl
                    have hgb2 : (wx.alloc (.cells #[.int .i64 pt, .int .i64 m, .int .i64 pv] 103)).drew.heap[wx.heap.size]? = some (.cells #[.int .i64 pt, .int .i64 m, .int .i64 pv] 103 (0, 0)) := blk_new _ _
                    have s0 : (wx.alloc (.cells #[.int .i64 pt, .int .i64 m, .int .i64 pv] 103)).drew.cell? ⟨gr, 4, none⟩ = some (.slice (some ⟨gO, 0, none⟩) nn nn) := (blk_cell HRg.out 4).trans rfl
                    have s1 : (wx.alloc (.cells #[.int .i64 pt, .int .i64 m, .int .i64 pv] 103)).drew.cell? ⟨wx.heap.size, 1, none⟩ = some (.int .i64 m) := (blk_cell hgb2 1).trans rfl
                    clear hgb2
                    obtain ⟨d0, df⟩ := own_getB HOg.out m hmn
                    generalize (outsTo nn (ps.take k)).getD m false = od at d0
                    have d0' : (wx.alloc (.cells #[.int .i64 pt, .int .i64 m, .int .i64 pv] 103)).drew.cell? ⟨gO, m, none⟩ = some (.bool od) := d0
                    have df' : (wx.alloc (.cells #[.int .i64 pt, .int .i64 m, .int .i64 pv] 103)).drew.frozen? ⟨gO, m, none⟩ = false := df
                    clear d0 df
                    have hj0 : (0 : Int) ≤ (m : Int) := by omega
                    have hj1 : (m : Int) < (nn : Int) := by omega
                    go_wp2_with fail
                    refine wp_region_named 7 (fun w' => w'.cell? ⟨gr, 4, none⟩ = some (.slice (some ⟨gO, 0, none⟩) nn nn) ∧ w'.cell? ⟨wx.heap.size, 1, none⟩ = some (.int .i64 m)) (fun w' => (w'.cell? ⟨gr, 4, none⟩ = some (.slice (some ⟨gO, 0, none⟩) nn nn)) ∧ (w'.cell? ⟨wx.heap.size, 1, none⟩ = some (.int .i64 m)) ∧ (w'.cell? ⟨gO, m, none⟩ = some (.bool od)) ∧ (w'.frozen? ⟨gO, m, none⟩ = false) ∧ (Hid (Below w.heap.size w w')) ∧ (Hid (w'.heap[w.heap.size]? = some (.cells #[.int .i64 nn, .slice GA gn gc] 39 (0, 0)))) ∧ (Hid (w'.heap[gr]? = some (.cells #[.pointer (some ⟨gp, 0, none⟩), .slice (some ad) pn pc, .slice none 0 0, .slice (some ⟨gD, 0, none⟩) dn dn, .slice (some ⟨gO, 0, none⟩) nn nn, .slice (some ⟨gN, 0, none⟩) nn nn, .slice none 0 0] 108 (0, 0)))) ∧ (Hid (PlayerB w' gp mb nn GA gn gc)) ∧ (Hid (w'.ownsRow w.heap.size 3 1 (.slice (some ⟨gD, 0, none⟩) dn dn) dn (nums .i64 (List.replicate gn 0 ++ List.replicate nn 4)))) ∧ (Hid (w'.ownsRow w.heap.size 4 1 (.slice (some ⟨gO, 0, none⟩) nn nn) nn (bools (outsTo nn (ps.take k))))) ∧ (Hid (w'.ownsRow w.heap.size 3 1 (.slice (some ⟨gN, 0, none⟩) nn nn) nn (nums .i64 (List.replicate nn 0))))) (by kernel_rfl) ⟨s0, s1, d0', df', Lib.hid (pw_below_drewN (n := 1) HBg.out), HBKg, HRg, HPg, HDg, HOg, HNg⟩ ?_
                    rintro wc ⟨s0, s1, d0', df', HBc, HBKc, HRc, HPc, HDc, HOc, HNc⟩
                    refine wpAnyF_take (i := 0) (v := .pointer (some ⟨gr, 0, none⟩)) rfl (by kernel_rfl) (by kernel_rfl) (by kernel_rfl) (by kernel_rfl) (fun _ _ _ h => h) (Or.inl ⟨by rfl, ?_⟩) ⟨s0, s1⟩ ?_
                    · rintro W ⟨y0, y1⟩
                      go_simp
                    try simp only [Act.put, List.setIfInBounds_toArray, List.set_cons_zero, List.set_cons_succ]
                    refine wpAnyF_take (i := 1) (v := .pointer (some ⟨gr, 0, none⟩)) rfl (by kernel_rfl) (by kernel_rfl) (by kernel_rfl) (by kernel_rfl) (fun _ _ _ h => h) (Or.inl ⟨by rfl, ?_⟩) ⟨s0, s1⟩ ?_
                    · rintro W ⟨y0, y1⟩
                      go_simp
                    try simp only [Act.put, List.setIfInBounds_toArray, List.set_cons_zero, List.set_cons_succ]
                    refine wpAnyF_take (i := 2) (v := .pointer (some ⟨gr, 4, none⟩)) rfl (by kernel_rfl) (by kernel_rfl) (by kernel_rfl) (by kernel_rfl) (fun _ _ _ h => h) (Or.inl ⟨by rfl, ?_⟩) ⟨s0, s1⟩ ?_
                    · rintro W ⟨y0, y1⟩
                      go_simp
                    try simp only [Act.put, List.setIfInBounds_toArray, List.set_cons_zero, List.set_cons_succ]
                    refine wpAnyF_take (i := 3) (v := .slice (some ⟨gO, 0, none⟩) nn nn) rfl (by kernel_rfl) (by kernel_rfl) (by kernel_rfl) (by kernel_rfl) (fun _ _ _ h => h) (Or.inl ⟨by rfl, ?_⟩) ⟨s0, s1⟩ ?_
                    · rintro W ⟨y0, y1⟩
                      go_simp
                    try simp only [Act.put, List.setIfInBounds_toArray, List.set_cons_zero, List.set_cons_succ]
                    refine wpAnyF_take (i := 4) (v := .pointer (some ⟨wx.heap.size, 1, none⟩)) rfl (by kernel_rfl) (by kernel_rfl) (by kernel_rfl) (by kernel_rfl) (fun _ _ _ h => h) (Or.inl ⟨by rfl, ?_⟩) ⟨s0, s1⟩ ?_
                    · rintro W ⟨y0, y1⟩
                      go_simp
                    try simp only [Act.put, List.setIfInBounds_toArray, List.set_cons_zero, List.set_cons_succ]
                    refine wpAnyF_take (i := 5) (v := .int .i64 m) rfl (by kernel_rfl) (by kernel_rfl) (by kernel_rfl) (by kernel_rfl) (fun _ _ _ h => h) (Or.inl ⟨by rfl, ?_⟩) ⟨s0, s1⟩ ?_
                    · rintro W ⟨y0, y1⟩
                      go_simp
                    try simp only [Act.put, List.setIfInBounds_toArray, List.set_cons_zero, List.set_cons_succ]
                    refine wpAnyF_take (i := 6) (v := .pointer (some ⟨gO, m, none⟩)) rfl (by kernel_rfl) (by kernel_rfl) (by kernel_rfl) (by kernel_rfl) (fun _ _ _ h => h) (Or.inl ⟨by rfl, ?_⟩) ⟨s0, s1⟩ ?_
                    · rintro W ⟨y0, y1⟩
                      go_simp
                    try simp only [Act.put, List.setIfInBounds_toArray, List.set_cons_zero, List.set_cons_succ]
                    refine wpAnyF_one (i := 7) rfl (by kernel_rfl) (fun K hK => ?_)
                    go_simp
                    refine hK _ _ (fun h => absurd rfl h) ?_
                    clear hK K
                    refine wpAnyF_done (by kernel_rfl) ?_ _
                    have HK : Hid (KeptS (· = gO) wc (wc.setCell ⟨gO, m, none⟩ (.bool true))) := Lib.hid (KeptS.setCell (S := (· = gO)) (p := ⟨gO, m, none⟩) rfl _)
                    have HB2 : Hid (Below w.heap.size w (wc.setCell ⟨gO, m, none⟩ (.bool true))) := Lib.hid (HBc.out.trans (HK.out.below HBc.out.size (fun i hi => by rw [hi]; exact hgOb)))
                    have HO2 : Hid ((wc.setCell ⟨gO, m, none⟩ (.bool true)).ownsRow w.heap.size 4 1 (.slice (some ⟨gO, 0, none⟩) nn nn) nn (bools (outsTo nn (ps.take (k + 1))))) := Lib.hid (by
                      have h := own_putB HOc.out m true
                      rw [HSU.out]
                      exact h)
                    have HBK2 := Lib.hid (HK.out.blk HBKc.out n4)
                    have HR2 := Lib.hid (HK.out.blk HRc.out n1)
                    have HP2 := Lib.hid (HPc.out.kept HK.out n2 n3)
                    have HD2 := Lib.hid (HK.out.own HDc.out (fun g hg => by have e : gD = g := Option.some.inj hg; rw [← e]; exact n5))
                    have HN2 := Lib.hid (HK.out.own HNc.out (fun g hg => by have e : gN = g := Option.some.inj hg; rw [← e]; exact n6))
                    go_wp2_with fail
                    first
                    | (go_roundw; (case rel => exact ⟨k + 1, by omega, by go_num, HB2, HBK2, HR2, HP2, HD2, HO2, HN2⟩); (case measure => simp [intOf]; omega))
                    | exact ⟨⟨k + 1, by omega, by go_num, HB2, HBK2, HR2, HP2, HD2, HO2, HN2⟩, by simp [intOf]; omega⟩
                  · have hlt2 : decide ((k : Int) < (pn : Int)) = false := by simp; omega
                    have HST : Hid (RunSt w.heap.size wx gr gp mb nn gn gc dn gO nn gN nn GA PA pn pc (outsTo nn ps) (S0 nn gn)) := Lib.hid ⟨hP.out, ⟨gD, dn, .slice none 0 0, .slice none 0 0, hR.out, hD.out, own_nil _ _ _ _, own_nil _ _ _ _, hne⟩, by
                      have h := hO.out
                      rw [List.take_of_length_le (by rw [HPL.out]; omega)] at h
                      exact h, hN.out⟩
                    have HGT := Lib.hid (GoodT.start nn gn (outsTo nn ps))
                    have HPO : Hid (∀ k, k < pn → PulseOk nn (ps.getD k zPulse)) := Lib.hid (fun k hk => pulse_ok HALL.out (by rw [HPL.out]; exact hk))
                    have HPV : Hid (∀ p ∈ ps, isVal p.v = true) := Lib.hid (fun p hp => by
                      have h := List.all_eq_true.1 HALL.out p hp
                      simp only [pulseB, Bool.and_eq_true] at h
                      exact h.2)
                    have HTP : Hid (∀ r, TP nn gs ps un (some 0) (S0 nn gn) r → TP nn gs ps un (some 0) (S0 nn gn) r) := Lib.hid (fun r h => h)
                    clear hR hD hO hN hP hne hk
                    go_wp2_with fail
                    clear hlt2 hlt
                    go_loopw [20, 21] (fun tv bv wr => ∃ (t : Int) (b : Bool) (S : TS), tv = .int .i64 t ∧ bv = .bool b ∧ Hid (Below w.heap.size w wr) ∧ Hid (RunSt w.heap.size wr gr gp mb nn gn gc dn gO nn gN nn GA PA pn pc (outsTo nn ps) S) ∧ Hid (GoodT nn gn (outsTo nn ps) S) ∧ Hid (∀ r, TP nn gs ps un (if b = true then some t else none) S r → TP nn gs ps un (some 0) (S0 nn gn) r) ∧ Hid (b = true → 0 ≤ t) ∧ Hid (b = true → (S.q.length : Int) ≤ 6060 * t) ∧ Hid (S.ed.length ≤ 60)) (fun tv bv _ => meaT un tv bv)
                    case atStart => exact ⟨0, true, S0 nn gn, rfl, rfl, hB, HST, HGT, HTP, Lib.hid (fun _ => by decide), Lib.hid (fun _ => by simp [S0]), Lib.hid (by simp [S0])⟩
                    case round =>
                      clear HST HGT HTP hB hBK
                      obtain ⟨t, b, S, rfl, rfl, hB, hST, hGT, hTP, hT0, hQ, hEL⟩ := hrel
                      obtain ⟨wx, rfl⟩ : ∃ wx : World, wx = wr := ⟨_, rfl⟩
                      cases b
                      · have HTF : Hid (TP nn gs ps un (some 0) (S0 nn gn) (.ok S.ed S.nets)) := Lib.hid (hTP.out _ (by rw [if_neg (by decide)]; exact TP.none))
                        obtain ⟨hP, ⟨gD1, cD1, qk, ek, hR, hD, hQ2, hE, hne1⟩, hO, hN⟩ := hST.out
                        obtain ⟨EA, ec, rfl, hE2⟩ := own_edges hE
                        have HE2 := Lib.hid hE2; clear hE2
                        have HN2 := Lib.hid (own_reads' hN)
                        have HLN := Lib.hid hGT.out.ln
                        have r6 : wx.cell? ⟨gr, 6, none⟩ = some (.slice EA S.ed.length ec) := (blk_cell hR 6).trans rfl
                        have r5 : wx.cell? ⟨gr, 5, none⟩ = some (.slice (some ⟨gN, 0, none⟩) nn nn) := (blk_cell hR 5).trans rfl
                        clear hP hR hD hQ2 hE hne1 hO hN hST hGT hTP hT0 hQ hEL
                        go_wp2_with fail
                        go_quiet (fail)
                        go_wp2
                        go_ret3
                        exact RunRes.fin HPRE.out HTF.out HLN.out HE2.out HN2.out hB.out
                      · by_cases hle : t ≤ un
                        · have hleb : decide (t ≤ un) = true := by simpa using hle
                          obtain ⟨hP, ⟨gD1, cD1, qk, ek, hR, hD, hQ2, hE, hne1⟩, hO, hN⟩ := hST.out
                          have HGT := hGT
                          have ht0 : 0 ≤ t := hT0.out rfl
                          have hqt : (S.q.length : Int) ≤ 6060 * t := hQ.out rfl
                          have hql : S.q.length ≤ 50000000 := by have := HUN0.out.2; omega
                          have HQT := Lib.hid hqt; clear hqt hT0 hQ
                          have hgx : gr < wx.heap.size := blk_lt hR
                          have hgDx : gD1 < wx.heap.size := own_lt hD gD1 rfl
                          have hgNx : gN < wx.heap.size := own_lt hN gN rfl
                          have r5 : wx.cell? ⟨gr, 5, none⟩ = some (.slice (some ⟨gN, 0, none⟩) nn nn) := (blk_cell hR 5).trans rfl
                          have HP := Lib.hid hP
                          have HR := Lib.hid hR
                          have HD := Lib.hid hD
                          have HQ2 := Lib.hid hQ2
                          have HE := Lib.hid hE
                          have HNE := Lib.hid hne1
                          have HO := Lib.hid hO
                          have HN := Lib.hid hN
                          clear hP hR hD hQ2 hE hne1 hO hN hST hGT
                          go_wp2_with fail
                          clear r5
                          refine (clone_all (some ⟨gN, 0, none⟩) nn nn S.nets wx (own_reads' HN.out) (by omega)).mono ?_
                          rintro e w1 ⟨BV, rfl, hbv, hw1⟩
                          obtain ⟨gB, bc, rfl, _, _, _⟩ := own_cells hbv (by omega)
                          have HBV := Lib.hid hbv
                          have HB1 := Lib.hid (hB.out.trans (hw1.mono hB.out.size))
                          replace HP := Lib.hid (HP.out.below hw1)
                          replace HR := Lib.hid (blk_below HR.out hw1)
                          replace HD := Lib.hid (pw_own_below HD.out hw1)
                          replace HQ2 := Lib.hid (pw_own_below HQ2.out hw1)
                          replace HE := Lib.hid (pw_own_below HE.out hw1)
                          replace HO := Lib.hid (pw_own_below HO.out hw1)
                          replace HN := Lib.hid (pw_own_below HN.out hw1)
                          clear hbv hw1
                          go_wp2_with fail
                          refine (due64_any w w1 gr gp mb nn gn gc dn GA PA pn pc ps qk (.slice (some ⟨gO, 0, none⟩) nn nn) (.slice (some ⟨gN, 0, none⟩) nn nn) ek gD1 cD1 t S.gv S.ov S.q HB1.out HPS.out hgb HP.out HR.out HD.out HQ2.out HDN.out HGT.out.lg HGT.out.lo hn40 hg60 HPO.out HGT.out.qo hql).mono ?_
                          rintro e w2 ⟨rfl, qv2, hr2, hd2, hq2, hk2⟩
                          obtain ⟨hp2, he2, ho2, hn2⟩ := RunSt.due HP.out HR.out HD.out HE.out HNE.out HO.out HN.out hk2
                          have HB2 : Hid (Below w.heap.size w w2) := Lib.hid (HB1.out.trans (hk2.below HB1.out.size (fun i h => by
                            rcases h with e | e
                            · rw [e]; exact hgb
                            · rw [e]; exact own_base HD.out gD1 rfl)))
                          have hgBx : wx.heap.size ≤ gB := own_base HBV.out gB rfl
                          have HBV2 := Lib.hid (hk2.own HBV.out (fun g hh => by
                            have e : gB = g := Option.some.inj hh
                            rintro (h | h) <;> omega))
                          have HP2 := Lib.hid hp2
                          have HR2 := Lib.hid hr2
                          have HD2 := Lib.hid hd2
                          have HQ3 := Lib.hid hq2
                          have HE2 := Lib.hid he2
                          have HO2 := Lib.hid ho2
                          have HN2 := Lib.hid hn2
                          clear hp2 hr2 hd2 hq2 he2 ho2 hn2 hk2 HP HR HD HQ2 HE HO HN HBV HB1
                          go_wp2_with fail
                          refine (settle65_any w w2 gr gp mb nn gn gc dn GA gs (.slice PA pn pc) qv2 ek gO nn gN nn t (dueO t ps S.ov) (begS t S) (outsTo nn ps) HB2.out HG.out hgb HP2.out ⟨KeptS.refl _ _, ⟨gD1, cD1, qv2, HR2.out, HD2.out, HQ3.out, HNE.out, .inl rfl⟩, HN2.out⟩ (fun _ _ _ h => blk_q HR2.out h) HO2.out HDN.out HGO.out hn1 hn40 hg60 ht0 (by have := HUN0.out.2; omega) (Nat.le_trans (dueQ_len t S.q) hql) HGT.out.beg ((dueO_len t ps S.ov).trans HGT.out.lo) (dueO_val (nn := nn) HPV.out HGT.out.vo) (out_four HGT.out.o4)).mono ?_
                          intro e w3 hout
                          rcases SetOut.cases hout with ⟨hrun, rfl, hk3⟩ | ⟨s, hrun, rfl, hset, hgood, hqlen⟩
                          all_goals clear hout
                          · skip
                            have HTF : Hid (TP nn gs ps un (some 0) (S0 nn gn) (.err 10)) := Lib.hid (hTP.out _ (by first | (rw [if_pos rfl]; exact TP.bad hle hrun) | (rw [if_pos trivial]; exact TP.bad hle hrun)))
                            have HB3 : Hid (Below w.heap.size w w3) := Lib.hid (HB2.out.trans (hk3.below HB2.out.size (set_base hgb HQ3.out HN2.out)))
                            clear hrun hk3 hTP hEL
                            go_wp2_with fail
                            go_ret3
                            exact RunRes.err2 10 HPRE.out HTF.out HB3.out
                          · skip
                            have HRS := Lib.hid (RunSt.set HP2.out HR2.out HQ3.out HE2.out HO2.out HN2.out hset)
                            have HB3 : Hid (Below w.heap.size w w3) := Lib.hid (HB2.out.trans (hset.1.below HB2.out.size (set_base hgb HQ3.out HN2.out)))
                            have HBV3 : Hid (w3.ownsRow wx.heap.size 3 1 (.slice (some ⟨gB, 0, none⟩) nn bc) nn (nums .i64 S.nets)) := Lib.hid (hset.1.own HBV2.out (fun g hh => by
                              have e : gB = g := Option.some.inj hh
                              rintro (h | h | h)
                              · omega
                              · omega
                              · exact own_ne_own HQ3.out HBV2.out (by decide) hh h))
                            have HRUN := Lib.hid hrun
                            have HGD := Lib.hid hgood
                            have HQL : Hid ((s.q.length : Int) ≤ 6060 * (t + 1)) := Lib.hid (by have := HQT.out; have h2 : (begS t S).q.length ≤ S.q.length := dueQ_len t S.q; omega)
                            have r5 : w3.cell? ⟨gr, 5, none⟩ = some (.slice (some ⟨gN, 0, none⟩) nn nn) := by
                              obtain ⟨_, ⟨_, _, _, _, h, _⟩, _⟩ := HRS.out
                              exact (blk_cell h 5).trans rfl
                            clear hset hgood hqlen hrun HP2 HR2 HD2 HQ3 HE2 HO2 HN2 HNE HBV2 HB2
                            go_wp2_with fail
                            clear r5
                            go_loopw [176] (fun i wr => ∃ k : Nat, k ≤ nn ∧ i = .int .i64 k ∧ Hid (Below w.heap.size w wr) ∧ Hid (RunSt w.heap.size wr gr gp mb nn gn gc dn gO nn gN nn GA PA pn pc (outsTo nn ps) ⟨s.gv, dueO t ps S.ov, s.nets, s.q, S.ed ++ edgesTo t S.nets s.nets k⟩) ∧ Hid (wr.ownsRow wx.heap.size 3 1 (.slice (some ⟨gB, 0, none⟩) nn bc) nn (nums .i64 S.nets))) (fun i _ => nn - (intOf i).toNat)
                            case atStart => exact ⟨0, Nat.zero_le _, rfl, HB3, Lib.hid (by have h := HRS.out; rwa [show S.ed = S.ed ++ edgesTo t S.nets s.nets 0 from (List.append_nil _).symm] at h), HBV3⟩
                            case round =>
                              obtain ⟨k, hk, rfl, hBy, hRy, hVy⟩ := hrel
                              clear HB3 HRS HBV3
                              obtain ⟨wy, rfl⟩ : ∃ wy : World, wy = wr := ⟨_, rfl⟩
                              by_cases hlt : k < nn
                              · have hlt2 : decide ((k : Int) < (nn : Int)) = true := by simp; omega
                                have hj0 : (0 : Int) ≤ (k : Int) := by omega
                                have hj1 : (k : Int) < (nn : Int) := by omega
                                obtain ⟨hP, ⟨gD3, cD3, qk3, ek3, hR, hD, hQ, hE, hne3⟩, hO, hN⟩ := hRy.out
                                obtain ⟨nv, hnv⟩ : ∃ nv, s.nets.getD k 0 = nv := ⟨_, rfl⟩
                                obtain ⟨bv, hbv⟩ : ∃ bv, S.nets.getD k 0 = bv := ⟨_, rfl⟩
                                have n0 : wy.cell? ⟨gN, k, none⟩ = some (.int .i64 nv) := by rw [← hnv]; exact (own_get hN k hlt).1
                                have b0 : wy.cell? ⟨gB, k, none⟩ = some (.int .i64 bv) := by rw [← hbv]; exact (own_get hVy.out k hlt).1
                                by_cases hv : nv = bv
                                · have hvb : (nv != bv) = false := by simpa using hv
                                  have HRn : Hid (RunSt w.heap.size wy gr gp mb nn gn gc dn gO nn gN nn GA PA pn pc (outsTo nn ps) ⟨s.gv, dueO t ps S.ov, s.nets, s.q, S.ed ++ edgesTo t S.nets s.nets (k + 1)⟩) := Lib.hid (by rw [edges_no hnv hbv hv]; exact hRy.out)
                                  clear hnv hbv hv hP hR hD hQ hE hne3 hO hN hRy
                                  go_wp2_with fail
                                  go_roundw
                                  case rel => exact ⟨k + 1, by omega, by go_num, hBy, HRn, hVy⟩
                                  case measure => simp [intOf]; omega
                                · have hvb : (nv != bv) = true := by simpa using hv
                                  have HES := Lib.hid (edges_yes (ed := S.ed) (t := t) hnv hbv hv)
                                  obtain ⟨el2, hel2⟩ : ∃ el2, (S.ed ++ edgesTo t S.nets s.nets k).length = el2 := ⟨_, rfl⟩
                                  have HL2 := Lib.hid hel2
                                  rw [hel2] at hE
                                  have HEL2 : Hid ((S.ed ++ edgesTo t S.nets s.nets k).length ≤ 100) := Lib.hid (by have h1 := edgesTo_len t S.nets s.nets k; have h2 := hEL.out; rw [List.length_append]; omega)
                                  have HEL3 : Hid ((el2 + 1) * 24 ≤ 140737488355328) := Lib.hid (by have := HEL2.out; omega)
                                  have c6 : wy.cell? ⟨gr, 6, none⟩ = some ek3 := (blk_cell hR 6).trans rfl
                                  have HP := Lib.hid hP
                                  have HR := Lib.hid hR
                                  have HD := Lib.hid hD
                                  have HQ := Lib.hid hQ
                                  have HE := Lib.hid hE
                                  have HNE := Lib.hid hne3
                                  have HO := Lib.hid hO
                                  have HN := Lib.hid hN
                                  have HSZ := Lib.hid hBy.out.size
                                  clear hnv hbv hv hP hR hD hQ hE hne3 hO hN hRy hel2
                                  go_wp2_with (at_builtin; refine print_append_cells (w0 := w) (W := wy) w.heap.size rfl (.tmp 191) (.tmp 196) 54 58 (.agg #[.int .i64 0, .int .i64 0, .int .i64 0]) 3 24 rfl Try.underlying54 info58 rfl (by omega) (by omega) ek3 el2 (flatE (S.ed ++ edgesTo t S.nets s.nets k)) [.int .i64 t, .int .i64 k, .int .i64 nv] rfl rfl rfl (by simp [Value.oneCell']) HE.out hBy.out HSZ.out HEL3.out ?_; intro v1 w1 h1 hb1 hg1 hat; obtain ⟨VA, vc, rfl⟩ := own_slice h1; have H1 := Lib.hid h1; clear h1; have HB1 := Lib.hid hb1; clear hb1; have HG1 := Lib.hid hg1; clear hg1 hat; have HR1 := Lib.hid (blk_grown HR.out HG1.out (own_ne HE.out HR.out (by decide))); have k6 : w1.cell? ⟨gr, 6, none⟩ = some ek3 := (blk_cell HR1.out 6).trans rfl; have f6 := blk_frozen HR1.out 6)
                                  obtain ⟨wz, hwz⟩ : ∃ wz, w1.setCell ⟨gr, 6, none⟩ (.slice VA (el2 + 1) vc) = wz := ⟨_, rfl⟩
                                  have HRn : Hid (RunSt w.heap.size wz gr gp mb nn gn gc dn gO nn gN nn GA PA pn pc (outsTo nn ps) ⟨s.gv, dueO t ps S.ov, s.nets, s.q, S.ed ++ edgesTo t S.nets s.nets (k + 1)⟩) := Lib.hid (by
                                    rw [HES.out, ← hwz]
                                    exact RunSt.edge (S := ⟨s.gv, dueO t ps S.ov, s.nets, s.q, S.ed ++ edgesTo t S.nets s.nets k⟩) t k nv HL2.out HP.out HR.out HD.out HQ.out HE.out HNE.out HO.out HN.out H1.out HG1.out)
                                  have HKS : Hid (KeptS (· = gr) w1 wz) := Lib.hid (by rw [← hwz]; exact KeptS.setCell (S := (· = gr)) (p := ⟨gr, 6, none⟩) rfl _)
                                  have HBn : Hid (Below w.heap.size w wz) := Lib.hid (HB1.out.trans (HKS.out.below HB1.out.size (fun i h => by rw [h]; exact hgb)))
                                  have HVn : Hid (wz.ownsRow wx.heap.size 3 1 (.slice (some ⟨gB, 0, none⟩) nn bc) nn (nums .i64 S.nets)) := Lib.hid (HKS.out.own (own_other hVy.out HG1.out (own_type_ne hVy.out HE.out (by decide))) (fun g hh h => by
                                    have e : gB = g := Option.some.inj hh
                                    omega))
                                  rw [hwz]
                                  clear hwz
                                  go_roundw
                                  case rel => exact ⟨k + 1, by omega, by go_num, HBn, HRn, HVn⟩
                                  case measure => simp [intOf]; omega
                              · have hlt2 : decide ((k : Int) < (nn : Int)) = false := by simp; omega
                                have hkn : k = nn := by omega
                                have HRE : Hid (RunSt w.heap.size wy gr gp mb nn gn gc dn gO nn gN nn GA PA pn pc (outsTo nn ps) (endS nn t ps S s)) := Lib.hid (by have h := hRy.out; rw [hkn] at h; exact h)
                                obtain ⟨el, hel⟩ : ∃ el, (endS nn t ps S s).ed.length = el := ⟨_, rfl⟩
                                obtain ⟨hP, ⟨gD3, cD3, qk3, ek3, hR, hD, hQ, hE, hne3⟩, hO, hN⟩ := HRE.out
                                rw [hel] at hE
                                obtain ⟨EA, ec, rfl⟩ := own_slice hE
                                have r6 : wy.cell? ⟨gr, 6, none⟩ = some (.slice EA el ec) := (blk_cell hR 6).trans rfl
                                have HR := Lib.hid hR
                                have HQ : Hid (wy.ownsRow w.heap.size 132 3 qk3 s.q.length (flatS s.q)) := Lib.hid hQ
                                clear hP hR hD hQ hE hne3 hO hN hRy hVy hk hkn
                                by_cases h60 : 60 < el
                                · have hb60 : decide ((60 : Int) < (el : Int)) = true := by simp; omega
                                  have HTF : Hid (TP nn gs ps un (some 0) (S0 nn gn) (.err 3)) := Lib.hid (hTP.out _ (by first | (rw [if_pos rfl]; exact TP.large hle HRUN.out (by rw [hel]; exact h60)) | (rw [if_pos trivial]; exact TP.large hle HRUN.out (by rw [hel]; exact h60))))
                                  clear hel
                                  go_wp2_with fail
                                  go_ret3
                                  exact RunRes.err2 3 HPRE.out HTF.out hBy.out
                                · have hb60 : decide ((60 : Int) < (el : Int)) = false := by simp; omega
                                  obtain ⟨nx, hnx⟩ : ∃ nx, nextT t ps s.q = nx := ⟨_, rfl⟩
                                  have HNT := Lib.hid (tp_next (T0 := some 0) (S0' := S0 nn gn) (fun r h => hTP.out r (by first | (rw [if_pos rfl]; exact h) | (rw [if_pos trivial]; exact h))) hle HRUN.out (by rw [hel]; omega) hnx)
                                  have HLT : Hid (nx.isSome = true → t < nx.getD 0) := Lib.hid (next_lt hnx)
                                  have HGE := Lib.hid (HGT.out.end_ (t := t) HPV.out HGD.out)
                                  have HE60 : Hid ((endS nn t ps S s).ed.length ≤ 60) := Lib.hid (by rw [hel]; omega)
                                  have HNX := Lib.hid hnx
                                  have hml := meaT_lt hle HLT.out
                                  have HML := Lib.hid hml
                                  clear hel hnx hml
                                  go_wp2_with fail
                                  refine (next63_any w wy gr PA pn pc ps _ qk3 _ _ _ _ w.heap.size t s.q hBy.out HPS.out HR.out HQ.out).mono ?_
                                  rintro e w4 ⟨rfl, hb4⟩
                                  have HB4 := Lib.hid (hBy.out.trans (hb4.mono hBy.out.size))
                                  have HRN := Lib.hid (HRE.out.below hb4)
                                  rw [HNX.out]
                                  clear hb4 r6
                                  go_wp2_with fail
                                  first
                                  | (go_roundw; (case rel => exact ⟨nx.getD 0, nx.isSome, endS nn t ps S s, rfl, rfl, HB4, HRN, HGE, HNT, Lib.hid (fun h => by have := HLT.out h; omega), Lib.hid (fun h => by have h1 := HLT.out h; have h2 := HQL.out; show (s.q.length : Int) ≤ _; omega), HE60⟩); (case measure => exact HML.out))
                                  | exact ⟨⟨nx.getD 0, nx.isSome, endS nn t ps S s, rfl, rfl, HB4, HRN, HGE, HNT, Lib.hid (fun h => by have := HLT.out h; omega), Lib.hid (fun h => by have h1 := HLT.out h; have h2 := HQL.out; show (s.q.length : Int) ≤ _; omega), HE60⟩, HML.out⟩
                        · have hleb : decide (t ≤ un) = false := by simpa using hle
                          have HTF : Hid (TP nn gs ps un (some 0) (S0 nn gn) (.ok S.ed S.nets)) := Lib.hid (hTP.out _ (by rw [if_pos rfl]; exact TP.fin (by omega)))
                          obtain ⟨hP, ⟨gD1, cD1, qk, ek, hR, hD, hQ2, hE, hne1⟩, hO, hN⟩ := hST.out
                          obtain ⟨EA, ec, rfl, hE2⟩ := own_edges hE
                          have HE2 := Lib.hid hE2; clear hE2
                          have HN2 := Lib.hid (own_reads' hN)
                          have HLN := Lib.hid hGT.out.ln
                          have r6 : wx.cell? ⟨gr, 6, none⟩ = some (.slice EA S.ed.length ec) := (blk_cell hR 6).trans rfl
                          have r5 : wx.cell? ⟨gr, 5, none⟩ = some (.slice (some ⟨gN, 0, none⟩) nn nn) := (blk_cell hR 5).trans rfl
                          clear hP hR hD hQ2 hE hne1 hO hN hST hGT hTP hT0 hQ hEL
                          go_wp2_with fail
                          go_quiet (fail)
                          go_wp2
                          go_ret3
                          exact RunRes.fin HPRE.out HTF.out HLN.out HE2.out HN2.out hB.out
end Go.Proofs.Ytobdhdehmkmjcaa
