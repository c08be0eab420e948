/- The plain law of resolving in any order, and append of numbers in a region. -/
import Derived.Test.YtobdhdehmkmjcaaG
import Derived.Deep.RegionLaw
namespace Go.Proofs.Ytobdhdehmkmjcaa
open Go.RowKit Go.Proofs.YtobdhdehmkmjcaaW.PrintWords

theorem meetF_table : ∀ a b : Fin 9, meetF (a.val : Int) b.val = meetF b.val a.val ∧ meetF a.val b.val ≠ 8 ∧ (meetF a.val 4 = a.val ∨ a.val = 8) ∧ (meetF 4 a.val = a.val ∨ a.val = 8) := by decide
theorem meetF_assoc3 : ∀ a b c : Fin 9, meetF (meetF (a.val : Int) b.val) c.val = meetF a.val (meetF b.val c.val) := by decide +kernel
theorem fin_of {a : Int} (h : isVal a = true) : ∃ i : Fin 9, a = i.val := by
  have := isVal_iff h
  exact ⟨⟨a.toNat, by omega⟩, by simp; omega⟩
theorem meetF_comm {a b : Int} (ha : isVal a = true) (hb : isVal b = true) : meetF a b = meetF b a := by
  obtain ⟨i, rfl⟩ := fin_of ha
  obtain ⟨j, rfl⟩ := fin_of hb
  exact (meetF_table i j).1
theorem meetF_ne {a b : Int} (ha : isVal a = true) (hb : isVal b = true) : meetF a b ≠ 8 := by
  obtain ⟨i, rfl⟩ := fin_of ha
  obtain ⟨j, rfl⟩ := fin_of hb
  exact (meetF_table i j).2.1
theorem meetF_four {a : Int} (ha : isVal a = true) (h : a ≠ 8) : meetF a 4 = a ∧ meetF 4 a = a := by
  obtain ⟨i, rfl⟩ := fin_of ha
  have := (meetF_table i i).2.2
  exact ⟨this.1.resolve_right (by omega), this.2.resolve_right (by omega)⟩
theorem meetF_assoc {a b c : Int} (ha : isVal a = true) (hb : isVal b = true) (hc : isVal c = true) : meetF (meetF a b) c = meetF a (meetF b c) := by
  obtain ⟨i, rfl⟩ := fin_of ha
  obtain ⟨j, rfl⟩ := fin_of hb
  obtain ⟨k, rfl⟩ := fin_of hc
  exact meetF_assoc3 i j k
theorem resF_ne {xs : List Int} (h : xs.all isVal = true) : resF xs ≠ 8 := by
  rcases List.eq_nil_or_concat xs with rfl | ⟨ys, y, rfl⟩
  · decide
  · rw [List.concat_eq_append] at h ⊢
    rw [List.all_append] at h
    simp only [Bool.and_eq_true, List.all_cons, List.all_nil, and_true] at h
    have hy := resF_val h.1
    unfold resF at *
    rw [List.foldl_append]
    exact meetF_ne hy (by simpa using h.2)
theorem foldl_meet {ys : List Int} (h : ys.all isVal = true) : ∀ z : Int, isVal z = true → z ≠ 8 → ys.foldl meetF z = meetF z (resF ys) := by
  induction ys with
  | nil => intro z hz h8; exact (meetF_four hz h8).1.symm
  | cons y ys ih =>
    intro z hz h8
    simp only [List.all_cons, Bool.and_eq_true] at h
    have h4 : isVal 4 = true := rfl
    rw [List.foldl_cons, ih h.2 _ (meetF_val hz h.1) (meetF_ne hz h.1)]
    unfold resF
    rw [List.foldl_cons, ih h.2 _ (meetF_val h4 h.1) (meetF_ne h4 h.1), ← meetF_assoc hz (meetF_val h4 h.1) (resF_val h.2), ← meetF_assoc hz h4 h.1, (meetF_four hz h8).1]
    rfl
theorem resF_append {xs ys : List Int} (hx : xs.all isVal = true) (hy : ys.all isVal = true) : resF (xs ++ ys) = meetF (resF xs) (resF ys) := by
  have : resF (xs ++ ys) = ys.foldl meetF (resF xs) := by unfold resF; rw [List.foldl_append]
  rw [this, foldl_meet hy _ (resF_val hx) (resF_ne hx)]
theorem rot_values (l : List Int) (k : Nat) : valuesF (l.drop k ++ l.take k) = valuesF l := by
  have h1 : (l.drop k ++ l.take k).length = l.length := by simp; omega
  have h2 : (l.drop k ++ l.take k).all isVal = l.all isVal := by
    rw [List.all_append, Bool.and_comm, ← List.all_append, List.take_append_drop]
  unfold valuesF
  rw [h1, h2]
theorem rot_resolve (l : List Int) (k : Nat) : resolveF (l.drop k ++ l.take k) = resolveF l := by
  unfold resolveF
  rw [rot_values]
  split
  · have h := (valuesF_ok ‹_›).1
    have h1 : (l.take k).all isVal = true ∧ (l.drop k).all isVal = true := by
      rw [← List.take_append_drop k l, List.all_append, Bool.and_eq_true] at h
      exact h
    rw [resF_append h1.2 h1.1, meetF_comm (resF_val h1.2) (resF_val h1.1), ← resF_append h1.1 h1.2, List.take_append_drop]
  · rfl
theorem part_resolve {l : List Int} (h : valuesF l = 0) (k : Nat) : resolveF [(resolveF (l.take k)).1, (resolveF (l.drop k)).1] = (resF l, 0) ∧ resolveF l = (resF l, 0) := by
  have h64 := (valuesF_ok h).2
  have ha := (valuesF_ok h).1
  have h1 : (l.take k).all isVal = true ∧ (l.drop k).all isVal = true := by
    rw [← List.take_append_drop k l, List.all_append, Bool.and_eq_true] at ha
    exact ha
  have hok : ∀ xs : List Int, xs.all isVal = true → xs.length ≤ 64 → valuesF xs = 0 := by
    intro xs hx hl
    unfold valuesF
    rw [if_neg (by omega), if_pos hx]
  have e1 : resolveF (l.take k) = (resF (l.take k), 0) := if_pos (hok _ h1.1 (by simp; omega))
  have e2 : resolveF (l.drop k) = (resF (l.drop k), 0) := if_pos (hok _ h1.2 (by simp; omega))
  rw [e1, e2]
  have v1 := resF_val h1.1
  have v2 := resF_val h1.2
  refine ⟨?_, if_pos h⟩
  have e3 : resolveF [resF (l.take k), resF (l.drop k)] = (resF [resF (l.take k), resF (l.drop k)], 0) := if_pos (hok _ (by simp [v1, v2]) (by simp))
  have e4 : resF [resF (l.take k), resF (l.drop k)] = resF l := by
    show meetF (meetF 4 (resF (l.take k))) (resF (l.drop k)) = resF l
    rw [(meetF_four v1 (resF_ne h1.1)).2, ← resF_append h1.1 h1.2, List.take_append_drop]
  rw [e3, e4]

section
variable {P : Program} {ops : Array Oper} {o : Oper} {a : Act} {K : Act → World → Prop} {Q : Exit → Act → World → Prop} {E : Prop}
theorem run_append_ints {W : World} (base : Nat) (t ty e : TypeId) (k : IntKind) (bytes : Nat) (ht : P.underlying t = some (.slice e)) (hinfo : (P.info? e).map (fun i => (i.zero, i.size, i.bytes)) = some (some (.int k 0), 1, bytes)) (hb0 : 0 < bytes)
    (v : Value) (xs ys : List Int) (A : Option Addr) (m c : Nat) (HO : W.ownsRow base e 1 v xs.length (nums k xs)) (HR : ReadsInt W k A m ys) (hbase : base ≤ W.heap.size) (hl : (xs.length + m) * bytes ≤ 140737488355328) :
    ∃ v1 w1, (Builtin.append_ #[t, t] ty #[v, .slice A m c]).run P W = .ok v1 w1 ∧ w1.ownsRow base e 1 v1 (xs ++ ys).length (nums k (xs ++ ys)) ∧ W.grownBy w1 v.ownBlock := by
  obtain ⟨i0, hi, hzz⟩ := Option.map_eq_some_iff.1 hinfo
  simp only [Prod.mk.injEq] at hzz
  obtain ⟨hz0, hz1, hz2⟩ := hzz
  have hm : ys.length = m := HR.1
  have hlen : xs.length + m ≤ 140737488355328 := Nat.le_trans (Nat.le_mul_of_pos_right _ hb0) hl
  rcases A with _ | ad
  · have h0 : m = 0 := by
      rcases Nat.eq_zero_or_pos m with h0 | h0
      · exact h0
      · obtain ⟨ad, h, _⟩ := HR.2.2 h0
        cases h
    subst h0
    obtain rfl : ys = [] := List.eq_nil_of_length_eq_zero hm
    refine ⟨v, W, ?_, by simpa using HO, World.grownBy.refl W _⟩
    rcases HO.2 with ⟨rfl, hn⟩ | ⟨g, cap, cur, rfl, _, _, hnc, _⟩
    · simp [Builtin.append_, run_underlying ht, sizeOf, typeInfo, hi, Builtin.lenOf, Builtin.firstCells]
    · simp [Builtin.append_, run_underlying ht, sizeOf, typeInfo, hi, Builtin.lenOf, Builtin.firstCells, hnc, storeCells]
  · have hcells : ∀ j u, (nums k ys)[j]? = some u → W.cell? (ad.add j) = some u := by
      intro j u hu
      have hj : j < ys.length := by
        have := (List.getElem?_eq_some_iff.1 hu).1
        simpa [nums] using this
      obtain ⟨ad', e1, h1⟩ := HR.2.2 (by omega)
      injection e1 with e1
      subst e1
      rw [h1 j (by omega)]
      rw [← hu]
      simp [nums, List.getD_eq_getElem?_getD, List.getElem?_eq_getElem hj]
    obtain ⟨v', w', h1, h2, h3, _⟩ := run_append_own W base t ty e i0 (.int k 0) 1 bytes ht hi hz0 hz1 hz2 rfl (by omega) v xs.length (nums k xs) HO ad m c (nums k ys) (by rw [nums_length]; omega) hcells
      (fun u hu => by simp only [nums, List.mem_map] at hu; obtain ⟨x, _, rfl⟩ := hu; rfl) (by simp only [maxLen]; omega) hl hbase
    refine ⟨v', w', h1, ?_, h3⟩
    rw [nums_append, List.length_append, hm]
    exact h2
theorem step_append_ints {w0 W : World} (base : Nat) (hgd : o.guard = none) (s x : Operand) (t e : TypeId) (k : IntKind) (bytes : Nat)
    (ho : o.op = .call { callee := .builtin .append, args := #[s, x], argTypes := #[t, t] })
    (ht : P.underlying t = some (.slice e)) (hinfo : (P.info? e).map (fun i => (i.zero, i.size, i.bytes)) = some (some (.int k 0), 1, bytes)) (hb0 : 0 < bytes)
    (v : Value) (xs ys : List Int) (A : Option Addr) (m c : Nat) (hs : a.eval s = v) (hx : a.eval x = .slice A m c)
    (HO : W.ownsRow base e 1 v xs.length (nums k xs)) (HR : ReadsInt W k A m ys) (HB : Below base w0 W) (hbase : base ≤ W.heap.size) (hl : (xs.length + m) * bytes ≤ 140737488355328)
    (h : ∀ v1 w1, w1.ownsRow base e 1 v1 (xs ++ ys).length (nums k (xs ++ ys)) → Below base w0 w1 → W.grownBy w1 v.ownBlock → K (a.put o.dst v1) w1) :
    if Region.wanted o (yielded ops a.tmps) = true then Oper.wp P o a W K Q else E := by
  have hw : Region.wanted o (yielded ops a.tmps) = true := by simp [Region.wanted, hgd]
  rw [if_pos hw]
  obtain ⟨v1, w1, hrun, h1, h2⟩ := run_append_ints (P := P) base t o.type e k bytes ht hinfo hb0 v xs ys A m c HO HR hbase hl
  have h3 := h v1 w1 h1 (HB.grown h2 hbase (own_base HO)) h2
  unfold Oper.wp
  simp only [execOp, ho, resolve, invoke, builtin]
  simp [hs, hx, hrun, Result.andThen]
  exact h3
end
end Go.Proofs.Ytobdhdehmkmjcaa
