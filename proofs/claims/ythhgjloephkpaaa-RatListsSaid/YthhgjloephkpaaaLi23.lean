/- Words and walks for the row RowRatLists, put together: LX18, WEqStruct, LX19, LXN, LX20, LX21, LX23, LX24, LX25. -/
import Derived.Test.YthhgjloephkpaaaLi22
import Derived.Test.YthhgjloephkpaaaWWords
import Derived.Laws.StructEq
namespace Go.Proofs.Ythhgjloephkpaaa.Lx
set_option linter.unusedVariables false
set_option linter.unusedSimpArgs false
open Go Go.RowKit Go.Proofs.Ythhgjloephkpaaa Go.Proofs.YthhgjloephkpaaaW.PrintWords Go.Proofs.YthhgjloephkpaaaW.PrintLast
set_option maxRecDepth 100000
/-- What lies in frozen blocks stays. -/
theorem cell_le {s t : Kst} {p : Addr} (h : Le s t) (hf : s.fz p.block) : t.w.cell? p = s.w.cell? p := by
  unfold World.cell?
  rw [(h.keep _ hf).2]
theorem addr_block (p : Addr) (j : Nat) : (p.add j).block = p.block := by unfold Addr.add; split <;> rfl
/-- A slice of fractions in a frozen block. -/
def Lr : Rel (List (Int × Int)) where
  n := 1
  R s cs l := ∃ A n c, cs = [.slice A n c] ∧ Rts s.w A n c l ∧ ∀ ad, 0 < n → A = some ad → s.fz ad.block
  up s t cs l h k := by
    obtain ⟨A, n, c, e, k, f⟩ := k
    refine ⟨A, n, c, e, ⟨k.1, k.2.1, k.2.2.1, fun h0 => ?_⟩, fun ad h0 ea => (h.keep _ (f ad h0 ea)).1⟩
    obtain ⟨ad, ea, hc⟩ := k.2.2.2 h0
    have hf := f ad h0 ea
    refine ⟨ad, ea, fun i hi => ?_⟩
    rw [cell_le h (by rw [addr_block]; exact hf), cell_le h (by rw [addr_block, addr_block]; exact hf)]
    exact hc i hi
  len s cs x k := by obtain ⟨A, n, c, rfl, _⟩ := k; rfl
  ok s cs x k v hv := by obtain ⟨A, n, c, rfl, _⟩ := k; simp at hv; subst hv; simp [Value.oneCell', noW]
/-- The address of a fraction in a frozen block. -/
def Br : Rel (Int × Int) where
  n := 1
  R s cs x := ∃ p, cs = [.pointer (some p)] ∧ s.fz p.block ∧ s.w.cell? p = some (.int .i64 x.1) ∧ s.w.cell? (p.add 1) = some (.int .i64 x.2)
  up s t cs x h k := by
    obtain ⟨p, e, f, k1, k2⟩ := k
    exact ⟨p, e, (h.keep _ f).1, by rw [cell_le h f]; exact k1, by rw [cell_le h (by rw [addr_block]; exact f)]; exact k2⟩
  len s cs x k := by obtain ⟨p, rfl, _⟩ := k; rfl
  ok s cs x k v hv := by obtain ⟨p, rfl, _⟩ := k; simp at hv; subst hv; simp [Value.oneCell', noW]
def Lv (l : List (Int × Int)) : TV := .u ⟨false, [.abs Lr l]⟩
def Bv (x : Int × Int) : TV := .u ⟨false, [.abs Br x]⟩
section
variable {γ : Nat → Nat} {s : Kst} {v : Value}
theorem lv {l : List (Int × Int)} (h : (Lv l).Rep γ s v) : ∃ A n c, v = .slice A n c ∧ Rts s.w A n c l ∧ ∀ ad, 0 < n → A = some ad → s.fz ad.block := by
  obtain ⟨h1, a, b, e, ⟨A, n, c, rfl, k⟩, k2⟩ := h
  rw [show b = [] from k2] at e
  exact ⟨A, n, c, by simpa using e, k⟩
theorem vl {A : Option Addr} {n c : Nat} {l : List (Int × Int)} (k : Rts s.w A n c l) (f : ∀ ad, 0 < n → A = some ad → s.fz ad.block) : (Lv l).Rep γ s (.slice A n c) :=
  ⟨rfl, [_], [], rfl, ⟨A, n, c, rfl, k, f⟩, rfl⟩
theorem vr {p q : Int} : (Rv p q).Rep γ s (.agg #[.int .i64 p, .int .i64 q]) := ⟨[_, _], rfl, [_], [_], rfl, ⟨rfl, rfl⟩, [_], [], rfl, ⟨rfl, rfl⟩, rfl⟩
end
section
variable {S : SS} {o : Oper} {l : List (Int × Int)}
theorem g_len54 {y : Operand} (ho : o.op = .call { callee := .builtin .len, args := #[y], argTypes := #[54] }) (hy : opT S y = some (Lv l)) : OpGives Try.prog S o (Iv (l.length : Nat)) := g_pure fun γ s a k => by
  obtain ⟨A, n, c, e, h, _⟩ := lv (k y (by rw [ho]; simp [Op.operands, Call.operands]) _ hy)
  exact ⟨_, run_len54 ho e, by rw [h.1]; exact vi⟩
theorem g_idx54 {y z : Operand} {i : Nat} (ho : o.op = .indexAddr 54 y z) (hy : opT S y = some (Lv l)) (hz : opT S z = some (Iv (i : Nat))) (hi : i < l.length) : OpGives Try.prog S o (Bv (l.getD i (0, 0))) := g_pure fun γ s a k => by
  obtain ⟨A, n, c, e, h, f⟩ := lv (k y (by rw [ho]; simp [Op.operands]) _ hy)
  have e2 := iv (k z (by rw [ho]; simp [Op.operands]) _ hz)
  have hn : i < n := by rw [← h.1]; exact hi
  obtain ⟨ad, rfl, hc⟩ := h.2.2.2 (by omega)
  exact ⟨_, run_idx54 ho e e2 hn, rfl, [_], [], rfl, ⟨_, rfl, by rw [addr_block]; exact f ad (by omega) rfl, (hc i hn).1, (hc i hn).2⟩, rfl⟩
theorem g_ld23 {y : Operand} {x : Int × Int} (ho : o.op = .load 23 y) (hy : opT S y = some (Bv x)) : OpGives Try.prog S o (Rv x.1 x.2) := g_pure fun γ s a k => by
  obtain ⟨h1, p, q, e, ⟨ad, rfl, f, hc1, hc2⟩, h2⟩ := k y (by rw [ho]; simp [Op.operands]) _ hy
  rw [show q = [] from h2] at e
  have e : a.eval y = .pointer (some ad) := by simpa using e
  exact ⟨_, run_load23 ho e ⟨hc1, hc2⟩, vr⟩
/-- A new block, frozen. -/
def Kst.frz (s : Kst) (o : Obj) : Kst := ⟨s.w.alloc o, fun g => s.fz g ∨ g = s.w.heap.size, fun g h => by rw [alloc_size]; rcases h with h | h; have := s.lt g h; omega; omega⟩
theorem Kst.le_frz (s : Kst) (o : Obj) : Le s (s.frz o) :=
  ⟨U.box _ _, fun g h => ⟨.inl h, Below.heap_alloc _ _ _ (s.lt g h)⟩, by show _ ≤ (s.w.alloc o).heap.size; rw [alloc_size]; omega, fun g h => h.elim .inl (fun e => .inr (by omega))⟩
theorem g_lit1 {y : Operand} {p q : Int} (ho : o.op = .buildSlice 54 1 #[(0, y)]) (hy : opT S y = some (Rv p q)) : OpGives Try.prog S o (Lv [(p, q)]) := fun γ s a k => by
  have e := rv (k y (by rw [ho]; simp [Op.operands]) _ hy)
  have hself : (s.w.alloc (.cells #[.int .i64 p, .int .i64 q] 23)).heap[s.w.heap.size]? = some (.cells #[.int .i64 p, .int .i64 q] 23 (0, 0)) := Array.getElem?_push_size
  refine ⟨_, s.frz (.cells #[.int .i64 p, .int .i64 q] 23), run_lit54_1 a.eval o s.w y p q ho e, s.le_frz _, (Below.refl _ _).alloc (Nat.le_refl _) _, vl (rts_one hself) fun ad _ e => ?_⟩
  injection e with e; subst e; exact .inr rfl
end
theorem lv_len {l : List (Int × Int)} {P : Program} {f : FuncId} {r : TV} {fn : Func} (hf : P.funcs[f]? = some fn) (hname : (fn.name == "runtime.NumGoroutine") = false) (hb : fn.body.isSome = true)
    (h : l.length ≤ 4611686018427387903 → Spec P f [Lv l] r) : Spec P f [Lv l] r :=
  ⟨fun vs w => enters_ hf hname hb vs w, fun γ s vs ⟨x, y, e1, k1, k2⟩ => by
    obtain ⟨A, n, c, e, hr, _⟩ := lv k1
    exact (h (by rw [hr.1]; exact hr.2.2.1)).run γ s vs ⟨x, y, e1, k1, k2⟩⟩
/-- So many of a list are in their form. -/
structure GL (l : List (Int × Int)) where
  i : Nat
  hi : i ≤ l.length
  h : ∀ j, j < i → IsQ (l.getD j (0, 0)).1 (l.getD j (0, 0)).2
theorem isq_next {l : List (Int × Int)} {i : Nat} (h : ∀ j, j < i → IsQ (l.getD j (0, 0)).1 (l.getD j (0, 0)).2) (hy : IsQ (l.getD i (0, 0)).1 (l.getD i (0, 0)).2) : ∀ j, j < i + 1 → IsQ (l.getD j (0, 0)).1 (l.getD j (0, 0)).2 := fun j hj => by
  rcases Nat.lt_or_ge j i with h' | h'
  · exact h j h'
  · rw [show j = i from by omega]; exact hy
theorem alls_of {l : List (Int × Int)} (h : ∀ j, j < l.length → IsQ (l.getD j (0, 0)).1 (l.getD j (0, 0)).2) : Alls l := fun x hx => by
  obtain ⟨j, hj, e⟩ := List.getElem_of_mem hx
  have := h j hj
  rw [List.getD_eq_getElem?_getD, List.getElem?_eq_getElem hj, Option.getD_some, e] at this
  exact this
theorem alls_at {l : List (Int × Int)} {i : Nat} (h : Alls l) (hi : i < l.length) : IsQ (l.getD i (0, 0)).1 (l.getD i (0, 0)).2 := by
  rw [List.getD_eq_getElem?_getD, List.getElem?_eq_getElem hi, Option.getD_some]
  exact h _ (List.getElem_mem hi)
section
variable {l : List (Int × Int)} {p q m n : Int} {x y : Rat}
theorem s45 : Spec Try.prog 45 [Lv l] (Iv (errV (Alls l))) := by
  refine lv_len Try.func45 (by kernel_rfl) rfl fun hl => ?_
  let at_ (i : Nat) : Int × Int := l.getD i (0, 0)
  refine spec_exec (T := .op 7 (Iv (l.length : Nat)) (.loop (⟨0, Nat.zero_le _, fun _ h => by omega⟩ : GL l) (fun g => ⟨[(6, Lv l), (7, Iv (l.length : Nat)), (8, Iv (g.i : Nat))], [], 0, 18⟩) (fun g => l.length - g.i) fun g =>
    .split 9 (.op 10 (Bv (at_ g.i)) (.op 11 (Rv (at_ g.i).1 (at_ g.i).2) (.res 13 (Iv (errV (IsQ (at_ g.i).1 (at_ g.i).2))) (.split 15 .done (.as 17 (Iv ((g.i + 1 : Nat) : Int)) .done))))) .done)) Try.func45 rfl (by kernel_rfl) mixed rfl rfl rfl ?_
  refine And.intro (g_len54 rfl rfl) (And.intro ⟨by kernel_rfl, rfl, And.intro (AsOk.refl _) (And.intro (AsOk.refl _) (And.intro (AsOk.refl _) trivial)), trivial⟩ ?_)
  rintro ⟨i, hi, hj⟩
  refine And.intro (fun h => ?_) (fun h => ?_)
  · have h : ((i : Nat) : Int) < (l.length : Nat) := of_decide_eq_true h
    have e1 : IntKind.i64.wrap ((i : Int) + 1) = ((i + 1 : Nat) : Int) := by rw [w64 (by omega)]; omega
    refine And.intro (g_idx54 (i := i) rfl rfl rfl (by omega)) (And.intro (g_ld23 rfl rfl) (And.intro s14 (And.intro (fun h2 => ?_) (fun h2 => And.intro (as_i e1) ?_))))
    · have h2 : (errV (IsQ (at_ i).1 (at_ i).2) != 0) = true := h2
      have hn : ¬ IsQ (at_ i).1 (at_ i).2 := fun h => by rw [errV_t h] at h2; cases h2
      refine as_i ?_
      rw [errV_f hn, errV_f fun h => hn (alls_at h (by omega))]
    · have h2 : (errV (IsQ (at_ i).1 (at_ i).2) != 0) = false := h2
      have hy : IsQ (at_ i).1 (at_ i).2 := Classical.byContradiction fun h => by rw [errV_f h] at h2; cases h2
      exact Exists.intro ⟨i + 1, by omega, isq_next hj hy⟩
        (And.intro ⟨by kernel_rfl, rfl, And.intro (AsOk.refl _) (And.intro (AsOk.refl _) (And.intro (AsOk.refl _) trivial)), trivial⟩ (by show l.length - (i + 1) < l.length - i; omega))
  · have h : ¬ ((i : Nat) : Int) < (l.length : Nat) := of_decide_eq_false h
    exact as_i (errV_t (alls_of fun j h' => hj j (by omega))).symm
theorem s93 : Spec Try.prog 93 [Lv l] (B (decide (Alls l))) := by
  refine lv_len Try.func93 (by kernel_rfl) rfl fun hl => ?_
  let at_ (i : Nat) : Int × Int := l.getD i (0, 0)
  refine spec_exec (T := .loop (⟨0, Nat.zero_le _, fun _ h => by omega⟩ : GL l) (fun g => ⟨[(0, Lv l), (3, Iv (g.i : Nat))], [], 0, 16⟩) (fun g => l.length - g.i) fun g =>
    .op 6 (Iv (l.length : Nat)) (.split 7 (.op 12 (Bv (at_ g.i)) (.op 13 (Rv (at_ g.i).1 (at_ g.i).2) (.res 14 (B (decide (IsQ (at_ g.i).1 (at_ g.i).2))) (.split 15 .done (.as 9 (Iv ((g.i + 1 : Nat) : Int)) .done))))) .done)) Try.func93 rfl (by kernel_rfl) mixed rfl rfl rfl ?_
  refine And.intro ⟨by kernel_rfl, rfl, And.intro (AsOk.refl _) (And.intro (AsOk.refl _) trivial), trivial⟩ ?_
  rintro ⟨i, hi, hj⟩
  refine And.intro (g_len54 rfl rfl) (And.intro (fun h => ?_) (fun h => ?_))
  · have h : ((i : Nat) : Int) < (l.length : Nat) := of_decide_eq_true h
    have e1 : IntKind.i64.wrap ((i : Int) + 1) = ((i + 1 : Nat) : Int) := by rw [w64 (by omega)]; omega
    refine And.intro (g_idx54 (i := i) rfl rfl rfl (by omega)) (And.intro (g_ld23 rfl rfl) (And.intro s50 (And.intro (fun h2 => ?_) (fun h2 => And.intro (as_i e1) ?_))))
    · have h2 : (!decide (IsQ (at_ i).1 (at_ i).2)) = true := h2
      have hn : ¬ IsQ (at_ i).1 (at_ i).2 := by simpa using h2
      exact as_b (decide_eq_false fun h => hn (alls_at h (by omega))).symm
    · have h2 : (!decide (IsQ (at_ i).1 (at_ i).2)) = false := h2
      have hy : IsQ (at_ i).1 (at_ i).2 := by simpa using h2
      exact Exists.intro ⟨i + 1, by omega, isq_next hj hy⟩
        (And.intro ⟨by kernel_rfl, rfl, And.intro (AsOk.refl _) (And.intro (AsOk.refl _) trivial), trivial⟩ (by show l.length - (i + 1) < l.length - i; omega))
  · have h : ¬ ((i : Nat) : Int) < (l.length : Nat) := of_decide_eq_false h
    exact as_b (decide_eq_true (alls_of fun j h' => hj j (by omega))).symm
theorem s48 : Spec Try.prog 48 [Lv l] (Iv (errV (Alls l))) := by
  refine spec_exec (T := .res 4 (B (decide (Alls l))) (.split 5 .done .done)) Try.func48 rfl (by kernel_rfl) mixed rfl rfl rfl ?_
  refine And.intro s93 (And.intro (fun h => as_i (a := 1) ?_) (fun h => as_i (a := 0) ?_))
  · have h : (!decide (Alls l)) = true := h
    exact (errV_f (by simpa using h)).symm
  · have h : (!decide (Alls l)) = false := h
    exact (errV_t (by simpa using h)).symm
theorem s42 : Spec Try.prog 42 [Qo x] (toldT x) := by
  refine spec_exec (T := .res 8 (ratT x) (.split 11 .done .done)) Try.func42 rfl (by kernel_rfl) mixed rfl rfl rfl ?_
  refine And.intro s94 (And.intro (fun h => ?_) (fun h => ?_))
  · have h := of_decide_eq_true h
    show AsOk (Re _ _ _) (toldT x)
    unfold toldT
    rw [if_pos h, if_pos h, if_pos h]
    exact AsOk.refl _
  · have h := of_decide_eq_false h
    show AsOk (Re _ _ _) (toldT x)
    unfold toldT
    rw [if_neg h, if_neg h, if_neg h]
    exact AsOk.refl _
/-- A number of two ints, or what is wrong with them. -/
def makeT (n d : Int) : TV := if d = 0 then Re 0 0 1 else toldT (Rat.divInt n d)
abbrev In64 (z : Int) : Prop := -9223372036854775808 ≤ z ∧ z < 9223372036854775808
theorem s10 (h1 : In64 p) (h2 : In64 q) : Spec Try.prog 10 [Iv p, Iv q] (makeT p q) := by
  unfold makeT
  by_cases h : q = 0
  · rw [if_pos h]
    refine spec_exec (T := .is 7 true .done) Try.func10 rfl (by kernel_rfl) mixed rfl rfl rfl ?_
    exact And.intro (by subst h; rfl) (AsOk.refl _)
  · rw [if_neg h]
    refine spec_exec (T := .is 7 false (.res 11 (Qo (Rat.divInt p q)) (.res 12 (toldT (Rat.divInt p q)) .done))) Try.func10 rfl (by kernel_rfl) mixed rfl rfl rfl ?_
    exact And.intro (by simpa using h) (And.intro (s43 h1 h2 h) (And.intro s42 (AsOk.refl _)))
end
end Go.Proofs.Ythhgjloephkpaaa.Lx
namespace Go.Proofs.YthhgjloephkpaaaW.PrintWords
open Go.RowKit
section
variable {P : Program} {d : Nat} {xs ys : Array Value} {f : Field} {fs : List Field} {a b : Value} {r s : Bool} {w : World}
/-- The last field that counts. -/
theorem eqf_last (hn : (f.name == "_") = false) (ha : (part f.type xs f.offset).run P w = .ok a w) (hb : (part f.type ys f.offset).run P w = .ok b w) (he : (Op.equalIn d f.type a b).run P w = .ok r w) : (Op.eqFields d xs ys [f]).run P w = .ok r w := by
  have hn' : f.name ≠ "_" := by simpa using hn
  simp only [Op.eqFields, if_pos hn', Sem.run_bind, ha, hb, he, Result.andThen_ok]
  cases r <;> simp
theorem eqf_cons (hn : (f.name == "_") = false) (ha : (part f.type xs f.offset).run P w = .ok a w) (hb : (part f.type ys f.offset).run P w = .ok b w) (he : (Op.equalIn d f.type a b).run P w = .ok r w) (hr : (Op.eqFields d xs ys fs).run P w = .ok s w) : (Op.eqFields d xs ys (f :: fs)).run P w = .ok (r && s) w := by
  have hn' : f.name ≠ "_" := by simpa using hn
  rw [Op.eqFields]
  simp only [if_pos hn', Sem.run_bind, ha, hb, he, Result.andThen_ok]
  cases r
  · simp
  · simpa using hr
theorem eqA_of {t : TypeId} {fs : Array Field} (hu : P.underlying t = some (.struct fs)) (hp : P.stoodInHeld t = false) (h : (Op.eqFields d xs ys fs.toList).run P w = .ok r w) : (Op.equalIn (d + 1) t (.agg xs) (.agg ys)).run P w = .ok r w := by
  have hf : P.fieldsOf t = fs := by simp [Program.fieldsOf, hu]
  rw [run_equalIn_struct (P := P) w d t xs ys (by rw [hf]; exact hu) hp, hf]
  exact h
end
end Go.Proofs.YthhgjloephkpaaaW.PrintWords
namespace Go.Proofs.Ythhgjloephkpaaa.Lx
set_option linter.unusedVariables false
set_option linter.unusedSimpArgs false
open Go Go.RowKit Go.Proofs.Ythhgjloephkpaaa Go.Proofs.YthhgjloephkpaaaW.PrintWords Go.Proofs.YthhgjloephkpaaaW.PrintLast
set_option maxRecDepth 100000
section
variable {w : World}
theorem eq23 (p q r s : Int) : (Op.equal 23 (.agg #[.int .i64 p, .int .i64 q]) (.agg #[.int .i64 r, .int .i64 s])).run Try.prog w = .ok ((p == r) && (q == s)) w := by
  show (Op.equalIn (9999 + 1) 23 _ _).run Try.prog w = _
  refine eqA_of Try.underlying23 (by kernel_rfl) ?_
  refine eqf_cons (a := .int .i64 p) (b := .int .i64 r) (by rfl) (by rfl) (by rfl) (run_equalIn_int (P := Try.prog) w 9998 _ .i64 .i64 p r Try.underlying3) ?_
  exact eqf_last (a := .int .i64 q) (b := .int .i64 s) (by rfl) (by rfl) (by rfl) (run_equalIn_int (P := Try.prog) w 9998 _ .i64 .i64 q s Try.underlying3)
theorem bin_eql_23 (x y : Operand) (p q r s : Int) : (do eqGuard .eql 23 x y (.agg #[.int .i64 p, .int .i64 q]) (.agg #[.int .i64 r, .int .i64 s]); binOp .eql 23 (.agg #[.int .i64 p, .int .i64 q]) (.agg #[.int .i64 r, .int .i64 s]) : Sem Value).run Try.prog w = .ok (.bool ((p == r) && (q == s))) w := by
  simp [eqGuard, binOp, go_sem, eq23]
theorem bin_neq_23 (x y : Operand) (p q r s : Int) : (do eqGuard .neq 23 x y (.agg #[.int .i64 p, .int .i64 q]) (.agg #[.int .i64 r, .int .i64 s]); binOp .neq 23 (.agg #[.int .i64 p, .int .i64 q]) (.agg #[.int .i64 r, .int .i64 s]) : Sem Value).run Try.prog w = .ok (.bool (!((p == r) && (q == s)))) w := by
  simp [eqGuard, binOp, go_sem, eq23]
end
section
variable {S : SS} {o : Oper} {p q r s : Int}
theorem g_eq23 {x y : Operand} {u : TypeId} (ho : o.op = .binOp .eql 23 x y u) (hx : opT S x = some (Rv p q)) (hy : opT S y = some (Rv r s)) : OpGives Try.prog S o (B ((p == r) && (q == s))) := g_pure fun γ t c k => by
  have e1 := rv (k x (by rw [ho]; simp [Op.operands]) _ hx)
  have e2 := rv (k y (by rw [ho]; simp [Op.operands]) _ hy)
  exact ⟨_, run_bin _ _ _ ho e1 e2 (bin_eql_23 x y p q r s), vb⟩
theorem g_ne23 {x y : Operand} {u : TypeId} (ho : o.op = .binOp .neq 23 x y u) (hx : opT S x = some (Rv p q)) (hy : opT S y = some (Rv r s)) : OpGives Try.prog S o (B (!((p == r) && (q == s)))) := g_pure fun γ t c k => by
  have e1 := rv (k x (by rw [ho]; simp [Op.operands]) _ hx)
  have e2 := rv (k y (by rw [ho]; simp [Op.operands]) _ hy)
  exact ⟨_, run_bin _ _ _ ho e1 e2 (bin_neq_23 x y p q r s), vb⟩
end
theorem isq64 {p q : Int} (h : IsQ p q) : In64 p ∧ In64 q := ⟨⟨by have := h.2.2.1; omega, by have := h.2.2.2.1; omega⟩, by have := h.1; omega, by have := h.2.1; omega⟩
theorem isq_fit {p q : Int} (h : IsQ p q) : Q6 (Rat.divInt p q) := ⟨by rw [← (isq_num h).1]; exact fi (isq64 h).1, by rw [← (isq_num h).2]; exact fi (isq64 h).2⟩
section
variable {p q r s n d : Int}
/-- Two ints. -/
def Ii (a b : Int) : TV := .tup [⟨false, [.val (.int .i64 a)]⟩, ⟨false, [.val (.int .i64 b)]⟩]
theorem isq_ne {p q : Int} (h : IsQ p q) : q ≠ 0 := by have := h.1; omega
theorem floor_in {p q : Int} (h : IsQ p q) : -1000000000000 ≤ (Rat.divInt p q).floor ∧ (Rat.divInt p q).floor ≤ 1000000000000 := by
  obtain ⟨h1, h2⟩ := isq_num h
  rw [Rat.floor_def, ← h1, ← h2]
  have h3 : (p / q).natAbs ≤ p.natAbs := Int.natAbs_ediv_le_natAbs p q
  have h4 := h.2
  omega
/-- What the floor answers. -/
def floorT (p q : Int) : TV := if IsQ p q then Ii (Rat.divInt p q).floor 0 else Ii 0 1
theorem s51 : Spec Try.prog 51 [Rv p q] (floorT p q) := by
  unfold floorT
  by_cases h : IsQ p q
  · rw [if_pos h]
    have hf := floor_in h
    refine spec_exec (T := .op 8 (Lv [(p, q)]) (.res 9 (Iv (errV (Alls [(p, q)]))) (.as 9 (Iv 0) (.res 15 (Qo (Rat.divInt p q)) (.res 16 (Zv (Rat.divInt p q).floor) (.res 17 (Ib (Rat.divInt p q).floor true) .done)))))) Try.func51 rfl (by kernel_rfl) mixed rfl rfl rfl ?_
    refine And.intro (g_lit1 rfl rfl) (And.intro s45 (And.intro (as_i (errV_t (alls_one.2 h))) (And.intro (s46 (isq64 h).1 (isq64 h).2 (isq_num h).1 (isq_num h).2) (And.intro (s95 (isq_fit h)) (And.intro ((s83 (by decide) (by decide)).to ?_) (AsOk.refl _))))))
    rw [if_pos hf, decide_eq_true hf]
    exact AsOk.refl _
  · rw [if_neg h]
    refine spec_exec (T := .op 8 (Lv [(p, q)]) (.res 9 (Iv (errV (Alls [(p, q)]))) (.as 9 (Iv 1) .done))) Try.func51 rfl (by kernel_rfl) mixed rfl rfl rfl ?_
    exact And.intro (g_lit1 rfl rfl) (And.intro s45 (And.intro (as_i (errV_f fun k => h (alls_one.1 k))) (AsOk.refl _)))
end
end Go.Proofs.Ythhgjloephkpaaa.Lx
namespace Go.Proofs.Ythhgjloephkpaaa.Lx
set_option linter.unusedVariables false
set_option linter.unusedSimpArgs false
open Go Go.RowKit Go.Proofs.Ythhgjloephkpaaa Go.Proofs.YthhgjloephkpaaaW.PrintWords Go.Proofs.YthhgjloephkpaaaW.PrintLast
set_option maxRecDepth 100000
def q227 : Rat := ⟨22, 7, by decide, by decide⟩
structure G where
  n : Int
  d : Int
  p0 : Int
  q0 : Int
  p1 : Int
  q1 : Int
  h : (n = 22 ∧ d = 7 ∧ p0 = 0 ∧ q0 = 1 ∧ p1 = 1 ∧ q1 = 0) ∨ (n = 7 ∧ d = 1 ∧ p0 = 1 ∧ q0 = 0 ∧ p1 = 3 ∧ q1 = 1)
def inv (g : G) : SS := ⟨[(1, Iv 5), (4, Pv 1), (6, Pv 2), (7, Pv 3), (8, Pv 4), (9, Pv 5), (10, Pv 6), (11, Pv 7), (12, Pv 8)],
  [(1, 23, [.val (.int .i64 0), .val (.int .i64 0)]), (2, 62, [.abs Zr 22, .abs Zr 7]), (3, 60, [.abs Zr g.p0]), (4, 60, [.abs Zr g.q0]), (5, 60, [.abs Zr g.p1]), (6, 60, [.abs Zr g.q1]), (7, 60, [.abs Zr g.n]), (8, 60, [.abs Zr g.d])], 9, 128⟩
def t1 : Tr := .res 49 (Zv 3) (.res 53 (Zv 0) (.res 54 (Zv 1) (.res 57 (Zv 5) (.res 58 (Iv (cmpZ 1 5)) (.split 59 .done
  (.res 65 (Zv 3) (.res 66 (Zv 3) (.res 72 (Zv 21) (.res 73 (Zv 1) .done)))))))))
def t2 : Tr := .res 49 (Zv 7) (.res 53 (Zv 7) (.res 54 (Zv 7) (.res 57 (Zv 5) (.res 58 (Iv (cmpZ 7 5)) (.split 59
  (.res 76 (Zv 5) (.res 78 (Zv 5) (.res 80 (.tup [⟨true, [.abs Zr 5]⟩, ⟨true, [.abs Zr 0]⟩]) (.res 86 (Zv 15) (.res 87 (Zv 16) (.res 91 (Zv 5) (.res 92 (Zv 5) (.res 93 (Qo (Rat.divInt 16 5)) (.res 96 (Qo (Rat.divInt 3 1))
  ((.res 99 (Qo (Rat.divInt 16 5 - q227)) (.res 100 (Qo (Rat.divInt 16 5 - q227).abs) ((.res 103 (Qo (Rat.divInt 3 1 - q227)) (.res 104 (Qo (Rat.divInt 3 1 - q227).abs)
  (.res 105 (Iv (cmpR (Rat.divInt 16 5 - q227).abs (Rat.divInt 3 1 - q227).abs)) (.as 105 (Iv (-1)) (.res 121 (toldT (Rat.divInt 16 5)) .done))))))))))))))))))
  .done)))))
theorem fits {z : Int} {k : Nat} (h : -9223372036854775808 ≤ z ∧ z < 9223372036854775808) (hk : 2 ≤ k) : Fit k z := (Fit.int64 h.1 (by omega)).mono hk
theorem qfits {q : Rat} (h : -9223372036854775808 ≤ q.num ∧ q.num < 9223372036854775808) (h2 : (q.den : Int) < 9223372036854775808) : QFit 1000000 q := ⟨fits h (by decide), fits ⟨by omega, h2⟩ (by decide)⟩
theorem told165 : AsOk (toldT (Rat.divInt 16 5)) (Re 16 5 0) := by
  have hg : good (Rat.divInt 16 5) := ⟨by decide +kernel, by decide +kernel, by decide +kernel⟩
  unfold toldT
  rw [if_pos hg, if_pos hg, if_pos hg]
  exact AsOk.refl _
theorem cmpq : cmpR (Rat.divInt 16 5 - q227).abs (Rat.divInt 3 1 - q227).abs = -1 := by kernel_rfl
theorem spec29 : Spec Try.prog 29 [Rv 22 7, Iv 5] (Re 16 5 0) := by
  refine spec_exec (T := .res 21 (B (decide (IsQ 22 7))) (.is 21 true (.res 38 (Qo q227) (.res 39 (Zv 0) (.res 40 (Zv 1) (.res 41 (Zv 1) (.res 42 (Zv 0)
     (.loop ⟨22, 7, 0, 1, 1, 0, by simp⟩ inv (fun g => g.d.natAbs) fun g => if g.n = 22 then t1 else t2)))))))) Try.func29 rfl (by kernel_rfl) mixed rfl rfl rfl ?_
  refine And.intro s49 (And.intro (by decide) ?_)
  refine And.intro (s46 (by decide) (by decide) rfl rfl) ?_
  refine And.intro (s71 (by decide) (by decide)) (And.intro (s71 (by decide) (by decide)) (And.intro (s71 (by decide) (by decide)) (And.intro (s71 (by decide) (by decide)) ?_)))
  refine And.intro ⟨by kernel_rfl, rfl, ?_, ?_⟩ ?_
  · repeat refine And.intro (AsOk.refl _) ?_
    exact trivial
  · repeat refine And.intro (And.intro rfl (AsL.refl _)) ?_
    exact trivial
  rintro ⟨n, d, p0, q0, p1, q1, ⟨rfl, rfl, rfl, rfl, rfl, rfl⟩ | ⟨rfl, rfl, rfl, rfl, rfl, rfl⟩⟩
  · show exec _ _ t1 _ _
    refine And.intro (s72 (fits (by decide) (by decide)) (fits (by decide) (by decide)) (by decide)) ?_
    refine And.intro (s74 (fits (by decide) (by decide)) (fits (by decide) (by decide))) ?_
    refine And.intro (s73 (fits (by decide) (by decide)) (fits (by decide) (by decide))) ?_
    refine And.intro (s71 (by decide) (by decide)) ?_
    refine And.intro (s75 (fits (by decide) (by decide)) (fits (by decide) (by decide))) ?_
    refine And.intro (fun h => absurd h (by decide)) (fun _ => ?_)
    refine And.intro (s74 (fits (by decide) (by decide)) (fits (by decide) (by decide))) ?_
    refine And.intro (s73 (fits (by decide) (by decide)) (fits (by decide) (by decide))) ?_
    refine And.intro (s74 (fits (by decide) (by decide)) (fits (by decide) (by decide))) ?_
    refine And.intro (s76 (fits (by decide) (by decide)) (fits (by decide) (by decide))) ?_
    refine Exists.intro ⟨7, 1, 1, 0, 3, 1, by simp⟩ (And.intro ⟨by kernel_rfl, rfl, ?_, ?_⟩ (by decide))
    · repeat refine And.intro (AsOk.refl _) ?_
      exact trivial
    · repeat refine And.intro (And.intro rfl (AsL.refl _)) ?_
      exact trivial
  · show exec _ _ t2 _ _
    refine And.intro (s72 (fits (by decide) (by decide)) (fits (by decide) (by decide)) (by decide)) ?_
    refine And.intro (s74 (fits (by decide) (by decide)) (fits (by decide) (by decide))) ?_
    refine And.intro (s73 (fits (by decide) (by decide)) (fits (by decide) (by decide))) ?_
    refine And.intro (s71 (by decide) (by decide)) ?_
    refine And.intro (s75 (fits (by decide) (by decide)) (fits (by decide) (by decide))) ?_
    refine And.intro (fun _ => ?_) (fun h => absurd h (by decide))
    refine And.intro (s71 (by decide) (by decide)) ?_
    refine And.intro (s76 (fits (by decide) (by decide)) (fits (by decide) (by decide))) ?_
    refine And.intro (s77 (fits (by decide) (by decide)) (fits (by decide) (by decide)) (by decide)) ?_
    refine And.intro (s74 (fits (by decide) (by decide)) (fits (by decide) (by decide))) ?_
    refine And.intro (s73 (fits (by decide) (by decide)) (fits (by decide) (by decide))) ?_
    refine And.intro (s74 (fits (by decide) (by decide)) (fits (by decide) (by decide))) ?_
    refine And.intro (s73 (fits (by decide) (by decide)) (fits (by decide) (by decide))) ?_
    refine And.intro (s78 (fits (by decide) (by decide)) (fits (by decide) (by decide)) (by decide)) ?_
    refine And.intro (s78 (fits (by decide) (by decide)) (fits (by decide) (by decide)) (by decide)) ?_
    refine And.intro (s58 (p := Rat.divInt 16 5) (q := q227) (qfits (by decide +kernel) (by decide +kernel)) (qfits (by decide +kernel) (by decide +kernel))) ?_
    refine And.intro (s79 (qfits (by decide +kernel) (by decide +kernel))) ?_
    refine And.intro (s58 (p := Rat.divInt 3 1) (q := q227) (qfits (by decide +kernel) (by decide +kernel)) (qfits (by decide +kernel) (by decide +kernel))) ?_
    refine And.intro (s79 (qfits (by decide +kernel) (by decide +kernel))) ?_
    refine And.intro (s47 (qfits (by decide +kernel) (by decide +kernel)) (qfits (by decide +kernel) (by decide +kernel))) ?_
    refine And.intro (as_i cmpq) ?_
    refine And.intro s42 ?_
    exact told165
end Go.Proofs.Ythhgjloephkpaaa.Lx
namespace Go.Proofs.Ythhgjloephkpaaa.Lx
set_option linter.unusedVariables false
set_option linter.unusedSimpArgs false
open Go Go.RowKit Go.Proofs.Ythhgjloephkpaaa Go.Proofs.YthhgjloephkpaaaW.PrintWords Go.Proofs.YthhgjloephkpaaaW.PrintLast
set_option maxRecDepth 100000
theorem told_of {q : Rat} (h : good q) : toldT q = Re q.num q.den 0 := by unfold toldT; rw [if_pos h, if_pos h, if_pos h]
theorem beq_and {a b : Int} : ((a == a) && (b == b)) = true := by simp
theorem sto {P : Program} {f : FuncId} {args : List TV} {r r' : TV} (h : Spec P f args r) (e : r = r') : Spec P f args r' := e ▸ h
theorem s16 : Spec Try.prog 16 [] (B true) := by
  have hm : makeT (-6) 4 = Re (-3) 2 0 := by
    unfold makeT
    rw [if_neg (by decide), told_of ⟨by decide +kernel, by decide +kernel, by decide +kernel⟩]
    rfl
  have hf : floorT (-3) 2 = Ii (-2) 0 := by
    unfold floorT
    rw [if_pos (by decide)]
    rfl
  refine spec_exec (T := .res 8 (Re (-3) 2 0) (.res 13 (Ii (-2) 0) (.res 18 (Re 16 5 0) (.op 23 (B true) (.op 39 (B true) .done))))) Try.func16 rfl (by kernel_rfl) mixed rfl rfl rfl ?_
  exact And.intro (sto (s10 (by decide) (by decide)) hm) (And.intro (sto s51 hf) (And.intro spec29 (And.intro (g_eq23 (p := -3) (q := 2) (r := -3) (s := 2) rfl rfl rfl) (And.intro (g_eq23 (p := 16) (q := 5) (r := 16) (s := 5) rfl rfl rfl) (AsOk.refl _)))))
section
variable {p q r s n d : Int}
def Fv (f : FuncId) : TV := .u ⟨false, [.val (.func (.func f) #[] #[])]⟩
theorem told_form (c : Rat) : ∃ a b e, toldT c = Re a b e := ⟨_, _, _, rfl⟩
end
end Go.Proofs.Ythhgjloephkpaaa.Lx
namespace Go.Proofs.Ythhgjloephkpaaa.Lx
set_option linter.unusedVariables false
set_option linter.unusedSimpArgs false
open Go Go.RowKit Go.Proofs.Ythhgjloephkpaaa Go.Proofs.YthhgjloephkpaaaW.PrintWords Go.Proofs.YthhgjloephkpaaaW.PrintLast
/-- A world whose blocks all are frozen. -/
def Kst.of (w : World) : Kst := ⟨w, fun g => g < w.heap.size, fun _ h => h⟩
theorem law_run {f : FuncId} {args : List TV} {vs : List Value} {w : World} (h : Spec Try.prog f args (B true)) (hr : RepAll (fun _ => 0) (Kst.of w) args vs) : Calls Try.prog f vs.toArray w (RetV w (.bool true)) :=
  (h.run (fun _ => 0) (Kst.of w) vs hr).mono fun e w' ⟨x, t, e1, e2, _, hb, hx⟩ => ⟨⟨x, e1, bv (hx fun _ => 0)⟩, hb⟩
end Go.Proofs.Ythhgjloephkpaaa.Lx
namespace Go.Proofs.Ythhgjloephkpaaa.Lx
set_option linter.unusedVariables false
set_option linter.unusedSimpArgs false
open Go Go.RowKit Go.Proofs.Ythhgjloephkpaaa Go.Proofs.YthhgjloephkpaaaW.PrintWords Go.Proofs.YthhgjloephkpaaaW.PrintLast
set_option maxRecDepth 100000
abbrev Lf := List (Int × Int)
/-- A slice of slices of fractions in a frozen block. -/
def Mr : Rel (List Lf) where
  n := 1
  R s cs L := ∃ A n c, cs = [.slice A n c] ∧ L.length = n ∧ n ≤ 4611686018427387903 ∧ (0 < n → ∃ ad, A = some ad ∧ s.fz ad.block ∧ ∀ i, i < n → ∃ v, s.w.cell? (ad.add i) = some v ∧ Lr.R s [v] (L.getD i []))
  up s t cs L h k := by
    obtain ⟨A, n, c, e, h1, h2, h3⟩ := k
    refine ⟨A, n, c, e, h1, h2, fun h0 => ?_⟩
    obtain ⟨ad, ea, hf, hc⟩ := h3 h0
    refine ⟨ad, ea, (h.keep _ hf).1, fun i hi => ?_⟩
    obtain ⟨v, hv, hr⟩ := hc i hi
    exact ⟨v, by rw [cell_le h (by rw [addr_block]; exact hf)]; exact hv, Lr.up _ _ _ _ h hr⟩
  len s cs x k := by obtain ⟨A, n, c, rfl, _⟩ := k; rfl
  ok s cs x k v hv := by obtain ⟨A, n, c, rfl, _⟩ := k; simp at hv; subst hv; simp [Value.oneCell', noW]
/-- The address of a slice in a frozen block. -/
def Cr : Rel Lf where
  n := 1
  R s cs l := ∃ p v, cs = [.pointer (some p)] ∧ s.fz p.block ∧ s.w.cell? p = some v ∧ Lr.R s [v] l
  up s t cs l h k := by
    obtain ⟨p, v, e, hf, hc, hr⟩ := k
    exact ⟨p, v, e, (h.keep _ hf).1, by rw [cell_le h hf]; exact hc, Lr.up _ _ _ _ h hr⟩
  len s cs x k := by obtain ⟨p, v, rfl, _⟩ := k; rfl
  ok s cs x k v hv := by obtain ⟨p, u, rfl, _⟩ := k; simp at hv; subst hv; simp [Value.oneCell', noW]
def Mv (L : List Lf) : TV := .u ⟨false, [.abs Mr L]⟩
def Cv (l : Lf) : TV := .u ⟨false, [.abs Cr l]⟩
section
variable {γ : Nat → Nat} {s : Kst} {v : Value}
theorem mv {L : List Lf} (h : (Mv L).Rep γ s v) : ∃ A n c, v = .slice A n c ∧ L.length = n ∧ n ≤ 4611686018427387903 ∧ (0 < n → ∃ ad, A = some ad ∧ s.fz ad.block ∧ ∀ i, i < n → ∃ v, s.w.cell? (ad.add i) = some v ∧ Lr.R s [v] (L.getD i [])) := by
  obtain ⟨h1, a, b, e, ⟨A, n, c, rfl, k⟩, k2⟩ := h
  rw [show b = [] from k2] at e
  exact ⟨A, n, c, by simpa using e, k⟩
theorem lv_rel {l : Lf} (h : (Lv l).Rep γ s v) : Lr.R s [v] l := by
  obtain ⟨h1, a, b, e, k, k2⟩ := h
  rw [show b = [] from k2, List.append_nil] at e
  subst e; exact k
theorem rel_lv {l : Lf} (h : Lr.R s [v] l) : (Lv l).Rep γ s v := ⟨(Lr.ok _ _ _ h v (List.mem_singleton.2 rfl)).1, [v], [], rfl, h, rfl⟩
end
section
variable {S : SS} {o : Oper} {L : List Lf} {l m : Lf}
theorem run_len114 {ρ : Operand → Value} {w : World} {x : Operand} {A : Option Addr} {n m : Nat} (ho : o.op = .call { callee := .builtin .len, args := #[x], argTypes := #[114] }) (hx : ρ x = .slice A n m) : (execOp ρ o).run Try.prog w = .ok (.value (.int .i64 (n : Int))) w := by
  simp [execOp, ho, hx, go_sem]
theorem g_len114 {y : Operand} (ho : o.op = .call { callee := .builtin .len, args := #[y], argTypes := #[114] }) (hy : opT S y = some (Mv L)) : OpGives Try.prog S o (Iv (L.length : Nat)) := g_pure fun γ s a k => by
  obtain ⟨A, n, c, e, h, _⟩ := mv (k y (by rw [ho]; simp [Op.operands, Call.operands]) _ hy)
  exact ⟨_, run_len114 ho e, by rw [h]; exact vi⟩
theorem size114 : (Try.prog.info? 54).map (·.size) = some 1 := by kernel_rfl
theorem run_idx114 {a : Act} {w : World} {x y : Operand} {b : Addr} {n c j : Nat} (ho : o.op = .indexAddr 114 x y) (hx : a.eval x = .slice (some b) n c) (hy : a.eval y = .int .i64 (j : Int)) (hj : j < n) : (execOp a.eval o).run Try.prog w = .ok (.value (.pointer (some (b.add j)))) w := by
  have h0 : (0 : Int) ≤ (j : Int) ∧ (j : Int) < (n : Int) := ⟨by omega, by omega⟩
  have hu : Try.prog.underlying 114 = some (.slice 54) := by kernel_rfl
  obtain ⟨i, hi, hz⟩ := Option.map_eq_some_iff.1 size114
  unfold execOp
  simp only [ho, hx, hy]
  simp [go_sem, h0, run_underlying hu, sizeOf, typeInfo, hi, hz, Nat.mul_comm]
theorem g_idx114 {y z : Operand} {i : Nat} (ho : o.op = .indexAddr 114 y z) (hy : opT S y = some (Mv L)) (hz : opT S z = some (Iv (i : Nat))) (hi : i < L.length) : OpGives Try.prog S o (Cv (L.getD i [])) := g_pure fun γ s a k => by
  obtain ⟨A, n, c, e, h, _, f⟩ := mv (k y (by rw [ho]; simp [Op.operands]) _ hy)
  have e2 := iv (k z (by rw [ho]; simp [Op.operands]) _ hz)
  have hn : i < n := by rw [← h]; exact hi
  obtain ⟨ad, rfl, hf, hc⟩ := f (by omega)
  obtain ⟨v, hv, hr⟩ := hc i hn
  exact ⟨_, run_idx114 ho e e2 hn, rfl, [_], [], rfl, ⟨_, v, rfl, by rw [addr_block]; exact hf, hv, hr⟩, rfl⟩
theorem ag54 (w : World) : (isAgg 54).run Try.prog w = .ok false w := by kernel_rfl
theorem g_ld54 {y : Operand} (ho : o.op = .load 54 y) (hy : opT S y = some (Cv l)) : OpGives Try.prog S o (Lv l) := g_pure fun γ s a k => by
  obtain ⟨h1, p, q, e, ⟨ad, v, rfl, f, hc, hr⟩, h2⟩ := k y (by rw [ho]; simp [Op.operands]) _ hy
  rw [show q = [] from h2] at e
  have e : a.eval y = .pointer (some ad) := by simpa using e
  exact ⟨v, run_loadW v ho e hc (ag54 _), rel_lv hr⟩
theorem run_m1 (ρ : Operand → Value) (o : Oper) (w : World) (x : Operand) (A : Option Addr) (n c : Nat) (ho : o.op = .buildSlice 114 1 #[(0, x)]) (hc : ρ x = .slice A n c) : (execOp ρ o).run Try.prog w = .ok (.value (.slice (some ⟨w.heap.size, 0, none⟩) 1 1)) (w.alloc (.cells #[.slice A n c] 54)) := by
  unfold execOp
  simp only [ho, List.map_toArray, List.map_cons, List.map_nil, hc]
  first | kernel_rfl | simp [go_sem]
theorem run_m2 (ρ : Operand → Value) (o : Oper) (w : World) (x y : Operand) (A : Option Addr) (n c : Nat) (A' : Option Addr) (n' c' : Nat) (ho : o.op = .buildSlice 114 2 #[(0, x), (1, y)]) (hc : ρ x = .slice A n c) (hd : ρ y = .slice A' n' c') : (execOp ρ o).run Try.prog w = .ok (.value (.slice (some ⟨w.heap.size, 0, none⟩) 2 2)) (w.alloc (.cells #[.slice A n c, .slice A' n' c'] 54)) := by
  unfold execOp
  simp only [ho, List.map_toArray, List.map_cons, List.map_nil, hc, hd]
  first | kernel_rfl | simp [go_sem]
theorem lr_le {s t : Kst} {v : Value} (h : Le s t) (k : Lr.R s [v] l) : Lr.R t [v] l := Lr.up _ _ _ _ h k
theorem g_m1 {y : Operand} (ho : o.op = .buildSlice 114 1 #[(0, y)]) (hy : opT S y = some (Lv l)) : OpGives Try.prog S o (Mv [l]) := fun γ s a k => by
  have hk := k y (by rw [ho]; simp [Op.operands]) _ hy
  obtain ⟨A, n, c, e, _⟩ := lv hk
  rw [e] at hk
  have hself : (s.w.alloc (.cells #[.slice A n c] 54)).heap[s.w.heap.size]? = some (.cells #[.slice A n c] 54 (0, 0)) := Array.getElem?_push_size
  have hle := s.le_frz (.cells #[.slice A n c] 54)
  refine ⟨_, s.frz (.cells #[.slice A n c] 54), run_m1 a.eval o s.w y A n c ho e, hle, (Below.refl _ _).alloc (Nat.le_refl _) _, rfl, [_], [], rfl, ⟨_, 1, 1, rfl, rfl, by decide, fun _ => ⟨_, rfl, .inr rfl, fun i hi => ?_⟩⟩, rfl⟩
  obtain rfl : i = 0 := by omega
  exact ⟨.slice A n c, (cell_of_row _ _ 0 _ _ (0, 0) hself), lr_le hle (lv_rel hk)⟩
theorem g_m2 {y z : Operand} (ho : o.op = .buildSlice 114 2 #[(0, y), (1, z)]) (hy : opT S y = some (Lv l)) (hz : opT S z = some (Lv m)) : OpGives Try.prog S o (Mv [l, m]) := fun γ s a k => by
  have hk := k y (by rw [ho]; simp [Op.operands]) _ hy
  have hk2 := k z (by rw [ho]; simp [Op.operands]) _ hz
  obtain ⟨A, n, c, e, _⟩ := lv hk
  obtain ⟨A', n', c', e2, _⟩ := lv hk2
  rw [e] at hk
  rw [e2] at hk2
  have hself : (s.w.alloc (.cells #[.slice A n c, .slice A' n' c'] 54)).heap[s.w.heap.size]? = some (.cells #[.slice A n c, .slice A' n' c'] 54 (0, 0)) := Array.getElem?_push_size
  have hle := s.le_frz (.cells #[.slice A n c, .slice A' n' c'] 54)
  have hadd : ∀ j, (⟨s.w.heap.size, 0, none⟩ : Addr).add j = ⟨s.w.heap.size, j, none⟩ := fun j => by unfold Addr.add; split <;> simp_all
  refine ⟨_, s.frz (.cells #[.slice A n c, .slice A' n' c'] 54), run_m2 a.eval o s.w y z A n c A' n' c' ho e e2, hle, (Below.refl _ _).alloc (Nat.le_refl _) _, rfl, [_], [], rfl, ⟨_, 2, 2, rfl, rfl, by decide, fun _ => ⟨_, rfl, .inr rfl, fun i hi => ?_⟩⟩, rfl⟩
  rw [hadd]
  rcases (by omega : i = 0 ∨ i = 1) with rfl | rfl
  · exact ⟨.slice A n c, (cell_of_row _ _ 0 _ _ (0, 0) hself), lr_le hle (lv_rel hk)⟩
  · exact ⟨.slice A' n' c', (cell_of_row _ _ 1 _ _ (0, 0) hself), lr_le hle (lv_rel hk2)⟩
end
/-- What is wrong with some lists. -/
def listE (L : List Lf) : Int := if ∃ x ∈ L, 64 < x.length then 3 else errV (∀ x ∈ L, Alls x)
structure GN (n : Nat) (p : Nat → Prop) where
  i : Nat
  hi : i ≤ n
  h : ∀ j, j < i → p j
theorem next_p {p : Nat → Prop} {i : Nat} (h : ∀ j, j < i → p j) (hy : p i) : ∀ j, j < i + 1 → p j := fun j hj => by
  rcases Nat.lt_or_ge j i with h' | h'
  · exact h j h'
  · rw [show j = i from by omega]; exact hy
theorem getD_mem {α : Type} {d : α} {L : List α} {i : Nat} (h : i < L.length) : L.getD i d ∈ L := by
  rw [List.getD_eq_getElem?_getD, List.getElem?_eq_getElem h]; exact List.getElem_mem h
theorem mem_getD {α : Type} {d : α} {L : List α} {x : α} (h : x ∈ L) : ∃ i, i < L.length ∧ L.getD i d = x := by
  obtain ⟨i, hi, e⟩ := List.getElem_of_mem h
  exact ⟨i, hi, by rw [List.getD_eq_getElem?_getD, List.getElem?_eq_getElem hi]; exact e⟩
theorem mv_len {L : List Lf} {P : Program} {f : FuncId} {r : TV} {fn : Func} (hf : P.funcs[f]? = some fn) (hname : (fn.name == "runtime.NumGoroutine") = false) (hb : fn.body.isSome = true)
    (h : L.length ≤ 4611686018427387903 → Spec P f [Mv L] r) : Spec P f [Mv L] r :=
  ⟨fun vs w => enters_ hf hname hb vs w, fun γ s vs ⟨x, y, e1, k1, k2⟩ => by
    obtain ⟨A, n, c, e, h1, h2, _⟩ := mv k1
    exact (h (by rw [h1]; exact h2)).run γ s vs ⟨x, y, e1, k1, k2⟩⟩
section
variable {L : List Lf} {l m : Lf}
theorem s89 : Spec Try.prog 89 [Mv L] (Iv (listE L)) := by
  refine mv_len Try.func89 (by kernel_rfl) rfl fun hl => ?_
  let at_ (i : Nat) : Lf := L.getD i []
  let inv1 (g : GN L.length fun j => (at_ j).length ≤ 64) : SS := ⟨[(0, Mv L), (8, Mv L), (9, Iv (L.length : Nat)), (10, Iv (g.i : Nat))], [], 0, 30⟩
  let inv2 (g : GN L.length fun j => Alls (at_ j)) : SS := ⟨[(18, Mv L), (19, Iv (L.length : Nat)), (20, Iv (g.i : Nat))], [], 0, 30⟩
  let body2 (g : GN L.length fun j => Alls (at_ j)) : Tr := .split 21 (.op 22 (Cv (at_ g.i)) (.op 23 (Lv (at_ g.i)) (.res 25 (Iv (errV (Alls (at_ g.i)))) (.split 27 .done (.as 29 (Iv ((g.i + 1 : Nat) : Int)) .done))))) .done
  let body1 (g : GN L.length fun j => (at_ j).length ≤ 64) : Tr := .split 11 (.op 12 (Cv (at_ g.i)) (.op 13 (Lv (at_ g.i)) (.op 15 (Iv ((at_ g.i).length : Nat)) (.split 16 .done (.as 17 (Iv ((g.i + 1 : Nat) : Int)) .done)))))
    (.op 19 (Iv (L.length : Nat)) (.loop (⟨0, Nat.zero_le _, fun _ h => by omega⟩ : GN L.length fun j => Alls (at_ j)) inv2 (fun g => L.length - g.i) body2))
  refine spec_exec (T := .op 9 (Iv (L.length : Nat)) (.loop (⟨0, Nat.zero_le _, fun _ h => by omega⟩ : GN L.length fun j => (at_ j).length ≤ 64) inv1 (fun g => L.length - g.i) body1)) Try.func89 rfl (by kernel_rfl) mixed rfl rfl rfl ?_
  refine And.intro (g_len114 rfl rfl) (And.intro ⟨by kernel_rfl, rfl, And.intro (AsOk.refl _) (And.intro (AsOk.refl _) (And.intro (AsOk.refl _) (And.intro (AsOk.refl _) trivial))), trivial⟩ ?_)
  rintro ⟨i, hi, hj⟩
  refine And.intro (fun h => ?_) (fun h => ?_)
  · have h : ((i : Nat) : Int) < (L.length : Nat) := of_decide_eq_true h
    have e1 : IntKind.i64.wrap ((i : Int) + 1) = ((i + 1 : Nat) : Int) := by rw [w64 (by omega)]; omega
    refine And.intro (g_idx114 (i := i) rfl rfl rfl (by omega)) (And.intro (g_ld54 rfl rfl) (And.intro (g_len54 rfl rfl) (And.intro (fun h2 => ?_) (fun h2 => And.intro (as_i e1) ?_))))
    · have h2 : (64 : Int) < ((at_ i).length : Nat) := of_decide_eq_true h2
      exact as_i (if_pos (show ∃ x ∈ L, 64 < x.length from ⟨_, getD_mem (d := []) (i := i) (by omega), by show 64 < (at_ i).length; omega⟩)).symm
    · have h2 : ¬ (64 : Int) < ((at_ i).length : Nat) := of_decide_eq_false h2
      exact Exists.intro ⟨i + 1, by omega, next_p hj (by omega)⟩
        (And.intro ⟨by kernel_rfl, rfl, And.intro (AsOk.refl _) (And.intro (AsOk.refl _) (And.intro (AsOk.refl _) (And.intro (AsOk.refl _) trivial))), trivial⟩ (by show L.length - (i + 1) < L.length - i; omega))
  · have h : ¬ ((i : Nat) : Int) < (L.length : Nat) := of_decide_eq_false h
    have hno : ¬ ∃ x ∈ L, 64 < x.length := fun ⟨x, hx, hlt⟩ => by
      obtain ⟨j, h1, rfl⟩ := mem_getD (d := []) hx
      have : (L.getD j []).length ≤ 64 := hj j (by omega)
      omega
    have eE : listE L = errV (∀ x ∈ L, Alls x) := if_neg hno
    refine And.intro (g_len114 rfl rfl) (And.intro ⟨by kernel_rfl, rfl, And.intro (AsOk.refl _) (And.intro (AsOk.refl _) (And.intro (AsOk.refl _) trivial)), trivial⟩ ?_)
    rintro ⟨k, hk, hkj⟩
    refine And.intro (fun h => ?_) (fun h => ?_)
    · have h : ((k : Nat) : Int) < (L.length : Nat) := of_decide_eq_true h
      have e1 : IntKind.i64.wrap ((k : Int) + 1) = ((k + 1 : Nat) : Int) := by rw [w64 (by omega)]; omega
      refine And.intro (g_idx114 (i := k) rfl rfl rfl (by omega)) (And.intro (g_ld54 rfl rfl) (And.intro s45 (And.intro (fun h2 => ?_) (fun h2 => And.intro (as_i e1) ?_))))
      · have h2 : (errV (Alls (at_ k)) != 0) = true := h2
        have hn : ¬ Alls (at_ k) := fun h => by rw [errV_t h] at h2; cases h2
        refine as_i ?_
        rw [eE, errV_f hn, errV_f fun h => hn (h _ (getD_mem (by omega)))]
      · have h2 : (errV (Alls (at_ k)) != 0) = false := h2
        have hy : Alls (at_ k) := Classical.byContradiction fun h => by rw [errV_f h] at h2; cases h2
        exact Exists.intro ⟨k + 1, by omega, next_p hkj hy⟩
          (And.intro ⟨by kernel_rfl, rfl, And.intro (AsOk.refl _) (And.intro (AsOk.refl _) (And.intro (AsOk.refl _) trivial)), trivial⟩ (by show L.length - (k + 1) < L.length - k; omega))
    · have h : ¬ ((k : Nat) : Int) < (L.length : Nat) := of_decide_eq_false h
      refine as_i (a := 0) ?_
      rw [eE, errV_t fun x hx => by
        obtain ⟨j, h1, rfl⟩ := mem_getD (d := []) hx
        exact hkj j (by omega)]
end
end Go.Proofs.Ythhgjloephkpaaa.Lx
namespace Go.Proofs.Ythhgjloephkpaaa.Lx
set_option linter.unusedVariables false
set_option linter.unusedSimpArgs false
open Go Go.RowKit Go.Proofs.Ythhgjloephkpaaa Go.Proofs.YthhgjloephkpaaaW.PrintWords Go.Proofs.YthhgjloephkpaaaW.PrintLast
set_option maxRecDepth 100000
set_option maxHeartbeats 2000000
def frac (l : Lf) (i : Nat) : Rat := Rat.divInt (l.getD i (0, 0)).1 (l.getD i (0, 0)).2
/-- What is behind so many of a list. -/
def foldQ (f : Rat → Rat → Rat) (z : Rat) (l : Lf) : Nat → Rat
  | 0 => z
  | i + 1 => f (foldQ f z l i) (frac l i)
def dotQ (l m : Lf) : Nat → Rat
  | 0 => 0
  | i + 1 => dotQ l m i + frac l i * frac m i
theorem frac_fit {l : Lf} {i : Nat} (h : Alls l) (hi : i < l.length) : QFit 2 (frac l i) := by
  have h := alls_at h hi
  exact ⟨by unfold frac; rw [← (isq_num h).1]; exact Fit.int64 (isq64 h).1.1 (by have := (isq64 h).1.2; omega), by unfold frac; rw [← (isq_num h).2]; exact Fit.int64 (isq64 h).2.1 (by have := (isq64 h).2.2; omega)⟩
theorem fit_int {z : Int} (h : -9223372036854775808 ≤ z ∧ z ≤ 9223372036854775808) : QFit 2 (z : Rat) := ⟨Fit.int64 h.1 h.2, by rw [Rat.den_intCast]; exact Fit_one.mono (by decide)⟩
theorem sum_fit {l : Lf} (h : Alls l) : ∀ i, i ≤ l.length → QFit (3 * i + 2) (foldQ (fun x y => x + y) 0 l i)
  | 0, _ => fit_int (z := 0) (by decide)
  | i + 1, hi => ((sum_fit h i (by omega)).add (frac_fit h (by omega))).mono (by omega)
theorem prod_fit {l : Lf} (h : Alls l) : ∀ i, i ≤ l.length → QFit (2 * i + 2) (foldQ (fun x y => x * y) 1 l i)
  | 0, _ => fit_int (z := 1) (by decide)
  | i + 1, hi => ((prod_fit h i (by omega)).mul (frac_fit h (by omega))).mono (by omega)
theorem dot_fit {l m : Lf} (h : Alls l) (h2 : Alls m) (e : l.length = m.length) : ∀ i, i ≤ l.length → QFit (5 * i + 2) (dotQ l m i)
  | 0, _ => fit_int (z := 0) (by decide)
  | i + 1, hi => ((dot_fit h h2 e i (by omega)).add ((frac_fit h (by omega)).mul (frac_fit h2 (by omega)))).mono (by omega)
section
variable {l m : Lf} {p q : Int} {x : Rat} {i : Nat}
theorem s46' (h : IsQ p q) : Spec Try.prog 46 [Rv p q] (Qo (Rat.divInt p q)) := s46 (isq64 h).1 (isq64 h).2 (isq_num h).1 (isq_num h).2
theorem s27' (h : IsQ p q) : Spec Try.prog 27 [Rv p q] (Qs (Rat.divInt p q)) := s27 (isq64 h).1 (isq64 h).2 (isq_ne h)
theorem s91 (fx : Q6 x) (h : IsQ p q) : Spec Try.prog 91 [Qo x, Rv p q] (Qo (x + Rat.divInt p q)) := by
  refine spec_exec (T := .res 7 (Qo (Rat.divInt p q)) (.res 8 (Qo (x + Rat.divInt p q)) .done)) Try.func91 rfl (by kernel_rfl) mixed rfl rfl rfl ?_
  exact And.intro (s46' h) (And.intro (s57 fx (isq_fit h)) (AsOk.refl _))
theorem s92 (fx : Q6 x) (h : IsQ p q) : Spec Try.prog 92 [Qo x, Rv p q] (Qo (x * Rat.divInt p q)) := by
  refine spec_exec (T := .res 7 (Qo (Rat.divInt p q)) (.res 8 (Qo (x * Rat.divInt p q)) .done)) Try.func92 rfl (by kernel_rfl) mixed rfl rfl rfl ?_
  exact And.intro (s46' h) (And.intro (s59 fx (isq_fit h)) (AsOk.refl _))
theorem s90 {F : FuncId} {f : Rat → Rat → Rat} (hl : l.length ≤ 64) (hF : ∀ i, i < l.length → Spec Try.prog F [Qo (foldQ f x l i), Rv (l.getD i (0, 0)).1 (l.getD i (0, 0)).2] (Qo (foldQ f x l (i + 1)))) : Spec Try.prog 90 [Lv l, Qo x, Fv F] (Qo (foldQ f x l l.length)) := by
  let at_ (i : Nat) : Int × Int := l.getD i (0, 0)
  let inv (g : GN l.length fun _ => True) : SS := ⟨[(2, Fv F), (4, Pv 0), (6, Pv 1), (9, Lv l), (10, Iv (l.length : Nat)), (11, Iv (g.i : Nat))],
    [(0, 62, [.abs Zr (foldQ f x l g.i).num, .abs Zr ((foldQ f x l g.i).den : Int)]), (1, 62, [.val (.int .i64 0), .val (.slice none 0 0), .val (.bool false), .val (.int .i64 0), .val (.slice none 0 0), .val (.bool false)])], 2, 21⟩
  refine spec_exec (T := .op 10 (Iv (l.length : Nat)) (.loop (⟨0, Nat.zero_le _, fun _ _ => trivial⟩ : GN l.length fun _ => True) inv (fun g => l.length - g.i) fun g =>
    .split 12 (.op 13 (Bv (at_ g.i)) (.op 14 (Rv (at_ g.i).1 (at_ g.i).2) (.res 18 (Qo (foldQ f x l (g.i + 1))) (.as 19 (Iv ((g.i + 1 : Nat) : Int)) .done)))) .done)) Try.func90 rfl (by kernel_rfl) mixed rfl rfl rfl ?_
  refine And.intro (g_len54 rfl rfl) (And.intro ⟨by kernel_rfl, rfl, ?_, ?_⟩ ?_)
  · repeat refine And.intro (AsOk.refl _) ?_
    exact trivial
  · repeat refine And.intro (And.intro rfl (AsL.refl _)) ?_
    exact trivial
  rintro ⟨i, hi, _⟩
  refine And.intro (fun h => ?_) (fun h => ?_)
  · have h : ((i : Nat) : Int) < (l.length : Nat) := of_decide_eq_true h
    have e1 : IntKind.i64.wrap ((i : Int) + 1) = ((i + 1 : Nat) : Int) := by rw [w64 (by omega)]; omega
    refine And.intro (g_idx54 (i := i) rfl rfl rfl (by omega)) (And.intro (g_ld23 rfl rfl) (And.intro (hF i (by omega)) (And.intro (as_i e1) ?_)))
    refine Exists.intro ⟨i + 1, by omega, fun _ _ => trivial⟩ (And.intro ⟨by kernel_rfl, rfl, ?_, ?_⟩ (by show l.length - (i + 1) < l.length - i; omega))
    · repeat refine And.intro (AsOk.refl _) ?_
      exact trivial
    · repeat refine And.intro (And.intro rfl (AsL.refl _)) ?_
      exact trivial
  · have h : ¬ ((i : Nat) : Int) < (l.length : Nat) := of_decide_eq_false h
    obtain rfl : i = l.length := by omega
    exact AsOk.refl _
def sumT (f : Rat → Rat → Rat) (z : Rat) (l : Lf) : TV := if 64 < l.length then Re 0 0 3 else if Alls l then toldT (foldQ f z l l.length) else Re 0 0 1
theorem listE_one : listE [l] = if 64 < l.length then 3 else errV (Alls l) := by
  unfold listE
  by_cases h : 64 < l.length
  · rw [if_pos h, if_pos ⟨l, List.mem_singleton.2 rfl, h⟩]
  · rw [if_neg h, if_neg fun ⟨x, hx, hl⟩ => h (by rw [← List.mem_singleton.1 hx]; exact hl)]
    by_cases h2 : Alls l
    · rw [errV_t h2, errV_t fun x hx => by rw [List.mem_singleton.1 hx]; exact h2]
    · rw [errV_f h2, errV_f fun k => h2 (k l (List.mem_singleton.2 rfl))]
theorem s36 : Spec Try.prog 36 [Lv l] (sumT (fun x y => x + y) 0 l) := by
  unfold sumT
  by_cases h1 : 64 < l.length
  · rw [if_pos h1]
    refine spec_exec (T := .op 6 (Mv [l]) (.res 7 (Iv (listE [l])) (.as 7 (Iv 3) .done))) Try.func36 rfl (by kernel_rfl) mixed rfl rfl rfl ?_
    exact And.intro (g_m1 rfl rfl) (And.intro s89 (And.intro (as_i (by rw [listE_one, if_pos h1])) (AsOk.refl _)))
  rw [if_neg h1]
  by_cases h2 : Alls l
  · rw [if_pos h2]
    refine spec_exec (T := .op 6 (Mv [l]) (.res 7 (Iv (listE [l])) (.as 7 (Iv 0) (.res 13 (Qo ((0 : Int) : Rat)) (.res 14 (Qo (foldQ (fun x y => x + y) 0 l l.length)) (.res 15 (toldT (foldQ (fun x y => x + y) 0 l l.length)) .done)))))) Try.func36 rfl (by kernel_rfl) mixed rfl rfl rfl ?_
    exact And.intro (g_m1 rfl rfl) (And.intro s89 (And.intro (as_i (by rw [listE_one, if_neg h1, errV_t h2])) (And.intro (s87 (by decide) (by decide)) (And.intro (s90 (by omega) fun i hi => s91 ((sum_fit h2 i (by omega)).mono (by omega)) (alls_at h2 hi)) (And.intro s42 (AsOk.refl _))))))
  · rw [if_neg h2]
    refine spec_exec (T := .op 6 (Mv [l]) (.res 7 (Iv (listE [l])) (.as 7 (Iv 1) .done))) Try.func36 rfl (by kernel_rfl) mixed rfl rfl rfl ?_
    exact And.intro (g_m1 rfl rfl) (And.intro s89 (And.intro (as_i (by rw [listE_one, if_neg h1, errV_f h2])) (AsOk.refl _)))
theorem s38 : Spec Try.prog 38 [Lv l] (sumT (fun x y => x * y) 1 l) := by
  unfold sumT
  by_cases h1 : 64 < l.length
  · rw [if_pos h1]
    refine spec_exec (T := .op 6 (Mv [l]) (.res 7 (Iv (listE [l])) (.as 7 (Iv 3) .done))) Try.func38 rfl (by kernel_rfl) mixed rfl rfl rfl ?_
    exact And.intro (g_m1 rfl rfl) (And.intro s89 (And.intro (as_i (by rw [listE_one, if_pos h1])) (AsOk.refl _)))
  rw [if_neg h1]
  by_cases h2 : Alls l
  · rw [if_pos h2]
    refine spec_exec (T := .op 6 (Mv [l]) (.res 7 (Iv (listE [l])) (.as 7 (Iv 0) (.res 13 (Qo ((1 : Int) : Rat)) (.res 14 (Qo (foldQ (fun x y => x * y) 1 l l.length)) (.res 15 (toldT (foldQ (fun x y => x * y) 1 l l.length)) .done)))))) Try.func38 rfl (by kernel_rfl) mixed rfl rfl rfl ?_
    exact And.intro (g_m1 rfl rfl) (And.intro s89 (And.intro (as_i (by rw [listE_one, if_neg h1, errV_t h2])) (And.intro (s87 (by decide) (by decide)) (And.intro (s90 (by omega) fun i hi => s92 ((prod_fit h2 i (by omega)).mono (by omega)) (alls_at h2 hi)) (And.intro s42 (AsOk.refl _))))))
  · rw [if_neg h2]
    refine spec_exec (T := .op 6 (Mv [l]) (.res 7 (Iv (listE [l])) (.as 7 (Iv 1) .done))) Try.func38 rfl (by kernel_rfl) mixed rfl rfl rfl ?_
    exact And.intro (g_m1 rfl rfl) (And.intro s89 (And.intro (as_i (by rw [listE_one, if_neg h1, errV_f h2])) (AsOk.refl _)))
theorem as_q0 : AsOk (.u ⟨true, [.val (.slice none 0 0), .val (.bool false), .val (.slice none 0 0), .val (.bool false)]⟩) (Qs 0) := fun γ s v h => by
  have e := sc_rep (t := .u ⟨true, [.val (.slice none 0 0), .val (.bool false), .val (.slice none 0 0), .val (.bool false)]⟩) rfl h
  subst e
  have w0 : Wds s.w none 0 0 (dg 0) := by rw [dg_zero]; exact ⟨⟨rfl, by decide, fun h => by omega⟩, by decide⟩
  exact ⟨_, rfl, [_, _], [_, _], rfl, ⟨none, 0, 0, rfl, w0⟩, [_, _], [], rfl, ⟨0, ⟨none, 0, 0, rfl, w0⟩, .inr ⟨rfl, rfl⟩⟩, rfl⟩
def invS (f : Rat → Rat → Rat) (z : Rat) (l : Lf) (n : Nat) (g : GN l.length fun _ => True) : SS := ⟨[(0, Lv l), (2, Pv 0), (5, Pv 1), (6, Iv (g.i : Nat))],
  [(0, 23, [.val (.int .i64 0), .val (.int .i64 0)]), (1, 40, [.abs Wr (foldQ f z l g.i).num, .abs Dr (foldQ f z l g.i)])], 2, n⟩
theorem s37 : Spec Try.prog 37 [Lv l] (sumT (fun x y => x + y) 0 l) := by
  let at_ (i : Nat) : Int × Int := l.getD i (0, 0)
  unfold sumT
  by_cases h1 : 64 < l.length
  · rw [if_pos h1]
    refine spec_exec (T := .op 8 (Iv (l.length : Nat)) (.is 9 true .done)) Try.func37 rfl (by kernel_rfl) mixed rfl rfl rfl ?_
    exact And.intro (g_len54 rfl rfl) (And.intro (decide_eq_true (by omega)) (AsOk.refl _))
  rw [if_neg h1]
  by_cases h2 : Alls l
  · rw [if_pos h2]
    refine spec_exec (T := .op 8 (Iv (l.length : Nat)) (.is 9 false (.res 12 (Iv (errV (Alls l))) (.as 12 (Iv 0) (.as 17 (Qs 0) (.loop (⟨0, Nat.zero_le _, fun _ _ => trivial⟩ : GN l.length fun _ => True) (invS (fun x y => x + y) 0 l 35) (fun g => l.length - g.i) fun g =>
      .op 20 (Iv (l.length : Nat)) (.split 21 (.op 27 (Bv (at_ g.i)) (.op 28 (Rv (at_ g.i).1 (at_ g.i).2) (.res 29 (Qs (frac l g.i)) (.res 30 (Qs (foldQ (fun x y => x + y) 0 l (g.i + 1))) (.as 23 (Iv ((g.i + 1 : Nat) : Int)) .done)))))
        (.res 32 (toldT (foldQ (fun x y => x + y) 0 l l.length)) .done)))))))) Try.func37 rfl (by kernel_rfl) mixed rfl rfl rfl ?_
    refine And.intro (g_len54 rfl rfl) (And.intro (decide_eq_false (by omega)) (And.intro s48 (And.intro (as_i (errV_t h2)) (And.intro as_q0 (And.intro ⟨by kernel_rfl, rfl, ?_, ?_⟩ ?_)))))
    · repeat refine And.intro (AsOk.refl _) ?_
      exact trivial
    · repeat refine And.intro (And.intro rfl (AsL.refl _)) ?_
      exact trivial
    rintro ⟨i, hi, _⟩
    refine And.intro (g_len54 rfl rfl) (And.intro (fun h => ?_) (fun h => ?_))
    · have h : ((i : Nat) : Int) < (l.length : Nat) := of_decide_eq_true h
      have e1 : IntKind.i64.wrap ((i : Int) + 1) = ((i + 1 : Nat) : Int) := by rw [w64 (by omega)]; omega
      have hq := alls_at h2 (i := i) (by omega)
      refine And.intro (g_idx54 (i := i) rfl rfl rfl (by omega)) (And.intro (g_ld23 rfl rfl) (And.intro (s27' hq) (And.intro (s52 ((sum_fit h2 i (by omega)).mono (by omega)) (isq_fit hq)) (And.intro (as_i e1) ?_))))
      refine Exists.intro ⟨i + 1, by omega, fun _ _ => trivial⟩ (And.intro ⟨by kernel_rfl, rfl, ?_, ?_⟩ (by show l.length - (i + 1) < l.length - i; omega))
      · repeat refine And.intro (AsOk.refl _) ?_
        exact trivial
      · repeat refine And.intro (And.intro rfl (AsL.refl _)) ?_
        exact trivial
    · have h : ¬ ((i : Nat) : Int) < (l.length : Nat) := of_decide_eq_false h
      obtain rfl : i = l.length := by omega
      exact And.intro s44 (AsOk.refl _)
  · rw [if_neg h2]
    refine spec_exec (T := .op 8 (Iv (l.length : Nat)) (.is 9 false (.res 12 (Iv (errV (Alls l))) (.as 12 (Iv 1) .done)))) Try.func37 rfl (by kernel_rfl) mixed rfl rfl rfl ?_
    exact And.intro (g_len54 rfl rfl) (And.intro (decide_eq_false (by omega)) (And.intro s48 (And.intro (as_i (errV_f h2)) (AsOk.refl _))))
theorem s39 : Spec Try.prog 39 [Lv l] (sumT (fun x y => x * y) 1 l) := by
  let at_ (i : Nat) : Int × Int := l.getD i (0, 0)
  unfold sumT
  by_cases h1 : 64 < l.length
  · rw [if_pos h1]
    refine spec_exec (T := .op 8 (Iv (l.length : Nat)) (.is 9 true .done)) Try.func39 rfl (by kernel_rfl) mixed rfl rfl rfl ?_
    exact And.intro (g_len54 rfl rfl) (And.intro (decide_eq_true (by omega)) (AsOk.refl _))
  rw [if_neg h1]
  by_cases h2 : Alls l
  · rw [if_pos h2]
    refine spec_exec (T := .op 8 (Iv (l.length : Nat)) (.is 9 false (.res 12 (Iv (errV (Alls l))) (.as 12 (Iv 0) (.res 17 (Qs ((1 : Int) : Rat)) (.loop (⟨0, Nat.zero_le _, fun _ _ => trivial⟩ : GN l.length fun _ => True) (invS (fun x y => x * y) 1 l 35) (fun g => l.length - g.i) fun g =>
      .op 20 (Iv (l.length : Nat)) (.split 21 (.op 27 (Bv (at_ g.i)) (.op 28 (Rv (at_ g.i).1 (at_ g.i).2) (.res 29 (Qs (frac l g.i)) (.res 30 (Qs (foldQ (fun x y => x * y) 1 l (g.i + 1))) (.as 23 (Iv ((g.i + 1 : Nat) : Int)) .done)))))
        (.res 32 (toldT (foldQ (fun x y => x * y) 1 l l.length)) .done)))))))) Try.func39 rfl (by kernel_rfl) mixed rfl rfl rfl ?_
    refine And.intro (g_len54 rfl rfl) (And.intro (decide_eq_false (by omega)) (And.intro s48 (And.intro (as_i (errV_t h2)) (And.intro (s88 (by decide) (by decide)) (And.intro ⟨by kernel_rfl, rfl, ?_, ?_⟩ ?_)))))
    · repeat refine And.intro (AsOk.refl _) ?_
      exact trivial
    · repeat refine And.intro (And.intro rfl (AsL.refl _)) ?_
      exact trivial
    rintro ⟨i, hi, _⟩
    refine And.intro (g_len54 rfl rfl) (And.intro (fun h => ?_) (fun h => ?_))
    · have h : ((i : Nat) : Int) < (l.length : Nat) := of_decide_eq_true h
      have e1 : IntKind.i64.wrap ((i : Int) + 1) = ((i + 1 : Nat) : Int) := by rw [w64 (by omega)]; omega
      have hq := alls_at h2 (i := i) (by omega)
      refine And.intro (g_idx54 (i := i) rfl rfl rfl (by omega)) (And.intro (g_ld23 rfl rfl) (And.intro (s27' hq) (And.intro (s53 ((prod_fit h2 i (by omega)).mono (by omega)) (isq_fit hq)) (And.intro (as_i e1) ?_))))
      refine Exists.intro ⟨i + 1, by omega, fun _ _ => trivial⟩ (And.intro ⟨by kernel_rfl, rfl, ?_, ?_⟩ (by show l.length - (i + 1) < l.length - i; omega))
      · repeat refine And.intro (AsOk.refl _) ?_
        exact trivial
      · repeat refine And.intro (And.intro rfl (AsL.refl _)) ?_
        exact trivial
    · have h : ¬ ((i : Nat) : Int) < (l.length : Nat) := of_decide_eq_false h
      obtain rfl : i = l.length := by omega
      exact And.intro s44 (AsOk.refl _)
  · rw [if_neg h2]
    refine spec_exec (T := .op 8 (Iv (l.length : Nat)) (.is 9 false (.res 12 (Iv (errV (Alls l))) (.as 12 (Iv 1) .done)))) Try.func39 rfl (by kernel_rfl) mixed rfl rfl rfl ?_
    exact And.intro (g_len54 rfl rfl) (And.intro (decide_eq_false (by omega)) (And.intro s48 (And.intro (as_i (errV_f h2)) (AsOk.refl _))))
end
end Go.Proofs.Ythhgjloephkpaaa.Lx
namespace Go.Proofs.Ythhgjloephkpaaa.Lx
set_option linter.unusedVariables false
set_option linter.unusedSimpArgs false
open Go Go.RowKit Go.Proofs.Ythhgjloephkpaaa Go.Proofs.YthhgjloephkpaaaW.PrintWords Go.Proofs.YthhgjloephkpaaaW.PrintLast
set_option maxRecDepth 100000
set_option maxHeartbeats 2000000
theorem isq_fit2 {p q : Int} (h : IsQ p q) : QFit 2 (Rat.divInt p q) := ⟨by rw [← (isq_num h).1]; exact fi (isq64 h).1, by rw [← (isq_num h).2]; exact fi (isq64 h).2⟩
theorem same23 {a b : Int} : (!((a == a) && (b == b))) = false := by rw [beq_and]; rfl
section
variable {l m : Lf} {i : Nat}
theorem listE_two : listE [l, m] = if 64 < l.length ∨ 64 < m.length then 3 else errV (Alls l ∧ Alls m) := by
  unfold listE
  by_cases h : 64 < l.length ∨ 64 < m.length
  · rw [if_pos h, if_pos (by rcases h with h | h; exact ⟨l, by simp, h⟩; exact ⟨m, by simp, h⟩)]
  · rw [if_neg h, if_neg fun ⟨x, hx, hl⟩ => h (by simp at hx; rcases hx with rfl | rfl; exact .inl hl; exact .inr hl)]
    by_cases h2 : Alls l ∧ Alls m
    · rw [errV_t h2, errV_t fun x hx => by simp at hx; rcases hx with rfl | rfl; exact h2.1; exact h2.2]
    · rw [errV_f h2, errV_f fun k => h2 ⟨k l (by simp), k m (by simp)⟩]
def dotT (l m : Lf) : TV := if 64 < l.length ∨ 64 < m.length then Re 0 0 3 else if Alls l ∧ Alls m then (if l.length = m.length then toldT (dotQ l m l.length) else Re 0 0 8) else Re 0 0 1
def invD (l m : Lf) (g : GN l.length fun _ => True) : SS := ⟨[(0, Lv l), (1, Lv m), (4, Pv 0), (7, Pv 1), (25, Iv (l.length : Nat)), (26, Iv (g.i : Nat))],
  [(0, 23, [.val (.int .i64 0), .val (.int .i64 0)]), (1, 62, [.abs Zr (dotQ l m g.i).num, .abs Zr ((dotQ l m g.i).den : Int)])], 2, 47⟩
theorem s40 : Spec Try.prog 40 [Lv l, Lv m] (dotT l m) := by
  let at_ (i : Nat) : Int × Int := l.getD i (0, 0)
  let bt_ (i : Nat) : Int × Int := m.getD i (0, 0)
  unfold dotT
  by_cases h1 : 64 < l.length ∨ 64 < m.length
  · rw [if_pos h1]
    refine spec_exec (T := .op 11 (Mv [l, m]) (.res 12 (Iv (listE [l, m])) (.as 12 (Iv 3) .done))) Try.func40 rfl (by kernel_rfl) mixed rfl rfl rfl ?_
    exact And.intro (g_m2 rfl rfl rfl) (And.intro s89 (And.intro (as_i (by rw [listE_two, if_pos h1])) (AsOk.refl _)))
  rw [if_neg h1]
  by_cases h2 : Alls l ∧ Alls m
  case neg =>
    rw [if_neg h2]
    refine spec_exec (T := .op 11 (Mv [l, m]) (.res 12 (Iv (listE [l, m])) (.as 12 (Iv 1) .done))) Try.func40 rfl (by kernel_rfl) mixed rfl rfl rfl ?_
    exact And.intro (g_m2 rfl rfl rfl) (And.intro s89 (And.intro (as_i (by rw [listE_two, if_neg h1, errV_f h2])) (AsOk.refl _)))
  rw [if_pos h2]
  by_cases h3 : l.length = m.length
  case neg =>
    rw [if_neg h3]
    refine spec_exec (T := .op 11 (Mv [l, m]) (.res 12 (Iv (listE [l, m])) (.as 12 (Iv 0) (.op 18 (Iv (l.length : Nat)) (.op 20 (Iv (m.length : Nat)) (.is 21 true .done)))))) Try.func40 rfl (by kernel_rfl) mixed rfl rfl rfl ?_
    exact And.intro (g_m2 rfl rfl rfl) (And.intro s89 (And.intro (as_i (by rw [listE_two, if_neg h1, errV_t h2])) (And.intro (g_len54 rfl rfl) (And.intro (g_len54 rfl rfl) (And.intro (bne_iff_ne.2 (by omega)) (AsOk.refl _))))))
  rw [if_pos h3]
  refine spec_exec (T := .op 11 (Mv [l, m]) (.res 12 (Iv (listE [l, m])) (.as 12 (Iv 0) (.op 18 (Iv (l.length : Nat)) (.op 20 (Iv (m.length : Nat)) (.is 21 false (.res 23 (Qo ((0 : Int) : Rat)) (.op 25 (Iv (l.length : Nat)) (.loop (⟨0, Nat.zero_le _, fun _ _ => trivial⟩ : GN l.length fun _ => True) (invD l m) (fun g => l.length - g.i) fun g =>
    .split 27 (.op 32 (Bv (at_ g.i)) (.op 33 (Rv (at_ g.i).1 (at_ g.i).2) (.res 34 (Qo (frac l g.i)) (.op 37 (Bv (bt_ g.i)) (.op 38 (Rv (bt_ g.i).1 (bt_ g.i).2) (.res 39 (Qo (frac m g.i)) (.res 40 (Qo (frac l g.i * frac m g.i)) (.res 41 (Qo (dotQ l m (g.i + 1))) (.as 42 (Iv ((g.i + 1 : Nat) : Int)) .done)))))))))
      (.res 44 (toldT (dotQ l m l.length)) .done)))))))))) Try.func40 rfl (by kernel_rfl) mixed rfl rfl rfl ?_
  refine And.intro (g_m2 rfl rfl rfl) (And.intro s89 (And.intro (as_i (by rw [listE_two, if_neg h1, errV_t h2])) (And.intro (g_len54 rfl rfl) (And.intro (g_len54 rfl rfl) (And.intro (bne_eq_false_iff_eq.2 (by omega)) (And.intro (s87 (by decide) (by decide)) (And.intro (g_len54 rfl rfl) (And.intro ⟨by kernel_rfl, rfl, ?_, ?_⟩ ?_))))))))
  · repeat refine And.intro (AsOk.refl _) ?_
    exact trivial
  · repeat refine And.intro (And.intro rfl (AsL.refl _)) ?_
    exact trivial
  rintro ⟨i, hi, _⟩
  refine And.intro (fun h => ?_) (fun h => ?_)
  · have h : ((i : Nat) : Int) < (l.length : Nat) := of_decide_eq_true h
    have e1 : IntKind.i64.wrap ((i : Int) + 1) = ((i + 1 : Nat) : Int) := by rw [w64 (by omega)]; omega
    have hq := alls_at h2.1 (i := i) (by omega)
    have hq2 := alls_at h2.2 (i := i) (by omega)
    refine And.intro (g_idx54 (i := i) rfl rfl rfl (by omega)) (And.intro (g_ld23 rfl rfl) (And.intro (s46' hq) (And.intro (g_idx54 (i := i) rfl rfl rfl (by omega)) (And.intro (g_ld23 rfl rfl) (And.intro (s46' hq2) (And.intro (s59 (isq_fit hq) (isq_fit hq2)) (And.intro (s57 ((dot_fit h2.1 h2.2 h3 i (by omega)).mono (by omega)) (((isq_fit2 hq).mul (isq_fit2 hq2)).mono (by decide))) (And.intro (as_i e1) ?_))))))))
    refine Exists.intro ⟨i + 1, by omega, fun _ _ => trivial⟩ (And.intro ⟨by kernel_rfl, rfl, ?_, ?_⟩ (by show l.length - (i + 1) < l.length - i; omega))
    · repeat refine And.intro (AsOk.refl _) ?_
      exact trivial
    · repeat refine And.intro (And.intro rfl (AsL.refl _)) ?_
      exact trivial
  · have h : ¬ ((i : Nat) : Int) < (l.length : Nat) := of_decide_eq_false h
    obtain rfl : i = l.length := by omega
    exact And.intro s42 (AsOk.refl _)
def invE (l m : Lf) (g : GN l.length fun _ => True) : SS := ⟨[(0, Lv l), (1, Lv m), (4, Pv 0), (6, Pv 1), (7, Iv (g.i : Nat))],
  [(0, 23, [.val (.int .i64 0), .val (.int .i64 0)]), (1, 40, [.abs Wr (dotQ l m g.i).num, .abs Dr (dotQ l m g.i)])], 2, 59⟩
theorem s41 : Spec Try.prog 41 [Lv l, Lv m] (dotT l m) := by
  let at_ (i : Nat) : Int × Int := l.getD i (0, 0)
  let bt_ (i : Nat) : Int × Int := m.getD i (0, 0)
  unfold dotT
  by_cases h1 : 64 < l.length ∨ 64 < m.length
  · rw [if_pos h1]
    by_cases h0 : 64 < l.length
    · refine spec_exec (T := .op 10 (Iv (l.length : Nat)) (.is 11 true .done)) Try.func41 rfl (by kernel_rfl) mixed rfl rfl rfl ?_
      exact And.intro (g_len54 rfl rfl) (And.intro (decide_eq_true (by omega)) (AsOk.refl _))
    · refine spec_exec (T := .op 10 (Iv (l.length : Nat)) (.is 11 false (.op 14 (Iv (m.length : Nat)) (.is 15 true .done)))) Try.func41 rfl (by kernel_rfl) mixed rfl rfl rfl ?_
      exact And.intro (g_len54 rfl rfl) (And.intro (decide_eq_false (by omega)) (And.intro (g_len54 rfl rfl) (And.intro (decide_eq_true (by omega)) (AsOk.refl _))))
  rw [if_neg h1]
  let pre (t : Tr) : Tr := .op 10 (Iv (l.length : Nat)) (.is 11 false (.op 14 (Iv (m.length : Nat)) (.is 15 false (.res 20 (B (decide (Alls l))) t))))
  by_cases hl : Alls l
  case neg =>
    rw [if_neg fun h => hl h.1]
    refine spec_exec (T := pre (.is 21 true .done)) Try.func41 rfl (by kernel_rfl) mixed rfl rfl rfl ?_
    exact And.intro (g_len54 rfl rfl) (And.intro (decide_eq_false (by omega)) (And.intro (g_len54 rfl rfl) (And.intro (decide_eq_false (by omega)) (And.intro s93 (And.intro (by rw [decide_eq_false hl]; rfl) (AsOk.refl _))))))
  by_cases hm : Alls m
  case neg =>
    rw [if_neg fun h => hm h.2]
    refine spec_exec (T := pre (.is 21 false (.res 24 (B (decide (Alls m))) (.is 25 true .done)))) Try.func41 rfl (by kernel_rfl) mixed rfl rfl rfl ?_
    exact And.intro (g_len54 rfl rfl) (And.intro (decide_eq_false (by omega)) (And.intro (g_len54 rfl rfl) (And.intro (decide_eq_false (by omega)) (And.intro s93 (And.intro (by rw [decide_eq_true hl]; rfl) (And.intro s93 (And.intro (by rw [decide_eq_false hm]; rfl) (AsOk.refl _))))))))
  rw [if_pos ⟨hl, hm⟩]
  by_cases h3 : l.length = m.length
  case neg =>
    rw [if_neg h3]
    refine spec_exec (T := pre (.is 21 false (.res 24 (B (decide (Alls m))) (.is 25 false (.op 30 (Iv (l.length : Nat)) (.op 32 (Iv (m.length : Nat)) (.is 33 true .done))))))) Try.func41 rfl (by kernel_rfl) mixed rfl rfl rfl ?_
    exact And.intro (g_len54 rfl rfl) (And.intro (decide_eq_false (by omega)) (And.intro (g_len54 rfl rfl) (And.intro (decide_eq_false (by omega)) (And.intro s93 (And.intro (by rw [decide_eq_true hl]; rfl) (And.intro s93 (And.intro (by rw [decide_eq_true hm]; rfl) (And.intro (g_len54 rfl rfl) (And.intro (g_len54 rfl rfl) (And.intro (bne_iff_ne.2 (by omega)) (AsOk.refl _)))))))))))
  rw [if_pos h3]
  refine spec_exec (T := pre (.is 21 false (.res 24 (B (decide (Alls m))) (.is 25 false (.op 30 (Iv (l.length : Nat)) (.op 32 (Iv (m.length : Nat)) (.is 33 false (.as 35 (Qs 0) (.loop (⟨0, Nat.zero_le _, fun _ _ => trivial⟩ : GN l.length fun _ => True) (invE l m) (fun g => l.length - g.i) fun g =>
    .op 38 (Iv (l.length : Nat)) (.split 39 (.op 45 (Bv (at_ g.i)) (.op 46 (Rv (at_ g.i).1 (at_ g.i).2) (.res 47 (Qs (frac l g.i)) (.op 50 (Bv (bt_ g.i)) (.op 51 (Rv (bt_ g.i).1 (bt_ g.i).2) (.res 52 (Qs (frac m g.i)) (.res 53 (Qs (frac l g.i * frac m g.i)) (.res 54 (Qs (dotQ l m (g.i + 1))) (.as 41 (Iv ((g.i + 1 : Nat) : Int)) .done)))))))))
      (.res 56 (toldT (dotQ l m l.length)) .done))))))))))) Try.func41 rfl (by kernel_rfl) mixed rfl rfl rfl ?_
  refine And.intro (g_len54 rfl rfl) (And.intro (decide_eq_false (by omega)) (And.intro (g_len54 rfl rfl) (And.intro (decide_eq_false (by omega)) (And.intro s93 (And.intro (by rw [decide_eq_true hl]; rfl) (And.intro s93 (And.intro (by rw [decide_eq_true hm]; rfl) (And.intro (g_len54 rfl rfl) (And.intro (g_len54 rfl rfl) (And.intro (bne_eq_false_iff_eq.2 (by omega)) (And.intro as_q0 (And.intro ⟨by kernel_rfl, rfl, ?_, ?_⟩ ?_))))))))))))
  · repeat refine And.intro (AsOk.refl _) ?_
    exact trivial
  · repeat refine And.intro (And.intro rfl (AsL.refl _)) ?_
    exact trivial
  rintro ⟨i, hi, _⟩
  refine And.intro (g_len54 rfl rfl) (And.intro (fun h => ?_) (fun h => ?_))
  · have h : ((i : Nat) : Int) < (l.length : Nat) := of_decide_eq_true h
    have e1 : IntKind.i64.wrap ((i : Int) + 1) = ((i + 1 : Nat) : Int) := by rw [w64 (by omega)]; omega
    have hq := alls_at hl (i := i) (by omega)
    have hq2 := alls_at hm (i := i) (by omega)
    refine And.intro (g_idx54 (i := i) rfl rfl rfl (by omega)) (And.intro (g_ld23 rfl rfl) (And.intro (s27' hq) (And.intro (g_idx54 (i := i) rfl rfl rfl (by omega)) (And.intro (g_ld23 rfl rfl) (And.intro (s27' hq2) (And.intro (s53 (isq_fit hq) (isq_fit hq2)) (And.intro (s52 ((dot_fit hl hm h3 i (by omega)).mono (by omega)) (((isq_fit2 hq).mul (isq_fit2 hq2)).mono (by decide))) (And.intro (as_i e1) ?_))))))))
    refine Exists.intro ⟨i + 1, by omega, fun _ _ => trivial⟩ (And.intro ⟨by kernel_rfl, rfl, ?_, ?_⟩ (by show l.length - (i + 1) < l.length - i; omega))
    · repeat refine And.intro (AsOk.refl _) ?_
      exact trivial
    · repeat refine And.intro (And.intro rfl (AsL.refl _)) ?_
      exact trivial
  · have h : ¬ ((i : Nat) : Int) < (l.length : Nat) := of_decide_eq_false h
    obtain rfl : i = l.length := by omega
    exact And.intro s44 (AsOk.refl _)
theorem sum_form (f : Rat → Rat → Rat) (z : Rat) (l : Lf) : ∃ a b e, sumT f z l = Re a b e := by
  unfold sumT
  split
  · exact ⟨_, _, _, rfl⟩
  · split
    · exact told_form _
    · exact ⟨_, _, _, rfl⟩
theorem dot_form (l m : Lf) : ∃ a b e, dotT l m = Re a b e := by
  unfold dotT
  split
  · exact ⟨_, _, _, rfl⟩
  · split
    · split
      · exact told_form _
      · exact ⟨_, _, _, rfl⟩
    · exact ⟨_, _, _, rfl⟩
/-- RatLists' walk. -/
theorem s9 : Spec Try.prog 9 [Lv l, Lv m] (B true) := by
  obtain ⟨a, b, e, hS⟩ := sum_form (fun x y => x + y) 0 l
  obtain ⟨c, d, f, hP⟩ := sum_form (fun x y => x * y) 1 l
  obtain ⟨g, h, k, hD⟩ := dot_form l m
  refine spec_exec (T := .res 11 (Re a b e) (.res 16 (Re a b e) (.op 21 (B (!((a == a) && (b == b)))) (.is 21 false (.is 25 false (.res 29 (Re c d f) (.res 34 (Re c d f) (.op 39 (B (!((c == c) && (d == d)))) (.is 39 false (.is 43 false
    (.res 48 (Re g h k) (.res 54 (Re g h k) (.op 59 (B ((g == g) && (h == h))) (.is 59 true (.is 63 true (.res 66 (B true) .done)))))))))))))))) Try.func9 rfl (by kernel_rfl) mixed rfl rfl rfl ?_
  exact And.intro (sto s36 hS) (And.intro (sto s37 hS) (And.intro (g_ne23 (p := a) (q := b) (r := a) (s := b) rfl rfl rfl) (And.intro same23 (And.intro (bne_self_eq_false e) (And.intro (sto s38 hP) (And.intro (sto s39 hP) (And.intro (g_ne23 (p := c) (q := d) (r := c) (s := d) rfl rfl rfl) (And.intro same23 (And.intro (bne_self_eq_false f)
    (And.intro (sto s40 hD) (And.intro (sto s41 hD) (And.intro (g_eq23 (p := g) (q := h) (r := g) (s := h) rfl rfl rfl) (And.intro beq_and (And.intro (beq_self_eq_true k) (And.intro s16 (AsOk.refl _))))))))))))))))
end
end Go.Proofs.Ythhgjloephkpaaa.Lx
