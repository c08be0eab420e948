/- Words and walks for the row RowRatArith, put together: LX18, WEqStruct, LX19, LXN, LX20, LX21, RZO. -/
import Derived.Test.YthhgjloephkpaaaAr22
import Derived.Test.YthhgjloephkpaaaWWords
import Derived.Laws.StructEq
import Derived.Test.YthhgjloephkpaaaProg
import Derived.Test.YthhgjloephkpaaaWSized
import Derived.WalkKit
import Derived.ProofKit
import Derived.OpenShut
import Derived.ChangeOld
import Derived.Below
import Derived.SizedLaws
import Derived.Lib.SmallJoins
import Derived.DataReads
namespace Go.Proofs.Ythhgjloephkpaaa.Lx
set_option linter.unusedVariables false
set_option linter.unusedSimpArgs false
open Go Go.RowKit Go.Proofs.Ythhgjloephkpaaa Go.Proofs.YthhgjloephkpaaaW.PrintWords Go.Proofs.YthhgjloephkpaaaW.PrintLast
set_option maxRecDepth 100000
/-- What lies in frozen blocks stays. -/
theorem cell_le {s t : Kst} {p : Addr} (h : Le s t) (hf : s.fz p.block) : t.w.cell? p = s.w.cell? p := by
  unfold World.cell?
  rw [(h.keep _ hf).2]
theorem addr_block (p : Addr) (j : Nat) : (p.add j).block = p.block := by unfold Addr.add; split <;> rfl
/-- A slice of fractions in a frozen block. -/
def Lr : Rel (List (Int × Int)) where
  n := 1
  R s cs l := ∃ A n c, cs = [.slice A n c] ∧ Rts s.w A n c l ∧ ∀ ad, 0 < n → A = some ad → s.fz ad.block
  up s t cs l h k := by
    obtain ⟨A, n, c, e, k, f⟩ := k
    refine ⟨A, n, c, e, ⟨k.1, k.2.1, k.2.2.1, fun h0 => ?_⟩, fun ad h0 ea => (h.keep _ (f ad h0 ea)).1⟩
    obtain ⟨ad, ea, hc⟩ := k.2.2.2 h0
    have hf := f ad h0 ea
    refine ⟨ad, ea, fun i hi => ?_⟩
    rw [cell_le h (by rw [addr_block]; exact hf), cell_le h (by rw [addr_block, addr_block]; exact hf)]
    exact hc i hi
  len s cs x k := by obtain ⟨A, n, c, rfl, _⟩ := k; rfl
  ok s cs x k v hv := by obtain ⟨A, n, c, rfl, _⟩ := k; simp at hv; subst hv; simp [Value.oneCell', noW]
/-- The address of a fraction in a frozen block. -/
def Br : Rel (Int × Int) where
  n := 1
  R s cs x := ∃ p, cs = [.pointer (some p)] ∧ s.fz p.block ∧ s.w.cell? p = some (.int .i64 x.1) ∧ s.w.cell? (p.add 1) = some (.int .i64 x.2)
  up s t cs x h k := by
    obtain ⟨p, e, f, k1, k2⟩ := k
    exact ⟨p, e, (h.keep _ f).1, by rw [cell_le h f]; exact k1, by rw [cell_le h (by rw [addr_block]; exact f)]; exact k2⟩
  len s cs x k := by obtain ⟨p, rfl, _⟩ := k; rfl
  ok s cs x k v hv := by obtain ⟨p, rfl, _⟩ := k; simp at hv; subst hv; simp [Value.oneCell', noW]
def Lv (l : List (Int × Int)) : TV := .u ⟨false, [.abs Lr l]⟩
def Bv (x : Int × Int) : TV := .u ⟨false, [.abs Br x]⟩
section
variable {γ : Nat → Nat} {s : Kst} {v : Value}
theorem lv {l : List (Int × Int)} (h : (Lv l).Rep γ s v) : ∃ A n c, v = .slice A n c ∧ Rts s.w A n c l ∧ ∀ ad, 0 < n → A = some ad → s.fz ad.block := by
  obtain ⟨h1, a, b, e, ⟨A, n, c, rfl, k⟩, k2⟩ := h
  rw [show b = [] from k2] at e
  exact ⟨A, n, c, by simpa using e, k⟩
theorem vl {A : Option Addr} {n c : Nat} {l : List (Int × Int)} (k : Rts s.w A n c l) (f : ∀ ad, 0 < n → A = some ad → s.fz ad.block) : (Lv l).Rep γ s (.slice A n c) :=
  ⟨rfl, [_], [], rfl, ⟨A, n, c, rfl, k, f⟩, rfl⟩
theorem vr {p q : Int} : (Rv p q).Rep γ s (.agg #[.int .i64 p, .int .i64 q]) := ⟨[_, _], rfl, [_], [_], rfl, ⟨rfl, rfl⟩, [_], [], rfl, ⟨rfl, rfl⟩, rfl⟩
end
section
variable {S : SS} {o : Oper} {l : List (Int × Int)}
theorem g_len54 {y : Operand} (ho : o.op = .call { callee := .builtin .len, args := #[y], argTypes := #[54] }) (hy : opT S y = some (Lv l)) : OpGives Try.prog S o (Iv (l.length : Nat)) := g_pure fun γ s a k => by
  obtain ⟨A, n, c, e, h, _⟩ := lv (k y (by rw [ho]; simp [Op.operands, Call.operands]) _ hy)
  exact ⟨_, run_len54 ho e, by rw [h.1]; exact vi⟩
theorem g_idx54 {y z : Operand} {i : Nat} (ho : o.op = .indexAddr 54 y z) (hy : opT S y = some (Lv l)) (hz : opT S z = some (Iv (i : Nat))) (hi : i < l.length) : OpGives Try.prog S o (Bv (l.getD i (0, 0))) := g_pure fun γ s a k => by
  obtain ⟨A, n, c, e, h, f⟩ := lv (k y (by rw [ho]; simp [Op.operands]) _ hy)
  have e2 := iv (k z (by rw [ho]; simp [Op.operands]) _ hz)
  have hn : i < n := by rw [← h.1]; exact hi
  obtain ⟨ad, rfl, hc⟩ := h.2.2.2 (by omega)
  exact ⟨_, run_idx54 ho e e2 hn, rfl, [_], [], rfl, ⟨_, rfl, by rw [addr_block]; exact f ad (by omega) rfl, (hc i hn).1, (hc i hn).2⟩, rfl⟩
theorem g_ld23 {y : Operand} {x : Int × Int} (ho : o.op = .load 23 y) (hy : opT S y = some (Bv x)) : OpGives Try.prog S o (Rv x.1 x.2) := g_pure fun γ s a k => by
  obtain ⟨h1, p, q, e, ⟨ad, rfl, f, hc1, hc2⟩, h2⟩ := k y (by rw [ho]; simp [Op.operands]) _ hy
  rw [show q = [] from h2] at e
  have e : a.eval y = .pointer (some ad) := by simpa using e
  exact ⟨_, run_load23 ho e ⟨hc1, hc2⟩, vr⟩
/-- A new block, frozen. -/
def Kst.frz (s : Kst) (o : Obj) : Kst := ⟨s.w.alloc o, fun g => s.fz g ∨ g = s.w.heap.size, fun g h => by rw [alloc_size]; rcases h with h | h; have := s.lt g h; omega; omega⟩
theorem Kst.le_frz (s : Kst) (o : Obj) : Le s (s.frz o) :=
  ⟨U.box _ _, fun g h => ⟨.inl h, Below.heap_alloc _ _ _ (s.lt g h)⟩, by show _ ≤ (s.w.alloc o).heap.size; rw [alloc_size]; omega, fun g h => h.elim .inl (fun e => .inr (by omega))⟩
theorem g_lit1 {y : Operand} {p q : Int} (ho : o.op = .buildSlice 54 1 #[(0, y)]) (hy : opT S y = some (Rv p q)) : OpGives Try.prog S o (Lv [(p, q)]) := fun γ s a k => by
  have e := rv (k y (by rw [ho]; simp [Op.operands]) _ hy)
  have hself : (s.w.alloc (.cells #[.int .i64 p, .int .i64 q] 23)).heap[s.w.heap.size]? = some (.cells #[.int .i64 p, .int .i64 q] 23 (0, 0)) := Array.getElem?_push_size
  refine ⟨_, s.frz (.cells #[.int .i64 p, .int .i64 q] 23), run_lit54_1 a.eval o s.w y p q ho e, s.le_frz _, (Below.refl _ _).alloc (Nat.le_refl _) _, vl (rts_one hself) fun ad _ e => ?_⟩
  injection e with e; subst e; exact .inr rfl
theorem g_lit2 {y z : Operand} {p q m n : Int} (ho : o.op = .buildSlice 54 2 #[(0, y), (1, z)]) (hy : opT S y = some (Rv p q)) (hz : opT S z = some (Rv m n)) : OpGives Try.prog S o (Lv [(p, q), (m, n)]) := fun γ s a k => by
  have e := rv (k y (by rw [ho]; simp [Op.operands]) _ hy)
  have e2 := rv (k z (by rw [ho]; simp [Op.operands]) _ hz)
  have hself : (s.w.alloc (.cells #[.int .i64 p, .int .i64 q, .int .i64 m, .int .i64 n] 23)).heap[s.w.heap.size]? = some (.cells #[.int .i64 p, .int .i64 q, .int .i64 m, .int .i64 n] 23 (0, 0)) := Array.getElem?_push_size
  refine ⟨_, s.frz (.cells #[.int .i64 p, .int .i64 q, .int .i64 m, .int .i64 n] 23), run_lit54 a.eval o s.w y z p q m n ho e e2, s.le_frz _, (Below.refl _ _).alloc (Nat.le_refl _) _, vl (rts_two hself) fun ad _ e => ?_⟩
  injection e with e; subst e; exact .inr rfl
end
theorem lv_len {l : List (Int × Int)} {P : Program} {f : FuncId} {r : TV} {fn : Func} (hf : P.funcs[f]? = some fn) (hname : (fn.name == "runtime.NumGoroutine") = false) (hb : fn.body.isSome = true)
    (h : l.length ≤ 4611686018427387903 → Spec P f [Lv l] r) : Spec P f [Lv l] r :=
  ⟨fun vs w => enters_ hf hname hb vs w, fun γ s vs ⟨x, y, e1, k1, k2⟩ => by
    obtain ⟨A, n, c, e, hr, _⟩ := lv k1
    exact (h (by rw [hr.1]; exact hr.2.2.1)).run γ s vs ⟨x, y, e1, k1, k2⟩⟩
/-- So many of a list are in their form. -/
structure GL (l : List (Int × Int)) where
  i : Nat
  hi : i ≤ l.length
  h : ∀ j, j < i → IsQ (l.getD j (0, 0)).1 (l.getD j (0, 0)).2
theorem isq_next {l : List (Int × Int)} {i : Nat} (h : ∀ j, j < i → IsQ (l.getD j (0, 0)).1 (l.getD j (0, 0)).2) (hy : IsQ (l.getD i (0, 0)).1 (l.getD i (0, 0)).2) : ∀ j, j < i + 1 → IsQ (l.getD j (0, 0)).1 (l.getD j (0, 0)).2 := fun j hj => by
  rcases Nat.lt_or_ge j i with h' | h'
  · exact h j h'
  · rw [show j = i from by omega]; exact hy
theorem alls_of {l : List (Int × Int)} (h : ∀ j, j < l.length → IsQ (l.getD j (0, 0)).1 (l.getD j (0, 0)).2) : Alls l := fun x hx => by
  obtain ⟨j, hj, e⟩ := List.getElem_of_mem hx
  have := h j hj
  rw [List.getD_eq_getElem?_getD, List.getElem?_eq_getElem hj, Option.getD_some, e] at this
  exact this
theorem alls_at {l : List (Int × Int)} {i : Nat} (h : Alls l) (hi : i < l.length) : IsQ (l.getD i (0, 0)).1 (l.getD i (0, 0)).2 := by
  rw [List.getD_eq_getElem?_getD, List.getElem?_eq_getElem hi, Option.getD_some]
  exact h _ (List.getElem_mem hi)
section
variable {l : List (Int × Int)} {p q m n : Int} {x y : Rat}
theorem s45 : Spec Try.prog 45 [Lv l] (Iv (errV (Alls l))) := by
  refine lv_len Try.func45 (by kernel_rfl) rfl fun hl => ?_
  let at_ (i : Nat) : Int × Int := l.getD i (0, 0)
  refine spec_exec (T := .op 7 (Iv (l.length : Nat)) (.loop (⟨0, Nat.zero_le _, fun _ h => by omega⟩ : GL l) (fun g => ⟨[(6, Lv l), (7, Iv (l.length : Nat)), (8, Iv (g.i : Nat))], [], 0, 18⟩) (fun g => l.length - g.i) fun g =>
    .split 9 (.op 10 (Bv (at_ g.i)) (.op 11 (Rv (at_ g.i).1 (at_ g.i).2) (.res 13 (Iv (errV (IsQ (at_ g.i).1 (at_ g.i).2))) (.split 15 .done (.as 17 (Iv ((g.i + 1 : Nat) : Int)) .done))))) .done)) Try.func45 rfl (by kernel_rfl) mixed rfl rfl rfl ?_
  refine And.intro (g_len54 rfl rfl) (And.intro ⟨by kernel_rfl, rfl, And.intro (AsOk.refl _) (And.intro (AsOk.refl _) (And.intro (AsOk.refl _) trivial)), trivial⟩ ?_)
  rintro ⟨i, hi, hj⟩
  refine And.intro (fun h => ?_) (fun h => ?_)
  · have h : ((i : Nat) : Int) < (l.length : Nat) := of_decide_eq_true h
    have e1 : IntKind.i64.wrap ((i : Int) + 1) = ((i + 1 : Nat) : Int) := by rw [w64 (by omega)]; omega
    refine And.intro (g_idx54 (i := i) rfl rfl rfl (by omega)) (And.intro (g_ld23 rfl rfl) (And.intro s14 (And.intro (fun h2 => ?_) (fun h2 => And.intro (as_i e1) ?_))))
    · have h2 : (errV (IsQ (at_ i).1 (at_ i).2) != 0) = true := h2
      have hn : ¬ IsQ (at_ i).1 (at_ i).2 := fun h => by rw [errV_t h] at h2; cases h2
      refine as_i ?_
      rw [errV_f hn, errV_f fun h => hn (alls_at h (by omega))]
    · have h2 : (errV (IsQ (at_ i).1 (at_ i).2) != 0) = false := h2
      have hy : IsQ (at_ i).1 (at_ i).2 := Classical.byContradiction fun h => by rw [errV_f h] at h2; cases h2
      exact Exists.intro ⟨i + 1, by omega, isq_next hj hy⟩
        (And.intro ⟨by kernel_rfl, rfl, And.intro (AsOk.refl _) (And.intro (AsOk.refl _) (And.intro (AsOk.refl _) trivial)), trivial⟩ (by show l.length - (i + 1) < l.length - i; omega))
  · have h : ¬ ((i : Nat) : Int) < (l.length : Nat) := of_decide_eq_false h
    exact as_i (errV_t (alls_of fun j h' => hj j (by omega))).symm
theorem s93 : Spec Try.prog 93 [Lv l] (B (decide (Alls l))) := by
  refine lv_len Try.func93 (by kernel_rfl) rfl fun hl => ?_
  let at_ (i : Nat) : Int × Int := l.getD i (0, 0)
  refine spec_exec (T := .loop (⟨0, Nat.zero_le _, fun _ h => by omega⟩ : GL l) (fun g => ⟨[(0, Lv l), (3, Iv (g.i : Nat))], [], 0, 16⟩) (fun g => l.length - g.i) fun g =>
    .op 6 (Iv (l.length : Nat)) (.split 7 (.op 12 (Bv (at_ g.i)) (.op 13 (Rv (at_ g.i).1 (at_ g.i).2) (.res 14 (B (decide (IsQ (at_ g.i).1 (at_ g.i).2))) (.split 15 .done (.as 9 (Iv ((g.i + 1 : Nat) : Int)) .done))))) .done)) Try.func93 rfl (by kernel_rfl) mixed rfl rfl rfl ?_
  refine And.intro ⟨by kernel_rfl, rfl, And.intro (AsOk.refl _) (And.intro (AsOk.refl _) trivial), trivial⟩ ?_
  rintro ⟨i, hi, hj⟩
  refine And.intro (g_len54 rfl rfl) (And.intro (fun h => ?_) (fun h => ?_))
  · have h : ((i : Nat) : Int) < (l.length : Nat) := of_decide_eq_true h
    have e1 : IntKind.i64.wrap ((i : Int) + 1) = ((i + 1 : Nat) : Int) := by rw [w64 (by omega)]; omega
    refine And.intro (g_idx54 (i := i) rfl rfl rfl (by omega)) (And.intro (g_ld23 rfl rfl) (And.intro s50 (And.intro (fun h2 => ?_) (fun h2 => And.intro (as_i e1) ?_))))
    · have h2 : (!decide (IsQ (at_ i).1 (at_ i).2)) = true := h2
      have hn : ¬ IsQ (at_ i).1 (at_ i).2 := by simpa using h2
      exact as_b (decide_eq_false fun h => hn (alls_at h (by omega))).symm
    · have h2 : (!decide (IsQ (at_ i).1 (at_ i).2)) = false := h2
      have hy : IsQ (at_ i).1 (at_ i).2 := by simpa using h2
      exact Exists.intro ⟨i + 1, by omega, isq_next hj hy⟩
        (And.intro ⟨by kernel_rfl, rfl, And.intro (AsOk.refl _) (And.intro (AsOk.refl _) trivial), trivial⟩ (by show l.length - (i + 1) < l.length - i; omega))
  · have h : ¬ ((i : Nat) : Int) < (l.length : Nat) := of_decide_eq_false h
    exact as_b (decide_eq_true (alls_of fun j h' => hj j (by omega))).symm
theorem s48 : Spec Try.prog 48 [Lv l] (Iv (errV (Alls l))) := by
  refine spec_exec (T := .res 4 (B (decide (Alls l))) (.split 5 .done .done)) Try.func48 rfl (by kernel_rfl) mixed rfl rfl rfl ?_
  refine And.intro s93 (And.intro (fun h => as_i (a := 1) ?_) (fun h => as_i (a := 0) ?_))
  · have h : (!decide (Alls l)) = true := h
    exact (errV_f (by simpa using h)).symm
  · have h : (!decide (Alls l)) = false := h
    exact (errV_t (by simpa using h)).symm
theorem s42 : Spec Try.prog 42 [Qo x] (toldT x) := by
  refine spec_exec (T := .res 8 (ratT x) (.split 11 .done .done)) Try.func42 rfl (by kernel_rfl) mixed rfl rfl rfl ?_
  refine And.intro s94 (And.intro (fun h => ?_) (fun h => ?_))
  · have h := of_decide_eq_true h
    show AsOk (Re _ _ _) (toldT x)
    unfold toldT
    rw [if_pos h, if_pos h, if_pos h]
    exact AsOk.refl _
  · have h := of_decide_eq_false h
    show AsOk (Re _ _ _) (toldT x)
    unfold toldT
    rw [if_neg h, if_neg h, if_neg h]
    exact AsOk.refl _
/-- A number of two ints, or what is wrong with them. -/
def makeT (n d : Int) : TV := if d = 0 then Re 0 0 1 else toldT (Rat.divInt n d)
abbrev In64 (z : Int) : Prop := -9223372036854775808 ≤ z ∧ z < 9223372036854775808
theorem s10 (h1 : In64 p) (h2 : In64 q) : Spec Try.prog 10 [Iv p, Iv q] (makeT p q) := by
  unfold makeT
  by_cases h : q = 0
  · rw [if_pos h]
    refine spec_exec (T := .is 7 true .done) Try.func10 rfl (by kernel_rfl) mixed rfl rfl rfl ?_
    exact And.intro (by subst h; rfl) (AsOk.refl _)
  · rw [if_neg h]
    refine spec_exec (T := .is 7 false (.res 11 (Qo (Rat.divInt p q)) (.res 12 (toldT (Rat.divInt p q)) .done))) Try.func10 rfl (by kernel_rfl) mixed rfl rfl rfl ?_
    exact And.intro (by simpa using h) (And.intro (s43 h1 h2 h) (And.intro s42 (AsOk.refl _)))
end
end Go.Proofs.Ythhgjloephkpaaa.Lx
namespace Go.Proofs.YthhgjloephkpaaaW.PrintWords
open Go.RowKit
section
variable {P : Program} {d : Nat} {xs ys : Array Value} {f : Field} {fs : List Field} {a b : Value} {r s : Bool} {w : World}
/-- The last field that counts. -/
theorem eqf_last (hn : (f.name == "_") = false) (ha : (part f.type xs f.offset).run P w = .ok a w) (hb : (part f.type ys f.offset).run P w = .ok b w) (he : (Op.equalIn d f.type a b).run P w = .ok r w) : (Op.eqFields d xs ys [f]).run P w = .ok r w := by
  have hn' : f.name ≠ "_" := by simpa using hn
  simp only [Op.eqFields, if_pos hn', Sem.run_bind, ha, hb, he, Result.andThen_ok]
  cases r <;> simp
theorem eqf_cons (hn : (f.name == "_") = false) (ha : (part f.type xs f.offset).run P w = .ok a w) (hb : (part f.type ys f.offset).run P w = .ok b w) (he : (Op.equalIn d f.type a b).run P w = .ok r w) (hr : (Op.eqFields d xs ys fs).run P w = .ok s w) : (Op.eqFields d xs ys (f :: fs)).run P w = .ok (r && s) w := by
  have hn' : f.name ≠ "_" := by simpa using hn
  rw [Op.eqFields]
  simp only [if_pos hn', Sem.run_bind, ha, hb, he, Result.andThen_ok]
  cases r
  · simp
  · simpa using hr
theorem eqA_of {t : TypeId} {fs : Array Field} (hu : P.underlying t = some (.struct fs)) (hp : P.stoodInHeld t = false) (h : (Op.eqFields d xs ys fs.toList).run P w = .ok r w) : (Op.equalIn (d + 1) t (.agg xs) (.agg ys)).run P w = .ok r w := by
  have hf : P.fieldsOf t = fs := by simp [Program.fieldsOf, hu]
  rw [run_equalIn_struct (P := P) w d t xs ys (by rw [hf]; exact hu) hp, hf]
  exact h
end
end Go.Proofs.YthhgjloephkpaaaW.PrintWords
namespace Go.Proofs.Ythhgjloephkpaaa.Lx
set_option linter.unusedVariables false
set_option linter.unusedSimpArgs false
open Go Go.RowKit Go.Proofs.Ythhgjloephkpaaa Go.Proofs.YthhgjloephkpaaaW.PrintWords Go.Proofs.YthhgjloephkpaaaW.PrintLast
set_option maxRecDepth 100000
section
variable {w : World}
theorem eq23 (p q r s : Int) : (Op.equal 23 (.agg #[.int .i64 p, .int .i64 q]) (.agg #[.int .i64 r, .int .i64 s])).run Try.prog w = .ok ((p == r) && (q == s)) w := by
  show (Op.equalIn (9999 + 1) 23 _ _).run Try.prog w = _
  refine eqA_of Try.underlying23 (by kernel_rfl) ?_
  refine eqf_cons (a := .int .i64 p) (b := .int .i64 r) (by rfl) (by rfl) (by rfl) (run_equalIn_int (P := Try.prog) w 9998 _ .i64 .i64 p r Try.underlying3) ?_
  exact eqf_last (a := .int .i64 q) (b := .int .i64 s) (by rfl) (by rfl) (by rfl) (run_equalIn_int (P := Try.prog) w 9998 _ .i64 .i64 q s Try.underlying3)
theorem bin_eql_23 (x y : Operand) (p q r s : Int) : (do eqGuard .eql 23 x y (.agg #[.int .i64 p, .int .i64 q]) (.agg #[.int .i64 r, .int .i64 s]); binOp .eql 23 (.agg #[.int .i64 p, .int .i64 q]) (.agg #[.int .i64 r, .int .i64 s]) : Sem Value).run Try.prog w = .ok (.bool ((p == r) && (q == s))) w := by
  simp [eqGuard, binOp, go_sem, eq23]
theorem bin_neq_23 (x y : Operand) (p q r s : Int) : (do eqGuard .neq 23 x y (.agg #[.int .i64 p, .int .i64 q]) (.agg #[.int .i64 r, .int .i64 s]); binOp .neq 23 (.agg #[.int .i64 p, .int .i64 q]) (.agg #[.int .i64 r, .int .i64 s]) : Sem Value).run Try.prog w = .ok (.bool (!((p == r) && (q == s)))) w := by
  simp [eqGuard, binOp, go_sem, eq23]
end
section
variable {S : SS} {o : Oper} {p q r s : Int}
theorem g_eq23 {x y : Operand} {u : TypeId} (ho : o.op = .binOp .eql 23 x y u) (hx : opT S x = some (Rv p q)) (hy : opT S y = some (Rv r s)) : OpGives Try.prog S o (B ((p == r) && (q == s))) := g_pure fun γ t c k => by
  have e1 := rv (k x (by rw [ho]; simp [Op.operands]) _ hx)
  have e2 := rv (k y (by rw [ho]; simp [Op.operands]) _ hy)
  exact ⟨_, run_bin _ _ _ ho e1 e2 (bin_eql_23 x y p q r s), vb⟩
theorem g_ne23 {x y : Operand} {u : TypeId} (ho : o.op = .binOp .neq 23 x y u) (hx : opT S x = some (Rv p q)) (hy : opT S y = some (Rv r s)) : OpGives Try.prog S o (B (!((p == r) && (q == s)))) := g_pure fun γ t c k => by
  have e1 := rv (k x (by rw [ho]; simp [Op.operands]) _ hx)
  have e2 := rv (k y (by rw [ho]; simp [Op.operands]) _ hy)
  exact ⟨_, run_bin _ _ _ ho e1 e2 (bin_neq_23 x y p q r s), vb⟩
end
theorem isq64 {p q : Int} (h : IsQ p q) : In64 p ∧ In64 q := ⟨⟨by have := h.2.2.1; omega, by have := h.2.2.2.1; omega⟩, by have := h.1; omega, by have := h.2.1; omega⟩
theorem isq_fit {p q : Int} (h : IsQ p q) : Q6 (Rat.divInt p q) := ⟨by rw [← (isq_num h).1]; exact fi (isq64 h).1, by rw [← (isq_num h).2]; exact fi (isq64 h).2⟩
section
variable {p q r s n d : Int}
/-- Two ints. -/
def Ii (a b : Int) : TV := .tup [⟨false, [.val (.int .i64 a)]⟩, ⟨false, [.val (.int .i64 b)]⟩]
theorem isq_ne {p q : Int} (h : IsQ p q) : q ≠ 0 := by have := h.1; omega
theorem floor_in {p q : Int} (h : IsQ p q) : -1000000000000 ≤ (Rat.divInt p q).floor ∧ (Rat.divInt p q).floor ≤ 1000000000000 := by
  obtain ⟨h1, h2⟩ := isq_num h
  rw [Rat.floor_def, ← h1, ← h2]
  have h3 : (p / q).natAbs ≤ p.natAbs := Int.natAbs_ediv_le_natAbs p q
  have h4 := h.2
  omega
/-- What the floor answers. -/
def floorT (p q : Int) : TV := if IsQ p q then Ii (Rat.divInt p q).floor 0 else Ii 0 1
theorem s51 : Spec Try.prog 51 [Rv p q] (floorT p q) := by
  unfold floorT
  by_cases h : IsQ p q
  · rw [if_pos h]
    have hf := floor_in h
    refine spec_exec (T := .op 8 (Lv [(p, q)]) (.res 9 (Iv (errV (Alls [(p, q)]))) (.as 9 (Iv 0) (.res 15 (Qo (Rat.divInt p q)) (.res 16 (Zv (Rat.divInt p q).floor) (.res 17 (Ib (Rat.divInt p q).floor true) .done)))))) Try.func51 rfl (by kernel_rfl) mixed rfl rfl rfl ?_
    refine And.intro (g_lit1 rfl rfl) (And.intro s45 (And.intro (as_i (errV_t (alls_one.2 h))) (And.intro (s46 (isq64 h).1 (isq64 h).2 (isq_num h).1 (isq_num h).2) (And.intro (s95 (isq_fit h)) (And.intro ((s83 (by decide) (by decide)).to ?_) (AsOk.refl _))))))
    rw [if_pos hf, decide_eq_true hf]
    exact AsOk.refl _
  · rw [if_neg h]
    refine spec_exec (T := .op 8 (Lv [(p, q)]) (.res 9 (Iv (errV (Alls [(p, q)]))) (.as 9 (Iv 1) .done))) Try.func51 rfl (by kernel_rfl) mixed rfl rfl rfl ?_
    exact And.intro (g_lit1 rfl rfl) (And.intro s45 (And.intro (as_i (errV_f fun k => h (alls_one.1 k))) (AsOk.refl _)))
end
end Go.Proofs.Ythhgjloephkpaaa.Lx
namespace Go.Proofs.Ythhgjloephkpaaa.Lx
set_option linter.unusedVariables false
set_option linter.unusedSimpArgs false
open Go Go.RowKit Go.Proofs.Ythhgjloephkpaaa Go.Proofs.YthhgjloephkpaaaW.PrintWords Go.Proofs.YthhgjloephkpaaaW.PrintLast
set_option maxRecDepth 100000
def q227 : Rat := ⟨22, 7, by decide, by decide⟩
structure G where
  n : Int
  d : Int
  p0 : Int
  q0 : Int
  p1 : Int
  q1 : Int
  h : (n = 22 ∧ d = 7 ∧ p0 = 0 ∧ q0 = 1 ∧ p1 = 1 ∧ q1 = 0) ∨ (n = 7 ∧ d = 1 ∧ p0 = 1 ∧ q0 = 0 ∧ p1 = 3 ∧ q1 = 1)
def inv (g : G) : SS := ⟨[(1, Iv 5), (4, Pv 1), (6, Pv 2), (7, Pv 3), (8, Pv 4), (9, Pv 5), (10, Pv 6), (11, Pv 7), (12, Pv 8)],
  [(1, 23, [.val (.int .i64 0), .val (.int .i64 0)]), (2, 62, [.abs Zr 22, .abs Zr 7]), (3, 60, [.abs Zr g.p0]), (4, 60, [.abs Zr g.q0]), (5, 60, [.abs Zr g.p1]), (6, 60, [.abs Zr g.q1]), (7, 60, [.abs Zr g.n]), (8, 60, [.abs Zr g.d])], 9, 128⟩
def t1 : Tr := .res 49 (Zv 3) (.res 53 (Zv 0) (.res 54 (Zv 1) (.res 57 (Zv 5) (.res 58 (Iv (cmpZ 1 5)) (.split 59 .done
  (.res 65 (Zv 3) (.res 66 (Zv 3) (.res 72 (Zv 21) (.res 73 (Zv 1) .done)))))))))
def t2 : Tr := .res 49 (Zv 7) (.res 53 (Zv 7) (.res 54 (Zv 7) (.res 57 (Zv 5) (.res 58 (Iv (cmpZ 7 5)) (.split 59
  (.res 76 (Zv 5) (.res 78 (Zv 5) (.res 80 (.tup [⟨true, [.abs Zr 5]⟩, ⟨true, [.abs Zr 0]⟩]) (.res 86 (Zv 15) (.res 87 (Zv 16) (.res 91 (Zv 5) (.res 92 (Zv 5) (.res 93 (Qo (Rat.divInt 16 5)) (.res 96 (Qo (Rat.divInt 3 1))
  ((.res 99 (Qo (Rat.divInt 16 5 - q227)) (.res 100 (Qo (Rat.divInt 16 5 - q227).abs) ((.res 103 (Qo (Rat.divInt 3 1 - q227)) (.res 104 (Qo (Rat.divInt 3 1 - q227).abs)
  (.res 105 (Iv (cmpR (Rat.divInt 16 5 - q227).abs (Rat.divInt 3 1 - q227).abs)) (.as 105 (Iv (-1)) (.res 121 (toldT (Rat.divInt 16 5)) .done))))))))))))))))))
  .done)))))
theorem fits {z : Int} {k : Nat} (h : -9223372036854775808 ≤ z ∧ z < 9223372036854775808) (hk : 2 ≤ k) : Fit k z := (Fit.int64 h.1 (by omega)).mono hk
theorem qfits {q : Rat} (h : -9223372036854775808 ≤ q.num ∧ q.num < 9223372036854775808) (h2 : (q.den : Int) < 9223372036854775808) : QFit 1000000 q := ⟨fits h (by decide), fits ⟨by omega, h2⟩ (by decide)⟩
theorem told165 : AsOk (toldT (Rat.divInt 16 5)) (Re 16 5 0) := by
  have hg : good (Rat.divInt 16 5) := ⟨by decide +kernel, by decide +kernel, by decide +kernel⟩
  unfold toldT
  rw [if_pos hg, if_pos hg, if_pos hg]
  exact AsOk.refl _
theorem cmpq : cmpR (Rat.divInt 16 5 - q227).abs (Rat.divInt 3 1 - q227).abs = -1 := by kernel_rfl
theorem spec29 : Spec Try.prog 29 [Rv 22 7, Iv 5] (Re 16 5 0) := by
  refine spec_exec (T := .res 21 (B (decide (IsQ 22 7))) (.is 21 true (.res 38 (Qo q227) (.res 39 (Zv 0) (.res 40 (Zv 1) (.res 41 (Zv 1) (.res 42 (Zv 0)
     (.loop ⟨22, 7, 0, 1, 1, 0, by simp⟩ inv (fun g => g.d.natAbs) fun g => if g.n = 22 then t1 else t2)))))))) Try.func29 rfl (by kernel_rfl) mixed rfl rfl rfl ?_
  refine And.intro s49 (And.intro (by decide) ?_)
  refine And.intro (s46 (by decide) (by decide) rfl rfl) ?_
  refine And.intro (s71 (by decide) (by decide)) (And.intro (s71 (by decide) (by decide)) (And.intro (s71 (by decide) (by decide)) (And.intro (s71 (by decide) (by decide)) ?_)))
  refine And.intro ⟨by kernel_rfl, rfl, ?_, ?_⟩ ?_
  · repeat refine And.intro (AsOk.refl _) ?_
    exact trivial
  · repeat refine And.intro (And.intro rfl (AsL.refl _)) ?_
    exact trivial
  rintro ⟨n, d, p0, q0, p1, q1, ⟨rfl, rfl, rfl, rfl, rfl, rfl⟩ | ⟨rfl, rfl, rfl, rfl, rfl, rfl⟩⟩
  · show exec _ _ t1 _ _
    refine And.intro (s72 (fits (by decide) (by decide)) (fits (by decide) (by decide)) (by decide)) ?_
    refine And.intro (s74 (fits (by decide) (by decide)) (fits (by decide) (by decide))) ?_
    refine And.intro (s73 (fits (by decide) (by decide)) (fits (by decide) (by decide))) ?_
    refine And.intro (s71 (by decide) (by decide)) ?_
    refine And.intro (s75 (fits (by decide) (by decide)) (fits (by decide) (by decide))) ?_
    refine And.intro (fun h => absurd h (by decide)) (fun _ => ?_)
    refine And.intro (s74 (fits (by decide) (by decide)) (fits (by decide) (by decide))) ?_
    refine And.intro (s73 (fits (by decide) (by decide)) (fits (by decide) (by decide))) ?_
    refine And.intro (s74 (fits (by decide) (by decide)) (fits (by decide) (by decide))) ?_
    refine And.intro (s76 (fits (by decide) (by decide)) (fits (by decide) (by decide))) ?_
    refine Exists.intro ⟨7, 1, 1, 0, 3, 1, by simp⟩ (And.intro ⟨by kernel_rfl, rfl, ?_, ?_⟩ (by decide))
    · repeat refine And.intro (AsOk.refl _) ?_
      exact trivial
    · repeat refine And.intro (And.intro rfl (AsL.refl _)) ?_
      exact trivial
  · show exec _ _ t2 _ _
    refine And.intro (s72 (fits (by decide) (by decide)) (fits (by decide) (by decide)) (by decide)) ?_
    refine And.intro (s74 (fits (by decide) (by decide)) (fits (by decide) (by decide))) ?_
    refine And.intro (s73 (fits (by decide) (by decide)) (fits (by decide) (by decide))) ?_
    refine And.intro (s71 (by decide) (by decide)) ?_
    refine And.intro (s75 (fits (by decide) (by decide)) (fits (by decide) (by decide))) ?_
    refine And.intro (fun _ => ?_) (fun h => absurd h (by decide))
    refine And.intro (s71 (by decide) (by decide)) ?_
    refine And.intro (s76 (fits (by decide) (by decide)) (fits (by decide) (by decide))) ?_
    refine And.intro (s77 (fits (by decide) (by decide)) (fits (by decide) (by decide)) (by decide)) ?_
    refine And.intro (s74 (fits (by decide) (by decide)) (fits (by decide) (by decide))) ?_
    refine And.intro (s73 (fits (by decide) (by decide)) (fits (by decide) (by decide))) ?_
    refine And.intro (s74 (fits (by decide) (by decide)) (fits (by decide) (by decide))) ?_
    refine And.intro (s73 (fits (by decide) (by decide)) (fits (by decide) (by decide))) ?_
    refine And.intro (s78 (fits (by decide) (by decide)) (fits (by decide) (by decide)) (by decide)) ?_
    refine And.intro (s78 (fits (by decide) (by decide)) (fits (by decide) (by decide)) (by decide)) ?_
    refine And.intro (s58 (p := Rat.divInt 16 5) (q := q227) (qfits (by decide +kernel) (by decide +kernel)) (qfits (by decide +kernel) (by decide +kernel))) ?_
    refine And.intro (s79 (qfits (by decide +kernel) (by decide +kernel))) ?_
    refine And.intro (s58 (p := Rat.divInt 3 1) (q := q227) (qfits (by decide +kernel) (by decide +kernel)) (qfits (by decide +kernel) (by decide +kernel))) ?_
    refine And.intro (s79 (qfits (by decide +kernel) (by decide +kernel))) ?_
    refine And.intro (s47 (qfits (by decide +kernel) (by decide +kernel)) (qfits (by decide +kernel) (by decide +kernel))) ?_
    refine And.intro (as_i cmpq) ?_
    refine And.intro s42 ?_
    exact told165
end Go.Proofs.Ythhgjloephkpaaa.Lx
namespace Go.Proofs.Ythhgjloephkpaaa.Lx
set_option linter.unusedVariables false
set_option linter.unusedSimpArgs false
open Go Go.RowKit Go.Proofs.Ythhgjloephkpaaa Go.Proofs.YthhgjloephkpaaaW.PrintWords Go.Proofs.YthhgjloephkpaaaW.PrintLast
set_option maxRecDepth 100000
theorem told_of {q : Rat} (h : good q) : toldT q = Re q.num q.den 0 := by unfold toldT; rw [if_pos h, if_pos h, if_pos h]
theorem beq_and {a b : Int} : ((a == a) && (b == b)) = true := by simp
theorem sto {P : Program} {f : FuncId} {args : List TV} {r r' : TV} (h : Spec P f args r) (e : r = r') : Spec P f args r' := e ▸ h
theorem s16 : Spec Try.prog 16 [] (B true) := by
  have hm : makeT (-6) 4 = Re (-3) 2 0 := by
    unfold makeT
    rw [if_neg (by decide), told_of ⟨by decide +kernel, by decide +kernel, by decide +kernel⟩]
    rfl
  have hf : floorT (-3) 2 = Ii (-2) 0 := by
    unfold floorT
    rw [if_pos (by decide)]
    rfl
  refine spec_exec (T := .res 8 (Re (-3) 2 0) (.res 13 (Ii (-2) 0) (.res 18 (Re 16 5 0) (.op 23 (B true) (.op 39 (B true) .done))))) Try.func16 rfl (by kernel_rfl) mixed rfl rfl rfl ?_
  exact And.intro (sto (s10 (by decide) (by decide)) hm) (And.intro (sto s51 hf) (And.intro spec29 (And.intro (g_eq23 (p := -3) (q := 2) (r := -3) (s := 2) rfl rfl rfl) (And.intro (g_eq23 (p := 16) (q := 5) (r := 16) (s := 5) rfl rfl rfl) (AsOk.refl _)))))
section
variable {p q r s n d : Int}
/-- What an operation on two numbers answers. -/
def binT (p q r s : Int) (c : Rat) : TV := if Alls [(p, q), (r, s)] then toldT c else Re 0 0 1
def Fv (f : FuncId) : TV := .u ⟨false, [.val (.func (.func f) #[] #[])]⟩
theorem told_form (c : Rat) : ∃ a b e, toldT c = Re a b e := ⟨_, _, _, rfl⟩
theorem bin_form (p q r s : Int) (c : Rat) : ∃ a b e, binT p q r s c = Re a b e := by
  unfold binT
  split
  · exact told_form c
  · exact ⟨_, _, _, rfl⟩
theorem s56 {f : FuncId} {c : Rat} (hf : IsQ p q → IsQ r s → Spec Try.prog f [Qo (Rat.divInt p q), Qo (Rat.divInt r s)] (Qo c)) : Spec Try.prog 56 [Rv p q, Rv r s, Fv f] (binT p q r s c) := by
  unfold binT
  by_cases h : Alls [(p, q), (r, s)]
  · rw [if_pos h]
    have hb := alls_two.1 h
    refine spec_exec (T := .op 11 (Lv [(p, q), (r, s)]) (.res 12 (Iv (errV (Alls [(p, q), (r, s)]))) (.as 12 (Iv 0) (.res 19 (Qo (Rat.divInt p q)) (.res 21 (Qo (Rat.divInt r s)) (.res 22 (Qo c) (.res 23 (toldT c) .done))))))) Try.func56 rfl (by kernel_rfl) mixed rfl rfl rfl ?_
    exact And.intro (g_lit2 rfl rfl rfl) (And.intro s45 (And.intro (as_i (errV_t h)) (And.intro (s46 (isq64 hb.1).1 (isq64 hb.1).2 (isq_num hb.1).1 (isq_num hb.1).2) (And.intro (s46 (isq64 hb.2).1 (isq64 hb.2).2 (isq_num hb.2).1 (isq_num hb.2).2) (And.intro (hf hb.1 hb.2) (And.intro s42 (AsOk.refl _)))))))
  · rw [if_neg h]
    refine spec_exec (T := .op 11 (Lv [(p, q), (r, s)]) (.res 12 (Iv (errV (Alls [(p, q), (r, s)]))) (.as 12 (Iv 1) .done))) Try.func56 rfl (by kernel_rfl) mixed rfl rfl rfl ?_
    exact And.intro (g_lit2 rfl rfl rfl) (And.intro s45 (And.intro (as_i (errV_f h)) (AsOk.refl _)))
theorem s19 : Spec Try.prog 19 [Rv p q, Rv r s] (binT p q r s (Rat.divInt p q + Rat.divInt r s)) := by
  obtain ⟨a, b, e, h⟩ := bin_form p q r s (Rat.divInt p q + Rat.divInt r s)
  rw [h]
  refine spec_exec (T := .res 8 (Re a b e) .done) Try.func19 rfl (by kernel_rfl) mixed rfl rfl rfl ?_
  exact And.intro (sto (s56 fun h1 h2 => s57 (isq_fit h1) (isq_fit h2)) h) (AsOk.refl _)
theorem s20 : Spec Try.prog 20 [Rv p q, Rv r s] (binT p q r s (Rat.divInt p q - Rat.divInt r s)) := by
  obtain ⟨a, b, e, h⟩ := bin_form p q r s (Rat.divInt p q - Rat.divInt r s)
  rw [h]
  refine spec_exec (T := .res 8 (Re a b e) .done) Try.func20 rfl (by kernel_rfl) mixed rfl rfl rfl ?_
  exact And.intro (sto (s56 fun h1 h2 => s58 (isq_fit h1) (isq_fit h2)) h) (AsOk.refl _)
theorem s21 : Spec Try.prog 21 [Rv p q, Rv r s] (binT p q r s (Rat.divInt p q * Rat.divInt r s)) := by
  obtain ⟨a, b, e, h⟩ := bin_form p q r s (Rat.divInt p q * Rat.divInt r s)
  rw [h]
  refine spec_exec (T := .res 8 (Re a b e) .done) Try.func21 rfl (by kernel_rfl) mixed rfl rfl rfl ?_
  exact And.intro (sto (s56 fun h1 h2 => s59 (isq_fit h1) (isq_fit h2)) h) (AsOk.refl _)
def divT (p q r s : Int) : TV := if Alls [(p, q), (r, s)] then (if r = 0 then Re 0 0 4 else toldT (Rat.divInt p q / Rat.divInt r s)) else Re 0 0 1
theorem div_form (p q r s : Int) : ∃ a b e, divT p q r s = Re a b e := by
  unfold divT
  split
  · split
    · exact ⟨_, _, _, rfl⟩
    · exact told_form _
  · exact ⟨_, _, _, rfl⟩
theorem isq_zero (h : IsQ r s) : r = 0 ↔ Rat.divInt r s = 0 := by
  rw [← Rat.num_eq_zero, ← (isq_num h).1]
theorem s22 : Spec Try.prog 22 [Rv p q, Rv r s] (divT p q r s) := by
  unfold divT
  by_cases h : Alls [(p, q), (r, s)]
  · rw [if_pos h]
    have hb := alls_two.1 h
    by_cases h0 : r = 0
    · rw [if_pos h0]
      refine spec_exec (T := .op 9 (Lv [(p, q), (r, s)]) (.res 10 (Iv (errV (Alls [(p, q), (r, s)]))) (.as 10 (Iv 0) (.is 17 true .done)))) Try.func22 rfl (by kernel_rfl) mixed rfl rfl rfl ?_
      exact And.intro (g_lit2 rfl rfl rfl) (And.intro s45 (And.intro (as_i (errV_t h)) (And.intro (by rw [h0]; rfl) (AsOk.refl _))))
    · rw [if_neg h0]
      refine spec_exec (T := .op 9 (Lv [(p, q), (r, s)]) (.res 10 (Iv (errV (Alls [(p, q), (r, s)]))) (.as 10 (Iv 0) (.is 17 false (.res 20 (Qo (Rat.divInt p q)) (.res 22 (Qo (Rat.divInt r s)) (.res 23 (Qo (Rat.divInt p q / Rat.divInt r s)) (.res 24 (toldT (Rat.divInt p q / Rat.divInt r s)) .done)))))))) Try.func22 rfl (by kernel_rfl) mixed rfl rfl rfl ?_
      exact And.intro (g_lit2 rfl rfl rfl) (And.intro s45 (And.intro (as_i (errV_t h)) (And.intro (by simpa using h0) (And.intro (s46 (isq64 hb.1).1 (isq64 hb.1).2 (isq_num hb.1).1 (isq_num hb.1).2) (And.intro (s46 (isq64 hb.2).1 (isq64 hb.2).2 (isq_num hb.2).1 (isq_num hb.2).2)
        (And.intro (s60 (isq_fit hb.1) (isq_fit hb.2) fun e => h0 ((isq_zero hb.2).2 e)) (And.intro s42 (AsOk.refl _))))))))
  · rw [if_neg h]
    refine spec_exec (T := .op 9 (Lv [(p, q), (r, s)]) (.res 10 (Iv (errV (Alls [(p, q), (r, s)]))) (.as 10 (Iv 1) .done))) Try.func22 rfl (by kernel_rfl) mixed rfl rfl rfl ?_
    exact And.intro (g_lit2 rfl rfl rfl) (And.intro s45 (And.intro (as_i (errV_f h)) (AsOk.refl _)))
/-- The kinds of operations: sum, difference, product, quotient. -/
def doT (k : Nat) (p q r s : Int) : TV := match k with
  | 0 => binT p q r s (Rat.divInt p q + Rat.divInt r s)
  | 1 => binT p q r s (Rat.divInt p q - Rat.divInt r s)
  | 2 => binT p q r s (Rat.divInt p q * Rat.divInt r s)
  | _ => divT p q r s
theorem do_form (k : Nat) (p q r s : Int) : ∃ a b e, doT k p q r s = Re a b e := by
  unfold doT
  split
  · exact bin_form _ _ _ _ _
  · exact bin_form _ _ _ _ _
  · exact bin_form _ _ _ _ _
  · exact div_form _ _ _ _
theorem s17 {k : Nat} (hk : k < 4) : Spec Try.prog 17 [Iv (k : Nat), Rv p q, Rv r s] (doT k p q r s) := by
  obtain ⟨a, b, e, h⟩ := do_form k p q r s
  rw [h]
  rcases (by omega : k = 0 ∨ k = 1 ∨ k = 2 ∨ k = 3) with rfl | rfl | rfl | rfl
  · refine spec_exec (T := .res 13 (Re a b e) .done) Try.func17 rfl (by kernel_rfl) mixed rfl rfl rfl ?_
    exact And.intro (sto s19 h) (AsOk.refl _)
  · refine spec_exec (T := .res 20 (Re a b e) .done) Try.func17 rfl (by kernel_rfl) mixed rfl rfl rfl ?_
    exact And.intro (sto s20 h) (AsOk.refl _)
  · refine spec_exec (T := .res 27 (Re a b e) .done) Try.func17 rfl (by kernel_rfl) mixed rfl rfl rfl ?_
    exact And.intro (sto s21 h) (AsOk.refl _)
  · refine spec_exec (T := .res 32 (Re a b e) .done) Try.func17 rfl (by kernel_rfl) mixed rfl rfl rfl ?_
    exact And.intro (sto s22 h) (AsOk.refl _)
theorem s18 {k : Nat} (hk : k < 4) : Spec Try.prog 18 [Iv (k : Nat), Rv p q, Rv r s] (doT k p q r s) := by
  by_cases h : Alls [(p, q), (r, s)]
  · have hb := alls_two.1 h
    let pre (t : Tr) : Tr := .op 13 (Lv [(p, q), (r, s)]) (.res 14 (Iv (errV (Alls [(p, q), (r, s)]))) (.as 14 (Iv 0) (.res 20 (Qs (Rat.divInt p q)) (.res 22 (Qs (Rat.divInt r s)) t))))
    rcases (by omega : k = 0 ∨ k = 1 ∨ k = 2 ∨ k = 3) with rfl | rfl | rfl | rfl
    · unfold doT binT
      simp only [if_pos h]
      refine spec_exec (T := pre (.res 28 (Qs (Rat.divInt p q + Rat.divInt r s)) (.res 29 (toldT (Rat.divInt p q + Rat.divInt r s)) .done))) Try.func18 rfl (by kernel_rfl) mixed rfl rfl rfl ?_
      exact And.intro (g_lit2 rfl rfl rfl) (And.intro s48 (And.intro (as_i (errV_t h)) (And.intro (s27 (isq64 hb.1).1 (isq64 hb.1).2 (isq_ne hb.1)) (And.intro (s27 (isq64 hb.2).1 (isq64 hb.2).2 (isq_ne hb.2)) (And.intro (s52 (isq_fit hb.1) (isq_fit hb.2)) (And.intro s44 (AsOk.refl _)))))))
    · unfold doT binT
      simp only [if_pos h]
      refine spec_exec (T := pre (.res 36 (Qs (Rat.divInt p q - Rat.divInt r s)) (.res 37 (toldT (Rat.divInt p q - Rat.divInt r s)) .done))) Try.func18 rfl (by kernel_rfl) mixed rfl rfl rfl ?_
      exact And.intro (g_lit2 rfl rfl rfl) (And.intro s48 (And.intro (as_i (errV_t h)) (And.intro (s27 (isq64 hb.1).1 (isq64 hb.1).2 (isq_ne hb.1)) (And.intro (s27 (isq64 hb.2).1 (isq64 hb.2).2 (isq_ne hb.2)) (And.intro (s30 (isq_fit hb.1) (isq_fit hb.2)) (And.intro s44 (AsOk.refl _)))))))
    · unfold doT binT
      simp only [if_pos h]
      refine spec_exec (T := pre (.res 44 (Qs (Rat.divInt p q * Rat.divInt r s)) (.res 45 (toldT (Rat.divInt p q * Rat.divInt r s)) .done))) Try.func18 rfl (by kernel_rfl) mixed rfl rfl rfl ?_
      exact And.intro (g_lit2 rfl rfl rfl) (And.intro s48 (And.intro (as_i (errV_t h)) (And.intro (s27 (isq64 hb.1).1 (isq64 hb.1).2 (isq_ne hb.1)) (And.intro (s27 (isq64 hb.2).1 (isq64 hb.2).2 (isq_ne hb.2)) (And.intro (s53 (isq_fit hb.1) (isq_fit hb.2)) (And.intro s44 (AsOk.refl _)))))))
    · unfold doT divT
      simp only [if_pos h]
      by_cases h0 : r = 0
      · rw [if_pos h0]
        refine spec_exec (T := pre (.res 49 (B (decide (Rat.divInt r s = 0))) (.is 49 true .done))) Try.func18 rfl (by kernel_rfl) mixed rfl rfl rfl ?_
        exact And.intro (g_lit2 rfl rfl rfl) (And.intro s48 (And.intro (as_i (errV_t h)) (And.intro (s27 (isq64 hb.1).1 (isq64 hb.1).2 (isq_ne hb.1)) (And.intro (s27 (isq64 hb.2).1 (isq64 hb.2).2 (isq_ne hb.2)) (And.intro s54 (And.intro (decide_eq_true ((isq_zero hb.2).1 h0)) (AsOk.refl _)))))))
      · rw [if_neg h0]
        refine spec_exec (T := pre (.res 49 (B (decide (Rat.divInt r s = 0))) (.is 49 false (.res 53 (Qs (Rat.divInt p q / Rat.divInt r s)) (.res 54 (toldT (Rat.divInt p q / Rat.divInt r s)) .done))))) Try.func18 rfl (by kernel_rfl) mixed rfl rfl rfl ?_
        have hn : Rat.divInt r s ≠ 0 := fun e => h0 ((isq_zero hb.2).2 e)
        exact And.intro (g_lit2 rfl rfl rfl) (And.intro s48 (And.intro (as_i (errV_t h)) (And.intro (s27 (isq64 hb.1).1 (isq64 hb.1).2 (isq_ne hb.1)) (And.intro (s27 (isq64 hb.2).1 (isq64 hb.2).2 (isq_ne hb.2)) (And.intro s54 (And.intro (decide_eq_false hn) (And.intro (s55 (isq_fit hb.1) (isq_fit hb.2) hn) (And.intro s44 (AsOk.refl _)))))))))
  · have e : doT k p q r s = Re 0 0 1 := by
      unfold doT binT divT
      split <;> exact if_neg h
    rw [e]
    refine spec_exec (T := .op 13 (Lv [(p, q), (r, s)]) (.res 14 (Iv (errV (Alls [(p, q), (r, s)]))) (.as 14 (Iv 1) .done))) Try.func18 rfl (by kernel_rfl) mixed rfl rfl rfl ?_
    exact And.intro (g_lit2 rfl rfl rfl) (And.intro s48 (And.intro (as_i (errV_f h)) (AsOk.refl _)))
structure GA where
  k : Nat
  hk : k ≤ 4
/-- RatArith's walk. -/
theorem s4 : Spec Try.prog 4 [Rv p q, Rv r s] (B true) := by
  have hf : ∀ k : Nat, ∃ x : Int × Int × Int, doT k p q r s = Re x.1 x.2.1 x.2.2 := fun k => by obtain ⟨a, b, e, h⟩ := do_form k p q r s; exact ⟨(a, b, e), h⟩
  obtain ⟨F, hF⟩ := Classical.axiomOfChoice hf
  refine spec_exec (T := .loop (⟨0, by decide⟩ : GA) (fun g => ⟨[(2, Pv 0), (3, Pv 1), (5, Iv (g.k : Nat))], [(0, 23, [.val (.int .i64 p), .val (.int .i64 q)]), (1, 23, [.val (.int .i64 r), .val (.int .i64 s)])], 2, 37⟩) (fun g => 4 - g.k) fun g =>
    .split 11 (.res 18 (Re (F g.k).1 (F g.k).2.1 (F g.k).2.2) (.res 25 (Re (F g.k).1 (F g.k).2.1 (F g.k).2.2) (.op 30 (B (!(((F g.k).1 == (F g.k).1) && ((F g.k).2.1 == (F g.k).2.1)))) (.is 30 false (.is 34 false (.as 13 (Iv ((g.k + 1 : Nat) : Int)) .done)))))) (.res 36 (B true) .done)) Try.func4 rfl (by kernel_rfl) mixed rfl rfl rfl ?_
  refine And.intro ⟨by kernel_rfl, rfl, And.intro (AsOk.refl _) (And.intro (AsOk.refl _) (And.intro (AsOk.refl _) trivial)), And.intro (And.intro rfl (AsL.refl _)) (And.intro (And.intro rfl (AsL.refl _)) trivial)⟩ ?_
  rintro ⟨k, hk⟩
  refine And.intro (fun h => ?_) (fun h => And.intro s16 (AsOk.refl _))
  have h : ((k : Nat) : Int) ≤ 3 := of_decide_eq_true h
  have e1 : IntKind.i64.wrap ((k : Int) + 1) = ((k + 1 : Nat) : Int) := by rw [w64 (by omega)]; omega
  refine And.intro (sto (s17 (k := k) (by omega)) (hF k)) (And.intro (sto (s18 (k := k) (by omega)) (hF k)) (And.intro (g_ne23 (p := (F k).1) (q := (F k).2.1) (r := (F k).1) (s := (F k).2.1) rfl rfl rfl) (And.intro (by rw [beq_and]; rfl) (And.intro (bne_self_eq_false (F k).2.2) (And.intro (as_i e1) ?_)))))
  exact Exists.intro ⟨k + 1, by omega⟩ (And.intro ⟨by kernel_rfl, rfl, And.intro (AsOk.refl _) (And.intro (AsOk.refl _) (And.intro (AsOk.refl _) trivial)), And.intro (And.intro rfl (AsL.refl _)) (And.intro (And.intro rfl (AsL.refl _)) trivial)⟩ (by show 4 - (k + 1) < 4 - k; omega))
end
end Go.Proofs.Ythhgjloephkpaaa.Lx
namespace Go.Proofs.Ythhgjloephkpaaa.Lx
set_option linter.unusedVariables false
set_option linter.unusedSimpArgs false
open Go Go.RowKit Go.Proofs.Ythhgjloephkpaaa Go.Proofs.YthhgjloephkpaaaW.PrintWords Go.Proofs.YthhgjloephkpaaaW.PrintLast
/-- A world whose blocks all are frozen. -/
def Kst.of (w : World) : Kst := ⟨w, fun g => g < w.heap.size, fun _ h => h⟩
theorem law_run {f : FuncId} {args : List TV} {vs : List Value} {w : World} (h : Spec Try.prog f args (B true)) (hr : RepAll (fun _ => 0) (Kst.of w) args vs) : Calls Try.prog f vs.toArray w (RetV w (.bool true)) :=
  (h.run (fun _ => 0) (Kst.of w) vs hr).mono fun e w' ⟨x, t, e1, e2, _, hb, hx⟩ => ⟨⟨x, e1, bv (hx fun _ => 0)⟩, hb⟩
theorem arith4 {p q r s : Int} {w : World} : Calls Try.prog 4 #[.agg #[.int .i64 p, .int .i64 q], .agg #[.int .i64 r, .int .i64 s]] w (RetV w (.bool true)) :=
  law_run (vs := [_, _]) (s4 (p := p) (q := q) (r := r) (s := s)) ⟨_, _, rfl, vr, _, _, rfl, vr, rfl⟩
end Go.Proofs.Ythhgjloephkpaaa.Lx
namespace Go.Proofs.Ythhgjloephkpaaa
set_option linter.unusedVariables false
open Go Go.RowKit Go.Proofs.YthhgjloephkpaaaW.PrintWords
section
variable {H : Type} {enc : TypeId × Value → H} {w : World}
set_option maxRecDepth 100000 in
theorem rat_arg {r : Reach} {b0 : Nat} {v : Value} {d : DataW H} {p : List MemPlace} (hv : Value.okWide Try.prog w r b0 23 v) (h : DataW.Trod enc Try.prog w 0 (fun _ => true) true 23 v d p) :
    ∃ m n, v = .agg #[.int .i64 m, .int .i64 n] := by
  obtain ⟨v0, v1, y0, y1, n, rfl, _, _, h0, h1⟩ := Go.Joins.open_agg2 Try.underlying23 (by kernel_rfl) (by kernel_rfl) hv h
  obtain ⟨k, e0, _, _⟩ := DataW.trod_int Try.underlying3 h0
  obtain ⟨l, e1, _, _⟩ := DataW.trod_int Try.underlying3 h1
  simp only [List.cons.injEq, and_true] at e0 e1
  subst e0 e1
  exact ⟨k, l, rfl⟩
end
end Go.Proofs.Ythhgjloephkpaaa
