/- Words and walks for the row RowRatSimplest, put together: LX18, WEqStruct, LX19, LXN, LX20, LX21, LXS, LX26, LX27, RZO. -/
import Derived.Test.YthhgjloephkpaaaSi23
import Derived.Test.YthhgjloephkpaaaWWords
import Derived.Laws.StructEq
import Derived.Test.YthhgjloephkpaaaProg
import Derived.Test.YthhgjloephkpaaaWSized
import Derived.WalkKit
import Derived.ProofKit
import Derived.OpenShut
import Derived.ChangeOld
import Derived.Below
import Derived.SizedLaws
import Derived.Lib.SmallJoins
import Derived.DataReads
namespace Go.Proofs.Ythhgjloephkpaaa.Lx
set_option linter.unusedVariables false
set_option linter.unusedSimpArgs false
open Go Go.RowKit Go.Proofs.Ythhgjloephkpaaa Go.Proofs.YthhgjloephkpaaaW.PrintWords Go.Proofs.YthhgjloephkpaaaW.PrintLast
set_option maxRecDepth 100000
/-- What lies in frozen blocks stays. -/
theorem cell_le {s t : Kst} {p : Addr} (h : Le s t) (hf : s.fz p.block) : t.w.cell? p = s.w.cell? p := by
  unfold World.cell?
  rw [(h.keep _ hf).2]
theorem addr_block (p : Addr) (j : Nat) : (p.add j).block = p.block := by unfold Addr.add; split <;> rfl
/-- A slice of fractions in a frozen block. -/
def Lr : Rel (List (Int × Int)) where
  n := 1
  R s cs l := ∃ A n c, cs = [.slice A n c] ∧ Rts s.w A n c l ∧ ∀ ad, 0 < n → A = some ad → s.fz ad.block
  up s t cs l h k := by
    obtain ⟨A, n, c, e, k, f⟩ := k
    refine ⟨A, n, c, e, ⟨k.1, k.2.1, k.2.2.1, fun h0 => ?_⟩, fun ad h0 ea => (h.keep _ (f ad h0 ea)).1⟩
    obtain ⟨ad, ea, hc⟩ := k.2.2.2 h0
    have hf := f ad h0 ea
    refine ⟨ad, ea, fun i hi => ?_⟩
    rw [cell_le h (by rw [addr_block]; exact hf), cell_le h (by rw [addr_block, addr_block]; exact hf)]
    exact hc i hi
  len s cs x k := by obtain ⟨A, n, c, rfl, _⟩ := k; rfl
  ok s cs x k v hv := by obtain ⟨A, n, c, rfl, _⟩ := k; simp at hv; subst hv; simp [Value.oneCell', noW]
/-- The address of a fraction in a frozen block. -/
def Br : Rel (Int × Int) where
  n := 1
  R s cs x := ∃ p, cs = [.pointer (some p)] ∧ s.fz p.block ∧ s.w.cell? p = some (.int .i64 x.1) ∧ s.w.cell? (p.add 1) = some (.int .i64 x.2)
  up s t cs x h k := by
    obtain ⟨p, e, f, k1, k2⟩ := k
    exact ⟨p, e, (h.keep _ f).1, by rw [cell_le h f]; exact k1, by rw [cell_le h (by rw [addr_block]; exact f)]; exact k2⟩
  len s cs x k := by obtain ⟨p, rfl, _⟩ := k; rfl
  ok s cs x k v hv := by obtain ⟨p, rfl, _⟩ := k; simp at hv; subst hv; simp [Value.oneCell', noW]
def Lv (l : List (Int × Int)) : TV := .u ⟨false, [.abs Lr l]⟩
def Bv (x : Int × Int) : TV := .u ⟨false, [.abs Br x]⟩
section
variable {γ : Nat → Nat} {s : Kst} {v : Value}
theorem lv {l : List (Int × Int)} (h : (Lv l).Rep γ s v) : ∃ A n c, v = .slice A n c ∧ Rts s.w A n c l ∧ ∀ ad, 0 < n → A = some ad → s.fz ad.block := by
  obtain ⟨h1, a, b, e, ⟨A, n, c, rfl, k⟩, k2⟩ := h
  rw [show b = [] from k2] at e
  exact ⟨A, n, c, by simpa using e, k⟩
theorem vl {A : Option Addr} {n c : Nat} {l : List (Int × Int)} (k : Rts s.w A n c l) (f : ∀ ad, 0 < n → A = some ad → s.fz ad.block) : (Lv l).Rep γ s (.slice A n c) :=
  ⟨rfl, [_], [], rfl, ⟨A, n, c, rfl, k, f⟩, rfl⟩
theorem vr {p q : Int} : (Rv p q).Rep γ s (.agg #[.int .i64 p, .int .i64 q]) := ⟨[_, _], rfl, [_], [_], rfl, ⟨rfl, rfl⟩, [_], [], rfl, ⟨rfl, rfl⟩, rfl⟩
end
section
variable {S : SS} {o : Oper} {l : List (Int × Int)}
theorem g_len54 {y : Operand} (ho : o.op = .call { callee := .builtin .len, args := #[y], argTypes := #[54] }) (hy : opT S y = some (Lv l)) : OpGives Try.prog S o (Iv (l.length : Nat)) := g_pure fun γ s a k => by
  obtain ⟨A, n, c, e, h, _⟩ := lv (k y (by rw [ho]; simp [Op.operands, Call.operands]) _ hy)
  exact ⟨_, run_len54 ho e, by rw [h.1]; exact vi⟩
theorem g_idx54 {y z : Operand} {i : Nat} (ho : o.op = .indexAddr 54 y z) (hy : opT S y = some (Lv l)) (hz : opT S z = some (Iv (i : Nat))) (hi : i < l.length) : OpGives Try.prog S o (Bv (l.getD i (0, 0))) := g_pure fun γ s a k => by
  obtain ⟨A, n, c, e, h, f⟩ := lv (k y (by rw [ho]; simp [Op.operands]) _ hy)
  have e2 := iv (k z (by rw [ho]; simp [Op.operands]) _ hz)
  have hn : i < n := by rw [← h.1]; exact hi
  obtain ⟨ad, rfl, hc⟩ := h.2.2.2 (by omega)
  exact ⟨_, run_idx54 ho e e2 hn, rfl, [_], [], rfl, ⟨_, rfl, by rw [addr_block]; exact f ad (by omega) rfl, (hc i hn).1, (hc i hn).2⟩, rfl⟩
theorem g_ld23 {y : Operand} {x : Int × Int} (ho : o.op = .load 23 y) (hy : opT S y = some (Bv x)) : OpGives Try.prog S o (Rv x.1 x.2) := g_pure fun γ s a k => by
  obtain ⟨h1, p, q, e, ⟨ad, rfl, f, hc1, hc2⟩, h2⟩ := k y (by rw [ho]; simp [Op.operands]) _ hy
  rw [show q = [] from h2] at e
  have e : a.eval y = .pointer (some ad) := by simpa using e
  exact ⟨_, run_load23 ho e ⟨hc1, hc2⟩, vr⟩
/-- A new block, frozen. -/
def Kst.frz (s : Kst) (o : Obj) : Kst := ⟨s.w.alloc o, fun g => s.fz g ∨ g = s.w.heap.size, fun g h => by rw [alloc_size]; rcases h with h | h; have := s.lt g h; omega; omega⟩
theorem Kst.le_frz (s : Kst) (o : Obj) : Le s (s.frz o) :=
  ⟨U.box _ _, fun g h => ⟨.inl h, Below.heap_alloc _ _ _ (s.lt g h)⟩, by show _ ≤ (s.w.alloc o).heap.size; rw [alloc_size]; omega, fun g h => h.elim .inl (fun e => .inr (by omega))⟩
theorem g_lit1 {y : Operand} {p q : Int} (ho : o.op = .buildSlice 54 1 #[(0, y)]) (hy : opT S y = some (Rv p q)) : OpGives Try.prog S o (Lv [(p, q)]) := fun γ s a k => by
  have e := rv (k y (by rw [ho]; simp [Op.operands]) _ hy)
  have hself : (s.w.alloc (.cells #[.int .i64 p, .int .i64 q] 23)).heap[s.w.heap.size]? = some (.cells #[.int .i64 p, .int .i64 q] 23 (0, 0)) := Array.getElem?_push_size
  refine ⟨_, s.frz (.cells #[.int .i64 p, .int .i64 q] 23), run_lit54_1 a.eval o s.w y p q ho e, s.le_frz _, (Below.refl _ _).alloc (Nat.le_refl _) _, vl (rts_one hself) fun ad _ e => ?_⟩
  injection e with e; subst e; exact .inr rfl
theorem g_lit2 {y z : Operand} {p q m n : Int} (ho : o.op = .buildSlice 54 2 #[(0, y), (1, z)]) (hy : opT S y = some (Rv p q)) (hz : opT S z = some (Rv m n)) : OpGives Try.prog S o (Lv [(p, q), (m, n)]) := fun γ s a k => by
  have e := rv (k y (by rw [ho]; simp [Op.operands]) _ hy)
  have e2 := rv (k z (by rw [ho]; simp [Op.operands]) _ hz)
  have hself : (s.w.alloc (.cells #[.int .i64 p, .int .i64 q, .int .i64 m, .int .i64 n] 23)).heap[s.w.heap.size]? = some (.cells #[.int .i64 p, .int .i64 q, .int .i64 m, .int .i64 n] 23 (0, 0)) := Array.getElem?_push_size
  refine ⟨_, s.frz (.cells #[.int .i64 p, .int .i64 q, .int .i64 m, .int .i64 n] 23), run_lit54 a.eval o s.w y z p q m n ho e e2, s.le_frz _, (Below.refl _ _).alloc (Nat.le_refl _) _, vl (rts_two hself) fun ad _ e => ?_⟩
  injection e with e; subst e; exact .inr rfl
end
theorem lv_len {l : List (Int × Int)} {P : Program} {f : FuncId} {r : TV} {fn : Func} (hf : P.funcs[f]? = some fn) (hname : (fn.name == "runtime.NumGoroutine") = false) (hb : fn.body.isSome = true)
    (h : l.length ≤ 4611686018427387903 → Spec P f [Lv l] r) : Spec P f [Lv l] r :=
  ⟨fun vs w => enters_ hf hname hb vs w, fun γ s vs ⟨x, y, e1, k1, k2⟩ => by
    obtain ⟨A, n, c, e, hr, _⟩ := lv k1
    exact (h (by rw [hr.1]; exact hr.2.2.1)).run γ s vs ⟨x, y, e1, k1, k2⟩⟩
/-- So many of a list are in their form. -/
structure GL (l : List (Int × Int)) where
  i : Nat
  hi : i ≤ l.length
  h : ∀ j, j < i → IsQ (l.getD j (0, 0)).1 (l.getD j (0, 0)).2
theorem isq_next {l : List (Int × Int)} {i : Nat} (h : ∀ j, j < i → IsQ (l.getD j (0, 0)).1 (l.getD j (0, 0)).2) (hy : IsQ (l.getD i (0, 0)).1 (l.getD i (0, 0)).2) : ∀ j, j < i + 1 → IsQ (l.getD j (0, 0)).1 (l.getD j (0, 0)).2 := fun j hj => by
  rcases Nat.lt_or_ge j i with h' | h'
  · exact h j h'
  · rw [show j = i from by omega]; exact hy
theorem alls_of {l : List (Int × Int)} (h : ∀ j, j < l.length → IsQ (l.getD j (0, 0)).1 (l.getD j (0, 0)).2) : Alls l := fun x hx => by
  obtain ⟨j, hj, e⟩ := List.getElem_of_mem hx
  have := h j hj
  rw [List.getD_eq_getElem?_getD, List.getElem?_eq_getElem hj, Option.getD_some, e] at this
  exact this
theorem alls_at {l : List (Int × Int)} {i : Nat} (h : Alls l) (hi : i < l.length) : IsQ (l.getD i (0, 0)).1 (l.getD i (0, 0)).2 := by
  rw [List.getD_eq_getElem?_getD, List.getElem?_eq_getElem hi, Option.getD_some]
  exact h _ (List.getElem_mem hi)
section
variable {l : List (Int × Int)} {p q m n : Int} {x y : Rat}
theorem s45 : Spec Try.prog 45 [Lv l] (Iv (errV (Alls l))) := by
  refine lv_len Try.func45 (by kernel_rfl) rfl fun hl => ?_
  let at_ (i : Nat) : Int × Int := l.getD i (0, 0)
  refine spec_exec (T := .op 7 (Iv (l.length : Nat)) (.loop (⟨0, Nat.zero_le _, fun _ h => by omega⟩ : GL l) (fun g => ⟨[(6, Lv l), (7, Iv (l.length : Nat)), (8, Iv (g.i : Nat))], [], 0, 18⟩) (fun g => l.length - g.i) fun g =>
    .split 9 (.op 10 (Bv (at_ g.i)) (.op 11 (Rv (at_ g.i).1 (at_ g.i).2) (.res 13 (Iv (errV (IsQ (at_ g.i).1 (at_ g.i).2))) (.split 15 .done (.as 17 (Iv ((g.i + 1 : Nat) : Int)) .done))))) .done)) Try.func45 rfl (by kernel_rfl) mixed rfl rfl rfl ?_
  refine And.intro (g_len54 rfl rfl) (And.intro ⟨by kernel_rfl, rfl, And.intro (AsOk.refl _) (And.intro (AsOk.refl _) (And.intro (AsOk.refl _) trivial)), trivial⟩ ?_)
  rintro ⟨i, hi, hj⟩
  refine And.intro (fun h => ?_) (fun h => ?_)
  · have h : ((i : Nat) : Int) < (l.length : Nat) := of_decide_eq_true h
    have e1 : IntKind.i64.wrap ((i : Int) + 1) = ((i + 1 : Nat) : Int) := by rw [w64 (by omega)]; omega
    refine And.intro (g_idx54 (i := i) rfl rfl rfl (by omega)) (And.intro (g_ld23 rfl rfl) (And.intro s14 (And.intro (fun h2 => ?_) (fun h2 => And.intro (as_i e1) ?_))))
    · have h2 : (errV (IsQ (at_ i).1 (at_ i).2) != 0) = true := h2
      have hn : ¬ IsQ (at_ i).1 (at_ i).2 := fun h => by rw [errV_t h] at h2; cases h2
      refine as_i ?_
      rw [errV_f hn, errV_f fun h => hn (alls_at h (by omega))]
    · have h2 : (errV (IsQ (at_ i).1 (at_ i).2) != 0) = false := h2
      have hy : IsQ (at_ i).1 (at_ i).2 := Classical.byContradiction fun h => by rw [errV_f h] at h2; cases h2
      exact Exists.intro ⟨i + 1, by omega, isq_next hj hy⟩
        (And.intro ⟨by kernel_rfl, rfl, And.intro (AsOk.refl _) (And.intro (AsOk.refl _) (And.intro (AsOk.refl _) trivial)), trivial⟩ (by show l.length - (i + 1) < l.length - i; omega))
  · have h : ¬ ((i : Nat) : Int) < (l.length : Nat) := of_decide_eq_false h
    exact as_i (errV_t (alls_of fun j h' => hj j (by omega))).symm
theorem s42 : Spec Try.prog 42 [Qo x] (toldT x) := by
  refine spec_exec (T := .res 8 (ratT x) (.split 11 .done .done)) Try.func42 rfl (by kernel_rfl) mixed rfl rfl rfl ?_
  refine And.intro s94 (And.intro (fun h => ?_) (fun h => ?_))
  · have h := of_decide_eq_true h
    show AsOk (Re _ _ _) (toldT x)
    unfold toldT
    rw [if_pos h, if_pos h, if_pos h]
    exact AsOk.refl _
  · have h := of_decide_eq_false h
    show AsOk (Re _ _ _) (toldT x)
    unfold toldT
    rw [if_neg h, if_neg h, if_neg h]
    exact AsOk.refl _
/-- A number of two ints, or what is wrong with them. -/
def makeT (n d : Int) : TV := if d = 0 then Re 0 0 1 else toldT (Rat.divInt n d)
abbrev In64 (z : Int) : Prop := -9223372036854775808 ≤ z ∧ z < 9223372036854775808
theorem s10 (h1 : In64 p) (h2 : In64 q) : Spec Try.prog 10 [Iv p, Iv q] (makeT p q) := by
  unfold makeT
  by_cases h : q = 0
  · rw [if_pos h]
    refine spec_exec (T := .is 7 true .done) Try.func10 rfl (by kernel_rfl) mixed rfl rfl rfl ?_
    exact And.intro (by subst h; rfl) (AsOk.refl _)
  · rw [if_neg h]
    refine spec_exec (T := .is 7 false (.res 11 (Qo (Rat.divInt p q)) (.res 12 (toldT (Rat.divInt p q)) .done))) Try.func10 rfl (by kernel_rfl) mixed rfl rfl rfl ?_
    exact And.intro (by simpa using h) (And.intro (s43 h1 h2 h) (And.intro s42 (AsOk.refl _)))
end
end Go.Proofs.Ythhgjloephkpaaa.Lx
namespace Go.Proofs.YthhgjloephkpaaaW.PrintWords
open Go.RowKit
section
variable {P : Program} {d : Nat} {xs ys : Array Value} {f : Field} {fs : List Field} {a b : Value} {r s : Bool} {w : World}
/-- The last field that counts. -/
theorem eqf_last (hn : (f.name == "_") = false) (ha : (part f.type xs f.offset).run P w = .ok a w) (hb : (part f.type ys f.offset).run P w = .ok b w) (he : (Op.equalIn d f.type a b).run P w = .ok r w) : (Op.eqFields d xs ys [f]).run P w = .ok r w := by
  have hn' : f.name ≠ "_" := by simpa using hn
  simp only [Op.eqFields, if_pos hn', Sem.run_bind, ha, hb, he, Result.andThen_ok]
  cases r <;> simp
theorem eqf_cons (hn : (f.name == "_") = false) (ha : (part f.type xs f.offset).run P w = .ok a w) (hb : (part f.type ys f.offset).run P w = .ok b w) (he : (Op.equalIn d f.type a b).run P w = .ok r w) (hr : (Op.eqFields d xs ys fs).run P w = .ok s w) : (Op.eqFields d xs ys (f :: fs)).run P w = .ok (r && s) w := by
  have hn' : f.name ≠ "_" := by simpa using hn
  rw [Op.eqFields]
  simp only [if_pos hn', Sem.run_bind, ha, hb, he, Result.andThen_ok]
  cases r
  · simp
  · simpa using hr
theorem eqA_of {t : TypeId} {fs : Array Field} (hu : P.underlying t = some (.struct fs)) (hp : P.stoodInHeld t = false) (h : (Op.eqFields d xs ys fs.toList).run P w = .ok r w) : (Op.equalIn (d + 1) t (.agg xs) (.agg ys)).run P w = .ok r w := by
  have hf : P.fieldsOf t = fs := by simp [Program.fieldsOf, hu]
  rw [run_equalIn_struct (P := P) w d t xs ys (by rw [hf]; exact hu) hp, hf]
  exact h
end
end Go.Proofs.YthhgjloephkpaaaW.PrintWords
namespace Go.Proofs.Ythhgjloephkpaaa.Lx
set_option linter.unusedVariables false
set_option linter.unusedSimpArgs false
open Go Go.RowKit Go.Proofs.Ythhgjloephkpaaa Go.Proofs.YthhgjloephkpaaaW.PrintWords Go.Proofs.YthhgjloephkpaaaW.PrintLast
set_option maxRecDepth 100000
section
variable {w : World}
theorem eq23 (p q r s : Int) : (Op.equal 23 (.agg #[.int .i64 p, .int .i64 q]) (.agg #[.int .i64 r, .int .i64 s])).run Try.prog w = .ok ((p == r) && (q == s)) w := by
  show (Op.equalIn (9999 + 1) 23 _ _).run Try.prog w = _
  refine eqA_of Try.underlying23 (by kernel_rfl) ?_
  refine eqf_cons (a := .int .i64 p) (b := .int .i64 r) (by rfl) (by rfl) (by rfl) (run_equalIn_int (P := Try.prog) w 9998 _ .i64 .i64 p r Try.underlying3) ?_
  exact eqf_last (a := .int .i64 q) (b := .int .i64 s) (by rfl) (by rfl) (by rfl) (run_equalIn_int (P := Try.prog) w 9998 _ .i64 .i64 q s Try.underlying3)
theorem bin_eql_23 (x y : Operand) (p q r s : Int) : (do eqGuard .eql 23 x y (.agg #[.int .i64 p, .int .i64 q]) (.agg #[.int .i64 r, .int .i64 s]); binOp .eql 23 (.agg #[.int .i64 p, .int .i64 q]) (.agg #[.int .i64 r, .int .i64 s]) : Sem Value).run Try.prog w = .ok (.bool ((p == r) && (q == s))) w := by
  simp [eqGuard, binOp, go_sem, eq23]
end
section
variable {S : SS} {o : Oper} {p q r s : Int}
theorem g_eq23 {x y : Operand} {u : TypeId} (ho : o.op = .binOp .eql 23 x y u) (hx : opT S x = some (Rv p q)) (hy : opT S y = some (Rv r s)) : OpGives Try.prog S o (B ((p == r) && (q == s))) := g_pure fun γ t c k => by
  have e1 := rv (k x (by rw [ho]; simp [Op.operands]) _ hx)
  have e2 := rv (k y (by rw [ho]; simp [Op.operands]) _ hy)
  exact ⟨_, run_bin _ _ _ ho e1 e2 (bin_eql_23 x y p q r s), vb⟩
end
theorem isq64 {p q : Int} (h : IsQ p q) : In64 p ∧ In64 q := ⟨⟨by have := h.2.2.1; omega, by have := h.2.2.2.1; omega⟩, by have := h.1; omega, by have := h.2.1; omega⟩
theorem isq_fit {p q : Int} (h : IsQ p q) : Q6 (Rat.divInt p q) := ⟨by rw [← (isq_num h).1]; exact fi (isq64 h).1, by rw [← (isq_num h).2]; exact fi (isq64 h).2⟩
section
variable {p q r s n d : Int}
/-- Two ints. -/
def Ii (a b : Int) : TV := .tup [⟨false, [.val (.int .i64 a)]⟩, ⟨false, [.val (.int .i64 b)]⟩]
theorem isq_ne {p q : Int} (h : IsQ p q) : q ≠ 0 := by have := h.1; omega
theorem floor_in {p q : Int} (h : IsQ p q) : -1000000000000 ≤ (Rat.divInt p q).floor ∧ (Rat.divInt p q).floor ≤ 1000000000000 := by
  obtain ⟨h1, h2⟩ := isq_num h
  rw [Rat.floor_def, ← h1, ← h2]
  have h3 : (p / q).natAbs ≤ p.natAbs := Int.natAbs_ediv_le_natAbs p q
  have h4 := h.2
  omega
/-- What the floor answers. -/
def floorT (p q : Int) : TV := if IsQ p q then Ii (Rat.divInt p q).floor 0 else Ii 0 1
theorem s51 : Spec Try.prog 51 [Rv p q] (floorT p q) := by
  unfold floorT
  by_cases h : IsQ p q
  · rw [if_pos h]
    have hf := floor_in h
    refine spec_exec (T := .op 8 (Lv [(p, q)]) (.res 9 (Iv (errV (Alls [(p, q)]))) (.as 9 (Iv 0) (.res 15 (Qo (Rat.divInt p q)) (.res 16 (Zv (Rat.divInt p q).floor) (.res 17 (Ib (Rat.divInt p q).floor true) .done)))))) Try.func51 rfl (by kernel_rfl) mixed rfl rfl rfl ?_
    refine And.intro (g_lit1 rfl rfl) (And.intro s45 (And.intro (as_i (errV_t (alls_one.2 h))) (And.intro (s46 (isq64 h).1 (isq64 h).2 (isq_num h).1 (isq_num h).2) (And.intro (s95 (isq_fit h)) (And.intro ((s83 (by decide) (by decide)).to ?_) (AsOk.refl _))))))
    rw [if_pos hf, decide_eq_true hf]
    exact AsOk.refl _
  · rw [if_neg h]
    refine spec_exec (T := .op 8 (Lv [(p, q)]) (.res 9 (Iv (errV (Alls [(p, q)]))) (.as 9 (Iv 1) .done))) Try.func51 rfl (by kernel_rfl) mixed rfl rfl rfl ?_
    exact And.intro (g_lit1 rfl rfl) (And.intro s45 (And.intro (as_i (errV_f fun k => h (alls_one.1 k))) (AsOk.refl _)))
end
end Go.Proofs.Ythhgjloephkpaaa.Lx
namespace Go.Proofs.Ythhgjloephkpaaa.Lx
set_option linter.unusedVariables false
set_option linter.unusedSimpArgs false
open Go Go.RowKit Go.Proofs.Ythhgjloephkpaaa Go.Proofs.YthhgjloephkpaaaW.PrintWords Go.Proofs.YthhgjloephkpaaaW.PrintLast
set_option maxRecDepth 100000
def q227 : Rat := ⟨22, 7, by decide, by decide⟩
structure G where
  n : Int
  d : Int
  p0 : Int
  q0 : Int
  p1 : Int
  q1 : Int
  h : (n = 22 ∧ d = 7 ∧ p0 = 0 ∧ q0 = 1 ∧ p1 = 1 ∧ q1 = 0) ∨ (n = 7 ∧ d = 1 ∧ p0 = 1 ∧ q0 = 0 ∧ p1 = 3 ∧ q1 = 1)
def inv (g : G) : SS := ⟨[(1, Iv 5), (4, Pv 1), (6, Pv 2), (7, Pv 3), (8, Pv 4), (9, Pv 5), (10, Pv 6), (11, Pv 7), (12, Pv 8)],
  [(1, 23, [.val (.int .i64 0), .val (.int .i64 0)]), (2, 62, [.abs Zr 22, .abs Zr 7]), (3, 60, [.abs Zr g.p0]), (4, 60, [.abs Zr g.q0]), (5, 60, [.abs Zr g.p1]), (6, 60, [.abs Zr g.q1]), (7, 60, [.abs Zr g.n]), (8, 60, [.abs Zr g.d])], 9, 128⟩
def t1 : Tr := .res 49 (Zv 3) (.res 53 (Zv 0) (.res 54 (Zv 1) (.res 57 (Zv 5) (.res 58 (Iv (cmpZ 1 5)) (.split 59 .done
  (.res 65 (Zv 3) (.res 66 (Zv 3) (.res 72 (Zv 21) (.res 73 (Zv 1) .done)))))))))
def t2 : Tr := .res 49 (Zv 7) (.res 53 (Zv 7) (.res 54 (Zv 7) (.res 57 (Zv 5) (.res 58 (Iv (cmpZ 7 5)) (.split 59
  (.res 76 (Zv 5) (.res 78 (Zv 5) (.res 80 (.tup [⟨true, [.abs Zr 5]⟩, ⟨true, [.abs Zr 0]⟩]) (.res 86 (Zv 15) (.res 87 (Zv 16) (.res 91 (Zv 5) (.res 92 (Zv 5) (.res 93 (Qo (Rat.divInt 16 5)) (.res 96 (Qo (Rat.divInt 3 1))
  ((.res 99 (Qo (Rat.divInt 16 5 - q227)) (.res 100 (Qo (Rat.divInt 16 5 - q227).abs) ((.res 103 (Qo (Rat.divInt 3 1 - q227)) (.res 104 (Qo (Rat.divInt 3 1 - q227).abs)
  (.res 105 (Iv (cmpR (Rat.divInt 16 5 - q227).abs (Rat.divInt 3 1 - q227).abs)) (.as 105 (Iv (-1)) (.res 121 (toldT (Rat.divInt 16 5)) .done))))))))))))))))))
  .done)))))
theorem fits {z : Int} {k : Nat} (h : -9223372036854775808 ≤ z ∧ z < 9223372036854775808) (hk : 2 ≤ k) : Fit k z := (Fit.int64 h.1 (by omega)).mono hk
theorem qfits {q : Rat} (h : -9223372036854775808 ≤ q.num ∧ q.num < 9223372036854775808) (h2 : (q.den : Int) < 9223372036854775808) : QFit 1000000 q := ⟨fits h (by decide), fits ⟨by omega, h2⟩ (by decide)⟩
theorem told165 : AsOk (toldT (Rat.divInt 16 5)) (Re 16 5 0) := by
  have hg : good (Rat.divInt 16 5) := ⟨by decide +kernel, by decide +kernel, by decide +kernel⟩
  unfold toldT
  rw [if_pos hg, if_pos hg, if_pos hg]
  exact AsOk.refl _
theorem cmpq : cmpR (Rat.divInt 16 5 - q227).abs (Rat.divInt 3 1 - q227).abs = -1 := by kernel_rfl
theorem spec29 : Spec Try.prog 29 [Rv 22 7, Iv 5] (Re 16 5 0) := by
  refine spec_exec (T := .res 21 (B (decide (IsQ 22 7))) (.is 21 true (.res 38 (Qo q227) (.res 39 (Zv 0) (.res 40 (Zv 1) (.res 41 (Zv 1) (.res 42 (Zv 0)
     (.loop ⟨22, 7, 0, 1, 1, 0, by simp⟩ inv (fun g => g.d.natAbs) fun g => if g.n = 22 then t1 else t2)))))))) Try.func29 rfl (by kernel_rfl) mixed rfl rfl rfl ?_
  refine And.intro s49 (And.intro (by decide) ?_)
  refine And.intro (s46 (by decide) (by decide) rfl rfl) ?_
  refine And.intro (s71 (by decide) (by decide)) (And.intro (s71 (by decide) (by decide)) (And.intro (s71 (by decide) (by decide)) (And.intro (s71 (by decide) (by decide)) ?_)))
  refine And.intro ⟨by kernel_rfl, rfl, ?_, ?_⟩ ?_
  · repeat refine And.intro (AsOk.refl _) ?_
    exact trivial
  · repeat refine And.intro (And.intro rfl (AsL.refl _)) ?_
    exact trivial
  rintro ⟨n, d, p0, q0, p1, q1, ⟨rfl, rfl, rfl, rfl, rfl, rfl⟩ | ⟨rfl, rfl, rfl, rfl, rfl, rfl⟩⟩
  · show exec _ _ t1 _ _
    refine And.intro (s72 (fits (by decide) (by decide)) (fits (by decide) (by decide)) (by decide)) ?_
    refine And.intro (s74 (fits (by decide) (by decide)) (fits (by decide) (by decide))) ?_
    refine And.intro (s73 (fits (by decide) (by decide)) (fits (by decide) (by decide))) ?_
    refine And.intro (s71 (by decide) (by decide)) ?_
    refine And.intro (s75 (fits (by decide) (by decide)) (fits (by decide) (by decide))) ?_
    refine And.intro (fun h => absurd h (by decide)) (fun _ => ?_)
    refine And.intro (s74 (fits (by decide) (by decide)) (fits (by decide) (by decide))) ?_
    refine And.intro (s73 (fits (by decide) (by decide)) (fits (by decide) (by decide))) ?_
    refine And.intro (s74 (fits (by decide) (by decide)) (fits (by decide) (by decide))) ?_
    refine And.intro (s76 (fits (by decide) (by decide)) (fits (by decide) (by decide))) ?_
    refine Exists.intro ⟨7, 1, 1, 0, 3, 1, by simp⟩ (And.intro ⟨by kernel_rfl, rfl, ?_, ?_⟩ (by decide))
    · repeat refine And.intro (AsOk.refl _) ?_
      exact trivial
    · repeat refine And.intro (And.intro rfl (AsL.refl _)) ?_
      exact trivial
  · show exec _ _ t2 _ _
    refine And.intro (s72 (fits (by decide) (by decide)) (fits (by decide) (by decide)) (by decide)) ?_
    refine And.intro (s74 (fits (by decide) (by decide)) (fits (by decide) (by decide))) ?_
    refine And.intro (s73 (fits (by decide) (by decide)) (fits (by decide) (by decide))) ?_
    refine And.intro (s71 (by decide) (by decide)) ?_
    refine And.intro (s75 (fits (by decide) (by decide)) (fits (by decide) (by decide))) ?_
    refine And.intro (fun _ => ?_) (fun h => absurd h (by decide))
    refine And.intro (s71 (by decide) (by decide)) ?_
    refine And.intro (s76 (fits (by decide) (by decide)) (fits (by decide) (by decide))) ?_
    refine And.intro (s77 (fits (by decide) (by decide)) (fits (by decide) (by decide)) (by decide)) ?_
    refine And.intro (s74 (fits (by decide) (by decide)) (fits (by decide) (by decide))) ?_
    refine And.intro (s73 (fits (by decide) (by decide)) (fits (by decide) (by decide))) ?_
    refine And.intro (s74 (fits (by decide) (by decide)) (fits (by decide) (by decide))) ?_
    refine And.intro (s73 (fits (by decide) (by decide)) (fits (by decide) (by decide))) ?_
    refine And.intro (s78 (fits (by decide) (by decide)) (fits (by decide) (by decide)) (by decide)) ?_
    refine And.intro (s78 (fits (by decide) (by decide)) (fits (by decide) (by decide)) (by decide)) ?_
    refine And.intro (s58 (p := Rat.divInt 16 5) (q := q227) (qfits (by decide +kernel) (by decide +kernel)) (qfits (by decide +kernel) (by decide +kernel))) ?_
    refine And.intro (s79 (qfits (by decide +kernel) (by decide +kernel))) ?_
    refine And.intro (s58 (p := Rat.divInt 3 1) (q := q227) (qfits (by decide +kernel) (by decide +kernel)) (qfits (by decide +kernel) (by decide +kernel))) ?_
    refine And.intro (s79 (qfits (by decide +kernel) (by decide +kernel))) ?_
    refine And.intro (s47 (qfits (by decide +kernel) (by decide +kernel)) (qfits (by decide +kernel) (by decide +kernel))) ?_
    refine And.intro (as_i cmpq) ?_
    refine And.intro s42 ?_
    exact told165
end Go.Proofs.Ythhgjloephkpaaa.Lx
namespace Go.Proofs.Ythhgjloephkpaaa.Lx
set_option linter.unusedVariables false
set_option linter.unusedSimpArgs false
open Go Go.RowKit Go.Proofs.Ythhgjloephkpaaa Go.Proofs.YthhgjloephkpaaaW.PrintWords Go.Proofs.YthhgjloephkpaaaW.PrintLast
set_option maxRecDepth 100000
theorem told_of {q : Rat} (h : good q) : toldT q = Re q.num q.den 0 := by unfold toldT; rw [if_pos h, if_pos h, if_pos h]
theorem beq_and {a b : Int} : ((a == a) && (b == b)) = true := by simp
theorem sto {P : Program} {f : FuncId} {args : List TV} {r r' : TV} (h : Spec P f args r) (e : r = r') : Spec P f args r' := e ▸ h
theorem s16 : Spec Try.prog 16 [] (B true) := by
  have hm : makeT (-6) 4 = Re (-3) 2 0 := by
    unfold makeT
    rw [if_neg (by decide), told_of ⟨by decide +kernel, by decide +kernel, by decide +kernel⟩]
    rfl
  have hf : floorT (-3) 2 = Ii (-2) 0 := by
    unfold floorT
    rw [if_pos (by decide)]
    rfl
  refine spec_exec (T := .res 8 (Re (-3) 2 0) (.res 13 (Ii (-2) 0) (.res 18 (Re 16 5 0) (.op 23 (B true) (.op 39 (B true) .done))))) Try.func16 rfl (by kernel_rfl) mixed rfl rfl rfl ?_
  exact And.intro (sto (s10 (by decide) (by decide)) hm) (And.intro (sto s51 hf) (And.intro spec29 (And.intro (g_eq23 (p := -3) (q := 2) (r := -3) (s := 2) rfl rfl rfl) (And.intro (g_eq23 (p := 16) (q := 5) (r := 16) (s := 5) rfl rfl rfl) (AsOk.refl _)))))
section
variable {p q r s n d : Int}
theorem told_form (c : Rat) : ∃ a b e, toldT c = Re a b e := ⟨_, _, _, rfl⟩
end
end Go.Proofs.Ythhgjloephkpaaa.Lx
namespace Go.Proofs.Ythhgjloephkpaaa.Lx
set_option linter.unusedVariables false
set_option linter.unusedSimpArgs false
open Go Go.RowKit Go.Proofs.Ythhgjloephkpaaa Go.Proofs.YthhgjloephkpaaaW.PrintWords Go.Proofs.YthhgjloephkpaaaW.PrintLast
/-- A world whose blocks all are frozen. -/
def Kst.of (w : World) : Kst := ⟨w, fun g => g < w.heap.size, fun _ h => h⟩
theorem law_run {f : FuncId} {args : List TV} {vs : List Value} {w : World} (h : Spec Try.prog f args (B true)) (hr : RepAll (fun _ => 0) (Kst.of w) args vs) : Calls Try.prog f vs.toArray w (RetV w (.bool true)) :=
  (h.run (fun _ => 0) (Kst.of w) vs hr).mono fun e w' ⟨x, t, e1, e2, _, hb, hx⟩ => ⟨⟨x, e1, bv (hx fun _ => 0)⟩, hb⟩
end Go.Proofs.Ythhgjloephkpaaa.Lx
namespace Go.Proofs.Ythhgjloephkpaaa.Lx
set_option linter.unusedVariables false
set_option linter.unusedSimpArgs false
open Go Go.RowKit Go.Proofs.Ythhgjloephkpaaa Go.Proofs.YthhgjloephkpaaaW.PrintWords Go.Proofs.YthhgjloephkpaaaW.PrintLast
/-- Numerator and denominator of a number less an integer, and of 1 by what is above 0. -/
theorem gcd_shift (n f d : Int) : Int.gcd (n + f * d) d = Int.gcd n d := by
  first | exact Int.gcd_add_mul_right_left .. | simp
theorem nd_unique {n d : Int} (hd : 0 < d) (h : Int.gcd n d = 1) : (Rat.divInt n d).num = n ∧ ((Rat.divInt n d).den : Int) = d := ⟨over_num_one hd h, over_den_one hd h⟩
theorem add_int (b : Rat) (f : Int) : (b + f).num = b.num + f * b.den ∧ (b + f).den = b.den := by
  have h := add_over b (f : Rat)
  rw [Rat.num_intCast, Rat.den_intCast, Int.ofNat_one, Int.mul_one, Int.mul_one] at h
  have hg : Int.gcd (b.num + f * b.den) b.den = 1 := by rw [gcd_shift]; exact b.reduced
  obtain ⟨h1, h2⟩ := nd_unique (den_pos b) hg
  rw [h] at h1 h2
  exact ⟨h1, by omega⟩
theorem one_div {b : Rat} (h : 0 < b.num) : (1 / b).num = b.den ∧ ((1 / b).den : Int) = b.num := by
  have h1 := div_over 1 b
  rw [show (1 : Rat).num = 1 from rfl, show (((1 : Rat).den : Nat) : Int) = 1 from rfl, Int.one_mul, Int.one_mul] at h1
  have hg : Int.gcd (b.den : Int) b.num = 1 := by rw [Int.gcd_comm]; exact b.reduced
  obtain ⟨h2, h3⟩ := nd_unique h hg
  rw [h1] at h2 h3
  exact ⟨h2, h3⟩
theorem num_pos {a : Rat} : 0 < a ↔ 0 < a.num := by rw [Rat.lt_iff]; simp
theorem rlt_le {a b c : Rat} (h : a < b) (k : b ≤ c) : a < c := Rat.not_le.1 fun h' => Rat.not_le.2 h (Rat.le_trans k h')
theorem lt_int {a : Rat} {z : Int} : a < (z : Rat) ↔ a.num < z * a.den := by rw [Rat.lt_iff, Rat.num_intCast, Rat.den_intCast]; simp
/-- What is behind the integer below, turned over. -/
theorem behind {b : Rat} {f : Int} (h : (f : Rat) < b) : 0 < b.num - f * b.den ∧ (1 / (b - f)).num = b.den ∧ ((1 / (b - f)).den : Int) = b.num - f * b.den ∧ (b - f).num = b.num - f * b.den ∧ (b - f).den = b.den := by
  have e : b - (f : Rat) = b + ((-f : Int) : Rat) := by rw [Rat.intCast_neg, Rat.sub_eq_add_neg]
  obtain ⟨h1, h2⟩ := add_int b (-f)
  rw [← e] at h1 h2
  have h3 : b.num + -f * b.den = b.num - f * b.den := by rw [Int.neg_mul]; omega
  rw [h3] at h1
  have hp : 0 < (b - (f : Rat)).num := num_pos.1 ((Rat.lt_iff_sub_pos _ _).1 h)
  obtain ⟨h4, h5⟩ := one_div hp
  rw [h1] at hp h5
  rw [h2] at h4
  exact ⟨hp, h4, h5, h1, h2⟩
/-- The simplest number from a to b, both above 0. -/
def simpQ : Nat → Rat → Rat → Rat
  | 0, _, _ => 1
  | n + 1, a, b => if ((a.ceil : Int) : Rat) ≤ b then ((a.ceil : Int) : Rat) else (a.floor : Rat) + 1 / simpQ n (1 / (b - (a.floor : Rat))) (1 / (a - (a.floor : Rat)))
/-- Above 0, and not too large. -/
structure Hq (a : Rat) : Prop where
  p : 0 < a.num
  n : a.num ≤ 1000000000000
  d : (a.den : Int) ≤ 1000000000000
theorem Hq.fit {a : Rat} (h : Hq a) : QFit 2 a := ⟨fi ⟨by have := h.p; omega, by have := h.n; omega⟩, fi ⟨by have := den_pos a; omega, by have := h.d; omega⟩⟩
theorem Hq.pos {a : Rat} (h : Hq a) : 0 < a := num_pos.2 h.p
/-- What holds of the next two numbers. -/
theorem next_h {a b : Rat} (ha : Hq a) (hb : Hq b) (hab : a ≤ b) (hc : ¬ ((a.ceil : Int) : Rat) ≤ b) :
    0 ≤ a.floor ∧ (a.floor : Rat) < a ∧ (a.floor : Rat) < b ∧ Hq (1 / (b - (a.floor : Rat))) ∧ Hq (1 / (a - (a.floor : Rat))) ∧ 1 / (b - (a.floor : Rat)) ≤ 1 / (a - (a.floor : Rat)) ∧
    (1 / (b - (a.floor : Rat))).den + (1 / (a - (a.floor : Rat))).den < a.den + b.den := by
  have hf0 : 0 ≤ a.floor := Rat.le_floor_iff.2 (by simpa using Rat.le_of_lt ha.pos)
  have hfa : (a.floor : Rat) ≤ a := Rat.floor_le a
  have hne : (a.floor : Rat) ≠ a := fun e => hc (by
    have : a.ceil = a.floor := by rw [← e, Rat.ceil_intCast, Rat.floor_intCast]
    rw [this, e]; exact hab)
  have hfa' : (a.floor : Rat) < a := Rat.lt_of_le_of_ne hfa hne
  have hfb : (a.floor : Rat) < b := rlt_le hfa' hab
  obtain ⟨a1, a2, a3, a4, a5⟩ := behind hfa'
  obtain ⟨b1, b2, b3, b4, b5⟩ := behind hfb
  have hm1 : 0 ≤ a.floor * (a.den : Int) := Int.mul_nonneg hf0 (Int.le_of_lt (den_pos a))
  have hm2 : 0 ≤ a.floor * (b.den : Int) := Int.mul_nonneg hf0 (Int.le_of_lt (den_pos b))
  have hHb : Hq (1 / (b - (a.floor : Rat))) := ⟨by rw [b2]; exact den_pos b, by rw [b2]; exact hb.d, by rw [b3]; have := hb.n; omega⟩
  have hHa : Hq (1 / (a - (a.floor : Rat))) := ⟨by rw [a2]; exact den_pos a, by rw [a2]; exact ha.d, by rw [a3]; have := ha.n; omega⟩
  refine ⟨hf0, hfa', hfb, hHb, hHa, ?_, ?_⟩
  · rw [Rat.le_iff, a2, a3, b2, b3]
    have h := (Rat.le_iff _ _).1 hab
    have e1 : (b.den : Int) * (a.num - a.floor * a.den) = a.num * b.den - a.floor * a.den * b.den := by rw [Int.mul_sub, Int.mul_comm (b.den : Int), Int.mul_comm (b.den : Int)]
    have e2 : (a.den : Int) * (b.num - a.floor * b.den) = b.num * a.den - a.floor * a.den * b.den := by rw [Int.mul_sub, Int.mul_comm (a.den : Int), Int.mul_comm (a.den : Int), Int.mul_assoc, Int.mul_assoc, Int.mul_comm (b.den : Int)]
    rw [e1, e2]
    omega
  · have hc1 : a.ceil ≤ a.floor + 1 := Rat.ceil_le_iff.2 (Rat.le_of_lt (Rat.lt_floor_add_one a))
    have hb1 : b < ((a.floor + 1 : Int) : Rat) := rlt_le (Rat.not_le.1 hc) (Rat.intCast_le_intCast.2 hc1)
    have ha1 : a < ((a.floor + 1 : Int) : Rat) := Rat.lt_floor_add_one a
    have h1 := lt_int.1 hb1
    have h2 := lt_int.1 ha1
    rw [Int.add_mul, Int.one_mul] at h1 h2
    omega
theorem ceil_pos {a : Rat} (h : Hq a) : 1 ≤ a.ceil := by
  have : 0 < a.ceil := Rat.lt_ceil_iff.2 (by have := h.pos; simpa using this)
  omega
theorem ceil_num {a : Rat} (h : Hq a) : a.ceil ≤ a.num := Rat.ceil_le_iff.2 (by
  rw [Rat.le_iff, Rat.num_intCast, Rat.den_intCast]
  have := Int.mul_le_mul_of_nonneg_left (show (1 : Int) ≤ a.den from by have := den_pos a; omega) (Int.le_of_lt h.p)
  simpa using this)
theorem pos_num {b : Rat} {k : Int} (hb : 0 < b.num) (h : (k : Rat) ≤ b) : k ≤ b.num := by
  rw [Rat.le_iff, Rat.num_intCast, Rat.den_intCast] at h
  have h : k * (b.den : Int) ≤ b.num := by simpa using h
  rcases Int.lt_or_le k 0 with h0 | h0
  · omega
  · have := Int.mul_le_mul_of_nonneg_left (show (1 : Int) ≤ b.den from by have := den_pos b; omega) h0
    omega
theorem simp_h : ∀ (n : Nat) (a b : Rat), a.den + b.den ≤ n → Hq a → Hq b → a ≤ b →
    0 < (simpQ n a b).num ∧ (simpQ n a b).num ≤ a.num ∧ (simpQ n a b).num ≤ b.num ∧ ((simpQ n a b).den : Int) ≤ a.den ∧ ((simpQ n a b).den : Int) ≤ b.den
  | 0, a, b, hn, ha, hb, hab => by have := a.den_pos; omega
  | n + 1, a, b, hn, ha, hb, hab => by
    unfold simpQ
    by_cases hc : ((a.ceil : Int) : Rat) ≤ b
    · rw [if_pos hc, Rat.num_intCast, Rat.den_intCast]
      have h1 := ceil_pos ha
      have h2 := ceil_num ha
      have h3 := pos_num hb.p hc
      have h4 := den_pos a
      have h5 := den_pos b
      exact ⟨by omega, h2, h3, by omega, by omega⟩
    · rw [if_neg hc]
      obtain ⟨hf0, hfa, hfb, hHb, hHa, hle, hden⟩ := next_h ha hb hab hc
      obtain ⟨r1, r2, r3, r4, r5⟩ := simp_h n _ _ (by omega) hHb hHa hle
      obtain ⟨a1, a2, a3, _, _⟩ := behind hfa
      obtain ⟨b1, b2, b3, _, _⟩ := behind hfb
      generalize simpQ n (1 / (b - (a.floor : Rat))) (1 / (a - (a.floor : Rat))) = r at *
      rw [b2] at r2
      rw [a2] at r3
      rw [b3] at r4
      rw [a3] at r5
      obtain ⟨o1, o2⟩ := one_div r1
      obtain ⟨s1, s2⟩ := add_int (1 / r) a.floor
      rw [Rat.add_comm (a.floor : Rat), s1, s2, o1]
      have hp := den_pos r
      have m0 : 0 ≤ a.floor * r.num := Int.mul_nonneg hf0 (Int.le_of_lt r1)
      have e : ((1 / r).den : Int) = r.num := o2
      rw [e]
      have m1 : a.floor * r.num ≤ a.floor * a.den := Int.mul_le_mul_of_nonneg_left r3 hf0
      have m2 : a.floor * r.num ≤ a.floor * b.den := Int.mul_le_mul_of_nonneg_left r2 hf0
      exact ⟨by omega, by omega, by omega, r3, r2⟩
end Go.Proofs.Ythhgjloephkpaaa.Lx
namespace Go.Proofs.Ythhgjloephkpaaa.Lx
set_option linter.unusedVariables false
set_option linter.unusedSimpArgs false
open Go Go.RowKit Go.Proofs.Ythhgjloephkpaaa Go.Proofs.YthhgjloephkpaaaW.PrintWords Go.Proofs.YthhgjloephkpaaaW.PrintLast
set_option maxRecDepth 100000
set_option maxHeartbeats 2000000
theorem fit_i {z : Int} (h : -9223372036854775808 ≤ z ∧ z ≤ 9223372036854775808) : QFit 2 (z : Rat) := ⟨Fit.int64 h.1 h.2, by rw [Rat.den_intCast]; exact Fit_one.mono (by decide)⟩
theorem fit1 : QFit 2 (1 : Rat) := ⟨Fit_one.mono (by decide), Fit_one.mono (by decide)⟩
theorem floor_le {a : Rat} (h : Hq a) : a.floor ≤ 1000000000000 := by
  have h1 := Rat.floor_le a
  have h2 := pos_num h.p h1
  have := h.n
  omega
theorem s87one : Spec Try.prog 87 [Iv 1] (Qo 1) := s87 (x := 1) (by decide) (by decide)
theorem cmp_le {a b : Rat} : cmpR a b ≤ 0 ↔ a ≤ b := by
  unfold cmpR
  by_cases h : a < b
  · rw [if_pos h]; exact ⟨fun _ => Rat.le_of_lt h, fun _ => by decide⟩
  · rw [if_neg h]
    by_cases h2 : a = b
    · rw [if_pos h2]; exact ⟨fun _ => h2 ▸ Rat.le_refl, fun _ => by decide⟩
    · rw [if_neg h2]; exact ⟨fun h => absurd h (by decide), fun h3 => absurd (Rat.lt_of_le_of_ne h3 h2) h⟩
theorem num_ne {a : Rat} (h : 0 < a.num) : a ≠ 0 := fun e => by rw [e] at h; cases h
theorem hq_of {r : Rat} (h1 : 0 < r.num) (h2 : r.num ≤ 1000000000000) (h3 : (r.den : Int) ≤ 1000000000000) : Hq r := ⟨h1, h2, h3⟩
theorem inv_one (x : Rat) : x⁻¹ = 1 / x := by rw [Rat.div_def, Rat.one_mul]
theorem cmp_pos {a : Rat} (h : Hq a) : cmpR a 0 = 1 := by
  have hp := h.pos
  unfold cmpR
  rw [if_neg (fun k => Rat.not_le.2 k (Rat.le_of_lt hp)), if_neg (fun e => by rw [e] at hp; exact Rat.lt_irrefl hp)]
theorem s62 : ∀ (n : Nat) (a b : Rat), a.den + b.den ≤ n → Hq a → Hq b → a ≤ b → Spec Try.prog 62 [Qo a, Qo b] (Qo (simpQ n a b))
  | 0, a, b, hn, _, _, _ => by have := a.den_pos; omega
  | n + 1, a, b, hn, ha, hb, hab => by
    let f : Rat := (a.floor : Rat)
    let k : Rat := ((a.ceil : Int) : Rat)
    let r : Rat := simpQ n (1 / (b - f)) (1 / (a - f))
    have hc1 := ceil_pos ha
    have hc2 := ceil_num ha
    have hk : QFit 2 k := fit_i (by have := ha.n; omega)
    refine spec_exec (T := .res 10 (Zv a.ceil) (.res 12 (Zv 1) (.as 13 (Qo k) (.res 16 (Iv (cmpR k b)) (.split 17 .done (.res 20 (Zv a.floor) (.res 21 (Zv 1) (.as 22 (Qo f) (.res 23 (Qo 1) (.res 26 (Qo (b - f)) (.res 27 (Qo (1 / (b - f))) (.res 28 (Qo 1) (.res 31 (Qo (a - f)) (.res 32 (Qo (1 / (a - f)))
      (.res 33 (Qo r) (.res 35 (Qo 1) (.res 37 (Qo (1 / r)) (.res 38 (Qo (f + 1 / r)) .done)))))))))))))))))) Try.func62 rfl (by kernel_rfl) mixed rfl rfl rfl ?_
    refine And.intro (s100 (ha.fit.mono (by decide))) (And.intro (s71 (by decide) (by decide)) (And.intro (as_zz (Rat.num_intCast _).symm (by rw [Rat.den_intCast]; rfl)) (And.intro (s47 (hk.mono (by decide)) (hb.fit.mono (by decide))) (And.intro (fun h => ?_) (fun h => ?_)))))
    · have h : cmpR k b ≤ 0 := of_decide_eq_true h
      refine as_qo ?_
      unfold simpQ
      rw [if_pos (cmp_le.1 h)]
    · have h : ¬ cmpR k b ≤ 0 := of_decide_eq_false h
      have hc : ¬ k ≤ b := fun e => h (cmp_le.2 e)
      obtain ⟨hf0, hfa, hfb, hHb, hHa, hle, hden⟩ := next_h ha hb hab hc
      obtain ⟨r1, r2, r3, r4, r5⟩ := simp_h n _ _ (by omega) hHb hHa hle
      have hr : Hq r := hq_of r1 (Int.le_trans r2 hHb.n) (Int.le_trans r4 hHb.d)
      have hff := floor_le ha
      have hf : QFit 2 f := fit_i (by omega)
      have hb' := behind hfb
      have ha' := behind hfa
      refine And.intro (s95 (ha.fit.mono (by decide))) (And.intro (s71 (by decide) (by decide)) (And.intro (as_zz (Rat.num_intCast _).symm (by rw [Rat.den_intCast]; rfl)) (And.intro s87one (And.intro (s58 (hb.fit.mono (by decide)) (hf.mono (by decide))) (And.intro (s60 (fit1.mono (by decide)) ((hb.fit.sub hf).mono (by decide)) (num_ne (by rw [hb'.2.2.2.1]; exact hb'.1)))
        (And.intro s87one (And.intro (s58 (ha.fit.mono (by decide)) (hf.mono (by decide))) (And.intro (s60 (fit1.mono (by decide)) ((ha.fit.sub hf).mono (by decide)) (num_ne (by rw [ha'.2.2.2.1]; exact ha'.1))) (And.intro (s62 n _ _ (Nat.le_of_lt_succ (Nat.lt_of_lt_of_le hden hn)) hHb hHa hle) (And.intro s87one (And.intro (s60 (fit1.mono (by decide)) (hr.fit.mono (by decide)) (num_ne hr.p))
        (And.intro (s57 (hf.mono (by decide)) ((fit1.div hr.fit (num_ne hr.p)).mono (by decide))) (as_qo ?_)))))))))))))
      conv => rhs; unfold simpQ
      rw [if_neg hc]
theorem s64p : ∀ (n : Nat) (a b : Rat), a.den + b.den ≤ n → Hq a → Hq b → a ≤ b → Spec Try.prog 64 [Qs a, Qs b] (Qs (simpQ n a b))
  | 0, a, b, hn, _, _, _ => by have := a.den_pos; omega
  | n + 1, a, b, hn, ha, hb, hab => by
    let f : Rat := (a.floor : Rat)
    let k : Rat := ((a.ceil : Int) : Rat)
    let r : Rat := simpQ n (1 / (b - f)) (1 / (a - f))
    have hc1 := ceil_pos ha
    have hc2 := ceil_num ha
    have hk : QFit 2 k := fit_i (by have := ha.n; omega)
    refine spec_exec (T := .res 8 (Iv (cmpR a 0)) (.as 8 (Iv 1) (.res 18 (Iv (cmpR b 0)) (.as 18 (Iv 1) (.res 28 (Qs k) (.res 30 (Iv (cmpR k b)) (.split 31 (.res 33 (Qs k) .done) (.res 35 (Qs f) (.res 39 (Qs (b - f)) (.res 40 (Qs (1 / (b - f))) (.res 43 (Qs (a - f)) (.res 44 (Qs (1 / (a - f)))
      (.res 45 (Qs r) (.res 46 (Qs (1 / r)) (.res 47 (Qs (f + 1 / r)) .done)))))))))))))))  Try.func64 rfl (by kernel_rfl) mixed rfl rfl rfl ?_
    refine And.intro s81 (And.intro (as_i (cmp_pos ha)) (And.intro s81 (And.intro (as_i (cmp_pos hb)) (And.intro (s102 (ha.fit.mono (by decide))) (And.intro (s26 (hk.mono (by decide)) (hb.fit.mono (by decide))) (And.intro (fun h => ?_) (fun h => ?_)))))))
    · have h : cmpR k b ≤ 0 := of_decide_eq_true h
      refine And.intro (s102 (ha.fit.mono (by decide))) (as_qs ?_)
      unfold simpQ
      rw [if_pos (cmp_le.1 h)]
    · have h : ¬ cmpR k b ≤ 0 := of_decide_eq_false h
      have hc : ¬ k ≤ b := fun e => h (cmp_le.2 e)
      obtain ⟨hf0, hfa, hfb, hHb, hHa, hle, hden⟩ := next_h ha hb hab hc
      obtain ⟨r1, r2, r3, r4, r5⟩ := simp_h n _ _ (by omega) hHb hHa hle
      have hr : Hq r := hq_of r1 (Int.le_trans r2 hHb.n) (Int.le_trans r4 hHb.d)
      have hff := floor_le ha
      have hf : QFit 2 f := fit_i (by omega)
      have hb' := behind hfb
      have ha' := behind hfa
      refine And.intro (s84 (ha.fit.mono (by decide))) (And.intro (s30 (hb.fit.mono (by decide)) (hf.mono (by decide))) (And.intro ((s86 ((hb.fit.sub hf).mono (by decide)) (num_ne (by rw [hb'.2.2.2.1]; exact hb'.1))).to (as_qs (inv_one _)))
        (And.intro (s30 (ha.fit.mono (by decide)) (hf.mono (by decide))) (And.intro ((s86 ((ha.fit.sub hf).mono (by decide)) (num_ne (by rw [ha'.2.2.2.1]; exact ha'.1))).to (as_qs (inv_one _))) (And.intro (s64p n _ _ (Nat.le_of_lt_succ (Nat.lt_of_lt_of_le hden hn)) hHb hHa hle) (And.intro ((s86 (hr.fit.mono (by decide)) (num_ne hr.p)).to (as_qs (inv_one _)))
        (And.intro (s52 (hf.mono (by decide)) ((fit1.div hr.fit (num_ne hr.p)).mono (by decide))) (as_qs ?_))))))))
      conv => rhs; unfold simpQ
      rw [if_neg hc]
end Go.Proofs.Ythhgjloephkpaaa.Lx
namespace Go.Proofs.Ythhgjloephkpaaa.Lx
set_option linter.unusedVariables false
set_option linter.unusedSimpArgs false
open Go Go.RowKit Go.Proofs.Ythhgjloephkpaaa Go.Proofs.YthhgjloephkpaaaW.PrintWords Go.Proofs.YthhgjloephkpaaaW.PrintLast
set_option maxRecDepth 100000
set_option maxHeartbeats 2000000
theorem cmp_ge {a b : Rat} : 0 ≤ cmpR a b ↔ b ≤ a := by
  rw [← Rat.not_lt]
  unfold cmpR
  by_cases h : a < b
  · rw [if_pos h]; exact ⟨fun k => absurd k (by decide), fun k => absurd h k⟩
  · rw [if_neg h]
    by_cases h2 : a = b
    · rw [if_pos h2]; exact ⟨fun _ => h, fun _ => by decide⟩
    · rw [if_neg h2]; exact ⟨fun _ => h, fun _ => by decide⟩
/-- The simplest number from a to b. -/
def simplV (a b : Rat) : Rat := if a ≤ 0 ∧ 0 ≤ b then 0 else if b < 0 then -(simpQ (b.den + a.den) (-b) (-a)) else simpQ (a.den + b.den) a b
structure Hz (a : Rat) : Prop where
  l : -1000000000000 ≤ a.num
  n : a.num ≤ 1000000000000
  d : (a.den : Int) ≤ 1000000000000
theorem Hz.fit {a : Rat} (h : Hz a) : QFit 2 a := ⟨fi ⟨by have := h.l; omega, by have := h.n; omega⟩, fi ⟨by have := den_pos a; omega, by have := h.d; omega⟩⟩
theorem Hz.pos {a : Rat} (h : Hz a) (h0 : 0 < a) : Hq a := ⟨num_pos.1 h0, h.n, h.d⟩
theorem Hz.neg {a : Rat} (h : Hz a) (h0 : a < 0) : Hq (-a) := by
  have h1 : 0 < -a := by have := Rat.neg_lt_neg h0; simpa using this
  exact ⟨num_pos.1 h1, by rw [Rat.neg_num]; have := h.l; omega, by rw [Rat.neg_den]; exact h.d⟩
theorem isq_hz {p q : Int} (h : IsQ p q) : Hz (Rat.divInt p q) := by
  obtain ⟨h1, h2⟩ := isq_num h
  exact ⟨by rw [← h1]; exact h.2.2.1, by rw [← h1]; exact h.2.2.2.1, by rw [← h2]; exact h.2.1⟩
theorem simpV_fit {a b : Rat} (ha : Hz a) (hb : Hz b) (hab : a ≤ b) (h : b < 0) : Hq (simpQ (b.den + a.den) (-b) (-a)) := by
  have h1 := hb.neg h
  have h2 := ha.neg (Rat.not_le.1 fun k => Rat.not_le.2 h (Rat.le_trans k hab))
  obtain ⟨r1, r2, _, r4, _⟩ := simp_h (b.den + a.den) (-b) (-a) (by rw [Rat.neg_den, Rat.neg_den]; omega) h1 h2 (Rat.neg_le_neg hab)
  exact hq_of r1 (Int.le_trans r2 h1.n) (Int.le_trans r4 h1.d)
theorem as_q0s : AsOk (.u ⟨true, [.val (.slice none 0 0), .val (.bool false), .val (.slice none 0 0), .val (.bool false)]⟩) (Qs 0) := fun γ s v h => by
  have e := sc_rep (t := .u ⟨true, [.val (.slice none 0 0), .val (.bool false), .val (.slice none 0 0), .val (.bool false)]⟩) rfl h
  subst e
  have w0 : Wds s.w none 0 0 (dg 0) := by rw [dg_zero]; exact ⟨⟨rfl, by decide, fun h => by omega⟩, by decide⟩
  exact ⟨_, rfl, [_, _], [_, _], rfl, ⟨none, 0, 0, rfl, w0⟩, [_, _], [], rfl, ⟨0, ⟨none, 0, 0, rfl, w0⟩, .inr ⟨rfl, rfl⟩⟩, rfl⟩
theorem told_zero : toldT 0 = Re 0 1 0 := told_of (q := 0) ⟨by decide, by decide, by decide⟩
theorem s64 {a b : Rat} (ha : Hz a) (hb : Hz b) (hab : a ≤ b) : Spec Try.prog 64 [Qs a, Qs b] (Qs (simplV a b)) := by
  unfold simplV
  by_cases h1 : a ≤ 0 ∧ 0 ≤ b
  · rw [if_pos h1]
    refine spec_exec (T := .res 8 (Iv (cmpR a 0)) (.is 9 true (.res 12 (Iv (cmpR b 0)) (.is 13 true .done)))) Try.func64 rfl (by kernel_rfl) mixed rfl rfl rfl ?_
    exact And.intro s81 (And.intro (decide_eq_true (cmp_le.2 h1.1)) (And.intro s81 (And.intro (decide_eq_true (cmp_ge.2 h1.2)) as_q0s)))
  rw [if_neg h1]
  by_cases h2 : b < 0
  · rw [if_pos h2]
    have ha0 : a ≤ 0 := Rat.le_of_lt (Rat.not_le.1 fun k => Rat.not_le.2 h2 (Rat.le_trans k hab))
    have ha1 := ha.neg (Rat.not_le.1 fun k => Rat.not_le.2 h2 (Rat.le_trans k hab))
    have hb1 := hb.neg h2
    have hz := simpV_fit ha hb hab h2
    refine spec_exec (T := .res 8 (Iv (cmpR a 0)) (.is 9 true (.res 12 (Iv (cmpR b 0)) (.is 13 false (.res 18 (Iv (cmpR b 0)) (.is 19 true (.res 21 (Qs (-b)) (.res 23 (Qs (-a)) (.res 24 (Qs (simpQ (b.den + a.den) (-b) (-a))) (.res 25 (Qs (-(simpQ (b.den + a.den) (-b) (-a)))) .done)))))))))) Try.func64 rfl (by kernel_rfl) mixed rfl rfl rfl ?_
    exact And.intro s81 (And.intro (decide_eq_true (cmp_le.2 ha0)) (And.intro s81 (And.intro (decide_eq_false fun k => Rat.not_le.2 h2 (cmp_ge.1 k)) (And.intro s81 (And.intro (decide_eq_true (cmpR_lt0.2 h2)) (And.intro (s80 (hb.fit.mono (by decide))) (And.intro (s80 (ha.fit.mono (by decide)))
      (And.intro (s64p _ _ _ (by rw [Rat.neg_den, Rat.neg_den]; omega) hb1 ha1 (Rat.neg_le_neg hab)) (And.intro (s80 (hz.fit.mono (by decide))) (AsOk.refl _))))))))))
  · rw [if_neg h2]
    have hb0 : 0 ≤ b := Rat.not_lt.1 h2
    have ha0 : 0 < a := Rat.not_le.1 fun k => h1 ⟨k, hb0⟩
    exact s64p _ _ _ (Nat.le_refl _) (ha.pos ha0) (hb.pos (rlt_le ha0 hab)) hab
section
variable {p q r s : Int}
def sT (p q r s : Int) : TV := if Alls [(p, q), (r, s)] ∧ Rat.divInt p q ≤ Rat.divInt r s then toldT (simplV (Rat.divInt p q) (Rat.divInt r s)) else Re 0 0 1
theorem s_form (p q r s : Int) : ∃ a b e, sT p q r s = Re a b e := by
  unfold sT
  split
  · exact told_form _
  · exact ⟨_, _, _, rfl⟩
theorem s46s {p q : Int} (h : IsQ p q) : Spec Try.prog 46 [Rv p q] (Qo (Rat.divInt p q)) := s46 (isq64 h).1 (isq64 h).2 (isq_num h).1 (isq_num h).2
theorem s27s {p q : Int} (h : IsQ p q) : Spec Try.prog 27 [Rv p q] (Qs (Rat.divInt p q)) := s27 (isq64 h).1 (isq64 h).2 (isq_ne h)
theorem s23 : Spec Try.prog 23 [Rv p q, Rv r s] (sT p q r s) := by
  unfold sT
  let a := Rat.divInt p q
  let b := Rat.divInt r s
  by_cases h : Alls [(p, q), (r, s)]
  case neg =>
    rw [if_neg fun k => h k.1]
    refine spec_exec (T := .op 11 (Lv [(p, q), (r, s)]) (.res 12 (Iv (errV (Alls [(p, q), (r, s)]))) (.as 12 (Iv 1) .done))) Try.func23 rfl (by kernel_rfl) mixed rfl rfl rfl ?_
    exact And.intro (g_lit2 rfl rfl rfl) (And.intro s45 (And.intro (as_i (errV_f h)) (AsOk.refl _)))
  have hb := alls_two.1 h
  let pre (t : Tr) : Tr := .op 11 (Lv [(p, q), (r, s)]) (.res 12 (Iv (errV (Alls [(p, q), (r, s)]))) (.as 12 (Iv 0) (.res 18 (Qo a) (.res 20 (Qo b) (.res 24 (Iv (cmpR a b)) t)))))
  have ha' := isq_hz hb.1
  have hb' := isq_hz hb.2
  by_cases hab : a ≤ b
  case neg =>
    rw [if_neg fun k => hab k.2]
    refine spec_exec (T := pre (.is 25 true .done)) Try.func23 rfl (by kernel_rfl) mixed rfl rfl rfl ?_
    exact And.intro (g_lit2 rfl rfl rfl) (And.intro s45 (And.intro (as_i (errV_t h)) (And.intro (s46s hb.1) (And.intro (s46s hb.2) (And.intro (s47 (isq_fit hb.1) (isq_fit hb.2)) (And.intro (decide_eq_true (Int.not_le.1 fun k => hab (cmp_le.1 k))) (AsOk.refl _)))))))
  rw [if_pos ⟨h, hab⟩]
  have hc : decide (0 < cmpR a b) = false := decide_eq_false (Int.not_lt.2 (cmp_le.2 hab))
  unfold simplV
  by_cases h1 : a ≤ 0 ∧ 0 ≤ b
  · rw [if_pos h1, told_zero]
    refine spec_exec (T := pre (.is 25 false (.res 29 (Iv (cmpR a 0)) (.is 30 true (.res 33 (Iv (cmpR b 0)) (.is 34 true .done)))))) Try.func23 rfl (by kernel_rfl) mixed rfl rfl rfl ?_
    exact And.intro (g_lit2 rfl rfl rfl) (And.intro s45 (And.intro (as_i (errV_t h)) (And.intro (s46s hb.1) (And.intro (s46s hb.2) (And.intro (s47 (isq_fit hb.1) (isq_fit hb.2)) (And.intro hc (And.intro s61 (And.intro (decide_eq_true (cmp_le.2 h1.1)) (And.intro s61 (And.intro (decide_eq_true (cmp_ge.2 h1.2)) (AsOk.refl _)))))))))))
  rw [if_neg h1]
  by_cases h2 : b < 0
  · rw [if_pos h2]
    have ha0 : a ≤ 0 := Rat.le_of_lt (Rat.not_le.1 fun k => Rat.not_le.2 h2 (Rat.le_trans k hab))
    have ha1 := ha'.neg (Rat.not_le.1 fun k => Rat.not_le.2 h2 (Rat.le_trans k hab))
    have hb1 := hb'.neg h2
    have hz := simpV_fit ha' hb' hab h2
    let z := simpQ (b.den + a.den) (-b) (-a)
    refine spec_exec (T := pre (.is 25 false (.res 29 (Iv (cmpR a 0)) (.is 30 true (.res 33 (Iv (cmpR b 0)) (.is 34 false (.res 39 (Iv (cmpR b 0)) (.is 40 true (.res 42 (Qo (-b)) (.res 44 (Qo (-a)) (.res 45 (Qo z) (.res 46 (Qo (-z)) (.res 47 (toldT (-z)) .done))))))))))))) Try.func23 rfl (by kernel_rfl) mixed rfl rfl rfl ?_
    exact And.intro (g_lit2 rfl rfl rfl) (And.intro s45 (And.intro (as_i (errV_t h)) (And.intro (s46s hb.1) (And.intro (s46s hb.2) (And.intro (s47 (isq_fit hb.1) (isq_fit hb.2)) (And.intro hc (And.intro s61 (And.intro (decide_eq_true (cmp_le.2 ha0)) (And.intro s61 (And.intro (decide_eq_false fun k => Rat.not_le.2 h2 (cmp_ge.1 k))
      (And.intro s61 (And.intro (decide_eq_true (cmpR_lt0.2 h2)) (And.intro (s63 (hb'.fit.mono (by decide))) (And.intro (s63 (ha'.fit.mono (by decide))) (And.intro (s62 _ _ _ (by rw [Rat.neg_den, Rat.neg_den]; exact Nat.le_refl _) hb1 ha1 (Rat.neg_le_neg hab)) (And.intro (s63 (hz.fit.mono (by decide))) (And.intro s42 (AsOk.refl _))))))))))))))))))
  · rw [if_neg h2]
    have hb0 : 0 ≤ b := Rat.not_lt.1 h2
    have ha0 : 0 < a := Rat.not_le.1 fun k => h1 ⟨k, hb0⟩
    refine spec_exec (T := pre (.is 25 false (.res 29 (Iv (cmpR a 0)) (.is 30 false (.res 39 (Iv (cmpR b 0)) (.is 40 false (.res 52 (Qo (simpQ (a.den + b.den) a b)) (.res 53 (toldT (simpQ (a.den + b.den) a b)) .done)))))))) Try.func23 rfl (by kernel_rfl) mixed rfl rfl rfl ?_
    exact And.intro (g_lit2 rfl rfl rfl) (And.intro s45 (And.intro (as_i (errV_t h)) (And.intro (s46s hb.1) (And.intro (s46s hb.2) (And.intro (s47 (isq_fit hb.1) (isq_fit hb.2)) (And.intro hc (And.intro s61 (And.intro (decide_eq_false fun k => Rat.not_le.2 ha0 (cmp_le.1 k)) (And.intro s61 (And.intro (decide_eq_false fun k => h2 (cmpR_lt0.1 k))
      (And.intro (s62 _ _ _ (Nat.le_refl _) (ha'.pos ha0) (hb'.pos (rlt_le ha0 hab)) hab) (And.intro s42 (AsOk.refl _)))))))))))))
theorem s24 : Spec Try.prog 24 [Rv p q, Rv r s] (sT p q r s) := by
  unfold sT
  let a := Rat.divInt p q
  let b := Rat.divInt r s
  by_cases h1 : IsQ p q
  case neg =>
    rw [if_neg fun k => h1 (alls_two.1 k.1).1]
    refine spec_exec (T := .res 7 (B (decide (IsQ p q))) (.is 7 false .done)) Try.func24 rfl (by kernel_rfl) mixed rfl rfl rfl ?_
    exact And.intro s50 (And.intro (decide_eq_false h1) (AsOk.refl _))
  by_cases h2 : IsQ r s
  case neg =>
    rw [if_neg fun k => h2 (alls_two.1 k.1).2]
    refine spec_exec (T := .res 7 (B (decide (IsQ p q))) (.is 7 true (.res 11 (B (decide (IsQ r s))) (.is 11 false .done)))) Try.func24 rfl (by kernel_rfl) mixed rfl rfl rfl ?_
    exact And.intro s50 (And.intro (decide_eq_true h1) (And.intro s50 (And.intro (decide_eq_false h2) (AsOk.refl _))))
  let pre (t : Tr) : Tr := .res 7 (B (decide (IsQ p q))) (.is 7 true (.res 11 (B (decide (IsQ r s))) (.is 11 true (.res 16 (Qs a) (.res 18 (Qs b) (.res 19 (Iv (cmpR a b)) t))))))
  by_cases hab : a ≤ b
  · rw [if_pos ⟨alls_two.2 ⟨h1, h2⟩, hab⟩]
    refine spec_exec (T := pre (.is 20 false (.res 24 (Qs a) (.res 26 (Qs b) (.res 27 (Qs (simplV a b)) (.res 28 (toldT (simplV a b)) .done)))))) Try.func24 rfl (by kernel_rfl) mixed rfl rfl rfl ?_
    exact And.intro s50 (And.intro (decide_eq_true h1) (And.intro s50 (And.intro (decide_eq_true h2) (And.intro (s27s h1) (And.intro (s27s h2) (And.intro (s26 (isq_fit h1) (isq_fit h2)) (And.intro (decide_eq_false (Int.not_lt.2 (cmp_le.2 hab))) (And.intro (s27s h1) (And.intro (s27s h2) (And.intro (s64 (isq_hz h1) (isq_hz h2) hab) (And.intro s44 (AsOk.refl _))))))))))))
  · rw [if_neg fun k => hab k.2]
    refine spec_exec (T := pre (.is 20 true .done)) Try.func24 rfl (by kernel_rfl) mixed rfl rfl rfl ?_
    exact And.intro s50 (And.intro (decide_eq_true h1) (And.intro s50 (And.intro (decide_eq_true h2) (And.intro (s27s h1) (And.intro (s27s h2) (And.intro (s26 (isq_fit h1) (isq_fit h2)) (And.intro (decide_eq_true (Int.not_le.1 fun k => hab (cmp_le.1 k))) (AsOk.refl _))))))))
/-- RatSimplest's walk. -/
theorem s6 : Spec Try.prog 6 [Rv p q, Rv r s] (B true) := by
  obtain ⟨a, b, e, h⟩ := s_form p q r s
  refine spec_exec (T := .res 12 (Re a b e) (.res 18 (Re a b e) (.op 23 (B ((a == a) && (b == b))) (.is 23 true (.is 27 true (.res 30 (B true) .done)))))) Try.func6 rfl (by kernel_rfl) mixed rfl rfl rfl ?_
  exact And.intro (sto s23 h) (And.intro (sto s24 h) (And.intro (g_eq23 (p := a) (q := b) (r := a) (s := b) rfl rfl rfl) (And.intro beq_and (And.intro (beq_self_eq_true e) (And.intro s16 (AsOk.refl _))))))
theorem simplest6 {w : World} : Calls Try.prog 6 #[.agg #[.int .i64 p, .int .i64 q], .agg #[.int .i64 r, .int .i64 s]] w (RetV w (.bool true)) :=
  law_run (vs := [_, _]) (s6 (p := p) (q := q) (r := r) (s := s)) ⟨_, _, rfl, vr, _, _, rfl, vr, rfl⟩
end
end Go.Proofs.Ythhgjloephkpaaa.Lx
namespace Go.Proofs.Ythhgjloephkpaaa
set_option linter.unusedVariables false
open Go Go.RowKit Go.Proofs.YthhgjloephkpaaaW.PrintWords
section
variable {H : Type} {enc : TypeId × Value → H} {w : World}
set_option maxRecDepth 100000 in
theorem rat_arg {r : Reach} {b0 : Nat} {v : Value} {d : DataW H} {p : List MemPlace} (hv : Value.okWide Try.prog w r b0 23 v) (h : DataW.Trod enc Try.prog w 0 (fun _ => true) true 23 v d p) :
    ∃ m n, v = .agg #[.int .i64 m, .int .i64 n] := by
  obtain ⟨v0, v1, y0, y1, n, rfl, _, _, h0, h1⟩ := Go.Joins.open_agg2 Try.underlying23 (by kernel_rfl) (by kernel_rfl) hv h
  obtain ⟨k, e0, _, _⟩ := DataW.trod_int Try.underlying3 h0
  obtain ⟨l, e1, _, _⟩ := DataW.trod_int Try.underlying3 h1
  simp only [List.cons.injEq, and_true] at e0 e1
  subst e0 e1
  exact ⟨k, l, rfl⟩
end
end Go.Proofs.Ythhgjloephkpaaa
