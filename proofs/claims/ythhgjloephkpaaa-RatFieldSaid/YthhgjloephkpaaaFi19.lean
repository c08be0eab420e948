/- Words and walks for the row RowRatField, put together: LX12, LX13, LX14, LX15, RZG, RZH, LX17, LX18, WEqStruct, LX19, LXN, LX20, LX21. -/
import Derived.Test.YthhgjloephkpaaaFi4
import Derived.Test.YthhgjloephkpaaaFiRZF
import Derived.Test.YthhgjloephkpaaaFi7
import Derived.Test.YthhgjloephkpaaaWWords
import Derived.Laws.StructEq
namespace Go.Proofs.Ythhgjloephkpaaa.Lx
set_option linter.unusedVariables false
set_option linter.unusedSimpArgs false
open Go Go.RowKit Go.Proofs.Ythhgjloephkpaaa Go.Proofs.YthhgjloephkpaaaW.PrintWords Go.Proofs.YthhgjloephkpaaaW.PrintLast

theorem Kst.later (s : Kst) {w' : World} (h : Below s.w.heap.size s.w w') : ∃ t : Kst, t.w = w' ∧ Le s t :=
  ⟨⟨w', s.fz, fun g hg => Nat.lt_of_lt_of_le (s.lt g hg) h.size⟩, rfl, ⟨U.of_below h, fun g hg => ⟨hg, h.block g (s.lt g hg)⟩, h.size, fun g hg => .inl hg⟩⟩
theorem zh_cells {w : World} {v : Value} {z : Int} (h : Zh w v z) : ∃ a b c, v = .agg #[a, b, c] ∧ ∀ x ∈ [a, b, c], x.oneCell' = true ∧ noW x = true := by
  rcases h with ⟨rfl, _, _⟩ | ⟨ad, n, c, rfl, _, _⟩ <;> exact ⟨_, _, _, rfl, by simp [Value.oneCell', noW]⟩
def Zr : Rel Int where
  n := 3
  R s cs z := Zh s.w (.agg cs.toArray) z
  up s t cs x h k := k.u h.u
  len s cs x k := by
    obtain ⟨a, b, c, e, _⟩ := zh_cells k
    injection e with e
    have := congrArg Array.size e
    simpa using this
  ok s cs x k v hv := by
    obtain ⟨a, b, c, e, h⟩ := zh_cells k
    injection e with e
    have : cs = [a, b, c] := by have := congrArg Array.toList e; simpa using this
    rw [this] at hv
    exact h v hv
theorem qz_cells {w : World} {v : Value} {q : Rat} (h : Qz w v q) : ∃ l, v = .agg (List.toArray l) ∧ l.length = 6 ∧ ∀ x ∈ l, x.oneCell' = true ∧ noW x = true := by
  obtain ⟨i, A, n, c, s, j, B, m, d, t, rfl, _, _⟩ := h
  exact ⟨[_, _, _, _, _, _], rfl, rfl, by simp [Value.oneCell', noW]⟩
theorem qz_u {w w' : World} {v : Value} {q : Rat} (h : Qz w v q) (hu : U w w') : Qz w' v q := by
  obtain ⟨i, A, n, c, s, j, B, m, d, t, e, h1, h2⟩ := h
  exact ⟨i, A, n, c, s, j, B, m, d, t, e, h1.u hu, h2.u hu⟩
def Qr : Rel Rat where
  n := 6
  R s cs q := Qz s.w (.agg cs.toArray) q
  up s t cs x h k := qz_u k h.u
  len s cs x k := by
    obtain ⟨l, e, hl, _⟩ := qz_cells k
    injection e with e
    have : cs = l := by have := congrArg Array.toList e; simpa using this
    rw [this]; exact hl
  ok s cs x k v hv := by
    obtain ⟨l, e, hl, h⟩ := qz_cells k
    injection e with e
    have : cs = l := by have := congrArg Array.toList e; simpa using this
    rw [this] at hv
    exact h v hv
def Iv (x : Int) : TV := .u ⟨false, [.val (.int .i64 x)]⟩
def Zv (z : Int) : TV := .u ⟨true, [.abs Zr z]⟩
def Qv (q : Rat) : TV := .u ⟨true, [.abs Qr q]⟩
def Zz (z y : Int) : TV := .u ⟨true, [.abs Zr z, .abs Zr y]⟩
def Rv (p q : Int) : TV := .u ⟨true, [.val (.int .i64 p), .val (.int .i64 q)]⟩
section
variable {γ : Nat → Nat} {s : Kst} {v : Value}
theorem zv {z : Int} (h : (Zv z).Rep γ s v) : Zh s.w v z := by
  obtain ⟨cs, rfl, a, b, e, k1, k2⟩ := h
  rw [show b = [] from k2, List.append_nil] at e
  subst e; exact k1
theorem qv {q : Rat} (h : (Qv q).Rep γ s v) : Qz s.w v q := by
  obtain ⟨cs, rfl, a, b, e, k1, k2⟩ := h
  rw [show b = [] from k2, List.append_nil] at e
  subst e; exact k1
theorem iv {x : Int} (h : (Iv x).Rep γ s v) : v = .int .i64 x := sc_rep (t := Iv x) rfl h
theorem rv {p q : Int} (h : (Rv p q).Rep γ s v) : v = .agg #[.int .i64 p, .int .i64 q] := sc_rep (t := Rv p q) rfl h
theorem vz {z : Int} (h : Zh s.w v z) : (Zv z).Rep γ s v := by
  obtain ⟨a, b, c, e, _⟩ := zh_cells h
  subst e
  exact ⟨[a, b, c], rfl, [a, b, c], [], rfl, h, rfl⟩
theorem vq {q : Rat} (h : Qz s.w v q) : (Qv q).Rep γ s v := by
  obtain ⟨l, e, _, _⟩ := qz_cells h
  subst e
  exact ⟨l, rfl, l, [], by simp, h, rfl⟩
theorem vi {x : Int} : (Iv x).Rep γ s (.int .i64 x) := repU_val rfl
theorem vb {b : Bool} : (B b).Rep γ s (.bool b) := repU_val rfl
end
/-- What a contract proved before says, in this form. -/
def Post (s : Kst) (r : TV) (e : Ending) (w' : World) : Prop := ∃ x t, e = .returned x ∧ t.w = w' ∧ Le s t ∧ Below s.w.heap.size s.w w' ∧ ∀ δ, r.Rep δ t x
section
variable {s : Kst} {e : Ending} {w' : World}
theorem pz {z : Int} (h : RetZ s.w z e w') : Post s (Zv z) e w' := by
  obtain ⟨⟨v, rfl, k⟩, hb⟩ := h
  obtain ⟨t, rfl, hl⟩ := s.later hb
  exact ⟨v, t, rfl, rfl, hl, hb, fun δ => vz k⟩
theorem pq {q : Rat} (h : RetQz s.w q e w') : Post s (Qv q) e w' := by
  obtain ⟨⟨v, rfl, k⟩, hb⟩ := h
  obtain ⟨t, rfl, hl⟩ := s.later hb
  exact ⟨v, t, rfl, rfl, hl, hb, fun δ => vq k⟩
theorem pi {x : Int} (h : RetI s.w x e w') : Post s (Iv x) e w' := by
  obtain ⟨⟨v, rfl, rfl⟩, hb⟩ := h
  obtain ⟨t, rfl, hl⟩ := s.later hb
  exact ⟨_, t, rfl, rfl, hl, hb, fun δ => vi⟩
theorem pv' {x : Value} {r : TV} (hr : ∀ δ t, r.Rep δ t x) (h : RetV s.w x e w') : Post s r e w' := by
  obtain ⟨⟨v, rfl, rfl⟩, hb⟩ := h
  obtain ⟨t, rfl, hl⟩ := s.later hb
  exact ⟨_, t, rfl, rfl, hl, hb, fun δ => hr δ _⟩
end
section
variable {P : Program} {f : FuncId} {fn : Func} {a b : TV} {r : TV}
theorem sp1 (hf : P.funcs[f]? = some fn) (hname : (fn.name == "runtime.NumGoroutine") = false) (hb : fn.body.isSome = true)
    (h : ∀ γ s v, a.Rep γ s v → Calls P f #[v] s.w (Post s r)) : Spec P f [a] r :=
  ⟨fun vs w => enters_ hf hname hb vs w, fun γ s vs ⟨x, y, e, k1, k2⟩ => by
    rw [show y = [] from k2] at e; subst e; exact h γ s x k1⟩
theorem sp2 (hf : P.funcs[f]? = some fn) (hname : (fn.name == "runtime.NumGoroutine") = false) (hb : fn.body.isSome = true)
    (h : ∀ γ s v u, a.Rep γ s v → b.Rep γ s u → Calls P f #[v, u] s.w (Post s r)) : Spec P f [a, b] r :=
  ⟨fun vs w => enters_ hf hname hb vs w, fun γ s vs ⟨x, y, e, k1, x2, y2, e2, k2, k3⟩ => by
    rw [show y2 = [] from k3] at e2; subst e2 e; exact h γ s x x2 k1 k2⟩
end
section
variable {x y : Int} {p q : Rat}
theorem s71 (h1 : -9223372036854775808 ≤ x) (h2 : x < 9223372036854775808) : Spec Try.prog 71 [Iv x] (Zv x) :=
  sp1 Try.func71 (by kernel_rfl) rfl fun γ s v h => by rw [iv h]; exact (int71 h1 h2).mono fun _ _ => pz
theorem s72 (fx : Fit 99999999 x) (fy : Fit 99999999 y) (h : 0 < y) : Spec Try.prog 72 [Zv x, Zv y] (Zv (x / y)) :=
  sp2 Try.func72 (by kernel_rfl) rfl fun γ s v u h1 h2 => (floor72 (zv h1) (zv h2) fx fy h).mono fun _ _ => pz
theorem s73 (fx : Fit 100000000 x) (fy : Fit 100000000 y) : Spec Try.prog 73 [Zv x, Zv y] (Zv (x + y)) :=
  sp2 Try.func73 (by kernel_rfl) rfl fun γ s v u h1 h2 => (add73 (zv h1) (zv h2) fx fy).mono fun _ _ => pz
theorem s74 (fx : Fit 100000000 x) (fy : Fit 100000000 y) : Spec Try.prog 74 [Zv x, Zv y] (Zv (x * y)) :=
  sp2 Try.func74 (by kernel_rfl) rfl fun γ s v u h1 h2 => (mul74 (zv h1) (zv h2) fx fy).mono fun _ _ => pz
theorem s75 (fx : Fit 100000000 x) (fy : Fit 100000000 y) : Spec Try.prog 75 [Zv x, Zv y] (Iv (cmpZ x y)) :=
  sp2 Try.func75 (by kernel_rfl) rfl fun γ s v u h1 h2 => (cmp75 (zv h1) (zv h2) fx fy).mono fun _ _ => pi
theorem s76 (fx : Fit 100000000 x) (fy : Fit 100000000 y) : Spec Try.prog 76 [Zv x, Zv y] (Zv (x - y)) :=
  sp2 Try.func76 (by kernel_rfl) rfl fun γ s v u h1 h2 => (sub76 (zv h1) (zv h2) fx fy).mono fun _ _ => pz
theorem s77 (fx : Fit 100000000 x) (fy : Fit 100000000 y) (h : y ≠ 0) : Spec Try.prog 77 [Zv x, Zv y] (.tup [⟨true, [.abs Zr (x.tdiv y)]⟩, ⟨true, [.abs Zr (x.tmod y)]⟩]) :=
  sp2 Try.func77 (by kernel_rfl) rfl fun γ s v u h1 h2 => (quo77 (zv h1) (zv h2) fx fy h).mono fun e w' ⟨⟨v, hv, v1, v2, e1, k1, k2⟩, hb⟩ => by
    subst hv e1
    obtain ⟨t, rfl, hl⟩ := s.later hb
    exact ⟨_, t, rfl, rfl, hl, hb, fun δ => ⟨[v1, v2], rfl, v1, [v2], rfl, vz k1, v2, [], rfl, vz k2, rfl⟩⟩
/-- A fraction and what is wrong with it. -/
def Re (a b e : Int) : TV := .tup [⟨true, [.val (.int .i64 a), .val (.int .i64 b)]⟩, ⟨false, [.val (.int .i64 e)]⟩]
theorem as_open {n d : Int} (hn : p.num = n) (hd : (p.den : Int) = d) : AsOk (Qv p) (Zz n d) := fun γ s v h => by
  obtain ⟨i, A, m, c, b, j, B, l, d', t, e, h1, h2⟩ := qv h
  subst e hn hd
  exact ⟨_, rfl, [_, _, _], [_, _, _], rfl, h1, [_, _, _], [], rfl, h2, rfl⟩
theorem Spec.to {P : Program} {f : FuncId} {args : List TV} {r r' : TV} (h : Spec P f args r) (e : AsOk r r') : Spec P f args r' :=
  ⟨h.ent, fun γ s vs k => (h.run γ s vs k).mono fun _ _ ⟨x, t, e1, e2, e3, e4, e5⟩ => ⟨x, t, e1, e2, e3, e4, fun δ => e _ _ _ (e5 δ)⟩⟩
/-- A number, open. -/
def Qo (q : Rat) : TV := Zz q.num q.den
theorem s78 (fx : Fit 10000000 x) (fy : Fit 10000000 y) (h : y ≠ 0) : Spec Try.prog 78 [Zv x, Zv y] (Qo (Rat.divInt x y)) :=
  (sp2 (r := Qv (Rat.divInt x y)) Try.func78 (by kernel_rfl) rfl fun γ s v u h1 h2 => (over78 (zv h1) (zv h2) fx fy h).mono fun _ _ => pq).to (as_open rfl rfl)
theorem s82 : Spec Try.prog 82 [Zv x] (Iv (cmpZ x 0)) :=
  sp1 Try.func82 (by kernel_rfl) rfl fun γ s v h1 => (sign82 (zv h1)).mono fun _ _ => pi
theorem s101 (fx : Fit 100000000 x) : Spec Try.prog 101 [Zv x] (Zv (-x)) :=
  sp1 Try.func101 (by kernel_rfl) rfl fun γ s v h1 => (neg101 (zv h1) fx).mono fun _ _ => pz
/-- An int of an amount, if it is one. -/
def Ib (a : Int) (b : Bool) : TV := .tup [⟨false, [.val (.int .i64 a)]⟩, ⟨false, [.val (.bool b)]⟩]
theorem vib {γ : Nat → Nat} {s : Kst} {a : Int} {b : Bool} : (Ib a b).Rep γ s (.tuple #[.int .i64 a, .bool b]) :=
  ⟨[_, _], rfl, _, _, rfl, ⟨rfl, [_], [], rfl, ⟨rfl, rfl⟩, rfl⟩, _, [], rfl, ⟨rfl, [_], [], rfl, ⟨rfl, rfl⟩, rfl⟩, rfl⟩
theorem s83 (h1 : 0 ≤ y) (h2 : y < 9223372036854775808) : Spec Try.prog 83 [Zv x, Iv y] (Ib (if -y ≤ x ∧ x ≤ y then x else 0) (decide (-y ≤ x ∧ x ≤ y))) :=
  sp2 Try.func83 (by kernel_rfl) rfl fun γ s v u k1 k2 => by
    rw [iv k2]
    refine (int83 (zv k1) h1 h2).mono fun _ _ => pv' (fun δ t => ?_)
    by_cases h : -y ≤ x ∧ x ≤ y
    · rw [intV_yes h, if_pos h, decide_eq_true h]; exact vib
    · rw [intV_no h, if_neg h, decide_eq_false h]; exact vib
theorem as_qo {a b : Rat} (h : a = b) : AsOk (Qo a) (Qo b) := h ▸ AsOk.refl _
theorem as_zz {a b c d : Int} (h : a = c) (h2 : b = d) : AsOk (Zz a b) (Zz c d) := h ▸ h2 ▸ AsOk.refl _
theorem as_b {a b : Bool} (h : a = b) : AsOk (B a) (B b) := h ▸ AsOk.refl _
theorem as_i {a b : Int} (h : a = b) : AsOk (Iv a) (Iv b) := h ▸ AsOk.refl _
theorem as_z {a b : Int} (h : a = b) : AsOk (Zv a) (Zv b) := h ▸ AsOk.refl _
theorem AsL.refl (l : List SV) : AsL l l := fun _ _ _ h => h
theorem mixed : Try.prog.follows .mixedOrders = true := by kernel_rfl
def Pv (b : Nat) : TV := .u ⟨false, [.ptr b 0]⟩
abbrev Q6 := QFit 1000000
theorem f8 {k : Nat} {z : Int} (h : Fit k z) (hk : k ≤ 100000000 := by decide) : Fit 100000000 z := h.mono hk
theorem f7 {k : Nat} {z : Int} (h : Fit k z) (hk : k ≤ 10000000 := by decide) : Fit 10000000 z := h.mono hk
theorem fi {z : Int} (h : -9223372036854775808 ≤ z ∧ z < 9223372036854775808) {k : Nat} (hk : 2 ≤ k := by decide) : Fit k z := (Fit.int64 h.1 (by omega)).mono hk
/-- A number as it is returned, and whether it can be. -/
def ratT (q : Rat) : TV := .tup [⟨true, [.val (.int .i64 (if good q then q.num else 0)), .val (.int .i64 (if good q then (q.den : Int) else 0))]⟩, ⟨false, [.val (.bool (decide (good q)))]⟩]
def toldT (q : Rat) : TV := Re (if good q then q.num else 0) (if good q then (q.den : Int) else 0) (if good q then 0 else 3)
end
end Go.Proofs.Ythhgjloephkpaaa.Lx
namespace Go.Proofs.Ythhgjloephkpaaa.Lx
set_option linter.unusedVariables false
set_option linter.unusedSimpArgs false
open Go Go.RowKit Go.Proofs.Ythhgjloephkpaaa Go.Proofs.YthhgjloephkpaaaW.PrintWords Go.Proofs.YthhgjloephkpaaaW.PrintLast
set_option maxRecDepth 100000
section
variable {p q : Rat} {x y : Int}
theorem fit_one : Fit 100000000 (1 : Int) := Fit_one.mono (by decide)
theorem s99 (fx : Q6 p) : Spec Try.prog 99 [Qo p] (B (decide (p.den = 1))) := by
  refine spec_exec (T := .res 5 (Zv 1) (.res 6 (Iv (cmpZ p.den 1)) .done)) Try.func99 rfl (by kernel_rfl) mixed rfl rfl rfl ?_
  exact And.intro (s71 (by decide) (by decide)) (And.intro (s75 (fx.d.mono (by decide)) fit_one) (as_b isInt_iff))
theorem s57 (fx : Q6 p) (fy : Q6 q) : Spec Try.prog 57 [Qo p, Qo q] (Qo (p + q)) := by
  have C : Spec Try.prog 74 [Zv p.num, Zv q.den] (Zv (p.num * q.den)) ∧ Spec Try.prog 74 [Zv q.num, Zv p.den] (Zv (q.num * p.den)) ∧ Spec Try.prog 73 [Zv (p.num * q.den), Zv (q.num * p.den)] (Zv (p.num * q.den + q.num * p.den)) ∧
      Spec Try.prog 74 [Zv p.den, Zv q.den] (Zv (p.den * q.den)) ∧ Spec Try.prog 78 [Zv (p.num * q.den + q.num * p.den), Zv (p.den * q.den)] (Qo (Rat.divInt (p.num * q.den + q.num * p.den) (p.den * q.den))) ∧
      AsOk (Qo (Rat.divInt (p.num * q.den + q.num * p.den) (p.den * q.den))) (Qo (p + q)) :=
    ⟨s74 (f8 fx.n) (f8 fy.d), s74 (f8 fy.n) (f8 fx.d), s73 (f8 (fx.n.mul fy.d)) (f8 (fy.n.mul fx.d)), s74 (f8 fx.d) (f8 fy.d), s78 (f7 ((fx.n.mul fy.d).add (fy.n.mul fx.d))) (f7 (fx.d.mul fy.d)) (mulden_ne p q), as_qo (add_over p q)⟩
  let tC : Tr := .res 23 (Zv (p.num * q.den)) (.res 28 (Zv (q.num * p.den)) (.res 29 (Zv (p.num * q.den + q.num * p.den)) (.res 34 (Zv (p.den * q.den)) (.res 35 (Qo (Rat.divInt (p.num * q.den + q.num * p.den) (p.den * q.den))) .done))))
  refine spec_exec (T := .res 6 (B (decide (p.den = 1))) (.split 6 (.res 9 (B (decide (q.den = 1))) (.split 9 (.res 15 (Zv (p.num + q.num)) .done) tC)) tC)) Try.func57 rfl (by kernel_rfl) mixed rfl rfl rfl ?_
  refine And.intro (s99 fx) (And.intro (fun h => ?_) (fun h => C))
  refine And.intro (s99 fy) (And.intro (fun h2 => ?_) (fun h2 => C))
  have h := of_decide_eq_true h
  have h2 := of_decide_eq_true h2
  exact And.intro (s73 (f8 fx.n) (f8 fy.n)) (as_zz (int_add h h2).1.symm (by rw [(int_add h h2).2, h]))
theorem s59 (fx : Q6 p) (fy : Q6 q) : Spec Try.prog 59 [Qo p, Qo q] (Qo (p * q)) := by
  have C : Spec Try.prog 74 [Zv p.num, Zv q.num] (Zv (p.num * q.num)) ∧ Spec Try.prog 74 [Zv p.den, Zv q.den] (Zv (p.den * q.den)) ∧ Spec Try.prog 78 [Zv (p.num * q.num), Zv (p.den * q.den)] (Qo (Rat.divInt (p.num * q.num) (p.den * q.den))) ∧
      AsOk (Qo (Rat.divInt (p.num * q.num) (p.den * q.den))) (Qo (p * q)) :=
    ⟨s74 (f8 fx.n) (f8 fy.n), s74 (f8 fx.d) (f8 fy.d), s78 (f7 (fx.n.mul fy.n)) (f7 (fx.d.mul fy.d)) (mulden_ne p q), as_qo (mul_over p q)⟩
  let tC : Tr := .res 23 (Zv (p.num * q.num)) (.res 28 (Zv (p.den * q.den)) (.res 29 (Qo (Rat.divInt (p.num * q.num) (p.den * q.den))) .done))
  refine spec_exec (T := .res 6 (B (decide (p.den = 1))) (.split 6 (.res 9 (B (decide (q.den = 1))) (.split 9 (.res 15 (Zv (p.num * q.num)) .done) tC)) tC)) Try.func59 rfl (by kernel_rfl) mixed rfl rfl rfl ?_
  refine And.intro (s99 fx) (And.intro (fun h => ?_) (fun h => C))
  refine And.intro (s99 fy) (And.intro (fun h2 => ?_) (fun h2 => C))
  have h := of_decide_eq_true h
  have h2 := of_decide_eq_true h2
  exact And.intro (s74 (f8 fx.n) (f8 fy.n)) (as_zz (int_mul h h2).1.symm (by rw [(int_mul h h2).2, h]))
theorem s60 (fx : Q6 p) (fy : Q6 q) (h0 : q ≠ 0) : Spec Try.prog 60 [Qo p, Qo q] (Qo (p / q)) := by
  refine spec_exec (T := .res 9 (Zv (p.num * q.den)) (.res 14 (Zv (p.den * q.num)) (.res 15 (Qo (Rat.divInt (p.num * q.den) (p.den * q.num))) .done))) Try.func60 rfl (by kernel_rfl) mixed rfl rfl rfl ?_
  exact And.intro (s74 (f8 fx.n) (f8 fy.d)) (And.intro (s74 (f8 fx.d) (f8 fy.n)) (And.intro (s78 (f7 (fx.n.mul fy.d)) (f7 (fx.d.mul fy.n)) (divden_ne h0)) (as_qo (div_over p q))))
theorem s61 : Spec Try.prog 61 [Qo p] (Iv (cmpR p 0)) := by
  refine spec_exec (T := .res 5 (Iv (cmpZ p.num 0)) .done) Try.func61 rfl (by kernel_rfl) mixed rfl rfl rfl ?_
  exact And.intro s82 (as_i (cmpR_zero p))
theorem s63 (fx : Q6 p) : Spec Try.prog 63 [Qo p] (Qo (-p)) := by
  refine spec_exec (T := .res 5 (Zv (-p.num)) .done) Try.func63 rfl (by kernel_rfl) mixed rfl rfl rfl ?_
  exact And.intro (s101 (f8 fx.n)) (as_zz (Rat.neg_num p).symm (by rw [Rat.neg_den]))
theorem s58 (fx : Q6 p) (fy : Q6 q) : Spec Try.prog 58 [Qo p, Qo q] (Qo (p - q)) := by
  refine spec_exec (T := .res 7 (Qo (-q)) (.res 8 (Qo (p + -q)) .done)) Try.func58 rfl (by kernel_rfl) mixed rfl rfl rfl ?_
  exact And.intro (s63 fy) (And.intro (s57 fx fy.neg) (as_qo (Rat.sub_eq_add_neg p q).symm))
theorem s79 (fx : Q6 p) : Spec Try.prog 79 [Qo p] (Qo p.abs) := by
  refine spec_exec (T := .res 4 (Iv (cmpR p 0)) (.split 5 (.res 7 (Qo (-p)) .done) .done)) Try.func79 rfl (by kernel_rfl) mixed rfl rfl rfl ?_
  exact And.intro s61 (And.intro (fun h => And.intro (s63 fx) (as_qo (abs_neg' (of_decide_eq_true h)))) (fun h => as_qo (abs_pos' (of_decide_eq_false h))))
theorem s47 (fx : Q6 p) (fy : Q6 q) : Spec Try.prog 47 [Qo p, Qo q] (Iv (cmpR p q)) := by
  refine spec_exec (T := .res 9 (Zv (p.num * q.den)) (.res 14 (Zv (q.num * p.den)) (.res 15 (Iv (cmpZ (p.num * q.den) (q.num * p.den))) .done))) Try.func47 rfl (by kernel_rfl) mixed rfl rfl rfl ?_
  exact And.intro (s74 (f8 fx.n) (f8 fy.d)) (And.intro (s74 (f8 fy.n) (f8 fx.d)) (And.intro (s75 (f8 (fx.n.mul fy.d)) (f8 (fy.n.mul fx.d))) (as_i (cmp_over p q))))
theorem s95 (fx : Q6 p) : Spec Try.prog 95 [Qo p] (Zv p.floor) := by
  refine spec_exec (T := .res 7 (Zv (p.num / p.den)) .done) Try.func95 rfl (by kernel_rfl) mixed rfl rfl rfl ?_
  exact And.intro (s72 (fx.n.mono (by decide)) (fx.d.mono (by decide)) (den_pos p)) (as_z (floor_over p))
theorem s46 (h1 : -9223372036854775808 ≤ x ∧ x < 9223372036854775808) (h2 : -9223372036854775808 ≤ y ∧ y < 9223372036854775808) (hn : x = q.num) (hd : y = (q.den : Int)) : Spec Try.prog 46 [Rv x y] (Qo q) := by
  refine spec_exec (T := .res 5 (Zv x) (.res 8 (Zv y) .done)) Try.func46 rfl (by kernel_rfl) mixed rfl rfl rfl ?_
  exact And.intro (s71 h1.1 h1.2) (And.intro (s71 h2.1 h2.2) (as_zz hn hd))
theorem s43 (h1 : -9223372036854775808 ≤ x ∧ x < 9223372036854775808) (h2 : -9223372036854775808 ≤ y ∧ y < 9223372036854775808) (hd : y ≠ 0) : Spec Try.prog 43 [Iv x, Iv y] (Qo (Rat.divInt x y)) := by
  refine spec_exec (T := .res 6 (Zv x) (.res 8 (Zv y) (.res 9 (Qo (Rat.divInt x y)) .done))) Try.func43 rfl (by kernel_rfl) mixed rfl rfl rfl ?_
  exact And.intro (s71 h1.1 h1.2) (And.intro (s71 h2.1 h2.2) (And.intro (s78 (Fit.mono (Fit.int64 h1.1 (by omega)) (by decide)) (Fit.mono (Fit.int64 h2.1 (by omega)) (by decide)) hd) (AsOk.refl _)))
theorem s94 : Spec Try.prog 94 [Qo q] (ratT q) := by
  refine spec_exec (T := .res 11 (Ib (if -1000000000000 ≤ q.num ∧ q.num ≤ 1000000000000 then q.num else 0) (decide (-1000000000000 ≤ q.num ∧ q.num ≤ 1000000000000)))
    (.res 17 (Ib (if -1000000000000 ≤ (q.den : Int) ∧ (q.den : Int) ≤ 1000000000000 then (q.den : Int) else 0) (decide (-1000000000000 ≤ (q.den : Int) ∧ (q.den : Int) ≤ 1000000000000))) (.split 20 (.split 23 .done .done) .done))) Try.func94 rfl (by kernel_rfl) mixed rfl rfl rfl ?_
  refine And.intro (s83 (by decide) (by decide)) (And.intro (s83 (by decide) (by decide)) (And.intro (fun h => And.intro (fun h2 => ?_) (fun h2 => ?_)) (fun h => ?_)))
  · have h := of_decide_eq_true h
    have h2 := of_decide_eq_true h2
    have hg : good q := ⟨h.1, h.2, h2.2⟩
    unfold ratT
    rw [if_pos h, if_pos h2, if_pos hg, if_pos hg, decide_eq_true hg]
    exact AsOk.refl _
  · have h2 := of_decide_eq_false h2
    have hg : ¬ good q := fun ⟨_, _, g⟩ => h2 ⟨by have := den_pos q; omega, g⟩
    unfold ratT
    rw [if_neg hg, if_neg hg, decide_eq_false hg]
    exact AsOk.refl _
  · have h := of_decide_eq_false h
    have hg : ¬ good q := fun ⟨g, g2, _⟩ => h ⟨g, g2⟩
    unfold ratT
    rw [if_neg hg, if_neg hg, decide_eq_false hg]
    exact AsOk.refl _
end
end Go.Proofs.Ythhgjloephkpaaa.Lx
namespace Go.Proofs.Ythhgjloephkpaaa.Lx
set_option linter.unusedVariables false
set_option linter.unusedSimpArgs false
open Go Go.RowKit Go.Proofs.Ythhgjloephkpaaa Go.Proofs.YthhgjloephkpaaaW.PrintWords Go.Proofs.YthhgjloephkpaaaW.PrintLast
set_option maxRecDepth 100000
/-- A slice of words that is an amount. -/
def Sr : Rel Nat where
  n := 1
  R s cs x := ∃ A n c, cs = [.slice A n c] ∧ Wds s.w A n c (dg x)
  up s t cs x h k := by obtain ⟨A, n, c, e, k⟩ := k; exact ⟨A, n, c, e, k.u h.u⟩
  len s cs x k := by obtain ⟨A, n, c, rfl, _⟩ := k; rfl
  ok s cs x k v hv := by obtain ⟨A, n, c, rfl, _⟩ := k; simp at hv; subst hv; simp [Value.oneCell', noW]
def Sv (x : Nat) : TV := .u ⟨false, [.abs Sr x]⟩
section
variable {γ : Nat → Nat} {s : Kst} {v : Value}
theorem vs {x : Nat} (h : Sl s.w v x) : (Sv x).Rep γ s v := by
  obtain ⟨A, n, c, rfl, k⟩ := h
  exact ⟨rfl, [_], [], rfl, ⟨A, n, c, rfl, k⟩, rfl⟩
theorem bv {b : Bool} (h : (B b).Rep γ s v) : v = .bool b := sc_rep (t := B b) rfl h
end
section
variable {s : Kst} {e : Ending} {w' : World}
theorem ps {x : Nat} (h : RetS s.w x e w') : Post s (Sv x) e w' := by
  obtain ⟨⟨v, rfl, k⟩, hb⟩ := h
  obtain ⟨t, rfl, hl⟩ := s.later hb
  exact ⟨v, t, rfl, rfl, hl, hb, fun δ => vs k⟩
end
section
variable {P : Program} {f : FuncId} {fn : Func} {a b a' b' : TV} {r : TV}
end
section
variable {x y : Int} {p q : Rat} {m n : Nat}
end
end Go.Proofs.Ythhgjloephkpaaa.Lx
namespace Go.Proofs.Ythhgjloephkpaaa.Lx
set_option linter.unusedVariables false
set_option linter.unusedSimpArgs false
open Go Go.RowKit Go.Proofs.Ythhgjloephkpaaa Go.Proofs.YthhgjloephkpaaaW.PrintWords Go.Proofs.YthhgjloephkpaaaW.PrintLast
set_option maxRecDepth 100000
section
variable {S : SS} {o : Oper} {x : Nat}
theorem g_pure {v : TV} (h : ∀ γ s a, OpsSat γ s a S o → ∃ x, (execOp a.eval o).run Try.prog s.w = .ok (.value x) s.w ∧ v.Rep γ s x) : OpGives Try.prog S o v := fun γ s a k => by
  obtain ⟨x, h1, h2⟩ := h γ s a k
  exact ⟨x, s, h1, Le.refl _, Below.refl _ _, h2⟩
end
section
variable {x y : Int} {p q : Rat} {m : Nat}
end
end Go.Proofs.Ythhgjloephkpaaa.Lx
namespace Go.Proofs.Ythhgjloephkpaaa
set_option linter.unusedVariables false
set_option linter.unusedSimpArgs false
open Go Go.RowKit Go.Proofs.YthhgjloephkpaaaW.PrintWords Go.Proofs.YthhgjloephkpaaaW.PrintLast

theorem Zh.to {w : World} {v : Value} {z z' : Int} (h : Zh w v z) (e : z = z') : Zh w v z' := e ▸ h
theorem Qz.to {w : World} {v : Value} {q q' : Rat} (h : Qz w v q) (e : q = q') : Qz w v q' := e ▸ h
end Go.Proofs.Ythhgjloephkpaaa
namespace Go.Proofs.Ythhgjloephkpaaa
set_option linter.unusedVariables false
set_option linter.unusedSimpArgs false
open Go Go.RowKit Go.Proofs.YthhgjloephkpaaaW.PrintWords Go.Proofs.YthhgjloephkpaaaW.PrintLast

/-- A slice of fractions. -/
def Rts (w : World) (A : Option Addr) (n c : Nat) (l : List (Int × Int)) : Prop := l.length = n ∧ n ≤ c ∧ n ≤ 4611686018427387903 ∧ (0 < n → ∃ ad, A = some ad ∧ ∀ i, i < n → w.cell? (ad.add (2 * i)) = some (.int .i64 (l.getD i (0, 0)).1) ∧ w.cell? ((ad.add (2 * i)).add 1) = some (.int .i64 (l.getD i (0, 0)).2))
theorem cell_below {w w' : World} {p : Addr} {v : Value} (h : w.cell? p = some v) (hb : Below w.heap.size w w') : w'.cell? p = some v := by
 rw [← h]
 unfold World.cell? at h ⊢
 have hk : p.block < w.heap.size := by
  rcases Nat.lt_or_ge p.block w.heap.size with h1 | h1
  ·exact h1
  ·rw [Array.getElem?_eq_none h1] at h; cases h
 rw [hb.block _ hk]
theorem Rts.below {w w' : World} {A : Option Addr} {n c : Nat} {l : List (Int × Int)} (h : Rts w A n c l) (hb : Below w.heap.size w w') : Rts w' A n c l := by
 refine ⟨h.1, h.2.1, h.2.2.1, fun h0 => ?_⟩
 obtain ⟨ad, e, hc⟩ := h.2.2.2 h0
 exact ⟨ad, e, fun i hi => ⟨cell_below (hc i hi).1 hb, cell_below (hc i hi).2 hb⟩⟩
theorem Rts.some_ {w : World} {A : Option Addr} {n c : Nat} {l : List (Int × Int)} (h : Rts w A n c l) (h0 : 0 < n) : ∃ ad, A = some ad := by
 obtain ⟨ad, e, _⟩ := h.2.2.2 h0; exact ⟨ad, e⟩
theorem rts_two {w : World} {g : Nat} {p q r s : Int} {t : TypeId} (h : w.heap[g]? = some (.cells #[.int .i64 p, .int .i64 q, .int .i64 r, .int .i64 s] t (0, 0))) : Rts w (some ⟨g, 0, none⟩) 2 2 [(p, q), (r, s)] := by
 refine ⟨rfl, by omega, by omega, fun _ => ⟨_, rfl, fun i hi => ?_⟩⟩
 have hadd : ∀ j, (⟨g, 0, none⟩ : Addr).add j = ⟨g, j, none⟩ := fun j => by unfold Addr.add; split <;> simp_all
 have hadd1 : ∀ j, (⟨g, j, none⟩ : Addr).add 1 = ⟨g, j + 1, none⟩ := fun j => by unfold Addr.add; split <;> simp_all
 rcases (by omega : i = 0 ∨ i = 1) with rfl | rfl
 ·rw [hadd, hadd1, cell_of_row w g _ _ t (0, 0) h, cell_of_row w g _ _ t (0, 0) h]; exact ⟨rfl, rfl⟩
 ·rw [hadd, hadd1, cell_of_row w g _ _ t (0, 0) h, cell_of_row w g _ _ t (0, 0) h]; exact ⟨rfl, rfl⟩
theorem rts_one {w : World} {g : Nat} {p q : Int} {t : TypeId} (h : w.heap[g]? = some (.cells #[.int .i64 p, .int .i64 q] t (0, 0))) : Rts w (some ⟨g, 0, none⟩) 1 1 [(p, q)] := by
 refine ⟨rfl, by omega, by omega, fun _ => ⟨_, rfl, fun i hi => ?_⟩⟩
 have hadd : ∀ j, (⟨g, 0, none⟩ : Addr).add j = ⟨g, j, none⟩ := fun j => by unfold Addr.add; split <;> simp_all
 have hadd1 : ∀ j, (⟨g, j, none⟩ : Addr).add 1 = ⟨g, j + 1, none⟩ := fun j => by unfold Addr.add; split <;> simp_all
 obtain rfl : i = 0 := by omega
 rw [hadd, hadd1, cell_of_row w g _ _ t (0, 0) h, cell_of_row w g _ _ t (0, 0) h]; exact ⟨rfl, rfl⟩
section
variable {w0 w : World} {L : List Bx} {a : Act} {K : Act → World → Prop} {Q : Exit → Act → World → Prop} {o : Oper}
theorem size54 : (Try.prog.info? 23).map (·.size) = some 2 := by kernel_rfl
theorem run_idx54 {x y : Operand} {b : Addr} {n c j : Nat} (ho : o.op = .indexAddr 54 x y) (hx : a.eval x = .slice (some b) n c) (hy : a.eval y = .int .i64 (j : Int)) (hj : j < n) : (execOp a.eval o).run Try.prog w = .ok (.value (.pointer (some (b.add (2 * j))))) w := by
 have h0 : (0 : Int) ≤ (j : Int) ∧ (j : Int) < (n : Int) := ⟨by omega, by omega⟩
 have hu : Try.prog.underlying 54 = some (.slice 23) := by kernel_rfl
 obtain ⟨i, hi, hz⟩ := Option.map_eq_some_iff.1 size54
 unfold execOp
 simp only [ho, hx, hy]
 simp [go_sem, h0, run_underlying hu, sizeOf, typeInfo, hi, hz, Nat.mul_comm]
theorem run_load23 {x : Operand} {p : Addr} {m n : Int} (ho : o.op = .load 23 x) (hx : a.eval x = .pointer (some p)) (h : w.cell? p = some (.int .i64 m) ∧ w.cell? (p.add 1) = some (.int .i64 n)) : (execOp a.eval o).run Try.prog w = .ok (.value (.agg #[.int .i64 m, .int .i64 n])) w := by
 have hl : (loadCells p 2).run Try.prog w = .ok #[.int .i64 m, .int .i64 n] w :=
  run_loadCells_list (P := Try.prog) w p [.int .i64 m, .int .i64 n] (fun j v hj => by
   match j, hj with
   | 0, hj => simp at hj; subst hj; rw [show p.add 0 = p from by unfold Addr.add; split <;> simp_all]; exact h.1
   | 1, hj => simp at hj; subst hj; exact h.2
   | j + 2, hj => simp at hj)
 unfold execOp
 simp only [ho, hx, Instr.loadAt, Instr.sureAddr, Sem.run_bind, Sem.run_pure, Result.andThen_ok, loadVar, ag23 w, sz23 w, if_true, hl]
set_option maxRecDepth 100000 in
theorem run_lit54 (ρ : Operand → Value) (o : Oper) (w : World) (x y : Operand) (p q r s : Int) (ho : o.op = .buildSlice 54 2 #[(0, x), (1, y)]) (hc : ρ x = .agg #[.int .i64 p, .int .i64 q]) (hd : ρ y = .agg #[.int .i64 r, .int .i64 s]) : (execOp ρ o).run Try.prog w = .ok (.value (.slice (some ⟨w.heap.size, 0, none⟩) 2 2)) (w.alloc (.cells #[.int .i64 p, .int .i64 q, .int .i64 r, .int .i64 s] 23)) := by
 unfold execOp
 simp only [ho, List.map_toArray, List.map_cons, List.map_nil, hc, hd]
 first | kernel_rfl | simp [go_sem]
set_option maxRecDepth 100000 in
theorem run_lit54_1 (ρ : Operand → Value) (o : Oper) (w : World) (x : Operand) (p q : Int) (ho : o.op = .buildSlice 54 1 #[(0, x)]) (hc : ρ x = .agg #[.int .i64 p, .int .i64 q]) : (execOp ρ o).run Try.prog w = .ok (.value (.slice (some ⟨w.heap.size, 0, none⟩) 1 1)) (w.alloc (.cells #[.int .i64 p, .int .i64 q] 23)) := by
 unfold execOp
 simp only [ho, List.map_toArray, List.map_cons, List.map_nil, hc]
 first | kernel_rfl | simp [go_sem]
end
/-- The error of a test: none, or that it is no fraction. -/
def errV (b : Prop) [Decidable b] : Int := if b then 0 else 1
theorem errV_t {b : Prop} [Decidable b] (h : b) : errV b = 0 := if_pos h
theorem errV_f {b : Prop} [Decidable b] (h : ¬ b) : errV b = 1 := if_neg h
/-- All of them are fractions in their form. -/
def Alls (l : List (Int × Int)) : Prop := ∀ x ∈ l, IsQ x.1 x.2
instance (l : List (Int × Int)) : Decidable (Alls l) := by unfold Alls; infer_instance
theorem alls_two {p q r s : Int} : Alls [(p, q), (r, s)] ↔ IsQ p q ∧ IsQ r s := by unfold Alls; simp
theorem alls_one {p q : Int} : Alls [(p, q)] ↔ IsQ p q := by unfold Alls; simp
theorem gcd_tmod (a b : Int) : Int.gcd b (a.tmod b) = Int.gcd a b := by
 show Nat.gcd b.natAbs (a.tmod b).natAbs = Nat.gcd a.natAbs b.natAbs
 rw [show (a.tmod b).natAbs = a.natAbs % b.natAbs from Int.natAbs_tmod a b, Nat.gcd_comm b.natAbs, ← Nat.gcd_rec, Nat.gcd_comm]
theorem tmod_lt {a b : Int} (hb : b ≠ 0) : (a.tmod b).natAbs < b.natAbs := by
 rw [show (a.tmod b).natAbs = a.natAbs % b.natAbs from Int.natAbs_tmod a b]; exact Nat.mod_lt _ (by omega)
theorem isq_num {p q : Int} (h : IsQ p q) : p = (Rat.divInt p q).num ∧ q = ((Rat.divInt p q).den : Int) := ratio_gcd1 (by have := h.1; omega) h.2.2.2.2
theorem isq_fit {p q : Int} (h : IsQ p q) : QFit 1000 (Rat.divInt p q) := by
 have h2 := h.2
 exact QFit.over ((Fit.int64 (by omega) (by omega)).mono (by decide)) ((Fit.int64 (by have := h.1; omega) (by omega)).mono (by decide)) (by have := h.1; omega)
end Go.Proofs.Ythhgjloephkpaaa
namespace Go.Proofs.Ythhgjloephkpaaa.Lx
set_option linter.unusedVariables false
set_option linter.unusedSimpArgs false
open Go Go.RowKit Go.Proofs.Ythhgjloephkpaaa Go.Proofs.YthhgjloephkpaaaW.PrintWords Go.Proofs.YthhgjloephkpaaaW.PrintLast
set_option maxRecDepth 100000
section
variable {S : SS} {o : Oper} {a b : Int}
theorem g_rem {x y : Operand} {u : TypeId} (ho : o.op = .binOp .rem 3 x y u) (hx : opT S x = some (Iv a)) (hy : opT S y = some (Iv b)) (h : b ≠ 0) : OpGives Try.prog S o (Iv (a.tmod b)) := g_pure fun γ s c k => by
  have e1 := iv (k x (by rw [ho]; simp [Op.operands]) _ hx)
  have e2 := iv (k y (by rw [ho]; simp [Op.operands]) _ hy)
  exact ⟨_, run_bin _ _ _ ho e1 e2 (bin_rem_3 x y a b h), vi⟩
end
theorem w64 {z : Int} (h : -9223372036854775808 ≤ z ∧ z < 9223372036854775808) : IntKind.i64.wrap z = z := by rw [IntKind.wrap_i64]; omega
structure GV (p q : Int) where
  a : Int
  b : Int
  h : Int.gcd a b = Nat.gcd p.natAbs q.natAbs
theorem isq_of {p q : Int} (h : 1 ≤ q ∧ q ≤ 1000000000000 ∧ -1000000000000 ≤ p ∧ p ≤ 1000000000000) : IsQ p q ↔ Nat.gcd p.natAbs q.natAbs = 1 := ⟨fun k => k.2.2.2.2, fun k => ⟨h.1, h.2.1, h.2.2.1, h.2.2.2, k⟩⟩
section
variable {p q : Int}
theorem s49 : Spec Try.prog 49 [Rv p q] (B (decide (IsQ p q))) := by
  let tl : Tr := .loop (⟨p, q, rfl⟩ : GV p q) (fun g => ⟨[(3, Iv g.a), (4, Iv g.b)], [], 1, 39⟩) (fun g => g.b.natAbs) fun g => .split 28 (.op 32 (Iv (g.a.tmod g.b)) .done) (.split 34 .done .done)
  refine spec_exec (T := .split 7 .done (.split 11 .done (.split 16 .done (.split 21 .done tl)))) Try.func49 rfl (by kernel_rfl) mixed rfl rfl rfl ?_
  have no : ¬ IsQ p q → AsOk (B false) (B (decide (IsQ p q))) := fun h => as_b (decide_eq_false h).symm
  refine And.intro (fun h1 => no fun h => ?_) (fun h1 => And.intro (fun h2 => no fun h => ?_) (fun h2 => And.intro (fun h3 => no fun h => ?_) (fun h3 => And.intro (fun h4 => no fun h => ?_) (fun h4 => ?_))))
  · have := of_decide_eq_true h1; have := h.1; omega
  · have := of_decide_eq_true h2; have := h.2.1; omega
  · have := of_decide_eq_true h3; have := h.2.2.2.1; omega
  · have := of_decide_eq_true h4; have := h.2.2.1; omega
  have h1 := of_decide_eq_false h1
  have h2 := of_decide_eq_false h2
  have h3 := of_decide_eq_false h3
  have h4 := of_decide_eq_false h4
  have hq := isq_of (p := p) (q := q) ⟨by omega, by omega, by omega, by omega⟩
  refine And.intro ⟨by kernel_rfl, rfl, And.intro (AsOk.refl _) (And.intro (AsOk.refl _) trivial), trivial⟩ ?_
  rintro ⟨a, b, hg⟩
  refine And.intro (fun hb => ?_) (fun hb => ?_)
  · have hb : b ≠ 0 := by
      have : (b != 0) = true := hb
      simpa using this
    refine And.intro (g_rem rfl rfl rfl hb) ?_
    refine Exists.intro ⟨b, a.tmod b, (gcd_tmod a b).trans hg⟩ (And.intro ⟨by kernel_rfl, rfl, And.intro (AsOk.refl _) (And.intro (AsOk.refl _) trivial), trivial⟩ ?_)
    exact tmod_lt hb
  · have hb : b = 0 := by
      have : (b != 0) = false := hb
      simpa using this
    subst hb
    rw [Int.gcd_zero_right] at hg
    refine And.intro (fun h => ?_) (fun h => ?_)
    · have h : a = 1 := by
        have : (a == 1) = true := h
        simpa using this
      exact as_b (decide_eq_true (hq.2 (by rw [← hg, h]; rfl))).symm
    · have h : a ≠ 1 := by
        have : (a == 1) = false := h
        simpa using this
      refine as_b (a := a == -1) ?_
      rw [Bool.eq_iff_iff, decide_eq_true_eq, hq, ← hg]
      simp only [beq_iff_eq]
      omega
theorem s14 : Spec Try.prog 14 [Rv p q] (Iv (errV (IsQ p q))) := by
  refine spec_exec (T := .res 4 (B (decide (IsQ p q))) (.split 5 .done .done)) Try.func14 rfl (by kernel_rfl) mixed rfl rfl rfl ?_
  refine And.intro s49 (And.intro (fun h => as_i (a := 1) ?_) (fun h => as_i (a := 0) ?_))
  · have h : (!decide (IsQ p q)) = true := h
    exact (errV_f (by simpa using h)).symm
  · have h : (!decide (IsQ p q)) = false := h
    exact (errV_t (by simpa using h)).symm
end
end Go.Proofs.Ythhgjloephkpaaa.Lx
namespace Go.Proofs.Ythhgjloephkpaaa.Lx
set_option linter.unusedVariables false
set_option linter.unusedSimpArgs false
open Go Go.RowKit Go.Proofs.Ythhgjloephkpaaa Go.Proofs.YthhgjloephkpaaaW.PrintWords Go.Proofs.YthhgjloephkpaaaW.PrintLast
set_option maxRecDepth 100000
/-- What lies in frozen blocks stays. -/
theorem cell_le {s t : Kst} {p : Addr} (h : Le s t) (hf : s.fz p.block) : t.w.cell? p = s.w.cell? p := by
  unfold World.cell?
  rw [(h.keep _ hf).2]
theorem addr_block (p : Addr) (j : Nat) : (p.add j).block = p.block := by unfold Addr.add; split <;> rfl
/-- A slice of fractions in a frozen block. -/
def Lr : Rel (List (Int × Int)) where
  n := 1
  R s cs l := ∃ A n c, cs = [.slice A n c] ∧ Rts s.w A n c l ∧ ∀ ad, 0 < n → A = some ad → s.fz ad.block
  up s t cs l h k := by
    obtain ⟨A, n, c, e, k, f⟩ := k
    refine ⟨A, n, c, e, ⟨k.1, k.2.1, k.2.2.1, fun h0 => ?_⟩, fun ad h0 ea => (h.keep _ (f ad h0 ea)).1⟩
    obtain ⟨ad, ea, hc⟩ := k.2.2.2 h0
    have hf := f ad h0 ea
    refine ⟨ad, ea, fun i hi => ?_⟩
    rw [cell_le h (by rw [addr_block]; exact hf), cell_le h (by rw [addr_block, addr_block]; exact hf)]
    exact hc i hi
  len s cs x k := by obtain ⟨A, n, c, rfl, _⟩ := k; rfl
  ok s cs x k v hv := by obtain ⟨A, n, c, rfl, _⟩ := k; simp at hv; subst hv; simp [Value.oneCell', noW]
/-- The address of a fraction in a frozen block. -/
def Br : Rel (Int × Int) where
  n := 1
  R s cs x := ∃ p, cs = [.pointer (some p)] ∧ s.fz p.block ∧ s.w.cell? p = some (.int .i64 x.1) ∧ s.w.cell? (p.add 1) = some (.int .i64 x.2)
  up s t cs x h k := by
    obtain ⟨p, e, f, k1, k2⟩ := k
    exact ⟨p, e, (h.keep _ f).1, by rw [cell_le h f]; exact k1, by rw [cell_le h (by rw [addr_block]; exact f)]; exact k2⟩
  len s cs x k := by obtain ⟨p, rfl, _⟩ := k; rfl
  ok s cs x k v hv := by obtain ⟨p, rfl, _⟩ := k; simp at hv; subst hv; simp [Value.oneCell', noW]
def Lv (l : List (Int × Int)) : TV := .u ⟨false, [.abs Lr l]⟩
def Bv (x : Int × Int) : TV := .u ⟨false, [.abs Br x]⟩
section
variable {γ : Nat → Nat} {s : Kst} {v : Value}
theorem lv {l : List (Int × Int)} (h : (Lv l).Rep γ s v) : ∃ A n c, v = .slice A n c ∧ Rts s.w A n c l ∧ ∀ ad, 0 < n → A = some ad → s.fz ad.block := by
  obtain ⟨h1, a, b, e, ⟨A, n, c, rfl, k⟩, k2⟩ := h
  rw [show b = [] from k2] at e
  exact ⟨A, n, c, by simpa using e, k⟩
theorem vl {A : Option Addr} {n c : Nat} {l : List (Int × Int)} (k : Rts s.w A n c l) (f : ∀ ad, 0 < n → A = some ad → s.fz ad.block) : (Lv l).Rep γ s (.slice A n c) :=
  ⟨rfl, [_], [], rfl, ⟨A, n, c, rfl, k, f⟩, rfl⟩
theorem vr {p q : Int} : (Rv p q).Rep γ s (.agg #[.int .i64 p, .int .i64 q]) := ⟨[_, _], rfl, [_], [_], rfl, ⟨rfl, rfl⟩, [_], [], rfl, ⟨rfl, rfl⟩, rfl⟩
end
section
variable {S : SS} {o : Oper} {l : List (Int × Int)}
theorem g_len54 {y : Operand} (ho : o.op = .call { callee := .builtin .len, args := #[y], argTypes := #[54] }) (hy : opT S y = some (Lv l)) : OpGives Try.prog S o (Iv (l.length : Nat)) := g_pure fun γ s a k => by
  obtain ⟨A, n, c, e, h, _⟩ := lv (k y (by rw [ho]; simp [Op.operands, Call.operands]) _ hy)
  exact ⟨_, run_len54 ho e, by rw [h.1]; exact vi⟩
theorem g_idx54 {y z : Operand} {i : Nat} (ho : o.op = .indexAddr 54 y z) (hy : opT S y = some (Lv l)) (hz : opT S z = some (Iv (i : Nat))) (hi : i < l.length) : OpGives Try.prog S o (Bv (l.getD i (0, 0))) := g_pure fun γ s a k => by
  obtain ⟨A, n, c, e, h, f⟩ := lv (k y (by rw [ho]; simp [Op.operands]) _ hy)
  have e2 := iv (k z (by rw [ho]; simp [Op.operands]) _ hz)
  have hn : i < n := by rw [← h.1]; exact hi
  obtain ⟨ad, rfl, hc⟩ := h.2.2.2 (by omega)
  exact ⟨_, run_idx54 ho e e2 hn, rfl, [_], [], rfl, ⟨_, rfl, by rw [addr_block]; exact f ad (by omega) rfl, (hc i hn).1, (hc i hn).2⟩, rfl⟩
theorem g_ld23 {y : Operand} {x : Int × Int} (ho : o.op = .load 23 y) (hy : opT S y = some (Bv x)) : OpGives Try.prog S o (Rv x.1 x.2) := g_pure fun γ s a k => by
  obtain ⟨h1, p, q, e, ⟨ad, rfl, f, hc1, hc2⟩, h2⟩ := k y (by rw [ho]; simp [Op.operands]) _ hy
  rw [show q = [] from h2] at e
  have e : a.eval y = .pointer (some ad) := by simpa using e
  exact ⟨_, run_load23 ho e ⟨hc1, hc2⟩, vr⟩
/-- A new block, frozen. -/
def Kst.frz (s : Kst) (o : Obj) : Kst := ⟨s.w.alloc o, fun g => s.fz g ∨ g = s.w.heap.size, fun g h => by rw [alloc_size]; rcases h with h | h; have := s.lt g h; omega; omega⟩
theorem Kst.le_frz (s : Kst) (o : Obj) : Le s (s.frz o) :=
  ⟨U.box _ _, fun g h => ⟨.inl h, Below.heap_alloc _ _ _ (s.lt g h)⟩, by show _ ≤ (s.w.alloc o).heap.size; rw [alloc_size]; omega, fun g h => h.elim .inl (fun e => .inr (by omega))⟩
theorem g_lit1 {y : Operand} {p q : Int} (ho : o.op = .buildSlice 54 1 #[(0, y)]) (hy : opT S y = some (Rv p q)) : OpGives Try.prog S o (Lv [(p, q)]) := fun γ s a k => by
  have e := rv (k y (by rw [ho]; simp [Op.operands]) _ hy)
  have hself : (s.w.alloc (.cells #[.int .i64 p, .int .i64 q] 23)).heap[s.w.heap.size]? = some (.cells #[.int .i64 p, .int .i64 q] 23 (0, 0)) := Array.getElem?_push_size
  refine ⟨_, s.frz (.cells #[.int .i64 p, .int .i64 q] 23), run_lit54_1 a.eval o s.w y p q ho e, s.le_frz _, (Below.refl _ _).alloc (Nat.le_refl _) _, vl (rts_one hself) fun ad _ e => ?_⟩
  injection e with e; subst e; exact .inr rfl
theorem g_lit2 {y z : Operand} {p q m n : Int} (ho : o.op = .buildSlice 54 2 #[(0, y), (1, z)]) (hy : opT S y = some (Rv p q)) (hz : opT S z = some (Rv m n)) : OpGives Try.prog S o (Lv [(p, q), (m, n)]) := fun γ s a k => by
  have e := rv (k y (by rw [ho]; simp [Op.operands]) _ hy)
  have e2 := rv (k z (by rw [ho]; simp [Op.operands]) _ hz)
  have hself : (s.w.alloc (.cells #[.int .i64 p, .int .i64 q, .int .i64 m, .int .i64 n] 23)).heap[s.w.heap.size]? = some (.cells #[.int .i64 p, .int .i64 q, .int .i64 m, .int .i64 n] 23 (0, 0)) := Array.getElem?_push_size
  refine ⟨_, s.frz (.cells #[.int .i64 p, .int .i64 q, .int .i64 m, .int .i64 n] 23), run_lit54 a.eval o s.w y z p q m n ho e e2, s.le_frz _, (Below.refl _ _).alloc (Nat.le_refl _) _, vl (rts_two hself) fun ad _ e => ?_⟩
  injection e with e; subst e; exact .inr rfl
end
theorem lv_len {l : List (Int × Int)} {P : Program} {f : FuncId} {r : TV} {fn : Func} (hf : P.funcs[f]? = some fn) (hname : (fn.name == "runtime.NumGoroutine") = false) (hb : fn.body.isSome = true)
    (h : l.length ≤ 4611686018427387903 → Spec P f [Lv l] r) : Spec P f [Lv l] r :=
  ⟨fun vs w => enters_ hf hname hb vs w, fun γ s vs ⟨x, y, e1, k1, k2⟩ => by
    obtain ⟨A, n, c, e, hr, _⟩ := lv k1
    exact (h (by rw [hr.1]; exact hr.2.2.1)).run γ s vs ⟨x, y, e1, k1, k2⟩⟩
/-- So many of a list are in their form. -/
structure GL (l : List (Int × Int)) where
  i : Nat
  hi : i ≤ l.length
  h : ∀ j, j < i → IsQ (l.getD j (0, 0)).1 (l.getD j (0, 0)).2
theorem isq_next {l : List (Int × Int)} {i : Nat} (h : ∀ j, j < i → IsQ (l.getD j (0, 0)).1 (l.getD j (0, 0)).2) (hy : IsQ (l.getD i (0, 0)).1 (l.getD i (0, 0)).2) : ∀ j, j < i + 1 → IsQ (l.getD j (0, 0)).1 (l.getD j (0, 0)).2 := fun j hj => by
  rcases Nat.lt_or_ge j i with h' | h'
  · exact h j h'
  · rw [show j = i from by omega]; exact hy
theorem alls_of {l : List (Int × Int)} (h : ∀ j, j < l.length → IsQ (l.getD j (0, 0)).1 (l.getD j (0, 0)).2) : Alls l := fun x hx => by
  obtain ⟨j, hj, e⟩ := List.getElem_of_mem hx
  have := h j hj
  rw [List.getD_eq_getElem?_getD, List.getElem?_eq_getElem hj, Option.getD_some, e] at this
  exact this
theorem alls_at {l : List (Int × Int)} {i : Nat} (h : Alls l) (hi : i < l.length) : IsQ (l.getD i (0, 0)).1 (l.getD i (0, 0)).2 := by
  rw [List.getD_eq_getElem?_getD, List.getElem?_eq_getElem hi, Option.getD_some]
  exact h _ (List.getElem_mem hi)
section
variable {l : List (Int × Int)} {p q m n : Int} {x y : Rat}
theorem s45 : Spec Try.prog 45 [Lv l] (Iv (errV (Alls l))) := by
  refine lv_len Try.func45 (by kernel_rfl) rfl fun hl => ?_
  let at_ (i : Nat) : Int × Int := l.getD i (0, 0)
  refine spec_exec (T := .op 7 (Iv (l.length : Nat)) (.loop (⟨0, Nat.zero_le _, fun _ h => by omega⟩ : GL l) (fun g => ⟨[(6, Lv l), (7, Iv (l.length : Nat)), (8, Iv (g.i : Nat))], [], 0, 18⟩) (fun g => l.length - g.i) fun g =>
    .split 9 (.op 10 (Bv (at_ g.i)) (.op 11 (Rv (at_ g.i).1 (at_ g.i).2) (.res 13 (Iv (errV (IsQ (at_ g.i).1 (at_ g.i).2))) (.split 15 .done (.as 17 (Iv ((g.i + 1 : Nat) : Int)) .done))))) .done)) Try.func45 rfl (by kernel_rfl) mixed rfl rfl rfl ?_
  refine And.intro (g_len54 rfl rfl) (And.intro ⟨by kernel_rfl, rfl, And.intro (AsOk.refl _) (And.intro (AsOk.refl _) (And.intro (AsOk.refl _) trivial)), trivial⟩ ?_)
  rintro ⟨i, hi, hj⟩
  refine And.intro (fun h => ?_) (fun h => ?_)
  · have h : ((i : Nat) : Int) < (l.length : Nat) := of_decide_eq_true h
    have e1 : IntKind.i64.wrap ((i : Int) + 1) = ((i + 1 : Nat) : Int) := by rw [w64 (by omega)]; omega
    refine And.intro (g_idx54 (i := i) rfl rfl rfl (by omega)) (And.intro (g_ld23 rfl rfl) (And.intro s14 (And.intro (fun h2 => ?_) (fun h2 => And.intro (as_i e1) ?_))))
    · have h2 : (errV (IsQ (at_ i).1 (at_ i).2) != 0) = true := h2
      have hn : ¬ IsQ (at_ i).1 (at_ i).2 := fun h => by rw [errV_t h] at h2; cases h2
      refine as_i ?_
      rw [errV_f hn, errV_f fun h => hn (alls_at h (by omega))]
    · have h2 : (errV (IsQ (at_ i).1 (at_ i).2) != 0) = false := h2
      have hy : IsQ (at_ i).1 (at_ i).2 := Classical.byContradiction fun h => by rw [errV_f h] at h2; cases h2
      exact Exists.intro ⟨i + 1, by omega, isq_next hj hy⟩
        (And.intro ⟨by kernel_rfl, rfl, And.intro (AsOk.refl _) (And.intro (AsOk.refl _) (And.intro (AsOk.refl _) trivial)), trivial⟩ (by show l.length - (i + 1) < l.length - i; omega))
  · have h : ¬ ((i : Nat) : Int) < (l.length : Nat) := of_decide_eq_false h
    exact as_i (errV_t (alls_of fun j h' => hj j (by omega))).symm
theorem s42 : Spec Try.prog 42 [Qo x] (toldT x) := by
  refine spec_exec (T := .res 8 (ratT x) (.split 11 .done .done)) Try.func42 rfl (by kernel_rfl) mixed rfl rfl rfl ?_
  refine And.intro s94 (And.intro (fun h => ?_) (fun h => ?_))
  · have h := of_decide_eq_true h
    show AsOk (Re _ _ _) (toldT x)
    unfold toldT
    rw [if_pos h, if_pos h, if_pos h]
    exact AsOk.refl _
  · have h := of_decide_eq_false h
    show AsOk (Re _ _ _) (toldT x)
    unfold toldT
    rw [if_neg h, if_neg h, if_neg h]
    exact AsOk.refl _
/-- A number of two ints, or what is wrong with them. -/
def makeT (n d : Int) : TV := if d = 0 then Re 0 0 1 else toldT (Rat.divInt n d)
abbrev In64 (z : Int) : Prop := -9223372036854775808 ≤ z ∧ z < 9223372036854775808
theorem s10 (h1 : In64 p) (h2 : In64 q) : Spec Try.prog 10 [Iv p, Iv q] (makeT p q) := by
  unfold makeT
  by_cases h : q = 0
  · rw [if_pos h]
    refine spec_exec (T := .is 7 true .done) Try.func10 rfl (by kernel_rfl) mixed rfl rfl rfl ?_
    exact And.intro (by subst h; rfl) (AsOk.refl _)
  · rw [if_neg h]
    refine spec_exec (T := .is 7 false (.res 11 (Qo (Rat.divInt p q)) (.res 12 (toldT (Rat.divInt p q)) .done))) Try.func10 rfl (by kernel_rfl) mixed rfl rfl rfl ?_
    exact And.intro (by simpa using h) (And.intro (s43 h1 h2 h) (And.intro s42 (AsOk.refl _)))
end
end Go.Proofs.Ythhgjloephkpaaa.Lx
namespace Go.Proofs.YthhgjloephkpaaaW.PrintWords
open Go.RowKit
section
variable {P : Program} {d : Nat} {xs ys : Array Value} {f : Field} {fs : List Field} {a b : Value} {r s : Bool} {w : World}
/-- The last field that counts. -/
theorem eqf_last (hn : (f.name == "_") = false) (ha : (part f.type xs f.offset).run P w = .ok a w) (hb : (part f.type ys f.offset).run P w = .ok b w) (he : (Op.equalIn d f.type a b).run P w = .ok r w) : (Op.eqFields d xs ys [f]).run P w = .ok r w := by
  have hn' : f.name ≠ "_" := by simpa using hn
  simp only [Op.eqFields, if_pos hn', Sem.run_bind, ha, hb, he, Result.andThen_ok]
  cases r <;> simp
theorem eqf_cons (hn : (f.name == "_") = false) (ha : (part f.type xs f.offset).run P w = .ok a w) (hb : (part f.type ys f.offset).run P w = .ok b w) (he : (Op.equalIn d f.type a b).run P w = .ok r w) (hr : (Op.eqFields d xs ys fs).run P w = .ok s w) : (Op.eqFields d xs ys (f :: fs)).run P w = .ok (r && s) w := by
  have hn' : f.name ≠ "_" := by simpa using hn
  rw [Op.eqFields]
  simp only [if_pos hn', Sem.run_bind, ha, hb, he, Result.andThen_ok]
  cases r
  · simp
  · simpa using hr
theorem eqA_of {t : TypeId} {fs : Array Field} (hu : P.underlying t = some (.struct fs)) (hp : P.stoodInHeld t = false) (h : (Op.eqFields d xs ys fs.toList).run P w = .ok r w) : (Op.equalIn (d + 1) t (.agg xs) (.agg ys)).run P w = .ok r w := by
  have hf : P.fieldsOf t = fs := by simp [Program.fieldsOf, hu]
  rw [run_equalIn_struct (P := P) w d t xs ys (by rw [hf]; exact hu) hp, hf]
  exact h
end
end Go.Proofs.YthhgjloephkpaaaW.PrintWords
namespace Go.Proofs.Ythhgjloephkpaaa.Lx
set_option linter.unusedVariables false
set_option linter.unusedSimpArgs false
open Go Go.RowKit Go.Proofs.Ythhgjloephkpaaa Go.Proofs.YthhgjloephkpaaaW.PrintWords Go.Proofs.YthhgjloephkpaaaW.PrintLast
set_option maxRecDepth 100000
section
variable {w : World}
theorem eq23 (p q r s : Int) : (Op.equal 23 (.agg #[.int .i64 p, .int .i64 q]) (.agg #[.int .i64 r, .int .i64 s])).run Try.prog w = .ok ((p == r) && (q == s)) w := by
  show (Op.equalIn (9999 + 1) 23 _ _).run Try.prog w = _
  refine eqA_of Try.underlying23 (by kernel_rfl) ?_
  refine eqf_cons (a := .int .i64 p) (b := .int .i64 r) (by rfl) (by rfl) (by rfl) (run_equalIn_int (P := Try.prog) w 9998 _ .i64 .i64 p r Try.underlying3) ?_
  exact eqf_last (a := .int .i64 q) (b := .int .i64 s) (by rfl) (by rfl) (by rfl) (run_equalIn_int (P := Try.prog) w 9998 _ .i64 .i64 q s Try.underlying3)
theorem bin_eql_23 (x y : Operand) (p q r s : Int) : (do eqGuard .eql 23 x y (.agg #[.int .i64 p, .int .i64 q]) (.agg #[.int .i64 r, .int .i64 s]); binOp .eql 23 (.agg #[.int .i64 p, .int .i64 q]) (.agg #[.int .i64 r, .int .i64 s]) : Sem Value).run Try.prog w = .ok (.bool ((p == r) && (q == s))) w := by
  simp [eqGuard, binOp, go_sem, eq23]
theorem bin_neq_23 (x y : Operand) (p q r s : Int) : (do eqGuard .neq 23 x y (.agg #[.int .i64 p, .int .i64 q]) (.agg #[.int .i64 r, .int .i64 s]); binOp .neq 23 (.agg #[.int .i64 p, .int .i64 q]) (.agg #[.int .i64 r, .int .i64 s]) : Sem Value).run Try.prog w = .ok (.bool (!((p == r) && (q == s)))) w := by
  simp [eqGuard, binOp, go_sem, eq23]
end
section
variable {S : SS} {o : Oper} {p q r s : Int}
theorem g_eq23 {x y : Operand} {u : TypeId} (ho : o.op = .binOp .eql 23 x y u) (hx : opT S x = some (Rv p q)) (hy : opT S y = some (Rv r s)) : OpGives Try.prog S o (B ((p == r) && (q == s))) := g_pure fun γ t c k => by
  have e1 := rv (k x (by rw [ho]; simp [Op.operands]) _ hx)
  have e2 := rv (k y (by rw [ho]; simp [Op.operands]) _ hy)
  exact ⟨_, run_bin _ _ _ ho e1 e2 (bin_eql_23 x y p q r s), vb⟩
theorem g_ne23 {x y : Operand} {u : TypeId} (ho : o.op = .binOp .neq 23 x y u) (hx : opT S x = some (Rv p q)) (hy : opT S y = some (Rv r s)) : OpGives Try.prog S o (B (!((p == r) && (q == s)))) := g_pure fun γ t c k => by
  have e1 := rv (k x (by rw [ho]; simp [Op.operands]) _ hx)
  have e2 := rv (k y (by rw [ho]; simp [Op.operands]) _ hy)
  exact ⟨_, run_bin _ _ _ ho e1 e2 (bin_neq_23 x y p q r s), vb⟩
end
theorem isq64 {p q : Int} (h : IsQ p q) : In64 p ∧ In64 q := ⟨⟨by have := h.2.2.1; omega, by have := h.2.2.2.1; omega⟩, by have := h.1; omega, by have := h.2.1; omega⟩
theorem isq_fit {p q : Int} (h : IsQ p q) : Q6 (Rat.divInt p q) := ⟨by rw [← (isq_num h).1]; exact fi (isq64 h).1, by rw [← (isq_num h).2]; exact fi (isq64 h).2⟩
section
variable {p q r s n d : Int}
/-- Two ints. -/
def Ii (a b : Int) : TV := .tup [⟨false, [.val (.int .i64 a)]⟩, ⟨false, [.val (.int .i64 b)]⟩]
theorem floor_in {p q : Int} (h : IsQ p q) : -1000000000000 ≤ (Rat.divInt p q).floor ∧ (Rat.divInt p q).floor ≤ 1000000000000 := by
  obtain ⟨h1, h2⟩ := isq_num h
  rw [Rat.floor_def, ← h1, ← h2]
  have h3 : (p / q).natAbs ≤ p.natAbs := Int.natAbs_ediv_le_natAbs p q
  have h4 := h.2
  omega
/-- What the floor answers. -/
def floorT (p q : Int) : TV := if IsQ p q then Ii (Rat.divInt p q).floor 0 else Ii 0 1
theorem s51 : Spec Try.prog 51 [Rv p q] (floorT p q) := by
  unfold floorT
  by_cases h : IsQ p q
  · rw [if_pos h]
    have hf := floor_in h
    refine spec_exec (T := .op 8 (Lv [(p, q)]) (.res 9 (Iv (errV (Alls [(p, q)]))) (.as 9 (Iv 0) (.res 15 (Qo (Rat.divInt p q)) (.res 16 (Zv (Rat.divInt p q).floor) (.res 17 (Ib (Rat.divInt p q).floor true) .done)))))) Try.func51 rfl (by kernel_rfl) mixed rfl rfl rfl ?_
    refine And.intro (g_lit1 rfl rfl) (And.intro s45 (And.intro (as_i (errV_t (alls_one.2 h))) (And.intro (s46 (isq64 h).1 (isq64 h).2 (isq_num h).1 (isq_num h).2) (And.intro (s95 (isq_fit h)) (And.intro ((s83 (by decide) (by decide)).to ?_) (AsOk.refl _))))))
    rw [if_pos hf, decide_eq_true hf]
    exact AsOk.refl _
  · rw [if_neg h]
    refine spec_exec (T := .op 8 (Lv [(p, q)]) (.res 9 (Iv (errV (Alls [(p, q)]))) (.as 9 (Iv 1) .done))) Try.func51 rfl (by kernel_rfl) mixed rfl rfl rfl ?_
    exact And.intro (g_lit1 rfl rfl) (And.intro s45 (And.intro (as_i (errV_f fun k => h (alls_one.1 k))) (AsOk.refl _)))
end
end Go.Proofs.Ythhgjloephkpaaa.Lx
namespace Go.Proofs.Ythhgjloephkpaaa.Lx
set_option linter.unusedVariables false
set_option linter.unusedSimpArgs false
open Go Go.RowKit Go.Proofs.Ythhgjloephkpaaa Go.Proofs.YthhgjloephkpaaaW.PrintWords Go.Proofs.YthhgjloephkpaaaW.PrintLast
set_option maxRecDepth 100000
def q227 : Rat := ⟨22, 7, by decide, by decide⟩
structure G where
  n : Int
  d : Int
  p0 : Int
  q0 : Int
  p1 : Int
  q1 : Int
  h : (n = 22 ∧ d = 7 ∧ p0 = 0 ∧ q0 = 1 ∧ p1 = 1 ∧ q1 = 0) ∨ (n = 7 ∧ d = 1 ∧ p0 = 1 ∧ q0 = 0 ∧ p1 = 3 ∧ q1 = 1)
def inv (g : G) : SS := ⟨[(1, Iv 5), (4, Pv 1), (6, Pv 2), (7, Pv 3), (8, Pv 4), (9, Pv 5), (10, Pv 6), (11, Pv 7), (12, Pv 8)],
  [(1, 23, [.val (.int .i64 0), .val (.int .i64 0)]), (2, 62, [.abs Zr 22, .abs Zr 7]), (3, 60, [.abs Zr g.p0]), (4, 60, [.abs Zr g.q0]), (5, 60, [.abs Zr g.p1]), (6, 60, [.abs Zr g.q1]), (7, 60, [.abs Zr g.n]), (8, 60, [.abs Zr g.d])], 9, 128⟩
def t1 : Tr := .res 49 (Zv 3) (.res 53 (Zv 0) (.res 54 (Zv 1) (.res 57 (Zv 5) (.res 58 (Iv (cmpZ 1 5)) (.split 59 .done
  (.res 65 (Zv 3) (.res 66 (Zv 3) (.res 72 (Zv 21) (.res 73 (Zv 1) .done)))))))))
def t2 : Tr := .res 49 (Zv 7) (.res 53 (Zv 7) (.res 54 (Zv 7) (.res 57 (Zv 5) (.res 58 (Iv (cmpZ 7 5)) (.split 59
  (.res 76 (Zv 5) (.res 78 (Zv 5) (.res 80 (.tup [⟨true, [.abs Zr 5]⟩, ⟨true, [.abs Zr 0]⟩]) (.res 86 (Zv 15) (.res 87 (Zv 16) (.res 91 (Zv 5) (.res 92 (Zv 5) (.res 93 (Qo (Rat.divInt 16 5)) (.res 96 (Qo (Rat.divInt 3 1))
  ((.res 99 (Qo (Rat.divInt 16 5 - q227)) (.res 100 (Qo (Rat.divInt 16 5 - q227).abs) ((.res 103 (Qo (Rat.divInt 3 1 - q227)) (.res 104 (Qo (Rat.divInt 3 1 - q227).abs)
  (.res 105 (Iv (cmpR (Rat.divInt 16 5 - q227).abs (Rat.divInt 3 1 - q227).abs)) (.as 105 (Iv (-1)) (.res 121 (toldT (Rat.divInt 16 5)) .done))))))))))))))))))
  .done)))))
theorem fits {z : Int} {k : Nat} (h : -9223372036854775808 ≤ z ∧ z < 9223372036854775808) (hk : 2 ≤ k) : Fit k z := (Fit.int64 h.1 (by omega)).mono hk
theorem qfits {q : Rat} (h : -9223372036854775808 ≤ q.num ∧ q.num < 9223372036854775808) (h2 : (q.den : Int) < 9223372036854775808) : QFit 1000000 q := ⟨fits h (by decide), fits ⟨by omega, h2⟩ (by decide)⟩
theorem told165 : AsOk (toldT (Rat.divInt 16 5)) (Re 16 5 0) := by
  have hg : good (Rat.divInt 16 5) := ⟨by decide +kernel, by decide +kernel, by decide +kernel⟩
  unfold toldT
  rw [if_pos hg, if_pos hg, if_pos hg]
  exact AsOk.refl _
theorem cmpq : cmpR (Rat.divInt 16 5 - q227).abs (Rat.divInt 3 1 - q227).abs = -1 := by kernel_rfl
theorem spec29 : Spec Try.prog 29 [Rv 22 7, Iv 5] (Re 16 5 0) := by
  refine spec_exec (T := .res 21 (B (decide (IsQ 22 7))) (.is 21 true (.res 38 (Qo q227) (.res 39 (Zv 0) (.res 40 (Zv 1) (.res 41 (Zv 1) (.res 42 (Zv 0)
     (.loop ⟨22, 7, 0, 1, 1, 0, by simp⟩ inv (fun g => g.d.natAbs) fun g => if g.n = 22 then t1 else t2)))))))) Try.func29 rfl (by kernel_rfl) mixed rfl rfl rfl ?_
  refine And.intro s49 (And.intro (by decide) ?_)
  refine And.intro (s46 (by decide) (by decide) rfl rfl) ?_
  refine And.intro (s71 (by decide) (by decide)) (And.intro (s71 (by decide) (by decide)) (And.intro (s71 (by decide) (by decide)) (And.intro (s71 (by decide) (by decide)) ?_)))
  refine And.intro ⟨by kernel_rfl, rfl, ?_, ?_⟩ ?_
  · repeat refine And.intro (AsOk.refl _) ?_
    exact trivial
  · repeat refine And.intro (And.intro rfl (AsL.refl _)) ?_
    exact trivial
  rintro ⟨n, d, p0, q0, p1, q1, ⟨rfl, rfl, rfl, rfl, rfl, rfl⟩ | ⟨rfl, rfl, rfl, rfl, rfl, rfl⟩⟩
  · show exec _ _ t1 _ _
    refine And.intro (s72 (fits (by decide) (by decide)) (fits (by decide) (by decide)) (by decide)) ?_
    refine And.intro (s74 (fits (by decide) (by decide)) (fits (by decide) (by decide))) ?_
    refine And.intro (s73 (fits (by decide) (by decide)) (fits (by decide) (by decide))) ?_
    refine And.intro (s71 (by decide) (by decide)) ?_
    refine And.intro (s75 (fits (by decide) (by decide)) (fits (by decide) (by decide))) ?_
    refine And.intro (fun h => absurd h (by decide)) (fun _ => ?_)
    refine And.intro (s74 (fits (by decide) (by decide)) (fits (by decide) (by decide))) ?_
    refine And.intro (s73 (fits (by decide) (by decide)) (fits (by decide) (by decide))) ?_
    refine And.intro (s74 (fits (by decide) (by decide)) (fits (by decide) (by decide))) ?_
    refine And.intro (s76 (fits (by decide) (by decide)) (fits (by decide) (by decide))) ?_
    refine Exists.intro ⟨7, 1, 1, 0, 3, 1, by simp⟩ (And.intro ⟨by kernel_rfl, rfl, ?_, ?_⟩ (by decide))
    · repeat refine And.intro (AsOk.refl _) ?_
      exact trivial
    · repeat refine And.intro (And.intro rfl (AsL.refl _)) ?_
      exact trivial
  · show exec _ _ t2 _ _
    refine And.intro (s72 (fits (by decide) (by decide)) (fits (by decide) (by decide)) (by decide)) ?_
    refine And.intro (s74 (fits (by decide) (by decide)) (fits (by decide) (by decide))) ?_
    refine And.intro (s73 (fits (by decide) (by decide)) (fits (by decide) (by decide))) ?_
    refine And.intro (s71 (by decide) (by decide)) ?_
    refine And.intro (s75 (fits (by decide) (by decide)) (fits (by decide) (by decide))) ?_
    refine And.intro (fun _ => ?_) (fun h => absurd h (by decide))
    refine And.intro (s71 (by decide) (by decide)) ?_
    refine And.intro (s76 (fits (by decide) (by decide)) (fits (by decide) (by decide))) ?_
    refine And.intro (s77 (fits (by decide) (by decide)) (fits (by decide) (by decide)) (by decide)) ?_
    refine And.intro (s74 (fits (by decide) (by decide)) (fits (by decide) (by decide))) ?_
    refine And.intro (s73 (fits (by decide) (by decide)) (fits (by decide) (by decide))) ?_
    refine And.intro (s74 (fits (by decide) (by decide)) (fits (by decide) (by decide))) ?_
    refine And.intro (s73 (fits (by decide) (by decide)) (fits (by decide) (by decide))) ?_
    refine And.intro (s78 (fits (by decide) (by decide)) (fits (by decide) (by decide)) (by decide)) ?_
    refine And.intro (s78 (fits (by decide) (by decide)) (fits (by decide) (by decide)) (by decide)) ?_
    refine And.intro (s58 (p := Rat.divInt 16 5) (q := q227) (qfits (by decide +kernel) (by decide +kernel)) (qfits (by decide +kernel) (by decide +kernel))) ?_
    refine And.intro (s79 (qfits (by decide +kernel) (by decide +kernel))) ?_
    refine And.intro (s58 (p := Rat.divInt 3 1) (q := q227) (qfits (by decide +kernel) (by decide +kernel)) (qfits (by decide +kernel) (by decide +kernel))) ?_
    refine And.intro (s79 (qfits (by decide +kernel) (by decide +kernel))) ?_
    refine And.intro (s47 (qfits (by decide +kernel) (by decide +kernel)) (qfits (by decide +kernel) (by decide +kernel))) ?_
    refine And.intro (as_i cmpq) ?_
    refine And.intro s42 ?_
    exact told165
end Go.Proofs.Ythhgjloephkpaaa.Lx
namespace Go.Proofs.Ythhgjloephkpaaa.Lx
set_option linter.unusedVariables false
set_option linter.unusedSimpArgs false
open Go Go.RowKit Go.Proofs.Ythhgjloephkpaaa Go.Proofs.YthhgjloephkpaaaW.PrintWords Go.Proofs.YthhgjloephkpaaaW.PrintLast
set_option maxRecDepth 100000
theorem told_of {q : Rat} (h : good q) : toldT q = Re q.num q.den 0 := by unfold toldT; rw [if_pos h, if_pos h, if_pos h]
theorem told_no {q : Rat} (h : ¬ good q) : toldT q = Re 0 0 3 := by unfold toldT; rw [if_neg h, if_neg h, if_neg h]
theorem beq_and {a b : Int} : ((a == a) && (b == b)) = true := by simp
theorem sto {P : Program} {f : FuncId} {args : List TV} {r r' : TV} (h : Spec P f args r) (e : r = r') : Spec P f args r' := e ▸ h
theorem s16 : Spec Try.prog 16 [] (B true) := by
  have hm : makeT (-6) 4 = Re (-3) 2 0 := by
    unfold makeT
    rw [if_neg (by decide), told_of ⟨by decide +kernel, by decide +kernel, by decide +kernel⟩]
    rfl
  have hf : floorT (-3) 2 = Ii (-2) 0 := by
    unfold floorT
    rw [if_pos (by decide)]
    rfl
  refine spec_exec (T := .res 8 (Re (-3) 2 0) (.res 13 (Ii (-2) 0) (.res 18 (Re 16 5 0) (.op 23 (B true) (.op 39 (B true) .done))))) Try.func16 rfl (by kernel_rfl) mixed rfl rfl rfl ?_
  exact And.intro (sto (s10 (by decide) (by decide)) hm) (And.intro (sto s51 hf) (And.intro spec29 (And.intro (g_eq23 (p := -3) (q := 2) (r := -3) (s := 2) rfl rfl rfl) (And.intro (g_eq23 (p := 16) (q := 5) (r := 16) (s := 5) rfl rfl rfl) (AsOk.refl _)))))
section
variable {p q r s n d : Int}
/-- What an operation on two numbers answers. -/
def binT (p q r s : Int) (c : Rat) : TV := if Alls [(p, q), (r, s)] then toldT c else Re 0 0 1
def Fv (f : FuncId) : TV := .u ⟨false, [.val (.func (.func f) #[] #[])]⟩
theorem told_form (c : Rat) : ∃ a b e, toldT c = Re a b e := ⟨_, _, _, rfl⟩
theorem bin_form (p q r s : Int) (c : Rat) : ∃ a b e, binT p q r s c = Re a b e := by
  unfold binT
  split
  · exact told_form c
  · exact ⟨_, _, _, rfl⟩
theorem s56 {f : FuncId} {c : Rat} (hf : IsQ p q → IsQ r s → Spec Try.prog f [Qo (Rat.divInt p q), Qo (Rat.divInt r s)] (Qo c)) : Spec Try.prog 56 [Rv p q, Rv r s, Fv f] (binT p q r s c) := by
  unfold binT
  by_cases h : Alls [(p, q), (r, s)]
  · rw [if_pos h]
    have hb := alls_two.1 h
    refine spec_exec (T := .op 11 (Lv [(p, q), (r, s)]) (.res 12 (Iv (errV (Alls [(p, q), (r, s)]))) (.as 12 (Iv 0) (.res 19 (Qo (Rat.divInt p q)) (.res 21 (Qo (Rat.divInt r s)) (.res 22 (Qo c) (.res 23 (toldT c) .done))))))) Try.func56 rfl (by kernel_rfl) mixed rfl rfl rfl ?_
    exact And.intro (g_lit2 rfl rfl rfl) (And.intro s45 (And.intro (as_i (errV_t h)) (And.intro (s46 (isq64 hb.1).1 (isq64 hb.1).2 (isq_num hb.1).1 (isq_num hb.1).2) (And.intro (s46 (isq64 hb.2).1 (isq64 hb.2).2 (isq_num hb.2).1 (isq_num hb.2).2) (And.intro (hf hb.1 hb.2) (And.intro s42 (AsOk.refl _)))))))
  · rw [if_neg h]
    refine spec_exec (T := .op 11 (Lv [(p, q), (r, s)]) (.res 12 (Iv (errV (Alls [(p, q), (r, s)]))) (.as 12 (Iv 1) .done))) Try.func56 rfl (by kernel_rfl) mixed rfl rfl rfl ?_
    exact And.intro (g_lit2 rfl rfl rfl) (And.intro s45 (And.intro (as_i (errV_f h)) (AsOk.refl _)))
theorem s19 : Spec Try.prog 19 [Rv p q, Rv r s] (binT p q r s (Rat.divInt p q + Rat.divInt r s)) := by
  obtain ⟨a, b, e, h⟩ := bin_form p q r s (Rat.divInt p q + Rat.divInt r s)
  rw [h]
  refine spec_exec (T := .res 8 (Re a b e) .done) Try.func19 rfl (by kernel_rfl) mixed rfl rfl rfl ?_
  exact And.intro (sto (s56 fun h1 h2 => s57 (isq_fit h1) (isq_fit h2)) h) (AsOk.refl _)
theorem s20 : Spec Try.prog 20 [Rv p q, Rv r s] (binT p q r s (Rat.divInt p q - Rat.divInt r s)) := by
  obtain ⟨a, b, e, h⟩ := bin_form p q r s (Rat.divInt p q - Rat.divInt r s)
  rw [h]
  refine spec_exec (T := .res 8 (Re a b e) .done) Try.func20 rfl (by kernel_rfl) mixed rfl rfl rfl ?_
  exact And.intro (sto (s56 fun h1 h2 => s58 (isq_fit h1) (isq_fit h2)) h) (AsOk.refl _)
theorem s21 : Spec Try.prog 21 [Rv p q, Rv r s] (binT p q r s (Rat.divInt p q * Rat.divInt r s)) := by
  obtain ⟨a, b, e, h⟩ := bin_form p q r s (Rat.divInt p q * Rat.divInt r s)
  rw [h]
  refine spec_exec (T := .res 8 (Re a b e) .done) Try.func21 rfl (by kernel_rfl) mixed rfl rfl rfl ?_
  exact And.intro (sto (s56 fun h1 h2 => s59 (isq_fit h1) (isq_fit h2)) h) (AsOk.refl _)
def divT (p q r s : Int) : TV := if Alls [(p, q), (r, s)] then (if r = 0 then Re 0 0 4 else toldT (Rat.divInt p q / Rat.divInt r s)) else Re 0 0 1
theorem div_form (p q r s : Int) : ∃ a b e, divT p q r s = Re a b e := by
  unfold divT
  split
  · split
    · exact ⟨_, _, _, rfl⟩
    · exact told_form _
  · exact ⟨_, _, _, rfl⟩
theorem isq_zero (h : IsQ r s) : r = 0 ↔ Rat.divInt r s = 0 := by
  rw [← Rat.num_eq_zero, ← (isq_num h).1]
theorem s22 : Spec Try.prog 22 [Rv p q, Rv r s] (divT p q r s) := by
  unfold divT
  by_cases h : Alls [(p, q), (r, s)]
  · rw [if_pos h]
    have hb := alls_two.1 h
    by_cases h0 : r = 0
    · rw [if_pos h0]
      refine spec_exec (T := .op 9 (Lv [(p, q), (r, s)]) (.res 10 (Iv (errV (Alls [(p, q), (r, s)]))) (.as 10 (Iv 0) (.is 17 true .done)))) Try.func22 rfl (by kernel_rfl) mixed rfl rfl rfl ?_
      exact And.intro (g_lit2 rfl rfl rfl) (And.intro s45 (And.intro (as_i (errV_t h)) (And.intro (by rw [h0]; rfl) (AsOk.refl _))))
    · rw [if_neg h0]
      refine spec_exec (T := .op 9 (Lv [(p, q), (r, s)]) (.res 10 (Iv (errV (Alls [(p, q), (r, s)]))) (.as 10 (Iv 0) (.is 17 false (.res 20 (Qo (Rat.divInt p q)) (.res 22 (Qo (Rat.divInt r s)) (.res 23 (Qo (Rat.divInt p q / Rat.divInt r s)) (.res 24 (toldT (Rat.divInt p q / Rat.divInt r s)) .done)))))))) Try.func22 rfl (by kernel_rfl) mixed rfl rfl rfl ?_
      exact And.intro (g_lit2 rfl rfl rfl) (And.intro s45 (And.intro (as_i (errV_t h)) (And.intro (by simpa using h0) (And.intro (s46 (isq64 hb.1).1 (isq64 hb.1).2 (isq_num hb.1).1 (isq_num hb.1).2) (And.intro (s46 (isq64 hb.2).1 (isq64 hb.2).2 (isq_num hb.2).1 (isq_num hb.2).2)
        (And.intro (s60 (isq_fit hb.1) (isq_fit hb.2) fun e => h0 ((isq_zero hb.2).2 e)) (And.intro s42 (AsOk.refl _))))))))
  · rw [if_neg h]
    refine spec_exec (T := .op 9 (Lv [(p, q), (r, s)]) (.res 10 (Iv (errV (Alls [(p, q), (r, s)]))) (.as 10 (Iv 1) .done))) Try.func22 rfl (by kernel_rfl) mixed rfl rfl rfl ?_
    exact And.intro (g_lit2 rfl rfl rfl) (And.intro s45 (And.intro (as_i (errV_f h)) (AsOk.refl _)))
end
end Go.Proofs.Ythhgjloephkpaaa.Lx
namespace Go.Proofs.Ythhgjloephkpaaa.Lx
set_option linter.unusedVariables false
set_option linter.unusedSimpArgs false
open Go Go.RowKit Go.Proofs.Ythhgjloephkpaaa Go.Proofs.YthhgjloephkpaaaW.PrintWords Go.Proofs.YthhgjloephkpaaaW.PrintLast
/-- A world whose blocks all are frozen. -/
def Kst.of (w : World) : Kst := ⟨w, fun g => g < w.heap.size, fun _ h => h⟩
theorem law_run {f : FuncId} {args : List TV} {vs : List Value} {w : World} (h : Spec Try.prog f args (B true)) (hr : RepAll (fun _ => 0) (Kst.of w) args vs) : Calls Try.prog f vs.toArray w (RetV w (.bool true)) :=
  (h.run (fun _ => 0) (Kst.of w) vs hr).mono fun e w' ⟨x, t, e1, e2, _, hb, hx⟩ => ⟨⟨x, e1, bv (hx fun _ => 0)⟩, hb⟩
end Go.Proofs.Ythhgjloephkpaaa.Lx
