/- Words and walks for the row RowRatLeast, put together: LX12, LX13, LX14, LX15, LX16, RZG, RZH, LX17, LX18, WEqStruct. -/
import Derived.Test.YthhgjloephkpaaaLe7
import Derived.Test.YthhgjloephkpaaaLeRZF
import Derived.Test.YthhgjloephkpaaaLe12
import Derived.Test.YthhgjloephkpaaaLe6
import Derived.Test.YthhgjloephkpaaaLeWWords
import Derived.Laws.StructEq
namespace Go.Proofs.Ythhgjloephkpaaa.Lx
set_option linter.unusedVariables false
set_option linter.unusedSimpArgs false
open Go Go.RowKit Go.Proofs.Ythhgjloephkpaaa Go.Proofs.YthhgjloephkpaaaW.PrintWords Go.Proofs.YthhgjloephkpaaaW.PrintLast

theorem Kst.later (s : Kst) {w' : World} (h : Below s.w.heap.size s.w w') : ∃ t : Kst, t.w = w' ∧ Le s t :=
  ⟨⟨w', s.fz, fun g hg => Nat.lt_of_lt_of_le (s.lt g hg) h.size⟩, rfl, ⟨U.of_below h, fun g hg => ⟨hg, h.block g (s.lt g hg)⟩, h.size, fun g hg => .inl hg⟩⟩
theorem zh_cells {w : World} {v : Value} {z : Int} (h : Zh w v z) : ∃ a b c, v = .agg #[a, b, c] ∧ ∀ x ∈ [a, b, c], x.oneCell' = true ∧ noW x = true := by
  rcases h with ⟨rfl, _, _⟩ | ⟨ad, n, c, rfl, _, _⟩ <;> exact ⟨_, _, _, rfl, by simp [Value.oneCell', noW]⟩
def Zr : Rel Int where
  n := 3
  R s cs z := Zh s.w (.agg cs.toArray) z
  up s t cs x h k := k.u h.u
  len s cs x k := by
    obtain ⟨a, b, c, e, _⟩ := zh_cells k
    injection e with e
    have := congrArg Array.size e
    simpa using this
  ok s cs x k v hv := by
    obtain ⟨a, b, c, e, h⟩ := zh_cells k
    injection e with e
    have : cs = [a, b, c] := by have := congrArg Array.toList e; simpa using this
    rw [this] at hv
    exact h v hv
theorem qz_cells {w : World} {v : Value} {q : Rat} (h : Qz w v q) : ∃ l, v = .agg (List.toArray l) ∧ l.length = 6 ∧ ∀ x ∈ l, x.oneCell' = true ∧ noW x = true := by
  obtain ⟨i, A, n, c, s, j, B, m, d, t, rfl, _, _⟩ := h
  exact ⟨[_, _, _, _, _, _], rfl, rfl, by simp [Value.oneCell', noW]⟩
theorem qz_u {w w' : World} {v : Value} {q : Rat} (h : Qz w v q) (hu : U w w') : Qz w' v q := by
  obtain ⟨i, A, n, c, s, j, B, m, d, t, e, h1, h2⟩ := h
  exact ⟨i, A, n, c, s, j, B, m, d, t, e, h1.u hu, h2.u hu⟩
def Qr : Rel Rat where
  n := 6
  R s cs q := Qz s.w (.agg cs.toArray) q
  up s t cs x h k := qz_u k h.u
  len s cs x k := by
    obtain ⟨l, e, hl, _⟩ := qz_cells k
    injection e with e
    have : cs = l := by have := congrArg Array.toList e; simpa using this
    rw [this]; exact hl
  ok s cs x k v hv := by
    obtain ⟨l, e, hl, h⟩ := qz_cells k
    injection e with e
    have : cs = l := by have := congrArg Array.toList e; simpa using this
    rw [this] at hv
    exact h v hv
def Iv (x : Int) : TV := .u ⟨false, [.val (.int .i64 x)]⟩
def Zv (z : Int) : TV := .u ⟨true, [.abs Zr z]⟩
def Qv (q : Rat) : TV := .u ⟨true, [.abs Qr q]⟩
def Zz (z y : Int) : TV := .u ⟨true, [.abs Zr z, .abs Zr y]⟩
def Rv (p q : Int) : TV := .u ⟨true, [.val (.int .i64 p), .val (.int .i64 q)]⟩
section
variable {γ : Nat → Nat} {s : Kst} {v : Value}
theorem zv {z : Int} (h : (Zv z).Rep γ s v) : Zh s.w v z := by
  obtain ⟨cs, rfl, a, b, e, k1, k2⟩ := h
  rw [show b = [] from k2, List.append_nil] at e
  subst e; exact k1
theorem qv {q : Rat} (h : (Qv q).Rep γ s v) : Qz s.w v q := by
  obtain ⟨cs, rfl, a, b, e, k1, k2⟩ := h
  rw [show b = [] from k2, List.append_nil] at e
  subst e; exact k1
theorem iv {x : Int} (h : (Iv x).Rep γ s v) : v = .int .i64 x := sc_rep (t := Iv x) rfl h
theorem rv {p q : Int} (h : (Rv p q).Rep γ s v) : v = .agg #[.int .i64 p, .int .i64 q] := sc_rep (t := Rv p q) rfl h
theorem vz {z : Int} (h : Zh s.w v z) : (Zv z).Rep γ s v := by
  obtain ⟨a, b, c, e, _⟩ := zh_cells h
  subst e
  exact ⟨[a, b, c], rfl, [a, b, c], [], rfl, h, rfl⟩
theorem vq {q : Rat} (h : Qz s.w v q) : (Qv q).Rep γ s v := by
  obtain ⟨l, e, _, _⟩ := qz_cells h
  subst e
  exact ⟨l, rfl, l, [], by simp, h, rfl⟩
theorem vi {x : Int} : (Iv x).Rep γ s (.int .i64 x) := repU_val rfl
theorem vb {b : Bool} : (B b).Rep γ s (.bool b) := repU_val rfl
end
/-- What a contract proved before says, in this form. -/
def Post (s : Kst) (r : TV) (e : Ending) (w' : World) : Prop := ∃ x t, e = .returned x ∧ t.w = w' ∧ Le s t ∧ Below s.w.heap.size s.w w' ∧ ∀ δ, r.Rep δ t x
section
variable {s : Kst} {e : Ending} {w' : World}
theorem pz {z : Int} (h : RetZ s.w z e w') : Post s (Zv z) e w' := by
  obtain ⟨⟨v, rfl, k⟩, hb⟩ := h
  obtain ⟨t, rfl, hl⟩ := s.later hb
  exact ⟨v, t, rfl, rfl, hl, hb, fun δ => vz k⟩
theorem pq {q : Rat} (h : RetQz s.w q e w') : Post s (Qv q) e w' := by
  obtain ⟨⟨v, rfl, k⟩, hb⟩ := h
  obtain ⟨t, rfl, hl⟩ := s.later hb
  exact ⟨v, t, rfl, rfl, hl, hb, fun δ => vq k⟩
theorem pi {x : Int} (h : RetI s.w x e w') : Post s (Iv x) e w' := by
  obtain ⟨⟨v, rfl, rfl⟩, hb⟩ := h
  obtain ⟨t, rfl, hl⟩ := s.later hb
  exact ⟨_, t, rfl, rfl, hl, hb, fun δ => vi⟩
theorem pb {b : Prop} [Decidable b] (h : RetB s.w b e w') : Post s (B (decide b)) e w' := by
  obtain ⟨⟨v, rfl, rfl⟩, hb⟩ := h
  obtain ⟨t, rfl, hl⟩ := s.later hb
  exact ⟨_, t, rfl, rfl, hl, hb, fun δ => vb⟩
theorem pv' {x : Value} {r : TV} (hr : ∀ δ t, r.Rep δ t x) (h : RetV s.w x e w') : Post s r e w' := by
  obtain ⟨⟨v, rfl, rfl⟩, hb⟩ := h
  obtain ⟨t, rfl, hl⟩ := s.later hb
  exact ⟨_, t, rfl, rfl, hl, hb, fun δ => hr δ _⟩
end
section
variable {P : Program} {f : FuncId} {fn : Func} {a b : TV} {r : TV}
theorem sp1 (hf : P.funcs[f]? = some fn) (hname : (fn.name == "runtime.NumGoroutine") = false) (hb : fn.body.isSome = true)
    (h : ∀ γ s v, a.Rep γ s v → Calls P f #[v] s.w (Post s r)) : Spec P f [a] r :=
  ⟨fun vs w => enters_ hf hname hb vs w, fun γ s vs ⟨x, y, e, k1, k2⟩ => by
    rw [show y = [] from k2] at e; subst e; exact h γ s x k1⟩
theorem sp2 (hf : P.funcs[f]? = some fn) (hname : (fn.name == "runtime.NumGoroutine") = false) (hb : fn.body.isSome = true)
    (h : ∀ γ s v u, a.Rep γ s v → b.Rep γ s u → Calls P f #[v, u] s.w (Post s r)) : Spec P f [a, b] r :=
  ⟨fun vs w => enters_ hf hname hb vs w, fun γ s vs ⟨x, y, e, k1, x2, y2, e2, k2, k3⟩ => by
    rw [show y2 = [] from k3] at e2; subst e2 e; exact h γ s x x2 k1 k2⟩
end
section
variable {x y : Int} {p q : Rat}
theorem s71 (h1 : -9223372036854775808 ≤ x) (h2 : x < 9223372036854775808) : Spec Try.prog 71 [Iv x] (Zv x) :=
  sp1 Try.func71 (by kernel_rfl) rfl fun γ s v h => by rw [iv h]; exact (int71 h1 h2).mono fun _ _ => pz
theorem s72 (fx : Fit 99999999 x) (fy : Fit 99999999 y) (h : 0 < y) : Spec Try.prog 72 [Zv x, Zv y] (Zv (x / y)) :=
  sp2 Try.func72 (by kernel_rfl) rfl fun γ s v u h1 h2 => (floor72 (zv h1) (zv h2) fx fy h).mono fun _ _ => pz
theorem s73 (fx : Fit 100000000 x) (fy : Fit 100000000 y) : Spec Try.prog 73 [Zv x, Zv y] (Zv (x + y)) :=
  sp2 Try.func73 (by kernel_rfl) rfl fun γ s v u h1 h2 => (add73 (zv h1) (zv h2) fx fy).mono fun _ _ => pz
theorem s74 (fx : Fit 100000000 x) (fy : Fit 100000000 y) : Spec Try.prog 74 [Zv x, Zv y] (Zv (x * y)) :=
  sp2 Try.func74 (by kernel_rfl) rfl fun γ s v u h1 h2 => (mul74 (zv h1) (zv h2) fx fy).mono fun _ _ => pz
theorem s75 (fx : Fit 100000000 x) (fy : Fit 100000000 y) : Spec Try.prog 75 [Zv x, Zv y] (Iv (cmpZ x y)) :=
  sp2 Try.func75 (by kernel_rfl) rfl fun γ s v u h1 h2 => (cmp75 (zv h1) (zv h2) fx fy).mono fun _ _ => pi
theorem s76 (fx : Fit 100000000 x) (fy : Fit 100000000 y) : Spec Try.prog 76 [Zv x, Zv y] (Zv (x - y)) :=
  sp2 Try.func76 (by kernel_rfl) rfl fun γ s v u h1 h2 => (sub76 (zv h1) (zv h2) fx fy).mono fun _ _ => pz
theorem s77 (fx : Fit 100000000 x) (fy : Fit 100000000 y) (h : y ≠ 0) : Spec Try.prog 77 [Zv x, Zv y] (.tup [⟨true, [.abs Zr (x.tdiv y)]⟩, ⟨true, [.abs Zr (x.tmod y)]⟩]) :=
  sp2 Try.func77 (by kernel_rfl) rfl fun γ s v u h1 h2 => (quo77 (zv h1) (zv h2) fx fy h).mono fun e w' ⟨⟨v, hv, v1, v2, e1, k1, k2⟩, hb⟩ => by
    subst hv e1
    obtain ⟨t, rfl, hl⟩ := s.later hb
    exact ⟨_, t, rfl, rfl, hl, hb, fun δ => ⟨[v1, v2], rfl, v1, [v2], rfl, vz k1, v2, [], rfl, vz k2, rfl⟩⟩
/-- A fraction and what is wrong with it. -/
def Re (a b e : Int) : TV := .tup [⟨true, [.val (.int .i64 a), .val (.int .i64 b)]⟩, ⟨false, [.val (.int .i64 e)]⟩]
theorem as_open {n d : Int} (hn : p.num = n) (hd : (p.den : Int) = d) : AsOk (Qv p) (Zz n d) := fun γ s v h => by
  obtain ⟨i, A, m, c, b, j, B, l, d', t, e, h1, h2⟩ := qv h
  subst e hn hd
  exact ⟨_, rfl, [_, _, _], [_, _, _], rfl, h1, [_, _, _], [], rfl, h2, rfl⟩
theorem Spec.to {P : Program} {f : FuncId} {args : List TV} {r r' : TV} (h : Spec P f args r) (e : AsOk r r') : Spec P f args r' :=
  ⟨h.ent, fun γ s vs k => (h.run γ s vs k).mono fun _ _ ⟨x, t, e1, e2, e3, e4, e5⟩ => ⟨x, t, e1, e2, e3, e4, fun δ => e _ _ _ (e5 δ)⟩⟩
/-- A number, open. -/
def Qo (q : Rat) : TV := Zz q.num q.den
theorem s78 (fx : Fit 10000000 x) (fy : Fit 10000000 y) (h : y ≠ 0) : Spec Try.prog 78 [Zv x, Zv y] (Qo (Rat.divInt x y)) :=
  (sp2 (r := Qv (Rat.divInt x y)) Try.func78 (by kernel_rfl) rfl fun γ s v u h1 h2 => (over78 (zv h1) (zv h2) fx fy h).mono fun _ _ => pq).to (as_open rfl rfl)
theorem s82 : Spec Try.prog 82 [Zv x] (Iv (cmpZ x 0)) :=
  sp1 Try.func82 (by kernel_rfl) rfl fun γ s v h1 => (sign82 (zv h1)).mono fun _ _ => pi
theorem s101 (fx : Fit 100000000 x) : Spec Try.prog 101 [Zv x] (Zv (-x)) :=
  sp1 Try.func101 (by kernel_rfl) rfl fun γ s v h1 => (neg101 (zv h1) fx).mono fun _ _ => pz
/-- An int of an amount, if it is one. -/
def Ib (a : Int) (b : Bool) : TV := .tup [⟨false, [.val (.int .i64 a)]⟩, ⟨false, [.val (.bool b)]⟩]
theorem vib {γ : Nat → Nat} {s : Kst} {a : Int} {b : Bool} : (Ib a b).Rep γ s (.tuple #[.int .i64 a, .bool b]) :=
  ⟨[_, _], rfl, _, _, rfl, ⟨rfl, [_], [], rfl, ⟨rfl, rfl⟩, rfl⟩, _, [], rfl, ⟨rfl, [_], [], rfl, ⟨rfl, rfl⟩, rfl⟩, rfl⟩
theorem s83 (h1 : 0 ≤ y) (h2 : y < 9223372036854775808) : Spec Try.prog 83 [Zv x, Iv y] (Ib (if -y ≤ x ∧ x ≤ y then x else 0) (decide (-y ≤ x ∧ x ≤ y))) :=
  sp2 Try.func83 (by kernel_rfl) rfl fun γ s v u k1 k2 => by
    rw [iv k2]
    refine (int83 (zv k1) h1 h2).mono fun _ _ => pv' (fun δ t => ?_)
    by_cases h : -y ≤ x ∧ x ≤ y
    · rw [intV_yes h, if_pos h, decide_eq_true h]; exact vib
    · rw [intV_no h, if_neg h, decide_eq_false h]; exact vib
theorem as_qo {a b : Rat} (h : a = b) : AsOk (Qo a) (Qo b) := h ▸ AsOk.refl _
theorem as_zz {a b c d : Int} (h : a = c) (h2 : b = d) : AsOk (Zz a b) (Zz c d) := h ▸ h2 ▸ AsOk.refl _
theorem as_b {a b : Bool} (h : a = b) : AsOk (B a) (B b) := h ▸ AsOk.refl _
theorem as_i {a b : Int} (h : a = b) : AsOk (Iv a) (Iv b) := h ▸ AsOk.refl _
theorem as_z {a b : Int} (h : a = b) : AsOk (Zv a) (Zv b) := h ▸ AsOk.refl _
theorem AsL.refl (l : List SV) : AsL l l := fun _ _ _ h => h
theorem mixed : Try.prog.follows .mixedOrders = true := by kernel_rfl
def Pv (b : Nat) : TV := .u ⟨false, [.ptr b 0]⟩
abbrev Q6 := QFit 1000000
theorem f8 {k : Nat} {z : Int} (h : Fit k z) (hk : k ≤ 100000000 := by decide) : Fit 100000000 z := h.mono hk
theorem f7 {k : Nat} {z : Int} (h : Fit k z) (hk : k ≤ 10000000 := by decide) : Fit 10000000 z := h.mono hk
theorem fi {z : Int} (h : -9223372036854775808 ≤ z ∧ z < 9223372036854775808) {k : Nat} (hk : 2 ≤ k := by decide) : Fit k z := (Fit.int64 h.1 (by omega)).mono hk
/-- A number as it is returned, and whether it can be. -/
def ratT (q : Rat) : TV := .tup [⟨true, [.val (.int .i64 (if good q then q.num else 0)), .val (.int .i64 (if good q then (q.den : Int) else 0))]⟩, ⟨false, [.val (.bool (decide (good q)))]⟩]
def toldT (q : Rat) : TV := Re (if good q then q.num else 0) (if good q then (q.den : Int) else 0) (if good q then 0 else 3)
theorem as_rat_n (h : ¬ good q) : AsOk (.tup [⟨true, [.val (.int .i64 0), .val (.int .i64 0)]⟩, ⟨false, [.val (.bool false)]⟩]) (ratT q) := by
  unfold ratT
  rw [if_neg h, if_neg h, decide_eq_false h]
  exact AsOk.refl _
theorem as_rat_y (h : good q) : AsOk (.tup [⟨true, [.val (.int .i64 q.num), .val (.int .i64 (q.den : Int))]⟩, ⟨false, [.val (.bool true)]⟩]) (ratT q) := by
  unfold ratT
  rw [if_pos h, if_pos h, decide_eq_true h]
  exact AsOk.refl _
end
end Go.Proofs.Ythhgjloephkpaaa.Lx
namespace Go.Proofs.Ythhgjloephkpaaa.Lx
set_option linter.unusedVariables false
set_option linter.unusedSimpArgs false
open Go Go.RowKit Go.Proofs.Ythhgjloephkpaaa Go.Proofs.YthhgjloephkpaaaW.PrintWords Go.Proofs.YthhgjloephkpaaaW.PrintLast
set_option maxRecDepth 100000
section
variable {p q : Rat} {x y : Int}
theorem fit_one : Fit 100000000 (1 : Int) := Fit_one.mono (by decide)
theorem s99 (fx : Q6 p) : Spec Try.prog 99 [Qo p] (B (decide (p.den = 1))) := by
  refine spec_exec (T := .res 5 (Zv 1) (.res 6 (Iv (cmpZ p.den 1)) .done)) Try.func99 rfl (by kernel_rfl) mixed rfl rfl rfl ?_
  exact And.intro (s71 (by decide) (by decide)) (And.intro (s75 (fx.d.mono (by decide)) fit_one) (as_b isInt_iff))
theorem s57 (fx : Q6 p) (fy : Q6 q) : Spec Try.prog 57 [Qo p, Qo q] (Qo (p + q)) := by
  have C : Spec Try.prog 74 [Zv p.num, Zv q.den] (Zv (p.num * q.den)) ∧ Spec Try.prog 74 [Zv q.num, Zv p.den] (Zv (q.num * p.den)) ∧ Spec Try.prog 73 [Zv (p.num * q.den), Zv (q.num * p.den)] (Zv (p.num * q.den + q.num * p.den)) ∧
      Spec Try.prog 74 [Zv p.den, Zv q.den] (Zv (p.den * q.den)) ∧ Spec Try.prog 78 [Zv (p.num * q.den + q.num * p.den), Zv (p.den * q.den)] (Qo (Rat.divInt (p.num * q.den + q.num * p.den) (p.den * q.den))) ∧
      AsOk (Qo (Rat.divInt (p.num * q.den + q.num * p.den) (p.den * q.den))) (Qo (p + q)) :=
    ⟨s74 (f8 fx.n) (f8 fy.d), s74 (f8 fy.n) (f8 fx.d), s73 (f8 (fx.n.mul fy.d)) (f8 (fy.n.mul fx.d)), s74 (f8 fx.d) (f8 fy.d), s78 (f7 ((fx.n.mul fy.d).add (fy.n.mul fx.d))) (f7 (fx.d.mul fy.d)) (mulden_ne p q), as_qo (add_over p q)⟩
  let tC : Tr := .res 23 (Zv (p.num * q.den)) (.res 28 (Zv (q.num * p.den)) (.res 29 (Zv (p.num * q.den + q.num * p.den)) (.res 34 (Zv (p.den * q.den)) (.res 35 (Qo (Rat.divInt (p.num * q.den + q.num * p.den) (p.den * q.den))) .done))))
  refine spec_exec (T := .res 6 (B (decide (p.den = 1))) (.split 6 (.res 9 (B (decide (q.den = 1))) (.split 9 (.res 15 (Zv (p.num + q.num)) .done) tC)) tC)) Try.func57 rfl (by kernel_rfl) mixed rfl rfl rfl ?_
  refine And.intro (s99 fx) (And.intro (fun h => ?_) (fun h => C))
  refine And.intro (s99 fy) (And.intro (fun h2 => ?_) (fun h2 => C))
  have h := of_decide_eq_true h
  have h2 := of_decide_eq_true h2
  exact And.intro (s73 (f8 fx.n) (f8 fy.n)) (as_zz (int_add h h2).1.symm (by rw [(int_add h h2).2, h]))
theorem s60 (fx : Q6 p) (fy : Q6 q) (h0 : q ≠ 0) : Spec Try.prog 60 [Qo p, Qo q] (Qo (p / q)) := by
  refine spec_exec (T := .res 9 (Zv (p.num * q.den)) (.res 14 (Zv (p.den * q.num)) (.res 15 (Qo (Rat.divInt (p.num * q.den) (p.den * q.num))) .done))) Try.func60 rfl (by kernel_rfl) mixed rfl rfl rfl ?_
  exact And.intro (s74 (f8 fx.n) (f8 fy.d)) (And.intro (s74 (f8 fx.d) (f8 fy.n)) (And.intro (s78 (f7 (fx.n.mul fy.d)) (f7 (fx.d.mul fy.n)) (divden_ne h0)) (as_qo (div_over p q))))
theorem s61 : Spec Try.prog 61 [Qo p] (Iv (cmpR p 0)) := by
  refine spec_exec (T := .res 5 (Iv (cmpZ p.num 0)) .done) Try.func61 rfl (by kernel_rfl) mixed rfl rfl rfl ?_
  exact And.intro s82 (as_i (cmpR_zero p))
theorem s63 (fx : Q6 p) : Spec Try.prog 63 [Qo p] (Qo (-p)) := by
  refine spec_exec (T := .res 5 (Zv (-p.num)) .done) Try.func63 rfl (by kernel_rfl) mixed rfl rfl rfl ?_
  exact And.intro (s101 (f8 fx.n)) (as_zz (Rat.neg_num p).symm (by rw [Rat.neg_den]))
theorem s58 (fx : Q6 p) (fy : Q6 q) : Spec Try.prog 58 [Qo p, Qo q] (Qo (p - q)) := by
  refine spec_exec (T := .res 7 (Qo (-q)) (.res 8 (Qo (p + -q)) .done)) Try.func58 rfl (by kernel_rfl) mixed rfl rfl rfl ?_
  exact And.intro (s63 fy) (And.intro (s57 fx fy.neg) (as_qo (Rat.sub_eq_add_neg p q).symm))
theorem s79 (fx : Q6 p) : Spec Try.prog 79 [Qo p] (Qo p.abs) := by
  refine spec_exec (T := .res 4 (Iv (cmpR p 0)) (.split 5 (.res 7 (Qo (-p)) .done) .done)) Try.func79 rfl (by kernel_rfl) mixed rfl rfl rfl ?_
  exact And.intro s61 (And.intro (fun h => And.intro (s63 fx) (as_qo (abs_neg' (of_decide_eq_true h)))) (fun h => as_qo (abs_pos' (of_decide_eq_false h))))
theorem s47 (fx : Q6 p) (fy : Q6 q) : Spec Try.prog 47 [Qo p, Qo q] (Iv (cmpR p q)) := by
  refine spec_exec (T := .res 9 (Zv (p.num * q.den)) (.res 14 (Zv (q.num * p.den)) (.res 15 (Iv (cmpZ (p.num * q.den) (q.num * p.den))) .done))) Try.func47 rfl (by kernel_rfl) mixed rfl rfl rfl ?_
  exact And.intro (s74 (f8 fx.n) (f8 fy.d)) (And.intro (s74 (f8 fy.n) (f8 fx.d)) (And.intro (s75 (f8 (fx.n.mul fy.d)) (f8 (fy.n.mul fx.d))) (as_i (cmp_over p q))))
theorem s95 (fx : Q6 p) : Spec Try.prog 95 [Qo p] (Zv p.floor) := by
  refine spec_exec (T := .res 7 (Zv (p.num / p.den)) .done) Try.func95 rfl (by kernel_rfl) mixed rfl rfl rfl ?_
  exact And.intro (s72 (fx.n.mono (by decide)) (fx.d.mono (by decide)) (den_pos p)) (as_z (floor_over p))
theorem ceil_over (x : Rat) : -((-x.num) / (x.den : Int)) = x.ceil := by
  rw [Rat.ceil_eq_neg_floor_neg, Rat.floor_def, Rat.neg_num, Rat.neg_den]
theorem s100 (fx : Q6 p) : Spec Try.prog 100 [Qo p] (Zv p.ceil) := by
  refine spec_exec (T := .res 5 (Zv (-p.num)) (.res 8 (Zv ((-p.num) / p.den)) (.res 9 (Zv (-((-p.num) / p.den))) .done))) Try.func100 rfl (by kernel_rfl) mixed rfl rfl rfl ?_
  exact And.intro (s101 (f8 fx.n)) (And.intro (s72 (fx.n.neg.mono (by decide)) (fx.d.mono (by decide)) (den_pos p)) (And.intro (s101 (f8 (fx.n.neg.fdiv (den_pos p)))) (as_z (ceil_over p))))
theorem s46 (h1 : -9223372036854775808 ≤ x ∧ x < 9223372036854775808) (h2 : -9223372036854775808 ≤ y ∧ y < 9223372036854775808) (hn : x = q.num) (hd : y = (q.den : Int)) : Spec Try.prog 46 [Rv x y] (Qo q) := by
  refine spec_exec (T := .res 5 (Zv x) (.res 8 (Zv y) .done)) Try.func46 rfl (by kernel_rfl) mixed rfl rfl rfl ?_
  exact And.intro (s71 h1.1 h1.2) (And.intro (s71 h2.1 h2.2) (as_zz hn hd))
theorem s87 (h1 : -9223372036854775808 ≤ x) (h2 : x < 9223372036854775808) : Spec Try.prog 87 [Iv x] (Qo ((x : Int) : Rat)) := by
  refine spec_exec (T := .res 4 (Zv x) (.res 5 (Zv 1) .done)) Try.func87 rfl (by kernel_rfl) mixed rfl rfl rfl ?_
  exact And.intro (s71 h1 h2) (And.intro (s71 (by decide) (by decide)) (as_zz (Rat.num_intCast _).symm (by rw [Rat.den_intCast]; rfl)))
theorem s43 (h1 : -9223372036854775808 ≤ x ∧ x < 9223372036854775808) (h2 : -9223372036854775808 ≤ y ∧ y < 9223372036854775808) (hd : y ≠ 0) : Spec Try.prog 43 [Iv x, Iv y] (Qo (Rat.divInt x y)) := by
  refine spec_exec (T := .res 6 (Zv x) (.res 8 (Zv y) (.res 9 (Qo (Rat.divInt x y)) .done))) Try.func43 rfl (by kernel_rfl) mixed rfl rfl rfl ?_
  exact And.intro (s71 h1.1 h1.2) (And.intro (s71 h2.1 h2.2) (And.intro (s78 (Fit.mono (Fit.int64 h1.1 (by omega)) (by decide)) (Fit.mono (Fit.int64 h2.1 (by omega)) (by decide)) hd) (AsOk.refl _)))
theorem s94 : Spec Try.prog 94 [Qo q] (ratT q) := by
  refine spec_exec (T := .res 11 (Ib (if -1000000000000 ≤ q.num ∧ q.num ≤ 1000000000000 then q.num else 0) (decide (-1000000000000 ≤ q.num ∧ q.num ≤ 1000000000000)))
    (.res 17 (Ib (if -1000000000000 ≤ (q.den : Int) ∧ (q.den : Int) ≤ 1000000000000 then (q.den : Int) else 0) (decide (-1000000000000 ≤ (q.den : Int) ∧ (q.den : Int) ≤ 1000000000000))) (.split 20 (.split 23 .done .done) .done))) Try.func94 rfl (by kernel_rfl) mixed rfl rfl rfl ?_
  refine And.intro (s83 (by decide) (by decide)) (And.intro (s83 (by decide) (by decide)) (And.intro (fun h => And.intro (fun h2 => ?_) (fun h2 => ?_)) (fun h => ?_)))
  · have h := of_decide_eq_true h
    have h2 := of_decide_eq_true h2
    have hg : good q := ⟨h.1, h.2, h2.2⟩
    unfold ratT
    rw [if_pos h, if_pos h2, if_pos hg, if_pos hg, decide_eq_true hg]
    exact AsOk.refl _
  · have h2 := of_decide_eq_false h2
    have hg : ¬ good q := fun ⟨_, _, g⟩ => h2 ⟨by have := den_pos q; omega, g⟩
    unfold ratT
    rw [if_neg hg, if_neg hg, decide_eq_false hg]
    exact AsOk.refl _
  · have h := of_decide_eq_false h
    have hg : ¬ good q := fun ⟨g, g2, _⟩ => h ⟨g, g2⟩
    unfold ratT
    rw [if_neg hg, if_neg hg, decide_eq_false hg]
    exact AsOk.refl _
end
end Go.Proofs.Ythhgjloephkpaaa.Lx
namespace Go.Proofs.Ythhgjloephkpaaa.Lx
set_option linter.unusedVariables false
set_option linter.unusedSimpArgs false
open Go Go.RowKit Go.Proofs.Ythhgjloephkpaaa Go.Proofs.YthhgjloephkpaaaW.PrintWords Go.Proofs.YthhgjloephkpaaaW.PrintLast
set_option maxRecDepth 100000
theorem wh_cells {w : World} {cs : List Value} {z : Int} (h : Wh w (.agg cs.toArray) z) : ∃ A n c, cs = [.slice A n c, .bool (decide (z < 0))] ∧ Wds w A n c (dg z.natAbs) := by
  obtain ⟨A, n, c, e, h⟩ := h
  injection e with e
  exact ⟨A, n, c, by have := congrArg Array.toList e; simpa using this, h⟩
def Wr : Rel Int where
  n := 2
  R s cs z := Wh s.w (.agg cs.toArray) z
  up s t cs x h k := k.u h.u
  len s cs x k := by obtain ⟨A, n, c, rfl, _⟩ := wh_cells k; rfl
  ok s cs x k v hv := by obtain ⟨A, n, c, rfl, _⟩ := wh_cells k; simp at hv; rcases hv with rfl | rfl <;> simp [Value.oneCell', noW]
def Dr : Rel Rat where
  n := 2
  R s cs q := ∃ D, Wh s.w (.agg cs.toArray) D ∧ (D = (q.den : Int) ∨ (D = 0 ∧ q = 0))
  up s t cs x h k := by obtain ⟨D, k, e⟩ := k; exact ⟨D, k.u h.u, e⟩
  len s cs x k := by obtain ⟨D, k, _⟩ := k; obtain ⟨A, n, c, rfl, _⟩ := wh_cells k; rfl
  ok s cs x k v hv := by obtain ⟨D, k, _⟩ := k; obtain ⟨A, n, c, rfl, _⟩ := wh_cells k; simp at hv; rcases hv with rfl | rfl <;> simp [Value.oneCell', noW]
/-- A slice of words that is an amount. -/
def Sr : Rel Nat where
  n := 1
  R s cs x := ∃ A n c, cs = [.slice A n c] ∧ Wds s.w A n c (dg x)
  up s t cs x h k := by obtain ⟨A, n, c, e, k⟩ := k; exact ⟨A, n, c, e, k.u h.u⟩
  len s cs x k := by obtain ⟨A, n, c, rfl, _⟩ := k; rfl
  ok s cs x k v hv := by obtain ⟨A, n, c, rfl, _⟩ := k; simp at hv; subst hv; simp [Value.oneCell', noW]
/-- The address of a word. -/
def Ar : Rel Nat where
  n := 1
  R s cs x := ∃ p, cs = [.pointer (some p)] ∧ s.w.cell? p = some (.int .u32 (x : Int))
  up s t cs x h k := by obtain ⟨p, e, k⟩ := k; exact ⟨p, e, cell_u k h.u⟩
  len s cs x k := by obtain ⟨p, rfl, _⟩ := k; rfl
  ok s cs x k v hv := by obtain ⟨p, rfl, _⟩ := k; simp at hv; subst hv; simp [Value.oneCell', noW]
/-- An int that is the amount, if that is one. -/
def Nr : Rel Int where
  n := 1
  R s cs z := ∃ n, cs = [.int .i64 n] ∧ (-9223372036854775808 ≤ z ∧ z < 9223372036854775808 → n = z)
  up s t cs x h k := k
  len s cs x k := by obtain ⟨n, rfl, _⟩ := k; rfl
  ok s cs x k v hv := by obtain ⟨n, rfl, _⟩ := k; simp at hv; subst hv; simp [Value.oneCell', noW]
def Wv (z : Int) : TV := .u ⟨true, [.abs Wr z]⟩
def Sv (x : Nat) : TV := .u ⟨false, [.abs Sr x]⟩
def Wo (z : Int) : TV := .u ⟨true, [.abs Sr z.natAbs, .val (.bool (decide (z < 0)))]⟩
def Qs (q : Rat) : TV := .u ⟨true, [.abs Wr q.num, .abs Dr q]⟩
def Wd (z y : Int) : TV := .u ⟨true, [.abs Wr z, .abs Wr y]⟩
section
variable {γ : Nat → Nat} {s : Kst} {v : Value}
theorem wv {z : Int} (h : (Wv z).Rep γ s v) : Wh s.w v z := by
  obtain ⟨cs, rfl, a, b, e, k1, k2⟩ := h
  rw [show b = [] from k2, List.append_nil] at e
  subst e; exact k1
theorem vw {z : Int} (h : Wh s.w v z) : (Wv z).Rep γ s v := by
  obtain ⟨A, n, c, rfl, k⟩ := h
  exact ⟨[_, _], rfl, [_, _], [], rfl, ⟨A, n, c, rfl, k⟩, rfl⟩
theorem sv {x : Nat} (h : (Sv x).Rep γ s v) : ∃ A n c, v = .slice A n c ∧ Wds s.w A n c (dg x) := by
  obtain ⟨h1, a, b, e, ⟨A, n, c, rfl, k⟩, k2⟩ := h
  rw [show b = [] from k2] at e
  exact ⟨A, n, c, by simpa using e, k⟩
theorem vs {x : Nat} (h : Sl s.w v x) : (Sv x).Rep γ s v := by
  obtain ⟨A, n, c, rfl, k⟩ := h
  exact ⟨rfl, [_], [], rfl, ⟨A, n, c, rfl, k⟩, rfl⟩
theorem bv {b : Bool} (h : (B b).Rep γ s v) : v = .bool b := sc_rep (t := B b) rfl h
theorem as_wo {z : Int} : AsOk (Wv z) (Wo z) := fun γ s v h => by
  obtain ⟨A, n, c, rfl, k⟩ := wv h
  exact ⟨[_, _], rfl, [_], [_], rfl, ⟨A, n, c, rfl, k⟩, [_], [], rfl, ⟨rfl, rfl⟩, rfl⟩
theorem as_ow {z : Int} : AsOk (Wo z) (Wv z) := fun γ s v h => by
  obtain ⟨cs, rfl, a, b, e, ⟨A, n, c, rfl, k⟩, a', b', e', ⟨rfl, _⟩, k2⟩ := h
  rw [show b' = [] from k2] at e'
  subst e' e
  exact vw ⟨A, n, c, rfl, k⟩
/-- Numerator and denominator, open, are the number. -/
theorem as_oq {n d : Int} {q : Rat} (hn : n = q.num) (hd : d = (q.den : Int)) : AsOk (.u ⟨true, [.abs Sr n.natAbs, .val (.bool (decide (n < 0))), .abs Sr d.natAbs, .val (.bool (decide (d < 0)))]⟩) (Qs q) := fun γ s v h => by
  subst hn
  obtain ⟨cs, rfl, a, b, e, ⟨A, m, c, rfl, k⟩, a', b', e', ⟨rfl, _⟩, a2, b2, e2, ⟨A2, m2, c2, rfl, k2⟩, a3, b3, e3, ⟨rfl, _⟩, k3⟩ := h
  rw [show b3 = [] from k3] at e3
  subst e3 e2 e' e
  exact ⟨_, rfl, [_, _], [_, _], rfl, ⟨A, m, c, rfl, k⟩, [_, _], [], rfl, ⟨d, ⟨A2, m2, c2, rfl, k2⟩, .inl hd⟩, rfl⟩
theorem as_wdq {n d : Int} {q : Rat} (hn : n = q.num) (hd : d = (q.den : Int)) : AsOk (Wd n d) (Qs q) := fun γ s v h => by
  subst hn
  obtain ⟨cs, rfl, a, b, e, k, a', b', e', k', k2⟩ := h
  exact ⟨cs, rfl, a, b, e, k, a', b', e', ⟨d, k', .inl hd⟩, k2⟩
theorem as_qs {a b : Rat} (h : a = b) : AsOk (Qs a) (Qs b) := h ▸ AsOk.refl _
end
section
variable {s : Kst} {e : Ending} {w' : World}
theorem pw {z : Int} (h : RetW s.w z e w') : Post s (Wv z) e w' := by
  obtain ⟨⟨v, rfl, k⟩, hb⟩ := h
  obtain ⟨t, rfl, hl⟩ := s.later hb
  exact ⟨v, t, rfl, rfl, hl, hb, fun δ => vw k⟩
theorem ps {x : Nat} (h : RetS s.w x e w') : Post s (Sv x) e w' := by
  obtain ⟨⟨v, rfl, k⟩, hb⟩ := h
  obtain ⟨t, rfl, hl⟩ := s.later hb
  exact ⟨v, t, rfl, rfl, hl, hb, fun δ => vs k⟩
def SSt (x y : Nat) : TV := .tup [⟨false, [.abs Sr x]⟩, ⟨false, [.abs Sr y]⟩]
theorem pss {x y : Nat} (h : RetSS s.w x y e w') : Post s (SSt x y) e w' := by
  obtain ⟨⟨v, rfl, v1, v2, rfl, k1, k2⟩, hb⟩ := h
  obtain ⟨t, rfl, hl⟩ := s.later hb
  exact ⟨_, t, rfl, rfl, hl, hb, fun δ => ⟨[v1, v2], rfl, v1, [v2], rfl, vs k1, v2, [], rfl, vs k2, rfl⟩⟩
def NBt (z : Int) : TV := .tup [⟨false, [.abs Nr z]⟩, ⟨false, [.val (.bool (decide (-9223372036854775808 ≤ z ∧ z < 9223372036854775808)))]⟩]
theorem pnb {z : Int} (h : RetIB s.w z e w') : Post s (NBt z) e w' := by
  obtain ⟨⟨v, rfl, n, b, rfl, k1, k2⟩, hb⟩ := h
  obtain ⟨t, rfl, hl⟩ := s.later hb
  have hd : b = decide (-9223372036854775808 ≤ z ∧ z < 9223372036854775808) := by
    cases b
    · exact (decide_eq_false fun h => by have := k1.2 h; cases this).symm
    · exact (decide_eq_true (k1.1 rfl)).symm
  refine ⟨_, t, rfl, rfl, hl, hb, fun δ => ⟨[_, _], rfl, _, _, rfl, ⟨rfl, [_], [], rfl, ⟨n, rfl, fun h => k2 (k1.2 h)⟩, rfl⟩, _, [], rfl, ⟨rfl, [_], [], rfl, ⟨by rw [hd], rfl⟩, rfl⟩, rfl⟩⟩
end
section
variable {P : Program} {f : FuncId} {fn : Func} {a b a' b' : TV} {r : TV}
theorem sp0 (hf : P.funcs[f]? = some fn) (hname : (fn.name == "runtime.NumGoroutine") = false) (hb : fn.body.isSome = true)
    (h : ∀ s : Kst, Calls P f #[] s.w (Post s r)) : Spec P f [] r :=
  ⟨fun vs w => enters_ hf hname hb vs w, fun γ s vs e => by rw [show vs = [] from e]; exact h s⟩
theorem Spec.arg1 (h : Spec P f [a'] r) (e : AsOk a a') : Spec P f [a] r :=
  ⟨h.ent, fun γ s vs ⟨x, y, e1, k1, k2⟩ => h.run γ s vs ⟨x, y, e1, e _ _ _ k1, k2⟩⟩
theorem Spec.arg2 (h : Spec P f [a', b'] r) (e : AsOk a a') (e2 : AsOk b b') : Spec P f [a, b] r :=
  ⟨h.ent, fun γ s vs ⟨x, y, e1, k1, x2, y2, e3, k2, k3⟩ => h.run γ s vs ⟨x, y, e1, e _ _ _ k1, x2, y2, e3, e2 _ _ _ k2, k3⟩⟩
theorem sp_ex {σ : Type _} {p : σ → Prop} {c : σ → TV} (hf : P.funcs[f]? = some fn) (hname : (fn.name == "runtime.NumGoroutine") = false) (hb : fn.body.isSome = true)
    (h : ∀ γ s v, a.Rep γ s v → ∃ g, p g ∧ (c g).Rep γ s v) (k : ∀ g, p g → Spec P f [c g] r) : Spec P f [a] r :=
  ⟨fun vs w => enters_ hf hname hb vs w, fun γ s vs ⟨x, y, e1, k1, k2⟩ => by
    obtain ⟨g, hg, hr⟩ := h γ s x k1
    exact (k g hg).run γ s vs ⟨x, y, e1, hr, k2⟩⟩
end
section
variable {x y : Int} {p q : Rat} {m n : Nat}
theorem s66 (h1 : -9223372036854775808 ≤ x) (h2 : x < 9223372036854775808) : Spec Try.prog 66 [Iv x] (Wv x) :=
  sp1 Try.func66 (by kernel_rfl) rfl fun γ s v h => by rw [iv h]; exact (ofInt_c h1 h2).mono fun _ _ => pw
theorem s67 (fx : Fit 100000000 x) (fy : Fit 100000000 y) : Spec Try.prog 67 [Wv x, Wv y] (Wv (x * y)) :=
  sp2 Try.func67 (by kernel_rfl) rfl fun γ s v u h1 h2 => (mul67 (wv h1) (wv h2) fx fy).mono fun _ _ => pw
theorem s97 (fx : Fit 100000000 x) (fy : Fit 100000000 y) : Spec Try.prog 97 [Wv x, Wv y] (Wv (x + y)) :=
  sp2 Try.func97 (by kernel_rfl) rfl fun γ s v u h1 h2 => (add97 (wv h1) (wv h2) fx fy).mono fun _ _ => pw
theorem s69 : Spec Try.prog 69 [Wv x, Wv y] (Iv (cmpZ x y)) :=
  sp2 Try.func69 (by kernel_rfl) rfl fun γ s v u h1 h2 => (cmp69 (wv h1) (wv h2)).mono fun _ _ => pi
theorem s70 : Spec Try.prog 70 [Wv x] (NBt x) :=
  sp1 Try.func70 (by kernel_rfl) rfl fun γ s v h => (small_c (wv h)).mono fun _ _ => pnb
theorem s96 : Spec Try.prog 96 [Wv x] (B (decide (x = 1))) :=
  sp1 Try.func96 (by kernel_rfl) rfl fun γ s v h => (isOne_any (wv h)).mono fun _ _ => pb
theorem s98 : Spec Try.prog 98 [Wv x] (B (decide (x = 0))) :=
  sp1 Try.func98 (by kernel_rfl) rfl fun γ s v h => (isNought_any (wv h)).mono fun _ _ => pb
theorem s103 (fx : Fit 100000000 x) : Spec Try.prog 103 [Wv x] (Wv (-x)) :=
  sp1 Try.func103 (by kernel_rfl) rfl fun γ s v h => (neg103 (wv h) fx).mono fun _ _ => pw
theorem s104 (fx : FitN 100000000 m) (fy : FitN 100000000 n) : Spec Try.prog 104 [Sv m, Sv n] (Sv (Nat.gcd m n)) :=
  sp2 Try.func104 (by kernel_rfl) rfl fun γ s v u h1 h2 => by
    obtain ⟨A, k, c, rfl, k1⟩ := sv h1
    obtain ⟨A', k', c', rfl, k2⟩ := sv h2
    exact (divisor_c k1 k2 fx fy).mono fun _ _ => ps
theorem s105 (fx : FitN 100000000 m) (fy : FitN 100000000 n) (h : 0 < n) : Spec Try.prog 105 [Sv m, Sv n] (SSt (m / n) (m % n)) :=
  sp2 Try.func105 (by kernel_rfl) rfl fun γ s v u h1 h2 => by
    obtain ⟨A, k, c, rfl, k1⟩ := sv h1
    obtain ⟨A', k', c', rfl, k2⟩ := sv h2
    exact (parts_c k1 k2 fx fy h).mono fun _ _ => pss
theorem s109 : Spec Try.prog 109 [] (Wv 1) :=
  sp0 Try.func109 (by kernel_rfl) rfl fun s => one109.mono fun _ _ => pw
end
end Go.Proofs.Ythhgjloephkpaaa.Lx
namespace Go.Proofs.Ythhgjloephkpaaa.Lx
set_option linter.unusedVariables false
set_option linter.unusedSimpArgs false
open Go Go.RowKit Go.Proofs.Ythhgjloephkpaaa Go.Proofs.YthhgjloephkpaaaW.PrintWords Go.Proofs.YthhgjloephkpaaaW.PrintLast
set_option maxRecDepth 100000
/-- A word. -/
def Uv (x : Nat) : TV := .u ⟨false, [.val (.int .u32 (x : Int))]⟩
def Av (x : Nat) : TV := .u ⟨false, [.abs Ar x]⟩
section
variable {S : SS} {o : Oper} {x : Nat}
theorem g_pure {v : TV} (h : ∀ γ s a, OpsSat γ s a S o → ∃ x, (execOp a.eval o).run Try.prog s.w = .ok (.value x) s.w ∧ v.Rep γ s x) : OpGives Try.prog S o v := fun γ s a k => by
  obtain ⟨x, h1, h2⟩ := h γ s a k
  exact ⟨x, s, h1, Le.refl _, Below.refl _ _, h2⟩
theorem g_len36 {y : Operand} (ho : o.op = .call { callee := .builtin .len, args := #[y], argTypes := #[36] }) (hy : opT S y = some (Sv x)) : OpGives Try.prog S o (Iv ((dg x).length : Nat)) := g_pure fun γ s a k => by
  obtain ⟨A, n, c, e, h⟩ := sv (k y (by rw [ho]; simp [Op.operands, Call.operands]) _ hy)
  exact ⟨_, run_len36 ho e, by rw [← h.len]; exact vi⟩
theorem g_at0 {y : Operand} (ho : o.op = .indexAddr 36 y (.const (.int .i64 0))) (hy : opT S y = some (Sv x)) (hl : 0 < (dg x).length) : OpGives Try.prog S o (Av ((dg x).getD 0 0)) := g_pure fun γ s a k => by
  obtain ⟨A, n, c, e, h⟩ := sv (k y (by rw [ho]; simp [Op.operands]) _ hy)
  have hn : 0 < n := by rw [← h.len]; exact hl
  obtain ⟨ad, rfl, hc⟩ := h.at_ 0 hn
  refine ⟨.pointer (some (ad.add 0)), ?_, rfl, [_], [], rfl, ⟨_, rfl, hc⟩, rfl⟩
  exact run_idx (t := 36) ho e rfl (by omega)
theorem g_ld {y : Operand} (ho : o.op = .load 100 y) (hy : opT S y = some (Av x)) : OpGives Try.prog S o (Uv x) := g_pure fun γ s a k => by
  obtain ⟨h1, p, q, e, ⟨ad, rfl, hc⟩, h2⟩ := k y (by rw [ho]; simp [Op.operands]) _ hy
  rw [show q = [] from h2] at e
  have e : a.eval y = .pointer (some ad) := by simpa using e
  exact ⟨_, run_loadW _ ho e hc (ag100 _), repU_val rfl⟩
end
section
variable {x y : Int} {p q : Rat} {m : Nat}
theorem s106 {b : Bool} : Spec Try.prog 106 [Sv m, B b] (Wv (if b = true then -(m : Int) else (m : Int))) :=
  sp2 Try.func106 (by kernel_rfl) rfl fun γ s v u h1 h2 => by
    obtain ⟨A, k, c, rfl, k1⟩ := sv h1
    rw [bv h2]
    exact (signed_any _ _ _ _ _ _ k1).mono fun _ _ => pw
/-- Numerator and denominator on their way to lowest terms. -/
structure G65 (x y : Int) where
  n : Int
  d : Int
  d0 : 0 < d
  fn : Fit 10000000 n
  fd : Fit 10000000 d
  e : Rat.divInt n d = Rat.divInt x y
def inv65 {x y : Int} (g : G65 x y) : SS := ⟨[(2, Pv 0), (3, Pv 1), (4, Pv 2)],
  [(0, 38, [.abs Sr g.n.natAbs, .val (.bool (decide (g.n < 0)))]), (1, 38, [.abs Sr g.d.natAbs, .val (.bool (decide (g.d < 0)))]), (2, 40, [.val (.slice none 0 0), .val (.bool false), .val (.slice none 0 0), .val (.bool false)])], 3, 61⟩
def t65a (x y : Int) : Tr := .split 14 (.as 15 (Wv x) (.res 16 (Wv (-x)) (.as 16 (Wo (-x)) (.as 17 (Wv y) (.res 18 (Wv (-y)) (.as 18 (Wo (-y)) .done)))))) .done
def num65 (n d : Int) : Int := if decide (n < 0) = true then -((n.natAbs / Nat.gcd n.natAbs d.natAbs : Nat) : Int) else ((n.natAbs / Nat.gcd n.natAbs d.natAbs : Nat) : Int)
def den65 (n d : Int) : Int := if false = true then -((d.natAbs / Nat.gcd n.natAbs d.natAbs : Nat) : Int) else ((d.natAbs / Nat.gcd n.natAbs d.natAbs : Nat) : Int)
def t65c (n d : Int) : Tr := .res 42 (SSt (n.natAbs / Nat.gcd n.natAbs d.natAbs) (n.natAbs % Nat.gcd n.natAbs d.natAbs)) (.res 49 (SSt (d.natAbs / Nat.gcd n.natAbs d.natAbs) (d.natAbs % Nat.gcd n.natAbs d.natAbs))
  (.res 55 (Wv (num65 n d)) (.as 55 (Wo (num65 n d)) (.res 57 (Wv (den65 n d)) (.as 57 (Wo (den65 n d)) .done)))))
def t65b (n d : Int) : Tr := .as 19 (Wv d) (.res 20 (B (decide (d = 1))) (.split 20 .done (.res 28 (Sv (Nat.gcd n.natAbs d.natAbs)) (.op 30 (Iv ((dg (Nat.gcd n.natAbs d.natAbs)).length : Nat)) (.split 31 (t65c n d)
  (.op 34 (Av ((dg (Nat.gcd n.natAbs d.natAbs)).getD 0 0)) (.op 35 (Uv ((dg (Nat.gcd n.natAbs d.natAbs)).getD 0 0)) (.split 36 (t65c n d) .done))))))))
theorem gcd1_of {m : Nat} (h1 : (dg m).length = 1) (h2 : (dg m).getD 0 0 = 1) : m = 1 := by
  have h := val_dg m
  cases e : dg m with
  | nil => rw [e] at h1; cases h1
  | cons a l =>
    rw [e] at h1 h2 h
    have : l = [] := by simpa using h1
    subst this
    have h2 : a = 1 := h2
    subst h2
    rw [← h]; rfl
theorem s65 (fx : Fit 10000000 x) (fy : Fit 10000000 y) (h : y ≠ 0) : Spec Try.prog 65 [Wv x, Wv y] (Qs (Rat.divInt x y)) := by
  refine Spec.arg2 (a' := Wo x) (b' := Wo y) ?_ as_wo as_wo
  refine spec_exec (T := .as 10 (Wv y) (.res 11 (B (decide (y = 0))) (.is 11 false (.cut 5 (inv65 (x := x) (y := y)) (t65a x y) fun g => t65b g.n g.d)))) Try.func65 rfl (by kernel_rfl) mixed rfl rfl rfl ?_
  refine And.intro as_ow (And.intro s98 (And.intro (decide_eq_false h) (And.intro (And.intro (fun hs => ?_) (fun hs => ?_)) ?_)))
  · refine And.intro as_ow (And.intro (s103 (fx.mono (by decide))) (And.intro as_wo (And.intro as_ow (And.intro (s103 (fy.mono (by decide))) (And.intro as_wo ?_)))))
    have hs := of_decide_eq_true hs
    refine Exists.intro ⟨-x, -y, by omega, fx.neg, fy.neg, over_neg _ _⟩ ⟨by kernel_rfl, rfl, ?_, ?_⟩
    · repeat refine And.intro (AsOk.refl _) ?_
      exact trivial
    · repeat refine And.intro (And.intro rfl (AsL.refl _)) ?_
      exact trivial
  · have hs := of_decide_eq_false hs
    refine Exists.intro ⟨x, y, by omega, fx, fy, rfl⟩ ⟨by kernel_rfl, rfl, ?_, ?_⟩
    · repeat refine And.intro (AsOk.refl _) ?_
      exact trivial
    · repeat refine And.intro (And.intro rfl (AsL.refl _)) ?_
      exact trivial
  rintro ⟨n, d, d0, fn, fd, e⟩
  have hg0 : 0 < Nat.gcd n.natAbs d.natAbs := Nat.gcd_pos_of_pos_right _ (by omega)
  have fg : FitN 100000000 (Nat.gcd n.natAbs d.natAbs) := FitN.mono (FitN.gcdr fd (by omega)) (by decide)
  have hc : ∀ {P1 P2 P3 P4 P5 P6 P7 : Prop}, P1 → P2 → P3 → P4 → P5 → P6 → P7 → P1 ∧ P2 ∧ P3 ∧ P4 ∧ P5 ∧ P6 ∧ P7 := fun a b c d e f g => ⟨a, b, c, d, e, f, g⟩
  have hs : ∃ s, decide (n < 0) = s := ⟨_, rfl⟩
  obtain ⟨sg, hsg⟩ := hs
  have hgn := rat_gn d0 hsg e
  rw [← hsg] at hgn
  refine And.intro as_ow (And.intro s96 (And.intro (fun h1 => ?_) (fun h1 => ?_)))
  · have h1 := of_decide_eq_true h1
    exact as_oq (rat_one h1 e).1 (rat_one h1 e).2
  refine And.intro (s104 (fn.mono (by decide)) (fd.mono (by decide))) (And.intro (g_len36 rfl rfl) (And.intro (fun h2 => ?_) (fun h2 => ?_)))
  · exact And.intro (s105 (Fit.mono fn (by decide)) fg hg0) (And.intro (s105 (Fit.mono fd (by decide)) fg hg0) (And.intro s106 (And.intro as_wo (And.intro s106 (And.intro as_wo (as_oq hgn.1 hgn.2))))))
  have h2 : (dg (Nat.gcd n.natAbs d.natAbs)).length = 1 := by
    have h2' : ((((dg (Nat.gcd n.natAbs d.natAbs)).length : Nat) : Int) != 1) = false := h2
    have := bne_eq_false_iff_eq.1 h2'
    omega
  refine And.intro (g_at0 rfl rfl (by rw [h2]; decide)) (And.intro (g_ld rfl rfl) (And.intro (fun h3 => ?_) (fun h3 => ?_)))
  · exact And.intro (s105 (Fit.mono fn (by decide)) fg hg0) (And.intro (s105 (Fit.mono fd (by decide)) fg hg0) (And.intro s106 (And.intro as_wo (And.intro s106 (And.intro as_wo (as_oq hgn.1 hgn.2))))))
  · have h3 : (dg (Nat.gcd n.natAbs d.natAbs)).getD 0 0 = 1 := by
      have h3' : ((((dg (Nat.gcd n.natAbs d.natAbs)).getD 0 0 : Nat) : Int) != 1) = false := h3
      have := bne_eq_false_iff_eq.1 h3'
      omega
    have hg := gcd1_of h2 h3
    exact as_oq (rat_g1 d0 hg e).1 (rat_g1 d0 hg e).2
theorem s68 : Spec Try.prog 68 [Qs q] (Wv q.den) := by
  refine sp_ex (p := fun D : Int => D = (q.den : Int) ∨ (D = 0 ∧ q = 0)) (c := fun D => Wd q.num D) Try.func68 (by kernel_rfl) rfl (fun γ s v h => ?_) (fun D hD => ?_)
  · obtain ⟨cs, rfl, a, b, e, k1, a', b', e', ⟨D, k, hD⟩, k2⟩ := h
    exact ⟨D, hD, cs, rfl, a, b, e, k1, a', b', e', k, k2⟩
  refine spec_exec (T := .res 5 (B (decide (D = 0))) (.split 5 (.res 6 (Wv 1) .done) .done)) Try.func68 rfl (by kernel_rfl) mixed rfl rfl rfl ?_
  refine And.intro s98 (And.intro (fun h => And.intro s109 ?_) (fun h => ?_))
  · rcases hD with rfl | ⟨_, rfl⟩
    · have := of_decide_eq_true h; have := den_pos q; omega
    · exact AsOk.refl _
  · rcases hD with rfl | ⟨rfl, _⟩
    · exact AsOk.refl _
    · exact absurd rfl (of_decide_eq_false h)
end
end Go.Proofs.Ythhgjloephkpaaa.Lx
namespace Go.Proofs.Ythhgjloephkpaaa.Lx
set_option linter.unusedVariables false
set_option linter.unusedSimpArgs false
open Go Go.RowKit Go.Proofs.Ythhgjloephkpaaa Go.Proofs.YthhgjloephkpaaaW.PrintWords Go.Proofs.YthhgjloephkpaaaW.PrintLast
set_option maxRecDepth 100000
section
variable {x y : Int} {p q : Rat} {m : Nat}
theorem den_one : (((p.den : Int) = 1)) ↔ p.den = 1 := by omega
theorem s52 (fx : Q6 p) (fy : Q6 q) : Spec Try.prog 52 [Qs p, Qs q] (Qs (p + q)) := by
  have C : Spec Try.prog 67 [Wv p.num, Wv q.den] (Wv (p.num * q.den)) ∧ Spec Try.prog 67 [Wv q.num, Wv p.den] (Wv (q.num * p.den)) ∧ Spec Try.prog 97 [Wv (p.num * q.den), Wv (q.num * p.den)] (Wv (p.num * q.den + q.num * p.den)) ∧
      Spec Try.prog 67 [Wv p.den, Wv q.den] (Wv (p.den * q.den)) ∧ Spec Try.prog 65 [Wv (p.num * q.den + q.num * p.den), Wv (p.den * q.den)] (Qs (Rat.divInt (p.num * q.den + q.num * p.den) (p.den * q.den))) ∧
      AsOk (Qs (Rat.divInt (p.num * q.den + q.num * p.den) (p.den * q.den))) (Qs (p + q)) :=
    ⟨s67 (f8 fx.n) (f8 fy.d), s67 (f8 fy.n) (f8 fx.d), s97 (f8 (fx.n.mul fy.d)) (f8 (fy.n.mul fx.d)), s67 (f8 fx.d) (f8 fy.d), s65 (f7 ((fx.n.mul fy.d).add (fy.n.mul fx.d))) (f7 (fx.d.mul fy.d)) (mulden_ne p q), as_qs (add_over p q)⟩
  let tC : Tr := .res 27 (Wv (p.num * q.den)) (.res 31 (Wv (q.num * p.den)) (.res 32 (Wv (p.num * q.den + q.num * p.den)) (.res 35 (Wv (p.den * q.den)) (.res 36 (Qs (Rat.divInt (p.num * q.den + q.num * p.den) (p.den * q.den))) .done))))
  refine spec_exec (T := .res 8 (Wv p.den) (.res 10 (Wv q.den) (.res 12 (B (decide ((p.den : Int) = 1))) (.split 12 (.res 15 (B (decide ((q.den : Int) = 1))) (.split 15 (.res 21 (Wv (p.num + q.num)) .done) tC)) tC)))) Try.func52 rfl (by kernel_rfl) mixed rfl rfl rfl ?_
  refine And.intro s68 (And.intro s68 (And.intro s96 (And.intro (fun h => ?_) (fun h => C))))
  refine And.intro s96 (And.intro (fun h2 => ?_) (fun h2 => C))
  have h := den_one.1 (of_decide_eq_true h)
  have h2 := den_one.1 (of_decide_eq_true h2)
  exact And.intro (s97 (f8 fx.n) (f8 fy.n)) (as_wdq (int_add h h2).1.symm (by rw [(int_add h h2).2, h]))
theorem s26 (fx : Q6 p) (fy : Q6 q) : Spec Try.prog 26 [Qs p, Qs q] (Iv (cmpR p q)) := by
  refine spec_exec (T := .res 8 (Wv q.den) (.res 9 (Wv (p.num * q.den)) (.res 13 (Wv p.den) (.res 14 (Wv (q.num * p.den)) (.res 15 (Iv (cmpZ (p.num * q.den) (q.num * p.den))) .done))))) Try.func26 rfl (by kernel_rfl) mixed rfl rfl rfl ?_
  exact And.intro s68 (And.intro (s67 (f8 fx.n) (f8 fy.d)) (And.intro s68 (And.intro (s67 (f8 fy.n) (f8 fx.d)) (And.intro s69 (as_i (cmp_over p q))))))
theorem s80 (fx : Q6 p) : Spec Try.prog 80 [Qs p] (Qs (-p)) := by
  refine spec_exec (T := .res 5 (Wv (-p.num)) (.res 7 (Wv p.den) .done)) Try.func80 rfl (by kernel_rfl) mixed rfl rfl rfl ?_
  exact And.intro (s103 (f8 fx.n)) (And.intro s68 (as_wdq (Rat.neg_num p).symm (by rw [Rat.neg_den])))
theorem s30 (fx : Q6 p) (fy : Q6 q) : Spec Try.prog 30 [Qs p, Qs q] (Qs (p - q)) := by
  refine spec_exec (T := .res 7 (Qs (-q)) (.res 8 (Qs (p + -q)) .done)) Try.func30 rfl (by kernel_rfl) mixed rfl rfl rfl ?_
  exact And.intro (s80 fy) (And.intro (s52 fx fy.neg) (as_qs (Rat.sub_eq_add_neg p q).symm))
def Qso (q : Rat) : TV := .u ⟨true, [.abs Sr q.num.natAbs, .val (.bool (decide (q.num < 0))), .abs Dr q]⟩
theorem as_qso : AsOk (Qs q) (Qso q) := fun γ s v h => by
  obtain ⟨cs, rfl, a, b, e, k, a', b', e', kd, k2⟩ := h
  obtain ⟨A, n, c, rfl, kk⟩ := wh_cells k
  rw [show b' = [] from k2, List.append_nil] at e'
  subst e' e
  exact ⟨_, rfl, [_], _, rfl, ⟨A, n, c, rfl, kk⟩, [_], _, rfl, ⟨rfl, rfl⟩, b, [], by simp, kd, rfl⟩
theorem s81 : Spec Try.prog 81 [Qs q] (Iv (cmpR q 0)) := by
  refine Spec.arg1 (a' := Qso q) ?_ as_qso
  refine spec_exec (T := .as 4 (Wv q.num) (.res 5 (B (decide (q.num = 0))) (.split 5 .done (.split 8 .done .done)))) Try.func81 rfl (by kernel_rfl) mixed rfl rfl rfl ?_
  refine And.intro as_ow (And.intro s98 (And.intro (fun h => ?_) (fun h => And.intro (fun h2 => ?_) (fun h2 => ?_))))
  · refine as_i (a := 0) ?_
    have h := of_decide_eq_true h
    rw [← cmpR_zero, h]; rfl
  · refine as_i (a := -1) ?_
    have h2 := of_decide_eq_true h2
    rw [← cmpR_zero]
    unfold cmpZ
    rw [if_pos h2]
  · refine as_i (a := 1) ?_
    have h := of_decide_eq_false h
    have h2 := of_decide_eq_false h2
    rw [← cmpR_zero]
    unfold cmpZ
    rw [if_neg h2, if_neg h]
theorem s31 (fx : Q6 p) : Spec Try.prog 31 [Qs p] (Qs p.abs) := by
  refine spec_exec (T := .res 4 (Iv (cmpR p 0)) (.split 5 (.res 7 (Qs (-p)) .done) .done)) Try.func31 rfl (by kernel_rfl) mixed rfl rfl rfl ?_
  exact And.intro s81 (And.intro (fun h => And.intro (s80 fx) (as_qs (abs_neg' (of_decide_eq_true h)))) (fun h => as_qs (abs_pos' (of_decide_eq_false h))))
theorem s27 (h1 : -9223372036854775808 ≤ x ∧ x < 9223372036854775808) (h2 : -9223372036854775808 ≤ y ∧ y < 9223372036854775808) (hd : y ≠ 0) : Spec Try.prog 27 [Rv x y] (Qs (Rat.divInt x y)) := by
  refine spec_exec (T := .res 5 (Wv x) (.res 8 (Wv y) (.res 9 (Qs (Rat.divInt x y)) .done))) Try.func27 rfl (by kernel_rfl) mixed rfl rfl rfl ?_
  exact And.intro (s66 h1.1 h1.2) (And.intro (s66 h2.1 h2.2) (And.intro (s65 (fi h1) (fi h2) hd) (AsOk.refl _)))
theorem s25 (h1 : -9223372036854775808 ≤ x ∧ x < 9223372036854775808) (h2 : -9223372036854775808 ≤ y ∧ y < 9223372036854775808) (hd : y ≠ 0) : Spec Try.prog 25 [Iv x, Iv y] (Qs (Rat.divInt x y)) := by
  refine spec_exec (T := .res 6 (Wv x) (.res 8 (Wv y) (.res 9 (Qs (Rat.divInt x y)) .done))) Try.func25 rfl (by kernel_rfl) mixed rfl rfl rfl ?_
  exact And.intro (s66 h1.1 h1.2) (And.intro (s66 h2.1 h2.2) (And.intro (s65 (fi h1) (fi h2) hd) (AsOk.refl _)))
theorem as_nr {z : Int} (h : -9223372036854775808 ≤ z ∧ z < 9223372036854775808) : AsOk (.u ⟨false, [.abs Nr z]⟩) (Iv z) := fun γ s v k => by
  obtain ⟨h1, a, b, e, ⟨n, rfl, hn⟩, h2⟩ := k
  rw [show b = [] from h2] at e
  have e : v = .int .i64 n := by simpa using e
  rw [e, hn h]; exact vi
theorem s28 : Spec Try.prog 28 [Qs q] (ratT q) := by
  refine spec_exec (T := .res 11 (NBt q.num) (.res 16 (Wv q.den) (.res 17 (NBt q.den) (.split 20 (.split 23 (.as 27 (Iv q.num) (.split 28 .done (.as 31 (Iv q.num) (.split 32 .done (.as 35 (Iv q.den) (.split 36 .done (.as 39 (Iv q.num) (.as 40 (Iv q.den) .done)))))))) .done) .done)))) Try.func28 rfl (by kernel_rfl) mixed rfl rfl rfl ?_
  refine And.intro s70 (And.intro s68 (And.intro s70 (And.intro (fun h => And.intro (fun h2 => ?_) (fun h2 => ?_)) (fun h => ?_))))
  · have h := of_decide_eq_true h
    have h2 := of_decide_eq_true h2
    refine And.intro (as_nr h) (And.intro (fun k => ?_) (fun k => And.intro (as_nr h) (And.intro (fun k2 => ?_) (fun k2 => And.intro (as_nr h2) (And.intro (fun k3 => ?_) (fun k3 => And.intro (as_nr h) (And.intro (as_nr h2) ?_)))))))
    · have k := of_decide_eq_true k
      exact as_rat_n fun g => by have := g.1; omega
    · have k2 := of_decide_eq_true k2
      exact as_rat_n fun g => by have := g.2.1; omega
    · have k3 := of_decide_eq_true k3
      exact as_rat_n fun g => by have := g.2.2; omega
    · have k := of_decide_eq_false k
      have k2 := of_decide_eq_false k2
      have k3 := of_decide_eq_false k3
      exact as_rat_y ⟨by omega, by omega, by omega⟩
  · have h2 := of_decide_eq_false h2
    exact as_rat_n fun g => h2 ⟨by have := den_pos q; omega, by have := g.2.2; omega⟩
  · have h := of_decide_eq_false h
    exact as_rat_n fun g => h ⟨by have := g.1; omega, by have := g.2.1; omega⟩
end
end Go.Proofs.Ythhgjloephkpaaa.Lx
namespace Go.Proofs.Ythhgjloephkpaaa
set_option linter.unusedVariables false
set_option linter.unusedSimpArgs false
open Go Go.RowKit Go.Proofs.YthhgjloephkpaaaW.PrintWords Go.Proofs.YthhgjloephkpaaaW.PrintLast

theorem Zh.to {w : World} {v : Value} {z z' : Int} (h : Zh w v z) (e : z = z') : Zh w v z' := e ▸ h
theorem Qz.to {w : World} {v : Value} {q q' : Rat} (h : Qz w v q) (e : q = q') : Qz w v q' := e ▸ h
theorem ceil_over (x : Rat) : -((-x.num) / (x.den : Int)) = x.ceil := by
 rw [Rat.ceil_eq_neg_floor_neg, Rat.floor_def, Rat.neg_num, Rat.neg_den]
end Go.Proofs.Ythhgjloephkpaaa
namespace Go.Proofs.Ythhgjloephkpaaa
set_option linter.unusedVariables false
set_option linter.unusedSimpArgs false
open Go Go.RowKit Go.Proofs.YthhgjloephkpaaaW.PrintWords Go.Proofs.YthhgjloephkpaaaW.PrintLast

/-- A slice of fractions. -/
def Rts (w : World) (A : Option Addr) (n c : Nat) (l : List (Int × Int)) : Prop := l.length = n ∧ n ≤ c ∧ n ≤ 4611686018427387903 ∧ (0 < n → ∃ ad, A = some ad ∧ ∀ i, i < n → w.cell? (ad.add (2 * i)) = some (.int .i64 (l.getD i (0, 0)).1) ∧ w.cell? ((ad.add (2 * i)).add 1) = some (.int .i64 (l.getD i (0, 0)).2))
theorem cell_below {w w' : World} {p : Addr} {v : Value} (h : w.cell? p = some v) (hb : Below w.heap.size w w') : w'.cell? p = some v := by
 rw [← h]
 unfold World.cell? at h ⊢
 have hk : p.block < w.heap.size := by
  rcases Nat.lt_or_ge p.block w.heap.size with h1 | h1
  ·exact h1
  ·rw [Array.getElem?_eq_none h1] at h; cases h
 rw [hb.block _ hk]
theorem Rts.below {w w' : World} {A : Option Addr} {n c : Nat} {l : List (Int × Int)} (h : Rts w A n c l) (hb : Below w.heap.size w w') : Rts w' A n c l := by
 refine ⟨h.1, h.2.1, h.2.2.1, fun h0 => ?_⟩
 obtain ⟨ad, e, hc⟩ := h.2.2.2 h0
 exact ⟨ad, e, fun i hi => ⟨cell_below (hc i hi).1 hb, cell_below (hc i hi).2 hb⟩⟩
theorem Rts.some_ {w : World} {A : Option Addr} {n c : Nat} {l : List (Int × Int)} (h : Rts w A n c l) (h0 : 0 < n) : ∃ ad, A = some ad := by
 obtain ⟨ad, e, _⟩ := h.2.2.2 h0; exact ⟨ad, e⟩
theorem rts_two {w : World} {g : Nat} {p q r s : Int} {t : TypeId} (h : w.heap[g]? = some (.cells #[.int .i64 p, .int .i64 q, .int .i64 r, .int .i64 s] t (0, 0))) : Rts w (some ⟨g, 0, none⟩) 2 2 [(p, q), (r, s)] := by
 refine ⟨rfl, by omega, by omega, fun _ => ⟨_, rfl, fun i hi => ?_⟩⟩
 have hadd : ∀ j, (⟨g, 0, none⟩ : Addr).add j = ⟨g, j, none⟩ := fun j => by unfold Addr.add; split <;> simp_all
 have hadd1 : ∀ j, (⟨g, j, none⟩ : Addr).add 1 = ⟨g, j + 1, none⟩ := fun j => by unfold Addr.add; split <;> simp_all
 rcases (by omega : i = 0 ∨ i = 1) with rfl | rfl
 ·rw [hadd, hadd1, cell_of_row w g _ _ t (0, 0) h, cell_of_row w g _ _ t (0, 0) h]; exact ⟨rfl, rfl⟩
 ·rw [hadd, hadd1, cell_of_row w g _ _ t (0, 0) h, cell_of_row w g _ _ t (0, 0) h]; exact ⟨rfl, rfl⟩
theorem rts_one {w : World} {g : Nat} {p q : Int} {t : TypeId} (h : w.heap[g]? = some (.cells #[.int .i64 p, .int .i64 q] t (0, 0))) : Rts w (some ⟨g, 0, none⟩) 1 1 [(p, q)] := by
 refine ⟨rfl, by omega, by omega, fun _ => ⟨_, rfl, fun i hi => ?_⟩⟩
 have hadd : ∀ j, (⟨g, 0, none⟩ : Addr).add j = ⟨g, j, none⟩ := fun j => by unfold Addr.add; split <;> simp_all
 have hadd1 : ∀ j, (⟨g, j, none⟩ : Addr).add 1 = ⟨g, j + 1, none⟩ := fun j => by unfold Addr.add; split <;> simp_all
 obtain rfl : i = 0 := by omega
 rw [hadd, hadd1, cell_of_row w g _ _ t (0, 0) h, cell_of_row w g _ _ t (0, 0) h]; exact ⟨rfl, rfl⟩
section
variable {w0 w : World} {L : List Bx} {a : Act} {K : Act → World → Prop} {Q : Exit → Act → World → Prop} {o : Oper}
theorem size54 : (Try.prog.info? 23).map (·.size) = some 2 := by kernel_rfl
theorem run_idx54 {x y : Operand} {b : Addr} {n c j : Nat} (ho : o.op = .indexAddr 54 x y) (hx : a.eval x = .slice (some b) n c) (hy : a.eval y = .int .i64 (j : Int)) (hj : j < n) : (execOp a.eval o).run Try.prog w = .ok (.value (.pointer (some (b.add (2 * j))))) w := by
 have h0 : (0 : Int) ≤ (j : Int) ∧ (j : Int) < (n : Int) := ⟨by omega, by omega⟩
 have hu : Try.prog.underlying 54 = some (.slice 23) := by kernel_rfl
 obtain ⟨i, hi, hz⟩ := Option.map_eq_some_iff.1 size54
 unfold execOp
 simp only [ho, hx, hy]
 simp [go_sem, h0, run_underlying hu, sizeOf, typeInfo, hi, hz, Nat.mul_comm]
theorem run_load23 {x : Operand} {p : Addr} {m n : Int} (ho : o.op = .load 23 x) (hx : a.eval x = .pointer (some p)) (h : w.cell? p = some (.int .i64 m) ∧ w.cell? (p.add 1) = some (.int .i64 n)) : (execOp a.eval o).run Try.prog w = .ok (.value (.agg #[.int .i64 m, .int .i64 n])) w := by
 have hl : (loadCells p 2).run Try.prog w = .ok #[.int .i64 m, .int .i64 n] w :=
  run_loadCells_list (P := Try.prog) w p [.int .i64 m, .int .i64 n] (fun j v hj => by
   match j, hj with
   | 0, hj => simp at hj; subst hj; rw [show p.add 0 = p from by unfold Addr.add; split <;> simp_all]; exact h.1
   | 1, hj => simp at hj; subst hj; exact h.2
   | j + 2, hj => simp at hj)
 unfold execOp
 simp only [ho, hx, Instr.loadAt, Instr.sureAddr, Sem.run_bind, Sem.run_pure, Result.andThen_ok, loadVar, ag23 w, sz23 w, if_true, hl]
set_option maxRecDepth 100000 in
theorem run_lit54 (ρ : Operand → Value) (o : Oper) (w : World) (x y : Operand) (p q r s : Int) (ho : o.op = .buildSlice 54 2 #[(0, x), (1, y)]) (hc : ρ x = .agg #[.int .i64 p, .int .i64 q]) (hd : ρ y = .agg #[.int .i64 r, .int .i64 s]) : (execOp ρ o).run Try.prog w = .ok (.value (.slice (some ⟨w.heap.size, 0, none⟩) 2 2)) (w.alloc (.cells #[.int .i64 p, .int .i64 q, .int .i64 r, .int .i64 s] 23)) := by
 unfold execOp
 simp only [ho, List.map_toArray, List.map_cons, List.map_nil, hc, hd]
 first | kernel_rfl | simp [go_sem]
set_option maxRecDepth 100000 in
theorem run_lit54_1 (ρ : Operand → Value) (o : Oper) (w : World) (x : Operand) (p q : Int) (ho : o.op = .buildSlice 54 1 #[(0, x)]) (hc : ρ x = .agg #[.int .i64 p, .int .i64 q]) : (execOp ρ o).run Try.prog w = .ok (.value (.slice (some ⟨w.heap.size, 0, none⟩) 1 1)) (w.alloc (.cells #[.int .i64 p, .int .i64 q] 23)) := by
 unfold execOp
 simp only [ho, List.map_toArray, List.map_cons, List.map_nil, hc]
 first | kernel_rfl | simp [go_sem]
end
/-- The error of a test: none, or that it is no fraction. -/
def errV (b : Prop) [Decidable b] : Int := if b then 0 else 1
theorem errV_t {b : Prop} [Decidable b] (h : b) : errV b = 0 := if_pos h
theorem errV_f {b : Prop} [Decidable b] (h : ¬ b) : errV b = 1 := if_neg h
/-- All of them are fractions in their form. -/
def Alls (l : List (Int × Int)) : Prop := ∀ x ∈ l, IsQ x.1 x.2
instance (l : List (Int × Int)) : Decidable (Alls l) := by unfold Alls; infer_instance
theorem alls_two {p q r s : Int} : Alls [(p, q), (r, s)] ↔ IsQ p q ∧ IsQ r s := by unfold Alls; simp
theorem alls_one {p q : Int} : Alls [(p, q)] ↔ IsQ p q := by unfold Alls; simp
theorem gcd_tmod (a b : Int) : Int.gcd b (a.tmod b) = Int.gcd a b := by
 show Nat.gcd b.natAbs (a.tmod b).natAbs = Nat.gcd a.natAbs b.natAbs
 rw [show (a.tmod b).natAbs = a.natAbs % b.natAbs from Int.natAbs_tmod a b, Nat.gcd_comm b.natAbs, ← Nat.gcd_rec, Nat.gcd_comm]
theorem tmod_lt {a b : Int} (hb : b ≠ 0) : (a.tmod b).natAbs < b.natAbs := by
 rw [show (a.tmod b).natAbs = a.natAbs % b.natAbs from Int.natAbs_tmod a b]; exact Nat.mod_lt _ (by omega)
theorem isq_num {p q : Int} (h : IsQ p q) : p = (Rat.divInt p q).num ∧ q = ((Rat.divInt p q).den : Int) := ratio_gcd1 (by have := h.1; omega) h.2.2.2.2
theorem isq_fit {p q : Int} (h : IsQ p q) : QFit 1000 (Rat.divInt p q) := by
 have h2 := h.2
 exact QFit.over ((Fit.int64 (by omega) (by omega)).mono (by decide)) ((Fit.int64 (by have := h.1; omega) (by omega)).mono (by decide)) (by have := h.1; omega)
end Go.Proofs.Ythhgjloephkpaaa
namespace Go.Proofs.Ythhgjloephkpaaa.Lx
set_option linter.unusedVariables false
set_option linter.unusedSimpArgs false
open Go Go.RowKit Go.Proofs.Ythhgjloephkpaaa Go.Proofs.YthhgjloephkpaaaW.PrintWords Go.Proofs.YthhgjloephkpaaaW.PrintLast
set_option maxRecDepth 100000
section
variable {S : SS} {o : Oper} {a b : Int}
theorem g_rem {x y : Operand} {u : TypeId} (ho : o.op = .binOp .rem 3 x y u) (hx : opT S x = some (Iv a)) (hy : opT S y = some (Iv b)) (h : b ≠ 0) : OpGives Try.prog S o (Iv (a.tmod b)) := g_pure fun γ s c k => by
  have e1 := iv (k x (by rw [ho]; simp [Op.operands]) _ hx)
  have e2 := iv (k y (by rw [ho]; simp [Op.operands]) _ hy)
  exact ⟨_, run_bin _ _ _ ho e1 e2 (bin_rem_3 x y a b h), vi⟩
end
theorem w64 {z : Int} (h : -9223372036854775808 ≤ z ∧ z < 9223372036854775808) : IntKind.i64.wrap z = z := by rw [IntKind.wrap_i64]; omega
structure GV (p q : Int) where
  a : Int
  b : Int
  h : Int.gcd a b = Nat.gcd p.natAbs q.natAbs
theorem isq_of {p q : Int} (h : 1 ≤ q ∧ q ≤ 1000000000000 ∧ -1000000000000 ≤ p ∧ p ≤ 1000000000000) : IsQ p q ↔ Nat.gcd p.natAbs q.natAbs = 1 := ⟨fun k => k.2.2.2.2, fun k => ⟨h.1, h.2.1, h.2.2.1, h.2.2.2, k⟩⟩
section
variable {p q : Int}
theorem s49 : Spec Try.prog 49 [Rv p q] (B (decide (IsQ p q))) := by
  let tl : Tr := .loop (⟨p, q, rfl⟩ : GV p q) (fun g => ⟨[(3, Iv g.a), (4, Iv g.b)], [], 1, 39⟩) (fun g => g.b.natAbs) fun g => .split 28 (.op 32 (Iv (g.a.tmod g.b)) .done) (.split 34 .done .done)
  refine spec_exec (T := .split 7 .done (.split 11 .done (.split 16 .done (.split 21 .done tl)))) Try.func49 rfl (by kernel_rfl) mixed rfl rfl rfl ?_
  have no : ¬ IsQ p q → AsOk (B false) (B (decide (IsQ p q))) := fun h => as_b (decide_eq_false h).symm
  refine And.intro (fun h1 => no fun h => ?_) (fun h1 => And.intro (fun h2 => no fun h => ?_) (fun h2 => And.intro (fun h3 => no fun h => ?_) (fun h3 => And.intro (fun h4 => no fun h => ?_) (fun h4 => ?_))))
  · have := of_decide_eq_true h1; have := h.1; omega
  · have := of_decide_eq_true h2; have := h.2.1; omega
  · have := of_decide_eq_true h3; have := h.2.2.2.1; omega
  · have := of_decide_eq_true h4; have := h.2.2.1; omega
  have h1 := of_decide_eq_false h1
  have h2 := of_decide_eq_false h2
  have h3 := of_decide_eq_false h3
  have h4 := of_decide_eq_false h4
  have hq := isq_of (p := p) (q := q) ⟨by omega, by omega, by omega, by omega⟩
  refine And.intro ⟨by kernel_rfl, rfl, And.intro (AsOk.refl _) (And.intro (AsOk.refl _) trivial), trivial⟩ ?_
  rintro ⟨a, b, hg⟩
  refine And.intro (fun hb => ?_) (fun hb => ?_)
  · have hb : b ≠ 0 := by
      have : (b != 0) = true := hb
      simpa using this
    refine And.intro (g_rem rfl rfl rfl hb) ?_
    refine Exists.intro ⟨b, a.tmod b, (gcd_tmod a b).trans hg⟩ (And.intro ⟨by kernel_rfl, rfl, And.intro (AsOk.refl _) (And.intro (AsOk.refl _) trivial), trivial⟩ ?_)
    exact tmod_lt hb
  · have hb : b = 0 := by
      have : (b != 0) = false := hb
      simpa using this
    subst hb
    rw [Int.gcd_zero_right] at hg
    refine And.intro (fun h => ?_) (fun h => ?_)
    · have h : a = 1 := by
        have : (a == 1) = true := h
        simpa using this
      exact as_b (decide_eq_true (hq.2 (by rw [← hg, h]; rfl))).symm
    · have h : a ≠ 1 := by
        have : (a == 1) = false := h
        simpa using this
      refine as_b (a := a == -1) ?_
      rw [Bool.eq_iff_iff, decide_eq_true_eq, hq, ← hg]
      simp only [beq_iff_eq]
      omega
theorem s14 : Spec Try.prog 14 [Rv p q] (Iv (errV (IsQ p q))) := by
  refine spec_exec (T := .res 4 (B (decide (IsQ p q))) (.split 5 .done .done)) Try.func14 rfl (by kernel_rfl) mixed rfl rfl rfl ?_
  refine And.intro s49 (And.intro (fun h => as_i (a := 1) ?_) (fun h => as_i (a := 0) ?_))
  · have h : (!decide (IsQ p q)) = true := h
    exact (errV_f (by simpa using h)).symm
  · have h : (!decide (IsQ p q)) = false := h
    exact (errV_t (by simpa using h)).symm
end
end Go.Proofs.Ythhgjloephkpaaa.Lx
namespace Go.Proofs.Ythhgjloephkpaaa.Lx
set_option linter.unusedVariables false
set_option linter.unusedSimpArgs false
open Go Go.RowKit Go.Proofs.Ythhgjloephkpaaa Go.Proofs.YthhgjloephkpaaaW.PrintWords Go.Proofs.YthhgjloephkpaaaW.PrintLast
set_option maxRecDepth 100000
/-- What lies in frozen blocks stays. -/
theorem cell_le {s t : Kst} {p : Addr} (h : Le s t) (hf : s.fz p.block) : t.w.cell? p = s.w.cell? p := by
  unfold World.cell?
  rw [(h.keep _ hf).2]
theorem addr_block (p : Addr) (j : Nat) : (p.add j).block = p.block := by unfold Addr.add; split <;> rfl
/-- A slice of fractions in a frozen block. -/
def Lr : Rel (List (Int × Int)) where
  n := 1
  R s cs l := ∃ A n c, cs = [.slice A n c] ∧ Rts s.w A n c l ∧ ∀ ad, 0 < n → A = some ad → s.fz ad.block
  up s t cs l h k := by
    obtain ⟨A, n, c, e, k, f⟩ := k
    refine ⟨A, n, c, e, ⟨k.1, k.2.1, k.2.2.1, fun h0 => ?_⟩, fun ad h0 ea => (h.keep _ (f ad h0 ea)).1⟩
    obtain ⟨ad, ea, hc⟩ := k.2.2.2 h0
    have hf := f ad h0 ea
    refine ⟨ad, ea, fun i hi => ?_⟩
    rw [cell_le h (by rw [addr_block]; exact hf), cell_le h (by rw [addr_block, addr_block]; exact hf)]
    exact hc i hi
  len s cs x k := by obtain ⟨A, n, c, rfl, _⟩ := k; rfl
  ok s cs x k v hv := by obtain ⟨A, n, c, rfl, _⟩ := k; simp at hv; subst hv; simp [Value.oneCell', noW]
/-- The address of a fraction in a frozen block. -/
def Br : Rel (Int × Int) where
  n := 1
  R s cs x := ∃ p, cs = [.pointer (some p)] ∧ s.fz p.block ∧ s.w.cell? p = some (.int .i64 x.1) ∧ s.w.cell? (p.add 1) = some (.int .i64 x.2)
  up s t cs x h k := by
    obtain ⟨p, e, f, k1, k2⟩ := k
    exact ⟨p, e, (h.keep _ f).1, by rw [cell_le h f]; exact k1, by rw [cell_le h (by rw [addr_block]; exact f)]; exact k2⟩
  len s cs x k := by obtain ⟨p, rfl, _⟩ := k; rfl
  ok s cs x k v hv := by obtain ⟨p, rfl, _⟩ := k; simp at hv; subst hv; simp [Value.oneCell', noW]
def Lv (l : List (Int × Int)) : TV := .u ⟨false, [.abs Lr l]⟩
def Bv (x : Int × Int) : TV := .u ⟨false, [.abs Br x]⟩
section
variable {γ : Nat → Nat} {s : Kst} {v : Value}
theorem lv {l : List (Int × Int)} (h : (Lv l).Rep γ s v) : ∃ A n c, v = .slice A n c ∧ Rts s.w A n c l ∧ ∀ ad, 0 < n → A = some ad → s.fz ad.block := by
  obtain ⟨h1, a, b, e, ⟨A, n, c, rfl, k⟩, k2⟩ := h
  rw [show b = [] from k2] at e
  exact ⟨A, n, c, by simpa using e, k⟩
theorem vl {A : Option Addr} {n c : Nat} {l : List (Int × Int)} (k : Rts s.w A n c l) (f : ∀ ad, 0 < n → A = some ad → s.fz ad.block) : (Lv l).Rep γ s (.slice A n c) :=
  ⟨rfl, [_], [], rfl, ⟨A, n, c, rfl, k, f⟩, rfl⟩
theorem vr {p q : Int} : (Rv p q).Rep γ s (.agg #[.int .i64 p, .int .i64 q]) := ⟨[_, _], rfl, [_], [_], rfl, ⟨rfl, rfl⟩, [_], [], rfl, ⟨rfl, rfl⟩, rfl⟩
end
section
variable {S : SS} {o : Oper} {l : List (Int × Int)}
theorem g_len54 {y : Operand} (ho : o.op = .call { callee := .builtin .len, args := #[y], argTypes := #[54] }) (hy : opT S y = some (Lv l)) : OpGives Try.prog S o (Iv (l.length : Nat)) := g_pure fun γ s a k => by
  obtain ⟨A, n, c, e, h, _⟩ := lv (k y (by rw [ho]; simp [Op.operands, Call.operands]) _ hy)
  exact ⟨_, run_len54 ho e, by rw [h.1]; exact vi⟩
theorem g_idx54 {y z : Operand} {i : Nat} (ho : o.op = .indexAddr 54 y z) (hy : opT S y = some (Lv l)) (hz : opT S z = some (Iv (i : Nat))) (hi : i < l.length) : OpGives Try.prog S o (Bv (l.getD i (0, 0))) := g_pure fun γ s a k => by
  obtain ⟨A, n, c, e, h, f⟩ := lv (k y (by rw [ho]; simp [Op.operands]) _ hy)
  have e2 := iv (k z (by rw [ho]; simp [Op.operands]) _ hz)
  have hn : i < n := by rw [← h.1]; exact hi
  obtain ⟨ad, rfl, hc⟩ := h.2.2.2 (by omega)
  exact ⟨_, run_idx54 ho e e2 hn, rfl, [_], [], rfl, ⟨_, rfl, by rw [addr_block]; exact f ad (by omega) rfl, (hc i hn).1, (hc i hn).2⟩, rfl⟩
theorem g_ld23 {y : Operand} {x : Int × Int} (ho : o.op = .load 23 y) (hy : opT S y = some (Bv x)) : OpGives Try.prog S o (Rv x.1 x.2) := g_pure fun γ s a k => by
  obtain ⟨h1, p, q, e, ⟨ad, rfl, f, hc1, hc2⟩, h2⟩ := k y (by rw [ho]; simp [Op.operands]) _ hy
  rw [show q = [] from h2] at e
  have e : a.eval y = .pointer (some ad) := by simpa using e
  exact ⟨_, run_load23 ho e ⟨hc1, hc2⟩, vr⟩
/-- A new block, frozen. -/
def Kst.frz (s : Kst) (o : Obj) : Kst := ⟨s.w.alloc o, fun g => s.fz g ∨ g = s.w.heap.size, fun g h => by rw [alloc_size]; rcases h with h | h; have := s.lt g h; omega; omega⟩
theorem Kst.le_frz (s : Kst) (o : Obj) : Le s (s.frz o) :=
  ⟨U.box _ _, fun g h => ⟨.inl h, Below.heap_alloc _ _ _ (s.lt g h)⟩, by show _ ≤ (s.w.alloc o).heap.size; rw [alloc_size]; omega, fun g h => h.elim .inl (fun e => .inr (by omega))⟩
theorem g_lit1 {y : Operand} {p q : Int} (ho : o.op = .buildSlice 54 1 #[(0, y)]) (hy : opT S y = some (Rv p q)) : OpGives Try.prog S o (Lv [(p, q)]) := fun γ s a k => by
  have e := rv (k y (by rw [ho]; simp [Op.operands]) _ hy)
  have hself : (s.w.alloc (.cells #[.int .i64 p, .int .i64 q] 23)).heap[s.w.heap.size]? = some (.cells #[.int .i64 p, .int .i64 q] 23 (0, 0)) := Array.getElem?_push_size
  refine ⟨_, s.frz (.cells #[.int .i64 p, .int .i64 q] 23), run_lit54_1 a.eval o s.w y p q ho e, s.le_frz _, (Below.refl _ _).alloc (Nat.le_refl _) _, vl (rts_one hself) fun ad _ e => ?_⟩
  injection e with e; subst e; exact .inr rfl
theorem g_lit2 {y z : Operand} {p q m n : Int} (ho : o.op = .buildSlice 54 2 #[(0, y), (1, z)]) (hy : opT S y = some (Rv p q)) (hz : opT S z = some (Rv m n)) : OpGives Try.prog S o (Lv [(p, q), (m, n)]) := fun γ s a k => by
  have e := rv (k y (by rw [ho]; simp [Op.operands]) _ hy)
  have e2 := rv (k z (by rw [ho]; simp [Op.operands]) _ hz)
  have hself : (s.w.alloc (.cells #[.int .i64 p, .int .i64 q, .int .i64 m, .int .i64 n] 23)).heap[s.w.heap.size]? = some (.cells #[.int .i64 p, .int .i64 q, .int .i64 m, .int .i64 n] 23 (0, 0)) := Array.getElem?_push_size
  refine ⟨_, s.frz (.cells #[.int .i64 p, .int .i64 q, .int .i64 m, .int .i64 n] 23), run_lit54 a.eval o s.w y z p q m n ho e e2, s.le_frz _, (Below.refl _ _).alloc (Nat.le_refl _) _, vl (rts_two hself) fun ad _ e => ?_⟩
  injection e with e; subst e; exact .inr rfl
end
theorem lv_len {l : List (Int × Int)} {P : Program} {f : FuncId} {r : TV} {fn : Func} (hf : P.funcs[f]? = some fn) (hname : (fn.name == "runtime.NumGoroutine") = false) (hb : fn.body.isSome = true)
    (h : l.length ≤ 4611686018427387903 → Spec P f [Lv l] r) : Spec P f [Lv l] r :=
  ⟨fun vs w => enters_ hf hname hb vs w, fun γ s vs ⟨x, y, e1, k1, k2⟩ => by
    obtain ⟨A, n, c, e, hr, _⟩ := lv k1
    exact (h (by rw [hr.1]; exact hr.2.2.1)).run γ s vs ⟨x, y, e1, k1, k2⟩⟩
/-- So many of a list are in their form. -/
structure GL (l : List (Int × Int)) where
  i : Nat
  hi : i ≤ l.length
  h : ∀ j, j < i → IsQ (l.getD j (0, 0)).1 (l.getD j (0, 0)).2
theorem isq_next {l : List (Int × Int)} {i : Nat} (h : ∀ j, j < i → IsQ (l.getD j (0, 0)).1 (l.getD j (0, 0)).2) (hy : IsQ (l.getD i (0, 0)).1 (l.getD i (0, 0)).2) : ∀ j, j < i + 1 → IsQ (l.getD j (0, 0)).1 (l.getD j (0, 0)).2 := fun j hj => by
  rcases Nat.lt_or_ge j i with h' | h'
  · exact h j h'
  · rw [show j = i from by omega]; exact hy
theorem alls_of {l : List (Int × Int)} (h : ∀ j, j < l.length → IsQ (l.getD j (0, 0)).1 (l.getD j (0, 0)).2) : Alls l := fun x hx => by
  obtain ⟨j, hj, e⟩ := List.getElem_of_mem hx
  have := h j hj
  rw [List.getD_eq_getElem?_getD, List.getElem?_eq_getElem hj, Option.getD_some, e] at this
  exact this
theorem alls_at {l : List (Int × Int)} {i : Nat} (h : Alls l) (hi : i < l.length) : IsQ (l.getD i (0, 0)).1 (l.getD i (0, 0)).2 := by
  rw [List.getD_eq_getElem?_getD, List.getElem?_eq_getElem hi, Option.getD_some]
  exact h _ (List.getElem_mem hi)
section
variable {l : List (Int × Int)} {p q m n : Int} {x y : Rat}
theorem s45 : Spec Try.prog 45 [Lv l] (Iv (errV (Alls l))) := by
  refine lv_len Try.func45 (by kernel_rfl) rfl fun hl => ?_
  let at_ (i : Nat) : Int × Int := l.getD i (0, 0)
  refine spec_exec (T := .op 7 (Iv (l.length : Nat)) (.loop (⟨0, Nat.zero_le _, fun _ h => by omega⟩ : GL l) (fun g => ⟨[(6, Lv l), (7, Iv (l.length : Nat)), (8, Iv (g.i : Nat))], [], 0, 18⟩) (fun g => l.length - g.i) fun g =>
    .split 9 (.op 10 (Bv (at_ g.i)) (.op 11 (Rv (at_ g.i).1 (at_ g.i).2) (.res 13 (Iv (errV (IsQ (at_ g.i).1 (at_ g.i).2))) (.split 15 .done (.as 17 (Iv ((g.i + 1 : Nat) : Int)) .done))))) .done)) Try.func45 rfl (by kernel_rfl) mixed rfl rfl rfl ?_
  refine And.intro (g_len54 rfl rfl) (And.intro ⟨by kernel_rfl, rfl, And.intro (AsOk.refl _) (And.intro (AsOk.refl _) (And.intro (AsOk.refl _) trivial)), trivial⟩ ?_)
  rintro ⟨i, hi, hj⟩
  refine And.intro (fun h => ?_) (fun h => ?_)
  · have h : ((i : Nat) : Int) < (l.length : Nat) := of_decide_eq_true h
    have e1 : IntKind.i64.wrap ((i : Int) + 1) = ((i + 1 : Nat) : Int) := by rw [w64 (by omega)]; omega
    refine And.intro (g_idx54 (i := i) rfl rfl rfl (by omega)) (And.intro (g_ld23 rfl rfl) (And.intro s14 (And.intro (fun h2 => ?_) (fun h2 => And.intro (as_i e1) ?_))))
    · have h2 : (errV (IsQ (at_ i).1 (at_ i).2) != 0) = true := h2
      have hn : ¬ IsQ (at_ i).1 (at_ i).2 := fun h => by rw [errV_t h] at h2; cases h2
      refine as_i ?_
      rw [errV_f hn, errV_f fun h => hn (alls_at h (by omega))]
    · have h2 : (errV (IsQ (at_ i).1 (at_ i).2) != 0) = false := h2
      have hy : IsQ (at_ i).1 (at_ i).2 := Classical.byContradiction fun h => by rw [errV_f h] at h2; cases h2
      exact Exists.intro ⟨i + 1, by omega, isq_next hj hy⟩
        (And.intro ⟨by kernel_rfl, rfl, And.intro (AsOk.refl _) (And.intro (AsOk.refl _) (And.intro (AsOk.refl _) trivial)), trivial⟩ (by show l.length - (i + 1) < l.length - i; omega))
  · have h : ¬ ((i : Nat) : Int) < (l.length : Nat) := of_decide_eq_false h
    exact as_i (errV_t (alls_of fun j h' => hj j (by omega))).symm
theorem s42 : Spec Try.prog 42 [Qo x] (toldT x) := by
  refine spec_exec (T := .res 8 (ratT x) (.split 11 .done .done)) Try.func42 rfl (by kernel_rfl) mixed rfl rfl rfl ?_
  refine And.intro s94 (And.intro (fun h => ?_) (fun h => ?_))
  · have h := of_decide_eq_true h
    show AsOk (Re _ _ _) (toldT x)
    unfold toldT
    rw [if_pos h, if_pos h, if_pos h]
    exact AsOk.refl _
  · have h := of_decide_eq_false h
    show AsOk (Re _ _ _) (toldT x)
    unfold toldT
    rw [if_neg h, if_neg h, if_neg h]
    exact AsOk.refl _
/-- A number of two ints, or what is wrong with them. -/
def makeT (n d : Int) : TV := if d = 0 then Re 0 0 1 else toldT (Rat.divInt n d)
abbrev In64 (z : Int) : Prop := -9223372036854775808 ≤ z ∧ z < 9223372036854775808
theorem s10 (h1 : In64 p) (h2 : In64 q) : Spec Try.prog 10 [Iv p, Iv q] (makeT p q) := by
  unfold makeT
  by_cases h : q = 0
  · rw [if_pos h]
    refine spec_exec (T := .is 7 true .done) Try.func10 rfl (by kernel_rfl) mixed rfl rfl rfl ?_
    exact And.intro (by subst h; rfl) (AsOk.refl _)
  · rw [if_neg h]
    refine spec_exec (T := .is 7 false (.res 11 (Qo (Rat.divInt p q)) (.res 12 (toldT (Rat.divInt p q)) .done))) Try.func10 rfl (by kernel_rfl) mixed rfl rfl rfl ?_
    exact And.intro (by simpa using h) (And.intro (s43 h1 h2 h) (And.intro s42 (AsOk.refl _)))
end
end Go.Proofs.Ythhgjloephkpaaa.Lx
namespace Go.Proofs.YthhgjloephkpaaaW.PrintWords
open Go.RowKit
section
variable {P : Program} {d : Nat} {xs ys : Array Value} {f : Field} {fs : List Field} {a b : Value} {r s : Bool} {w : World}
/-- The last field that counts. -/
theorem eqf_last (hn : (f.name == "_") = false) (ha : (part f.type xs f.offset).run P w = .ok a w) (hb : (part f.type ys f.offset).run P w = .ok b w) (he : (Op.equalIn d f.type a b).run P w = .ok r w) : (Op.eqFields d xs ys [f]).run P w = .ok r w := by
  have hn' : f.name ≠ "_" := by simpa using hn
  simp only [Op.eqFields, if_pos hn', Sem.run_bind, ha, hb, he, Result.andThen_ok]
  cases r <;> simp
theorem eqf_cons (hn : (f.name == "_") = false) (ha : (part f.type xs f.offset).run P w = .ok a w) (hb : (part f.type ys f.offset).run P w = .ok b w) (he : (Op.equalIn d f.type a b).run P w = .ok r w) (hr : (Op.eqFields d xs ys fs).run P w = .ok s w) : (Op.eqFields d xs ys (f :: fs)).run P w = .ok (r && s) w := by
  have hn' : f.name ≠ "_" := by simpa using hn
  rw [Op.eqFields]
  simp only [if_pos hn', Sem.run_bind, ha, hb, he, Result.andThen_ok]
  cases r
  · simp
  · simpa using hr
theorem eqA_of {t : TypeId} {fs : Array Field} (hu : P.underlying t = some (.struct fs)) (hp : P.stoodInHeld t = false) (h : (Op.eqFields d xs ys fs.toList).run P w = .ok r w) : (Op.equalIn (d + 1) t (.agg xs) (.agg ys)).run P w = .ok r w := by
  have hf : P.fieldsOf t = fs := by simp [Program.fieldsOf, hu]
  rw [run_equalIn_struct (P := P) w d t xs ys (by rw [hf]; exact hu) hp, hf]
  exact h
end
end Go.Proofs.YthhgjloephkpaaaW.PrintWords
