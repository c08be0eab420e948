/- Words and walks for the row RowRatLeast, put together: LX19, LXN, LX20, LX21, LXS, LX26, LX27, LXM, LXM2, LX28, LX29. -/
import Derived.Test.YthhgjloephkpaaaLe24
namespace Go.Proofs.Ythhgjloephkpaaa.Lx
set_option linter.unusedVariables false
set_option linter.unusedSimpArgs false
open Go Go.RowKit Go.Proofs.Ythhgjloephkpaaa Go.Proofs.YthhgjloephkpaaaW.PrintWords Go.Proofs.YthhgjloephkpaaaW.PrintLast
set_option maxRecDepth 100000
section
variable {w : World}
theorem eq23 (p q r s : Int) : (Op.equal 23 (.agg #[.int .i64 p, .int .i64 q]) (.agg #[.int .i64 r, .int .i64 s])).run Try.prog w = .ok ((p == r) && (q == s)) w := by
  show (Op.equalIn (9999 + 1) 23 _ _).run Try.prog w = _
  refine eqA_of Try.underlying23 (by kernel_rfl) ?_
  refine eqf_cons (a := .int .i64 p) (b := .int .i64 r) (by rfl) (by rfl) (by rfl) (run_equalIn_int (P := Try.prog) w 9998 _ .i64 .i64 p r Try.underlying3) ?_
  exact eqf_last (a := .int .i64 q) (b := .int .i64 s) (by rfl) (by rfl) (by rfl) (run_equalIn_int (P := Try.prog) w 9998 _ .i64 .i64 q s Try.underlying3)
theorem bin_eql_23 (x y : Operand) (p q r s : Int) : (do eqGuard .eql 23 x y (.agg #[.int .i64 p, .int .i64 q]) (.agg #[.int .i64 r, .int .i64 s]); binOp .eql 23 (.agg #[.int .i64 p, .int .i64 q]) (.agg #[.int .i64 r, .int .i64 s]) : Sem Value).run Try.prog w = .ok (.bool ((p == r) && (q == s))) w := by
  simp [eqGuard, binOp, go_sem, eq23]
end
section
variable {S : SS} {o : Oper} {p q r s : Int}
theorem g_eq23 {x y : Operand} {u : TypeId} (ho : o.op = .binOp .eql 23 x y u) (hx : opT S x = some (Rv p q)) (hy : opT S y = some (Rv r s)) : OpGives Try.prog S o (B ((p == r) && (q == s))) := g_pure fun γ t c k => by
  have e1 := rv (k x (by rw [ho]; simp [Op.operands]) _ hx)
  have e2 := rv (k y (by rw [ho]; simp [Op.operands]) _ hy)
  exact ⟨_, run_bin _ _ _ ho e1 e2 (bin_eql_23 x y p q r s), vb⟩
end
theorem isq64 {p q : Int} (h : IsQ p q) : In64 p ∧ In64 q := ⟨⟨by have := h.2.2.1; omega, by have := h.2.2.2.1; omega⟩, by have := h.1; omega, by have := h.2.1; omega⟩
theorem isq_fit {p q : Int} (h : IsQ p q) : Q6 (Rat.divInt p q) := ⟨by rw [← (isq_num h).1]; exact fi (isq64 h).1, by rw [← (isq_num h).2]; exact fi (isq64 h).2⟩
section
variable {p q r s n d : Int}
/-- Two ints. -/
def Ii (a b : Int) : TV := .tup [⟨false, [.val (.int .i64 a)]⟩, ⟨false, [.val (.int .i64 b)]⟩]
theorem isq_ne {p q : Int} (h : IsQ p q) : q ≠ 0 := by have := h.1; omega
theorem floor_in {p q : Int} (h : IsQ p q) : -1000000000000 ≤ (Rat.divInt p q).floor ∧ (Rat.divInt p q).floor ≤ 1000000000000 := by
  obtain ⟨h1, h2⟩ := isq_num h
  rw [Rat.floor_def, ← h1, ← h2]
  have h3 : (p / q).natAbs ≤ p.natAbs := Int.natAbs_ediv_le_natAbs p q
  have h4 := h.2
  omega
/-- What the floor answers. -/
def floorT (p q : Int) : TV := if IsQ p q then Ii (Rat.divInt p q).floor 0 else Ii 0 1
theorem s51 : Spec Try.prog 51 [Rv p q] (floorT p q) := by
  unfold floorT
  by_cases h : IsQ p q
  · rw [if_pos h]
    have hf := floor_in h
    refine spec_exec (T := .op 8 (Lv [(p, q)]) (.res 9 (Iv (errV (Alls [(p, q)]))) (.as 9 (Iv 0) (.res 15 (Qo (Rat.divInt p q)) (.res 16 (Zv (Rat.divInt p q).floor) (.res 17 (Ib (Rat.divInt p q).floor true) .done)))))) Try.func51 rfl (by kernel_rfl) mixed rfl rfl rfl ?_
    refine And.intro (g_lit1 rfl rfl) (And.intro s45 (And.intro (as_i (errV_t (alls_one.2 h))) (And.intro (s46 (isq64 h).1 (isq64 h).2 (isq_num h).1 (isq_num h).2) (And.intro (s95 (isq_fit h)) (And.intro ((s83 (by decide) (by decide)).to ?_) (AsOk.refl _))))))
    rw [if_pos hf, decide_eq_true hf]
    exact AsOk.refl _
  · rw [if_neg h]
    refine spec_exec (T := .op 8 (Lv [(p, q)]) (.res 9 (Iv (errV (Alls [(p, q)]))) (.as 9 (Iv 1) .done))) Try.func51 rfl (by kernel_rfl) mixed rfl rfl rfl ?_
    exact And.intro (g_lit1 rfl rfl) (And.intro s45 (And.intro (as_i (errV_f fun k => h (alls_one.1 k))) (AsOk.refl _)))
end
end Go.Proofs.Ythhgjloephkpaaa.Lx
namespace Go.Proofs.Ythhgjloephkpaaa.Lx
set_option linter.unusedVariables false
set_option linter.unusedSimpArgs false
open Go Go.RowKit Go.Proofs.Ythhgjloephkpaaa Go.Proofs.YthhgjloephkpaaaW.PrintWords Go.Proofs.YthhgjloephkpaaaW.PrintLast
set_option maxRecDepth 100000
def q227 : Rat := ⟨22, 7, by decide, by decide⟩
structure G where
  n : Int
  d : Int
  p0 : Int
  q0 : Int
  p1 : Int
  q1 : Int
  h : (n = 22 ∧ d = 7 ∧ p0 = 0 ∧ q0 = 1 ∧ p1 = 1 ∧ q1 = 0) ∨ (n = 7 ∧ d = 1 ∧ p0 = 1 ∧ q0 = 0 ∧ p1 = 3 ∧ q1 = 1)
def inv (g : G) : SS := ⟨[(1, Iv 5), (4, Pv 1), (6, Pv 2), (7, Pv 3), (8, Pv 4), (9, Pv 5), (10, Pv 6), (11, Pv 7), (12, Pv 8)],
  [(1, 23, [.val (.int .i64 0), .val (.int .i64 0)]), (2, 62, [.abs Zr 22, .abs Zr 7]), (3, 60, [.abs Zr g.p0]), (4, 60, [.abs Zr g.q0]), (5, 60, [.abs Zr g.p1]), (6, 60, [.abs Zr g.q1]), (7, 60, [.abs Zr g.n]), (8, 60, [.abs Zr g.d])], 9, 128⟩
def t1 : Tr := .res 49 (Zv 3) (.res 53 (Zv 0) (.res 54 (Zv 1) (.res 57 (Zv 5) (.res 58 (Iv (cmpZ 1 5)) (.split 59 .done
  (.res 65 (Zv 3) (.res 66 (Zv 3) (.res 72 (Zv 21) (.res 73 (Zv 1) .done)))))))))
def t2 : Tr := .res 49 (Zv 7) (.res 53 (Zv 7) (.res 54 (Zv 7) (.res 57 (Zv 5) (.res 58 (Iv (cmpZ 7 5)) (.split 59
  (.res 76 (Zv 5) (.res 78 (Zv 5) (.res 80 (.tup [⟨true, [.abs Zr 5]⟩, ⟨true, [.abs Zr 0]⟩]) (.res 86 (Zv 15) (.res 87 (Zv 16) (.res 91 (Zv 5) (.res 92 (Zv 5) (.res 93 (Qo (Rat.divInt 16 5)) (.res 96 (Qo (Rat.divInt 3 1))
  ((.res 99 (Qo (Rat.divInt 16 5 - q227)) (.res 100 (Qo (Rat.divInt 16 5 - q227).abs) ((.res 103 (Qo (Rat.divInt 3 1 - q227)) (.res 104 (Qo (Rat.divInt 3 1 - q227).abs)
  (.res 105 (Iv (cmpR (Rat.divInt 16 5 - q227).abs (Rat.divInt 3 1 - q227).abs)) (.as 105 (Iv (-1)) (.res 121 (toldT (Rat.divInt 16 5)) .done))))))))))))))))))
  .done)))))
theorem fits {z : Int} {k : Nat} (h : -9223372036854775808 ≤ z ∧ z < 9223372036854775808) (hk : 2 ≤ k) : Fit k z := (Fit.int64 h.1 (by omega)).mono hk
theorem qfits {q : Rat} (h : -9223372036854775808 ≤ q.num ∧ q.num < 9223372036854775808) (h2 : (q.den : Int) < 9223372036854775808) : QFit 1000000 q := ⟨fits h (by decide), fits ⟨by omega, h2⟩ (by decide)⟩
theorem told165 : AsOk (toldT (Rat.divInt 16 5)) (Re 16 5 0) := by
  have hg : good (Rat.divInt 16 5) := ⟨by decide +kernel, by decide +kernel, by decide +kernel⟩
  unfold toldT
  rw [if_pos hg, if_pos hg, if_pos hg]
  exact AsOk.refl _
theorem cmpq : cmpR (Rat.divInt 16 5 - q227).abs (Rat.divInt 3 1 - q227).abs = -1 := by kernel_rfl
theorem spec29 : Spec Try.prog 29 [Rv 22 7, Iv 5] (Re 16 5 0) := by
  refine spec_exec (T := .res 21 (B (decide (IsQ 22 7))) (.is 21 true (.res 38 (Qo q227) (.res 39 (Zv 0) (.res 40 (Zv 1) (.res 41 (Zv 1) (.res 42 (Zv 0)
     (.loop ⟨22, 7, 0, 1, 1, 0, by simp⟩ inv (fun g => g.d.natAbs) fun g => if g.n = 22 then t1 else t2)))))))) Try.func29 rfl (by kernel_rfl) mixed rfl rfl rfl ?_
  refine And.intro s49 (And.intro (by decide) ?_)
  refine And.intro (s46 (by decide) (by decide) rfl rfl) ?_
  refine And.intro (s71 (by decide) (by decide)) (And.intro (s71 (by decide) (by decide)) (And.intro (s71 (by decide) (by decide)) (And.intro (s71 (by decide) (by decide)) ?_)))
  refine And.intro ⟨by kernel_rfl, rfl, ?_, ?_⟩ ?_
  · repeat refine And.intro (AsOk.refl _) ?_
    exact trivial
  · repeat refine And.intro (And.intro rfl (AsL.refl _)) ?_
    exact trivial
  rintro ⟨n, d, p0, q0, p1, q1, ⟨rfl, rfl, rfl, rfl, rfl, rfl⟩ | ⟨rfl, rfl, rfl, rfl, rfl, rfl⟩⟩
  · show exec _ _ t1 _ _
    refine And.intro (s72 (fits (by decide) (by decide)) (fits (by decide) (by decide)) (by decide)) ?_
    refine And.intro (s74 (fits (by decide) (by decide)) (fits (by decide) (by decide))) ?_
    refine And.intro (s73 (fits (by decide) (by decide)) (fits (by decide) (by decide))) ?_
    refine And.intro (s71 (by decide) (by decide)) ?_
    refine And.intro (s75 (fits (by decide) (by decide)) (fits (by decide) (by decide))) ?_
    refine And.intro (fun h => absurd h (by decide)) (fun _ => ?_)
    refine And.intro (s74 (fits (by decide) (by decide)) (fits (by decide) (by decide))) ?_
    refine And.intro (s73 (fits (by decide) (by decide)) (fits (by decide) (by decide))) ?_
    refine And.intro (s74 (fits (by decide) (by decide)) (fits (by decide) (by decide))) ?_
    refine And.intro (s76 (fits (by decide) (by decide)) (fits (by decide) (by decide))) ?_
    refine Exists.intro ⟨7, 1, 1, 0, 3, 1, by simp⟩ (And.intro ⟨by kernel_rfl, rfl, ?_, ?_⟩ (by decide))
    · repeat refine And.intro (AsOk.refl _) ?_
      exact trivial
    · repeat refine And.intro (And.intro rfl (AsL.refl _)) ?_
      exact trivial
  · show exec _ _ t2 _ _
    refine And.intro (s72 (fits (by decide) (by decide)) (fits (by decide) (by decide)) (by decide)) ?_
    refine And.intro (s74 (fits (by decide) (by decide)) (fits (by decide) (by decide))) ?_
    refine And.intro (s73 (fits (by decide) (by decide)) (fits (by decide) (by decide))) ?_
    refine And.intro (s71 (by decide) (by decide)) ?_
    refine And.intro (s75 (fits (by decide) (by decide)) (fits (by decide) (by decide))) ?_
    refine And.intro (fun _ => ?_) (fun h => absurd h (by decide))
    refine And.intro (s71 (by decide) (by decide)) ?_
    refine And.intro (s76 (fits (by decide) (by decide)) (fits (by decide) (by decide))) ?_
    refine And.intro (s77 (fits (by decide) (by decide)) (fits (by decide) (by decide)) (by decide)) ?_
    refine And.intro (s74 (fits (by decide) (by decide)) (fits (by decide) (by decide))) ?_
    refine And.intro (s73 (fits (by decide) (by decide)) (fits (by decide) (by decide))) ?_
    refine And.intro (s74 (fits (by decide) (by decide)) (fits (by decide) (by decide))) ?_
    refine And.intro (s73 (fits (by decide) (by decide)) (fits (by decide) (by decide))) ?_
    refine And.intro (s78 (fits (by decide) (by decide)) (fits (by decide) (by decide)) (by decide)) ?_
    refine And.intro (s78 (fits (by decide) (by decide)) (fits (by decide) (by decide)) (by decide)) ?_
    refine And.intro (s58 (p := Rat.divInt 16 5) (q := q227) (qfits (by decide +kernel) (by decide +kernel)) (qfits (by decide +kernel) (by decide +kernel))) ?_
    refine And.intro (s79 (qfits (by decide +kernel) (by decide +kernel))) ?_
    refine And.intro (s58 (p := Rat.divInt 3 1) (q := q227) (qfits (by decide +kernel) (by decide +kernel)) (qfits (by decide +kernel) (by decide +kernel))) ?_
    refine And.intro (s79 (qfits (by decide +kernel) (by decide +kernel))) ?_
    refine And.intro (s47 (qfits (by decide +kernel) (by decide +kernel)) (qfits (by decide +kernel) (by decide +kernel))) ?_
    refine And.intro (as_i cmpq) ?_
    refine And.intro s42 ?_
    exact told165
end Go.Proofs.Ythhgjloephkpaaa.Lx
namespace Go.Proofs.Ythhgjloephkpaaa.Lx
set_option linter.unusedVariables false
set_option linter.unusedSimpArgs false
open Go Go.RowKit Go.Proofs.Ythhgjloephkpaaa Go.Proofs.YthhgjloephkpaaaW.PrintWords Go.Proofs.YthhgjloephkpaaaW.PrintLast
set_option maxRecDepth 100000
theorem told_of {q : Rat} (h : good q) : toldT q = Re q.num q.den 0 := by unfold toldT; rw [if_pos h, if_pos h, if_pos h]
theorem sto {P : Program} {f : FuncId} {args : List TV} {r r' : TV} (h : Spec P f args r) (e : r = r') : Spec P f args r' := e ▸ h
theorem s16 : Spec Try.prog 16 [] (B true) := by
  have hm : makeT (-6) 4 = Re (-3) 2 0 := by
    unfold makeT
    rw [if_neg (by decide), told_of ⟨by decide +kernel, by decide +kernel, by decide +kernel⟩]
    rfl
  have hf : floorT (-3) 2 = Ii (-2) 0 := by
    unfold floorT
    rw [if_pos (by decide)]
    rfl
  refine spec_exec (T := .res 8 (Re (-3) 2 0) (.res 13 (Ii (-2) 0) (.res 18 (Re 16 5 0) (.op 23 (B true) (.op 39 (B true) .done))))) Try.func16 rfl (by kernel_rfl) mixed rfl rfl rfl ?_
  exact And.intro (sto (s10 (by decide) (by decide)) hm) (And.intro (sto s51 hf) (And.intro spec29 (And.intro (g_eq23 (p := -3) (q := 2) (r := -3) (s := 2) rfl rfl rfl) (And.intro (g_eq23 (p := 16) (q := 5) (r := 16) (s := 5) rfl rfl rfl) (AsOk.refl _)))))
section
variable {p q r s n d : Int}
end
end Go.Proofs.Ythhgjloephkpaaa.Lx
namespace Go.Proofs.Ythhgjloephkpaaa.Lx
set_option linter.unusedVariables false
set_option linter.unusedSimpArgs false
open Go Go.RowKit Go.Proofs.Ythhgjloephkpaaa Go.Proofs.YthhgjloephkpaaaW.PrintWords Go.Proofs.YthhgjloephkpaaaW.PrintLast
/-- A world whose blocks all are frozen. -/
def Kst.of (w : World) : Kst := ⟨w, fun g => g < w.heap.size, fun _ h => h⟩
theorem law_run {f : FuncId} {args : List TV} {vs : List Value} {w : World} (h : Spec Try.prog f args (B true)) (hr : RepAll (fun _ => 0) (Kst.of w) args vs) : Calls Try.prog f vs.toArray w (RetV w (.bool true)) :=
  (h.run (fun _ => 0) (Kst.of w) vs hr).mono fun e w' ⟨x, t, e1, e2, _, hb, hx⟩ => ⟨⟨x, e1, bv (hx fun _ => 0)⟩, hb⟩
end Go.Proofs.Ythhgjloephkpaaa.Lx
namespace Go.Proofs.Ythhgjloephkpaaa.Lx
set_option linter.unusedVariables false
set_option linter.unusedSimpArgs false
open Go Go.RowKit Go.Proofs.Ythhgjloephkpaaa Go.Proofs.YthhgjloephkpaaaW.PrintWords Go.Proofs.YthhgjloephkpaaaW.PrintLast
/-- Numerator and denominator of a number less an integer, and of 1 by what is above 0. -/
theorem gcd_shift (n f d : Int) : Int.gcd (n + f * d) d = Int.gcd n d := by
  first | exact Int.gcd_add_mul_right_left .. | simp
theorem nd_unique {n d : Int} (hd : 0 < d) (h : Int.gcd n d = 1) : (Rat.divInt n d).num = n ∧ ((Rat.divInt n d).den : Int) = d := ⟨over_num_one hd h, over_den_one hd h⟩
theorem add_int (b : Rat) (f : Int) : (b + f).num = b.num + f * b.den ∧ (b + f).den = b.den := by
  have h := add_over b (f : Rat)
  rw [Rat.num_intCast, Rat.den_intCast, Int.ofNat_one, Int.mul_one, Int.mul_one] at h
  have hg : Int.gcd (b.num + f * b.den) b.den = 1 := by rw [gcd_shift]; exact b.reduced
  obtain ⟨h1, h2⟩ := nd_unique (den_pos b) hg
  rw [h] at h1 h2
  exact ⟨h1, by omega⟩
theorem one_div {b : Rat} (h : 0 < b.num) : (1 / b).num = b.den ∧ ((1 / b).den : Int) = b.num := by
  have h1 := div_over 1 b
  rw [show (1 : Rat).num = 1 from rfl, show (((1 : Rat).den : Nat) : Int) = 1 from rfl, Int.one_mul, Int.one_mul] at h1
  have hg : Int.gcd (b.den : Int) b.num = 1 := by rw [Int.gcd_comm]; exact b.reduced
  obtain ⟨h2, h3⟩ := nd_unique h hg
  rw [h1] at h2 h3
  exact ⟨h2, h3⟩
theorem num_pos {a : Rat} : 0 < a ↔ 0 < a.num := by rw [Rat.lt_iff]; simp
theorem rlt_le {a b c : Rat} (h : a < b) (k : b ≤ c) : a < c := Rat.not_le.1 fun h' => Rat.not_le.2 h (Rat.le_trans k h')
theorem lt_int {a : Rat} {z : Int} : a < (z : Rat) ↔ a.num < z * a.den := by rw [Rat.lt_iff, Rat.num_intCast, Rat.den_intCast]; simp
/-- What is behind the integer below, turned over. -/
theorem behind {b : Rat} {f : Int} (h : (f : Rat) < b) : 0 < b.num - f * b.den ∧ (1 / (b - f)).num = b.den ∧ ((1 / (b - f)).den : Int) = b.num - f * b.den ∧ (b - f).num = b.num - f * b.den ∧ (b - f).den = b.den := by
  have e : b - (f : Rat) = b + ((-f : Int) : Rat) := by rw [Rat.intCast_neg, Rat.sub_eq_add_neg]
  obtain ⟨h1, h2⟩ := add_int b (-f)
  rw [← e] at h1 h2
  have h3 : b.num + -f * b.den = b.num - f * b.den := by rw [Int.neg_mul]; omega
  rw [h3] at h1
  have hp : 0 < (b - (f : Rat)).num := num_pos.1 ((Rat.lt_iff_sub_pos _ _).1 h)
  obtain ⟨h4, h5⟩ := one_div hp
  rw [h1] at hp h5
  rw [h2] at h4
  exact ⟨hp, h4, h5, h1, h2⟩
/-- The simplest number from a to b, both above 0. -/
def simpQ : Nat → Rat → Rat → Rat
  | 0, _, _ => 1
  | n + 1, a, b => if ((a.ceil : Int) : Rat) ≤ b then ((a.ceil : Int) : Rat) else (a.floor : Rat) + 1 / simpQ n (1 / (b - (a.floor : Rat))) (1 / (a - (a.floor : Rat)))
/-- Above 0, and not too large. -/
structure Hq (a : Rat) : Prop where
  p : 0 < a.num
  n : a.num ≤ 1000000000000
  d : (a.den : Int) ≤ 1000000000000
theorem Hq.fit {a : Rat} (h : Hq a) : QFit 2 a := ⟨fi ⟨by have := h.p; omega, by have := h.n; omega⟩, fi ⟨by have := den_pos a; omega, by have := h.d; omega⟩⟩
theorem Hq.pos {a : Rat} (h : Hq a) : 0 < a := num_pos.2 h.p
/-- What holds of the next two numbers. -/
theorem next_h {a b : Rat} (ha : Hq a) (hb : Hq b) (hab : a ≤ b) (hc : ¬ ((a.ceil : Int) : Rat) ≤ b) :
    0 ≤ a.floor ∧ (a.floor : Rat) < a ∧ (a.floor : Rat) < b ∧ Hq (1 / (b - (a.floor : Rat))) ∧ Hq (1 / (a - (a.floor : Rat))) ∧ 1 / (b - (a.floor : Rat)) ≤ 1 / (a - (a.floor : Rat)) ∧
    (1 / (b - (a.floor : Rat))).den + (1 / (a - (a.floor : Rat))).den < a.den + b.den := by
  have hf0 : 0 ≤ a.floor := Rat.le_floor_iff.2 (by simpa using Rat.le_of_lt ha.pos)
  have hfa : (a.floor : Rat) ≤ a := Rat.floor_le a
  have hne : (a.floor : Rat) ≠ a := fun e => hc (by
    have : a.ceil = a.floor := by rw [← e, Rat.ceil_intCast, Rat.floor_intCast]
    rw [this, e]; exact hab)
  have hfa' : (a.floor : Rat) < a := Rat.lt_of_le_of_ne hfa hne
  have hfb : (a.floor : Rat) < b := rlt_le hfa' hab
  obtain ⟨a1, a2, a3, a4, a5⟩ := behind hfa'
  obtain ⟨b1, b2, b3, b4, b5⟩ := behind hfb
  have hm1 : 0 ≤ a.floor * (a.den : Int) := Int.mul_nonneg hf0 (Int.le_of_lt (den_pos a))
  have hm2 : 0 ≤ a.floor * (b.den : Int) := Int.mul_nonneg hf0 (Int.le_of_lt (den_pos b))
  have hHb : Hq (1 / (b - (a.floor : Rat))) := ⟨by rw [b2]; exact den_pos b, by rw [b2]; exact hb.d, by rw [b3]; have := hb.n; omega⟩
  have hHa : Hq (1 / (a - (a.floor : Rat))) := ⟨by rw [a2]; exact den_pos a, by rw [a2]; exact ha.d, by rw [a3]; have := ha.n; omega⟩
  refine ⟨hf0, hfa', hfb, hHb, hHa, ?_, ?_⟩
  · rw [Rat.le_iff, a2, a3, b2, b3]
    have h := (Rat.le_iff _ _).1 hab
    have e1 : (b.den : Int) * (a.num - a.floor * a.den) = a.num * b.den - a.floor * a.den * b.den := by rw [Int.mul_sub, Int.mul_comm (b.den : Int), Int.mul_comm (b.den : Int)]
    have e2 : (a.den : Int) * (b.num - a.floor * b.den) = b.num * a.den - a.floor * a.den * b.den := by rw [Int.mul_sub, Int.mul_comm (a.den : Int), Int.mul_comm (a.den : Int), Int.mul_assoc, Int.mul_assoc, Int.mul_comm (b.den : Int)]
    rw [e1, e2]
    omega
  · have hc1 : a.ceil ≤ a.floor + 1 := Rat.ceil_le_iff.2 (Rat.le_of_lt (Rat.lt_floor_add_one a))
    have hb1 : b < ((a.floor + 1 : Int) : Rat) := rlt_le (Rat.not_le.1 hc) (Rat.intCast_le_intCast.2 hc1)
    have ha1 : a < ((a.floor + 1 : Int) : Rat) := Rat.lt_floor_add_one a
    have h1 := lt_int.1 hb1
    have h2 := lt_int.1 ha1
    rw [Int.add_mul, Int.one_mul] at h1 h2
    omega
theorem ceil_pos {a : Rat} (h : Hq a) : 1 ≤ a.ceil := by
  have : 0 < a.ceil := Rat.lt_ceil_iff.2 (by have := h.pos; simpa using this)
  omega
theorem ceil_num {a : Rat} (h : Hq a) : a.ceil ≤ a.num := Rat.ceil_le_iff.2 (by
  rw [Rat.le_iff, Rat.num_intCast, Rat.den_intCast]
  have := Int.mul_le_mul_of_nonneg_left (show (1 : Int) ≤ a.den from by have := den_pos a; omega) (Int.le_of_lt h.p)
  simpa using this)
theorem pos_num {b : Rat} {k : Int} (hb : 0 < b.num) (h : (k : Rat) ≤ b) : k ≤ b.num := by
  rw [Rat.le_iff, Rat.num_intCast, Rat.den_intCast] at h
  have h : k * (b.den : Int) ≤ b.num := by simpa using h
  rcases Int.lt_or_le k 0 with h0 | h0
  · omega
  · have := Int.mul_le_mul_of_nonneg_left (show (1 : Int) ≤ b.den from by have := den_pos b; omega) h0
    omega
theorem simp_h : ∀ (n : Nat) (a b : Rat), a.den + b.den ≤ n → Hq a → Hq b → a ≤ b →
    0 < (simpQ n a b).num ∧ (simpQ n a b).num ≤ a.num ∧ (simpQ n a b).num ≤ b.num ∧ ((simpQ n a b).den : Int) ≤ a.den ∧ ((simpQ n a b).den : Int) ≤ b.den
  | 0, a, b, hn, ha, hb, hab => by have := a.den_pos; omega
  | n + 1, a, b, hn, ha, hb, hab => by
    unfold simpQ
    by_cases hc : ((a.ceil : Int) : Rat) ≤ b
    · rw [if_pos hc, Rat.num_intCast, Rat.den_intCast]
      have h1 := ceil_pos ha
      have h2 := ceil_num ha
      have h3 := pos_num hb.p hc
      have h4 := den_pos a
      have h5 := den_pos b
      exact ⟨by omega, h2, h3, by omega, by omega⟩
    · rw [if_neg hc]
      obtain ⟨hf0, hfa, hfb, hHb, hHa, hle, hden⟩ := next_h ha hb hab hc
      obtain ⟨r1, r2, r3, r4, r5⟩ := simp_h n _ _ (by omega) hHb hHa hle
      obtain ⟨a1, a2, a3, _, _⟩ := behind hfa
      obtain ⟨b1, b2, b3, _, _⟩ := behind hfb
      generalize simpQ n (1 / (b - (a.floor : Rat))) (1 / (a - (a.floor : Rat))) = r at *
      rw [b2] at r2
      rw [a2] at r3
      rw [b3] at r4
      rw [a3] at r5
      obtain ⟨o1, o2⟩ := one_div r1
      obtain ⟨s1, s2⟩ := add_int (1 / r) a.floor
      rw [Rat.add_comm (a.floor : Rat), s1, s2, o1]
      have hp := den_pos r
      have m0 : 0 ≤ a.floor * r.num := Int.mul_nonneg hf0 (Int.le_of_lt r1)
      have e : ((1 / r).den : Int) = r.num := o2
      rw [e]
      have m1 : a.floor * r.num ≤ a.floor * a.den := Int.mul_le_mul_of_nonneg_left r3 hf0
      have m2 : a.floor * r.num ≤ a.floor * b.den := Int.mul_le_mul_of_nonneg_left r2 hf0
      exact ⟨by omega, by omega, by omega, r3, r2⟩
end Go.Proofs.Ythhgjloephkpaaa.Lx
namespace Go.Proofs.Ythhgjloephkpaaa.Lx
set_option linter.unusedVariables false
set_option linter.unusedSimpArgs false
open Go Go.RowKit Go.Proofs.Ythhgjloephkpaaa Go.Proofs.YthhgjloephkpaaaW.PrintWords Go.Proofs.YthhgjloephkpaaaW.PrintLast
set_option maxRecDepth 100000
set_option maxHeartbeats 2000000
theorem fit_i {z : Int} (h : -9223372036854775808 ≤ z ∧ z ≤ 9223372036854775808) : QFit 2 (z : Rat) := ⟨Fit.int64 h.1 h.2, by rw [Rat.den_intCast]; exact Fit_one.mono (by decide)⟩
theorem fit1 : QFit 2 (1 : Rat) := ⟨Fit_one.mono (by decide), Fit_one.mono (by decide)⟩
theorem floor_le {a : Rat} (h : Hq a) : a.floor ≤ 1000000000000 := by
  have h1 := Rat.floor_le a
  have h2 := pos_num h.p h1
  have := h.n
  omega
theorem s87one : Spec Try.prog 87 [Iv 1] (Qo 1) := s87 (x := 1) (by decide) (by decide)
theorem cmp_le {a b : Rat} : cmpR a b ≤ 0 ↔ a ≤ b := by
  unfold cmpR
  by_cases h : a < b
  · rw [if_pos h]; exact ⟨fun _ => Rat.le_of_lt h, fun _ => by decide⟩
  · rw [if_neg h]
    by_cases h2 : a = b
    · rw [if_pos h2]; exact ⟨fun _ => h2 ▸ Rat.le_refl, fun _ => by decide⟩
    · rw [if_neg h2]; exact ⟨fun h => absurd h (by decide), fun h3 => absurd (Rat.lt_of_le_of_ne h3 h2) h⟩
theorem num_ne {a : Rat} (h : 0 < a.num) : a ≠ 0 := fun e => by rw [e] at h; cases h
theorem hq_of {r : Rat} (h1 : 0 < r.num) (h2 : r.num ≤ 1000000000000) (h3 : (r.den : Int) ≤ 1000000000000) : Hq r := ⟨h1, h2, h3⟩
theorem cmp_pos {a : Rat} (h : Hq a) : cmpR a 0 = 1 := by
  have hp := h.pos
  unfold cmpR
  rw [if_neg (fun k => Rat.not_le.2 k (Rat.le_of_lt hp)), if_neg (fun e => by rw [e] at hp; exact Rat.lt_irrefl hp)]
theorem s62 : ∀ (n : Nat) (a b : Rat), a.den + b.den ≤ n → Hq a → Hq b → a ≤ b → Spec Try.prog 62 [Qo a, Qo b] (Qo (simpQ n a b))
  | 0, a, b, hn, _, _, _ => by have := a.den_pos; omega
  | n + 1, a, b, hn, ha, hb, hab => by
    let f : Rat := (a.floor : Rat)
    let k : Rat := ((a.ceil : Int) : Rat)
    let r : Rat := simpQ n (1 / (b - f)) (1 / (a - f))
    have hc1 := ceil_pos ha
    have hc2 := ceil_num ha
    have hk : QFit 2 k := fit_i (by have := ha.n; omega)
    refine spec_exec (T := .res 10 (Zv a.ceil) (.res 12 (Zv 1) (.as 13 (Qo k) (.res 16 (Iv (cmpR k b)) (.split 17 .done (.res 20 (Zv a.floor) (.res 21 (Zv 1) (.as 22 (Qo f) (.res 23 (Qo 1) (.res 26 (Qo (b - f)) (.res 27 (Qo (1 / (b - f))) (.res 28 (Qo 1) (.res 31 (Qo (a - f)) (.res 32 (Qo (1 / (a - f)))
      (.res 33 (Qo r) (.res 35 (Qo 1) (.res 37 (Qo (1 / r)) (.res 38 (Qo (f + 1 / r)) .done)))))))))))))))))) Try.func62 rfl (by kernel_rfl) mixed rfl rfl rfl ?_
    refine And.intro (s100 (ha.fit.mono (by decide))) (And.intro (s71 (by decide) (by decide)) (And.intro (as_zz (Rat.num_intCast _).symm (by rw [Rat.den_intCast]; rfl)) (And.intro (s47 (hk.mono (by decide)) (hb.fit.mono (by decide))) (And.intro (fun h => ?_) (fun h => ?_)))))
    · have h : cmpR k b ≤ 0 := of_decide_eq_true h
      refine as_qo ?_
      unfold simpQ
      rw [if_pos (cmp_le.1 h)]
    · have h : ¬ cmpR k b ≤ 0 := of_decide_eq_false h
      have hc : ¬ k ≤ b := fun e => h (cmp_le.2 e)
      obtain ⟨hf0, hfa, hfb, hHb, hHa, hle, hden⟩ := next_h ha hb hab hc
      obtain ⟨r1, r2, r3, r4, r5⟩ := simp_h n _ _ (by omega) hHb hHa hle
      have hr : Hq r := hq_of r1 (Int.le_trans r2 hHb.n) (Int.le_trans r4 hHb.d)
      have hff := floor_le ha
      have hf : QFit 2 f := fit_i (by omega)
      have hb' := behind hfb
      have ha' := behind hfa
      refine And.intro (s95 (ha.fit.mono (by decide))) (And.intro (s71 (by decide) (by decide)) (And.intro (as_zz (Rat.num_intCast _).symm (by rw [Rat.den_intCast]; rfl)) (And.intro s87one (And.intro (s58 (hb.fit.mono (by decide)) (hf.mono (by decide))) (And.intro (s60 (fit1.mono (by decide)) ((hb.fit.sub hf).mono (by decide)) (num_ne (by rw [hb'.2.2.2.1]; exact hb'.1)))
        (And.intro s87one (And.intro (s58 (ha.fit.mono (by decide)) (hf.mono (by decide))) (And.intro (s60 (fit1.mono (by decide)) ((ha.fit.sub hf).mono (by decide)) (num_ne (by rw [ha'.2.2.2.1]; exact ha'.1))) (And.intro (s62 n _ _ (Nat.le_of_lt_succ (Nat.lt_of_lt_of_le hden hn)) hHb hHa hle) (And.intro s87one (And.intro (s60 (fit1.mono (by decide)) (hr.fit.mono (by decide)) (num_ne hr.p))
        (And.intro (s57 (hf.mono (by decide)) ((fit1.div hr.fit (num_ne hr.p)).mono (by decide))) (as_qo ?_)))))))))))))
      conv => rhs; unfold simpQ
      rw [if_neg hc]
end Go.Proofs.Ythhgjloephkpaaa.Lx
namespace Go.Proofs.Ythhgjloephkpaaa.Lx
set_option linter.unusedVariables false
set_option linter.unusedSimpArgs false
open Go Go.RowKit Go.Proofs.Ythhgjloephkpaaa Go.Proofs.YthhgjloephkpaaaW.PrintWords Go.Proofs.YthhgjloephkpaaaW.PrintLast
set_option maxRecDepth 100000
set_option maxHeartbeats 2000000
theorem cmp_ge {a b : Rat} : 0 ≤ cmpR a b ↔ b ≤ a := by
  rw [← Rat.not_lt]
  unfold cmpR
  by_cases h : a < b
  · rw [if_pos h]; exact ⟨fun k => absurd k (by decide), fun k => absurd h k⟩
  · rw [if_neg h]
    by_cases h2 : a = b
    · rw [if_pos h2]; exact ⟨fun _ => h, fun _ => by decide⟩
    · rw [if_neg h2]; exact ⟨fun _ => h, fun _ => by decide⟩
/-- The simplest number from a to b. -/
def simplV (a b : Rat) : Rat := if a ≤ 0 ∧ 0 ≤ b then 0 else if b < 0 then -(simpQ (b.den + a.den) (-b) (-a)) else simpQ (a.den + b.den) a b
structure Hz (a : Rat) : Prop where
  l : -1000000000000 ≤ a.num
  n : a.num ≤ 1000000000000
  d : (a.den : Int) ≤ 1000000000000
theorem Hz.fit {a : Rat} (h : Hz a) : QFit 2 a := ⟨fi ⟨by have := h.l; omega, by have := h.n; omega⟩, fi ⟨by have := den_pos a; omega, by have := h.d; omega⟩⟩
theorem Hz.pos {a : Rat} (h : Hz a) (h0 : 0 < a) : Hq a := ⟨num_pos.1 h0, h.n, h.d⟩
theorem Hz.neg {a : Rat} (h : Hz a) (h0 : a < 0) : Hq (-a) := by
  have h1 : 0 < -a := by have := Rat.neg_lt_neg h0; simpa using this
  exact ⟨num_pos.1 h1, by rw [Rat.neg_num]; have := h.l; omega, by rw [Rat.neg_den]; exact h.d⟩
theorem isq_hz {p q : Int} (h : IsQ p q) : Hz (Rat.divInt p q) := by
  obtain ⟨h1, h2⟩ := isq_num h
  exact ⟨by rw [← h1]; exact h.2.2.1, by rw [← h1]; exact h.2.2.2.1, by rw [← h2]; exact h.2.1⟩
theorem simpV_fit {a b : Rat} (ha : Hz a) (hb : Hz b) (hab : a ≤ b) (h : b < 0) : Hq (simpQ (b.den + a.den) (-b) (-a)) := by
  have h1 := hb.neg h
  have h2 := ha.neg (Rat.not_le.1 fun k => Rat.not_le.2 h (Rat.le_trans k hab))
  obtain ⟨r1, r2, _, r4, _⟩ := simp_h (b.den + a.den) (-b) (-a) (by rw [Rat.neg_den, Rat.neg_den]; omega) h1 h2 (Rat.neg_le_neg hab)
  exact hq_of r1 (Int.le_trans r2 h1.n) (Int.le_trans r4 h1.d)
theorem told_zero : toldT 0 = Re 0 1 0 := told_of (q := 0) ⟨by decide, by decide, by decide⟩
section
variable {p q r s : Int}
def sT (p q r s : Int) : TV := if Alls [(p, q), (r, s)] ∧ Rat.divInt p q ≤ Rat.divInt r s then toldT (simplV (Rat.divInt p q) (Rat.divInt r s)) else Re 0 0 1
theorem s46s {p q : Int} (h : IsQ p q) : Spec Try.prog 46 [Rv p q] (Qo (Rat.divInt p q)) := s46 (isq64 h).1 (isq64 h).2 (isq_num h).1 (isq_num h).2
theorem s27s {p q : Int} (h : IsQ p q) : Spec Try.prog 27 [Rv p q] (Qs (Rat.divInt p q)) := s27 (isq64 h).1 (isq64 h).2 (isq_ne h)
theorem s23 : Spec Try.prog 23 [Rv p q, Rv r s] (sT p q r s) := by
  unfold sT
  let a := Rat.divInt p q
  let b := Rat.divInt r s
  by_cases h : Alls [(p, q), (r, s)]
  case neg =>
    rw [if_neg fun k => h k.1]
    refine spec_exec (T := .op 11 (Lv [(p, q), (r, s)]) (.res 12 (Iv (errV (Alls [(p, q), (r, s)]))) (.as 12 (Iv 1) .done))) Try.func23 rfl (by kernel_rfl) mixed rfl rfl rfl ?_
    exact And.intro (g_lit2 rfl rfl rfl) (And.intro s45 (And.intro (as_i (errV_f h)) (AsOk.refl _)))
  have hb := alls_two.1 h
  let pre (t : Tr) : Tr := .op 11 (Lv [(p, q), (r, s)]) (.res 12 (Iv (errV (Alls [(p, q), (r, s)]))) (.as 12 (Iv 0) (.res 18 (Qo a) (.res 20 (Qo b) (.res 24 (Iv (cmpR a b)) t)))))
  have ha' := isq_hz hb.1
  have hb' := isq_hz hb.2
  by_cases hab : a ≤ b
  case neg =>
    rw [if_neg fun k => hab k.2]
    refine spec_exec (T := pre (.is 25 true .done)) Try.func23 rfl (by kernel_rfl) mixed rfl rfl rfl ?_
    exact And.intro (g_lit2 rfl rfl rfl) (And.intro s45 (And.intro (as_i (errV_t h)) (And.intro (s46s hb.1) (And.intro (s46s hb.2) (And.intro (s47 (isq_fit hb.1) (isq_fit hb.2)) (And.intro (decide_eq_true (Int.not_le.1 fun k => hab (cmp_le.1 k))) (AsOk.refl _)))))))
  rw [if_pos ⟨h, hab⟩]
  have hc : decide (0 < cmpR a b) = false := decide_eq_false (Int.not_lt.2 (cmp_le.2 hab))
  unfold simplV
  by_cases h1 : a ≤ 0 ∧ 0 ≤ b
  · rw [if_pos h1, told_zero]
    refine spec_exec (T := pre (.is 25 false (.res 29 (Iv (cmpR a 0)) (.is 30 true (.res 33 (Iv (cmpR b 0)) (.is 34 true .done)))))) Try.func23 rfl (by kernel_rfl) mixed rfl rfl rfl ?_
    exact And.intro (g_lit2 rfl rfl rfl) (And.intro s45 (And.intro (as_i (errV_t h)) (And.intro (s46s hb.1) (And.intro (s46s hb.2) (And.intro (s47 (isq_fit hb.1) (isq_fit hb.2)) (And.intro hc (And.intro s61 (And.intro (decide_eq_true (cmp_le.2 h1.1)) (And.intro s61 (And.intro (decide_eq_true (cmp_ge.2 h1.2)) (AsOk.refl _)))))))))))
  rw [if_neg h1]
  by_cases h2 : b < 0
  · rw [if_pos h2]
    have ha0 : a ≤ 0 := Rat.le_of_lt (Rat.not_le.1 fun k => Rat.not_le.2 h2 (Rat.le_trans k hab))
    have ha1 := ha'.neg (Rat.not_le.1 fun k => Rat.not_le.2 h2 (Rat.le_trans k hab))
    have hb1 := hb'.neg h2
    have hz := simpV_fit ha' hb' hab h2
    let z := simpQ (b.den + a.den) (-b) (-a)
    refine spec_exec (T := pre (.is 25 false (.res 29 (Iv (cmpR a 0)) (.is 30 true (.res 33 (Iv (cmpR b 0)) (.is 34 false (.res 39 (Iv (cmpR b 0)) (.is 40 true (.res 42 (Qo (-b)) (.res 44 (Qo (-a)) (.res 45 (Qo z) (.res 46 (Qo (-z)) (.res 47 (toldT (-z)) .done))))))))))))) Try.func23 rfl (by kernel_rfl) mixed rfl rfl rfl ?_
    exact And.intro (g_lit2 rfl rfl rfl) (And.intro s45 (And.intro (as_i (errV_t h)) (And.intro (s46s hb.1) (And.intro (s46s hb.2) (And.intro (s47 (isq_fit hb.1) (isq_fit hb.2)) (And.intro hc (And.intro s61 (And.intro (decide_eq_true (cmp_le.2 ha0)) (And.intro s61 (And.intro (decide_eq_false fun k => Rat.not_le.2 h2 (cmp_ge.1 k))
      (And.intro s61 (And.intro (decide_eq_true (cmpR_lt0.2 h2)) (And.intro (s63 (hb'.fit.mono (by decide))) (And.intro (s63 (ha'.fit.mono (by decide))) (And.intro (s62 _ _ _ (by rw [Rat.neg_den, Rat.neg_den]; exact Nat.le_refl _) hb1 ha1 (Rat.neg_le_neg hab)) (And.intro (s63 (hz.fit.mono (by decide))) (And.intro s42 (AsOk.refl _))))))))))))))))))
  · rw [if_neg h2]
    have hb0 : 0 ≤ b := Rat.not_lt.1 h2
    have ha0 : 0 < a := Rat.not_le.1 fun k => h1 ⟨k, hb0⟩
    refine spec_exec (T := pre (.is 25 false (.res 29 (Iv (cmpR a 0)) (.is 30 false (.res 39 (Iv (cmpR b 0)) (.is 40 false (.res 52 (Qo (simpQ (a.den + b.den) a b)) (.res 53 (toldT (simpQ (a.den + b.den) a b)) .done)))))))) Try.func23 rfl (by kernel_rfl) mixed rfl rfl rfl ?_
    exact And.intro (g_lit2 rfl rfl rfl) (And.intro s45 (And.intro (as_i (errV_t h)) (And.intro (s46s hb.1) (And.intro (s46s hb.2) (And.intro (s47 (isq_fit hb.1) (isq_fit hb.2)) (And.intro hc (And.intro s61 (And.intro (decide_eq_false fun k => Rat.not_le.2 ha0 (cmp_le.1 k)) (And.intro s61 (And.intro (decide_eq_false fun k => h2 (cmpR_lt0.1 k))
      (And.intro (s62 _ _ _ (Nat.le_refl _) (ha'.pos ha0) (hb'.pos (rlt_le ha0 hab)) hab) (And.intro s42 (AsOk.refl _)))))))))))))
end
end Go.Proofs.Ythhgjloephkpaaa.Lx
namespace Go.Proofs.Ythhgjloephkpaaa.Lx
set_option linter.unusedVariables false
set_option linter.unusedSimpArgs false
open Go Go.RowKit Go.Proofs.Ythhgjloephkpaaa Go.Proofs.YthhgjloephkpaaaW.PrintWords Go.Proofs.YthhgjloephkpaaaW.PrintLast
/-- What is known of the number and the bound. -/
structure NH (N D m : Int) : Prop where
  l : -1000000000000 ≤ N
  u : N ≤ 1000000000000
  d1 : D ≤ 1000000000000
  m1 : 1 ≤ m
  lt : m < D
  co : Int.gcd N D = 1
/-- A state of the loop. -/
structure NG (N D m : Int) where
  n : Int
  d : Int
  p0 : Int
  q0 : Int
  p1 : Int
  q1 : Int
  s : Int
  hs : s = 1 ∨ s = -1
  hN : N = n * p1 + d * p0
  hD : D = n * q1 + d * q0
  hd : 0 < d
  det : p1 * q0 - p0 * q1 = s
  q0n : 0 ≤ q0
  q0m : q0 ≤ m
  bn : -1000000000000 ≤ n ∧ n ≤ 1000000000000
  bd : d ≤ 1000000000000
  b0 : -1000000000001 ≤ p0 ∧ p0 ≤ 1000000000001
  b1 : -1000000000001 ≤ p1 ∧ p1 ≤ 1000000000001
  st : (p1 = 1 ∧ q1 = 0 ∧ q0 = 1) ∨ (1 ≤ q1 ∧ q1 ≤ m ∧ d < n)
variable {N D m : Int}
def NG.a (g : NG N D m) : Int := g.n / g.d
def NG.q2 (g : NG N D m) : Int := g.q0 + g.a * g.q1
def NG.p2 (g : NG N D m) : Int := g.p0 + g.a * g.p1
def NG.r (g : NG N D m) : Int := g.n - g.a * g.d
theorem NG.r_eq (g : NG N D m) : g.r = g.n % g.d := by unfold NG.r NG.a; rw [Int.emod_def, Int.mul_comm]
theorem NG.r0 (g : NG N D m) : 0 ≤ g.r := by rw [g.r_eq]; exact Int.emod_nonneg _ (by have := g.hd; omega)
theorem NG.rlt (g : NG N D m) : g.r < g.d := by rw [g.r_eq]; exact Int.emod_lt_of_pos _ g.hd
theorem NG.eN (g : NG N D m) : N = g.d * g.p2 + g.r * g.p1 := by have := g.hN; unfold NG.p2 NG.r; grind
theorem NG.eD (g : NG N D m) : D = g.d * g.q2 + g.r * g.q1 := by have := g.hD; unfold NG.q2 NG.r; grind
theorem NG.edet (g : NG N D m) : g.p2 * g.q1 - g.p1 * g.q2 = -g.s := by have := g.det; unfold NG.q2 NG.p2; grind
theorem NG.q2_pos (g : NG N D m) : 1 ≤ g.q2 := by
  unfold NG.q2 NG.a
  rcases g.st with ⟨_, h2, h3⟩ | ⟨h1, _, h3⟩
  · rw [h2, h3]; simp
  · have ha : 1 ≤ g.n / g.d := (Int.le_ediv_iff_mul_le g.hd).2 (by omega)
    have := Int.mul_le_mul ha h1 (by omega) (by omega)
    have := g.q0n
    omega
theorem NG.q1n (g : NG N D m) : 0 ≤ g.q1 := by rcases g.st with ⟨_, h2, _⟩ | ⟨h1, _, _⟩ <;> omega
theorem NG.q1m (h : NH N D m) (g : NG N D m) : g.q1 ≤ m := by have := h.m1; rcases g.st with ⟨_, h2, _⟩ | ⟨_, h1, _⟩ <;> omega
theorem NG.r_pos (h : NH N D m) (g : NG N D m) (hq : g.q2 ≤ m) : 0 < g.r := by
  rcases Int.lt_or_eq_of_le g.r0 with k | k
  · exact k
  · have e1 := g.eN
    have e2 := g.eD
    rw [← k, Int.zero_mul, Int.add_zero] at e1 e2
    have hdv : g.d ∣ ((Int.gcd N D : Nat) : Int) := Int.dvd_coe_gcd ⟨_, e1⟩ ⟨_, e2⟩
    rw [h.co] at hdv
    have h1 : g.d = 1 := by
      have := Int.le_of_dvd (by decide) hdv
      have := g.hd
      omega
    rw [h1, Int.one_mul] at e2
    have := h.lt
    omega
theorem NG.b2 (h : NH N D m) (g : NG N D m) (hq : g.q2 ≤ m) : -1000000000001 ≤ g.p2 ∧ g.p2 ≤ 1000000000001 := by
  have hD0 : 0 < D := by have := h.m1; have := h.lt; omega
  have e : g.p2 * D = N * g.q2 - g.s * g.r := by have h1 := g.eN; have h2 := g.eD; have h3 := g.edet; grind
  have hq0 := g.q2_pos
  have hqD : g.q2 ≤ D := by have := h.lt; omega
  have hr0 := g.r0
  have hrD : g.r ≤ D := by
    have h1 := g.eD
    have h2 := g.rlt
    have h3 := Int.mul_le_mul_of_nonneg_left hq0 (Int.le_of_lt g.hd)
    have h4 := Int.mul_nonneg hr0 g.q1n
    omega
  have hs : -D ≤ g.s * g.r ∧ g.s * g.r ≤ D := by rcases g.hs with k | k <;> rw [k] <;> omega
  have u1 : N * g.q2 ≤ 1000000000000 * D := Int.le_trans (Int.mul_le_mul_of_nonneg_right h.u (by omega)) (Int.mul_le_mul_of_nonneg_left hqD (by decide))
  have l1 : (-1000000000000) * D ≤ N * g.q2 := Int.le_trans (by have := Int.mul_le_mul_of_nonneg_left hqD (show (0 : Int) ≤ 1000000000000 by decide); omega) (Int.mul_le_mul_of_nonneg_right h.l (by omega : 0 ≤ g.q2))
  exact ⟨Int.le_of_mul_le_mul_right (a := D) (by rw [e]; omega) hD0, Int.le_of_mul_le_mul_right (a := D) (by rw [e]; omega) hD0⟩
def NG.next (h : NH N D m) (g : NG N D m) (hq : g.q2 ≤ m) : NG N D m :=
  ⟨g.d, g.r, g.p1, g.q1, g.p2, g.q2, -g.s, by have := g.hs; omega, g.eN, g.eD, g.r_pos h hq, g.edet, g.q1n, g.q1m h, ⟨by have := g.hd; omega, g.bd⟩,
    by have := g.rlt; have := g.bd; omega, g.b1, g.b2 h hq, .inr ⟨g.q2_pos, hq, g.rlt⟩⟩
def NG.first (h : NH N D m) : NG N D m :=
  ⟨N, D, 0, 1, 1, 0, 1, .inl rfl, by simp, by simp, by have := h.m1; have := h.lt; omega, by decide, by decide, h.m1, ⟨h.l, h.u⟩, h.d1, by decide, by decide, .inl ⟨rfl, rfl, rfl⟩⟩
def NG.run (h : NH N D m) (g : NG N D m) : NG N D m := if hq : g.q2 ≤ m then NG.run h (g.next h hq) else g
termination_by g.d.natAbs
decreasing_by
  have h1 := g.rlt
  have h2 := g.r0
  show g.r.natAbs < g.d.natAbs
  omega
theorem NG.run_end (h : NH N D m) (g : NG N D m) : m < (g.run h).q2 := by
  rw [NG.run]
  split
  · exact NG.run_end h _
  · omega
termination_by g.d.natAbs
decreasing_by
  have h1 := g.rlt
  have h2 := g.r0
  show g.r.natAbs < g.d.natAbs
  omega
/-- The two neighbours. -/
def NG.k (g : NG N D m) : Int := (m - g.q0).tdiv g.q1
def NG.P (g : NG N D m) : Int := g.p0 + g.k * g.p1
def NG.Q (g : NG N D m) : Int := g.q0 + g.k * g.q1
structure NE (h : NH N D m) (g : NG N D m) : Prop where
  q1p : 1 ≤ g.q1
  k0 : 0 ≤ g.k
  Q1 : 1 ≤ g.Q
  Qm : g.Q ≤ m
  sum : m < g.Q + g.q1
  ka : g.k < g.a
theorem NG.ends (h : NH N D m) (g : NG N D m) (hq : m < g.q2) : NE h g := by
  have hq1 : 1 ≤ g.q1 := by
    rcases g.st with ⟨_, h2, h3⟩ | ⟨h1, _, _⟩
    · unfold NG.q2 at hq
      rw [h2, h3] at hq
      have := h.m1
      simp at hq
      omega
    · exact h1
  have hk0 : 0 ≤ m - g.q0 := by have := g.q0m; omega
  have ek : g.k = (m - g.q0) / g.q1 := Int.tdiv_eq_ediv_of_nonneg hk0
  have h0 : 0 ≤ g.k := by rw [ek]; exact Int.ediv_nonneg hk0 (by omega)
  have h1 : g.k * g.q1 ≤ m - g.q0 := by rw [ek]; exact Int.ediv_mul_le _ (by omega)
  have h2 : m - g.q0 < (g.k + 1) * g.q1 := by rw [ek]; exact Int.lt_ediv_add_one_mul_self _ (by omega)
  rw [Int.add_mul, Int.one_mul] at h2
  have hm := g.q1m h
  refine ⟨hq1, h0, ?_, ?_, ?_, ?_⟩
  · unfold NG.Q; omega
  · unfold NG.Q; omega
  · unfold NG.Q; omega
  · have : g.k * g.q1 < g.a * g.q1 := by unfold NG.q2 at hq; omega
    exact Int.lt_of_mul_lt_mul_right this (by omega)
end Go.Proofs.Ythhgjloephkpaaa.Lx
namespace Go.Proofs.Ythhgjloephkpaaa.Lx
set_option linter.unusedVariables false
set_option linter.unusedSimpArgs false
open Go Go.RowKit Go.Proofs.Ythhgjloephkpaaa Go.Proofs.YthhgjloephkpaaaW.PrintWords Go.Proofs.YthhgjloephkpaaaW.PrintLast
theorem dle {a b c d : Int} (hb : 0 < b) (hd : 0 < d) : Rat.divInt a b ≤ Rat.divInt c d ↔ a * d ≤ c * b := by
  rw [← Rat.not_lt, ← Int.not_lt, Rat.divInt_eq_div, Rat.divInt_eq_div, Rat.div_lt_iff (Rat.intCast_pos.2 hd)]
  have : (a : Rat) / (b : Rat) * (d : Rat) = (a * d : Int) / (b : Rat) := by rw [Rat.intCast_mul]; grind
  rw [this, Rat.lt_div_iff (Rat.intCast_pos.2 hb), ← Rat.intCast_mul, Rat.intCast_lt_intCast]
theorem abs_up {b x y : Rat} (h : x ≤ b) (k : b ≤ y) : (b - x).abs ≤ (y - x).abs := by unfold Rat.abs; grind
theorem abs_down {b x y : Rat} (h : b ≤ x) (k : y ≤ b) : (b - x).abs ≤ (y - x).abs := by unfold Rat.abs; grind
variable {N D m : Int}
def NG.A (g : NG N D m) : Rat := Rat.divInt g.P g.Q
def NG.B (g : NG N D m) : Rat := Rat.divInt g.p1 g.q1
theorem near_two (h : NH N D m) (g : NG N D m) (hq : m < g.q2) {r t : Int} (h1 : 1 ≤ t) (h2 : t ≤ m) :
    (g.A - Rat.divInt N D).abs ≤ (Rat.divInt r t - Rat.divInt N D).abs ∨ (g.B - Rat.divInt N D).abs ≤ (Rat.divInt r t - Rat.divInt N D).abs := by
  have e := g.ends h hq
  have hD : 0 < D := by have := h.m1; have := h.lt; omega
  have hQ : 0 < g.Q := by have := e.Q1; omega
  have hq1 : 0 < g.q1 := by have := e.q1p; omega
  have ht : 0 < t := by omega
  have hss : g.s * g.s = 1 := by rcases g.hs with k | k <;> rw [k] <;> rfl
  have hdet : g.p1 * g.Q - g.P * g.q1 = g.s := by have := g.det; unfold NG.Q NG.P; grind
  have hx1 : N * g.q1 - D * g.p1 = -(g.s * g.d) := by have h1 := g.hN; have h2 := g.hD; have h3 := g.det; grind
  have hx2 : N * g.Q - D * g.P = g.s * (g.n - g.k * g.d) := by have h1 := g.hN; have h2 := g.hD; have h3 := g.det; unfold NG.Q NG.P; grind
  have hpos : 0 < g.n - g.k * g.d := by
    have h1 : (g.k + 1) * g.d ≤ g.a * g.d := Int.mul_le_mul_of_nonneg_right (by have := e.ka; omega) (Int.le_of_lt g.hd)
    have h2 := g.r0
    unfold NG.r at h2
    rw [Int.add_mul, Int.one_mul] at h1
    have := g.hd
    omega
  have hd := g.hd
  have hsplit : g.s * (g.p1 * t - r * g.q1) * g.Q + g.s * (r * g.Q - g.P * t) * g.q1 = t := by grind
  unfold NG.A NG.B
  rcases Int.lt_or_le 0 (g.s * (g.p1 * t - r * g.q1)) with k1 | k1
  · left
    have k2 : g.s * (r * g.Q - g.P * t) ≤ 0 := by
      rcases Int.lt_or_le 0 (g.s * (r * g.Q - g.P * t)) with k2 | k2
      · have m1 := Int.mul_le_mul_of_nonneg_right (show 1 ≤ g.s * (g.p1 * t - r * g.q1) by omega) (Int.le_of_lt hQ)
        have m2 := Int.mul_le_mul_of_nonneg_right (show 1 ≤ g.s * (r * g.Q - g.P * t) by omega) (Int.le_of_lt hq1)
        have := e.sum
        omega
      · exact k2
    rcases g.hs with k | k <;> rw [k] at k2 hx2
    · exact abs_down ((dle hQ hD).2 (by rw [Int.mul_comm g.P]; omega)) ((dle ht hQ).2 (by omega))
    · exact abs_up ((dle hD hQ).2 (by rw [Int.mul_comm g.P]; omega)) ((dle hQ ht).2 (by omega))
  · right
    rcases g.hs with k | k <;> rw [k] at k1 hx1
    · exact abs_up ((dle hD hq1).2 (by rw [Int.mul_comm g.p1]; omega)) ((dle hq1 ht).2 (by omega))
    · exact abs_down ((dle hq1 hD).2 (by rw [Int.mul_comm g.p1]; omega)) ((dle ht hq1).2 (by omega))
/-- The comparison of the two, and what is answered. -/
def NG.c1 (g : NG N D m) : Int := cmpR (g.A - Rat.divInt N D).abs (g.B - Rat.divInt N D).abs
def NG.c2 (g : NG N D m) : Int := cmpZ g.A.den g.B.den
def NG.c3 (g : NG N D m) : Int := cmpR g.A g.B
def NG.c (g : NG N D m) : Int := if g.c1 = 0 then if g.c2 = 0 then g.c3 else g.c2 else g.c1
def NG.res (g : NG N D m) : Rat := if g.c ≤ 0 then g.A else g.B
theorem cmpR_zero_eq {a b : Rat} (h : cmpR a b = 0) : a = b := by
  unfold cmpR at h
  split at h
  · exact absurd h (by decide)
  · split at h
    · assumption
    · exact absurd h (by decide)
theorem cmpR_pos {a b : Rat} (h : ¬ cmpR a b ≤ 0) : b ≤ a := Rat.le_of_lt (Rat.not_le.1 fun k => h (cmp_le.2 k))
theorem NG.res_abs (g : NG N D m) : (g.res - Rat.divInt N D).abs ≤ (g.A - Rat.divInt N D).abs ∧ (g.res - Rat.divInt N D).abs ≤ (g.B - Rat.divInt N D).abs := by
  unfold NG.res NG.c
  by_cases h1 : g.c1 = 0
  · have e := cmpR_zero_eq h1
    rw [if_pos h1]
    generalize (if g.c2 = 0 then g.c3 else g.c2) = c
    split
    · exact ⟨Rat.le_refl, by rw [e]; exact Rat.le_refl⟩
    · exact ⟨by rw [e]; exact Rat.le_refl, Rat.le_refl⟩
  · rw [if_neg h1]
    split
    next h => exact ⟨Rat.le_refl, cmp_le.1 h⟩
    next h => exact ⟨cmpR_pos h, Rat.le_refl⟩
theorem den_le {a b m : Int} (h : 0 < b) (hm : b ≤ m) : ((Rat.divInt a b).den : Int) ≤ m := by
  rw [Rat.den_divInt, if_neg (by omega)]
  have : b.natAbs / b.gcd a ≤ b.natAbs := Nat.div_le_self _ _
  omega
theorem NG.res_den (h : NH N D m) (g : NG N D m) (hq : m < g.q2) : (g.res.den : Int) ≤ m := by
  have e := g.ends h hq
  unfold NG.res NG.A NG.B
  split
  · exact den_le (by have := e.Q1; omega) e.Qm
  · exact den_le (by have := e.q1p; omega) (g.q1m h)
/-- The answer is at most as far as any other, and its denominator at most the bound. -/
theorem near_law (h : NH N D m) (g : NG N D m) (hq : m < g.q2) {r t : Int} (h1 : 1 ≤ t) (h2 : t ≤ m) :
    (g.res - Rat.divInt N D).abs ≤ (Rat.divInt r t - Rat.divInt N D).abs := by
  obtain ⟨k1, k2⟩ := g.res_abs
  rcases near_two h g hq (r := r) h1 h2 with k | k
  · exact Rat.le_trans k1 k
  · exact Rat.le_trans k2 k
end Go.Proofs.Ythhgjloephkpaaa.Lx
namespace Go.Proofs.Ythhgjloephkpaaa.Lx
set_option linter.unusedVariables false
set_option linter.unusedSimpArgs false
open Go Go.RowKit Go.Proofs.Ythhgjloephkpaaa Go.Proofs.YthhgjloephkpaaaW.PrintWords Go.Proofs.YthhgjloephkpaaaW.PrintLast
set_option maxRecDepth 100000
set_option maxHeartbeats 2000000
theorem nh_of {p q m : Int} (h : IsQ p q) (h1 : 1 ≤ m) (h2 : m < q) : NH (Rat.divInt p q).num (Rat.divInt p q).den m := by
  have hz := isq_hz h
  exact ⟨hz.l, hz.n, hz.d, h1, by rw [← (isq_num h).2]; exact h2, (Rat.divInt p q).reduced⟩
section
variable {x : Rat} {N D m : Int}
abbrev XG (x : Rat) (m : Int) := NG x.num x.den m
theorem fl {z : Int} (h : -1000000000001 ≤ z ∧ z ≤ 1000000000001) : Fit 2 z := fi ⟨by omega, by omega⟩
theorem XG.fn (g : XG x m) : Fit 2 g.n := fl ⟨by have := g.bn; omega, by have := g.bn; omega⟩
theorem XG.fd (g : XG x m) : Fit 2 g.d := fl ⟨by have := g.hd; omega, by have := g.bd; omega⟩
theorem XG.fa (g : XG x m) : Fit 3 g.a := Fit.fdiv g.fn g.hd
theorem XG.fq0 (h : NH x.num x.den m) (g : XG x m) : Fit 2 g.q0 := fl ⟨by have := g.q0n; omega, by have := g.q0m; have := h.lt; have := h.d1; omega⟩
theorem XG.fq1 (h : NH x.num x.den m) (g : XG x m) : Fit 2 g.q1 := fl ⟨by have := g.q1n; omega, by have := g.q1m h; have := h.lt; have := h.d1; omega⟩
theorem XG.fm (h : NH x.num x.den m) : Fit 2 m := fl ⟨by have := h.m1; omega, by have := h.lt; have := h.d1; omega⟩
theorem XG.fk (h : NH x.num x.den m) (g : XG x m) : Fit 3 g.k := Fit.tdiv ((XG.fm h).sub (g.fq0 h))
theorem XG.fP (h : NH x.num x.den m) (g : XG x m) : Fit 6 g.P := (Fit.add ((fl g.b0).mono (by decide)) ((g.fk h).mul (fl g.b1)))
theorem XG.fQ (h : NH x.num x.den m) (g : XG x m) : Fit 6 g.Q := (Fit.add ((g.fq0 h).mono (by decide)) ((g.fk h).mul (g.fq1 h)))
theorem XG.fA (h : NH x.num x.den m) (g : XG x m) (e : NE h g) : QFit 6 g.A := QFit.over (g.fP h) (g.fQ h) (by have := e.Q1; omega)
theorem XG.fB (h : NH x.num x.den m) (g : XG x m) (e : NE h g) : QFit 2 g.B := QFit.over (fl g.b1) (g.fq1 h) (by have := e.q1p; omega)
def xinv (x : Rat) (m : Int) (g : XG x m) : SS := ⟨[(1, Iv m), (4, Pv 1), (6, Pv 2), (7, Pv 3), (8, Pv 4), (9, Pv 5), (10, Pv 6), (11, Pv 7), (12, Pv 8)],
  [(1, 23, [.val (.int .i64 0), .val (.int .i64 0)]), (2, 62, [.abs Zr x.num, .abs Zr x.den]), (3, 60, [.abs Zr g.p0]), (4, 60, [.abs Zr g.q0]), (5, 60, [.abs Zr g.p1]), (6, 60, [.abs Zr g.q1]), (7, 60, [.abs Zr g.n]), (8, 60, [.abs Zr g.d])], 9, 128⟩
def xpre (g : XG x m) (t : Tr) : Tr := .res 49 (Zv g.a) (.res 53 (Zv (g.a * g.q1)) (.res 54 (Zv g.q2) (.res 57 (Zv m) (.res 58 (Iv (cmpZ g.q2 m)) t))))
def xgo (g : XG x m) : Tr := xpre g (.is 59 false (.res 65 (Zv (g.a * g.p1)) (.res 66 (Zv g.p2) (.res 72 (Zv (g.a * g.d)) (.res 73 (Zv g.r) .done)))))
def xfin (g : XG x m) : Tr := if g.c ≤ 0 then .is 119 true (.res 121 (toldT g.A) .done) else .is 119 false (.res 125 (toldT g.B) .done)
def xtail (g : XG x m) : Tr := if g.c1 = 0 then .is 107 true (.res 112 (Iv g.c2) (if g.c2 = 0 then .is 114 true (.res 117 (Iv g.c3) (xfin g)) else .is 114 false (xfin g))) else .is 107 false (.is 114 false (xfin g))
def xend (g : XG x m) : Tr := xpre g (.is 59 true (.res 76 (Zv m) (.res 78 (Zv (m - g.q0)) (.res 80 (.tup [⟨true, [.abs Zr g.k]⟩, ⟨true, [.abs Zr ((m - g.q0).tmod g.q1)]⟩]) (.res 86 (Zv (g.k * g.p1)) (.res 87 (Zv g.P) (.res 91 (Zv (g.k * g.q1)) (.res 92 (Zv g.Q) (.res 93 (Qo g.A) (.res 96 (Qo g.B)
  (.res 99 (Qo (g.A - x)) (.res 100 (Qo (g.A - x).abs) (.res 103 (Qo (g.B - x)) (.res 104 (Qo (g.B - x).abs) (.res 105 (Iv (cmpR (g.A - x).abs (g.B - x).abs)) (.as 105 (Iv g.c1) (xtail g)))))))))))))))))
theorem cmpZ_pos {a b : Int} : 0 < cmpZ a b ↔ b < a := by unfold cmpZ; split <;> (try split) <;> omega
theorem c1_eq (g : XG x m) : cmpR (g.A - x).abs (g.B - x).abs = g.c1 := by unfold NG.c1; rw [Rat.num_divInt_den]
theorem run_next (h : NH N D m) (g : NG N D m) (hq : g.q2 ≤ m) : g.run h = (g.next h hq).run h := by
  conv => lhs; rw [NG.run]
  rw [dif_pos hq]
theorem run_last (h : NH N D m) (g : NG N D m) (hq : ¬ g.q2 ≤ m) : g.run h = g := by rw [NG.run, dif_neg hq]
theorem x29 {p q : Int} (hv : IsQ p q) (h1 : 1 ≤ m) (h2 : m < q) : Spec Try.prog 29 [Rv p q, Iv m] (toldT ((NG.first (nh_of hv h1 h2)).run (nh_of hv h1 h2)).res) := by
  have hq := hv.2.1
  obtain ⟨x, hx⟩ : ∃ x, x = Rat.divInt p q := ⟨_, rfl⟩
  have hnum := isq_num hv
  have h46 := s46s hv
  generalize hnn : nh_of hv h1 h2 = nn
  clear hnn
  revert nn
  rw [← hx] at h46 hnum ⊢
  intro nn
  generalize hr0 : (NG.first nn).run nn = r0
  refine spec_exec (T := .res 21 (B (decide (IsQ p q))) (.is 21 true (.is 25 false (.is 29 false (.is 35 false (.res 38 (Qo x) (.res 39 (Zv 0) (.res 40 (Zv 1) (.res 41 (Zv 1) (.res 42 (Zv 0)
     (.loop (⟨NG.first nn, hr0⟩ : {g : XG x m // g.run nn = r0}) (fun g => xinv x m g.1) (fun g => g.1.d.natAbs) fun g => if g.1.q2 ≤ m then xgo g.1 else xend g.1))))))))))) Try.func29 rfl (by kernel_rfl) mixed rfl rfl rfl ?_
  refine And.intro s49 (And.intro (decide_eq_true hv) (And.intro (decide_eq_false (by omega)) (And.intro (decide_eq_false (by omega)) (And.intro (decide_eq_false (by omega)) ?_))))
  refine And.intro h46 ?_
  refine And.intro (s71 (by decide) (by decide)) (And.intro (s71 (by decide) (by decide)) (And.intro (s71 (by decide) (by decide)) (And.intro (s71 (by decide) (by decide)) ?_)))
  refine And.intro ⟨by kernel_rfl, rfl, ?_, ?_⟩ ?_
  · repeat refine And.intro (AsOk.refl _) ?_
    exact trivial
  · repeat refine And.intro (And.intro rfl (AsL.refl _)) ?_
    exact trivial
  rintro ⟨g, hg⟩
  have fm := XG.fm nn
  by_cases hq2 : g.q2 ≤ m
  · have e : (if g.q2 ≤ m then xgo g else xend g) = xgo g := if_pos hq2
    show exec _ _ (if g.q2 ≤ m then xgo g else xend g) _ _
    rw [e]
    unfold xgo xpre
    refine And.intro (s72 (g.fn.mono (by decide)) (g.fd.mono (by decide)) g.hd) ?_
    refine And.intro (s74 (g.fa.mono (by decide)) ((g.fq1 nn).mono (by decide))) ?_
    refine And.intro (s73 ((g.fq0 nn).mono (by decide)) ((g.fa.mul (g.fq1 nn)).mono (by decide))) ?_
    refine And.intro (s71 (by omega) (by omega)) ?_
    have fq2 : Fit 6 g.q2 := Fit.add ((g.fq0 nn).mono (by decide)) (g.fa.mul (g.fq1 nn))
    refine And.intro (s75 (fq2.mono (by decide)) (fm.mono (by decide))) ?_
    refine And.intro (decide_eq_false fun k => by have := cmpZ_pos.1 k; omega) ?_
    refine And.intro (s74 (g.fa.mono (by decide)) ((fl g.b1).mono (by decide))) ?_
    refine And.intro (s73 ((fl g.b0).mono (by decide)) ((g.fa.mul (fl g.b1)).mono (by decide))) ?_
    refine And.intro (s74 (g.fa.mono (by decide)) (g.fd.mono (by decide))) ?_
    refine And.intro (s76 (g.fn.mono (by decide)) ((g.fa.mul g.fd).mono (by decide))) ?_
    refine Exists.intro ⟨g.next nn hq2, ?_⟩ (And.intro ⟨by kernel_rfl, rfl, ?_, ?_⟩ ?_)
    · rw [← hg, run_next nn g hq2]
    · repeat refine And.intro (AsOk.refl _) ?_
      exact trivial
    · repeat refine And.intro (And.intro rfl (AsL.refl _)) ?_
      exact trivial
    · have k1 := g.rlt
      have k2 := g.r0
      show g.r.natAbs < g.d.natAbs
      omega
  · have e : (if g.q2 ≤ m then xgo g else xend g) = xend g := if_neg hq2
    have ne := g.ends nn (by omega)
    have hr : r0 = g := by rw [← hg, run_last nn g hq2]
    have hA : g.c ≤ 0 → AsOk (toldT g.A) (toldT r0.res) := fun k => by rw [hr, NG.res, if_pos k]; exact AsOk.refl _
    have hB : ¬ g.c ≤ 0 → AsOk (toldT g.B) (toldT r0.res) := fun k => by rw [hr, NG.res, if_neg k]; exact AsOk.refl _
    show exec _ _ (if g.q2 ≤ m then xgo g else xend g) _ _
    rw [e]
    unfold xend xpre
    refine And.intro (s72 (g.fn.mono (by decide)) (g.fd.mono (by decide)) g.hd) ?_
    refine And.intro (s74 (g.fa.mono (by decide)) ((g.fq1 nn).mono (by decide))) ?_
    refine And.intro (s73 ((g.fq0 nn).mono (by decide)) ((g.fa.mul (g.fq1 nn)).mono (by decide))) ?_
    refine And.intro (s71 (by omega) (by omega)) ?_
    have fq2 : Fit 6 g.q2 := Fit.add ((g.fq0 nn).mono (by decide)) (g.fa.mul (g.fq1 nn))
    refine And.intro (s75 (fq2.mono (by decide)) (fm.mono (by decide))) ?_
    refine And.intro (decide_eq_true (cmpZ_pos.2 (by omega))) ?_
    refine And.intro (s71 (by omega) (by omega)) ?_
    refine And.intro (s76 (fm.mono (by decide)) ((g.fq0 nn).mono (by decide))) ?_
    refine And.intro (s77 ((fm.sub (g.fq0 nn)).mono (by decide)) ((g.fq1 nn).mono (by decide)) (show g.q1 ≠ 0 by have := ne.q1p; omega)) ?_
    refine And.intro (s74 ((g.fk nn).mono (by decide)) ((fl g.b1).mono (by decide))) ?_
    refine And.intro (s73 ((fl g.b0).mono (by decide)) (((g.fk nn).mul (fl g.b1)).mono (by decide))) ?_
    refine And.intro (s74 ((g.fk nn).mono (by decide)) ((g.fq1 nn).mono (by decide))) ?_
    refine And.intro (s73 ((g.fq0 nn).mono (by decide)) (((g.fk nn).mul (g.fq1 nn)).mono (by decide))) ?_
    refine And.intro (s78 ((g.fP nn).mono (by decide)) ((g.fQ nn).mono (by decide)) (by have := ne.Q1; omega)) ?_
    refine And.intro (s78 ((fl g.b1).mono (by decide)) ((g.fq1 nn).mono (by decide)) (show g.q1 ≠ 0 by have := ne.q1p; omega)) ?_
    have fA := g.fA nn ne
    have fB := g.fB nn ne
    have fx : QFit 2 x := (hx ▸ isq_hz hv).fit
    refine And.intro (s58 (p := g.A) (q := x) (fA.mono (by decide)) (fx.mono (by decide))) ?_
    refine And.intro (s79 ((fA.sub fx).mono (by decide))) ?_
    refine And.intro (s58 (p := g.B) (q := x) (fB.mono (by decide)) (fx.mono (by decide))) ?_
    refine And.intro (s79 ((fB.sub fx).mono (by decide))) ?_
    refine And.intro (s47 ((fA.sub fx).abs.mono (by decide)) ((fB.sub fx).abs.mono (by decide))) ?_
    refine And.intro (as_i (c1_eq g)) ?_
    by_cases k1 : g.c1 = 0
    · by_cases k2 : g.c2 = 0
      · have kc : g.c = g.c3 := by unfold NG.c; rw [if_pos k1, if_pos k2]
        by_cases k : g.c ≤ 0
        · rw [show xtail g = .is 107 true (.res 112 (Iv g.c2) (.is 114 true (.res 117 (Iv g.c3) (.is 119 true (.res 121 (toldT g.A) .done))))) by unfold xtail xfin; rw [if_pos k1, if_pos k2, if_pos k]]
          exact And.intro (beq_iff_eq.2 k1) (And.intro (s75 (fA.d.mono (by decide)) (fB.d.mono (by decide))) (And.intro (beq_iff_eq.2 k2) (And.intro (s47 (fA.mono (by decide)) (fB.mono (by decide))) (And.intro (decide_eq_true (kc ▸ k)) (And.intro s42 (hA k))))))
        · rw [show xtail g = .is 107 true (.res 112 (Iv g.c2) (.is 114 true (.res 117 (Iv g.c3) (.is 119 false (.res 125 (toldT g.B) .done))))) by unfold xtail xfin; rw [if_pos k1, if_pos k2, if_neg k]]
          exact And.intro (beq_iff_eq.2 k1) (And.intro (s75 (fA.d.mono (by decide)) (fB.d.mono (by decide))) (And.intro (beq_iff_eq.2 k2) (And.intro (s47 (fA.mono (by decide)) (fB.mono (by decide))) (And.intro (decide_eq_false (kc ▸ k)) (And.intro s42 (hB k))))))
      · have kc : g.c = g.c2 := by unfold NG.c; rw [if_pos k1, if_neg k2]
        by_cases k : g.c ≤ 0
        · rw [show xtail g = .is 107 true (.res 112 (Iv g.c2) (.is 114 false (.is 119 true (.res 121 (toldT g.A) .done)))) by unfold xtail xfin; rw [if_pos k1, if_neg k2, if_pos k]]
          exact And.intro (beq_iff_eq.2 k1) (And.intro (s75 (fA.d.mono (by decide)) (fB.d.mono (by decide))) (And.intro (beq_eq_false_iff_ne.2 k2) (And.intro (decide_eq_true (kc ▸ k)) (And.intro s42 (hA k)))))
        · rw [show xtail g = .is 107 true (.res 112 (Iv g.c2) (.is 114 false (.is 119 false (.res 125 (toldT g.B) .done)))) by unfold xtail xfin; rw [if_pos k1, if_neg k2, if_neg k]]
          exact And.intro (beq_iff_eq.2 k1) (And.intro (s75 (fA.d.mono (by decide)) (fB.d.mono (by decide))) (And.intro (beq_eq_false_iff_ne.2 k2) (And.intro (decide_eq_false (kc ▸ k)) (And.intro s42 (hB k)))))
    · have kc : g.c = g.c1 := by unfold NG.c; rw [if_neg k1]
      by_cases k : g.c ≤ 0
      · rw [show xtail g = .is 107 false (.is 114 false (.is 119 true (.res 121 (toldT g.A) .done))) by unfold xtail xfin; rw [if_neg k1, if_pos k]]
        exact And.intro (beq_eq_false_iff_ne.2 k1) (And.intro (beq_eq_false_iff_ne.2 k1) (And.intro (decide_eq_true (kc ▸ k)) (And.intro s42 (hA k))))
      · rw [show xtail g = .is 107 false (.is 114 false (.is 119 false (.res 125 (toldT g.B) .done))) by unfold xtail xfin; rw [if_neg k1, if_neg k]]
        exact And.intro (beq_eq_false_iff_ne.2 k1) (And.intro (beq_eq_false_iff_ne.2 k1) (And.intro (decide_eq_false (kc ▸ k)) (And.intro s42 (hB k))))
end
end Go.Proofs.Ythhgjloephkpaaa.Lx
namespace Go.Proofs.Ythhgjloephkpaaa.Lx
set_option linter.unusedVariables false
set_option linter.unusedSimpArgs false
open Go Go.RowKit Go.Proofs.Ythhgjloephkpaaa Go.Proofs.YthhgjloephkpaaaW.PrintWords Go.Proofs.YthhgjloephkpaaaW.PrintLast
theorem simp_least : ∀ (n : Nat) (a b o : Rat), a.den + b.den ≤ n → Hq a → Hq b → Hq o → a ≤ o → o ≤ b →
    (simpQ n a b).num ≤ o.num ∧ ((simpQ n a b).den : Int) ≤ o.den
  | 0, a, b, o, hn, ha, hb, ho, h1, h2 => by have := a.den_pos; omega
  | n + 1, a, b, o, hn, ha, hb, ho, h1, h2 => by
    have hab := Rat.le_trans h1 h2
    unfold simpQ
    by_cases hc : ((a.ceil : Int) : Rat) ≤ b
    · rw [if_pos hc, Rat.num_intCast, Rat.den_intCast]
      have h3 : (o.num : Rat) ≥ o := by
        show o ≤ (o.num : Rat)
        rw [Rat.le_iff, Rat.num_intCast, Rat.den_intCast]
        have := Int.mul_le_mul_of_nonneg_left (show (1 : Int) ≤ o.den from by have := den_pos o; omega) (Int.le_of_lt ho.p)
        simpa using this
      exact ⟨Rat.ceil_le_iff.2 (Rat.le_trans h1 h3), by have := den_pos o; omega⟩
    · rw [if_neg hc]
      obtain ⟨hf0, hfa, hfb, hHb, hHa, hle, hden⟩ := next_h ha hb hab hc
      have hco : ¬ ((a.ceil : Int) : Rat) ≤ o := fun k => hc (Rat.le_trans k h2)
      obtain ⟨_, _, hfo, hHo, _, hle1, _⟩ := next_h ha ho h1 hco
      have hcl : a.ceil ≤ o.ceil := Rat.ceil_le_iff.2 (Rat.le_trans h1 (Rat.ceil_le_iff.1 (Int.le_refl _)))
      have hcb : ¬ ((o.ceil : Int) : Rat) ≤ b := fun k => hc (Rat.le_trans (Rat.intCast_le_intCast.2 hcl) k)
      have hfl : o.floor = a.floor := by
        have k1 : a.floor ≤ o.floor := Rat.le_floor_iff.2 (Rat.le_of_lt hfo)
        have k2 : o < ((a.floor + 1 : Int) : Rat) := rlt_le (Rat.not_le.1 hco) (Rat.intCast_le_intCast.2 (Rat.ceil_le_iff.2 (Rat.le_of_lt (Rat.lt_floor_add_one a))))
        have k3 : ¬ a.floor + 1 ≤ o.floor := fun k => Rat.not_le.2 k2 (Rat.le_floor_iff.1 k)
        omega
      obtain ⟨_, _, _, _, _, hle2, _⟩ := next_h ho hb h2 hcb
      rw [hfl] at hle2
      obtain ⟨r1, r2, r3, r4, r5⟩ := simp_h n _ _ (by omega) hHb hHa hle
      obtain ⟨q1, q2⟩ := simp_least n _ _ _ (by omega) hHb hHa hHo hle2 hle1
      obtain ⟨b1, b2, b3, _, _⟩ := behind hfo
      generalize simpQ n (1 / (b - (a.floor : Rat))) (1 / (a - (a.floor : Rat))) = r at *
      rw [b2] at q1
      rw [b3] at q2
      obtain ⟨o1, o2⟩ := one_div r1
      obtain ⟨s1, s2⟩ := add_int (1 / r) a.floor
      have e : ((1 / r).den : Int) = r.num := o2
      rw [Rat.add_comm (a.floor : Rat), s1, s2, o1, e]
      have m1 : a.floor * r.num ≤ a.floor * o.den := Int.mul_le_mul_of_nonneg_left q1 hf0
      exact ⟨by omega, q1⟩
theorem simplV_least {a b o : Rat} (ha : Hz a) (hb : Hz b) (ho : Hz o) (h1 : a ≤ o) (h2 : o ≤ b) : ((simplV a b).den : Int) ≤ o.den := by
  have hab := Rat.le_trans h1 h2
  unfold simplV
  by_cases k1 : a ≤ 0 ∧ 0 ≤ b
  · rw [if_pos k1]
    have := den_pos o
    show ((1 : Nat) : Int) ≤ o.den
    omega
  rw [if_neg k1]
  by_cases k2 : b < 0
  · rw [if_pos k2, Rat.neg_den]
    have o0 : o < 0 := Rat.not_le.1 fun k => Rat.not_le.2 k2 (Rat.le_trans k h2)
    have a0 : a < 0 := Rat.not_le.1 fun k => Rat.not_le.2 k2 (Rat.le_trans k hab)
    have := (simp_least (b.den + a.den) (-b) (-a) (-o) (by rw [Rat.neg_den, Rat.neg_den]; omega) (hb.neg k2) (ha.neg a0) (ho.neg o0) (Rat.neg_le_neg h2) (Rat.neg_le_neg h1)).2
    rw [Rat.neg_den] at this
    exact this
  · rw [if_neg k2]
    have b0 : 0 ≤ b := Rat.not_lt.1 k2
    have a0 : 0 < a := Rat.not_le.1 fun k => k1 ⟨k, b0⟩
    exact (simp_least _ a b o (Nat.le_refl _) (ha.pos a0) (hb.pos (rlt_le a0 hab)) (ho.pos (rlt_le a0 h1)) h1 h2).2
theorem hz_of {n d : Int} (h1 : -1000000000000 ≤ n ∧ n ≤ 1000000000000) (h2 : 1 ≤ d ∧ d ≤ 1000000000000) : Hz (Rat.divInt n d) := by
  have h : ((Rat.divInt n d).den : Int) ≤ d := den_le (by omega) (Int.le_refl _)
  have hn : (Rat.divInt n d).num.natAbs ≤ n.natAbs := by
    rw [Rat.num_divInt, Int.sign_eq_one_of_pos (by omega), Int.one_mul]
    exact Int.natAbs_ediv_le_natAbs _ _
  exact ⟨by omega, by omega, by omega⟩
end Go.Proofs.Ythhgjloephkpaaa.Lx
