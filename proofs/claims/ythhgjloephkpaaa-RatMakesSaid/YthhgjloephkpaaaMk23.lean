/- Words and walks for the row RowRatMakes, put together: WEqStruct, LX19, LXN, LX20, LX21, RZO. -/
import Derived.Test.YthhgjloephkpaaaWWords
import Derived.Laws.StructEq
import Derived.Test.YthhgjloephkpaaaMk22
import Derived.Test.YthhgjloephkpaaaProg
import Derived.Test.YthhgjloephkpaaaWSized
import Derived.WalkKit
import Derived.ProofKit
import Derived.OpenShut
import Derived.ChangeOld
import Derived.Below
import Derived.SizedLaws
import Derived.Lib.SmallJoins
import Derived.DataReads
namespace Go.Proofs.YthhgjloephkpaaaW.PrintWords
open Go.RowKit
section
variable {P : Program} {d : Nat} {xs ys : Array Value} {f : Field} {fs : List Field} {a b : Value} {r s : Bool} {w : World}
/-- The last field that counts. -/
theorem eqf_last (hn : (f.name == "_") = false) (ha : (part f.type xs f.offset).run P w = .ok a w) (hb : (part f.type ys f.offset).run P w = .ok b w) (he : (Op.equalIn d f.type a b).run P w = .ok r w) : (Op.eqFields d xs ys [f]).run P w = .ok r w := by
  have hn' : f.name ≠ "_" := by simpa using hn
  simp only [Op.eqFields, if_pos hn', Sem.run_bind, ha, hb, he, Result.andThen_ok]
  cases r <;> simp
theorem eqf_cons (hn : (f.name == "_") = false) (ha : (part f.type xs f.offset).run P w = .ok a w) (hb : (part f.type ys f.offset).run P w = .ok b w) (he : (Op.equalIn d f.type a b).run P w = .ok r w) (hr : (Op.eqFields d xs ys fs).run P w = .ok s w) : (Op.eqFields d xs ys (f :: fs)).run P w = .ok (r && s) w := by
  have hn' : f.name ≠ "_" := by simpa using hn
  rw [Op.eqFields]
  simp only [if_pos hn', Sem.run_bind, ha, hb, he, Result.andThen_ok]
  cases r
  · simp
  · simpa using hr
theorem eqA_of {t : TypeId} {fs : Array Field} (hu : P.underlying t = some (.struct fs)) (hp : P.stoodInHeld t = false) (h : (Op.eqFields d xs ys fs.toList).run P w = .ok r w) : (Op.equalIn (d + 1) t (.agg xs) (.agg ys)).run P w = .ok r w := by
  have hf : P.fieldsOf t = fs := by simp [Program.fieldsOf, hu]
  rw [run_equalIn_struct (P := P) w d t xs ys (by rw [hf]; exact hu) hp, hf]
  exact h
end
end Go.Proofs.YthhgjloephkpaaaW.PrintWords
namespace Go.Proofs.Ythhgjloephkpaaa.Lx
set_option linter.unusedVariables false
set_option linter.unusedSimpArgs false
open Go Go.RowKit Go.Proofs.Ythhgjloephkpaaa Go.Proofs.YthhgjloephkpaaaW.PrintWords Go.Proofs.YthhgjloephkpaaaW.PrintLast
set_option maxRecDepth 100000
section
variable {w : World}
theorem eq23 (p q r s : Int) : (Op.equal 23 (.agg #[.int .i64 p, .int .i64 q]) (.agg #[.int .i64 r, .int .i64 s])).run Try.prog w = .ok ((p == r) && (q == s)) w := by
  show (Op.equalIn (9999 + 1) 23 _ _).run Try.prog w = _
  refine eqA_of Try.underlying23 (by kernel_rfl) ?_
  refine eqf_cons (a := .int .i64 p) (b := .int .i64 r) (by rfl) (by rfl) (by rfl) (run_equalIn_int (P := Try.prog) w 9998 _ .i64 .i64 p r Try.underlying3) ?_
  exact eqf_last (a := .int .i64 q) (b := .int .i64 s) (by rfl) (by rfl) (by rfl) (run_equalIn_int (P := Try.prog) w 9998 _ .i64 .i64 q s Try.underlying3)
theorem bin_eql_23 (x y : Operand) (p q r s : Int) : (do eqGuard .eql 23 x y (.agg #[.int .i64 p, .int .i64 q]) (.agg #[.int .i64 r, .int .i64 s]); binOp .eql 23 (.agg #[.int .i64 p, .int .i64 q]) (.agg #[.int .i64 r, .int .i64 s]) : Sem Value).run Try.prog w = .ok (.bool ((p == r) && (q == s))) w := by
  simp [eqGuard, binOp, go_sem, eq23]
end
section
variable {S : SS} {o : Oper} {p q r s : Int}
theorem g_eq23 {x y : Operand} {u : TypeId} (ho : o.op = .binOp .eql 23 x y u) (hx : opT S x = some (Rv p q)) (hy : opT S y = some (Rv r s)) : OpGives Try.prog S o (B ((p == r) && (q == s))) := g_pure fun γ t c k => by
  have e1 := rv (k x (by rw [ho]; simp [Op.operands]) _ hx)
  have e2 := rv (k y (by rw [ho]; simp [Op.operands]) _ hy)
  exact ⟨_, run_bin _ _ _ ho e1 e2 (bin_eql_23 x y p q r s), vb⟩
end
theorem isq64 {p q : Int} (h : IsQ p q) : In64 p ∧ In64 q := ⟨⟨by have := h.2.2.1; omega, by have := h.2.2.2.1; omega⟩, by have := h.1; omega, by have := h.2.1; omega⟩
theorem isq_fit {p q : Int} (h : IsQ p q) : Q6 (Rat.divInt p q) := ⟨by rw [← (isq_num h).1]; exact fi (isq64 h).1, by rw [← (isq_num h).2]; exact fi (isq64 h).2⟩
section
variable {p q r s n d : Int}
/-- Two ints. -/
def Ii (a b : Int) : TV := .tup [⟨false, [.val (.int .i64 a)]⟩, ⟨false, [.val (.int .i64 b)]⟩]
def cmpT (p q r s : Int) : TV := if Alls [(p, q), (r, s)] then Ii (cmpR (Rat.divInt p q) (Rat.divInt r s)) 0 else Ii 0 1
theorem s12 : Spec Try.prog 12 [Rv p q, Rv r s] (cmpT p q r s) := by
  unfold cmpT
  by_cases h : Alls [(p, q), (r, s)]
  · rw [if_pos h]
    have hb := alls_two.1 h
    refine spec_exec (T := .op 9 (Lv [(p, q), (r, s)]) (.res 10 (Iv (errV (Alls [(p, q), (r, s)]))) (.as 10 (Iv 0) (.res 15 (Qo (Rat.divInt p q)) (.res 17 (Qo (Rat.divInt r s)) (.res 18 (Iv (cmpR (Rat.divInt p q) (Rat.divInt r s))) .done)))))) Try.func12 rfl (by kernel_rfl) mixed rfl rfl rfl ?_
    exact And.intro (g_lit2 rfl rfl rfl) (And.intro s45 (And.intro (as_i (errV_t h)) (And.intro (s46 (isq64 hb.1).1 (isq64 hb.1).2 (isq_num hb.1).1 (isq_num hb.1).2) (And.intro (s46 (isq64 hb.2).1 (isq64 hb.2).2 (isq_num hb.2).1 (isq_num hb.2).2) (And.intro (s47 (isq_fit hb.1) (isq_fit hb.2)) (AsOk.refl _))))))
  · rw [if_neg h]
    refine spec_exec (T := .op 9 (Lv [(p, q), (r, s)]) (.res 10 (Iv (errV (Alls [(p, q), (r, s)]))) (.as 10 (Iv 1) .done))) Try.func12 rfl (by kernel_rfl) mixed rfl rfl rfl ?_
    exact And.intro (g_lit2 rfl rfl rfl) (And.intro s45 (And.intro (as_i (errV_f h)) (AsOk.refl _)))
theorem isq_ne {p q : Int} (h : IsQ p q) : q ≠ 0 := by have := h.1; omega
theorem s13 : Spec Try.prog 13 [Rv p q, Rv r s] (cmpT p q r s) := by
  unfold cmpT
  by_cases h : Alls [(p, q), (r, s)]
  · rw [if_pos h]
    have hb := alls_two.1 h
    refine spec_exec (T := .op 9 (Lv [(p, q), (r, s)]) (.res 10 (Iv (errV (Alls [(p, q), (r, s)]))) (.as 10 (Iv 0) (.res 15 (Qs (Rat.divInt p q)) (.res 17 (Qs (Rat.divInt r s)) (.res 18 (Iv (cmpR (Rat.divInt p q) (Rat.divInt r s))) .done)))))) Try.func13 rfl (by kernel_rfl) mixed rfl rfl rfl ?_
    exact And.intro (g_lit2 rfl rfl rfl) (And.intro s48 (And.intro (as_i (errV_t h)) (And.intro (s27 (isq64 hb.1).1 (isq64 hb.1).2 (isq_ne hb.1)) (And.intro (s27 (isq64 hb.2).1 (isq64 hb.2).2 (isq_ne hb.2)) (And.intro (s26 (isq_fit hb.1) (isq_fit hb.2)) (AsOk.refl _))))))
  · rw [if_neg h]
    refine spec_exec (T := .op 9 (Lv [(p, q), (r, s)]) (.res 10 (Iv (errV (Alls [(p, q), (r, s)]))) (.as 10 (Iv 1) .done))) Try.func13 rfl (by kernel_rfl) mixed rfl rfl rfl ?_
    exact And.intro (g_lit2 rfl rfl rfl) (And.intro s48 (And.intro (as_i (errV_f h)) (AsOk.refl _)))
theorem floor_in {p q : Int} (h : IsQ p q) : -1000000000000 ≤ (Rat.divInt p q).floor ∧ (Rat.divInt p q).floor ≤ 1000000000000 := by
  obtain ⟨h1, h2⟩ := isq_num h
  rw [Rat.floor_def, ← h1, ← h2]
  have h3 : (p / q).natAbs ≤ p.natAbs := Int.natAbs_ediv_le_natAbs p q
  have h4 := h.2
  omega
/-- What the floor answers. -/
def floorT (p q : Int) : TV := if IsQ p q then Ii (Rat.divInt p q).floor 0 else Ii 0 1
theorem s51 : Spec Try.prog 51 [Rv p q] (floorT p q) := by
  unfold floorT
  by_cases h : IsQ p q
  · rw [if_pos h]
    have hf := floor_in h
    refine spec_exec (T := .op 8 (Lv [(p, q)]) (.res 9 (Iv (errV (Alls [(p, q)]))) (.as 9 (Iv 0) (.res 15 (Qo (Rat.divInt p q)) (.res 16 (Zv (Rat.divInt p q).floor) (.res 17 (Ib (Rat.divInt p q).floor true) .done)))))) Try.func51 rfl (by kernel_rfl) mixed rfl rfl rfl ?_
    refine And.intro (g_lit1 rfl rfl) (And.intro s45 (And.intro (as_i (errV_t (alls_one.2 h))) (And.intro (s46 (isq64 h).1 (isq64 h).2 (isq_num h).1 (isq_num h).2) (And.intro (s95 (isq_fit h)) (And.intro ((s83 (by decide) (by decide)).to ?_) (AsOk.refl _))))))
    rw [if_pos hf, decide_eq_true hf]
    exact AsOk.refl _
  · rw [if_neg h]
    refine spec_exec (T := .op 8 (Lv [(p, q)]) (.res 9 (Iv (errV (Alls [(p, q)]))) (.as 9 (Iv 1) .done))) Try.func51 rfl (by kernel_rfl) mixed rfl rfl rfl ?_
    exact And.intro (g_lit1 rfl rfl) (And.intro s45 (And.intro (as_i (errV_f fun k => h (alls_one.1 k))) (AsOk.refl _)))
end
end Go.Proofs.Ythhgjloephkpaaa.Lx
namespace Go.Proofs.Ythhgjloephkpaaa.Lx
set_option linter.unusedVariables false
set_option linter.unusedSimpArgs false
open Go Go.RowKit Go.Proofs.Ythhgjloephkpaaa Go.Proofs.YthhgjloephkpaaaW.PrintWords Go.Proofs.YthhgjloephkpaaaW.PrintLast
set_option maxRecDepth 100000
def q227 : Rat := ⟨22, 7, by decide, by decide⟩
structure G where
  n : Int
  d : Int
  p0 : Int
  q0 : Int
  p1 : Int
  q1 : Int
  h : (n = 22 ∧ d = 7 ∧ p0 = 0 ∧ q0 = 1 ∧ p1 = 1 ∧ q1 = 0) ∨ (n = 7 ∧ d = 1 ∧ p0 = 1 ∧ q0 = 0 ∧ p1 = 3 ∧ q1 = 1)
def inv (g : G) : SS := ⟨[(1, Iv 5), (4, Pv 1), (6, Pv 2), (7, Pv 3), (8, Pv 4), (9, Pv 5), (10, Pv 6), (11, Pv 7), (12, Pv 8)],
  [(1, 23, [.val (.int .i64 0), .val (.int .i64 0)]), (2, 62, [.abs Zr 22, .abs Zr 7]), (3, 60, [.abs Zr g.p0]), (4, 60, [.abs Zr g.q0]), (5, 60, [.abs Zr g.p1]), (6, 60, [.abs Zr g.q1]), (7, 60, [.abs Zr g.n]), (8, 60, [.abs Zr g.d])], 9, 128⟩
def t1 : Tr := .res 49 (Zv 3) (.res 53 (Zv 0) (.res 54 (Zv 1) (.res 57 (Zv 5) (.res 58 (Iv (cmpZ 1 5)) (.split 59 .done
  (.res 65 (Zv 3) (.res 66 (Zv 3) (.res 72 (Zv 21) (.res 73 (Zv 1) .done)))))))))
def t2 : Tr := .res 49 (Zv 7) (.res 53 (Zv 7) (.res 54 (Zv 7) (.res 57 (Zv 5) (.res 58 (Iv (cmpZ 7 5)) (.split 59
  (.res 76 (Zv 5) (.res 78 (Zv 5) (.res 80 (.tup [⟨true, [.abs Zr 5]⟩, ⟨true, [.abs Zr 0]⟩]) (.res 86 (Zv 15) (.res 87 (Zv 16) (.res 91 (Zv 5) (.res 92 (Zv 5) (.res 93 (Qo (Rat.divInt 16 5)) (.res 96 (Qo (Rat.divInt 3 1))
  ((.res 99 (Qo (Rat.divInt 16 5 - q227)) (.res 100 (Qo (Rat.divInt 16 5 - q227).abs) ((.res 103 (Qo (Rat.divInt 3 1 - q227)) (.res 104 (Qo (Rat.divInt 3 1 - q227).abs)
  (.res 105 (Iv (cmpR (Rat.divInt 16 5 - q227).abs (Rat.divInt 3 1 - q227).abs)) (.as 105 (Iv (-1)) (.res 121 (toldT (Rat.divInt 16 5)) .done))))))))))))))))))
  .done)))))
theorem fits {z : Int} {k : Nat} (h : -9223372036854775808 ≤ z ∧ z < 9223372036854775808) (hk : 2 ≤ k) : Fit k z := (Fit.int64 h.1 (by omega)).mono hk
theorem qfits {q : Rat} (h : -9223372036854775808 ≤ q.num ∧ q.num < 9223372036854775808) (h2 : (q.den : Int) < 9223372036854775808) : QFit 1000000 q := ⟨fits h (by decide), fits ⟨by omega, h2⟩ (by decide)⟩
theorem told165 : AsOk (toldT (Rat.divInt 16 5)) (Re 16 5 0) := by
  have hg : good (Rat.divInt 16 5) := ⟨by decide +kernel, by decide +kernel, by decide +kernel⟩
  unfold toldT
  rw [if_pos hg, if_pos hg, if_pos hg]
  exact AsOk.refl _
theorem cmpq : cmpR (Rat.divInt 16 5 - q227).abs (Rat.divInt 3 1 - q227).abs = -1 := by kernel_rfl
theorem spec29 : Spec Try.prog 29 [Rv 22 7, Iv 5] (Re 16 5 0) := by
  refine spec_exec (T := .res 21 (B (decide (IsQ 22 7))) (.is 21 true (.res 38 (Qo q227) (.res 39 (Zv 0) (.res 40 (Zv 1) (.res 41 (Zv 1) (.res 42 (Zv 0)
     (.loop ⟨22, 7, 0, 1, 1, 0, by simp⟩ inv (fun g => g.d.natAbs) fun g => if g.n = 22 then t1 else t2)))))))) Try.func29 rfl (by kernel_rfl) mixed rfl rfl rfl ?_
  refine And.intro s49 (And.intro (by decide) ?_)
  refine And.intro (s46 (by decide) (by decide) rfl rfl) ?_
  refine And.intro (s71 (by decide) (by decide)) (And.intro (s71 (by decide) (by decide)) (And.intro (s71 (by decide) (by decide)) (And.intro (s71 (by decide) (by decide)) ?_)))
  refine And.intro ⟨by kernel_rfl, rfl, ?_, ?_⟩ ?_
  · repeat refine And.intro (AsOk.refl _) ?_
    exact trivial
  · repeat refine And.intro (And.intro rfl (AsL.refl _)) ?_
    exact trivial
  rintro ⟨n, d, p0, q0, p1, q1, ⟨rfl, rfl, rfl, rfl, rfl, rfl⟩ | ⟨rfl, rfl, rfl, rfl, rfl, rfl⟩⟩
  · show exec _ _ t1 _ _
    refine And.intro (s72 (fits (by decide) (by decide)) (fits (by decide) (by decide)) (by decide)) ?_
    refine And.intro (s74 (fits (by decide) (by decide)) (fits (by decide) (by decide))) ?_
    refine And.intro (s73 (fits (by decide) (by decide)) (fits (by decide) (by decide))) ?_
    refine And.intro (s71 (by decide) (by decide)) ?_
    refine And.intro (s75 (fits (by decide) (by decide)) (fits (by decide) (by decide))) ?_
    refine And.intro (fun h => absurd h (by decide)) (fun _ => ?_)
    refine And.intro (s74 (fits (by decide) (by decide)) (fits (by decide) (by decide))) ?_
    refine And.intro (s73 (fits (by decide) (by decide)) (fits (by decide) (by decide))) ?_
    refine And.intro (s74 (fits (by decide) (by decide)) (fits (by decide) (by decide))) ?_
    refine And.intro (s76 (fits (by decide) (by decide)) (fits (by decide) (by decide))) ?_
    refine Exists.intro ⟨7, 1, 1, 0, 3, 1, by simp⟩ (And.intro ⟨by kernel_rfl, rfl, ?_, ?_⟩ (by decide))
    · repeat refine And.intro (AsOk.refl _) ?_
      exact trivial
    · repeat refine And.intro (And.intro rfl (AsL.refl _)) ?_
      exact trivial
  · show exec _ _ t2 _ _
    refine And.intro (s72 (fits (by decide) (by decide)) (fits (by decide) (by decide)) (by decide)) ?_
    refine And.intro (s74 (fits (by decide) (by decide)) (fits (by decide) (by decide))) ?_
    refine And.intro (s73 (fits (by decide) (by decide)) (fits (by decide) (by decide))) ?_
    refine And.intro (s71 (by decide) (by decide)) ?_
    refine And.intro (s75 (fits (by decide) (by decide)) (fits (by decide) (by decide))) ?_
    refine And.intro (fun _ => ?_) (fun h => absurd h (by decide))
    refine And.intro (s71 (by decide) (by decide)) ?_
    refine And.intro (s76 (fits (by decide) (by decide)) (fits (by decide) (by decide))) ?_
    refine And.intro (s77 (fits (by decide) (by decide)) (fits (by decide) (by decide)) (by decide)) ?_
    refine And.intro (s74 (fits (by decide) (by decide)) (fits (by decide) (by decide))) ?_
    refine And.intro (s73 (fits (by decide) (by decide)) (fits (by decide) (by decide))) ?_
    refine And.intro (s74 (fits (by decide) (by decide)) (fits (by decide) (by decide))) ?_
    refine And.intro (s73 (fits (by decide) (by decide)) (fits (by decide) (by decide))) ?_
    refine And.intro (s78 (fits (by decide) (by decide)) (fits (by decide) (by decide)) (by decide)) ?_
    refine And.intro (s78 (fits (by decide) (by decide)) (fits (by decide) (by decide)) (by decide)) ?_
    refine And.intro (s58 (p := Rat.divInt 16 5) (q := q227) (qfits (by decide +kernel) (by decide +kernel)) (qfits (by decide +kernel) (by decide +kernel))) ?_
    refine And.intro (s79 (qfits (by decide +kernel) (by decide +kernel))) ?_
    refine And.intro (s58 (p := Rat.divInt 3 1) (q := q227) (qfits (by decide +kernel) (by decide +kernel)) (qfits (by decide +kernel) (by decide +kernel))) ?_
    refine And.intro (s79 (qfits (by decide +kernel) (by decide +kernel))) ?_
    refine And.intro (s47 (qfits (by decide +kernel) (by decide +kernel)) (qfits (by decide +kernel) (by decide +kernel))) ?_
    refine And.intro (as_i cmpq) ?_
    refine And.intro s42 ?_
    exact told165
end Go.Proofs.Ythhgjloephkpaaa.Lx
namespace Go.Proofs.Ythhgjloephkpaaa.Lx
set_option linter.unusedVariables false
set_option linter.unusedSimpArgs false
open Go Go.RowKit Go.Proofs.Ythhgjloephkpaaa Go.Proofs.YthhgjloephkpaaaW.PrintWords Go.Proofs.YthhgjloephkpaaaW.PrintLast
set_option maxRecDepth 100000
theorem told_of {q : Rat} (h : good q) : toldT q = Re q.num q.den 0 := by unfold toldT; rw [if_pos h, if_pos h, if_pos h]
theorem beq_and {a b : Int} : ((a == a) && (b == b)) = true := by simp
theorem sto {P : Program} {f : FuncId} {args : List TV} {r r' : TV} (h : Spec P f args r) (e : r = r') : Spec P f args r' := e ▸ h
theorem s16 : Spec Try.prog 16 [] (B true) := by
  have hm : makeT (-6) 4 = Re (-3) 2 0 := by
    unfold makeT
    rw [if_neg (by decide), told_of ⟨by decide +kernel, by decide +kernel, by decide +kernel⟩]
    rfl
  have hf : floorT (-3) 2 = Ii (-2) 0 := by
    unfold floorT
    rw [if_pos (by decide)]
    rfl
  refine spec_exec (T := .res 8 (Re (-3) 2 0) (.res 13 (Ii (-2) 0) (.res 18 (Re 16 5 0) (.op 23 (B true) (.op 39 (B true) .done))))) Try.func16 rfl (by kernel_rfl) mixed rfl rfl rfl ?_
  exact And.intro (sto (s10 (by decide) (by decide)) hm) (And.intro (sto s51 hf) (And.intro spec29 (And.intro (g_eq23 (p := -3) (q := 2) (r := -3) (s := 2) rfl rfl rfl) (And.intro (g_eq23 (p := 16) (q := 5) (r := 16) (s := 5) rfl rfl rfl) (AsOk.refl _)))))
section
variable {p q r s n d : Int}
theorem make_form (n d : Int) : ∃ a b e, makeT n d = Re a b e := by
  unfold makeT toldT
  split <;> exact ⟨_, _, _, rfl⟩
theorem cmp_form (p q r s : Int) : ∃ a b, cmpT p q r s = Ii a b := by
  unfold cmpT
  split <;> exact ⟨_, _, rfl⟩
/-- RatMakes' walk. -/
theorem s3 (h1 : In64 n) (h2 : In64 d) : Spec Try.prog 3 [Rv p q, Rv r s, Iv n, Iv d] (B true) := by
  obtain ⟨a, b, e, hm⟩ := make_form n d
  obtain ⟨c, f, hc⟩ := cmp_form p q r s
  refine spec_exec (T := .res 20 (Re a b e) (.res 26 (Re a b e) (.res 32 (Ii c f) (.res 38 (Ii c f) (.res 42 (Iv (errV (IsQ p q))) (.res 44 (Iv (errV (IsQ p q))) (.is 45 true (.op 49 (B ((a == a) && (b == b))) (.is 49 true (.is 54 true (.is 59 true (.is 64 true (.res 67 (B true) .done))))))))))))) Try.func3 rfl (by kernel_rfl) mixed rfl rfl rfl ?_
  exact And.intro (sto (s10 h1 h2) hm) (And.intro (sto (s11 h1 h2) hm) (And.intro (sto s12 hc) (And.intro (sto s13 hc) (And.intro s14 (And.intro s15 (And.intro (beq_self_eq_true _) (And.intro (g_eq23 (p := a) (q := b) (r := a) (s := b) rfl rfl rfl) (And.intro beq_and
    (And.intro (beq_self_eq_true e) (And.intro (beq_self_eq_true c) (And.intro (beq_self_eq_true f) (And.intro s16 (AsOk.refl _)))))))))))))
end
end Go.Proofs.Ythhgjloephkpaaa.Lx
namespace Go.Proofs.Ythhgjloephkpaaa.Lx
set_option linter.unusedVariables false
set_option linter.unusedSimpArgs false
open Go Go.RowKit Go.Proofs.Ythhgjloephkpaaa Go.Proofs.YthhgjloephkpaaaW.PrintWords Go.Proofs.YthhgjloephkpaaaW.PrintLast
/-- A world whose blocks all are frozen. -/
def Kst.of (w : World) : Kst := ⟨w, fun g => g < w.heap.size, fun _ h => h⟩
theorem law_run {f : FuncId} {args : List TV} {vs : List Value} {w : World} (h : Spec Try.prog f args (B true)) (hr : RepAll (fun _ => 0) (Kst.of w) args vs) : Calls Try.prog f vs.toArray w (RetV w (.bool true)) :=
  (h.run (fun _ => 0) (Kst.of w) vs hr).mono fun e w' ⟨x, t, e1, e2, _, hb, hx⟩ => ⟨⟨x, e1, bv (hx fun _ => 0)⟩, hb⟩
theorem makes3 {p q r s n d : Int} {w : World} (h1 : -9223372036854775808 ≤ n ∧ n < 9223372036854775808) (h2 : -9223372036854775808 ≤ d ∧ d < 9223372036854775808) :
    Calls Try.prog 3 #[.agg #[.int .i64 p, .int .i64 q], .agg #[.int .i64 r, .int .i64 s], .int .i64 n, .int .i64 d] w (RetV w (.bool true)) :=
  law_run (vs := [_, _, _, _]) (s3 (p := p) (q := q) (r := r) (s := s) h1 h2) ⟨_, _, rfl, vr, _, _, rfl, vr, _, _, rfl, vi, _, _, rfl, vi, rfl⟩
end Go.Proofs.Ythhgjloephkpaaa.Lx
namespace Go.Proofs.Ythhgjloephkpaaa
set_option linter.unusedVariables false
open Go Go.RowKit Go.Proofs.YthhgjloephkpaaaW.PrintWords
section
variable {H : Type} {enc : TypeId × Value → H} {w : World}
set_option maxRecDepth 100000 in
theorem rat_arg {r : Reach} {b0 : Nat} {v : Value} {d : DataW H} {p : List MemPlace} (hv : Value.okWide Try.prog w r b0 23 v) (h : DataW.Trod enc Try.prog w 0 (fun _ => true) true 23 v d p) :
    ∃ m n, v = .agg #[.int .i64 m, .int .i64 n] := by
  obtain ⟨v0, v1, y0, y1, n, rfl, _, _, h0, h1⟩ := Go.Joins.open_agg2 Try.underlying23 (by kernel_rfl) (by kernel_rfl) hv h
  obtain ⟨k, e0, _, _⟩ := DataW.trod_int Try.underlying3 h0
  obtain ⟨l, e1, _, _⟩ := DataW.trod_int Try.underlying3 h1
  simp only [List.cons.injEq, and_true] at e0 e1
  subst e0 e1
  exact ⟨k, l, rfl⟩
theorem wf_in {a : Int} (h : (Lit.int .i64 a).wf = true) : -9223372036854775808 ≤ a ∧ a < 9223372036854775808 := by
  have h2 := h
  simp only [Lit.wf, Bool.and_eq_true, decide_eq_true_eq] at h2
  have e1 : IntKind.i64.min = -9223372036854775808 := by decide
  have e2 : IntKind.i64.max = 9223372036854775807 := by decide
  rw [e1, e2] at h2
  exact ⟨h2.1, by omega⟩
end
end Go.Proofs.Ythhgjloephkpaaa
