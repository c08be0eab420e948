/- Words and walks for the row RowRatField, put together: LX22, RZO. -/
import Derived.Test.YthhgjloephkpaaaFi19
import Derived.Test.YthhgjloephkpaaaProg
import Derived.Test.YthhgjloephkpaaaWSized
import Derived.WalkKit
import Derived.ProofKit
import Derived.OpenShut
import Derived.ChangeOld
import Derived.Below
import Derived.SizedLaws
import Derived.Lib.SmallJoins
import Derived.DataReads
namespace Go.Proofs.Ythhgjloephkpaaa.Lx
set_option linter.unusedVariables false
set_option linter.unusedSimpArgs false
open Go Go.RowKit Go.Proofs.Ythhgjloephkpaaa Go.Proofs.YthhgjloephkpaaaW.PrintWords Go.Proofs.YthhgjloephkpaaaW.PrintLast
set_option maxRecDepth 100000
theorem re_inj {a b e a' b' e' : Int} (h : Re a b e = Re a' b' e') : a = a' ∧ b = b' ∧ e = e' := by
  unfold Re at h
  simp only [TV.tup.injEq, List.cons.injEq, UV.mk.injEq, SV.val.injEq, Value.int.injEq, true_and, and_true] at h
  exact ⟨h.1.1, h.1.2, h.2⟩
theorem good_isq {c : Rat} (h : good c) : IsQ c.num (c.den : Int) := ⟨by have := den_pos c; omega, h.2.2, h.1, h.2.1, c.reduced⟩
theorem divInt_nd (c : Rat) : Rat.divInt c.num (c.den : Int) = c := Rat.num_divInt_den c
theorem isq_good {p q : Int} (h : IsQ p q) : good (Rat.divInt p q) := by
  obtain ⟨h1, h2⟩ := isq_num h
  exact ⟨by rw [← h1]; exact h.2.2.1, by rw [← h1]; exact h.2.2.2.1, by rw [← h2]; exact h.2.1⟩
section
variable {p q r s t u a b e : Int} {c : Rat}
theorem bin_ok (h : binT p q r s c = Re a b e) (he : e = 0) : IsQ p q ∧ IsQ r s ∧ good c ∧ a = c.num ∧ b = (c.den : Int) := by
  unfold binT at h
  by_cases hA : Alls [(p, q), (r, s)]
  · rw [if_pos hA] at h
    by_cases hg : good c
    · rw [told_of hg] at h
      obtain ⟨h1, h2, _⟩ := re_inj h
      exact ⟨(alls_two.1 hA).1, (alls_two.1 hA).2, hg, h1.symm, h2.symm⟩
    · rw [told_no hg] at h
      obtain ⟨_, _, h3⟩ := re_inj h
      omega
  · rw [if_neg hA] at h
    obtain ⟨_, _, h3⟩ := re_inj h
    omega
theorem bin_mk (h1 : IsQ p q) (h2 : IsQ r s) (hg : good c) : binT p q r s c = Re c.num c.den 0 := by
  unfold binT
  rw [if_pos (alls_two.2 ⟨h1, h2⟩), told_of hg]
theorem alls_swap : Alls [(p, q), (r, s)] ↔ Alls [(r, s), (p, q)] := by rw [alls_two, alls_two]; exact And.comm
theorem bin_comm {f : Rat → Rat → Rat} (hf : ∀ x y, f x y = f y x) : binT r s p q (f (Rat.divInt r s) (Rat.divInt p q)) = binT p q r s (f (Rat.divInt p q) (Rat.divInt r s)) := by
  unfold binT
  rw [hf]
  by_cases h : Alls [(p, q), (r, s)]
  · rw [if_pos h, if_pos (alls_swap.1 h)]
  · rw [if_neg h, if_neg fun k => h (alls_swap.1 k)]
/-- What was added is taken away again. -/
theorem sub_back (h : binT p q r s (Rat.divInt p q + Rat.divInt r s) = Re a b e) (he : e = 0) : binT a b r s (Rat.divInt a b - Rat.divInt r s) = Re p q 0 := by
  obtain ⟨h1, h2, hg, rfl, rfl⟩ := bin_ok h he
  rw [divInt_nd, Rat.add_sub_cancel, bin_mk (good_isq hg) h2 (isq_good h1), ← (isq_num h1).1, ← (isq_num h1).2]
theorem div_back (h : binT p q r s (Rat.divInt p q * Rat.divInt r s) = Re a b e) (he : e = 0) (h0 : r ≠ 0) : divT a b r s = Re p q 0 := by
  obtain ⟨h1, h2, hg, rfl, rfl⟩ := bin_ok h he
  have hn : Rat.divInt r s ≠ 0 := fun e => h0 ((isq_zero h2).2 e)
  unfold divT
  rw [if_pos (alls_two.2 ⟨good_isq hg, h2⟩), if_neg h0, divInt_nd, Rat.mul_div_cancel hn, told_of (isq_good h1), ← (isq_num h1).1, ← (isq_num h1).2]
def inv9 (p q r s t u : Int) (g : Unit) : SS := ⟨[(3, Pv 0), (4, Pv 1), (5, Pv 2)], [(0, 23, [.val (.int .i64 p), .val (.int .i64 q)]), (1, 23, [.val (.int .i64 r), .val (.int .i64 s)]), (2, 23, [.val (.int .i64 t), .val (.int .i64 u)])], 3, 156⟩
def inv16 (p q r s t u c d : Int) (g : Unit) : SS := ⟨[(3, Pv 0), (4, Pv 1), (5, Pv 2), (13, Pv 3)], [(0, 23, [.val (.int .i64 p), .val (.int .i64 q)]), (1, 23, [.val (.int .i64 r), .val (.int .i64 s)]), (2, 23, [.val (.int .i64 t), .val (.int .i64 u)]), (3, 23, [.val (.int .i64 c), .val (.int .i64 d)])], 4, 156⟩
def tK : Tr := .res 155 (B true) .done
theorem same23 {a b : Int} : (!((a == a) && (b == b))) = false := by rw [beq_and]; rfl
set_option maxHeartbeats 4000000 in
theorem s5 : Spec Try.prog 5 [Rv p q, Rv r s, Rv t u] (B true) := by
  obtain ⟨a, b, e, hA⟩ := bin_form p q r s (Rat.divInt p q + Rat.divInt r s)
  have hA' : binT r s p q (Rat.divInt r s + Rat.divInt p q) = Re a b e := (bin_comm (f := fun x y => x + y) Rat.add_comm).trans hA
  obtain ⟨c, d, f, hM⟩ := bin_form p q r s (Rat.divInt p q * Rat.divInt r s)
  have hM' : binT r s p q (Rat.divInt r s * Rat.divInt p q) = Re c d f := (bin_comm (f := fun x y => x * y) Rat.mul_comm).trans hM
  obtain ⟨g1, g2, g3, hD⟩ := div_form c d r s
  obtain ⟨s1, s2, e1, hS⟩ := bin_form r s t u (Rat.divInt r s + Rat.divInt t u)
  obtain ⟨l1, l2, e2, hL⟩ := bin_form p q s1 s2 (Rat.divInt p q * Rat.divInt s1 s2)
  obtain ⟨m1, m2, e3, hN⟩ := bin_form p q t u (Rat.divInt p q * Rat.divInt t u)
  obtain ⟨r1, r2, e4, hR⟩ := bin_form c d m1 m2 (Rat.divInt c d + Rat.divInt m1 m2)
  let t16 : Tr := .res 105 (Re s1 s2 e1) (.res 111 (Re l1 l2 e2) (.res 117 (Re m1 m2 e3) (.res 123 (Re r1 r2 e4) (.res 129 (Re c d f) (.split 133 (.split 136 (.split 140 (.split 144 (.split 148 (.op 153 (B (!((l1 == r1) && (l2 == r2)))) (.is 153 false tK)) tK) tK) tK) tK) tK)))))
  let t9 : Tr := .res 63 (Re c d f) (.res 69 (Re c d f) (.op 74 (B (!((c == c) && (d == d)))) (.is 74 false (.is 78 false (.cut 16 (inv16 p q r s t u c d) (.res 83 (Re g1 g2 g3) (.split 87 (.split 91 (.is 95 false (.op 99 (B (!((g1 == p) && (g2 == q)))) (.is 99 false .done))) .done) .done)) fun _ => t16)))))
  refine spec_exec (T := .res 28 (Re a b e) (.res 34 (Re a b e) (.op 39 (B (!((a == a) && (b == b)))) (.is 39 false (.is 43 false (.cut 9 (inv9 p q r s t u) (.split 46 (.res 50 (Re p q 0) (.op 58 (B (!((p == p) && (q == q)))) (.is 58 false .done))) .done) fun _ => t9)))))) Try.func5 rfl (by kernel_rfl) mixed rfl rfl rfl ?_
  refine And.intro (sto s19 hA) (And.intro (sto s19 hA') (And.intro (g_ne23 (p := a) (q := b) (r := a) (s := b) rfl rfl rfl) (And.intro same23 (And.intro (bne_self_eq_false e) (And.intro (And.intro (fun h => ?_) (fun h => ?_)) ?_)))))
  · have h : (e == 0) = true := h
    have he : e = 0 := by simpa using h
    refine And.intro (sto s20 (sub_back hA he)) (And.intro (g_ne23 (p := p) (q := q) (r := p) (s := q) rfl rfl rfl) (And.intro same23 ?_))
    refine Exists.intro () ⟨by kernel_rfl, rfl, ?_, ?_⟩
    · repeat refine And.intro (AsOk.refl _) ?_
      exact trivial
    · repeat refine And.intro (And.intro rfl (AsL.refl _)) ?_
      exact trivial
  · refine Exists.intro () ⟨by kernel_rfl, rfl, ?_, ?_⟩
    · repeat refine And.intro (AsOk.refl _) ?_
      exact trivial
    · repeat refine And.intro (And.intro rfl (AsL.refl _)) ?_
      exact trivial
  rintro ⟨⟩
  refine And.intro (sto s21 hM) (And.intro (sto s21 hM') (And.intro (g_ne23 (p := c) (q := d) (r := c) (s := d) rfl rfl rfl) (And.intro same23 (And.intro (bne_self_eq_false f) (And.intro (And.intro (sto s22 hD) (And.intro (fun h => ?_) (fun h => ?_))) ?_)))))
  · have h : (f == 0) = true := h
    have hf : f = 0 := by simpa using h
    refine And.intro (fun h2 => ?_) (fun h2 => ?_)
    · have h2 : (r != 0) = true := h2
      have h0 : r ≠ 0 := by simpa using h2
      obtain ⟨rfl, rfl, rfl⟩ := re_inj (hD.symm.trans (div_back hM hf h0))
      refine And.intro rfl (And.intro (g_ne23 (p := g1) (q := g2) (r := g1) (s := g2) rfl rfl rfl) (And.intro same23 ?_))
      refine Exists.intro () ⟨by kernel_rfl, rfl, ?_, ?_⟩
      · repeat refine And.intro (AsOk.refl _) ?_
        exact trivial
      · repeat refine And.intro (And.intro rfl (AsL.refl _)) ?_
        exact trivial
    · refine Exists.intro () ⟨by kernel_rfl, rfl, ?_, ?_⟩
      · repeat refine And.intro (AsOk.refl _) ?_
        exact trivial
      · repeat refine And.intro (And.intro rfl (AsL.refl _)) ?_
        exact trivial
  · refine Exists.intro () ⟨by kernel_rfl, rfl, ?_, ?_⟩
    · repeat refine And.intro (AsOk.refl _) ?_
      exact trivial
    · repeat refine And.intro (And.intro rfl (AsL.refl _)) ?_
      exact trivial
  rintro ⟨⟩
  refine And.intro (sto s19 hS) (And.intro (sto s21 hL) (And.intro (sto s21 hN) (And.intro (sto s19 hR) (And.intro (sto s21 hM) ?_))))
  refine And.intro (fun h1 => And.intro (fun h2 => And.intro (fun h3 => And.intro (fun h4 => And.intro (fun h5 => ?_) (fun _ => And.intro s16 (AsOk.refl _))) (fun _ => And.intro s16 (AsOk.refl _))) (fun _ => And.intro s16 (AsOk.refl _))) (fun _ => And.intro s16 (AsOk.refl _))) (fun _ => And.intro s16 (AsOk.refl _))
  have h1 : (e1 == 0) = true := h1
  have h2 : (e2 == 0) = true := h2
  have h3 : (e3 == 0) = true := h3
  have h4 : (e4 == 0) = true := h4
  have h5 : (f == 0) = true := h5
  obtain ⟨_, _, gS, rfl, rfl⟩ := bin_ok hS (by simpa using h1)
  obtain ⟨_, _, gL, rfl, rfl⟩ := bin_ok hL (by simpa using h2)
  obtain ⟨_, _, gN, rfl, rfl⟩ := bin_ok hN (by simpa using h3)
  obtain ⟨_, _, gM, rfl, rfl⟩ := bin_ok hM (by simpa using h5)
  obtain ⟨_, _, gR, rfl, rfl⟩ := bin_ok hR (by simpa using h4)
  refine And.intro (g_ne23 rfl rfl rfl) (And.intro ?_ (And.intro s16 (AsOk.refl _)))
  rw [divInt_nd, divInt_nd, divInt_nd, Rat.mul_add]
  exact same23
theorem field5 {w : World} : Calls Try.prog 5 #[.agg #[.int .i64 p, .int .i64 q], .agg #[.int .i64 r, .int .i64 s], .agg #[.int .i64 t, .int .i64 u]] w (RetV w (.bool true)) :=
  law_run (vs := [_, _, _]) (s5 (p := p) (q := q) (r := r) (s := s) (t := t) (u := u)) ⟨_, _, rfl, vr, _, _, rfl, vr, _, _, rfl, vr, rfl⟩
end
end Go.Proofs.Ythhgjloephkpaaa.Lx
namespace Go.Proofs.Ythhgjloephkpaaa
set_option linter.unusedVariables false
open Go Go.RowKit Go.Proofs.YthhgjloephkpaaaW.PrintWords
section
variable {H : Type} {enc : TypeId × Value → H} {w : World}
set_option maxRecDepth 100000 in
theorem rat_arg {r : Reach} {b0 : Nat} {v : Value} {d : DataW H} {p : List MemPlace} (hv : Value.okWide Try.prog w r b0 23 v) (h : DataW.Trod enc Try.prog w 0 (fun _ => true) true 23 v d p) :
    ∃ m n, v = .agg #[.int .i64 m, .int .i64 n] := by
  obtain ⟨v0, v1, y0, y1, n, rfl, _, _, h0, h1⟩ := Go.Joins.open_agg2 Try.underlying23 (by kernel_rfl) (by kernel_rfl) hv h
  obtain ⟨k, e0, _, _⟩ := DataW.trod_int Try.underlying3 h0
  obtain ⟨l, e1, _, _⟩ := DataW.trod_int Try.underlying3 h1
  simp only [List.cons.injEq, and_true] at e0 e1
  subst e0 e1
  exact ⟨k, l, rfl⟩
end
end Go.Proofs.Ythhgjloephkpaaa
