/- Words and walks for the row RowRatLeast, put together: LX30, RZO. -/
import Derived.Test.YthhgjloephkpaaaLe25
import Derived.Test.YthhgjloephkpaaaProg
import Derived.Test.YthhgjloephkpaaaWSized
import Derived.WalkKit
import Derived.ProofKit
import Derived.OpenShut
import Derived.ChangeOld
import Derived.Below
import Derived.SizedLaws
import Derived.Lib.SmallJoins
import Derived.DataReads
namespace Go.Proofs.Ythhgjloephkpaaa.Lx
set_option linter.unusedVariables false
set_option linter.unusedSimpArgs false
open Go Go.RowKit Go.Proofs.Ythhgjloephkpaaa Go.Proofs.YthhgjloephkpaaaW.PrintWords Go.Proofs.YthhgjloephkpaaaW.PrintLast
set_option maxRecDepth 100000
set_option maxHeartbeats 4000000
theorem told_bad {v : Rat} (h : ¬ good v) : toldT v = Re 0 0 3 := by unfold toldT; rw [if_neg h, if_neg h, if_neg h]
theorem near_form {p q m : Int} (h1 : 1 ≤ m) (h2 : m ≤ 1000000000000) : ∃ a b e, Spec Try.prog 29 [Rv p q, Iv m] (Re a b e) ∧
    (e = 0 → IsQ p q ∧ (-1000000000000 ≤ a ∧ a ≤ 1000000000000) ∧ 1 ≤ b ∧ b ≤ m ∧ ∀ r, (Rat.divInt a b - Rat.divInt p q).abs ≤ (Rat.divInt r m - Rat.divInt p q).abs) := by
  by_cases hv : IsQ p q
  · by_cases hm : m < q
    · have hs := x29 hv h1 hm
      generalize hn : nh_of hv h1 hm = nn at hs
      have hend := (NG.first nn).run_end nn
      have hl := fun r => near_law nn _ hend (r := r) (t := m) h1 (Int.le_refl _)
      have hd := NG.res_den nn _ hend
      generalize ((NG.first nn).run nn).res = v at *
      rw [Rat.num_divInt_den] at hl
      by_cases hg : good v
      · rw [told_of hg] at hs
        exact ⟨_, _, _, hs, fun _ => ⟨hv, ⟨hg.1, hg.2.1⟩, by have := den_pos v; omega, hd, fun r => by rw [Rat.num_divInt_den]; exact hl r⟩⟩
      · rw [told_bad hg] at hs
        exact ⟨_, _, _, hs, fun k => absurd k (by decide)⟩
    · refine ⟨p, q, 0, ?_, fun _ => ⟨hv, ⟨hv.2.2.1, hv.2.2.2.1⟩, hv.1, by omega, fun r => ?_⟩⟩
      · refine spec_exec (T := .res 21 (B (decide (IsQ p q))) (.is 21 true (.is 25 false (.is 29 false (.is 35 true .done))))) Try.func29 rfl (by kernel_rfl) mixed rfl rfl rfl ?_
        exact And.intro s49 (And.intro (decide_eq_true hv) (And.intro (decide_eq_false (by omega)) (And.intro (decide_eq_false (by omega)) (And.intro (decide_eq_true (by omega)) (AsOk.refl _)))))
      · rw [Rat.sub_self]
        exact Rat.abs_nonneg
  · refine ⟨0, 0, 1, ?_, fun k => absurd k (by decide)⟩
    refine spec_exec (T := .res 21 (B (decide (IsQ p q))) (.is 21 false .done)) Try.func29 rfl (by kernel_rfl) mixed rfl rfl rfl ?_
    exact And.intro s49 (And.intro (decide_eq_false hv) (AsOk.refl _))
section
variable {p q r s n d : Int}
theorem simp_form (p q r s : Int) : ∃ a b e, sT p q r s = Re a b e ∧ (e = 0 → IsQ p q ∧ IsQ r s ∧ b = ((simplV (Rat.divInt p q) (Rat.divInt r s)).den : Int)) := by
  unfold sT
  by_cases h : Alls [(p, q), (r, s)] ∧ Rat.divInt p q ≤ Rat.divInt r s
  · rw [if_pos h]
    by_cases hg : good (simplV (Rat.divInt p q) (Rat.divInt r s))
    · rw [told_of hg]
      exact ⟨_, _, _, rfl, fun _ => ⟨(alls_two.1 h.1).1, (alls_two.1 h.1).2, rfl⟩⟩
    · rw [told_bad hg]
      exact ⟨_, _, _, rfl, fun k => absurd k (by decide)⟩
  · rw [if_neg h]
    exact ⟨_, _, _, rfl, fun k => absurd k (by decide)⟩
theorem s7 : Spec Try.prog 7 [Rv p q, Rv r s, Iv n, Iv d] (B true) := by
  by_cases g1 : d < 1
  · refine spec_exec (T := .is 17 true (.res 30 (B true) .done)) Try.func7 rfl (by kernel_rfl) mixed rfl rfl rfl ?_
    exact And.intro (decide_eq_true g1) (And.intro s16 (AsOk.refl _))
  by_cases g2 : 1000000000000 < d
  · refine spec_exec (T := .is 17 false (.is 20 true (.res 30 (B true) .done))) Try.func7 rfl (by kernel_rfl) mixed rfl rfl rfl ?_
    exact And.intro (decide_eq_false g1) (And.intro (decide_eq_true g2) (And.intro s16 (AsOk.refl _)))
  by_cases g3 : n < -1000000000000
  · refine spec_exec (T := .is 17 false (.is 20 false (.is 24 true (.res 30 (B true) .done)))) Try.func7 rfl (by kernel_rfl) mixed rfl rfl rfl ?_
    exact And.intro (decide_eq_false g1) (And.intro (decide_eq_false g2) (And.intro (decide_eq_true g3) (And.intro s16 (AsOk.refl _))))
  by_cases g4 : 1000000000000 < n
  · refine spec_exec (T := .is 17 false (.is 20 false (.is 24 false (.is 28 true (.res 30 (B true) .done))))) Try.func7 rfl (by kernel_rfl) mixed rfl rfl rfl ?_
    exact And.intro (decide_eq_false g1) (And.intro (decide_eq_false g2) (And.intro (decide_eq_false g3) (And.intro (decide_eq_true g4) (And.intro s16 (AsOk.refl _)))))
  have hd1 : 1 ≤ d := by omega
  have hd2 : d ≤ 1000000000000 := by omega
  have hn1 : -1000000000000 ≤ n ∧ n ≤ 1000000000000 := ⟨by omega, by omega⟩
  have hzo := hz_of hn1 ⟨hd1, hd2⟩
  obtain ⟨a, b, e, he, hb⟩ := simp_form p q r s
  obtain ⟨a2, b2, e2, hs29, hnear⟩ := near_form (p := p) (q := q) hd1 hd2
  obtain ⟨o, ho⟩ : ∃ o, o = Rat.divInt n d := ⟨_, rfl⟩
  have h25 : Spec Try.prog 25 [Iv n, Iv d] (Qs o) := by rw [ho]; exact s25 ⟨by omega, by omega⟩ ⟨by omega, by omega⟩ (by omega)
  rw [← ho] at hzo
  have fo : QFit 2 o := hzo.fit
  let x := Rat.divInt p q
  let y := Rat.divInt r s
  let v := Rat.divInt a2 b2
  let pre (t : Tr) : Tr := .is 17 false (.is 20 false (.is 24 false (.is 28 false (.res 34 (Re a b e) (.res 39 (Qs o) t)))))
  let T1 : Tr := .res 72 (Re a2 b2 e2) (.is 76 false (.res 79 (Qs x) (.res 81 (Qs v) (.res 83 (Qs (v - x)) (.res 84 (Qs (v - x).abs) (.res 87 (Qs (o - x)) (.res 88 (Qs (o - x).abs) (.res 89 (Iv (cmpR (v - x).abs (o - x).abs)) (.is 90 true (.is 95 true (.res 98 (B true) .done)))))))))))
  let T2 : Tr := .res 72 (Re a2 b2 e2) (.is 76 true (.res 77 (B true) .done))
  have h34 : Spec Try.prog 23 [Rv p q, Rv r s] (Re a b e) := sto s23 he
  have p17 := decide_eq_false g1
  have p20 := decide_eq_false g2
  have p24 := decide_eq_false g3
  have p28 := decide_eq_false g4
  -- what is behind the join, for both answers of Near
  by_cases he2 : e2 = 0
  · obtain ⟨hv, hva, hvb, hvm, hl⟩ := hnear he2
    have hzx := isq_hz hv
    have fx : QFit 2 x := hzx.fit
    have fv : QFit 2 v := (hz_of hva ⟨hvb, by omega⟩).fit
    have e90 : decide (cmpR (v - x).abs (o - x).abs ≤ 0) = true := decide_eq_true (cmp_le.2 (by rw [ho]; exact hl n))
    have e95 : decide (b2 ≤ d) = true := decide_eq_true hvm
    have e76 : (!(e2 == 0)) = false := by rw [he2]; rfl
    have h79 := s27s hv
    have h81 : Spec Try.prog 27 [Rv a2 b2] (Qs v) := s27 ⟨by omega, by omega⟩ ⟨by omega, by omega⟩ (by omega)
    have h83 := s30 (p := v) (q := x) (fv.mono (by decide)) (fx.mono (by decide))
    have h84 := s31 (p := v - x) ((fv.sub fx).mono (by decide))
    have h87 := s30 (p := o) (q := x) (fo.mono (by decide)) (fx.mono (by decide))
    have h88 := s31 (p := o - x) ((fo.sub fx).mono (by decide))
    have h89 := s26 (p := (v - x).abs) (q := (o - x).abs) ((fv.sub fx).abs.mono (by decide)) ((fo.sub fx).abs.mono (by decide))
    by_cases he0 : e = 0
    · obtain ⟨hx, hy, hbd⟩ := hb he0
      have hzx' := isq_hz hx
      have hzy := isq_hz hy
      have fx' : QFit 2 x := hzx'.fit
      have fy : QFit 2 y := hzy.fit
      have e41 : (e == 0) = true := beq_iff_eq.2 he0
      have h45 := s27s hx
      have h52 := s27s hy
      have h46 := s26 (p := o) (q := x) (fo.mono (by decide)) (fx'.mono (by decide))
      have h53 := s26 (p := o) (q := y) (fo.mono (by decide)) (fy.mono (by decide))
      by_cases k1 : x ≤ o
      · have e47 : decide (0 ≤ cmpR o x) = true := decide_eq_true (cmp_ge.2 k1)
        by_cases k2 : o ≤ y
        · have e54 : decide (cmpR o y ≤ 0) = true := decide_eq_true (cmp_le.2 k2)
          have hl2 : b ≤ (o.den : Int) := by rw [hbd]; exact simplV_least hzx' hzy hzo k1 k2
          by_cases kg : good o
          · have h58 : Spec Try.prog 28 [Qs o] (.tup [⟨true, [.val (.int .i64 o.num), .val (.int .i64 (o.den : Int))]⟩, ⟨false, [.val (.bool true)]⟩]) := sto s28 (by unfold ratT; rw [if_pos kg, if_pos kg, decide_eq_true kg])
            have e67 : decide ((o.den : Int) < b) = false := decide_eq_false (by omega)
            refine spec_exec (T := pre (.is 41 true (.res 45 (Qs x) (.res 46 (Iv (cmpR o x)) (.is 47 true (.res 52 (Qs y) (.res 53 (Iv (cmpR o y)) (.is 54 true (.res 58 (.tup [⟨true, [.val (.int .i64 o.num), .val (.int .i64 (o.den : Int))]⟩, ⟨false, [.val (.bool true)]⟩]) (.is 67 false T1)))))))))) Try.func7 rfl (by kernel_rfl) mixed rfl rfl rfl ?_
            exact And.intro p17 (And.intro p20 (And.intro p24 (And.intro p28 (And.intro h34 (And.intro h25 (And.intro e41 (And.intro h45 (And.intro h46 (And.intro e47 (And.intro h52 (And.intro h53 (And.intro e54 (And.intro h58 (And.intro e67 (And.intro hs29 (And.intro e76 (And.intro h79 (And.intro h81 (And.intro h83 (And.intro h84 (And.intro h87 (And.intro h88 (And.intro h89 (And.intro e90 (And.intro e95 (And.intro s16 (AsOk.refl _)))))))))))))))))))))))))))
          · have h58 : Spec Try.prog 28 [Qs o] (.tup [⟨true, [.val (.int .i64 0), .val (.int .i64 0)]⟩, ⟨false, [.val (.bool false)]⟩]) := sto s28 (by unfold ratT; rw [if_neg kg, if_neg kg, decide_eq_false kg])
            refine spec_exec (T := pre (.is 41 true (.res 45 (Qs x) (.res 46 (Iv (cmpR o x)) (.is 47 true (.res 52 (Qs y) (.res 53 (Iv (cmpR o y)) (.is 54 true (.res 58 (.tup [⟨true, [.val (.int .i64 0), .val (.int .i64 0)]⟩, ⟨false, [.val (.bool false)]⟩]) T1))))))))) Try.func7 rfl (by kernel_rfl) mixed rfl rfl rfl ?_
            exact And.intro p17 (And.intro p20 (And.intro p24 (And.intro p28 (And.intro h34 (And.intro h25 (And.intro e41 (And.intro h45 (And.intro h46 (And.intro e47 (And.intro h52 (And.intro h53 (And.intro e54 (And.intro h58 (And.intro hs29 (And.intro e76 (And.intro h79 (And.intro h81 (And.intro h83 (And.intro h84 (And.intro h87 (And.intro h88 (And.intro h89 (And.intro e90 (And.intro e95 (And.intro s16 (AsOk.refl _))))))))))))))))))))))))))
        · have e54 : decide (cmpR o y ≤ 0) = false := decide_eq_false fun k => k2 (cmp_le.1 k)
          refine spec_exec (T := pre (.is 41 true (.res 45 (Qs x) (.res 46 (Iv (cmpR o x)) (.is 47 true (.res 52 (Qs y) (.res 53 (Iv (cmpR o y)) (.is 54 false T1)))))))) Try.func7 rfl (by kernel_rfl) mixed rfl rfl rfl ?_
          exact And.intro p17 (And.intro p20 (And.intro p24 (And.intro p28 (And.intro h34 (And.intro h25 (And.intro e41 (And.intro h45 (And.intro h46 (And.intro e47 (And.intro h52 (And.intro h53 (And.intro e54 (And.intro hs29 (And.intro e76 (And.intro h79 (And.intro h81 (And.intro h83 (And.intro h84 (And.intro h87 (And.intro h88 (And.intro h89 (And.intro e90 (And.intro e95 (And.intro s16 (AsOk.refl _)))))))))))))))))))))))))
      · have e47 : decide (0 ≤ cmpR o x) = false := decide_eq_false fun k => k1 (cmp_ge.1 k)
        refine spec_exec (T := pre (.is 41 true (.res 45 (Qs x) (.res 46 (Iv (cmpR o x)) (.is 47 false T1))))) Try.func7 rfl (by kernel_rfl) mixed rfl rfl rfl ?_
        exact And.intro p17 (And.intro p20 (And.intro p24 (And.intro p28 (And.intro h34 (And.intro h25 (And.intro e41 (And.intro h45 (And.intro h46 (And.intro e47 (And.intro hs29 (And.intro e76 (And.intro h79 (And.intro h81 (And.intro h83 (And.intro h84 (And.intro h87 (And.intro h88 (And.intro h89 (And.intro e90 (And.intro e95 (And.intro s16 (AsOk.refl _))))))))))))))))))))))
    · have e41 : (e == 0) = false := beq_eq_false_iff_ne.2 he0
      refine spec_exec (T := pre (.is 41 false T1)) Try.func7 rfl (by kernel_rfl) mixed rfl rfl rfl ?_
      exact And.intro p17 (And.intro p20 (And.intro p24 (And.intro p28 (And.intro h34 (And.intro h25 (And.intro e41 (And.intro hs29 (And.intro e76 (And.intro h79 (And.intro h81 (And.intro h83 (And.intro h84 (And.intro h87 (And.intro h88 (And.intro h89 (And.intro e90 (And.intro e95 (And.intro s16 (AsOk.refl _)))))))))))))))))))
  · have e76 : (!(e2 == 0)) = true := by rw [beq_eq_false_iff_ne.2 he2]; rfl
    by_cases he0 : e = 0
    · obtain ⟨hx, hy, hbd⟩ := hb he0
      have hzx' := isq_hz hx
      have hzy := isq_hz hy
      have fx' : QFit 2 x := hzx'.fit
      have fy : QFit 2 y := hzy.fit
      have e41 : (e == 0) = true := beq_iff_eq.2 he0
      have h45 := s27s hx
      have h52 := s27s hy
      have h46 := s26 (p := o) (q := x) (fo.mono (by decide)) (fx'.mono (by decide))
      have h53 := s26 (p := o) (q := y) (fo.mono (by decide)) (fy.mono (by decide))
      by_cases k1 : x ≤ o
      · have e47 : decide (0 ≤ cmpR o x) = true := decide_eq_true (cmp_ge.2 k1)
        by_cases k2 : o ≤ y
        · have e54 : decide (cmpR o y ≤ 0) = true := decide_eq_true (cmp_le.2 k2)
          have hl2 : b ≤ (o.den : Int) := by rw [hbd]; exact simplV_least hzx' hzy hzo k1 k2
          by_cases kg : good o
          · have h58 : Spec Try.prog 28 [Qs o] (.tup [⟨true, [.val (.int .i64 o.num), .val (.int .i64 (o.den : Int))]⟩, ⟨false, [.val (.bool true)]⟩]) := sto s28 (by unfold ratT; rw [if_pos kg, if_pos kg, decide_eq_true kg])
            have e67 : decide ((o.den : Int) < b) = false := decide_eq_false (by omega)
            refine spec_exec (T := pre (.is 41 true (.res 45 (Qs x) (.res 46 (Iv (cmpR o x)) (.is 47 true (.res 52 (Qs y) (.res 53 (Iv (cmpR o y)) (.is 54 true (.res 58 (.tup [⟨true, [.val (.int .i64 o.num), .val (.int .i64 (o.den : Int))]⟩, ⟨false, [.val (.bool true)]⟩]) (.is 67 false T2)))))))))) Try.func7 rfl (by kernel_rfl) mixed rfl rfl rfl ?_
            exact And.intro p17 (And.intro p20 (And.intro p24 (And.intro p28 (And.intro h34 (And.intro h25 (And.intro e41 (And.intro h45 (And.intro h46 (And.intro e47 (And.intro h52 (And.intro h53 (And.intro e54 (And.intro h58 (And.intro e67 (And.intro hs29 (And.intro e76 (And.intro s16 (AsOk.refl _))))))))))))))))))
          · have h58 : Spec Try.prog 28 [Qs o] (.tup [⟨true, [.val (.int .i64 0), .val (.int .i64 0)]⟩, ⟨false, [.val (.bool false)]⟩]) := sto s28 (by unfold ratT; rw [if_neg kg, if_neg kg, decide_eq_false kg])
            refine spec_exec (T := pre (.is 41 true (.res 45 (Qs x) (.res 46 (Iv (cmpR o x)) (.is 47 true (.res 52 (Qs y) (.res 53 (Iv (cmpR o y)) (.is 54 true (.res 58 (.tup [⟨true, [.val (.int .i64 0), .val (.int .i64 0)]⟩, ⟨false, [.val (.bool false)]⟩]) T2))))))))) Try.func7 rfl (by kernel_rfl) mixed rfl rfl rfl ?_
            exact And.intro p17 (And.intro p20 (And.intro p24 (And.intro p28 (And.intro h34 (And.intro h25 (And.intro e41 (And.intro h45 (And.intro h46 (And.intro e47 (And.intro h52 (And.intro h53 (And.intro e54 (And.intro h58 (And.intro hs29 (And.intro e76 (And.intro s16 (AsOk.refl _)))))))))))))))))
        · have e54 : decide (cmpR o y ≤ 0) = false := decide_eq_false fun k => k2 (cmp_le.1 k)
          refine spec_exec (T := pre (.is 41 true (.res 45 (Qs x) (.res 46 (Iv (cmpR o x)) (.is 47 true (.res 52 (Qs y) (.res 53 (Iv (cmpR o y)) (.is 54 false T2)))))))) Try.func7 rfl (by kernel_rfl) mixed rfl rfl rfl ?_
          exact And.intro p17 (And.intro p20 (And.intro p24 (And.intro p28 (And.intro h34 (And.intro h25 (And.intro e41 (And.intro h45 (And.intro h46 (And.intro e47 (And.intro h52 (And.intro h53 (And.intro e54 (And.intro hs29 (And.intro e76 (And.intro s16 (AsOk.refl _))))))))))))))))
      · have e47 : decide (0 ≤ cmpR o x) = false := decide_eq_false fun k => k1 (cmp_ge.1 k)
        refine spec_exec (T := pre (.is 41 true (.res 45 (Qs x) (.res 46 (Iv (cmpR o x)) (.is 47 false T2))))) Try.func7 rfl (by kernel_rfl) mixed rfl rfl rfl ?_
        exact And.intro p17 (And.intro p20 (And.intro p24 (And.intro p28 (And.intro h34 (And.intro h25 (And.intro e41 (And.intro h45 (And.intro h46 (And.intro e47 (And.intro hs29 (And.intro e76 (And.intro s16 (AsOk.refl _)))))))))))))
    · have e41 : (e == 0) = false := beq_eq_false_iff_ne.2 he0
      refine spec_exec (T := pre (.is 41 false T2)) Try.func7 rfl (by kernel_rfl) mixed rfl rfl rfl ?_
      exact And.intro p17 (And.intro p20 (And.intro p24 (And.intro p28 (And.intro h34 (And.intro h25 (And.intro e41 (And.intro hs29 (And.intro e76 (And.intro s16 (AsOk.refl _))))))))))
theorem least7 {w : World} : Calls Try.prog 7 #[.agg #[.int .i64 p, .int .i64 q], .agg #[.int .i64 r, .int .i64 s], .int .i64 n, .int .i64 d] w (RetV w (.bool true)) :=
  law_run (vs := [_, _, _, _]) (s7 (p := p) (q := q) (r := r) (s := s) (n := n) (d := d)) ⟨_, _, rfl, vr, _, _, rfl, vr, _, _, rfl, vi, _, _, rfl, vi, rfl⟩
end
end Go.Proofs.Ythhgjloephkpaaa.Lx
namespace Go.Proofs.Ythhgjloephkpaaa
set_option linter.unusedVariables false
open Go Go.RowKit Go.Proofs.YthhgjloephkpaaaW.PrintWords
section
variable {H : Type} {enc : TypeId × Value → H} {w : World}
set_option maxRecDepth 100000 in
theorem rat_arg {r : Reach} {b0 : Nat} {v : Value} {d : DataW H} {p : List MemPlace} (hv : Value.okWide Try.prog w r b0 23 v) (h : DataW.Trod enc Try.prog w 0 (fun _ => true) true 23 v d p) :
    ∃ m n, v = .agg #[.int .i64 m, .int .i64 n] := by
  obtain ⟨v0, v1, y0, y1, n, rfl, _, _, h0, h1⟩ := Go.Joins.open_agg2 Try.underlying23 (by kernel_rfl) (by kernel_rfl) hv h
  obtain ⟨k, e0, _, _⟩ := DataW.trod_int Try.underlying3 h0
  obtain ⟨l, e1, _, _⟩ := DataW.trod_int Try.underlying3 h1
  simp only [List.cons.injEq, and_true] at e0 e1
  subst e0 e1
  exact ⟨k, l, rfl⟩
end
end Go.Proofs.Ythhgjloephkpaaa
