/- Plain law: a circuit without cycles comes to rest within its depth and one round. -/
import Derived.Test.YtobdhdehmkmjcaaP2
import Derived.Test.YtobdhdehmkmjcaaD0
namespace Go.Proofs.Ytobdhdehmkmjcaa
set_option linter.unusedVariables false
set_option linter.unusedSimpArgs false
open Rows0

def seqF (F : List Int → List Int) (s0 : List Int) : Nat → List Int
  | 0 => s0
  | t + 1 => F (seqF F s0 t)
def upTo (F : List Int → List Int) (s0 : List Int) (t : Nat) : List (List Int) := (List.range (t + 1)).map (seqF F s0)
theorem upTo_succ (F : List Int → List Int) (s0 : List Int) (t : Nat) : upTo F s0 (t + 1) = upTo F s0 t ++ [F (seqF F s0 t)] := by
  unfold upTo
  rw [List.range_succ, List.map_append]
  rfl
theorem memB_upTo {F : List Int → List Int} {s0 : List Int} {t : Nat} {y : List Int} : memB (upTo F s0 t) y = true ↔ ∃ j, j ≤ t ∧ seqF F s0 j = y := by
  unfold memB upTo
  rw [List.any_map, List.any_eq_true]
  constructor
  · rintro ⟨j, hj, h⟩
    exact ⟨j, by have := List.mem_range.1 hj; omega, by simpa [sameB] using h⟩
  · rintro ⟨j, hj, h⟩
    exact ⟨j, List.mem_range.2 (by omega), by simpa [sameB] using h⟩
theorem settle_at {F : List Int → List Int} {s0 : List Int} {m : Nat} (hm : m ≤ 100) (hfix : F (seqF F s0 m) = seqF F s0 m) (hne : ∀ t, t < m → F (seqF F s0 t) ≠ seqF F s0 t)
    (hnr : ∀ t, t < m → ∀ j, j ≤ t → seqF F s0 j ≠ seqF F s0 (t + 1)) : ∀ k t, t + k = m → settleF F (upTo F s0 t) (seqF F s0 t) (101 - t) = some (seqF F s0 m, m)
  | 0, t, h => by
    obtain rfl : t = m := by omega
    exact settleF_done hm (by simp [sameB, hfix])
  | k + 1, t, h => by
    have ht : t < m := by omega
    rw [settleF_go (by omega) (by simpa [sameB] using hne t ht) ?_]
    · rw [← upTo_succ]
      exact settle_at hm hfix hne hnr k (t + 1) (by omega)
    · rcases hb : memB (upTo F s0 t) (F (seqF F s0 t)) with _ | _
      · rfl
      · obtain ⟨j, hj, e⟩ := memB_upTo.1 hb
        exact absurd e (hnr t ht j hj)
theorem seq_const {F : List Int → List Int} {s0 : List Int} {T : Nat} (h : F (seqF F s0 T) = seqF F s0 T) : ∀ k, seqF F s0 (T + k) = seqF F s0 T
  | 0 => rfl
  | k + 1 => by
    show F (seqF F s0 (T + k)) = _
    rw [seq_const h k, h]
theorem seq_shift {F : List Int → List Int} {s0 : List Int} {j p : Nat} (h : seqF F s0 (j + p) = seqF F s0 j) : ∀ i, seqF F s0 (j + i + p) = seqF F s0 (j + i)
  | 0 => h
  | i + 1 => by
    have := seq_shift h i
    rw [show j + (i + 1) + p = (j + i + p) + 1 by omega, show j + (i + 1) = (j + i) + 1 by omega]
    show F _ = F _
    rw [this]
theorem seq_shifts {F : List Int → List Int} {s0 : List Int} {j p : Nat} (h : seqF F s0 (j + p) = seqF F s0 j) (i : Nat) : ∀ q, seqF F s0 (j + i + q * p) = seqF F s0 (j + i)
  | 0 => by simp
  | q + 1 => by
    have h1 := seq_shifts h i q
    have h2 := seq_shift h (i + q * p)
    rw [show j + i + (q + 1) * p = j + (i + q * p) + p by rw [Nat.add_mul]; omega, h2, show j + (i + q * p) = j + i + q * p by omega, h1]
/-- A map whose orbit stands still comes to rest there. -/
theorem settle_rest {F : List Int → List Int} {s0 : List Int} {T : Nat} (hT : T ≤ 100) (h : F (seqF F s0 T) = seqF F s0 T) :
    ∃ m, m ≤ T ∧ F (seqF F s0 m) = seqF F s0 m ∧ settleF F [s0] s0 101 = some (seqF F s0 m, m) := by
  obtain ⟨m, hm, h1, h2⟩ := first_false (fun t => decide (F (seqF F s0 t) ≠ seqF F s0 t)) T (by simp [h])
  have hfix : F (seqF F s0 m) = seqF F s0 m := by simpa using h1
  have hne : ∀ t, t < m → F (seqF F s0 t) ≠ seqF F s0 t := fun t ht => by simpa using h2 t ht
  refine ⟨m, hm, hfix, settle_at (by omega) hfix hne ?_ m 0 (by omega)⟩
  intro t ht j hj e
  have hp : seqF F s0 (j + (t + 1 - j)) = seqF F s0 j := by rw [show j + (t + 1 - j) = t + 1 by omega, e]
  have key : ∀ x, j ≤ x → seqF F s0 x = seqF F s0 T := by
    intro x hx
    have h3 := seq_shifts hp (x - j) T
    rw [show j + (x - j) = x by omega] at h3
    have h4 : T ≤ x + T * (t + 1 - j) := by
      have : T * 1 ≤ T * (t + 1 - j) := Nat.mul_le_mul_left _ (by omega)
      omega
    have h5 := seq_const h (x + T * (t + 1 - j) - T)
    rw [show T + (x + T * (t + 1 - j) - T) = x + T * (t + 1 - j) by omega] at h5
    rw [← h3, h5]
  have h6 := key t hj
  have h7 := key (t + 1) (by omega)
  exact hne t ht (by show seqF F s0 (t + 1) = _; rw [h7, h6])

/-- Gate number k's net is an input of gate number i. -/
def fdG (gs : List GateL) (k i : Nat) : Bool := (gs.getD i zGate).kind != 0 && (gs.getD i zGate).ins.contains (gs.getD k zGate).out
theorem accG_congr {gs : List GateL} {gv gw : List Int} {n : Int} : ∀ m, (∀ k, k < m → (gs.getD k zGate).out = n → gv.getD k 0 = gw.getD k 0) → accG gs gv n m = accG gs gw n m
  | 0, _ => rfl
  | m + 1, h => by
    unfold accG
    rw [accG_congr m (fun k hk => h k (by omega))]
    split
    · rename_i e
      rw [h m (by omega) e]
    · rfl
theorem gatesTo_congr {gs : List GateL} {now now' : List Int} (h : ∀ k, k < gs.length → ansF (gs.getD k zGate) now = ansF (gs.getD k zGate) now') (L : List (List Int)) : gatesTo gs now L = gatesTo gs now' L := by
  unfold gatesTo
  induction gs generalizing L with
  | nil => rfl
  | cons g gs ih =>
    have h0 : ansF g now = ansF g now' := by simpa using h 0 (by simp)
    rw [List.foldl_cons, List.foldl_cons, h0]
    exact ih (fun k hk => by have := h (k + 1) (by simpa using hk); simpa using this) _
theorem ans_map (gs : List GateL) (now : List Int) {k : Nat} (hk : k < gs.length) : (gs.map fun g => ansF g now).getD k 0 = ansF (gs.getD k zGate) now := by
  simp [List.getD_eq_getElem?_getD, List.getElem?_eq_getElem hk]
theorem ans_still {nn : Nat} {gs : List GateL} {ds : List DriveL} {s0 : List Int} (hg : gs.all (gateOk nn) = true) (hd : ds.all (driveOk nn) = true) {f : List Int} (hf : Fix (fdG gs) gs.length f) :
    ∀ (r i : Nat), i < gs.length → f.getD i 0 ≤ r → ∀ t, r ≤ t → ansF (gs.getD i zGate) (seqF (nextF nn gs ds) s0 (t + 1)) = ansF (gs.getD i zGate) (seqF (nextF nn gs ds) s0 t)
  | 0, i, hi, h, _, _ => by
    have := one_le_need (fd := fdG gs) f i gs.length
    rw [← hf.2 i hi] at this
    omega
  | r + 1, i, hi, h, t, ht => by
    have hok := all_at hg hi
    by_cases h0 : (gs.getD i zGate).kind = 0
    · unfold ansF; rw [if_pos h0, if_pos h0]
    · unfold ansF
      rw [if_neg h0, if_neg h0]
      obtain ⟨u, rfl⟩ : ∃ u, t = u + 1 := ⟨t - 1, by omega⟩
      have : askedL (gs.getD i zGate).ins (seqF (nextF nn gs ds) s0 (u + 1 + 1)) = askedL (gs.getD i zGate).ins (seqF (nextF nn gs ds) s0 (u + 1)) := by
        unfold askedL
        refine List.map_congr_left ?_
        intro x hx
        obtain ⟨q, hq, rfl⟩ := List.getElem_of_mem hx
        have hin := gateOk_ins hok h0 hq
        rw [List.getD_eq_getElem?_getD, List.getElem?_eq_getElem hq] at hin
        simp only [Option.getD_some] at hin
        generalize hxx : (gs.getD i zGate).ins[q] = x at *
        show (nextF nn gs ds (seqF (nextF nn gs ds) s0 (u + 1))).getD x.toNat 0 = (nextF nn gs ds (seqF (nextF nn gs ds) s0 u)).getD x.toNat 0
        rw [acc_next hg hd _ (by omega), acc_next hg hd _ (by omega)]
        rw [accG_congr gs.length ?_]
        intro k hk ho
        rw [ans_map _ _ hk, ans_map _ _ hk]
        have hfk : fdG gs k i = true := by
          unfold fdG
          have : (gs.getD k zGate).out = x := by omega
          rw [this]
          rw [Bool.and_eq_true]
          exact ⟨by simpa using h0, by simpa using hx⟩
        have hn := need_ge (fd := fdG gs) f i hfk gs.length hk
        rw [← hf.2 i hi] at hn
        exact ans_still hg hd hf r k hk (by omega) u (by omega)
      rw [this]
theorem le_maxL (l : List Int) : ∀ {i : Nat}, i < l.length → l.getD i 0 ≤ maxL l := by
  have key : ∀ (l : List Int) (z : Int), z ≤ l.foldl max z ∧ ∀ i, i < l.length → l.getD i 0 ≤ l.foldl max z := by
    intro l
    induction l with
    | nil => intro z; exact ⟨Int.le_refl _, fun i h => by simp at h⟩
    | cons x l ih =>
      intro z
      obtain ⟨h1, h2⟩ := ih (max z x)
      refine ⟨by simp only [List.foldl_cons]; omega, fun i hi => ?_⟩
      cases i with
      | zero => simp only [List.foldl_cons, List.getD_cons_zero]; omega
      | succ i => simpa using h2 i (by simpa using hi)
  intro i hi
  exact (key l 0).2 i hi
theorem maxL_nonneg (l : List Int) : 0 ≤ maxL l := by
  have key : ∀ (l : List Int) (z : Int), z ≤ l.foldl max z := by
    intro l
    induction l with
    | nil => intro z; exact Int.le_refl _
    | cons x l ih =>
      intro z
      have := ih (max z x)
      simp only [List.foldl_cons]; omega
  exact key l 0
theorem maxL_le (l : List Int) (m : Int) (h0 : 0 ≤ m) (h : ∀ i, i < l.length → l.getD i 0 ≤ m) : maxL l ≤ m := by
  have key : ∀ (l : List Int) (z : Int), z ≤ m → (∀ i, i < l.length → l.getD i 0 ≤ m) → l.foldl max z ≤ m := by
    intro l
    induction l with
    | nil => intro z hz _; exact hz
    | cons x l ih =>
      intro z hz h
      have h1 := h 0 (by simp)
      simp only [List.getD_cons_zero] at h1
      exact ih (max z x) (by omega) (fun i hi => by have := h (i + 1) (by simpa using hi); simpa using this)
  exact key l 0 h0 h
/-- Within the depth and one round all stands still. -/
theorem rests {nn : Nat} {gs : List GateL} {ds : List DriveL} {s0 : List Int} (hg : gs.all (gateOk nn) = true) (hd : ds.all (driveOk nn) = true) (h60 : gs.length ≤ 60) (hp : 0 ≤ depthP (fdG gs) gs.length) :
    ∃ m : Nat, (m : Int) ≤ depthP (fdG gs) gs.length + 1 ∧ nextF nn gs ds (seqF (nextF nn gs ds) s0 m) = seqF (nextF nn gs ds) s0 m ∧ settleF (nextF nn gs ds) [s0] s0 101 = some (seqF (nextF nn gs ds) s0 m, m) := by
  have hex : ∃ f, Fix (fdG gs) gs.length f := by
    apply Classical.byContradiction
    intro h
    have := depthP_none (fd := fdG gs) (n := gs.length) (fun f hf => h ⟨f, hf⟩)
    omega
  obtain ⟨f, hf⟩ := hex
  have hdp := depthP_fix hf
  have h0 := maxL_nonneg f
  have hle : maxL f ≤ gs.length := maxL_le f _ (by omega) (fun i hi => fix_le hf (by rw [← hf.1]; exact hi))
  obtain ⟨D, hD⟩ := Int.eq_ofNat_of_zero_le h0
  have hall : ∀ k, k < gs.length → ∀ t, D ≤ t → ansF (gs.getD k zGate) (seqF (nextF nn gs ds) s0 (t + 1)) = ansF (gs.getD k zGate) (seqF (nextF nn gs ds) s0 t) := fun k hk t ht =>
    ans_still hg hd hf D k hk (by rw [← hD]; exact le_maxL f (by rw [hf.1]; exact hk)) t ht
  have hT : nextF nn gs ds (seqF (nextF nn gs ds) s0 (D + 1)) = seqF (nextF nn gs ds) s0 (D + 1) := by
    have hdr : driversF nn gs ds (seqF (nextF nn gs ds) s0 (D + 1)) = driversF nn gs ds (seqF (nextF nn gs ds) s0 D) := by
      unfold driversF
      rw [gatesTo_congr (fun k hk => hall k hk D (Nat.le_refl _))]
    show (driversF nn gs ds (seqF (nextF nn gs ds) s0 (D + 1))).map resF = (driversF nn gs ds (seqF (nextF nn gs ds) s0 D)).map resF
    rw [hdr]
  obtain ⟨m, hm, h1, h2⟩ := settle_rest (by omega) hT
  exact ⟨m, by omega, h1, h2⟩
end Go.Proofs.Ytobdhdehmkmjcaa
