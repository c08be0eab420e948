/- Plain law: rows of gates that grow one gate at a time. -/
namespace Go.Proofs.Ytobdhdehmkmjcaa
set_option linter.unusedVariables false
set_option linter.unusedSimpArgs false
namespace Rows0
section
variable (fd : Nat → Nat → Bool) (n : Nat)
def need (row : List Int) (i : Nat) : Nat → Int
  | 0 => 1
  | k + 1 => if fd k i then max (need row i k) (row.getD k 0 + 1) else need row i k
def stepG (row : List Int) : Nat → List Int
  | 0 => row
  | i + 1 => (stepG row i).set i (need fd (stepG row i) i n)
def chg (row : List Int) : Nat → Bool
  | 0 => false
  | i + 1 => chg row i || decide (need fd (stepG fd n row i) i n ≠ (stepG fd n row i).getD i 0)
def maxL (l : List Int) : Int := l.foldl max 0
def depthF : Nat → List Int → Int
  | 0, _ => -1
  | f + 1, row => if chg fd n row n then depthF f (stepG fd n row n) else maxL (stepG fd n row n)
def R : Nat → List Int
  | 0 => List.replicate n 0
  | t + 1 => stepG fd n (R t) n
end
variable {fd : Nat → Nat → Bool} {n : Nat}
theorem getD_set (l : List Int) (i j : Nat) (v : Int) : (l.set i v).getD j 0 = if i = j ∧ i < l.length then v else l.getD j 0 := by
  simp only [List.getD_eq_getElem?_getD, List.getElem?_set]
  by_cases h : i = j
  · subst h
    by_cases h2 : i < l.length
    · simp [h2]
    · simp [h2]
  · simp [h]
theorem one_le_need (row : List Int) (i : Nat) : ∀ m, 1 ≤ need fd row i m
  | 0 => Int.le_refl _
  | m + 1 => by
    unfold need
    have := one_le_need row i m
    split <;> omega
theorem need_ge (row : List Int) (i : Nat) {k : Nat} (hf : fd k i = true) : ∀ m, k < m → row.getD k 0 + 1 ≤ need fd row i m
  | 0, h => by omega
  | m + 1, h => by
    unfold need
    by_cases e : k = m
    · subst e; rw [if_pos hf]; omega
    · have := need_ge row i hf m (by omega)
      split <;> omega
theorem need_le (row : List Int) (i : Nat) (v : Int) (h1 : 1 ≤ v) : ∀ m, (∀ k, k < m → fd k i = true → row.getD k 0 + 1 ≤ v) → need fd row i m ≤ v
  | 0, _ => h1
  | m + 1, h => by
    unfold need
    have := need_le row i v h1 m (fun k hk => h k (by omega))
    by_cases e : fd m i = true
    · rw [if_pos e]; have := h m (by omega) e; omega
    · rw [if_neg e]; exact this
theorem need_at (row : List Int) (i : Nat) : ∀ m, need fd row i m = 1 ∨ ∃ k, k < m ∧ fd k i = true ∧ need fd row i m = row.getD k 0 + 1
  | 0 => .inl rfl
  | m + 1 => by
    unfold need
    by_cases e : fd m i = true
    · rw [if_pos e]
      by_cases h : need fd row i m ≤ row.getD m 0 + 1
      · right; exact ⟨m, by omega, e, by omega⟩
      · rcases need_at row i m with h1 | ⟨k, hk, hf, h1⟩
        · left; omega
        · right; exact ⟨k, by omega, hf, by omega⟩
    · rw [if_neg e]
      rcases need_at row i m with h1 | ⟨k, hk, hf, h1⟩
      · exact .inl h1
      · exact .inr ⟨k, by omega, hf, h1⟩
def Le (n : Nat) (a b : List Int) : Prop := ∀ i, i < n → a.getD i 0 ≤ b.getD i 0
theorem need_mono {a b : List Int} (h : Le n a b) (i : Nat) : need fd a i n ≤ need fd b i n :=
  need_le _ _ _ (one_le_need _ _ _) _ (fun k hk hf => by have := h k hk; have := need_ge b i hf n hk; omega)
def Inv (fd : Nat → Nat → Bool) (n : Nat) (s : List Int) : Prop := s.length = n ∧ ∀ i, i < n → s.getD i 0 ≤ need fd s i n
theorem set_le {s : List Int} {i : Nat} {v : Int} (hv : s.getD i 0 ≤ v) : Le n s (s.set i v) := fun j _ => by
  rw [getD_set]
  split
  · rename_i h; rw [← h.1]; exact hv
  · omega
theorem inv_set {s : List Int} (h : Inv fd n s) {i : Nat} (hi : i < n) : Inv fd n (s.set i (need fd s i n)) := by
  refine ⟨by simp [h.1], fun j hj => ?_⟩
  have hm := need_mono (fd := fd) (set_le (n := n) (h.2 i hi)) j
  rw [getD_set]
  split
  · rename_i e; rw [← e.1] at hm ⊢; exact hm
  · exact Int.le_trans (h.2 j hj) hm
theorem Le.trans {a b c : List Int} (h : Le n a b) (k : Le n b c) : Le n a c := fun i hi => Int.le_trans (h i hi) (k i hi)
theorem inv_step {s : List Int} (h : Inv fd n s) : ∀ i, i ≤ n → Inv fd n (stepG fd n s i) ∧ Le n s (stepG fd n s i)
  | 0, _ => ⟨h, fun _ _ => Int.le_refl _⟩
  | i + 1, hi => by
    obtain ⟨h1, h2⟩ := inv_step h i (by omega)
    exact ⟨inv_set h1 (by omega), h2.trans (set_le (h1.2 i (by omega)))⟩
theorem inv_zero : Inv fd n (List.replicate n 0) := ⟨by simp, fun i hi => by
  have h : (List.replicate n (0 : Int)).getD i 0 = 0 := by simp [List.getD_eq_getElem?_getD, hi]
  rw [h]
  have := one_le_need (fd := fd) (List.replicate n 0) i n
  omega⟩
theorem inv_R : ∀ t, Inv fd n (R fd n t)
  | 0 => inv_zero
  | t + 1 => (inv_step (inv_R t) n (Nat.le_refl _)).1
theorem getD_ge {s : List Int} {i : Nat} (h : s.length ≤ i) : s.getD i 0 = 0 := by simp [List.getD_eq_getElem?_getD, List.getElem?_eq_none h]
theorem ext0 {a b : List Int} (ha : a.length = n) (hb : b.length = n) (h : ∀ i, i < n → a.getD i 0 = b.getD i 0) : a = b := by
  apply List.ext_getElem (by omega)
  intro i h1 h2
  have := h i (by omega)
  simpa [List.getD_eq_getElem?_getD, List.getElem?_eq_getElem h1, List.getElem?_eq_getElem h2] using this
def Fix (fd : Nat → Nat → Bool) (n : Nat) (f : List Int) : Prop := f.length = n ∧ ∀ i, i < n → f.getD i 0 = need fd f i n
theorem set_getD {s : List Int} {i : Nat} : s.set i (s.getD i 0) = s := by
  apply List.ext_getElem?
  intro j
  rw [List.getElem?_set]
  by_cases e : i = j
  · subst e
    by_cases h : i < s.length
    · simp [h, List.getD_eq_getElem?_getD]
    · simp [h]
  · simp [e]
theorem chg_false {s : List Int} : ∀ i, chg fd n s i = false → stepG fd n s i = s ∧ ∀ j, j < i → need fd s j n = s.getD j 0
  | 0, _ => ⟨rfl, fun _ h => absurd h (Nat.not_lt_zero _)⟩
  | i + 1, h => by
    unfold chg at h
    rw [Bool.or_eq_false_iff, decide_eq_false_iff_not] at h
    obtain ⟨h1, h2⟩ := h
    obtain ⟨e1, e2⟩ := chg_false i h1
    rw [e1] at h2
    have h3 : need fd s i n = s.getD i 0 := Classical.not_not.1 h2
    refine ⟨?_, fun j hj => ?_⟩
    · show (stepG fd n s i).set i (need fd (stepG fd n s i) i n) = s
      rw [e1, h3, set_getD]
    · by_cases e : j = i
      · subst e; exact h3
      · exact e2 j (by omega)
theorem fix_of_chg {s : List Int} (hl : s.length = n) (h : chg fd n s n = false) : Fix fd n s := ⟨hl, fun i hi => ((chg_false n h).2 i hi).symm⟩
theorem fix_step {f : List Int} (h : Fix fd n f) : ∀ i, i ≤ n → stepG fd n f i = f ∧ chg fd n f i = false
  | 0, _ => ⟨rfl, rfl⟩
  | i + 1, hi => by
    obtain ⟨e1, e2⟩ := fix_step h i (by omega)
    have h3 := h.2 i (by omega)
    refine ⟨?_, ?_⟩
    · show (stepG fd n f i).set i (need fd (stepG fd n f i) i n) = f
      rw [e1, ← h3, set_getD]
    · show (chg fd n f i || decide (need fd (stepG fd n f i) i n ≠ (stepG fd n f i).getD i 0)) = false
      rw [e1, e2, ← h3]; simp
/-- All states lie below a fixed point. -/
theorem step_below {f s : List Int} (hf : Fix fd n f) (hs : s.length = n) (h : Le n s f) : ∀ i, i ≤ n → Le n (stepG fd n s i) f
  | 0, _ => h
  | i + 1, hi => by
    have h1 := step_below hf hs h i (by omega)
    intro j hj
    show ((stepG fd n s i).set i (need fd (stepG fd n s i) i n)).getD j 0 ≤ _
    rw [getD_set]
    split
    · rename_i e
      rw [← e.1, hf.2 i (by omega)]
      exact need_mono h1 i
    · exact h1 j hj
theorem zero_below {f : List Int} (hf : Fix fd n f) : Le n (List.replicate n 0) f := fun i hi => by
  rw [hf.2 i hi]
  have h : (List.replicate n (0 : Int)).getD i 0 = 0 := by simp [List.getD_eq_getElem?_getD, hi]
  rw [h]
  have := one_le_need (fd := fd) f i n
  omega
theorem R_below {f : List Int} (hf : Fix fd n f) : ∀ t, Le n (R fd n t) f
  | 0 => zero_below hf
  | t + 1 => step_below hf (inv_R t).1 (R_below hf t) n (Nat.le_refl _)
/-- A fixed point's values have no gaps. -/
def cnt (f : List Int) (v : Int) : Nat → Nat
  | 0 => 0
  | m + 1 => cnt f v m + if f.getD m 0 ≤ v then 1 else 0
theorem cnt_le (f : List Int) (v : Int) : ∀ m, cnt f v m ≤ m
  | 0 => Nat.le_refl _
  | m + 1 => by unfold cnt; have := cnt_le f v m; split <;> omega
theorem cnt_mono (f : List Int) (u v : Int) (h : u ≤ v) : ∀ m, cnt f u m ≤ cnt f v m
  | 0 => Nat.le_refl _
  | m + 1 => by unfold cnt; have := cnt_mono f u v h m; split <;> split <;> omega
theorem cnt_lt (f : List Int) (u v : Int) (h : u ≤ v) {i : Nat} (h1 : u < f.getD i 0) (h2 : f.getD i 0 ≤ v) : ∀ m, i < m → cnt f u m + 1 ≤ cnt f v m
  | 0, hi => by omega
  | m + 1, hi => by
    unfold cnt
    by_cases e : i = m
    · subst e
      have := cnt_mono f u v h i
      rw [if_neg (by omega), if_pos h2]; omega
    · have := cnt_lt f u v h h1 h2 m (by omega)
      split <;> split <;> omega
theorem fix_gap {f : List Int} (hf : Fix fd n f) : ∀ (v : Nat) (i : Nat), i < n → f.getD i 0 = v → v ≤ cnt f v n
  | 0, _, _, _ => Nat.zero_le _
  | v + 1, i, hi, he => by
    rcases need_at (fd := fd) f i n with h | ⟨k, hk, hfk, h⟩
    · have h0 : cnt f 0 n + 1 ≤ cnt f ((v + 1 : Nat) : Int) n := cnt_lt f 0 _ (by omega) (i := i) (by omega) (by omega) n hi
      have h1 := hf.2 i hi
      have : v = 0 := by omega
      omega
    · have h1 := hf.2 i hi
      have hkv : f.getD k 0 = (v : Int) := by omega
      have := fix_gap hf v k hk hkv
      have h0 : cnt f (v : Int) n + 1 ≤ cnt f ((v + 1 : Nat) : Int) n := cnt_lt f _ _ (by omega) (i := i) (by omega) (by omega) n hi
      omega
theorem fix_le {f : List Int} (hf : Fix fd n f) {i : Nat} (hi : i < n) : f.getD i 0 ≤ n := by
  have h1 := one_le_need (fd := fd) f i n
  rw [← hf.2 i hi] at h1
  have := fix_gap hf (f.getD i 0).toNat i hi (by omega)
  have h2 := cnt_le f ((f.getD i 0).toNat : Int) n
  omega
theorem R_ge {f : List Int} (hf : Fix fd n f) : ∀ (t : Nat) (i : Nat), i < n → min (t : Int) (f.getD i 0) ≤ (R fd n t).getD i 0
  | 0, i, hi => by
    have h : (R fd n 0).getD i 0 = 0 := by simp [R, List.getD_eq_getElem?_getD, hi]
    rw [h]; omega
  | t + 1, i, hi => by
    have ih := R_ge hf t
    have key : ∀ m, m ≤ n → ∀ j, j < n → (if j < m then min ((t : Int) + 1) (f.getD j 0) else min (t : Int) (f.getD j 0)) ≤ (stepG fd n (R fd n t) m).getD j 0 := by
      intro m
      induction m with
      | zero => intro _ j hj; rw [if_neg (Nat.not_lt_zero _)]; exact ih j hj
      | succ m im =>
        intro hm j hj
        have im := im (by omega)
        have hl : (stepG fd n (R fd n t) m).length = n := (inv_step (inv_R t) m (by omega)).1.1
        show _ ≤ ((stepG fd n (R fd n t) m).set m (need fd (stepG fd n (R fd n t) m) m n)).getD j 0
        rw [getD_set]
        by_cases e : m = j
        · subst e
          rw [if_pos (Nat.lt_succ_self m), if_pos (⟨rfl, by omega⟩ : m = m ∧ _), hf.2 m hj]
          rcases need_at (fd := fd) f m n with h | ⟨k, hk, hfk, h⟩
          · rw [h]
            have := one_le_need (fd := fd) (stepG fd n (R fd n t) m) m n
            omega
          · rw [h]
            have h1 := im k hk
            have h2 := need_ge (fd := fd) (stepG fd n (R fd n t) m) m hfk n hk
            split at h1 <;> omega
        · rw [if_neg (show ¬ (m = j ∧ m < (stepG fd n (R fd n t) m).length) from fun h => e h.1)]
          have h1 := im j hj
          by_cases hjm : j < m
          · rw [if_pos hjm] at h1; rw [if_pos (show j < m + 1 by omega)]; exact h1
          · rw [if_neg hjm] at h1; rw [if_neg (show ¬ j < m + 1 by omega)]; exact h1
    have := key n (Nat.le_refl _) i hi
    rw [if_pos hi] at this
    have e : ((t + 1 : Nat) : Int) = (t : Int) + 1 := by omega
    rw [e]
    exact this
theorem R_fix {f : List Int} (hf : Fix fd n f) : R fd n n = f :=
  ext0 (inv_R n).1 hf.1 (fun i hi => by
    have h1 := R_ge hf n i hi
    have h2 := fix_le hf hi
    have h3 := R_below hf n i hi
    omega)
theorem depth_run : ∀ (k t : Nat), (∀ s, t ≤ s → s < t + k → chg fd n (R fd n s) n = true) → ∀ f, k ≤ f → depthF fd n f (R fd n t) = depthF fd n (f - k) (R fd n (t + k))
  | 0, t, _, f, _ => rfl
  | k + 1, t, h, f, hf => by
    obtain ⟨f, rfl⟩ : ∃ g, f = g + 1 := ⟨f - 1, by omega⟩
    show (if chg fd n (R fd n t) n then depthF fd n f (R fd n (t + 1)) else _) = _
    rw [if_pos (h t (Nat.le_refl _) (by omega)), depth_run k (t + 1) (fun s h1 h2 => h s (by omega) (by omega)) f (by omega)]
    rw [show f + 1 - (k + 1) = f - k by omega, show t + 1 + k = t + (k + 1) by omega]
def depthP (fd : Nat → Nat → Bool) (n : Nat) : Int := depthF fd n (n + 1) (R fd n 0)
theorem first_false (p : Nat → Bool) : ∀ m, p m = false → ∃ k, k ≤ m ∧ p k = false ∧ ∀ s, s < k → p s = true := by
  intro m
  induction m using Nat.strongRecOn with
  | ind m ih =>
    intro h
    by_cases h2 : ∀ s, s < m → p s = true
    · exact ⟨m, Nat.le_refl _, h, h2⟩
    · have : ∃ s, s < m ∧ p s = false := by
        apply Classical.byContradiction
        intro hc
        exact h2 fun s hs => by
          rcases hp : p s with _ | _
          · exact absurd ⟨s, hs, hp⟩ hc
          · rfl
      obtain ⟨s, hs, hp⟩ := this
      obtain ⟨k, hk, h1, h2⟩ := ih s hs hp
      exact ⟨k, by omega, h1, h2⟩
theorem depthP_fix {f : List Int} (hf : Fix fd n f) : depthP fd n = maxL f := by
  have hn : chg fd n (R fd n n) n = false := by rw [R_fix hf]; exact (fix_step hf n (Nat.le_refl _)).2
  obtain ⟨k, hk, h1, h2⟩ := first_false (fun t => chg fd n (R fd n t) n) n hn
  unfold depthP
  rw [depth_run k 0 (fun s _ hs => h2 s (by omega)) (n + 1) (by omega)]
  rw [show n + 1 - k = (n - k) + 1 by omega]
  show (if chg fd n (R fd n (0 + k)) n then _ else maxL (stepG fd n (R fd n (0 + k)) n)) = _
  rw [Nat.zero_add, h1]
  simp only [Bool.false_eq_true, if_false]
  have hfk := fix_of_chg (inv_R k).1 h1
  rw [(fix_step hfk n (Nat.le_refl _)).1]
  have : R fd n k = f := ext0 hfk.1 hf.1 (fun i hi => by
    have h1 := R_below hf k i hi
    have h2 := R_below hfk n i hi
    rw [R_fix hf] at h2
    omega)
  rw [this]
theorem depthF_neg (h : ∀ f, ¬ Fix fd n f) : ∀ (f t : Nat), depthF fd n f (R fd n t) = -1
  | 0, _ => rfl
  | f + 1, t => by
    show (if chg fd n (R fd n t) n then depthF fd n f (R fd n (t + 1)) else _) = _
    rcases hc : chg fd n (R fd n t) n with _ | _
    · exact absurd (fix_of_chg (inv_R t).1 hc) (h _)
    · rw [if_pos rfl, depthF_neg h f (t + 1)]
theorem depthP_none (h : ∀ f, ¬ Fix fd n f) : depthP fd n = -1 := depthF_neg h _ 0
theorem no_fix {t i : Nat} (hi : i < n) (h : (n : Int) < need fd (stepG fd n (R fd n t) i) i n) : ∀ f, ¬ Fix fd n f := fun f hf => by
  have h1 := step_below hf (inv_R t).1 (R_below hf t) i (by omega)
  have h2 := need_mono (fd := fd) h1 i
  rw [← hf.2 i hi] at h2
  have := fix_le hf hi
  omega
/-- What a row that has grown adds up to. -/
theorem sum_set (l : List Int) (i : Nat) (v : Int) (h : i < l.length) : (l.set i v).sum = l.sum - l.getD i 0 + v := by
  induction l generalizing i with
  | nil => simp at h
  | cons x l ih =>
    cases i with
    | zero => simp; omega
    | succ i =>
      have := ih i (by simpa using h)
      simp only [List.set_cons_succ, List.sum_cons, List.getD_cons_succ, this]
      omega
theorem sum_le (l : List Int) (m : Int) (h : ∀ i, i < l.length → l.getD i 0 ≤ m) : l.sum ≤ l.length * m := by
  induction l with
  | nil => simp
  | cons x l ih =>
    have h1 := h 0 (by simp)
    have h2 := ih (fun i hi => by have := h (i + 1) (by simpa using hi); simpa using this)
    simp only [List.getD_cons_zero] at h1
    simp only [List.sum_cons, List.length_cons]
    have e : ((l.length + 1 : Nat) : Int) * m = (l.length : Int) * m + m := by
      rw [Int.natCast_add, Int.add_mul]; simp
    rw [e]
    omega
theorem sum_step {s : List Int} (h : Inv fd n s) : ∀ i, i ≤ n → s.sum + (if chg fd n s i then 1 else 0) ≤ (stepG fd n s i).sum
  | 0, _ => by simp [chg, stepG]
  | i + 1, hi => by
    have ih := sum_step h i (by omega)
    have h1 := (inv_step h i (by omega)).1
    have h2 := h1.2 i (by omega)
    show _ ≤ ((stepG fd n s i).set i (need fd (stepG fd n s i) i n)).sum
    rw [sum_set _ _ _ (by rw [h1.1]; omega)]
    show s.sum + (if (chg fd n s i || decide (need fd (stepG fd n s i) i n ≠ (stepG fd n s i).getD i 0)) = true then 1 else 0) ≤ _
    by_cases e : need fd (stepG fd n s i) i n = (stepG fd n s i).getD i 0
    · rw [e]
      simp only [ne_eq, not_true_eq_false, decide_false, Bool.or_false]
      omega
    · split at ih <;> simp_all <;> omega
theorem need_bound {row : List Int} {B : Int} (h0 : 0 ≤ B) (h : ∀ j, 0 ≤ row.getD j 0 ∧ row.getD j 0 ≤ B) (i m : Nat) : need fd row i m ≤ B + 1 :=
  need_le _ _ _ (by omega) _ (fun k _ _ => by have := h k; omega)
theorem step_bound {s : List Int} {B : Int} (h0 : 0 ≤ B) (h : ∀ j, 0 ≤ s.getD j 0 ∧ s.getD j 0 ≤ B) : ∀ i : Nat, ∀ j, 0 ≤ (stepG fd n s i).getD j 0 ∧ (stepG fd n s i).getD j 0 ≤ B + i
  | 0 => fun j => by have := h j; show 0 ≤ s.getD j 0 ∧ s.getD j 0 ≤ B + (0 : Nat); omega
  | i + 1 => fun j => by
    have ih := step_bound h0 h i
    show 0 ≤ ((stepG fd n s i).set i (need fd (stepG fd n s i) i n)).getD j 0 ∧ ((stepG fd n s i).set i (need fd (stepG fd n s i) i n)).getD j 0 ≤ B + ((i + 1 : Nat) : Int)
    rw [getD_set]
    have h1 := one_le_need (fd := fd) (stepG fd n s i) i n
    have h2 := need_bound (fd := fd) (show 0 ≤ B + (i : Int) by omega) ih i n
    have h3 := ih j
    split <;> omega
theorem R_bound : ∀ t j : Nat, 0 ≤ (R fd n t).getD j 0 ∧ (R fd n t).getD j 0 ≤ ((t * n : Nat) : Int)
  | 0, j => by
    have h : (R fd n 0).getD j 0 = 0 := by
      show (List.replicate n (0 : Int)).getD j 0 = 0
      rw [List.getD_eq_getElem?_getD, List.getElem?_replicate]
      split <;> rfl
    rw [h]; omega
  | t + 1, j => by
    have h := step_bound (fd := fd) (n := n) (show (0 : Int) ≤ ((t * n : Nat) : Int) by omega) (R_bound t) n j
    have e : (t + 1) * n = t * n + n := by rw [Nat.add_mul]; omega
    rw [e]
    show 0 ≤ (stepG fd n (R fd n t) n).getD j 0 ∧ (stepG fd n (R fd n t) n).getD j 0 ≤ _
    omega
theorem state_bound {t m : Nat} (ht : t ≤ 61) (hn : n ≤ 60) (hm : m ≤ n) (j : Nat) : 0 ≤ (stepG fd n (R fd n t) m).getD j 0 ∧ (stepG fd n (R fd n t) m).getD j 0 ≤ 3720 := by
  have h := step_bound (fd := fd) (n := n) (show (0 : Int) ≤ ((t * n : Nat) : Int) by omega) (R_bound (fd := fd) t) m j
  have : t * n ≤ 61 * 60 := Nat.mul_le_mul ht hn
  omega
end Rows0
end Go.Proofs.Ytobdhdehmkmjcaa
