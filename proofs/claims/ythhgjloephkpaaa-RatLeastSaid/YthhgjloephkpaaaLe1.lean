/- Words and walks for the row RowRatLeast, put together: R0, R1. -/
namespace Go.Proofs.Ythhgjloephkpaaa
set_option linter.unusedVariables false
set_option linter.unusedSimpArgs false

def BW : Nat := 4294967296
theorem BW_pos : 0 < BW := by decide
theorem BW_eq : BW = 4294967296 := rfl
def val : List Nat → Nat
  | [] => 0
  | x :: xs => x + BW * val xs
def Dig (xs : List Nat) : Prop := ∀ x ∈ xs, x < BW
def Norm (xs : List Nat) : Prop := Dig xs ∧ ∀ x, xs.getLast? = some x → x ≠ 0
theorem val_nil : val [] = 0 := rfl
theorem val_cons (x : Nat) (xs : List Nat) : val (x :: xs) = x + BW * val xs := rfl
theorem val_append : ∀ (xs ys : List Nat), val (xs ++ ys) = val xs + BW ^ xs.length * val ys
  | [], ys => by simp [val]
  | x :: xs, ys => by
    rw [List.cons_append, val_cons, val_append xs ys, val_cons, List.length_cons, Nat.pow_succ, Nat.mul_add]
    rw [show BW ^ xs.length * BW * val ys = BW * (BW ^ xs.length * val ys) by rw [Nat.mul_comm (BW ^ xs.length) BW, Nat.mul_assoc]]
    omega
theorem val_snoc (xs : List Nat) (x : Nat) : val (xs ++ [x]) = val xs + BW ^ xs.length * x := by rw [val_append]; simp [val]
theorem Dig.nil : Dig [] := fun x h => by cases h
theorem Dig.cons {x : Nat} {xs : List Nat} (h : x < BW) (k : Dig xs) : Dig (x :: xs) := fun y hy => by
  rcases List.mem_cons.1 hy with e | e
  · rw [e]; exact h
  · exact k y e
theorem Dig.append {xs ys : List Nat} (h : Dig xs) (k : Dig ys) : Dig (xs ++ ys) := fun y hy => by
  rcases List.mem_append.1 hy with e | e
  · exact h y e
  · exact k y e
theorem Dig.snoc {xs : List Nat} {x : Nat} (h : Dig xs) (k : x < BW) : Dig (xs ++ [x]) := h.append (Dig.cons k Dig.nil)
theorem Dig.take {xs : List Nat} (h : Dig xs) (n : Nat) : Dig (xs.take n) := fun y hy => h y (List.mem_of_mem_take hy)
theorem Dig.drop {xs : List Nat} (h : Dig xs) (n : Nat) : Dig (xs.drop n) := fun y hy => h y (List.mem_of_mem_drop hy)
theorem Dig.at_ {xs : List Nat} (h : Dig xs) (i : Nat) : xs.getD i 0 < BW := by
  rw [List.getD_eq_getElem?_getD]
  by_cases hi : i < xs.length
  · rw [List.getElem?_eq_getElem hi]; exact h _ (List.getElem_mem _)
  · rw [List.getElem?_eq_none (by omega)]; exact BW_pos
theorem Dig.set {xs : List Nat} (h : Dig xs) (i : Nat) {x : Nat} (hx : x < BW) : Dig (xs.set i x) := fun y hy => by
  rcases List.mem_or_eq_of_mem_set hy with e | e
  · exact h y e
  · rw [e]; exact hx
theorem val_lt : ∀ {xs : List Nat}, Dig xs → val xs < BW ^ xs.length
  | [], _ => by simp [val]
  | x :: xs, h => by
    have h1 := val_lt (xs := xs) (fun y hy => h y (List.mem_cons_of_mem _ hy))
    have h2 := h x List.mem_cons_self
    rw [val_cons, List.length_cons, Nat.pow_succ, Nat.mul_comm _ BW]
    have h3 : BW * (val xs + 1) ≤ BW * BW ^ xs.length := Nat.mul_le_mul_left _ h1
    rw [Nat.mul_add] at h3
    omega
/-- The words of a number. -/
def dg (n : Nat) : List Nat := if h : n = 0 then [] else (n % BW) :: dg (n / BW)
termination_by n
decreasing_by exact Nat.div_lt_self (by omega) (by decide)
theorem dg_zero : dg 0 = [] := by rw [dg]; rfl
theorem dg_pos {n : Nat} (h : n ≠ 0) : dg n = (n % BW) :: dg (n / BW) := by rw [dg, dif_neg h]
theorem val_dg (n : Nat) : val (dg n) = n := by
  induction n using Nat.strongRecOn with
  | _ n ih =>
    by_cases h : n = 0
    · subst h; rw [dg_zero]; rfl
    · rw [dg_pos h, val_cons, ih (n / BW) (Nat.div_lt_self (by omega) (by decide))]
      exact Nat.mod_add_div n BW
theorem dg_dig (n : Nat) : Dig (dg n) := by
  induction n using Nat.strongRecOn with
  | _ n ih =>
    by_cases h : n = 0
    · subst h; rw [dg_zero]; exact Dig.nil
    · rw [dg_pos h]
      exact Dig.cons (Nat.mod_lt _ BW_pos) (ih (n / BW) (Nat.div_lt_self (by omega) (by decide)))
theorem dg_last (n : Nat) : ∀ x, (dg n).getLast? = some x → x ≠ 0 := by
  induction n using Nat.strongRecOn with
  | _ n ih =>
    intro x hx
    by_cases h : n = 0
    · subst h; rw [dg_zero] at hx; cases hx
    · rw [dg_pos h] at hx
      by_cases h2 : n / BW = 0
      · rw [h2, dg_zero] at hx
        have e : x = n % BW := by simpa using hx.symm
        have h3 : n < BW := by
          have := Nat.div_add_mod n BW
          rw [h2] at this
          have h4 := Nat.mod_lt n BW_pos
          omega
        rw [e, Nat.mod_eq_of_lt h3]
        exact h
      · rw [dg_pos h2, List.getLast?_cons_cons, ← dg_pos h2] at hx
        exact ih (n / BW) (Nat.div_lt_self (by omega) (by decide)) x hx
theorem Norm.val_pos {x : Nat} {xs : List Nat} (h : Norm (x :: xs)) : val (x :: xs) ≠ 0 := by
  induction xs generalizing x with
  | nil =>
    have := h.2 x rfl
    rw [val_cons, val_nil]
    omega
  | cons y ys ih =>
    have h2 : Norm (y :: ys) := ⟨fun z hz => h.1 z (List.mem_cons_of_mem _ hz), fun z hz => h.2 z (by rw [List.getLast?_cons_cons]; exact hz)⟩
    have := ih h2
    rw [val_cons]
    intro e
    have h3 : BW * val (y :: ys) = 0 := by omega
    rcases Nat.mul_eq_zero.1 h3 with h4 | h4
    · exact absurd h4 (by decide)
    · exact this h4
theorem Norm.tail {x : Nat} {xs : List Nat} (h : Norm (x :: xs)) : Norm xs := by
  refine ⟨fun z hz => h.1 z (List.mem_cons_of_mem _ hz), fun z hz => ?_⟩
  cases xs with
  | nil => cases hz
  | cons y ys => exact h.2 z (by rw [List.getLast?_cons_cons]; exact hz)
/-- Words without noughts at the end are the words of their number. -/
theorem Norm.eq_dg : ∀ {xs : List Nat}, Norm xs → xs = dg (val xs)
  | [], _ => by rw [val_nil, dg_zero]
  | x :: xs, h => by
    have h1 := h.val_pos
    have h2 := h.1 x List.mem_cons_self
    rw [dg_pos h1]
    have e1 : val (x :: xs) % BW = x := by rw [val_cons, Nat.add_mul_mod_self_left, Nat.mod_eq_of_lt h2]
    have e2 : val (x :: xs) / BW = val xs := by rw [val_cons, Nat.add_mul_div_left _ _ BW_pos, Nat.div_eq_of_lt h2, Nat.zero_add]
    rw [e1, e2, ← Norm.eq_dg h.tail]
theorem dg_len_le {n k : Nat} (h : n < BW ^ k) : (dg n).length ≤ k := by
  induction k generalizing n with
  | zero =>
    have : n = 0 := by simpa using h
    subst this; rw [dg_zero]; simp
  | succ k ih =>
    by_cases h0 : n = 0
    · subst h0; rw [dg_zero]; simp
    · rw [dg_pos h0, List.length_cons]
      have : n / BW < BW ^ k := by
        rw [Nat.div_lt_iff_lt_mul BW_pos, ← Nat.pow_succ]; exact h
      have := ih this
      omega
theorem dg_lt (n : Nat) : n < BW ^ (dg n).length := by
  have := val_lt (dg_dig n)
  rwa [val_dg] at this
theorem dg_len_mono {m n : Nat} (h : m ≤ n) : (dg m).length ≤ (dg n).length := dg_len_le (Nat.lt_of_le_of_lt h (dg_lt n))
theorem dg_ne_nil {n : Nat} : dg n = [] ↔ n = 0 := by
  constructor
  · intro h
    have := val_dg n
    rw [h] at this
    exact this.symm
  · rintro rfl; exact dg_zero
theorem take_succ_getD {xs : List Nat} {k : Nat} (h : k < xs.length) : xs.take (k + 1) = xs.take k ++ [xs.getD k 0] := by
  rw [List.take_succ_eq_append_getElem h, List.getD_eq_getElem?_getD, List.getElem?_eq_getElem h]; rfl
theorem val_take_succ {xs : List Nat} {k : Nat} (h : k < xs.length) : val (xs.take (k + 1)) = val (xs.take k) + BW ^ k * xs.getD k 0 := by
  rw [take_succ_getD h, val_snoc, List.length_take, Nat.min_eq_left (Nat.le_of_lt h)]
theorem val_take_le {xs : List Nat} {k : Nat} (h : xs.length ≤ k) : val (xs.take k) = val xs := by rw [List.take_of_length_le h]
theorem getD_ge {xs : List Nat} {k : Nat} (h : xs.length ≤ k) : xs.getD k 0 = 0 := by
  rw [List.getD_eq_getElem?_getD, List.getElem?_eq_none h]; rfl
/-- One word more, also behind the end. -/
theorem val_take_step (xs : List Nat) (k : Nat) : val (xs.take (k + 1)) = val (xs.take k) + BW ^ k * xs.getD k 0 := by
  by_cases h : k < xs.length
  · exact val_take_succ h
  · rw [val_take_le (by omega), val_take_le (by omega), getD_ge (by omega)]; simp
end Go.Proofs.Ythhgjloephkpaaa
namespace Go.Proofs.Ythhgjloephkpaaa
set_option linter.unusedVariables false
set_option linter.unusedSimpArgs false

/-- x has one word more than y; the highest words stand out. -/
structure Guess (x y head v1 v2 u0 P : Nat) : Prop where
  hp : 0 < P
  hx : (head * BW + u0) * P ≤ x
  hx2 : x < (head * BW + u0 + 1) * P
  hy : (v1 * BW + v2) * P ≤ y
  hy2 : y < (v1 * BW + v2 + 1) * P
  hv1 : 0 < v1
  hv2 : v2 < BW
  hu0 : u0 < BW
  lt : x < BW * y
section
variable {x y head v1 v2 u0 P : Nat}
theorem Guess.ypos (h : Guess x y head v1 v2 u0 P) : 0 < y := by
  have h1 := h.hy
  have h2 : 0 < (v1 * BW + v2) * P := Nat.mul_pos (by have := Nat.mul_pos h.hv1 BW_pos; omega) h.hp
  omega
theorem Guess.q_lt (h : Guess x y head v1 v2 u0 P) : x / y < BW := by
  rw [Nat.div_lt_iff_lt_mul h.ypos]
  exact h.lt
theorem Guess.q_mul (h : Guess x y head v1 v2 u0 P) : x / y * y ≤ x := Nat.div_mul_le_self x y
theorem Guess.three (h : Guess x y head v1 v2 u0 P) {q : Nat} (hq : q * y ≤ x) : q * (v1 * BW + v2) ≤ head * BW + u0 := by
  have h1 : q * ((v1 * BW + v2) * P) ≤ q * y := Nat.mul_le_mul_left _ h.hy
  have h2 : (q * (v1 * BW + v2)) * P < (head * BW + u0 + 1) * P := by
    rw [Nat.mul_assoc]
    exact Nat.lt_of_le_of_lt (Nat.le_trans h1 hq) h.hx2
  have := Nat.lt_of_mul_lt_mul_right h2
  omega
theorem Guess.le_head (h : Guess x y head v1 v2 u0 P) {q : Nat} (hq : q * y ≤ x) : q * v1 ≤ head := by
  have h1 := h.three hq
  rw [Nat.mul_add, ← Nat.mul_assoc] at h1
  have h2 := h.hu0
  have h3 : q * v1 * BW < (head + 1) * BW := by rw [Nat.add_mul]; omega
  have := Nat.lt_of_mul_lt_mul_right h3
  omega
/-- The first guess is not below the word. -/
theorem Guess.first (h : Guess x y head v1 v2 u0 P) : x / y ≤ head / v1 ∧ x / y ≤ BW - 1 := by
  refine ⟨?_, by have := h.q_lt; omega⟩
  rw [Nat.le_div_iff_mul_le h.hv1]
  exact h.le_head h.q_mul
/-- Where the test says so, the guess is above the word. -/
theorem Guess.down (h : Guess x y head v1 v2 u0 P) {q r : Nat} (hr : q * v1 + r = head) (hq : x / y ≤ q) (ht : r * BW + u0 < q * v2) : x / y ≤ q - 1 ∧ 0 < q := by
  have hne : x / y ≠ q := fun e => by
    have h1 := h.three h.q_mul
    rw [e, Nat.mul_add, ← Nat.mul_assoc] at h1
    have h2 : head * BW = q * v1 * BW + r * BW := by rw [← hr, Nat.add_mul]
    omega
  have h3 : x / y < q := Nat.lt_of_le_of_ne hq hne
  exact ⟨Nat.le_sub_one_of_lt h3, Nat.lt_of_le_of_lt (Nat.zero_le _) h3⟩
/-- Where it does not, the guess is at most one above it. -/
theorem Guess.near (h : Guess x y head v1 v2 u0 P) {q r : Nat} (hr : q * v1 + r = head) (hq : q < BW) (ht : q * v2 ≤ r * BW + u0) : q ≤ x / y + 1 := by
  have h1 : q * (v1 * BW + v2) ≤ head * BW + u0 := by
    rw [Nat.mul_add, ← Nat.mul_assoc, ← hr, Nat.add_mul]
    omega
  have h2 : q * (v1 * BW + v2) * P ≤ x := Nat.le_trans (Nat.mul_le_mul_right _ h1) h.hx
  have h3 : q * y ≤ q * ((v1 * BW + v2 + 1) * P) := Nat.mul_le_mul_left _ (Nat.le_of_lt h.hy2)
  have h4 : q * ((v1 * BW + v2 + 1) * P) = q * (v1 * BW + v2) * P + q * P := by
    rw [Nat.add_mul (v1 * BW + v2) 1 P, Nat.mul_add, Nat.one_mul, Nat.mul_assoc]
  have h5 : q * P < BW * P := Nat.mul_lt_mul_of_pos_right hq h.hp
  have h6 : BW * P ≤ y := by
    refine Nat.le_trans (Nat.mul_le_mul_right P ?_) h.hy
    have : 1 * BW ≤ v1 * BW := Nat.mul_le_mul_right _ h.hv1
    omega
  have h7 : q * y < x + y := by omega
  have h8 : (q - 1) * y ≤ x := by
    by_cases h0 : q = 0
    · subst h0; simp
    · have : q * y = (q - 1) * y + y := by
        have e : q = q - 1 + 1 := by omega
        rw [e, Nat.add_mul, Nat.one_mul, Nat.add_sub_cancel]
      omega
  have h9 : q - 1 ≤ x / y := (Nat.le_div_iff_mul_le h.ypos).2 h8
  omega
theorem near_big {q r v2 u0 : Nat} (hq : q < BW) (hv : v2 < BW) (hr : BW ≤ r) : q * v2 ≤ r * BW + u0 := by
  have h1 : q * v2 ≤ BW * BW := Nat.mul_le_mul (Nat.le_of_lt hq) (Nat.le_of_lt hv)
  have h2 : BW * BW ≤ r * BW := Nat.mul_le_mul_right _ hr
  omega
/-- The guess is the word, or one above it. -/
theorem Guess.or (h : Guess x y head v1 v2 u0 P) {q : Nat} (h1 : x / y ≤ q) (h2 : q ≤ x / y + 1) : (q * y ≤ x ∧ x - q * y < y ∧ q = x / y) ∨ (x < q * y ∧ 0 < q ∧ (q - 1) * y ≤ x ∧ x - (q - 1) * y < y ∧ q - 1 = x / y) := by
  have hm := Nat.div_add_mod x y
  have hl := Nat.mod_lt x h.ypos
  have hqm := h.q_mul
  rw [Nat.mul_comm] at hm
  generalize x / y = z at *
  generalize x % y = m at *
  by_cases e : q = z
  · left
    subst e
    exact ⟨hqm, by omega, rfl⟩
  · right
    have e1 : q = z + 1 := by omega
    have e2 : q * y = z * y + y := by rw [e1, Nat.add_mul, Nat.one_mul]
    have e3 : q - 1 = z := by omega
    rw [e3]
    exact ⟨by omega, by omega, hqm, by omega, rfl⟩
end
end Go.Proofs.Ythhgjloephkpaaa
