/- A slice of slices of ints that the call has made, grown row by row. -/
import Derived.Test.YtobdhdehmkmjcaaX1
import Derived.Deep.AppendLies
namespace Go.Proofs.Ytobdhdehmkmjcaa
set_option linter.unusedVariables false
set_option linter.unusedSimpArgs false
open Go.RowKit Go.Proofs.YtobdhdehmkmjcaaW.PrintWords Go.Proofs.YtobdhdehmkmjcaaW.PrintLast

def uV : Value := .slice none 0 0
/-- Block D holds slices that own the lists L, no two in one block, all from block b on. -/
def Rows (W : World) (D b : Nat) (L : List (List Int)) : Prop :=
  ∃ vs : List Value, vs.length = L.length ∧ D < b ∧ W.heap[D]? = some (.cells vs.toArray 22 (0, 0)) ∧
    (∀ i, i < L.length → W.ownsRow b 3 1 (vs.getD i uV) (L.getD i []).length (nums .i64 (L.getD i []))) ∧
    (∀ i j, i < L.length → j < L.length → i ≠ j → (vs.getD i uV).ownBlock = none ∨ (vs.getD i uV).ownBlock ≠ (vs.getD j uV).ownBlock)

theorem Rows.below {W W1 : World} {D b : Nat} {L : List (List Int)} (h : Rows W D b L) (hb : Below W.heap.size W W1) : Rows W1 D b L := by
  obtain ⟨vs, h1, h2, h3, h4, h5⟩ := h
  exact ⟨vs, h1, h2, blk_below h3 hb, fun i hi => pw_own_below (h4 i hi) hb, h5⟩

theorem rows_made (W : World) (n : Nat) : Rows (W.alloc (.cells (madeCells #[uV] n) 22)) W.heap.size (W.heap.size + 1) (List.replicate n []) := by
  refine ⟨List.replicate n uV, by simp, Nat.lt_succ_self _, ?_, ?_, ?_⟩
  · rw [blk_new]
    congr 2
    apply Array.ext_getElem?
    intro i
    by_cases hi : i < n
    · simp [madeCells, hi, Nat.mod_one]
    · simp [madeCells, hi]
  · intro i hi
    have hi' : i < n := by simpa using hi
    have e1 : (List.replicate n uV).getD i uV = uV := by simp [List.getD_eq_getElem?_getD, hi']
    have e2 : (List.replicate n ([] : List Int)).getD i [] = [] := by simp [List.getD_eq_getElem?_getD, hi']
    rw [e1, e2]
    exact own_nil _ _ _ _
  · intro i j hi _ _
    left
    have hi' : i < n := by simpa using hi
    have e1 : (List.replicate n uV).getD i uV = uV := by simp [List.getD_eq_getElem?_getD, hi']
    rw [e1]
    rfl

theorem getD_set_eq {α : Type} {l : List α} {i : Nat} {x d : α} (h : i < l.length) : (l.set i x).getD i d = x := by
  simp [List.getD_eq_getElem?_getD, h]
theorem getD_set_ne {α : Type} {l : List α} {i j : Nat} {x d : α} (h : i ≠ j) : (l.set i x).getD j d = l.getD j d := by
  simp [List.getD_eq_getElem?_getD, h]

/-- One row is looked at; and how it goes back when it has grown. -/
theorem Rows.at_ {W : World} {D b : Nat} {L : List (List Int)} (h : Rows W D b L) (i : Nat) (hi : i < L.length) :
    ∃ v, W.cell? ⟨D, i, none⟩ = some v ∧ W.ownsRow b 3 1 v (L.getD i []).length (nums .i64 (L.getD i [])) ∧ W.frozen? ⟨D, i, none⟩ = false ∧ D < b ∧ D < W.heap.size ∧
      ∀ Wb w1 v1 x, Below W.heap.size W Wb → Wb.grownBy w1 v.ownBlock → w1.ownsRow b 3 1 v1 (L.getD i [] ++ [x]).length (nums .i64 (L.getD i [] ++ [x])) → (v.ownBlock = v1.ownBlock ∨ ∃ k, v1.ownBlock = some k ∧ W.heap.size ≤ k) →
        Rows (w1.setCell ⟨D, i, none⟩ v1) D b (L.set i (L.getD i [] ++ [x])) := by
  obtain ⟨vs, h1, h2, h3, h4, h5⟩ := h
  have hiv : i < vs.length := by omega
  have hcell : W.cell? ⟨D, i, none⟩ = some (vs.getD i uV) := by
    rw [blk_cell h3]
    simp [List.getD_eq_getElem?_getD, List.getElem?_eq_getElem hiv]
  refine ⟨vs.getD i uV, hcell, h4 i hi, blk_frozen h3 i, h2, blk_lt h3, ?_⟩
  intro Wb w1 v1 x hb hg hown hat
  have hD : ∀ j, j < L.length → some D ≠ (vs.getD j uV).ownBlock := fun j hj e => by
    have := own_base (h4 j hj) D e.symm
    omega
  have hD1 : some D ≠ v1.ownBlock := fun e => by
    have := own_base hown D e.symm
    omega
  have hw1 : w1.heap[D]? = some (.cells vs.toArray 22 (0, 0)) := blk_grown (blk_below h3 hb) hg (hD i hi)
  refine ⟨vs.set i v1, by simp [h1], h2, ?_, ?_, ?_⟩
  · rw [blk_set hw1]
    congr 2
    simp
  · intro j hj
    have hj' : j < L.length := by simpa using hj
    by_cases e : i = j
    · subst e
      rw [getD_set_eq hiv, getD_set_eq hi]
      exact own_setCell hown hD1 _
    · rw [getD_set_ne e, getD_set_ne e]
      exact own_setCell (own_other (pw_own_below (h4 j hj') hb) hg (h5 j i hj' hi (Ne.symm e))) (hD j hj') _
  · intro j k hj hk hne
    have hj' : j < L.length := by simpa using hj
    have hk' : k < L.length := by simpa using hk
    by_cases e : i = j
    · subst e
      rw [getD_set_eq hiv, getD_set_ne hne]
      rcases hat with hat | ⟨q, hq1, hq2⟩
      · rw [← hat]
        exact h5 i k hi hk' hne
      · right
        rw [hq1]
        intro e'
        have := own_lt (h4 k hk') q e'.symm
        omega
    · by_cases e2 : i = k
      · subst e2
        rw [getD_set_ne e, getD_set_eq hiv]
        rcases hat with hat | ⟨q, hq1, hq2⟩
        · rw [← hat]
          exact h5 j i hj' hi hne
        · rcases hv : (vs.getD j uV).ownBlock with _ | p
          · exact .inl rfl
          · right
            rw [hq1]
            intro e'
            injection e' with e'
            have := own_lt (h4 j hj') p hv
            omega
      · rw [getD_set_ne e, getD_set_ne e2]
        exact h5 j k hj' hk' hne
theorem Rows.reads {W : World} {D b : Nat} {L : List (List Int)} (h : Rows W D b L) (i : Nat) (hi : i < L.length) :
    ∃ A c, W.cell? ⟨D, i, none⟩ = some (.slice A (L.getD i []).length c) ∧ ReadsInt W .i64 A (L.getD i []).length (L.getD i []) := by
  obtain ⟨v, h1, h2, _⟩ := h.at_ i hi
  obtain ⟨A, c, rfl, h3⟩ := own_reads h2
  exact ⟨A, c, h1, h3⟩

/-! ### The next state of a circuit. -/
structure DriveL where
  net : Int
  v : Int
def addAt (L : List (List Int)) (i : Int) (x : Int) : List (List Int) := L.set i.toNat (L.getD i.toNat [] ++ [x])
def gatesTo (gs : List GateL) (now : List Int) (L : List (List Int)) : List (List Int) := gs.foldl (fun L g => addAt L g.out (ansF g now)) L
def drivesTo (ds : List DriveL) (L : List (List Int)) : List (List Int) := ds.foldl (fun L d => addAt L d.net d.v) L
def driversF (nets : Nat) (gs : List GateL) (ds : List DriveL) (now : List Int) : List (List Int) := drivesTo ds (gatesTo gs now (List.replicate nets []))
def nextF (nets : Nat) (gs : List GateL) (ds : List DriveL) (now : List Int) : List Int := (driversF nets gs ds now).map resF
theorem addAt_length (L : List (List Int)) (i x : Int) : (addAt L i x).length = L.length := by simp [addAt]
theorem gatesTo_length (gs : List GateL) (now : List Int) (L : List (List Int)) : (gatesTo gs now L).length = L.length := by
  unfold gatesTo
  induction gs generalizing L with
  | nil => rfl
  | cons g gs ih => rw [List.foldl_cons, ih, addAt_length]
theorem drivesTo_length (ds : List DriveL) (L : List (List Int)) : (drivesTo ds L).length = L.length := by
  unfold drivesTo
  induction ds generalizing L with
  | nil => rfl
  | cons g gs ih => rw [List.foldl_cons, ih, addAt_length]
def zDrive : DriveL := ⟨0, 0⟩
theorem gatesTo_succ {gs : List GateL} {now : List Int} {L : List (List Int)} {k : Nat} (hk : k < gs.length) : gatesTo (gs.take (k + 1)) now L = addAt (gatesTo (gs.take k) now L) (gs.getD k zGate).out (ansF (gs.getD k zGate) now) := by
  unfold gatesTo
  rw [List.take_succ_eq_append_getElem hk, List.foldl_append]
  simp [List.getD_eq_getElem?_getD, List.getElem?_eq_getElem hk]
theorem drivesTo_succ {ds : List DriveL} {L : List (List Int)} {k : Nat} (hk : k < ds.length) : drivesTo (ds.take (k + 1)) L = addAt (drivesTo (ds.take k) L) (ds.getD k zDrive).net (ds.getD k zDrive).v := by
  unfold drivesTo
  rw [List.take_succ_eq_append_getElem hk, List.foldl_append]
  simp [List.getD_eq_getElem?_getD, List.getElem?_eq_getElem hk]
end Go.Proofs.Ytobdhdehmkmjcaa
