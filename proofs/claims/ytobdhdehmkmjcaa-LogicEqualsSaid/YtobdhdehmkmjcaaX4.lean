/- What settling is, and that the values stay values. -/
import Derived.Test.YtobdhdehmkmjcaaX3
namespace Go.Proofs.Ytobdhdehmkmjcaa
set_option linter.unusedVariables false
set_option linter.unusedSimpArgs false
open Go.RowKit Go.Proofs.YtobdhdehmkmjcaaW.PrintWords Go.Proofs.YtobdhdehmkmjcaaW.PrintLast

theorem answer_any (g mb : Nat) (w : World) (nets : Int) (GA : Option Addr) (gn gc : Nat) (hp : Player w g mb nets GA gn gc) (G : GateL) (AI : Option Addr) (ci : Nat) (B : Option Addr) (m d : Nat) (now : List Int)
    (hok : gateOk nets G = true) (hm : (m : Int) = nets) (hr : ReadsInt w .i64 AI G.ins.length G.ins) (hn : ReadsInt w .i64 B m now) :
    Calls Try.prog 83 #[.pointer (some ⟨g, 0, none⟩), .agg #[.int .i64 G.kind, .slice AI G.ins.length ci, .int .i64 G.out, .int .i64 G.delay], .slice B m d] w fun e w' => e = .returned (.int .i64 (ansF G now)) ∧ Below w.heap.size w w' := by
  obtain ⟨kd, ins, out, dl⟩ := G
  have hl := gateOk_len hok
  by_cases h0 : kd = 0
  · subst h0
    have h1 : (ins.length : Int) = 1 := hl
    exact answer_const g w AI ci ins out dl B m d (by omega) hr
  · have e : ansF ⟨kd, ins, out, dl⟩ now = gateVal kd (askedL ins now) := if_neg h0
    rw [e]
    exact answer_gate g mb w nets GA gn gc hp AI ci kd ins out dl B m d now h0 hl (fun j hj => by have := gateOk_ins hok h0 hj; exact ⟨this.1, by rw [hm]; exact this.2⟩) hr hn

theorem to01_four (v : Int) : to01 v = 0 ∨ to01 v = 1 ∨ to01 v = 2 ∨ to01 v = 3 := by
  unfold to01
  repeat' split
  all_goals simp
theorem askedL_getD (ins now : List Int) (hv : now.all isVal = true) (k : Nat) (hk : k < ins.length) (hi : ∀ j, j < ins.length → 0 ≤ ins.getD j 0 ∧ ins.getD j 0 < (now.length : Int)) : isVal ((askedL ins now).getD k 0) = true := by
  have h := hi k hk
  have e : (askedL ins now).getD k 0 = now.getD (ins.getD k 0).toNat 0 := by
    unfold askedL
    simp [List.getD_eq_getElem?_getD, List.getElem?_eq_getElem hk]
  rw [e]
  exact all_getD hv (by omega)
theorem ansF_val {nets : Int} {G : GateL} {now : List Int} (hok : gateOk nets G = true) (hl : (now.length : Int) = nets) (hv : now.all isVal = true) : isVal (ansF G now) = true := by
  have hlen := gateOk_len hok
  unfold ansF
  by_cases h0 : G.kind = 0
  · rw [if_pos h0]
    rw [h0] at hlen
    have h1 : (G.ins.length : Int) = 1 := hlen
    unfold gateOk at hok
    simp only [Bool.and_eq_true] at hok
    have := all_getD hok.2 (k := 0) (by omega)
    rwa [if_pos h0] at this
  · rw [if_neg h0]
    have hin : ∀ j, j < G.ins.length → 0 ≤ G.ins.getD j 0 ∧ G.ins.getD j 0 < (now.length : Int) := fun j hj => by rw [hl]; exact gateOk_ins hok h0 hj
    have hb := fun h => askedL_getD G.ins now hv 0 h hin
    rcases inputs_kind h0 hlen with ⟨e, e2⟩ | ⟨e, e2⟩ | ⟨e, e2⟩ | ⟨e, e2⟩ | ⟨e, e2⟩ | ⟨e, e2⟩
    · rw [e]
      show isVal (notF (to01 ((askedL G.ins now).getD 0 0))) = true
      rcases to01_four ((askedL G.ins now).getD 0 0) with h | h | h | h <;> rw [h] <;> decide
    · rw [e]
      exact hb (by omega)
    · rw [e]
      show isVal (andF (to01 ((askedL G.ins now).getD 0 0)) (to01 ((askedL G.ins now).getD 1 0))) = true
      rcases to01_four ((askedL G.ins now).getD 0 0) with h | h | h | h <;> rcases to01_four ((askedL G.ins now).getD 1 0) with h' | h' | h' | h' <;> rw [h, h'] <;> decide
    · rw [e]
      show isVal (orF (to01 ((askedL G.ins now).getD 0 0)) (to01 ((askedL G.ins now).getD 1 0))) = true
      rcases to01_four ((askedL G.ins now).getD 0 0) with h | h | h | h <;> rcases to01_four ((askedL G.ins now).getD 1 0) with h' | h' | h' | h' <;> rw [h, h'] <;> decide
    · rw [e]
      show isVal (xorF (to01 ((askedL G.ins now).getD 0 0)) (to01 ((askedL G.ins now).getD 1 0))) = true
      rcases to01_four ((askedL G.ins now).getD 0 0) with h | h | h | h <;> rcases to01_four ((askedL G.ins now).getD 1 0) with h' | h' | h' | h' <;> rw [h, h'] <;> decide
    · rw [e]
      show isVal (triF (to01 ((askedL G.ins now).getD 0 0)) (to01 ((askedL G.ins now).getD 1 0))) = true
      rcases to01_four ((askedL G.ins now).getD 0 0) with h | h | h | h <;> rcases to01_four ((askedL G.ins now).getD 1 0) with h' | h' | h' | h' <;> rw [h, h'] <;> decide

def allOk (L : List (List Int)) : Prop := ∀ i, (L.getD i []).all isVal = true
theorem allOk_rep (n : Nat) : allOk (List.replicate n []) := by
  intro i
  rw [List.getD_eq_getElem?_getD, List.getElem?_replicate]
  split <;> rfl
theorem allOk_add {L : List (List Int)} (h : allOk L) (i x : Int) (hx : isVal x = true) : allOk (addAt L i x) := by
  intro j
  unfold addAt
  by_cases e : i.toNat = j
  · subst e
    by_cases hlt : i.toNat < L.length
    · rw [getD_set_eq hlt, List.all_append, h i.toNat]
      simp [hx]
    · rw [List.set_eq_of_length_le (by omega)]
      exact h _
  · rw [getD_set_ne e]
    exact h j
theorem allOk_gates {nets : Int} {gs : List GateL} {now : List Int} {L : List (List Int)} (hg : gs.all (gateOk nets) = true) (hl : (now.length : Int) = nets) (hv : now.all isVal = true) (h : allOk L) : allOk (gatesTo gs now L) := by
  unfold gatesTo
  induction gs generalizing L with
  | nil => exact h
  | cons g gs ih =>
    simp only [List.all_cons, Bool.and_eq_true] at hg
    exact ih hg.2 (allOk_add h _ _ (ansF_val hg.1 hl hv))
def driveOk (nets : Int) (d : DriveL) : Bool := decide (0 ≤ d.net) && decide (d.net < nets) && isVal d.v
theorem allOk_drives {nets : Int} {ds : List DriveL} {L : List (List Int)} (hd : ds.all (driveOk nets) = true) (h : allOk L) : allOk (drivesTo ds L) := by
  unfold drivesTo
  induction ds generalizing L with
  | nil => exact h
  | cons d ds ih =>
    simp only [List.all_cons, Bool.and_eq_true] at hd
    have := hd.1
    unfold driveOk at this
    simp only [Bool.and_eq_true] at this
    exact ih hd.2 (allOk_add h _ _ this.2)
theorem allOk_drivers {nets : Nat} {gs : List GateL} {ds : List DriveL} {now : List Int} (hg : gs.all (gateOk nets) = true) (hd : ds.all (driveOk nets) = true) (hl : now.length = nets) (hv : now.all isVal = true) : allOk (driversF nets gs ds now) :=
  allOk_drives hd (allOk_gates hg (by rw [hl]) hv (allOk_rep nets))
theorem driversF_length (nets : Nat) (gs : List GateL) (ds : List DriveL) (now : List Int) : (driversF nets gs ds now).length = nets := by
  unfold driversF
  rw [drivesTo_length, gatesTo_length, List.length_replicate]
theorem nextF_length (nets : Nat) (gs : List GateL) (ds : List DriveL) (now : List Int) : (nextF nets gs ds now).length = nets := by
  unfold nextF
  rw [List.length_map, driversF_length]
theorem nextF_val {nets : Nat} {gs : List GateL} {ds : List DriveL} {now : List Int} (hg : gs.all (gateOk nets) = true) (hd : ds.all (driveOk nets) = true) (hl : now.length = nets) (hv : now.all isVal = true) : (nextF nets gs ds now).all isVal = true := by
  rw [List.all_eq_true]
  intro x hx
  unfold nextF at hx
  rw [List.mem_map] at hx
  obtain ⟨l, hl1, rfl⟩ := hx
  obtain ⟨i, hi, rfl⟩ := List.getElem_of_mem hl1
  have := allOk_drivers hg hd hl hv i
  rw [List.getD_eq_getElem?_getD, List.getElem?_eq_getElem hi] at this
  exact resF_val this

/-- Rounds of a map until a list comes back; at most `f - 1` of them. -/
def settleF (F : List Int → List Int) (seen : List (List Int)) (now : List Int) : Nat → Option (List Int × Nat)
  | 0 => none
  | f + 1 => if sameB (F now) now then some (now, 100 - f) else if (f == 0 || memB seen (F now)) then none else settleF F (seen ++ [F now]) (F now) f
theorem settleF_done {F : List Int → List Int} {seen : List (List Int)} {now : List Int} {r : Nat} (hr : r ≤ 100) (h : sameB (F now) now = true) : settleF F seen now (101 - r) = some (now, r) := by
  rw [show 101 - r = (100 - r) + 1 by omega]
  unfold settleF
  rw [if_pos h, show 100 - (100 - r) = r by omega]
theorem settleF_stop {F : List Int → List Int} {seen : List (List Int)} {now : List Int} {r : Nat} (hr : r ≤ 100) (h : sameB (F now) now = false) (hs : (r = 100) ∨ memB seen (F now) = true) : settleF F seen now (101 - r) = none := by
  rw [show 101 - r = (100 - r) + 1 by omega]
  unfold settleF
  rw [if_neg (by rw [h]; exact Bool.false_ne_true), if_pos]
  rcases hs with rfl | hs
  · rfl
  · rw [hs, Bool.or_true]
theorem settleF_go {F : List Int → List Int} {seen : List (List Int)} {now : List Int} {r : Nat} (hr : r < 100) (h : sameB (F now) now = false) (hs : memB seen (F now) = false) : settleF F seen now (101 - r) = settleF F (seen ++ [F now]) (F now) (101 - (r + 1)) := by
  rw [show 101 - r = (100 - r) + 1 by omega]
  conv => lhs; unfold settleF
  rw [if_neg (by rw [h]; exact Bool.false_ne_true), if_neg, show 101 - (r + 1) = 100 - r by omega]
  rw [hs, Bool.or_false]
  simp
  omega

def RdDrive (w : World) (ad : Addr) (d : DriveL) : Prop := w.cell? ad = some (.int .i64 d.net) ∧ w.cell? ⟨ad.block, ad.off + 1, none⟩ = some (.int .i64 d.v)
def RdDrives (w : World) (A : Option Addr) (n : Nat) (ds : List DriveL) : Prop :=
  ds.length = n ∧ n ≤ 9223372036854775807 ∧ (0 < n → ∃ ad, A = some ad ∧ ∀ i, i < n → RdDrive w (ad.add (i * 2)) (ds.getD i zDrive))
theorem RdDrive.below {w w1 : World} {ad : Addr} {d : DriveL} (h : RdDrive w ad d) (hb : Below w.heap.size w w1) : RdDrive w1 ad d := ⟨pw_cell_below hb h.1, pw_cell_below hb h.2⟩
theorem RdDrives.below {w w1 : World} {A : Option Addr} {n : Nat} {ds : List DriveL} (h : RdDrives w A n ds) (hb : Below w.heap.size w w1) : RdDrives w1 A n ds :=
  ⟨h.1, h.2.1, fun hn => by
    obtain ⟨ad, e, hc⟩ := h.2.2 hn
    exact ⟨ad, e, fun i hi => (hc i hi).below hb⟩⟩
theorem RdDrives.at_ {w : World} {A : Option Addr} {n : Nat} {ds : List DriveL} (h : RdDrives w A n ds) (i : Nat) (hi : i < n) : ∃ ad, A = some ad ∧ RdDrive w (ad.add (i * 2)) (ds.getD i zDrive) := by
  obtain ⟨ad, e, hc⟩ := h.2.2 (by omega)
  exact ⟨ad, e, hc i hi⟩
end Go.Proofs.Ytobdhdehmkmjcaa
