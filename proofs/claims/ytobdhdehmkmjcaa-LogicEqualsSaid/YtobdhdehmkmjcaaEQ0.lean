/- Whether circuits do the same: plain law. -/
import Derived.Test.YtobdhdehmkmjcaaP9
namespace Go.Proofs.Ytobdhdehmkmjcaa
set_option linter.unusedVariables false
set_option linter.unusedSimpArgs false
open Rows0 Go.RowKit Go.Proofs.YtobdhdehmkmjcaaW.PrintWords Go.Proofs.YtobdhdehmkmjcaaW.PrintLast

/-- A net that both circuits have. -/
def netOk (nc nd : Int) (n : Int) : Bool := decide (0 ≤ n) && decide (n < nc) && decide (n < nd)
/-- An entry that stands earlier in the list too. -/
def twiceB (ins : List Int) : Bool := (List.range ins.length).any fun i => (ins.take i).contains (ins.getD i 0)
/-- What is wrong with a question for likeness; 0: nothing. -/
def preF (nc : Int) (gc : List GateL) (nd : Int) (gd : List GateL) (ins outs : List Int) : Int :=
  if validF nc gc ≠ 0 then validF nc gc else
  if validF nd gd ≠ 0 then validF nd gd else
  if 4 < ins.length ∨ 64 < outs.length then 3 else
  if (ins ++ outs).all (netOk nc nd) = false then 1 else
  if twiceB ins = true then 5 else
  if delB gc = true ∨ delB gd = true then 7 else
  if depthP (fdG gc) gc.length < 0 ∨ depthP (fdG gd) gd.length < 0 then 10 else 0
theorem preF_zero {nc nd : Int} {gc gd : List GateL} {ins outs : List Int} (h : preF nc gc nd gd ins outs = 0) :
    validF nc gc = 0 ∧ validF nd gd = 0 ∧ ins.length ≤ 4 ∧ outs.length ≤ 64 ∧ (ins ++ outs).all (netOk nc nd) = true ∧ twiceB ins = false ∧ delB gc = false ∧ delB gd = false ∧ 0 ≤ depthP (fdG gc) gc.length ∧ 0 ≤ depthP (fdG gd) gd.length := by
  unfold preF at h
  split at h
  · rename_i h1; exact absurd h h1
  split at h
  · rename_i h1; exact absurd h h1
  split at h
  · cases h
  split at h
  · cases h
  split at h
  · cases h
  split at h
  · cases h
  split at h
  · cases h
  rename_i h1 h2 h3 h4 h5 h6 h7
  refine ⟨by simpa using h1, by simpa using h2, by omega, by omega, by simpa using h4, by simpa using h5, ?_, ?_, by omega, by omega⟩
  · cases hd : delB gc
    · rfl
    · exact absurd (Or.inl hd) h6
  · cases hd : delB gd
    · rfl
    · exact absurd (Or.inr hd) h6
/-- The value that row r gives to the input k of m. -/
def bitV (m r k : Nat) : Int := 2 + (r : Int) / 2 ^ (m - 1 - k) % 2
theorem bitV_val (m r k : Nat) : isVal (bitV m r k) = true := by
  unfold bitV isVal
  have h1 : 0 ≤ (r : Int) / 2 ^ (m - 1 - k) % 2 := Int.emod_nonneg _ (by decide)
  have h2 : (r : Int) / 2 ^ (m - 1 - k) % 2 < 2 := Int.emod_lt_of_pos _ (by decide)
  simp
  omega
def rowTo (m r : Nat) : Nat → List Int
  | 0 => []
  | k + 1 => rowTo m r k ++ [bitV m r k]
def dvsTo (ins : List Int) (r : Nat) : Nat → List DriveL
  | 0 => []
  | k + 1 => dvsTo ins r k ++ [⟨ins.getD k 0, bitV ins.length r k⟩]
theorem rowTo_len (m r : Nat) : ∀ k, (rowTo m r k).length = k
  | 0 => rfl
  | k + 1 => by simp [rowTo, rowTo_len m r k]
theorem dvsTo_len (ins : List Int) (r : Nat) : ∀ k, (dvsTo ins r k).length = k
  | 0 => rfl
  | k + 1 => by simp [dvsTo, dvsTo_len ins r k]
theorem dvsTo_ok {nc nd : Int} {ins outs : List Int} (h : (ins ++ outs).all (netOk nc nd) = true) (r : Nat) : ∀ k, k ≤ ins.length → (dvsTo ins r k).all (driveOk nc) = true ∧ (dvsTo ins r k).all (driveOk nd) = true
  | 0, _ => ⟨rfl, rfl⟩
  | k + 1, hk => by
    obtain ⟨h1, h2⟩ := dvsTo_ok h r k (by omega)
    have hm : ins.getD k 0 ∈ ins ++ outs := by
      rw [List.getD_eq_getElem?_getD, List.getElem?_eq_getElem (by omega)]
      exact List.mem_append_left _ (List.getElem_mem _)
    have hn := List.all_eq_true.1 h _ hm
    simp only [netOk, Bool.and_eq_true] at hn
    obtain ⟨⟨n1, n2⟩, n3⟩ := hn
    have hv := bitV_val ins.length r k
    constructor
    · simp only [dvsTo, List.all_append, h1, List.all_cons, List.all_nil, driveOk, n1, n2, hv, Bool.and_self]
    · simp only [dvsTo, List.all_append, h2, List.all_cons, List.all_nil, driveOk, n1, n3, hv, Bool.and_self]
/-- Where a circuit comes to rest from nothing. -/
def restV (nets : Int) (gs : List GateL) (ds : List DriveL) : List Int :=
  match settleF (nextF nets.toNat gs ds) [List.replicate nets.toNat 0] (List.replicate nets.toNat 0) 101 with
  | some (v, _) => v
  | none => []
theorem zeros_val (n : Nat) : (List.replicate n (0 : Int)).all isVal = true := by
  rw [List.all_eq_true]
  intro x hx
  rw [List.eq_of_mem_replicate hx]
  rfl
theorem restV_is {nets : Int} {gs : List GateL} {ds : List DriveL} (h1 : validF nets gs = 0) (h2 : ds.all (driveOk nets) = true) (h3 : delB gs = false) (h4 : 0 ≤ depthP (fdG gs) gs.length) :
    ∃ (n m : Nat), nets = n ∧ 1 ≤ n ∧ n ≤ 40 ∧ gs.length ≤ 60 ∧ gs.all (gateOk n) = true ∧ settleF (nextF n gs ds) [List.replicate n 0] (List.replicate n 0) 101 = some (restV nets gs ds, m) ∧ SettleAns nets gs ds (List.replicate n 0) = (some (restV nets gs ds, m), 0) ∧ (restV nets gs ds).length = n := by
  obtain ⟨v1, v2, v3, v4⟩ := validF_ok h1
  obtain ⟨nn, rfl⟩ := Int.eq_ofNat_of_zero_le (show 0 ≤ nets by omega)
  obtain ⟨m, hm, hf, hset⟩ := rests (nn := nn) (ds := ds) (s0 := List.replicate nn 0) v4 h2 v3 h4
  have hsv := seq_val (s0 := List.replicate nn 0) v4 h2 (by simp) (zeros_val nn) m
  have hr : restV (nn : Int) gs ds = seqF (nextF nn gs ds) (List.replicate nn 0) m := by
    unfold restV
    rw [Int.toNat_natCast, hset]
  have hs0 : settlesF (nn : Int) gs ds (List.replicate nn 0) = 0 := settlesF_of h1 (by unfold valuesF; rw [if_neg (by simp; omega), zeros_val]; rfl) (by simp) h2 h3
  refine ⟨nn, m, rfl, by omega, by omega, v3, v4, by rw [hr]; exact hset, ?_, by rw [hr]; exact hsv.1⟩
  unfold SettleAns
  rw [if_neg (by rw [hs0]; simp), Int.toNat_natCast, hset, hr]
/-- Whether row r tells the circuits apart. -/
def difB (nc : Int) (gc : List GateL) (nd : Int) (gd : List GateL) (ins outs : List Int) (r : Nat) : Bool :=
  outs.any fun n => (restV nc gc (dvsTo ins r ins.length)).getD n.toNat 0 != (restV nd gd (dvsTo ins r ins.length)).getD n.toNat 0
/-- The answer: the row, whether they are alike, what is wrong. -/
def eqAns (nc : Int) (gc : List GateL) (nd : Int) (gd : List GateL) (ins outs : List Int) : Option (List Int) × Bool × Int :=
  if preF nc gc nd gd ins outs ≠ 0 then (none, false, preF nc gc nd gd ins outs) else
    match (List.range (2 ^ ins.length)).find? (difB nc gc nd gd ins outs) with
    | some r => (some (rowTo ins.length r ins.length), false, 0)
    | none => (none, true, 0)
theorem find_first {p : Nat → Bool} {N r : Nat} (hr : r < N) (h0 : ∀ i, i < r → p i = false) (h1 : p r = true) : (List.range N).find? p = some r := by
  rw [List.find?_range_eq_some]
  exact ⟨h1, List.mem_range.2 hr, fun j hj => by simp [h0 j hj]⟩
theorem find_none {p : Nat → Bool} {N : Nat} (h0 : ∀ i, i < N → p i = false) : (List.range N).find? p = none := by
  rw [List.find?_range_eq_none]
  intro i hi
  simp [h0 i hi]
def eqOut (r : Option (List Int) × Bool × Int) (w : World) (e : Ending) : Prop :=
  match r.1 with
  | some xs => ∃ A c, e = .returned (.tuple #[.slice A xs.length c, .bool r.2.1, .int .i64 r.2.2]) ∧ ReadsInt w .i64 A xs.length xs
  | none => e = .returned (.tuple #[.slice none 0 0, .bool r.2.1, .int .i64 r.2.2])
end Go.Proofs.Ytobdhdehmkmjcaa
