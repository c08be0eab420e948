/- Words and walks for the row RowLogicRuns, put together: M3, S, T, P4, D0, A0, P7, A2. -/
import Derived.Test.YtobdhdehmkmjcaaRunsM2
import Derived.Test.YtobdhdehmkmjcaaRuns1
import Derived.Test.YtobdhdehmkmjcaaRuns3
import Derived.Laws.BitsLemmas
namespace Go.Proofs.Ytobdhdehmkmjcaa
set_option linter.unusedVariables false
set_option linter.unusedSimpArgs false
open Go.RowKit Go.Proofs.YtobdhdehmkmjcaaW.PrintWords Go.Proofs.YtobdhdehmkmjcaaW.PrintLast

def anyIn (bs : List Bool) (ins : List Int) : Bool := ins.any fun n => bs.getD n.toNat false
theorem anyb_at {l : List Bool} {k : Nat} (h : l.getD k false = true) : l.any id = true := by
  rw [List.any_eq_true]
  have hk : k < l.length := by
    by_cases h2 : k < l.length
    · exact h2
    · rw [List.getD_eq_getElem?_getD, List.getElem?_eq_none (by omega)] at h; cases h
  rw [List.getD_eq_getElem?_getD, List.getElem?_eq_getElem hk] at h
  exact ⟨_, List.getElem_mem _, by simpa using h⟩
theorem anyb_none {l : List Bool} (h : ∀ k, k < l.length → l.getD k false = false) : l.any id = false := by
  rw [List.any_eq_false]
  intro b hb
  obtain ⟨k, hk, rfl⟩ := List.getElem_of_mem hb
  have := h k hk
  rw [List.getD_eq_getElem?_getD, List.getElem?_eq_getElem hk] at this
  simpa using this
set_option maxHeartbeats 1000000 in
theorem index104_any (base g n c : Nat) (bs : List Bool) (w : World) (h : w.ownsRow base 4 1 (.slice (some ⟨g, 0, none⟩) n c) n (bools bs)) :
    Calls Try.prog 104 #[.slice (some ⟨g, 0, none⟩) n c, .bool true] w fun e w' => (∃ r : Int, e = .returned (.int .i64 r) ∧ decide (0 ≤ r) = bs.any id) ∧ w' = w := by
  have hl : bs.length = n := by have := h.1; simpa [encs] using this
  have hm : n ≤ 9223372036854775807 := by
    rcases h.2 with ⟨e, _⟩ | ⟨_, _, _, e, _, _, h3, h4, _⟩
    · cases e
    · simp only [maxLen] at h4; injection e with e1 e2 e3; omega
  have HL := Lib.hid hl; clear hl
  have H := Lib.hid h; clear h
  go_enter Try.func104, Try.ntmps104
  go_wp2
  go_loop [8] (fun i => ∃ k : Nat, k ≤ n ∧ i = .int .i64 k ∧ Hid (∀ j, j < k → bs.getD j false = false)) (fun i => n - (intOf i).toNat)
  case atStart => exact ⟨0, by omega, rfl, Lib.hid (fun j hj => by omega)⟩
  case round =>
    obtain ⟨k, hk, rfl, hF⟩ := hrel
    by_cases hlt : k < n
    · obtain ⟨hc, _⟩ := own_getB H.out k hlt
      have hlt2 : decide ((k : Int) < (n : Int)) = true := by simp; omega
      cases hb : bs.getD k false
      · rw [hb] at hc
        have HF : Hid (∀ j, j < k + 1 → bs.getD j false = false) := Lib.hid (fun j hj => by
          by_cases e : j = k
          · subst e; exact hb
          · exact hF.out j (by omega))
        clear hb
        go_wp2
        go_round
        case rel => exact ⟨k + 1, by omega, by go_num, HF⟩
        case measure => simp [intOf]; omega
      · rw [hb] at hc
        have HT := Lib.hid (anyb_at hb)
        clear hb
        go_wp2
        go_ret
        exact ⟨⟨_, rfl, by rw [HT.out]; simp⟩, rfl⟩
    · have hlt2 : decide ((k : Int) < (n : Int)) = false := by simp; omega
      have HT := Lib.hid (anyb_none (l := bs) (fun j hj => hF.out j (by have := HL.out; omega)))
      go_wp2
      go_ret
      exact ⟨⟨_, rfl, by rw [HT.out]; rfl⟩, rfl⟩
theorem contains93_any (base g n c : Nat) (bs : List Bool) (w : World) (h : w.ownsRow base 4 1 (.slice (some ⟨g, 0, none⟩) n c) n (bools bs)) :
    Calls Try.prog 93 #[.slice (some ⟨g, 0, none⟩) n c, .bool true] w fun e w' => e = .returned (.bool (bs.any id)) ∧ w' = w := by
  have H := Lib.hid h; clear h
  go_enter Try.func93, Try.ntmps93
  go_wp2_with fail
  refine (index104_any _ _ _ _ _ _ H.out).mono ?_
  rintro e w' ⟨⟨r, rfl, hr⟩, rfl⟩
  have HR := Lib.hid hr; clear hr
  go_wp2_with fail
  go_ret
  exact ⟨ret_bool HR.out, rfl⟩
theorem changed106_any (base g nn c P n : Nat) (bs : List Bool) (w : World) (h : w.ownsRow base 4 1 (.slice (some ⟨g, 0, none⟩) nn c) nn (bools bs)) (hp : w.cell? ⟨P, 0, none⟩ = some (.slice (some ⟨g, 0, none⟩) nn c)) (hn : n < nn) (b : Bool) (hb : Hid (bs.getD n false = b)) :
    Calls Try.prog 106 #[.int .i64 n, .pointer (some ⟨P, 0, none⟩)] w fun e w' => e = .returned (.bool b) ∧ w' = w := by
  obtain ⟨hc, _⟩ := own_getB h n hn
  rw [hb.out] at hc
  go_enter Try.func106, Try.ntmps106
  go_wp2
  go_ret
  exact ⟨rfl, rfl⟩
set_option maxHeartbeats 1000000 in
theorem index107_any (base g nn c P : Nat) (bs : List Bool) (AI : Option Addr) (im ic : Nat) (ins : List Int) (w : World) (h : w.ownsRow base 4 1 (.slice (some ⟨g, 0, none⟩) nn c) nn (bools bs)) (hp : w.cell? ⟨P, 0, none⟩ = some (.slice (some ⟨g, 0, none⟩) nn c))
    (hi : ReadsInt w .i64 AI im ins) (hin : ∀ j, j < im → 0 ≤ ins.getD j 0 ∧ ins.getD j 0 < nn) :
    Calls Try.prog 107 #[.slice AI im ic, .func (.func 106) #[] #[.pointer (some ⟨P, 0, none⟩)]] w fun e w' => (∃ r : Int, e = .returned (.int .i64 r) ∧ decide (0 ≤ r) = anyIn bs ins) ∧ w' = w := by
  have hm := hi.2.1
  have HL := Lib.hid hi.1
  have HI := Lib.hid hi; clear hi
  have H := Lib.hid h; clear h
  have HP := Lib.hid hp; clear hp
  have HIN := Lib.hid hin; clear hin
  go_enter Try.func107, Try.ntmps107
  go_wp2
  go_loop [8] (fun i => ∃ k : Nat, k ≤ im ∧ i = .int .i64 k ∧ Hid (∀ j, j < k → bs.getD (ins.getD j 0).toNat false = false)) (fun i => im - (intOf i).toNat)
  case atStart => exact ⟨0, by omega, rfl, Lib.hid (fun j hj => by omega)⟩
  case round =>
    obtain ⟨k, hk, rfl, hF⟩ := hrel
    by_cases hlt : k < im
    · obtain ⟨ad, rfl, hc⟩ := rdN HI.out k hlt
      have hlt2 : decide ((k : Int) < (im : Int)) = true := by simp; omega
      obtain ⟨k0, k1⟩ := HIN.out k hlt
      obtain ⟨m, hm2⟩ := Int.eq_ofNat_of_zero_le k0
      have hmn : m < nn := by omega
      rw [hm2] at hc
      have hmm : (ins.getD k 0).toNat = m := by rw [hm2]; rfl
      have HMM := Lib.hid hmm
      have HAT : Hid (bs.getD m false = true → anyIn bs ins = true) := Lib.hid (fun h => by
        unfold anyIn
        rw [List.any_eq_true]
        exact ⟨ins.getD k 0, mem_getD (by rw [HL.out]; exact hlt), by rw [hmm]; exact h⟩)
      clear hm2 k0 k1 hmm
      cases hb : bs.getD m false
      · have HF : Hid (∀ j, j < k + 1 → bs.getD (ins.getD j 0).toNat false = false) := Lib.hid (fun j hj => by
          by_cases e : j = k
          · subst e; rw [HMM.out]; exact hb
          · exact hF.out j (by omega))
        have HB := Lib.hid hb; clear hb
        go_wp2_with (go_at_call 106; refine (changed106_any _ _ _ _ _ _ _ _ H.out HP.out hmn _ HB).mono ?_; rintro e w' ⟨rfl, rfl⟩)
        go_round
        case rel => exact ⟨k + 1, by omega, by go_num, HF⟩
        case measure => simp [intOf]; omega
      · have HT := Lib.hid (HAT.out hb)
        have HB := Lib.hid hb; clear hb
        go_wp2_with (go_at_call 106; refine (changed106_any _ _ _ _ _ _ _ _ H.out HP.out hmn _ HB).mono ?_; rintro e w' ⟨rfl, rfl⟩)
        go_ret
        exact ⟨⟨_, rfl, by rw [HT.out]; simp⟩, rfl⟩
    · have hlt2 : decide ((k : Int) < (im : Int)) = false := by simp; omega
      have HT : Hid (anyIn bs ins = false) := Lib.hid (by
        unfold anyIn
        rw [List.any_eq_false]
        intro n hn
        obtain ⟨j, hj, rfl⟩ := List.getElem_of_mem hn
        have := hF.out j (by have := HL.out; omega)
        rw [List.getD_eq_getElem?_getD (l := ins), List.getElem?_eq_getElem hj, Option.getD_some] at this
        rw [this]; simp)
      go_wp2
      go_ret
      exact ⟨⟨_, rfl, by rw [HT.out]; rfl⟩, rfl⟩
theorem contains105_any (base g nn c P : Nat) (bs : List Bool) (AI : Option Addr) (im ic : Nat) (ins : List Int) (w : World) (h : w.ownsRow base 4 1 (.slice (some ⟨g, 0, none⟩) nn c) nn (bools bs)) (hp : w.cell? ⟨P, 0, none⟩ = some (.slice (some ⟨g, 0, none⟩) nn c))
    (hi : ReadsInt w .i64 AI im ins) (hin : ∀ j, j < im → 0 ≤ ins.getD j 0 ∧ ins.getD j 0 < nn) :
    Calls Try.prog 105 #[.slice AI im ic, .func (.func 106) #[] #[.pointer (some ⟨P, 0, none⟩)]] w fun e w' => e = .returned (.bool (anyIn bs ins)) ∧ w' = w := by
  have HI := Lib.hid hi; clear hi
  have H := Lib.hid h; clear h
  have HP := Lib.hid hp; clear hp
  have HIN := Lib.hid hin; clear hin
  go_enter Try.func105, Try.ntmps105
  go_wp2_with fail
  refine (index107_any _ _ _ _ _ _ _ _ _ _ _ H.out HP.out HI.out HIN.out).mono ?_
  rintro e w' ⟨⟨r, rfl, hr⟩, rfl⟩
  have HR := Lib.hid hr; clear hr
  go_wp2_with fail
  go_ret
  exact ⟨ret_bool HR.out, rfl⟩
end Go.Proofs.Ytobdhdehmkmjcaa
namespace Go.Proofs.Ytobdhdehmkmjcaa
set_option linter.unusedVariables false
set_option linter.unusedSimpArgs false
open Go.RowKit Go.Proofs.YtobdhdehmkmjcaaW.PrintWords Go.Proofs.YtobdhdehmkmjcaaW.PrintLast

theorem all_bad {p : GateL → Bool} {gs : List GateL} {k : Nat} (hk : k < gs.length) (h : p (gs.getD k zGate) = false) : (if gs.all p then (0 : Int) else 1) = 1 := by
  rw [if_neg]
  simp only [Bool.not_eq_true, List.all_eq_false]
  refine ⟨gs.getD k zGate, ?_, h⟩
  rw [List.getD_eq_getElem?_getD, List.getElem?_eq_getElem hk]
  exact List.getElem_mem _
theorem all_good {p : GateL → Bool} {gs : List GateL} (h : gs.all p = true) : (if gs.all p then (0 : Int) else 1) = 0 := by rw [if_pos h]
theorem gtake_succ {p : GateL → Bool} {gs : List GateL} {k : Nat} (hk : k < gs.length) (h : (gs.take k).all p = true) (hp : p (gs.getD k zGate) = true) : (gs.take (k + 1)).all p = true := by
  rw [List.take_succ_eq_append_getElem hk, List.all_append, h]
  rw [List.getD_eq_getElem?_getD, List.getElem?_eq_getElem hk] at hp
  simpa using hp
/-- What a net of a gate has to be. -/
def inOk (nets kind : Int) (n : Int) : Bool := if kind = 0 then isVal n else decide (0 ≤ n) && decide (n < nets)
theorem gateOk_false {nets : Int} {g : GateL} (h : (g.ins.length : Int) ≠ inputsF g.kind ∨ g.out < 0 ∨ nets ≤ g.out ∨ g.delay < 0 ∨ 20 < g.delay ∨ g.ins.all (inOk nets g.kind) = false) : gateOk nets g = false := by
  unfold gateOk
  rcases h with h | h | h | h | h | h
  · simp [h]
  · simp [show ¬ 0 ≤ g.out by omega]
  · simp [show ¬ g.out < nets by omega]
  · simp [show ¬ 0 ≤ g.delay by omega]
  · simp [show ¬ g.delay ≤ 20 by omega]
  · have : g.ins.all (fun n => if g.kind = 0 then isVal n else decide (0 ≤ n) && decide (n < nets)) = false := h
    rw [this, Bool.and_false]
theorem gateOk_true {nets : Int} {g : GateL} (h1 : (g.ins.length : Int) = inputsF g.kind) (h2 : 0 ≤ g.out) (h3 : g.out < nets) (h4 : 0 ≤ g.delay) (h5 : g.delay ≤ 20) (h6 : g.ins.all (inOk nets g.kind) = true) : gateOk nets g = true := by
  unfold gateOk
  have : g.ins.all (fun n => if g.kind = 0 then isVal n else decide (0 ≤ n) && decide (n < nets)) = true := h6
  rw [this]
  simp [h1, h2, h3, h4, h5]
theorem ins_bad {p : Int → Bool} {xs : List Int} {k : Nat} (hk : k < xs.length) (h : p (xs.getD k 0) = false) : xs.all p = false := by
  rw [List.all_eq_false]
  refine ⟨xs.getD k 0, ?_, Bool.eq_false_iff.1 h⟩
  rw [List.getD_eq_getElem?_getD, List.getElem?_eq_getElem hk]
  exact List.getElem_mem _

set_option maxHeartbeats 2000000 in
set_option maxRecDepth 100000 in
theorem validate_any (nets : Int) (A : Option Addr) (n c : Nat) (gs : List GateL) (w : World) (hr : RdGates w A n gs) :
    Calls Try.prog 26 #[.agg #[.int .i64 nets, .slice A n c]] w fun e w' => e = .returned (.int .i64 (validF nets gs)) ∧ Below w.heap.size w w' := by
  have hl := hr.1
  have hm := hr.2.1
  have hB : Below w.heap.size w (w.alloc (.cells #[.int .i64 nets, .slice A n c] 39)) := (Below.refl _ _).alloc (Nat.le_refl _) _
  by_cases h1 : 40 < nets
  · have hv : validF nets gs = 3 := if_pos (.inl h1)
    have HV := Lib.hid hv; clear hv hl
    have HB := Lib.hid hB; clear hB
    go_enter Try.func26, Try.ntmps26
    go_wp2
    go_ret
    exact ⟨ret_int HV.out.symm, HB.out⟩
  by_cases h2 : 60 < n
  · have hv : validF nets gs = 3 := if_pos (.inr (by omega))
    have HV := Lib.hid hv; clear hv hl
    have HB := Lib.hid hB; clear hB
    go_enter Try.func26, Try.ntmps26
    go_wp2
    go_ret
    exact ⟨ret_int HV.out.symm, HB.out⟩
  by_cases h3 : nets < 1
  · have hv : validF nets gs = 1 := by unfold validF; rw [if_neg (by omega), if_pos h3]
    have HV := Lib.hid hv; clear hv hl
    have HB := Lib.hid hB; clear hB
    go_enter Try.func26, Try.ntmps26
    go_wp2
    go_ret
    exact ⟨ret_int HV.out.symm, HB.out⟩
  have hv : validF nets gs = if gs.all (gateOk nets) then 0 else 1 := by unfold validF; rw [if_neg (by omega), if_neg h3]
  have HV := Lib.hid hv; clear hv
  have HL := Lib.hid hl; clear hl
  have HB0 := Lib.hid hB; clear hB
  have hbk : (w.alloc (.cells #[.int .i64 nets, .slice A n c] 39)).heap[w.heap.size]? = some (.cells #[.int .i64 nets, .slice A n c] 39 (0, 0)) := blk_new _ _
  have HBK := Lib.hid hbk; clear hbk
  have HR := Lib.hid hr; clear hr
  go_enter Try.func26, Try.ntmps26
  go_wp2
  go_loopw [22] (fun i wr => ∃ k : Nat, k ≤ n ∧ i = .int .i64 k ∧ Hid ((gs.take k).all (gateOk nets) = true) ∧ Hid (Below w.heap.size w wr) ∧ Hid (wr.heap[w.heap.size]? = some (.cells #[.int .i64 nets, .slice A n c] 39 (0, 0)))) (fun i _ => n - (intOf i).toNat)
  case atStart => exact ⟨0, by omega, rfl, rfl, HB0.out, HBK.out⟩
  case round =>
    obtain ⟨k, hk, rfl, hall, hB, hbk⟩ := hrel
    by_cases hlt : k < n
    · obtain ⟨ad, rfl, hg⟩ := (HR.out.below hB.out).at_ k hlt
      obtain ⟨g1, ⟨AI, ci, g2, g3, g4⟩, g5, g6⟩ := hg
      have G3 := Lib.hid g3; clear g3
      have hm2 := G3.out.2.1
      have c0 : wr.cell? ⟨w.heap.size, 0, none⟩ = some (.int .i64 nets) := (blk_cell hbk.out 0).trans rfl
      have c1 : wr.cell? ⟨w.heap.size, 1, none⟩ = some (.slice (some ad) n c) := (blk_cell hbk.out 1).trans rfl
      generalize hg : (gs.getD k zGate) = g at *
      have HG := Lib.hid hg; clear hg
      obtain ⟨kd, ins, out, dl⟩ := g
      have hB1 : Below w.heap.size w (wr.alloc (.cells #[.int .i64 kd, .slice AI ins.length ci, .int .i64 out, .int .i64 dl] 88)) := hB.out.alloc hB.out.size _
      have d0 : (wr.alloc (.cells #[.int .i64 kd, .slice AI ins.length ci, .int .i64 out, .int .i64 dl] 88)).cell? ⟨w.heap.size, 0, none⟩ = some (.int .i64 nets) := (blk_cell (blk_alloc hbk.out _) 0).trans rfl
      have hbk1 := blk_alloc hbk.out (.cells #[.int .i64 kd, .slice AI ins.length ci, .int .i64 out, .int .i64 dl] 88)
      have HB1 := Lib.hid hB1; clear hB1
      have HBK1 := Lib.hid hbk1; clear hbk1
      have G3' := Lib.hid (G3.out.below (show Below wr.heap.size wr (wr.alloc (.cells #[.int .i64 kd, .slice AI ins.length ci, .int .i64 out, .int .i64 dl] 88)) from (Below.refl _ _).alloc (Nat.le_refl _) _))
      clear hm2
      have hm2 : ins.length ≤ 9223372036854775807 := G3.out.2.1
      generalize hi : inputsF kd = q
      have HI := Lib.hid hi; clear hi
      by_cases k1 : ((ins.length : Int) != q) = true
      · have HBAD := Lib.hid (all_bad (p := gateOk nets) (by rw [HL.out]; exact hlt) (by rw [HG.out]; exact gateOk_false (nets := nets) (.inl (by show (ins.length : Int) ≠ inputsF kd; rw [HI.out]; simpa using k1))))
        have HK1 := Lib.hid k1
        go_wp2
        go_quiet ((go_at_call 39; exact Calls.quiet_of_same ((inputs_any _ _).mono fun _ _ h => ⟨by rw [h.1, HI.out], h.2.symm⟩)))
        go_wp2
        go_ret
        exact ⟨ret_int (by rw [HV.out, HBAD.out]), pw_below_drewN HB1.out _⟩
      have k1' : ((ins.length : Int) != q) = false := by simpa using k1
      have HK1 : Hid ((ins.length : Int) = q) := Lib.hid (by simpa using k1)
      clear k1
      by_cases k2 : out < 0
      · have HBAD := Lib.hid (all_bad (p := gateOk nets) (by rw [HL.out]; exact hlt) (by rw [HG.out]; exact gateOk_false (nets := nets) (.inr (.inl k2))))
        skip
        go_wp2
        go_quiet ((go_at_call 39; exact Calls.quiet_of_same ((inputs_any _ _).mono fun _ _ h => ⟨by rw [h.1, HI.out], h.2.symm⟩)))
        go_wp2
        go_ret
        exact ⟨ret_int (by rw [HV.out, HBAD.out]), pw_below_drewN HB1.out _⟩
      by_cases k3 : nets ≤ out
      · have HBAD := Lib.hid (all_bad (p := gateOk nets) (by rw [HL.out]; exact hlt) (by rw [HG.out]; exact gateOk_false (nets := nets) (.inr (.inr (.inl k3)))))
        skip
        go_wp2
        go_quiet ((go_at_call 39; exact Calls.quiet_of_same ((inputs_any _ _).mono fun _ _ h => ⟨by rw [h.1, HI.out], h.2.symm⟩)))
        go_wp2
        go_ret
        exact ⟨ret_int (by rw [HV.out, HBAD.out]), pw_below_drewN HB1.out _⟩
      by_cases k4 : dl < 0
      · have HBAD := Lib.hid (all_bad (p := gateOk nets) (by rw [HL.out]; exact hlt) (by rw [HG.out]; exact gateOk_false (nets := nets) (.inr (.inr (.inr (.inl k4))))))
        skip
        go_wp2
        go_quiet ((go_at_call 39; exact Calls.quiet_of_same ((inputs_any _ _).mono fun _ _ h => ⟨by rw [h.1, HI.out], h.2.symm⟩)))
        go_wp2
        go_ret
        exact ⟨ret_int (by rw [HV.out, HBAD.out]), pw_below_drewN HB1.out _⟩
      by_cases k5 : 20 < dl
      · have HBAD := Lib.hid (all_bad (p := gateOk nets) (by rw [HL.out]; exact hlt) (by rw [HG.out]; exact gateOk_false (nets := nets) (.inr (.inr (.inr (.inr (.inl k5)))))))
        skip
        go_wp2
        go_quiet ((go_at_call 39; exact Calls.quiet_of_same ((inputs_any _ _).mono fun _ _ h => ⟨by rw [h.1, HI.out], h.2.symm⟩)))
        go_wp2
        go_ret
        exact ⟨ret_int (by rw [HV.out, HBAD.out]), pw_below_drewN HB1.out _⟩
      go_wp2
      go_quiet ((go_at_call 39; exact Calls.quiet_of_same ((inputs_any _ _).mono fun _ _ h => ⟨by rw [h.1, HI.out], h.2.symm⟩)))
      go_wp2
      have hgb : ((wr.alloc (.cells #[.int .i64 kd, .slice AI ins.length ci, .int .i64 out, .int .i64 dl] 88)).drewN nq).heap[wr.heap.size]? = some (.cells #[.int .i64 kd, .slice AI ins.length ci, .int .i64 out, .int .i64 dl] 88 (0, 0)) := blk_new wr _
      have HGB := Lib.hid hgb; clear hgb
      have HBW := Lib.hid (show Below wr.heap.size wr ((wr.alloc (.cells #[.int .i64 kd, .slice AI ins.length ci, .int .i64 out, .int .i64 dl] 88)).drewN nq) from pw_below_drewN ((Below.refl _ _).alloc (Nat.le_refl _) _) _)
      have HRI := Lib.hid (show ReadsInt wr .i64 AI ins.length ins from G3.out)
      go_loopw [58] (fun i wx => ∃ j : Nat, j ≤ ins.length ∧ i = .int .i64 j ∧ Hid ((ins.take j).all (inOk nets kd) = true) ∧ Hid (Below wr.heap.size wr wx) ∧ Hid (Below w.heap.size w wx) ∧ Hid (wx.heap[w.heap.size]? = some (.cells #[.int .i64 nets, .slice (some ad) n c] 39 (0, 0))) ∧ Hid (wx.heap[wr.heap.size]? = some (.cells #[.int .i64 kd, .slice AI ins.length ci, .int .i64 out, .int .i64 dl] 88 (0, 0)))) (fun i _ => ins.length - (intOf i).toNat)
      case atStart => exact ⟨0, by omega, rfl, Lib.hid rfl, HBW, Lib.hid (pw_below_drewN HB1.out _), Lib.hid HBK1.out, HGB⟩
      case round =>
        rename World => wx
        obtain ⟨j, hj, rfl, hall2, hBw, hB2, hbk2, hgb2⟩ := hrel
        by_cases hlt2 : j < ins.length
        · obtain ⟨adi, rfl, hci⟩ := rdN (HRI.out.below hBw.out) j hlt2
          have e0 : wx.cell? ⟨w.heap.size, 0, none⟩ = some (.int .i64 nets) := (blk_cell hbk2.out 0).trans rfl
          have f0 : wx.cell? ⟨_, 0, none⟩ = some (.int .i64 kd) := (blk_cell hgb2.out 0).trans rfl
          generalize hx : ins.getD j 0 = x at *
          have HX := Lib.hid hx; clear hx
          by_cases hk0 : kd = 0
          · subst hk0
            by_cases hv : isVal x = true
            · have hs : inOk nets 0 x = true := hv
              have HS := Lib.hid hs; clear hs
              have HVV := Lib.hid hv; clear hv
              go_wp2_with (go_at_call 43; refine (isValue_is _ _ _ HVV).mono ?_; rintro e w' ⟨rfl, rfl⟩)
              go_round
              case rel => exact ⟨j + 1, by omega, by go_num, Lib.hid ((take_all_succ hlt2 hall2.out).trans (by rw [HX.out]; exact HS.out)), hBw, hB2, Lib.hid hbk2.out, Lib.hid hgb2.out⟩
              case measure => simp [intOf]; omega
            · have hs : inOk nets 0 x = false := (by simpa using hv : isVal x = false)
              have HS := Lib.hid hs; clear hs
              have HVV : Hid (isVal x = false) := Lib.hid (by simpa using hv)
              clear hv
              have HBAD := Lib.hid (all_bad (p := gateOk nets) (by rw [HL.out]; exact hlt) (by rw [HG.out]; exact gateOk_false (nets := nets) (.inr (.inr (.inr (.inr (.inr (ins_bad hlt2 (by rw [HX.out]; exact HS.out)))))))))
              go_wp2_with (go_at_call 43; refine (isValue_is _ _ _ HVV).mono ?_; rintro e w' ⟨rfl, rfl⟩)
              go_ret
              exact ⟨ret_int (by rw [HV.out, HBAD.out]), hB2.out⟩
          · by_cases hv : x < 0 ∨ nets ≤ x
            · have hs : inOk nets kd x = false := by unfold inOk; rw [if_neg hk0]; rcases hv with hv | hv <;> simp [show ¬ 0 ≤ x ∨ ¬ x < nets by omega] <;> omega
              have HS := Lib.hid hs; clear hs
              have HBAD := Lib.hid (all_bad (p := gateOk nets) (by rw [HL.out]; exact hlt) (by rw [HG.out]; exact gateOk_false (nets := nets) (.inr (.inr (.inr (.inr (.inr (ins_bad hlt2 (by rw [HX.out]; exact HS.out)))))))))
              by_cases hv1 : x < 0
              all_goals try have hv2 : nets ≤ x := by omega
              all_goals clear hv
              all_goals go_wp2
              all_goals go_ret
              all_goals exact ⟨ret_int (by rw [HV.out, HBAD.out]), hB2.out⟩
            · have hs : inOk nets kd x = true := by unfold inOk; rw [if_neg hk0]; simp; omega
              have HS := Lib.hid hs; clear hs
              have hv1 : ¬ x < 0 := by omega
              have hv2 : ¬ nets ≤ x := by omega
              clear hv
              go_wp2
              go_round
              case rel => exact ⟨j + 1, by omega, by go_num, Lib.hid ((take_all_succ hlt2 hall2.out).trans (by rw [HX.out]; exact HS.out)), hBw, hB2, Lib.hid hbk2.out, Lib.hid hgb2.out⟩
              case measure => simp [intOf]; omega
        · have hall3 : ins.all (inOk nets kd) = true := by
            have h := hall2.out
            rwa [List.take_of_length_le (by omega)] at h
          have HOK := Lib.hid (gateOk_true (nets := nets) (g := ⟨kd, ins, out, dl⟩) (by rw [HK1.out, HI.out]) (by show 0 ≤ out; omega) (by show out < nets; omega) (by show 0 ≤ dl; omega) (by show dl ≤ 20; omega) hall3)
          go_wp2
          go_round
          case rel => exact ⟨k + 1, by omega, by go_num, Lib.hid (gtake_succ (by rw [HL.out]; exact hlt) hall.out (by rw [HG.out]; exact HOK.out)), hB2, hbk2⟩
          case measure => simp [intOf]; omega
    · go_wp2
      go_ret
      refine ⟨ret_int ?_, hB.out⟩
      have : gs.take k = gs := List.take_of_length_le (by rw [HL.out]; omega)
      rw [HV.out, all_good (by have h := hall.out; rwa [this] at h)]
end Go.Proofs.Ytobdhdehmkmjcaa
namespace Go.Proofs.Ytobdhdehmkmjcaa
set_option linter.unusedVariables false
set_option linter.unusedSimpArgs false
open Go.RowKit Go.Proofs.YtobdhdehmkmjcaaW.PrintWords Go.Proofs.YtobdhdehmkmjcaaW.PrintLast

set_option maxHeartbeats 2000000 in
set_option maxRecDepth 100000 in
theorem rvalidate_any (nets : Int) (A : Option Addr) (n c : Nat) (gs : List GateL) (w : World) (hr : RdGates w A n gs) :
    Calls Try.prog 27 #[.agg #[.int .i64 nets, .slice A n c]] w fun e w' => e = .returned (.int .i64 (validF nets gs)) ∧ Below w.heap.size w w' := by
  have hl := hr.1
  have hm := hr.2.1
  have hB : Below w.heap.size w (w.alloc (.cells #[.int .i64 nets, .slice A n c] 39)) := (Below.refl _ _).alloc (Nat.le_refl _) _
  by_cases h1 : 40 < nets
  · have hv : validF nets gs = 3 := if_pos (.inl h1)
    have HV := Lib.hid hv; clear hv hl
    have HB := Lib.hid hB; clear hB
    go_enter Try.func27, Try.ntmps27
    go_wp2
    go_ret
    exact ⟨ret_int HV.out.symm, HB.out⟩
  by_cases h2 : 60 < n
  · have hv : validF nets gs = 3 := if_pos (.inr (by omega))
    have HV := Lib.hid hv; clear hv hl
    have HB := Lib.hid hB; clear hB
    go_enter Try.func27, Try.ntmps27
    go_wp2
    go_ret
    exact ⟨ret_int HV.out.symm, HB.out⟩
  by_cases h3 : nets < 1
  · have hv : validF nets gs = 1 := by unfold validF; rw [if_neg (by omega), if_pos h3]
    have HV := Lib.hid hv; clear hv hl
    have HB := Lib.hid hB; clear hB
    go_enter Try.func27, Try.ntmps27
    go_wp2
    go_ret
    exact ⟨ret_int HV.out.symm, HB.out⟩
  have hv : validF nets gs = if gs.all (gateOk nets) then 0 else 1 := by unfold validF; rw [if_neg (by omega), if_neg h3]
  have HV := Lib.hid hv; clear hv
  have HL := Lib.hid hl; clear hl
  have HB0 := Lib.hid hB; clear hB
  have hbk : (w.alloc (.cells #[.int .i64 nets, .slice A n c] 39)).heap[w.heap.size]? = some (.cells #[.int .i64 nets, .slice A n c] 39 (0, 0)) := blk_new _ _
  have HBK := Lib.hid hbk; clear hbk
  have HR := Lib.hid hr; clear hr
  go_enter Try.func27, Try.ntmps27
  go_wp2
  go_loopw [3] (fun i wr => ∃ k : Nat, k ≤ n ∧ i = .int .i64 k ∧ Hid ((gs.take k).all (gateOk nets) = true) ∧ Hid (Below w.heap.size w wr) ∧ Hid (wr.heap[w.heap.size]? = some (.cells #[.int .i64 nets, .slice A n c] 39 (0, 0)))) (fun i _ => n - (intOf i).toNat)
  case atStart => exact ⟨0, by omega, rfl, rfl, HB0.out, HBK.out⟩
  case round =>
    obtain ⟨k, hk, rfl, hall, hB, hbk⟩ := hrel
    have c9 : wr.cell? ⟨w.heap.size, 1, none⟩ = some (.slice A n c) := (blk_cell hbk.out 1).trans rfl
    by_cases hlt : k < n
    · obtain ⟨ad, rfl, hg⟩ := (HR.out.below hB.out).at_ k hlt
      obtain ⟨g1, ⟨AI, ci, g2, g3, g4⟩, g5, g6⟩ := hg
      have G3 := Lib.hid g3; clear g3
      have hm2 := G3.out.2.1
      have c0 : wr.cell? ⟨w.heap.size, 0, none⟩ = some (.int .i64 nets) := (blk_cell hbk.out 0).trans rfl
      have c1 : wr.cell? ⟨w.heap.size, 1, none⟩ = some (.slice (some ad) n c) := (blk_cell hbk.out 1).trans rfl
      generalize hg : (gs.getD k zGate) = g at *
      have HG := Lib.hid hg; clear hg
      obtain ⟨kd, ins, out, dl⟩ := g
      have hB1 : Below w.heap.size w (wr.alloc (.cells #[.int .i64 kd, .slice AI ins.length ci, .int .i64 out, .int .i64 dl] 88)) := hB.out.alloc hB.out.size _
      have d0 : (wr.alloc (.cells #[.int .i64 kd, .slice AI ins.length ci, .int .i64 out, .int .i64 dl] 88)).cell? ⟨w.heap.size, 0, none⟩ = some (.int .i64 nets) := (blk_cell (blk_alloc hbk.out _) 0).trans rfl
      have hbk1 := blk_alloc hbk.out (.cells #[.int .i64 kd, .slice AI ins.length ci, .int .i64 out, .int .i64 dl] 88)
      have HB1 := Lib.hid hB1; clear hB1
      have HBK1 := Lib.hid hbk1; clear hbk1
      have G3' := Lib.hid (G3.out.below (show Below wr.heap.size wr (wr.alloc (.cells #[.int .i64 kd, .slice AI ins.length ci, .int .i64 out, .int .i64 dl] 88)) from (Below.refl _ _).alloc (Nat.le_refl _) _))
      clear hm2
      have hm2 : ins.length ≤ 9223372036854775807 := G3.out.2.1
      generalize hi : inputsF kd = q
      have HI := Lib.hid hi; clear hi
      by_cases k1 : (q != (ins.length : Int)) = true
      · have HBAD := Lib.hid (all_bad (p := gateOk nets) (by rw [HL.out]; exact hlt) (by rw [HG.out]; exact gateOk_false (nets := nets) (.inl (by show (ins.length : Int) ≠ inputsF kd; rw [HI.out]; simp at k1; exact fun e => k1 e.symm))))
        have HK1 := Lib.hid k1
        go_wp2
        go_quiet ((go_at_call 41; exact Calls.quiet_of_same ((refInputs_any _ _).mono fun _ _ h => ⟨by rw [h.1, HI.out], h.2.symm⟩)))
        go_wp2
        go_ret
        exact ⟨ret_int (by rw [HV.out, HBAD.out]), pw_below_drewN HB1.out _⟩
      have k1' : (q != (ins.length : Int)) = false := by simpa using k1
      have HK1 : Hid ((ins.length : Int) = q) := Lib.hid (by simp at k1; exact k1.symm)
      clear k1
      by_cases k2 : out < 0
      · have HBAD := Lib.hid (all_bad (p := gateOk nets) (by rw [HL.out]; exact hlt) (by rw [HG.out]; exact gateOk_false (nets := nets) (.inr (.inl k2))))
        skip
        go_wp2
        go_quiet ((go_at_call 41; exact Calls.quiet_of_same ((refInputs_any _ _).mono fun _ _ h => ⟨by rw [h.1, HI.out], h.2.symm⟩)))
        go_wp2
        go_ret
        exact ⟨ret_int (by rw [HV.out, HBAD.out]), pw_below_drewN HB1.out _⟩
      by_cases k3 : nets ≤ out
      · have HBAD := Lib.hid (all_bad (p := gateOk nets) (by rw [HL.out]; exact hlt) (by rw [HG.out]; exact gateOk_false (nets := nets) (.inr (.inr (.inl k3)))))
        skip
        go_wp2
        go_quiet ((go_at_call 41; exact Calls.quiet_of_same ((refInputs_any _ _).mono fun _ _ h => ⟨by rw [h.1, HI.out], h.2.symm⟩)))
        go_wp2
        go_ret
        exact ⟨ret_int (by rw [HV.out, HBAD.out]), pw_below_drewN HB1.out _⟩
      by_cases k4 : dl < 0
      · have HBAD := Lib.hid (all_bad (p := gateOk nets) (by rw [HL.out]; exact hlt) (by rw [HG.out]; exact gateOk_false (nets := nets) (.inr (.inr (.inr (.inl k4))))))
        skip
        go_wp2
        go_quiet ((go_at_call 41; exact Calls.quiet_of_same ((refInputs_any _ _).mono fun _ _ h => ⟨by rw [h.1, HI.out], h.2.symm⟩)))
        go_wp2
        go_ret
        exact ⟨ret_int (by rw [HV.out, HBAD.out]), pw_below_drewN HB1.out _⟩
      by_cases k5 : 20 < dl
      · have HBAD := Lib.hid (all_bad (p := gateOk nets) (by rw [HL.out]; exact hlt) (by rw [HG.out]; exact gateOk_false (nets := nets) (.inr (.inr (.inr (.inr (.inl k5)))))))
        skip
        go_wp2
        go_quiet ((go_at_call 41; exact Calls.quiet_of_same ((refInputs_any _ _).mono fun _ _ h => ⟨by rw [h.1, HI.out], h.2.symm⟩)))
        go_wp2
        go_ret
        exact ⟨ret_int (by rw [HV.out, HBAD.out]), pw_below_drewN HB1.out _⟩
      by_cases hk0 : kd = 0
      · subst hk0
        go_wp2
        go_quiet ((go_at_call 41; exact Calls.quiet_of_same ((refInputs_any _ _).mono fun _ _ h => ⟨by rw [h.1, HI.out], h.2.symm⟩)))
        go_wp2
        have hgb : ((wr.alloc (.cells #[.int .i64 0, .slice AI ins.length ci, .int .i64 out, .int .i64 dl] 88)).drewN nq).heap[wr.heap.size]? = some (.cells #[.int .i64 0, .slice AI ins.length ci, .int .i64 out, .int .i64 dl] 88 (0, 0)) := blk_new wr _
        have HGB := Lib.hid hgb; clear hgb
        have HBW := Lib.hid (show Below wr.heap.size wr ((wr.alloc (.cells #[.int .i64 0, .slice AI ins.length ci, .int .i64 out, .int .i64 dl] 88)).drewN nq) from pw_below_drewN ((Below.refl _ _).alloc (Nat.le_refl _) _) _)
        have HRI := Lib.hid (show ReadsInt wr .i64 AI ins.length ins from G3.out)
        go_loopw [6] (fun i wx => ∃ j : Nat, j ≤ ins.length ∧ i = .int .i64 j ∧ Hid ((ins.take j).all (inOk nets 0) = true) ∧ Hid (Below wr.heap.size wr wx) ∧ Hid (Below w.heap.size w wx) ∧ Hid (wx.heap[w.heap.size]? = some (.cells #[.int .i64 nets, .slice (some ad) n c] 39 (0, 0))) ∧ Hid (wx.heap[wr.heap.size]? = some (.cells #[.int .i64 0, .slice AI ins.length ci, .int .i64 out, .int .i64 dl] 88 (0, 0)))) (fun i _ => ins.length - (intOf i).toNat)
        case atStart => exact ⟨0, by omega, rfl, Lib.hid rfl, HBW, Lib.hid (pw_below_drewN HB1.out _), Lib.hid HBK1.out, HGB⟩
        case round =>
          rename World => wx
          obtain ⟨j, hj, rfl, hall2, hBw, hB2, hbk2, hgb2⟩ := hrel
          have f1 : wx.cell? ⟨_, 1, none⟩ = some (.slice AI ins.length ci) := (blk_cell hgb2.out 1).trans rfl
          by_cases hlt2 : j < ins.length
          · obtain ⟨adi, rfl, hci⟩ := rdN (HRI.out.below hBw.out) j hlt2
            have e0 : wx.cell? ⟨w.heap.size, 0, none⟩ = some (.int .i64 nets) := (blk_cell hbk2.out 0).trans rfl
            have f0 : wx.cell? ⟨_, 0, none⟩ = some (.int .i64 0) := (blk_cell hgb2.out 0).trans rfl
            generalize hx : ins.getD j 0 = x at *
            have HX := Lib.hid hx; clear hx
            by_cases hv : x < 0 ∨ 8 < x
            · have hs : inOk nets 0 x = false := by unfold inOk; rw [if_pos rfl]; unfold isVal; simp; omega
              have HS := Lib.hid hs; clear hs
              have HBAD := Lib.hid (all_bad (p := gateOk nets) (by rw [HL.out]; exact hlt) (by rw [HG.out]; exact gateOk_false (nets := nets) (.inr (.inr (.inr (.inr (.inr (ins_bad hlt2 (by rw [HX.out]; exact HS.out)))))))))
              by_cases hv1 : x < 0
              all_goals try have hv2 : 8 < x := by omega
              all_goals clear hv
              all_goals go_wp2
              all_goals go_ret
              all_goals exact ⟨ret_int (by rw [HV.out, HBAD.out]), hB2.out⟩
            · have hs : inOk nets 0 x = true := by unfold inOk; rw [if_pos rfl]; unfold isVal; simp; omega
              have HS := Lib.hid hs; clear hs
              have hv1 : ¬ x < 0 := by omega
              have hv2 : ¬ 8 < x := by omega
              clear hv
              go_wp2
              go_round
              case rel => exact ⟨j + 1, by omega, by go_num, Lib.hid ((take_all_succ hlt2 hall2.out).trans (by rw [HX.out]; exact HS.out)), hBw, hB2, Lib.hid hbk2.out, Lib.hid hgb2.out⟩
              case measure => simp [intOf]; omega
          · have hall3 : ins.all (inOk nets 0) = true := by
              have h := hall2.out
              rwa [List.take_of_length_le (by omega)] at h
            have HOK := Lib.hid (gateOk_true (nets := nets) (g := ⟨0, ins, out, dl⟩) (by rw [HK1.out, HI.out]) (by show 0 ≤ out; omega) (by show out < nets; omega) (by show 0 ≤ dl; omega) (by show dl ≤ 20; omega) hall3)
            go_wp2
            go_round
            case rel => exact ⟨k + 1, by omega, by go_num, Lib.hid (gtake_succ (by rw [HL.out]; exact hlt) hall.out (by rw [HG.out]; exact HOK.out)), hB2, hbk2⟩
            case measure => simp [intOf]; omega
      · skip
        go_wp2
        go_quiet ((go_at_call 41; exact Calls.quiet_of_same ((refInputs_any _ _).mono fun _ _ h => ⟨by rw [h.1, HI.out], h.2.symm⟩)))
        go_wp2
        have hgb : ((wr.alloc (.cells #[.int .i64 kd, .slice AI ins.length ci, .int .i64 out, .int .i64 dl] 88)).drewN nq).heap[wr.heap.size]? = some (.cells #[.int .i64 kd, .slice AI ins.length ci, .int .i64 out, .int .i64 dl] 88 (0, 0)) := blk_new wr _
        have HGB := Lib.hid hgb; clear hgb
        have HBW := Lib.hid (show Below wr.heap.size wr ((wr.alloc (.cells #[.int .i64 kd, .slice AI ins.length ci, .int .i64 out, .int .i64 dl] 88)).drewN nq) from pw_below_drewN ((Below.refl _ _).alloc (Nat.le_refl _) _) _)
        have HRI := Lib.hid (show ReadsInt wr .i64 AI ins.length ins from G3.out)
        go_loopw [6] (fun i wx => ∃ j : Nat, j ≤ ins.length ∧ i = .int .i64 j ∧ Hid ((ins.take j).all (inOk nets kd) = true) ∧ Hid (Below wr.heap.size wr wx) ∧ Hid (Below w.heap.size w wx) ∧ Hid (wx.heap[w.heap.size]? = some (.cells #[.int .i64 nets, .slice (some ad) n c] 39 (0, 0))) ∧ Hid (wx.heap[wr.heap.size]? = some (.cells #[.int .i64 kd, .slice AI ins.length ci, .int .i64 out, .int .i64 dl] 88 (0, 0)))) (fun i _ => ins.length - (intOf i).toNat)
        case atStart => exact ⟨0, by omega, rfl, Lib.hid rfl, HBW, Lib.hid (pw_below_drewN HB1.out _), Lib.hid HBK1.out, HGB⟩
        case round =>
          rename World => wx
          obtain ⟨j, hj, rfl, hall2, hBw, hB2, hbk2, hgb2⟩ := hrel
          have f1 : wx.cell? ⟨_, 1, none⟩ = some (.slice AI ins.length ci) := (blk_cell hgb2.out 1).trans rfl
          by_cases hlt2 : j < ins.length
          · obtain ⟨adi, rfl, hci⟩ := rdN (HRI.out.below hBw.out) j hlt2
            have e0 : wx.cell? ⟨w.heap.size, 0, none⟩ = some (.int .i64 nets) := (blk_cell hbk2.out 0).trans rfl
            have f0 : wx.cell? ⟨_, 0, none⟩ = some (.int .i64 kd) := (blk_cell hgb2.out 0).trans rfl
            generalize hx : ins.getD j 0 = x at *
            have HX := Lib.hid hx; clear hx
            by_cases hv : x < 0 ∨ nets - 1 < x
            · have hs : inOk nets kd x = false := by unfold inOk; rw [if_neg hk0]; simp; omega
              have HS := Lib.hid hs; clear hs
              have HBAD := Lib.hid (all_bad (p := gateOk nets) (by rw [HL.out]; exact hlt) (by rw [HG.out]; exact gateOk_false (nets := nets) (.inr (.inr (.inr (.inr (.inr (ins_bad hlt2 (by rw [HX.out]; exact HS.out)))))))))
              by_cases hv1 : x < 0
              all_goals try have hv2 : nets - 1 < x := by omega
              all_goals clear hv
              all_goals go_wp2
              all_goals go_ret
              all_goals exact ⟨ret_int (by rw [HV.out, HBAD.out]), hB2.out⟩
            · have hs : inOk nets kd x = true := by unfold inOk; rw [if_neg hk0]; simp; omega
              have HS := Lib.hid hs; clear hs
              have hv1 : ¬ x < 0 := by omega
              have hv2 : ¬ nets - 1 < x := by omega
              clear hv
              go_wp2
              go_round
              case rel => exact ⟨j + 1, by omega, by go_num, Lib.hid ((take_all_succ hlt2 hall2.out).trans (by rw [HX.out]; exact HS.out)), hBw, hB2, Lib.hid hbk2.out, Lib.hid hgb2.out⟩
              case measure => simp [intOf]; omega
          · have hall3 : ins.all (inOk nets kd) = true := by
              have h := hall2.out
              rwa [List.take_of_length_le (by omega)] at h
            have HOK := Lib.hid (gateOk_true (nets := nets) (g := ⟨kd, ins, out, dl⟩) (by rw [HK1.out, HI.out]) (by show 0 ≤ out; omega) (by show out < nets; omega) (by show 0 ≤ dl; omega) (by show dl ≤ 20; omega) hall3)
            go_wp2
            go_round
            case rel => exact ⟨k + 1, by omega, by go_num, Lib.hid (gtake_succ (by rw [HL.out]; exact hlt) hall.out (by rw [HG.out]; exact HOK.out)), hB2, hbk2⟩
            case measure => simp [intOf]; omega
    · go_wp2
      go_ret
      refine ⟨ret_int ?_, hB.out⟩
      have : gs.take k = gs := List.take_of_length_le (by rw [HL.out]; omega)
      rw [HV.out, all_good (by have h := hall.out; rwa [this] at h)]
end Go.Proofs.Ytobdhdehmkmjcaa
namespace Go.Proofs.Ytobdhdehmkmjcaa
set_option linter.unusedVariables false
set_option linter.unusedSimpArgs false
open Go.RowKit Go.Proofs.YtobdhdehmkmjcaaW.PrintWords Go.Proofs.YtobdhdehmkmjcaaW.PrintLast

theorem validF_ok {nets : Int} {gs : List GateL} (h : validF nets gs = 0) : 1 ≤ nets ∧ nets ≤ 40 ∧ gs.length ≤ 60 ∧ gs.all (gateOk nets) = true := by
  unfold validF at h
  split at h
  · cases h
  · split at h
    · cases h
    · split at h
      · rename_i h1 h2 h3
        exact ⟨by omega, by omega, by omega, h3⟩
      · cases h
end Go.Proofs.Ytobdhdehmkmjcaa
namespace Go.Proofs.Ytobdhdehmkmjcaa
set_option linter.unusedVariables false
set_option linter.unusedSimpArgs false
namespace Rows0
section
variable (fd : Nat → Nat → Bool) (n : Nat)
end
variable {fd : Nat → Nat → Bool} {n : Nat}
def Le (n : Nat) (a b : List Int) : Prop := ∀ i, i < n → a.getD i 0 ≤ b.getD i 0
theorem Le.trans {a b c : List Int} (h : Le n a b) (k : Le n b c) : Le n a c := fun i hi => Int.le_trans (h i hi) (k i hi)
/-- A fixed point's values have no gaps. -/
def cnt (f : List Int) (v : Int) : Nat → Nat
  | 0 => 0
  | m + 1 => cnt f v m + if f.getD m 0 ≤ v then 1 else 0
end Rows0
end Go.Proofs.Ytobdhdehmkmjcaa
namespace Go.Proofs.Ytobdhdehmkmjcaa
set_option linter.unusedVariables false
set_option linter.unusedSimpArgs false
open Rows0

def dv (weak : Bool) (x : Int) : Int := if weak then 6 + x else 2 + x
end Go.Proofs.Ytobdhdehmkmjcaa
namespace Go.Proofs.Ytobdhdehmkmjcaa
set_option linter.unusedVariables false
set_option linter.unusedSimpArgs false
open Go.RowKit Go.Proofs.YtobdhdehmkmjcaaW.PrintWords Go.Proofs.YtobdhdehmkmjcaaW.PrintLast

theorem row_ne_blk {W : World} {b n g : Nat} {e t : TypeId} {sz : Nat} {v : Value} {xs : List Value} {cs : Array Value} (h : W.ownsRow b e sz v n xs) (hb : W.heap[g]? = some (.cells cs t (0, 0))) (hne : t ≠ e) : some g ≠ v.ownBlock := by
  intro e'
  rcases h.2 with ⟨rfl, _⟩ | ⟨g', cap, cur, rfl, _, hh, _⟩
  · cases e'
  · simp only [Value.ownBlock, Option.some.injEq] at e'
    subst e'
    rw [hb] at hh
    injection hh with hh
    injection hh with _ h2
    exact hne h2

end Go.Proofs.Ytobdhdehmkmjcaa
namespace Go.Proofs.Ytobdhdehmkmjcaa
set_option linter.unusedVariables false
set_option linter.unusedSimpArgs false
open Go.RowKit Go.Proofs.YtobdhdehmkmjcaaW.PrintWords Go.Proofs.YtobdhdehmkmjcaaW.PrintLast

def flatD (ds : List DriveL) : List Value := ds.flatMap fun d => [.int .i64 d.net, .int .i64 d.v]
def GCells (W : World) (b : Nat) : List GateL → List Value → Prop
  | [], cs => cs = []
  | g :: gs, cs => ∃ vI rest, cs = .int .i64 g.kind :: vI :: .int .i64 g.out :: .int .i64 g.delay :: rest ∧ W.ownsRow b 3 1 vI g.ins.length (nums .i64 g.ins) ∧ GCells W b gs rest
theorem GCells.imp {W W' : World} {b : Nat} (h : ∀ v n xs, W.ownsRow b 3 1 v n xs → W'.ownsRow b 3 1 v n xs) : ∀ {gs : List GateL} {cs : List Value}, GCells W b gs cs → GCells W' b gs cs
  | [], _, h0 => h0
  | g :: gs, cs, ⟨vI, rest, e, h1, h2⟩ => ⟨vI, rest, e, h _ _ _ h1, GCells.imp h h2⟩
theorem GCells.at_ {W : World} {b : Nat} : ∀ {gs : List GateL} {cs : List Value}, GCells W b gs cs → ∀ i, i < gs.length → ∃ vI, cs[i * 4]? = some (.int .i64 (gs.getD i zGate).kind) ∧ cs[i * 4 + 1]? = some vI ∧ cs[i * 4 + 2]? = some (.int .i64 (gs.getD i zGate).out) ∧ cs[i * 4 + 3]? = some (.int .i64 (gs.getD i zGate).delay) ∧ W.ownsRow b 3 1 vI (gs.getD i zGate).ins.length (nums .i64 (gs.getD i zGate).ins)
  | [], _, _, i, hi => by simp at hi
  | g :: gs, cs, ⟨vI, rest, e, h1, h2⟩, 0, _ => by subst e; exact ⟨vI, rfl, rfl, rfl, rfl, h1⟩
  | g :: gs, cs, ⟨vI, rest, e, h1, h2⟩, i + 1, hi => by
    subst e
    obtain ⟨v, e0, e1, e2, e3, e4⟩ := GCells.at_ h2 i (by simpa using hi)
    refine ⟨v, ?_, ?_, ?_, ?_, ?_⟩
    · rw [show (i + 1) * 4 = i * 4 + 4 by omega]; simpa using e0
    · rw [show (i + 1) * 4 + 1 = (i * 4 + 1) + 4 by omega]; simpa using e1
    · rw [show (i + 1) * 4 + 2 = (i * 4 + 2) + 4 by omega]; simpa using e2
    · rw [show (i + 1) * 4 + 3 = (i * 4 + 3) + 4 by omega]; simpa using e3
    · simpa using e4
def GRow (W : World) (b : Nat) (v : Value) (gs : List GateL) : Prop := ∃ cs, W.ownsRow b 88 4 v gs.length cs ∧ GCells W b gs cs
theorem GRow.below {W W' : World} {b : Nat} {v : Value} {gs : List GateL} (h : GRow W b v gs) (hb : Below W.heap.size W W') : GRow W' b v gs := by
  obtain ⟨cs, h1, h2⟩ := h
  exact ⟨cs, pw_own_below h1 hb, h2.imp fun _ _ _ h => pw_own_below h hb⟩
theorem GRow.setCell {W : World} {b : Nat} {v : Value} {gs : List GateL} (h : GRow W b v gs) {p : Addr} (hp : p.block < b) (u : Value) : GRow (W.setCell p u) b v gs := by
  obtain ⟨cs, h1, h2⟩ := h
  refine ⟨cs, own_setCell h1 (fun e => by have := own_base h1 _ e.symm; omega) u, h2.imp fun v' n xs h => own_setCell h (fun e => by have := own_base h _ e.symm; omega) u⟩
theorem own_cells {W : World} {b n size : Nat} {e : TypeId} {v : Value} {xs : List Value} (h : W.ownsRow b e size v n xs) (hn : 0 < n) : ∃ g c, v = .slice (some ⟨g, 0, none⟩) n c ∧ n ≤ c ∧ n ≤ maxLen ∧ ∀ j u, xs[j]? = some u → W.cell? ⟨g, j, none⟩ = some u := by
  rcases h.2 with ⟨rfl, h0⟩ | ⟨g, cap, cur, rfl, hg, hc, hn', hm, hs, ht⟩
  · omega
  · refine ⟨g, cap, rfl, hn', by omega, fun j u hj => ?_⟩
    rw [blk_cell hc]
    rw [← ht] at hj
    rw [List.getElem?_take] at hj
    split at hj
    · simpa using hj
    · cases hj
theorem own_le' {W : World} {b n c : Nat} {e : TypeId} {size : Nat} {A : Option Addr} {xs : List Value} (h : W.ownsRow b e size (.slice A n c) n xs) : n ≤ c := by
  rcases h.2 with ⟨e1, h0⟩ | ⟨g, cap, cur, e1, hg, hc, hn', _⟩
  · omega
  · injection e1 with _ _ e3
    omega
theorem GRow.reads {W : World} {b : Nat} {v : Value} {gs : List GateL} (h : GRow W b v gs) (hn : 0 < gs.length) : ∃ A c, v = .slice A gs.length c ∧ gs.length ≤ c ∧ RdGates W A gs.length gs := by
  obtain ⟨cs, h1, h2⟩ := h
  obtain ⟨g, c, rfl, hc, hm, hcell⟩ := own_cells h1 hn
  refine ⟨_, c, rfl, hc, rfl, by simp only [maxLen] at hm; omega, fun _ => ⟨_, rfl, fun i hi => ?_⟩⟩
  obtain ⟨vI, e0, e1, e2, e3, e4⟩ := h2.at_ i hi
  obtain ⟨AI, cI, rfl⟩ := own_slice e4
  have ea : (⟨g, 0, none⟩ : Addr).add (i * 4) = ⟨g, i * 4, none⟩ := by simp [Addr.add]; exact Eq.symm
  rw [ea]
  exact ⟨hcell _ _ e0, ⟨AI, cI, hcell _ _ e1, own_reads' e4, own_le' e4⟩, hcell _ _ e2, hcell _ _ e3⟩
theorem flatD_at : ∀ {ds : List DriveL} (i : Nat), i < ds.length → (flatD ds)[i * 2]? = some (.int .i64 (ds.getD i zDrive).net) ∧ (flatD ds)[i * 2 + 1]? = some (.int .i64 (ds.getD i zDrive).v)
  | [], i, hi => by simp at hi
  | d :: ds, 0, _ => ⟨rfl, rfl⟩
  | d :: ds, i + 1, hi => by
    obtain ⟨h1, h2⟩ := flatD_at (ds := ds) i (by simpa using hi)
    have e : flatD (d :: ds) = .int .i64 d.net :: .int .i64 d.v :: flatD ds := rfl
    rw [e]
    refine ⟨?_, ?_⟩
    · rw [show (i + 1) * 2 = i * 2 + 2 by omega]; simpa using h1
    · rw [show (i + 1) * 2 + 1 = (i * 2 + 1) + 2 by omega]; simpa using h2
theorem drow_reads {W : World} {b : Nat} {v : Value} {ds : List DriveL} (h : W.ownsRow b 85 2 v ds.length (flatD ds)) (hn : 0 < ds.length) : ∃ A c, v = .slice A ds.length c ∧ ds.length ≤ c ∧ RdDrives W A ds.length ds := by
  obtain ⟨g, c, rfl, hc, hm, hcell⟩ := own_cells h hn
  refine ⟨_, c, rfl, hc, rfl, by simp only [maxLen] at hm; omega, fun _ => ⟨_, rfl, fun i hi => ?_⟩⟩
  obtain ⟨e0, e1⟩ := flatD_at i hi
  have ea : (⟨g, 0, none⟩ : Addr).add (i * 2) = ⟨g, i * 2, none⟩ := by simp [Addr.add]; exact Eq.symm
  rw [ea]
  exact ⟨hcell _ _ e0, hcell _ _ e1⟩
theorem flatD_append (xs ys : List DriveL) : flatD (xs ++ ys) = flatD xs ++ flatD ys := by simp [flatD]
theorem info85 : (Try.prog.info? 85).map (fun i => (i.zero, i.size, i.bytes)) = some (some (.agg #[.int .i64 0, .int .i64 0]), 2, 16) := by kernel_rfl
theorem GRow.grown {W w1 : World} {b b' n : Nat} {sz : Nat} {v vd : Value} {gs : List GateL} {xs : List Value} (h : GRow W b v gs) (hd : W.ownsRow b' 85 sz vd n xs) (hg : W.grownBy w1 vd.ownBlock) : GRow w1 b v gs := by
  obtain ⟨cs, h1, h2⟩ := h
  exact ⟨cs, own_other h1 hg (own_type_ne h1 hd (by decide)), h2.imp fun _ _ _ h => own_other h hg (own_type_ne h hd (by decide))⟩
end Go.Proofs.Ytobdhdehmkmjcaa
