/- Whether a gate has a delay; whether lists are equal; what a gate is asked (reference). -/
import Derived.Test.YtobdhdehmkmjcaaX5
namespace Go.Proofs.Ytobdhdehmkmjcaa
set_option linter.unusedVariables false
set_option linter.unusedSimpArgs false
open Go.RowKit Go.Proofs.YtobdhdehmkmjcaaW.PrintWords Go.Proofs.YtobdhdehmkmjcaaW.PrintLast

set_option maxHeartbeats 1000000 in
theorem requal_any (A B : Option Addr) (n c d : Nat) (xs ys : List Int) (w : World) (hx : ReadsInt w .i64 A n xs) (hy : ReadsInt w .i64 B n ys) :
    Calls Try.prog 57 #[.slice A n c, .slice B n d] w fun e w' => e = .returned (.bool (sameB xs ys)) ∧ ∃ q, w' = w.drewN q := by
  have hm1 := hx.2.1
  have HL1 := Lib.hid hx.1
  have HL2 := Lib.hid hy.1
  go_enter Try.func57, Try.ntmps57
  go_wp2
  go_loopw [5] (fun i wr => ∃ k : Nat, k ≤ n ∧ i = .int .i64 k ∧ Hid (xs.take k = ys.take k) ∧ ∃ q, wr = w.drewN q) (fun i _ => n - (intOf i).toNat)
  case atStart => exact ⟨0, by omega, rfl, rfl, 0, rfl⟩
  case round =>
    obtain ⟨k, hk1, rfl, hT, q, rfl⟩ := hrel
    by_cases h1 : k < n
    · obtain ⟨ad, rfl, hc⟩ := rdN hx k h1
      obtain ⟨bd, rfl, hd⟩ := rdN hy k h1
      by_cases he : xs.getD k 0 = ys.getD k 0
      · have HT := Lib.hid (take_eq_succ (by rw [HL1.out]; exact h1) (by rw [HL2.out]; exact h1) hT.out he)
        rw [he] at hc
        clear he
        generalize ys.getD k 0 = y at *
        go_wp2
        go_quiet (fail)
        go_wp2
        go_roundw
        case rel => exact ⟨k + 1, by omega, by go_num, HT, _, by first | rfl | rw [World.drewN_drewN]⟩
        case measure => simp [intOf]; omega
      · have HT := Lib.hid (sameB_ne he)
        have he3 : (xs.getD k 0 != ys.getD k 0) = true := by simpa using he
        clear he
        generalize ys.getD k 0 = y at *
        generalize xs.getD k 0 = x at *
        go_wp2
        go_quiet (fail)
        go_wp2
        go_ret
        exact ⟨ret_bool HT.out.symm, _, by first | rfl | rw [World.drewN_drewN]⟩
    · have HT := Lib.hid (sameB_end (k := k) (by rw [HL1.out]; exact hk1) (by rw [HL2.out]; exact hk1) hT.out (.inl (by rw [HL1.out]; omega)))
      rw [HL1.out, HL2.out] at HT
      go_wp2
      go_ret
      refine ⟨ret_bool ?_, _, rfl⟩
      rw [HT.out]
      simp

def delB (gs : List GateL) : Bool := gs.any fun g => g.delay != 0
theorem delB_at {gs : List GateL} {k : Nat} (hk : k < gs.length) (h : (gs.getD k zGate).delay ≠ 0) : delB gs = true := by
  unfold delB
  rw [List.any_eq_true]
  rw [List.getD_eq_getElem?_getD, List.getElem?_eq_getElem hk] at h
  exact ⟨_, List.getElem_mem _, by simpa using h⟩
theorem delB_succ {gs : List GateL} {k : Nat} (hk : k < gs.length) (h : delB (gs.take k) = false) (h2 : (gs.getD k zGate).delay = 0) : delB (gs.take (k + 1)) = false := by
  unfold delB at *
  rw [List.take_succ_eq_append_getElem hk, List.any_append, h]
  rw [List.getD_eq_getElem?_getD, List.getElem?_eq_getElem hk] at h2
  simpa using h2

set_option maxHeartbeats 1000000 in
theorem rdelayed_any (nets : Int) (A : Option Addr) (n c : Nat) (gs : List GateL) (w : World) (hr : RdGates w A n gs) :
    Calls Try.prog 87 #[.agg #[.int .i64 nets, .slice A n c]] w fun e w' => e = .returned (.bool (delB gs)) ∧ Below w.heap.size w w' := by
  have HL := Lib.hid hr.1
  have hm := hr.2.1
  have hB : Below w.heap.size w (w.alloc (.cells #[.int .i64 nets, .slice A n c] 39)) := (Below.refl _ _).alloc (Nat.le_refl _) _
  have HB0 := Lib.hid hB; clear hB
  have hbk : (w.alloc (.cells #[.int .i64 nets, .slice A n c] 39)).heap[w.heap.size]? = some (.cells #[.int .i64 nets, .slice A n c] 39 (0, 0)) := blk_new _ _
  have HBK := Lib.hid hbk; clear hbk
  have HR := Lib.hid hr; clear hr
  go_enter Try.func87, Try.ntmps87
  go_wp2
  go_loopw [3] (fun i wr => ∃ k : Nat, k ≤ n ∧ i = .int .i64 k ∧ Hid (delB (gs.take k) = false) ∧ Hid (Below w.heap.size w wr) ∧ Hid (wr.heap[w.heap.size]? = some (.cells #[.int .i64 nets, .slice A n c] 39 (0, 0)))) (fun i _ => n - (intOf i).toNat)
  case atStart => exact ⟨0, by omega, rfl, rfl, HB0.out, HBK.out⟩
  case round =>
    obtain ⟨k, hk, rfl, hall, hB, hbk⟩ := hrel
    have c9 : wr.cell? ⟨w.heap.size, 1, none⟩ = some (.slice A n c) := (blk_cell hbk.out 1).trans rfl
    by_cases hlt : k < n
    · obtain ⟨ad, rfl, hg⟩ := (HR.out.below hB.out).at_ k hlt
      obtain ⟨g1, ⟨AI, ci, g2, g3, g4⟩, g5, g6⟩ := hg
      clear g1 g2 g3 g4 g5
      by_cases h0 : (gs.getD k zGate).delay = 0
      · have HS := Lib.hid (delB_succ (by rw [HL.out]; exact hlt) hall.out h0)
        rw [h0] at g6
        clear h0
        go_wp2
        go_roundw
        case rel => exact ⟨k + 1, by omega, by go_num, HS, hB, hbk⟩
        case measure => simp [intOf]; omega
      · have HS := Lib.hid (delB_at (by rw [HL.out]; exact hlt) h0)
        have h1 : ((gs.getD k zGate).delay == 0) = false := by simpa using h0
        have h2 : ((gs.getD k zGate).delay != 0) = true := by simpa using h0
        clear h0
        generalize (gs.getD k zGate).delay = dl at *
        go_wp2
        go_ret
        exact ⟨ret_bool HS.out.symm, hB.out⟩
    · go_wp2
      go_ret
      refine ⟨ret_bool ?_, hB.out⟩
      have h := hall.out
      rw [List.take_of_length_le (by rw [HL.out]; omega)] at h
      exact h.symm

set_option maxHeartbeats 400000 in
theorem del82_any (kd : Int) (AI : Option Addr) (ni ci : Nat) (out dl : Int) (w : World) :
    Calls Try.prog 82 #[.agg #[.int .i64 kd, .slice AI ni ci, .int .i64 out, .int .i64 dl]] w fun e w' => e = .returned (.bool (dl != 0)) ∧ Below w.heap.size w w' := by
  have hB : Below w.heap.size w (w.alloc (.cells #[.int .i64 kd, .slice AI ni ci, .int .i64 out, .int .i64 dl] 88)) := (Below.refl _ _).alloc (Nat.le_refl _) _
  have HB0 := Lib.hid hB; clear hB
  go_enter Try.func82, Try.ntmps82
  go_wp2
  go_ret
  exact ⟨rfl, HB0.out⟩
theorem del82_is (kd : Int) (AI : Option Addr) (ni ci : Nat) (out dl : Int) (b : Bool) (w : World) (hb : Hid ((dl != 0) = b)) :
    Calls Try.prog 82 #[.agg #[.int .i64 kd, .slice AI ni ci, .int .i64 out, .int .i64 dl]] w fun e w' => e = .returned (.bool b) ∧ Below w.heap.size w w' := by
  have h := del82_any kd AI ni ci out dl w
  rwa [hb.out] at h

set_option maxHeartbeats 1000000 in
theorem index101_any (A : Option Addr) (n c : Nat) (gs : List GateL) (w : World) (hr : RdGates w A n gs) :
    Calls Try.prog 101 #[.slice A n c, .func (.func 82) #[] #[]] w fun e w' => (∃ r : Int, e = .returned (.int .i64 r) ∧ (decide (0 ≤ r)) = delB gs) ∧ Below w.heap.size w w' := by
  have HL := Lib.hid hr.1
  have hm := hr.2.1
  have HR := Lib.hid hr; clear hr
  go_enter Try.func101, Try.ntmps101
  go_wp2
  go_loopw [8] (fun i wr => ∃ k : Nat, k ≤ n ∧ i = .int .i64 k ∧ Hid (delB (gs.take k) = false) ∧ Hid (Below w.heap.size w wr)) (fun i _ => n - (intOf i).toNat)
  case atStart => exact ⟨0, by omega, rfl, Lib.hid rfl, Lib.hid (Below.refl _ _)⟩
  case round =>
    obtain ⟨k, hk, rfl, hany, hB⟩ := hrel
    by_cases hlt : k < n
    · obtain ⟨ad, rfl, hg⟩ := (HR.out.below hB.out).at_ k hlt
      obtain ⟨g1, ⟨AI, ci, g2, g3, g4⟩, g5, g6⟩ := hg
      clear g3 g4
      cases hb : ((gs.getD k zGate).delay != 0)
      · have HS := Lib.hid (delB_succ (by rw [HL.out]; exact hlt) hany.out (by simpa using hb))
        have HBB := Lib.hid hb; clear hb
        generalize gs.getD k zGate = G at *
        obtain ⟨kd, ins, out, dl⟩ := G
        go_wp2_with (go_at_call 82; refine (del82_is _ _ _ _ _ _ _ _ HBB).mono ?_; rintro e w' ⟨rfl, hb1⟩; have HB1 := Lib.hid (hB.out.trans (hb1.mono hB.out.size)); clear hb1)
        go_roundw
        case rel => exact ⟨k + 1, by omega, by go_num, HS, HB1⟩
        case measure => simp [intOf]; omega
      · have HS := Lib.hid (delB_at (k := k) (by rw [HL.out]; exact hlt) (by simpa using hb))
        have HBB := Lib.hid hb; clear hb
        generalize gs.getD k zGate = G at *
        obtain ⟨kd, ins, out, dl⟩ := G
        go_wp2_with (go_at_call 82; refine (del82_is _ _ _ _ _ _ _ _ HBB).mono ?_; rintro e w' ⟨rfl, hb1⟩; have HB1 := Lib.hid (hB.out.trans (hb1.mono hB.out.size)); clear hb1)
        go_ret
        exact ⟨⟨_, rfl, by rw [HS.out]; simp⟩, HB1.out⟩
    · go_wp2
      go_ret
      refine ⟨⟨_, rfl, ?_⟩, hB.out⟩
      have h := hany.out
      rw [List.take_of_length_le (by rw [HL.out]; omega)] at h
      rw [h]
      rfl
set_option maxHeartbeats 400000 in
theorem contains81_any (A : Option Addr) (n c : Nat) (gs : List GateL) (w : World) (hr : RdGates w A n gs) :
    Calls Try.prog 81 #[.slice A n c, .func (.func 82) #[] #[]] w fun e w' => e = .returned (.bool (delB gs)) ∧ Below w.heap.size w w' := by
  have HR := Lib.hid hr; clear hr
  go_enter Try.func81, Try.ntmps81
  go_wp2_with (go_at_call 101; refine (index101_any _ _ _ _ _ HR.out).mono ?_; rintro e w' ⟨⟨r, rfl, hr⟩, hb⟩; have HRR := Lib.hid hr; clear hr; have HB := Lib.hid hb; clear hb)
  go_ret
  exact ⟨ret_bool HRR.out, HB.out⟩
set_option maxHeartbeats 400000 in
theorem delayed_any (nets : Int) (A : Option Addr) (n c : Nat) (gs : List GateL) (w : World) (hr : RdGates w A n gs) :
    Calls Try.prog 51 #[.agg #[.int .i64 nets, .slice A n c]] w fun e w' => e = .returned (.bool (delB gs)) ∧ Below w.heap.size w w' := by
  have hB : Below w.heap.size w (w.alloc (.cells #[.int .i64 nets, .slice A n c] 39)) := (Below.refl _ _).alloc (Nat.le_refl _) _
  have hr1 := hr.below hB
  have HB0 := Lib.hid hB; clear hB
  have HR := Lib.hid hr1; clear hr hr1
  go_enter Try.func51, Try.ntmps51
  go_wp2_with fail
  refine (contains81_any _ _ _ _ _ HR.out).mono ?_
  rintro e w' ⟨rfl, hb⟩
  have HB := Lib.hid (HB0.out.trans (hb.mono HB0.out.size)); clear hb
  go_wp2_with fail
  go_ret
  exact ⟨rfl, HB.out⟩

set_option maxHeartbeats 1000000 in
set_option maxRecDepth 100000 in
theorem rasked_any (kd : Int) (ins : List Int) (out dl : Int) (AI : Option Addr) (ci : Nat) (B : Option Addr) (m d : Nat) (nets : Int) (now : List Int) (w : World)
    (hok : gateOk nets ⟨kd, ins, out, dl⟩ = true) (hm : (m : Int) = nets) (hr : ReadsInt w .i64 AI ins.length ins) (hn : ReadsInt w .i64 B m now) :
    Calls Try.prog 55 #[.agg #[.int .i64 kd, .slice AI ins.length ci, .int .i64 out, .int .i64 dl], .slice B m d] w fun e w' => e = .returned (.int .i64 (ansF ⟨kd, ins, out, dl⟩ now)) ∧ Below w.heap.size w w' := by
  have hlen := gateOk_len hok
  have hB : Below w.heap.size w (w.alloc (.cells #[.int .i64 kd, .slice AI ins.length ci, .int .i64 out, .int .i64 dl] 88)) := (Below.refl _ _).alloc (Nat.le_refl _) _
  have hgb : (w.alloc (.cells #[.int .i64 kd, .slice AI ins.length ci, .int .i64 out, .int .i64 dl] 88)).heap[w.heap.size]? = some (.cells #[.int .i64 kd, .slice AI ins.length ci, .int .i64 out, .int .i64 dl] 88 (0, 0)) := blk_new w _
  by_cases h0 : kd = 0
  · subst h0
    have h1 : (ins.length : Int) = 1 := hlen
    have hl1 : ins.length = 1 := by omega
    have hr1 := hr.below hB
    obtain ⟨ad, rfl, hc⟩ := rdN hr1 0 (by omega)
    have HE := Lib.hid (show ansF ⟨0, ins, out, dl⟩ now = ins.getD 0 0 from rfl)
    generalize ins.getD 0 0 = v at *
    generalize ansF ⟨0, ins, out, dl⟩ now = v2 at *
    have HB := Lib.hid hB; clear hB
    clear hlen hok hr hr1 h1
    have f0 : (w.alloc (.cells #[.int .i64 0, .slice (some ad) ins.length ci, .int .i64 out, .int .i64 dl] 88)).cell? ⟨w.heap.size, 0, none⟩ = some (.int .i64 0) := (blk_cell hgb 0).trans rfl
    have f1 : (w.alloc (.cells #[.int .i64 0, .slice (some ad) ins.length ci, .int .i64 out, .int .i64 dl] 88)).cell? ⟨w.heap.size, 1, none⟩ = some (.slice (some ad) ins.length ci) := (blk_cell hgb 1).trans rfl
    have hc0 : (w.alloc (.cells #[.int .i64 0, .slice (some ad) ins.length ci, .int .i64 out, .int .i64 dl] 88)).cell? ad = some (.int .i64 v) := by
      have h := hc
      rwa [show ad.add 0 = ad by simp [Addr.add]] at h
    clear hgb
    have hpos : 0 < ins.length := by omega
    generalize ins.length = ln at *
    clear hl1
    go_enter Try.func55, Try.ntmps55
    go_wp2
    go_ret
    exact ⟨ret_int HE.out.symm, HB.out⟩
  · have e : ansF ⟨kd, ins, out, dl⟩ now = gateVal kd (askedL ins now) := if_neg h0
    have hmi := hr.2.1
    have hmm := hn.2.1
    have hk2 : ins.length ≤ 2 := by rcases inputs_kind h0 hlen with ⟨_, h⟩ | ⟨_, h⟩ | ⟨_, h⟩ | ⟨_, h⟩ | ⟨_, h⟩ | ⟨_, h⟩ <;> (have h2 : ins.length = _ := h; omega)
    have HIN := Lib.hid (fun k (hk : k < ins.length) => gateOk_ins hok h0 hk)
    have HE := Lib.hid e; clear e
    have HB := Lib.hid hB; clear hB
    have HGB := Lib.hid hgb; clear hgb
    have HR := Lib.hid hr; clear hr
    have HN := Lib.hid hn; clear hn
    have HLEN := Lib.hid hlen; clear hlen
    have HM := Lib.hid hm; clear hm
    clear hok
    have hsz : (w.alloc (.cells #[.int .i64 kd, .slice AI ins.length ci, .int .i64 out, .int .i64 dl] 88)).heap.size = w.heap.size + 1 := by simp
    have HSZ := Lib.hid hsz; clear hsz
    have hk00 : (kd == 0) = false := by simp [h0]
    go_enter Try.func55, Try.ntmps55
    go_wp2
    go_loopw [5, 6] (fun o i wr => ∃ k : Nat, k ≤ ins.length ∧ i = .int .i64 k ∧ Hid (Below (w.heap.size + 1) (w.alloc (.cells #[.int .i64 kd, .slice AI ins.length ci, .int .i64 out, .int .i64 dl] 88)) wr) ∧ Hid (wr.ownsRow (w.heap.size + 1) 3 1 o (askedL (ins.take k) now).length (nums .i64 (askedL (ins.take k) now)))) (fun _ i _ => ins.length - (intOf i).toNat)
    case atStart => exact ⟨0, by omega, rfl, Lib.hid (Below.refl _ _), Lib.hid (own_nil _ _ _ _)⟩
    case round =>
      obtain ⟨k, hk, rfl, hB1, hown⟩ := hrel
      have hB : Hid (Below w.heap.size w wr) := Lib.hid (HB.out.trans (hB1.out.mono (Nat.le_succ _)))
      have hgb := Lib.hid ((hB1.out.block _ (Nat.lt_succ_self _)).trans HGB.out)
      have f0 : wr.cell? ⟨w.heap.size, 0, none⟩ = some (.int .i64 kd) := (blk_cell hgb.out 0).trans rfl
      have f1 : wr.cell? ⟨w.heap.size, 1, none⟩ = some (.slice AI ins.length ci) := (blk_cell hgb.out 1).trans rfl
      by_cases hlt : k < ins.length
      · obtain ⟨ad, rfl, hc⟩ := rdN (HR.out.below hB.out) k hlt
        obtain ⟨i0, i1⟩ := HIN.out k hlt
        have HS := Lib.hid (asked_succ (now := now) hlt)
        generalize hx : ins.getD k 0 = x at *
        obtain ⟨j, rfl⟩ := Int.eq_ofNat_of_zero_le i0
        have hj : j < m := by have := HM.out; omega
        obtain ⟨bd, rfl, hd⟩ := rdN (HN.out.below hB.out) j hj
        have hlen2 : ((askedL (ins.take k) now).length + 1) * 8 ≤ 140737488355328 := by simp [askedL]; omega
        have HL2 := Lib.hid hlen2; clear hlen2
        have hj0 : (j : Int).toNat = j := by omega
        rw [hj0] at HS
        generalize now.getD j 0 = y at *
        have hbs : w.heap.size + 1 ≤ wr.heap.size := by have := hB1.out.size; rwa [HSZ.out] at this
        have HBS := Lib.hid hbs; clear hbs
        have hj2 : (j : Int) < (m : Int) := by omega
        clear hx i1
        go_wp2_with (at_builtin; go_must (refine print_append_num (w.heap.size + 1) rfl (.tmp 21) (.tmp 30) 22 3 .i64 8 rfl Try.underlying22 info3 (by decide) _ (askedL (ins.take k) now) y rfl rfl hown.out hB1.out HBS.out HL2.out ?_); intro v1 w1 h1 h2 _ _; have HO1 := Lib.hid h1; clear h1; have HB1 := Lib.hid h2; clear h2)
        go_roundw
        case rel => exact ⟨k + 1, by omega, by go_num, HB1, by rw [HS.out]; exact HO1⟩
        case measure => simp [intOf]; omega
      · obtain rfl : k = ins.length := by omega
        rw [List.take_length] at hown
        obtain ⟨A2, c2, rfl⟩ := own_slice hown.out
        have hlq : (askedL ins now).length = ins.length := by simp [askedL]
        rw [hlq] at hown
        have HRQ := Lib.hid (own_reads' hown.out)
        go_wp2_with fail
        refine (gives_any _ _ _ _ _ _ HRQ.out h0 HLEN.out).mono ?_
        rintro e w' ⟨rfl, rfl⟩
        go_wp2_with fail
        go_ret
        exact ⟨ret_int HE.out.symm, hB.out⟩
end Go.Proofs.Ytobdhdehmkmjcaa
