/- Words and walks for the row RowLogicRuns, put together: U, V, X1, X2, X3, X4, X5, P1, Y0, X6. -/
import Derived.Test.YtobdhdehmkmjcaaRuns1
import Derived.StillTailTactics
import Derived.Deep.RegionWith
import Derived.Deep.AppendLies
import Derived.Deep.RegionHeld3
import Derived.OrdersHeld
namespace Go.Proofs.Ytobdhdehmkmjcaa
open Go.RowKit Go.Proofs.YtobdhdehmkmjcaaW.PrintWords Go.Proofs.YtobdhdehmkmjcaaW.PrintLast

/-- A table of resolutions that lies two cells behind a block's start. -/
def TabAt (w : World) (g : Nat) : Prop := ∀ a b : Int, 0 ≤ a ∧ a ≤ 8 → 0 ≤ b ∧ b ≤ 8 → w.cell? ⟨g, 2 + a.toNat * 9 + b.toNat, none⟩ = some (.int .i64 (meetF a b))
theorem TabAt.below {w w1 : World} {g : Nat} (h : TabAt w g) (hb : Below w.heap.size w w1) : TabAt w1 g := fun a b ha hb' => pw_cell_below hb (h a b ha hb')

set_option maxHeartbeats 400000 in
theorem resolved2_any (g : Nat) (A : Option Addr) (n c : Nat) (xs : List Int) (w : World) (hg : TabAt w g)
    (hr : ReadsInt w .i64 A n xs) (hv : xs.all isVal = true) :
    Calls Try.prog 36 #[.pointer (some ⟨g, 2, none⟩), .slice A n c] w fun e w' => e = .returned (.int .i64 (resF xs)) ∧ w = w' := by
  have HG := Lib.hid hg; clear hg
  have HV := Lib.hid hv; clear hv
  have HL := Lib.hid hr.1
  have hm := hr.2.1
  go_enter Try.func36, Try.ntmps36
  go_wp2
  go_loop [5, 10] (fun o i => ∃ k : Nat, k ≤ n ∧ i = .int .i64 k ∧ o = .int .i64 (resF (xs.take k))) (fun _ i => n - (intOf i).toNat)
  case atStart => exact ⟨0, by omega, rfl, by simp [resF]⟩
  case round =>
    obtain ⟨k, hk, rfl, rfl⟩ := hrel
    by_cases hlt : k < n
    · obtain ⟨ad, rfl, hc⟩ := rdN hr k hlt
      have hlt' : decide ((k : Int) < (n : Int)) = true := by simp; omega
      have hs := resF_succ (xs := xs) (k := k) (by rw [HL.out]; exact hlt)
      have h1 := isVal_iff (resF_val (xs := xs.take k) (by rw [List.all_eq_true]; intro x hx; exact List.all_eq_true.1 HV.out x (List.mem_of_mem_take hx)))
      have h2 := isVal_iff (all_getD HV.out (k := k) (by rw [HL.out]; exact hlt))
      have hcell := HG.out _ _ h1 h2
      have HS := Lib.hid hs; clear hs
      generalize resF (xs.take k) = a at *
      generalize xs.getD k 0 = b at *
      obtain ⟨h1a, h1b⟩ := h1
      obtain ⟨h2a, h2b⟩ := h2
      go_wp2
      go_round
      case rel => exact ⟨k + 1, by omega, by go_num, by rw [HS.out]⟩
      case measure => simp [intOf]; omega
    · obtain rfl : k = n := by omega
      go_wp2
      go_ret
      exact ⟨ret_int (by rw [List.take_of_length_le (by rw [HL.out]; omega)]), rfl⟩

/-- A player in memory. -/
structure Player (w : World) (g mb : Nat) (nets : Int) (A : Option Addr) (n c : Nat) : Prop where
  c0 : w.cell? ⟨g, 0, none⟩ = some (.int .i64 nets)
  c1 : w.cell? ⟨g, 1, none⟩ = some (.slice A n c)
  tab : TabAt w g
  c2 : w.cell? ⟨g, 83, none⟩ = some (.map (some mb))
  mp : w.heap[mb]? = some (.map gE6 6)
theorem Player.below {w w1 : World} {g mb : Nat} {nets : Int} {A : Option Addr} {n c : Nat} (h : Player w g mb nets A n c) (hb : Below w.heap.size w w1) : Player w1 g mb nets A n c :=
  ⟨pw_cell_below hb h.c0, pw_cell_below hb h.c1, h.tab.below hb, pw_cell_below hb h.c2, blk_below h.mp hb⟩

/-- The values of the nets that a gate asks. -/
def askedL (ins : List Int) (now : List Int) : List Int := ins.map fun n => now.getD n.toNat 0
def ansF (g : GateL) (now : List Int) : Int := if g.kind = 0 then g.ins.getD 0 0 else gateVal g.kind (askedL g.ins now)

theorem look_at {W : World} {mb : Nat} (hb : W.heap[mb]? = some (.map gE6 6)) (k : Int) (i : Nat) (hf : Instr.findNow (.int .i64) (.int .i64 k) gE6.toList 0 = some (some (i, .func (.func (71 + i)) #[] #[]))) :
    (Instr.lookup 68 (.map (some mb)) (.int .i64 k) false).run Try.prog W = .ok (.func (.func (71 + i)) #[] #[]) W :=
  run_lookup_int _ 68 3 67 Try.underlying68 Try.underlying3 _ gE6 6 k i _ hb hf
theorem gateOk_ins {nets : Int} {g : GateL} (h : gateOk nets g = true) (h0 : g.kind ≠ 0) {k : Nat} (hk : k < g.ins.length) : 0 ≤ g.ins.getD k 0 ∧ g.ins.getD k 0 < nets := by
  unfold gateOk at h
  simp only [Bool.and_eq_true] at h
  have := all_getD h.2 hk
  rw [if_neg h0] at this
  simpa using this
theorem gateOk_len {nets : Int} {g : GateL} (h : gateOk nets g = true) : (g.ins.length : Int) = inputsF g.kind := by
  unfold gateOk at h
  simp only [Bool.and_eq_true, decide_eq_true_eq] at h
  exact h.1.1.1.1.1

set_option maxHeartbeats 1000000 in
set_option maxRecDepth 100000 in
theorem answer_const (g : Nat) (w : World) (AI : Option Addr) (ci : Nat) (ins : List Int) (out dl : Int) (B : Option Addr) (m d : Nat)
    (h1 : 1 ≤ ins.length) (hr : ReadsInt w .i64 AI ins.length ins) :
    Calls Try.prog 83 #[.pointer (some ⟨g, 0, none⟩), .agg #[.int .i64 0, .slice AI ins.length ci, .int .i64 out, .int .i64 dl], .slice B m d] w fun e w' => e = .returned (.int .i64 (ins.getD 0 0)) ∧ Below w.heap.size w w' := by
  have hm := hr.2.1
  have hB : Below w.heap.size w (w.alloc (.cells #[.int .i64 0, .slice AI ins.length ci, .int .i64 out, .int .i64 dl] 88)) := (Below.refl _ _).alloc (Nat.le_refl _) _
  obtain ⟨ad, rfl, h0⟩ := rd0 (hr.below hB) (by omega)
  generalize ins.getD 0 0 = p at *
  have HB := Lib.hid hB; clear hB
  have HR := Lib.hid hr; clear hr
  go_enter Try.func83, Try.ntmps83
  go_wp2
  go_ret
  exact ⟨rfl, HB.out⟩
end Go.Proofs.Ytobdhdehmkmjcaa
namespace Go.Proofs.Ytobdhdehmkmjcaa
open Go.RowKit Go.Proofs.YtobdhdehmkmjcaaW.PrintWords Go.Proofs.YtobdhdehmkmjcaaW.PrintLast

theorem asked_succ {ins now : List Int} {k : Nat} (hk : k < ins.length) : askedL (ins.take (k + 1)) now = askedL (ins.take k) now ++ [now.getD (ins.getD k 0).toNat 0] := by
  unfold askedL
  rw [List.take_succ_eq_append_getElem hk, List.map_append]
  simp [List.getD_eq_getElem?_getD, List.getElem?_eq_getElem hk]

set_option maxHeartbeats 2000000 in
set_option maxRecDepth 100000 in
theorem answer_gate (g mb : Nat) (w : World) (nets : Int) (GA : Option Addr) (gn gc : Nat) (hp : Player w g mb nets GA gn gc) (AI : Option Addr) (ci : Nat) (kd : Int) (ins : List Int) (out dl : Int) (B : Option Addr) (m d : Nat) (now : List Int)
    (h0 : kd ≠ 0) (hlen : (ins.length : Int) = inputsF kd) (hin : ∀ j, j < ins.length → 0 ≤ ins.getD j 0 ∧ ins.getD j 0 < (m : Int)) (hr : ReadsInt w .i64 AI ins.length ins) (hn : ReadsInt w .i64 B m now) :
    Calls Try.prog 83 #[.pointer (some ⟨g, 0, none⟩), .agg #[.int .i64 kd, .slice AI ins.length ci, .int .i64 out, .int .i64 dl], .slice B m d] w fun e w' => e = .returned (.int .i64 (gateVal kd (askedL ins now))) ∧ Below w.heap.size w w' := by
  have hm := hr.2.1
  have hmm := hn.2.1
  have hB : Below w.heap.size w (w.alloc (.cells #[.int .i64 kd, .slice AI ins.length ci, .int .i64 out, .int .i64 dl] 88)) := (Below.refl _ _).alloc (Nat.le_refl _) _
  have hgb : (w.alloc (.cells #[.int .i64 kd, .slice AI ins.length ci, .int .i64 out, .int .i64 dl] 88)).heap[w.heap.size]? = some (.cells #[.int .i64 kd, .slice AI ins.length ci, .int .i64 out, .int .i64 dl] 88 (0, 0)) := blk_new w _
  have hk2 : ins.length ≤ 2 := by rcases inputs_kind h0 hlen with ⟨_, h⟩ | ⟨_, h⟩ | ⟨_, h⟩ | ⟨_, h⟩ | ⟨_, h⟩ | ⟨_, h⟩ <;> omega
  have HB := Lib.hid hB; clear hB
  have HGB := Lib.hid hgb; clear hgb
  have HR := Lib.hid hr; clear hr
  have HN := Lib.hid hn; clear hn
  have HP := Lib.hid hp; clear hp
  have HLEN := Lib.hid hlen; clear hlen
  have HIN := Lib.hid hin; clear hin
  have hsz : (w.alloc (.cells #[.int .i64 kd, .slice AI ins.length ci, .int .i64 out, .int .i64 dl] 88)).heap.size = w.heap.size + 1 := by simp
  have HSZ := Lib.hid hsz; clear hsz
  have hk00 : (kd == 0) = false := by simp [h0]
  go_enter Try.func83, Try.ntmps83
  go_wp2
  go_loopw [7, 20] (fun o i wr => ∃ k : Nat, k ≤ ins.length ∧ i = .int .i64 k ∧ Hid (Below (w.heap.size + 1) (w.alloc (.cells #[.int .i64 kd, .slice AI ins.length ci, .int .i64 out, .int .i64 dl] 88)) wr) ∧ Hid (wr.ownsRow (w.heap.size + 1) 3 1 o (askedL (ins.take k) now).length (nums .i64 (askedL (ins.take k) now)))) (fun _ i _ => ins.length - (intOf i).toNat)
  case atStart => exact ⟨0, by omega, rfl, Lib.hid (Below.refl _ _), Lib.hid (own_nil _ _ _ _)⟩
  case round =>
    obtain ⟨k, hk, rfl, hB1, hown⟩ := hrel
    have hB : Hid (Below w.heap.size w wr) := Lib.hid (HB.out.trans (hB1.out.mono (Nat.le_succ _)))
    have hgb := Lib.hid ((hB1.out.block _ (Nat.lt_succ_self _)).trans HGB.out)
    have f0 : wr.cell? ⟨w.heap.size, 0, none⟩ = some (.int .i64 kd) := (blk_cell hgb.out 0).trans rfl
    by_cases hlt : k < ins.length
    · obtain ⟨ad, rfl, hc⟩ := rdN (HR.out.below hB.out) k hlt
      obtain ⟨i0, i1⟩ := HIN.out k hlt
      have HS := Lib.hid (asked_succ (now := now) hlt)
      generalize hx : ins.getD k 0 = x at *
      obtain ⟨j, rfl⟩ := Int.eq_ofNat_of_zero_le i0
      have hj : j < m := by omega
      obtain ⟨bd, rfl, hd⟩ := rdN (HN.out.below hB.out) j hj
      have hlen2 : ((askedL (ins.take k) now).length + 1) * 8 ≤ 140737488355328 := by simp [askedL]; omega
      have HL2 := Lib.hid hlen2; clear hlen2
      have hj0 : (j : Int).toNat = j := by omega
      rw [hj0] at HS
      generalize now.getD j 0 = y at *
      have hbs : w.heap.size + 1 ≤ wr.heap.size := by have := hB1.out.size; rwa [HSZ.out] at this
      have HBS := Lib.hid hbs; clear hbs
      go_wp2_with (at_builtin; go_must (refine print_append_num (w.heap.size + 1) rfl (.tmp 24) (.tmp 29) 22 3 .i64 8 rfl Try.underlying22 info3 (by decide) _ (askedL (ins.take k) now) y rfl rfl hown.out hB1.out HBS.out HL2.out ?_); intro v1 w1 h1 h2 _ _; have HO1 := Lib.hid h1; clear h1; have HB1 := Lib.hid h2; clear h2)
      go_roundw
      case rel =>
        exact ⟨k + 1, by omega, by go_num, HB1, by rw [HS.out]; exact HO1⟩
      case measure => simp [intOf]; omega
    · obtain rfl : k = ins.length := by omega
      rw [List.take_length] at hown
      have hp2 := HP.out.below hB.out
      have hc2 := hp2.c2
      obtain ⟨A2, c2, rfl⟩ := own_slice hown.out
      have hlq : (askedL ins now).length = ins.length := by simp [askedL]
      rw [hlq] at hown
      have HRQ := Lib.hid (own_reads' hown.out)
      have hgv : Hid (inputsF kd = (ins.length : Int)) := Lib.hid HLEN.out.symm
      generalize hqs : askedL ins now = qs at *
      have HQS := Lib.hid hqs; clear hqs
      have HPM := Lib.hid hp2.mp
      rcases inputs_kind h0 HLEN.out with ⟨rfl, e⟩ | ⟨rfl, e⟩ | ⟨rfl, e⟩ | ⟨rfl, e⟩ | ⟨rfl, e⟩ | ⟨rfl, e⟩
      · have hlook : (Instr.lookup 68 (.map (some mb)) (.int .i64 1) false).run Try.prog wr.drew = .ok (.func (.func 71) #[] #[]) wr.drew := look_at (W := wr.drew) (mb := mb) HPM.out 1 0 (by kernel_rfl)
        go_wp2
        go_still_tail 9, (by kernel_rfl)
        change wpList _ _ _ _ _ wr.drew
        have HRD : Hid (ReadsInt wr.drew .i64 A2 1 qs) := by rw [e] at HRQ; exact HRQ
        have HBD : Hid (Below w.heap.size w wr.drew) := Lib.hid (pw_below_drewN (n := 1) hB.out)
        generalize wr.drew = w2 at *
        go_wp2_with fail
        refine (not_any _ _ _ _ _ HRD.out (by omega)).mono ?_
        rintro e w' ⟨rfl, hb1⟩
        have HGV : Hid (gateVal 1 (askedL ins now) = notF (to01 (qs.getD 0 0))) := Lib.hid (by rw [HQS.out]; rfl)
        generalize notF (to01 (qs.getD 0 0)) = rv at HGV ⊢
        have HBE := Lib.hid (HBD.out.trans (hb1.mono HBD.out.size)); clear hb1
        go_wp2_with fail
        go_ret
        exact ⟨ret_int HGV.out.symm, HBE.out⟩
      · have hlook : (Instr.lookup 68 (.map (some mb)) (.int .i64 2) false).run Try.prog wr.drew = .ok (.func (.func 72) #[] #[]) wr.drew := look_at (W := wr.drew) (mb := mb) HPM.out 2 1 (by kernel_rfl)
        go_wp2
        go_still_tail 9, (by kernel_rfl)
        change wpList _ _ _ _ _ wr.drew
        have HRD : Hid (ReadsInt wr.drew .i64 A2 1 qs) := by rw [e] at HRQ; exact HRQ
        have HBD : Hid (Below w.heap.size w wr.drew) := Lib.hid (pw_below_drewN (n := 1) hB.out)
        generalize wr.drew = w2 at *
        go_wp2_with fail
        refine (buf_any _ _ _ _ _ HRD.out (by omega)).mono ?_
        rintro e w' ⟨rfl, hb1⟩
        have HGV : Hid (gateVal 2 (askedL ins now) = qs.getD 0 0) := Lib.hid (by rw [HQS.out]; rfl)
        generalize qs.getD 0 0 = rv at HGV ⊢
        have HBE := Lib.hid (HBD.out.trans (hb1.mono HBD.out.size)); clear hb1
        go_wp2_with fail
        go_ret
        exact ⟨ret_int HGV.out.symm, HBE.out⟩
      · have hlook : (Instr.lookup 68 (.map (some mb)) (.int .i64 3) false).run Try.prog wr.drew = .ok (.func (.func 73) #[] #[]) wr.drew := look_at (W := wr.drew) (mb := mb) HPM.out 3 2 (by kernel_rfl)
        go_wp2
        go_still_tail 9, (by kernel_rfl)
        change wpList _ _ _ _ _ wr.drew
        have HRD : Hid (ReadsInt wr.drew .i64 A2 2 qs) := by rw [e] at HRQ; exact HRQ
        have HBD : Hid (Below w.heap.size w wr.drew) := Lib.hid (pw_below_drewN (n := 1) hB.out)
        generalize wr.drew = w2 at *
        go_wp2_with fail
        refine (and_any _ _ _ _ _ HRD.out (by omega)).mono ?_
        rintro e w' ⟨rfl, hb1⟩
        have HGV : Hid (gateVal 3 (askedL ins now) = andF (to01 (qs.getD 0 0)) (to01 (qs.getD 1 0))) := Lib.hid (by rw [HQS.out]; rfl)
        generalize andF (to01 (qs.getD 0 0)) (to01 (qs.getD 1 0)) = rv at HGV ⊢
        have HBE := Lib.hid (HBD.out.trans (hb1.mono HBD.out.size)); clear hb1
        go_wp2_with fail
        go_ret
        exact ⟨ret_int HGV.out.symm, HBE.out⟩
      · have hlook : (Instr.lookup 68 (.map (some mb)) (.int .i64 4) false).run Try.prog wr.drew = .ok (.func (.func 74) #[] #[]) wr.drew := look_at (W := wr.drew) (mb := mb) HPM.out 4 3 (by kernel_rfl)
        go_wp2
        go_still_tail 9, (by kernel_rfl)
        change wpList _ _ _ _ _ wr.drew
        have HRD : Hid (ReadsInt wr.drew .i64 A2 2 qs) := by rw [e] at HRQ; exact HRQ
        have HBD : Hid (Below w.heap.size w wr.drew) := Lib.hid (pw_below_drewN (n := 1) hB.out)
        generalize wr.drew = w2 at *
        go_wp2_with fail
        refine (or_any _ _ _ _ _ HRD.out (by omega)).mono ?_
        rintro e w' ⟨rfl, hb1⟩
        have HGV : Hid (gateVal 4 (askedL ins now) = orF (to01 (qs.getD 0 0)) (to01 (qs.getD 1 0))) := Lib.hid (by rw [HQS.out]; rfl)
        generalize orF (to01 (qs.getD 0 0)) (to01 (qs.getD 1 0)) = rv at HGV ⊢
        have HBE := Lib.hid (HBD.out.trans (hb1.mono HBD.out.size)); clear hb1
        go_wp2_with fail
        go_ret
        exact ⟨ret_int HGV.out.symm, HBE.out⟩
      · have hlook : (Instr.lookup 68 (.map (some mb)) (.int .i64 5) false).run Try.prog wr.drew = .ok (.func (.func 75) #[] #[]) wr.drew := look_at (W := wr.drew) (mb := mb) HPM.out 5 4 (by kernel_rfl)
        go_wp2
        go_still_tail 9, (by kernel_rfl)
        change wpList _ _ _ _ _ wr.drew
        have HRD : Hid (ReadsInt wr.drew .i64 A2 2 qs) := by rw [e] at HRQ; exact HRQ
        have HBD : Hid (Below w.heap.size w wr.drew) := Lib.hid (pw_below_drewN (n := 1) hB.out)
        generalize wr.drew = w2 at *
        go_wp2_with fail
        refine (xor_any _ _ _ _ _ HRD.out (by omega)).mono ?_
        rintro e w' ⟨rfl, hb1⟩
        have HGV : Hid (gateVal 5 (askedL ins now) = xorF (to01 (qs.getD 0 0)) (to01 (qs.getD 1 0))) := Lib.hid (by rw [HQS.out]; rfl)
        generalize xorF (to01 (qs.getD 0 0)) (to01 (qs.getD 1 0)) = rv at HGV ⊢
        have HBE := Lib.hid (HBD.out.trans (hb1.mono HBD.out.size)); clear hb1
        go_wp2_with fail
        go_ret
        exact ⟨ret_int HGV.out.symm, HBE.out⟩
      · have hlook : (Instr.lookup 68 (.map (some mb)) (.int .i64 6) false).run Try.prog wr.drew = .ok (.func (.func 76) #[] #[]) wr.drew := look_at (W := wr.drew) (mb := mb) HPM.out 6 5 (by kernel_rfl)
        go_wp2
        go_still_tail 9, (by kernel_rfl)
        change wpList _ _ _ _ _ wr.drew
        have HRD : Hid (ReadsInt wr.drew .i64 A2 2 qs) := by rw [e] at HRQ; exact HRQ
        have HBD : Hid (Below w.heap.size w wr.drew) := Lib.hid (pw_below_drewN (n := 1) hB.out)
        generalize wr.drew = w2 at *
        go_wp2_with fail
        refine (tri_any _ _ _ _ _ HRD.out (by omega)).mono ?_
        rintro e w' ⟨rfl, hb1⟩
        have HGV : Hid (gateVal 6 (askedL ins now) = triF (to01 (qs.getD 0 0)) (to01 (qs.getD 1 0))) := Lib.hid (by rw [HQS.out]; rfl)
        generalize triF (to01 (qs.getD 0 0)) (to01 (qs.getD 1 0)) = rv at HGV ⊢
        have HBE := Lib.hid (HBD.out.trans (hb1.mono HBD.out.size)); clear hb1
        go_wp2_with fail
        go_ret
        exact ⟨ret_int HGV.out.symm, HBE.out⟩
end Go.Proofs.Ytobdhdehmkmjcaa
namespace Go.Proofs.Ytobdhdehmkmjcaa
open Go.RowKit Go.Proofs.YtobdhdehmkmjcaaW.PrintWords Go.Proofs.YtobdhdehmkmjcaaW.PrintLast

def tabA : Array Value := ((List.range 81).map tabV).toArray
theorem tabA_of {cur : Array Value} (h : TabTo 81 cur) : cur = tabA := by
  apply Array.ext_getElem?
  intro i
  by_cases hi : i < 81
  · rw [h.2 i hi]
    unfold tabA
    rw [List.getElem?_toArray, List.getElem?_map, List.getElem?_range hi]
    rfl
  · rw [Array.getElem?_eq_none (by rw [h.1]; omega), Array.getElem?_eq_none (by unfold tabA; rw [List.size_toArray, List.length_map, List.length_range]; omega)]
def playerCells (nets : Int) (A : Option Addr) (n c m : Nat) : Array Value := #[.int .i64 nets, .slice A n c] ++ tabA ++ #[.map (some m)]
theorem player_tab : ∀ a b : Fin 9, tabA[a.val * 9 + b.val]? = some (.int .i64 (meetF a.val b.val)) := by
  intro a b
  have h81 : a.val * 9 + b.val < 81 := by omega
  have : tabA[a.val * 9 + b.val]? = some (tabV (a.val * 9 + b.val)) := by
    unfold tabA
    rw [List.getElem?_toArray, List.getElem?_map, List.getElem?_range h81]
    rfl
  rw [this, tabV_of a.val b.val b.isLt]
def preCells (nets : Int) (A : Option Addr) (n c : Nat) : Array Value := #[.int .i64 nets, .slice A n c] ++ tabA ++ #[.map none]
theorem pre_fold (nets : Int) (A : Option Addr) (n c : Nat) :
    Array.foldl (fun cs x => cs.setIfInBounds (2 + x.snd) x.fst) ((Try.zeroCells125.setIfInBounds 0 (Value.int IntKind.i64 nets)).setIfInBounds 1 (Value.slice A n c)) tabA.zipIdx 0 81 = preCells nets A n c := by
  kernel_rfl
theorem pre_set (nets : Int) (A : Option Addr) (n c m : Nat) : (preCells nets A n c).setIfInBounds 83 (.map (some m)) = playerCells nets A n c m := by kernel_rfl
theorem pre_size (nets : Int) (A : Option Addr) (n c : Nat) : (preCells nets A n c).size = 84 := by kernel_rfl
theorem tabA_size : tabA.size = 81 := by kernel_rfl

end Go.Proofs.Ytobdhdehmkmjcaa
namespace Go.Proofs.Ytobdhdehmkmjcaa
set_option linter.unusedVariables false
set_option linter.unusedSimpArgs false
open Go.RowKit Go.Proofs.YtobdhdehmkmjcaaW.PrintWords Go.Proofs.YtobdhdehmkmjcaaW.PrintLast

def uV : Value := .slice none 0 0
/-- Block D holds slices that own the lists L, no two in one block, all from block b on. -/
def Rows (W : World) (D b : Nat) (L : List (List Int)) : Prop :=
  ∃ vs : List Value, vs.length = L.length ∧ D < b ∧ W.heap[D]? = some (.cells vs.toArray 22 (0, 0)) ∧
    (∀ i, i < L.length → W.ownsRow b 3 1 (vs.getD i uV) (L.getD i []).length (nums .i64 (L.getD i []))) ∧
    (∀ i j, i < L.length → j < L.length → i ≠ j → (vs.getD i uV).ownBlock = none ∨ (vs.getD i uV).ownBlock ≠ (vs.getD j uV).ownBlock)

theorem Rows.below {W W1 : World} {D b : Nat} {L : List (List Int)} (h : Rows W D b L) (hb : Below W.heap.size W W1) : Rows W1 D b L := by
  obtain ⟨vs, h1, h2, h3, h4, h5⟩ := h
  exact ⟨vs, h1, h2, blk_below h3 hb, fun i hi => pw_own_below (h4 i hi) hb, h5⟩

theorem rows_made (W : World) (n : Nat) : Rows (W.alloc (.cells (madeCells #[uV] n) 22)) W.heap.size (W.heap.size + 1) (List.replicate n []) := by
  refine ⟨List.replicate n uV, by simp, Nat.lt_succ_self _, ?_, ?_, ?_⟩
  · rw [blk_new]
    congr 2
    apply Array.ext_getElem?
    intro i
    by_cases hi : i < n
    · simp [madeCells, hi, Nat.mod_one]
    · simp [madeCells, hi]
  · intro i hi
    have hi' : i < n := by simpa using hi
    have e1 : (List.replicate n uV).getD i uV = uV := by simp [List.getD_eq_getElem?_getD, hi']
    have e2 : (List.replicate n ([] : List Int)).getD i [] = [] := by simp [List.getD_eq_getElem?_getD, hi']
    rw [e1, e2]
    exact own_nil _ _ _ _
  · intro i j hi _ _
    left
    have hi' : i < n := by simpa using hi
    have e1 : (List.replicate n uV).getD i uV = uV := by simp [List.getD_eq_getElem?_getD, hi']
    rw [e1]
    rfl

theorem getD_set_eq {α : Type} {l : List α} {i : Nat} {x d : α} (h : i < l.length) : (l.set i x).getD i d = x := by
  simp [List.getD_eq_getElem?_getD, h]
theorem getD_set_ne {α : Type} {l : List α} {i j : Nat} {x d : α} (h : i ≠ j) : (l.set i x).getD j d = l.getD j d := by
  simp [List.getD_eq_getElem?_getD, h]

/-- One row is looked at; and how it goes back when it has grown. -/
theorem Rows.at_ {W : World} {D b : Nat} {L : List (List Int)} (h : Rows W D b L) (i : Nat) (hi : i < L.length) :
    ∃ v, W.cell? ⟨D, i, none⟩ = some v ∧ W.ownsRow b 3 1 v (L.getD i []).length (nums .i64 (L.getD i [])) ∧ W.frozen? ⟨D, i, none⟩ = false ∧ D < b ∧ D < W.heap.size ∧
      ∀ Wb w1 v1 x, Below W.heap.size W Wb → Wb.grownBy w1 v.ownBlock → w1.ownsRow b 3 1 v1 (L.getD i [] ++ [x]).length (nums .i64 (L.getD i [] ++ [x])) → (v.ownBlock = v1.ownBlock ∨ ∃ k, v1.ownBlock = some k ∧ W.heap.size ≤ k) →
        Rows (w1.setCell ⟨D, i, none⟩ v1) D b (L.set i (L.getD i [] ++ [x])) := by
  obtain ⟨vs, h1, h2, h3, h4, h5⟩ := h
  have hiv : i < vs.length := by omega
  have hcell : W.cell? ⟨D, i, none⟩ = some (vs.getD i uV) := by
    rw [blk_cell h3]
    simp [List.getD_eq_getElem?_getD, List.getElem?_eq_getElem hiv]
  refine ⟨vs.getD i uV, hcell, h4 i hi, blk_frozen h3 i, h2, blk_lt h3, ?_⟩
  intro Wb w1 v1 x hb hg hown hat
  have hD : ∀ j, j < L.length → some D ≠ (vs.getD j uV).ownBlock := fun j hj e => by
    have := own_base (h4 j hj) D e.symm
    omega
  have hD1 : some D ≠ v1.ownBlock := fun e => by
    have := own_base hown D e.symm
    omega
  have hw1 : w1.heap[D]? = some (.cells vs.toArray 22 (0, 0)) := blk_grown (blk_below h3 hb) hg (hD i hi)
  refine ⟨vs.set i v1, by simp [h1], h2, ?_, ?_, ?_⟩
  · rw [blk_set hw1]
    congr 2
    simp
  · intro j hj
    have hj' : j < L.length := by simpa using hj
    by_cases e : i = j
    · subst e
      rw [getD_set_eq hiv, getD_set_eq hi]
      exact own_setCell hown hD1 _
    · rw [getD_set_ne e, getD_set_ne e]
      exact own_setCell (own_other (pw_own_below (h4 j hj') hb) hg (h5 j i hj' hi (Ne.symm e))) (hD j hj') _
  · intro j k hj hk hne
    have hj' : j < L.length := by simpa using hj
    have hk' : k < L.length := by simpa using hk
    by_cases e : i = j
    · subst e
      rw [getD_set_eq hiv, getD_set_ne hne]
      rcases hat with hat | ⟨q, hq1, hq2⟩
      · rw [← hat]
        exact h5 i k hi hk' hne
      · right
        rw [hq1]
        intro e'
        have := own_lt (h4 k hk') q e'.symm
        omega
    · by_cases e2 : i = k
      · subst e2
        rw [getD_set_ne e, getD_set_eq hiv]
        rcases hat with hat | ⟨q, hq1, hq2⟩
        · rw [← hat]
          exact h5 j i hj' hi hne
        · rcases hv : (vs.getD j uV).ownBlock with _ | p
          · exact .inl rfl
          · right
            rw [hq1]
            intro e'
            injection e' with e'
            have := own_lt (h4 j hj') p hv
            omega
      · rw [getD_set_ne e, getD_set_ne e2]
        exact h5 j k hj' hk' hne
theorem Rows.reads {W : World} {D b : Nat} {L : List (List Int)} (h : Rows W D b L) (i : Nat) (hi : i < L.length) :
    ∃ A c, W.cell? ⟨D, i, none⟩ = some (.slice A (L.getD i []).length c) ∧ ReadsInt W .i64 A (L.getD i []).length (L.getD i []) := by
  obtain ⟨v, h1, h2, _⟩ := h.at_ i hi
  obtain ⟨A, c, rfl, h3⟩ := own_reads h2
  exact ⟨A, c, h1, h3⟩

/-! ### The next state of a circuit. -/
structure DriveL where
  net : Int
  v : Int
def addAt (L : List (List Int)) (i : Int) (x : Int) : List (List Int) := L.set i.toNat (L.getD i.toNat [] ++ [x])
def drivesTo (ds : List DriveL) (L : List (List Int)) : List (List Int) := ds.foldl (fun L d => addAt L d.net d.v) L
theorem addAt_length (L : List (List Int)) (i x : Int) : (addAt L i x).length = L.length := by simp [addAt]
theorem drivesTo_length (ds : List DriveL) (L : List (List Int)) : (drivesTo ds L).length = L.length := by
  unfold drivesTo
  induction ds generalizing L with
  | nil => rfl
  | cons g gs ih => rw [List.foldl_cons, ih, addAt_length]
def zDrive : DriveL := ⟨0, 0⟩
theorem drivesTo_succ {ds : List DriveL} {L : List (List Int)} {k : Nat} (hk : k < ds.length) : drivesTo (ds.take (k + 1)) L = addAt (drivesTo (ds.take k) L) (ds.getD k zDrive).net (ds.getD k zDrive).v := by
  unfold drivesTo
  rw [List.take_succ_eq_append_getElem hk, List.foldl_append]
  simp [List.getD_eq_getElem?_getD, List.getElem?_eq_getElem hk]
end Go.Proofs.Ytobdhdehmkmjcaa
namespace Go.Proofs.Ytobdhdehmkmjcaa
set_option linter.unusedVariables false
set_option linter.unusedSimpArgs false
open Go.RowKit Go.Proofs.YtobdhdehmkmjcaaW.PrintWords Go.Proofs.YtobdhdehmkmjcaaW.PrintLast

/-- A slice of slices of ints is read. -/
def ReadsRows (W : World) (A : Option Addr) (n : Nat) (L : List (List Int)) : Prop :=
  L.length = n ∧ n ≤ 9223372036854775807 ∧ (0 < n → ∃ ad, A = some ad ∧ ∀ i, i < n → ∃ B d, W.cell? (ad.add i) = some (.slice B (L.getD i []).length d) ∧ ReadsInt W .i64 B (L.getD i []).length (L.getD i []))
theorem ReadsRows.below {W W1 : World} {A : Option Addr} {n : Nat} {L : List (List Int)} (h : ReadsRows W A n L) (hb : Below W.heap.size W W1) : ReadsRows W1 A n L :=
  ⟨h.1, h.2.1, fun hn => by
    obtain ⟨ad, e, hc⟩ := h.2.2 hn
    refine ⟨ad, e, fun i hi => ?_⟩
    obtain ⟨B, d, h1, h2⟩ := hc i hi
    exact ⟨B, d, pw_cell_below hb h1, h2.below hb⟩⟩
def memB (L : List (List Int)) (y : List Int) : Bool := L.any fun x => sameB x y

theorem any_succ {p : List Int → Bool} {L : List (List Int)} {k : Nat} (hk : k < L.length) (h : (L.take k).any p = false) : (L.take (k + 1)).any p = p (L.getD k []) := by
  rw [List.take_succ_eq_append_getElem hk, List.any_append, h]
  simp [List.getD_eq_getElem?_getD, List.getElem?_eq_getElem hk]
theorem any_at {p : List Int → Bool} {L : List (List Int)} {k : Nat} (hk : k < L.length) (h : p (L.getD k []) = true) : L.any p = true := by
  rw [List.any_eq_true]
  rw [List.getD_eq_getElem?_getD, List.getElem?_eq_getElem hk] at h
  exact ⟨_, List.getElem_mem _, h⟩

end Go.Proofs.Ytobdhdehmkmjcaa
namespace Go.Proofs.Ytobdhdehmkmjcaa
set_option linter.unusedVariables false
set_option linter.unusedSimpArgs false
open Go.RowKit Go.Proofs.YtobdhdehmkmjcaaW.PrintWords Go.Proofs.YtobdhdehmkmjcaaW.PrintLast

theorem answer_any (g mb : Nat) (w : World) (nets : Int) (GA : Option Addr) (gn gc : Nat) (hp : Player w g mb nets GA gn gc) (G : GateL) (AI : Option Addr) (ci : Nat) (B : Option Addr) (m d : Nat) (now : List Int)
    (hok : gateOk nets G = true) (hm : (m : Int) = nets) (hr : ReadsInt w .i64 AI G.ins.length G.ins) (hn : ReadsInt w .i64 B m now) :
    Calls Try.prog 83 #[.pointer (some ⟨g, 0, none⟩), .agg #[.int .i64 G.kind, .slice AI G.ins.length ci, .int .i64 G.out, .int .i64 G.delay], .slice B m d] w fun e w' => e = .returned (.int .i64 (ansF G now)) ∧ Below w.heap.size w w' := by
  obtain ⟨kd, ins, out, dl⟩ := G
  have hl := gateOk_len hok
  by_cases h0 : kd = 0
  · subst h0
    have h1 : (ins.length : Int) = 1 := hl
    exact answer_const g w AI ci ins out dl B m d (by omega) hr
  · have e : ansF ⟨kd, ins, out, dl⟩ now = gateVal kd (askedL ins now) := if_neg h0
    rw [e]
    exact answer_gate g mb w nets GA gn gc hp AI ci kd ins out dl B m d now h0 hl (fun j hj => by have := gateOk_ins hok h0 hj; exact ⟨this.1, by rw [hm]; exact this.2⟩) hr hn

theorem to01_four (v : Int) : to01 v = 0 ∨ to01 v = 1 ∨ to01 v = 2 ∨ to01 v = 3 := by
  unfold to01
  repeat' split
  all_goals simp
theorem askedL_getD (ins now : List Int) (hv : now.all isVal = true) (k : Nat) (hk : k < ins.length) (hi : ∀ j, j < ins.length → 0 ≤ ins.getD j 0 ∧ ins.getD j 0 < (now.length : Int)) : isVal ((askedL ins now).getD k 0) = true := by
  have h := hi k hk
  have e : (askedL ins now).getD k 0 = now.getD (ins.getD k 0).toNat 0 := by
    unfold askedL
    simp [List.getD_eq_getElem?_getD, List.getElem?_eq_getElem hk]
  rw [e]
  exact all_getD hv (by omega)
theorem ansF_val {nets : Int} {G : GateL} {now : List Int} (hok : gateOk nets G = true) (hl : (now.length : Int) = nets) (hv : now.all isVal = true) : isVal (ansF G now) = true := by
  have hlen := gateOk_len hok
  unfold ansF
  by_cases h0 : G.kind = 0
  · rw [if_pos h0]
    rw [h0] at hlen
    have h1 : (G.ins.length : Int) = 1 := hlen
    unfold gateOk at hok
    simp only [Bool.and_eq_true] at hok
    have := all_getD hok.2 (k := 0) (by omega)
    rwa [if_pos h0] at this
  · rw [if_neg h0]
    have hin : ∀ j, j < G.ins.length → 0 ≤ G.ins.getD j 0 ∧ G.ins.getD j 0 < (now.length : Int) := fun j hj => by rw [hl]; exact gateOk_ins hok h0 hj
    have hb := fun h => askedL_getD G.ins now hv 0 h hin
    rcases inputs_kind h0 hlen with ⟨e, e2⟩ | ⟨e, e2⟩ | ⟨e, e2⟩ | ⟨e, e2⟩ | ⟨e, e2⟩ | ⟨e, e2⟩
    · rw [e]
      show isVal (notF (to01 ((askedL G.ins now).getD 0 0))) = true
      rcases to01_four ((askedL G.ins now).getD 0 0) with h | h | h | h <;> rw [h] <;> decide
    · rw [e]
      exact hb (by omega)
    · rw [e]
      show isVal (andF (to01 ((askedL G.ins now).getD 0 0)) (to01 ((askedL G.ins now).getD 1 0))) = true
      rcases to01_four ((askedL G.ins now).getD 0 0) with h | h | h | h <;> rcases to01_four ((askedL G.ins now).getD 1 0) with h' | h' | h' | h' <;> rw [h, h'] <;> decide
    · rw [e]
      show isVal (orF (to01 ((askedL G.ins now).getD 0 0)) (to01 ((askedL G.ins now).getD 1 0))) = true
      rcases to01_four ((askedL G.ins now).getD 0 0) with h | h | h | h <;> rcases to01_four ((askedL G.ins now).getD 1 0) with h' | h' | h' | h' <;> rw [h, h'] <;> decide
    · rw [e]
      show isVal (xorF (to01 ((askedL G.ins now).getD 0 0)) (to01 ((askedL G.ins now).getD 1 0))) = true
      rcases to01_four ((askedL G.ins now).getD 0 0) with h | h | h | h <;> rcases to01_four ((askedL G.ins now).getD 1 0) with h' | h' | h' | h' <;> rw [h, h'] <;> decide
    · rw [e]
      show isVal (triF (to01 ((askedL G.ins now).getD 0 0)) (to01 ((askedL G.ins now).getD 1 0))) = true
      rcases to01_four ((askedL G.ins now).getD 0 0) with h | h | h | h <;> rcases to01_four ((askedL G.ins now).getD 1 0) with h' | h' | h' | h' <;> rw [h, h'] <;> decide

def allOk (L : List (List Int)) : Prop := ∀ i, (L.getD i []).all isVal = true
theorem allOk_rep (n : Nat) : allOk (List.replicate n []) := by
  intro i
  rw [List.getD_eq_getElem?_getD, List.getElem?_replicate]
  split <;> rfl
theorem allOk_add {L : List (List Int)} (h : allOk L) (i x : Int) (hx : isVal x = true) : allOk (addAt L i x) := by
  intro j
  unfold addAt
  by_cases e : i.toNat = j
  · subst e
    by_cases hlt : i.toNat < L.length
    · rw [getD_set_eq hlt, List.all_append, h i.toNat]
      simp [hx]
    · rw [List.set_eq_of_length_le (by omega)]
      exact h _
  · rw [getD_set_ne e]
    exact h j
def driveOk (nets : Int) (d : DriveL) : Bool := decide (0 ≤ d.net) && decide (d.net < nets) && isVal d.v
def RdDrive (w : World) (ad : Addr) (d : DriveL) : Prop := w.cell? ad = some (.int .i64 d.net) ∧ w.cell? ⟨ad.block, ad.off + 1, none⟩ = some (.int .i64 d.v)
def RdDrives (w : World) (A : Option Addr) (n : Nat) (ds : List DriveL) : Prop :=
  ds.length = n ∧ n ≤ 9223372036854775807 ∧ (0 < n → ∃ ad, A = some ad ∧ ∀ i, i < n → RdDrive w (ad.add (i * 2)) (ds.getD i zDrive))
theorem RdDrive.below {w w1 : World} {ad : Addr} {d : DriveL} (h : RdDrive w ad d) (hb : Below w.heap.size w w1) : RdDrive w1 ad d := ⟨pw_cell_below hb h.1, pw_cell_below hb h.2⟩
theorem RdDrives.below {w w1 : World} {A : Option Addr} {n : Nat} {ds : List DriveL} (h : RdDrives w A n ds) (hb : Below w.heap.size w w1) : RdDrives w1 A n ds :=
  ⟨h.1, h.2.1, fun hn => by
    obtain ⟨ad, e, hc⟩ := h.2.2 hn
    exact ⟨ad, e, fun i hi => (hc i hi).below hb⟩⟩
theorem RdDrives.at_ {w : World} {A : Option Addr} {n : Nat} {ds : List DriveL} (h : RdDrives w A n ds) (i : Nat) (hi : i < n) : ∃ ad, A = some ad ∧ RdDrive w (ad.add (i * 2)) (ds.getD i zDrive) := by
  obtain ⟨ad, e, hc⟩ := h.2.2 (by omega)
  exact ⟨ad, e, hc i hi⟩
end Go.Proofs.Ytobdhdehmkmjcaa
namespace Go.Proofs.Ytobdhdehmkmjcaa
set_option linter.unusedVariables false
set_option linter.unusedSimpArgs false
open Go.RowKit Go.Proofs.YtobdhdehmkmjcaaW.PrintWords Go.Proofs.YtobdhdehmkmjcaaW.PrintLast

def SeenOk (W : World) (b : Nat) (v : Value) (S : List (List Int)) : Prop :=
  S.length ≤ 9223372036854775807 ∧ ∃ cs : List Value, W.ownsRow b 22 1 v S.length cs ∧ ∀ i, i < S.length → W.ownsRow b 3 1 (cs.getD i uV) (S.getD i []).length (nums .i64 (S.getD i []))
theorem SeenOk.below {W W1 : World} {b : Nat} {v : Value} {S : List (List Int)} (h : SeenOk W b v S) (hb : Below W.heap.size W W1) : SeenOk W1 b v S := by
  obtain ⟨h0, cs, h1, h2⟩ := h
  exact ⟨h0, cs, pw_own_below h1 hb, fun i hi => pw_own_below (h2 i hi) hb⟩
theorem seen_new (W : World) (b : Nat) (v : Value) (xs : List Int) (hb : b ≤ W.heap.size) (h : W.ownsRow b 3 1 v xs.length (nums .i64 xs)) : SeenOk (W.alloc (.cells #[v] 22)) b (.slice (some ⟨W.heap.size, 0, none⟩) 1 1) [xs] := by
  refine ⟨by simp, [v], ?_, ?_⟩
  · have := World.ownsRow_lit (base := b) (e := 22) (size := 1) W #[v] 1 hb (by simp [maxLen]) (by simp)
    exact this
  · intro i hi
    obtain rfl : i = 0 := by simpa using hi
    exact h.alloc _
theorem SeenOk.reads {W : World} {b : Nat} {v : Value} {S : List (List Int)} (h : SeenOk W b v S) : ∃ A c, v = .slice A S.length c ∧ ReadsRows W A S.length S := by
  obtain ⟨h0, cs, ⟨h1, h2⟩, h3⟩ := h
  rcases h2 with ⟨rfl, hz⟩ | ⟨g, cap, cur, rfl, hg, hc, hn, hm, hs, ht⟩
  · exact ⟨none, 0, by rw [hz], rfl, h0, fun hp => absurd hp (by omega)⟩
  · refine ⟨some ⟨g, 0, none⟩, cap, rfl, rfl, h0, fun _ => ⟨_, rfl, fun i hi => ?_⟩⟩
    obtain ⟨A, c, e, hr⟩ := own_reads (h3 i hi)
    refine ⟨A, c, ?_, hr⟩
    rw [← e]
    have e1 : (⟨g, 0, none⟩ : Addr).add i = ⟨g, i, none⟩ := by simp [Addr.add]; exact Eq.symm
    rw [e1, blk_cell hc, ← ht]
    have hlt : i < cur.size := by omega
    simp [List.getD_eq_getElem?_getD, List.getElem?_take, hlt, hi]
theorem SeenOk.own {W : World} {b : Nat} {v : Value} {S : List (List Int)} (h : SeenOk W b v S) :
    ∃ cs, W.ownsRow b 22 1 v S.length cs ∧ ∀ Wb w1 v1 vn ys, Below W.heap.size W Wb → Wb.grownBy w1 v.ownBlock → S.length + 1 ≤ 9223372036854775807 → w1.ownsRow b 22 1 v1 (S.length + 1) (cs ++ [vn]) → w1.ownsRow b 3 1 vn ys.length (nums .i64 ys) → SeenOk w1 b v1 (S ++ [ys]) := by
  obtain ⟨h0, cs, h1, h2⟩ := h
  refine ⟨cs, h1, fun Wb w1 v1 vn ys hb hg hm ho hy => ⟨by simpa using hm, cs ++ [vn], by simpa using ho, fun i hi => ?_⟩⟩
  have hcl : cs.length = S.length := by have := h1.1; omega
  by_cases hlt : i < S.length
  · have e1 : (cs ++ [vn]).getD i uV = cs.getD i uV := by simp [List.getD_eq_getElem?_getD, List.getElem?_append_left (show i < cs.length by omega)]
    have e2 : (S ++ [ys]).getD i [] = S.getD i [] := by simp [List.getD_eq_getElem?_getD, List.getElem?_append_left hlt]
    rw [e1, e2]
    exact own_other (pw_own_below (h2 i hlt) hb) hg (own_type_ne (h2 i hlt) h1 (by decide))
  · obtain rfl : i = S.length := by simp at hi; omega
    have e1 : (cs ++ [vn]).getD S.length uV = vn := by simp [List.getD_eq_getElem?_getD, ← hcl]
    have e2 : (S ++ [ys]).getD S.length [] = ys := by simp [List.getD_eq_getElem?_getD]
    rw [e1, e2]
    exact hy
theorem info22 : (Try.prog.info? 22).map (fun i => (i.zero, i.size, i.bytes)) = some (some uV, 1, 24) := by kernel_rfl
theorem make94 (m : Nat) (hn : m * 24 ≤ 281474976710656) (W : World) :
    (Instr.makeSlice 94 (.int .i64 (m : Int)) (.int .i64 (m : Int))).run Try.prog W = .ok (.slice (some ⟨W.heap.size, 0, none⟩) m m) (W.alloc (.cells (madeCells #[uV] m) 22)) := by
  exact run_make_row' 94 22 uV 24 Try.underlying94 info22 rfl .i64 .i64 m (by rw [Nat.mul_comm]; exact hn) (by omega) W
theorem make22 (m : Nat) (hn : m * 8 ≤ 281474976710656) (W : World) :
    (Instr.makeSlice 22 (.int .i64 (m : Int)) (.int .i64 (m : Int))).run Try.prog W = .ok (.slice (some ⟨W.heap.size, 0, none⟩) m m) (W.alloc (.cells (madeCells #[.int .i64 0] m) 3)) :=
  print_make 22 3 .i64 8 Try.underlying22 info3 (by decide) m hn W
end Go.Proofs.Ytobdhdehmkmjcaa
namespace Go.Proofs.Ytobdhdehmkmjcaa
set_option linter.unusedVariables false
set_option linter.unusedSimpArgs false
open Go.RowKit Go.Proofs.YtobdhdehmkmjcaaW.PrintWords Go.Proofs.YtobdhdehmkmjcaaW.PrintLast

set_option maxHeartbeats 1000000 in
theorem requal_any (A B : Option Addr) (n c d : Nat) (xs ys : List Int) (w : World) (hx : ReadsInt w .i64 A n xs) (hy : ReadsInt w .i64 B n ys) :
    Calls Try.prog 57 #[.slice A n c, .slice B n d] w fun e w' => e = .returned (.bool (sameB xs ys)) ∧ ∃ q, w' = w.drewN q := by
  have hm1 := hx.2.1
  have HL1 := Lib.hid hx.1
  have HL2 := Lib.hid hy.1
  go_enter Try.func57, Try.ntmps57
  go_wp2
  go_loopw [5] (fun i wr => ∃ k : Nat, k ≤ n ∧ i = .int .i64 k ∧ Hid (xs.take k = ys.take k) ∧ ∃ q, wr = w.drewN q) (fun i _ => n - (intOf i).toNat)
  case atStart => exact ⟨0, by omega, rfl, rfl, 0, rfl⟩
  case round =>
    obtain ⟨k, hk1, rfl, hT, q, rfl⟩ := hrel
    by_cases h1 : k < n
    · obtain ⟨ad, rfl, hc⟩ := rdN hx k h1
      obtain ⟨bd, rfl, hd⟩ := rdN hy k h1
      by_cases he : xs.getD k 0 = ys.getD k 0
      · have HT := Lib.hid (take_eq_succ (by rw [HL1.out]; exact h1) (by rw [HL2.out]; exact h1) hT.out he)
        rw [he] at hc
        clear he
        generalize ys.getD k 0 = y at *
        go_wp2
        go_quiet (fail)
        go_wp2
        go_roundw
        case rel => exact ⟨k + 1, by omega, by go_num, HT, _, by first | rfl | rw [World.drewN_drewN]⟩
        case measure => simp [intOf]; omega
      · have HT := Lib.hid (sameB_ne he)
        have he3 : (xs.getD k 0 != ys.getD k 0) = true := by simpa using he
        clear he
        generalize ys.getD k 0 = y at *
        generalize xs.getD k 0 = x at *
        go_wp2
        go_quiet (fail)
        go_wp2
        go_ret
        exact ⟨ret_bool HT.out.symm, _, by first | rfl | rw [World.drewN_drewN]⟩
    · have HT := Lib.hid (sameB_end (k := k) (by rw [HL1.out]; exact hk1) (by rw [HL2.out]; exact hk1) hT.out (.inl (by rw [HL1.out]; omega)))
      rw [HL1.out, HL2.out] at HT
      go_wp2
      go_ret
      refine ⟨ret_bool ?_, _, rfl⟩
      rw [HT.out]
      simp

set_option maxHeartbeats 1000000 in
set_option maxRecDepth 100000 in
theorem rasked_any (kd : Int) (ins : List Int) (out dl : Int) (AI : Option Addr) (ci : Nat) (B : Option Addr) (m d : Nat) (nets : Int) (now : List Int) (w : World)
    (hok : gateOk nets ⟨kd, ins, out, dl⟩ = true) (hm : (m : Int) = nets) (hr : ReadsInt w .i64 AI ins.length ins) (hn : ReadsInt w .i64 B m now) :
    Calls Try.prog 55 #[.agg #[.int .i64 kd, .slice AI ins.length ci, .int .i64 out, .int .i64 dl], .slice B m d] w fun e w' => e = .returned (.int .i64 (ansF ⟨kd, ins, out, dl⟩ now)) ∧ Below w.heap.size w w' := by
  have hlen := gateOk_len hok
  have hB : Below w.heap.size w (w.alloc (.cells #[.int .i64 kd, .slice AI ins.length ci, .int .i64 out, .int .i64 dl] 88)) := (Below.refl _ _).alloc (Nat.le_refl _) _
  have hgb : (w.alloc (.cells #[.int .i64 kd, .slice AI ins.length ci, .int .i64 out, .int .i64 dl] 88)).heap[w.heap.size]? = some (.cells #[.int .i64 kd, .slice AI ins.length ci, .int .i64 out, .int .i64 dl] 88 (0, 0)) := blk_new w _
  by_cases h0 : kd = 0
  · subst h0
    have h1 : (ins.length : Int) = 1 := hlen
    have hl1 : ins.length = 1 := by omega
    have hr1 := hr.below hB
    obtain ⟨ad, rfl, hc⟩ := rdN hr1 0 (by omega)
    have HE := Lib.hid (show ansF ⟨0, ins, out, dl⟩ now = ins.getD 0 0 from rfl)
    generalize ins.getD 0 0 = v at *
    generalize ansF ⟨0, ins, out, dl⟩ now = v2 at *
    have HB := Lib.hid hB; clear hB
    clear hlen hok hr hr1 h1
    have f0 : (w.alloc (.cells #[.int .i64 0, .slice (some ad) ins.length ci, .int .i64 out, .int .i64 dl] 88)).cell? ⟨w.heap.size, 0, none⟩ = some (.int .i64 0) := (blk_cell hgb 0).trans rfl
    have f1 : (w.alloc (.cells #[.int .i64 0, .slice (some ad) ins.length ci, .int .i64 out, .int .i64 dl] 88)).cell? ⟨w.heap.size, 1, none⟩ = some (.slice (some ad) ins.length ci) := (blk_cell hgb 1).trans rfl
    have hc0 : (w.alloc (.cells #[.int .i64 0, .slice (some ad) ins.length ci, .int .i64 out, .int .i64 dl] 88)).cell? ad = some (.int .i64 v) := by
      have h := hc
      rwa [show ad.add 0 = ad by simp [Addr.add]] at h
    clear hgb
    have hpos : 0 < ins.length := by omega
    generalize ins.length = ln at *
    clear hl1
    go_enter Try.func55, Try.ntmps55
    go_wp2
    go_ret
    exact ⟨ret_int HE.out.symm, HB.out⟩
  · have e : ansF ⟨kd, ins, out, dl⟩ now = gateVal kd (askedL ins now) := if_neg h0
    have hmi := hr.2.1
    have hmm := hn.2.1
    have hk2 : ins.length ≤ 2 := by rcases inputs_kind h0 hlen with ⟨_, h⟩ | ⟨_, h⟩ | ⟨_, h⟩ | ⟨_, h⟩ | ⟨_, h⟩ | ⟨_, h⟩ <;> (have h2 : ins.length = _ := h; omega)
    have HIN := Lib.hid (fun k (hk : k < ins.length) => gateOk_ins hok h0 hk)
    have HE := Lib.hid e; clear e
    have HB := Lib.hid hB; clear hB
    have HGB := Lib.hid hgb; clear hgb
    have HR := Lib.hid hr; clear hr
    have HN := Lib.hid hn; clear hn
    have HLEN := Lib.hid hlen; clear hlen
    have HM := Lib.hid hm; clear hm
    clear hok
    have hsz : (w.alloc (.cells #[.int .i64 kd, .slice AI ins.length ci, .int .i64 out, .int .i64 dl] 88)).heap.size = w.heap.size + 1 := by simp
    have HSZ := Lib.hid hsz; clear hsz
    have hk00 : (kd == 0) = false := by simp [h0]
    go_enter Try.func55, Try.ntmps55
    go_wp2
    go_loopw [5, 6] (fun o i wr => ∃ k : Nat, k ≤ ins.length ∧ i = .int .i64 k ∧ Hid (Below (w.heap.size + 1) (w.alloc (.cells #[.int .i64 kd, .slice AI ins.length ci, .int .i64 out, .int .i64 dl] 88)) wr) ∧ Hid (wr.ownsRow (w.heap.size + 1) 3 1 o (askedL (ins.take k) now).length (nums .i64 (askedL (ins.take k) now)))) (fun _ i _ => ins.length - (intOf i).toNat)
    case atStart => exact ⟨0, by omega, rfl, Lib.hid (Below.refl _ _), Lib.hid (own_nil _ _ _ _)⟩
    case round =>
      obtain ⟨k, hk, rfl, hB1, hown⟩ := hrel
      have hB : Hid (Below w.heap.size w wr) := Lib.hid (HB.out.trans (hB1.out.mono (Nat.le_succ _)))
      have hgb := Lib.hid ((hB1.out.block _ (Nat.lt_succ_self _)).trans HGB.out)
      have f0 : wr.cell? ⟨w.heap.size, 0, none⟩ = some (.int .i64 kd) := (blk_cell hgb.out 0).trans rfl
      have f1 : wr.cell? ⟨w.heap.size, 1, none⟩ = some (.slice AI ins.length ci) := (blk_cell hgb.out 1).trans rfl
      by_cases hlt : k < ins.length
      · obtain ⟨ad, rfl, hc⟩ := rdN (HR.out.below hB.out) k hlt
        obtain ⟨i0, i1⟩ := HIN.out k hlt
        have HS := Lib.hid (asked_succ (now := now) hlt)
        generalize hx : ins.getD k 0 = x at *
        obtain ⟨j, rfl⟩ := Int.eq_ofNat_of_zero_le i0
        have hj : j < m := by have := HM.out; omega
        obtain ⟨bd, rfl, hd⟩ := rdN (HN.out.below hB.out) j hj
        have hlen2 : ((askedL (ins.take k) now).length + 1) * 8 ≤ 140737488355328 := by simp [askedL]; omega
        have HL2 := Lib.hid hlen2; clear hlen2
        have hj0 : (j : Int).toNat = j := by omega
        rw [hj0] at HS
        generalize now.getD j 0 = y at *
        have hbs : w.heap.size + 1 ≤ wr.heap.size := by have := hB1.out.size; rwa [HSZ.out] at this
        have HBS := Lib.hid hbs; clear hbs
        have hj2 : (j : Int) < (m : Int) := by omega
        clear hx i1
        go_wp2_with (at_builtin; go_must (refine print_append_num (w.heap.size + 1) rfl (.tmp 21) (.tmp 30) 22 3 .i64 8 rfl Try.underlying22 info3 (by decide) _ (askedL (ins.take k) now) y rfl rfl hown.out hB1.out HBS.out HL2.out ?_); intro v1 w1 h1 h2 _ _; have HO1 := Lib.hid h1; clear h1; have HB1 := Lib.hid h2; clear h2)
        go_roundw
        case rel => exact ⟨k + 1, by omega, by go_num, HB1, by rw [HS.out]; exact HO1⟩
        case measure => simp [intOf]; omega
      · obtain rfl : k = ins.length := by omega
        rw [List.take_length] at hown
        obtain ⟨A2, c2, rfl⟩ := own_slice hown.out
        have hlq : (askedL ins now).length = ins.length := by simp [askedL]
        rw [hlq] at hown
        have HRQ := Lib.hid (own_reads' hown.out)
        go_wp2_with fail
        refine (gives_any _ _ _ _ _ _ HRQ.out h0 HLEN.out).mono ?_
        rintro e w' ⟨rfl, rfl⟩
        go_wp2_with fail
        go_ret
        exact ⟨ret_int HE.out.symm, hB.out⟩
end Go.Proofs.Ytobdhdehmkmjcaa
namespace Go.Proofs.Ytobdhdehmkmjcaa
set_option linter.unusedVariables false
set_option linter.unusedSimpArgs false
open Go

section
variable {P : Program} {ops : Array Oper} {Q : Exit → Act → World → Prop} {md : Region.Mode} {S : World → Prop} {f : Nat}

/-- Whatever order is picked from here on; S holds behind every operation but number f. -/
def wpAnyF (P : Program) (md : Region.Mode) (ops : Array Oper) (Q : Exit → Act → World → Prop) (S : World → Prop) (f : Nat) : Nat → Array Bool → Act → World → Prop
  | 0, listed, a, w => Region.ready md ops listed = [] ∧ Q .normal a w
  | fuel + 1, listed, a, w =>
    (Region.ready md ops listed = [] → Q .normal a w) ∧
    ∀ i ∈ Region.ready md ops listed, wpOp P ops Q i (fun a' w' => (i ≠ f → S w') ∧ wpAnyF P md ops Q S f fuel (listed.setIfInBounds i true) a' w') a w

theorem wpAny_of_tail : ∀ (fuel : Nat) (listed : Array Bool) (a : Act) (w : World), wpAnyF P md ops Q S f fuel listed a w → wpAny P md ops Q fuel listed a w
  | 0, _, _, _, h => h
  | fuel + 1, _, _, _, h => ⟨h.1, fun i hi => wpOp_mono (fun a' w' h' => wpAny_of_tail fuel _ a' w' h'.2) (h.2 i hi)⟩

theorem wpAnyF_first {i : Nat} {oi : Oper} {v : Value} (hi : ops[i]? = some oi) (hsel : ∀ (j : Nat) (o : Oper) cs b, ops[j]? = some o → o.op ≠ .select cs b)
    (hQ : ∀ c a w, Q (.panic c) (a.put oi.dst v) w → Q (.panic c) a w) (hif : i ≠ f) (hwait : ∀ of, ops[f]? = some of → ∃ e ∈ of.after, Region.binds md e = true ∧ e.on = i) :
    ∀ (fuel : Nat) (listed : Array Bool) (a : Act) (w : World),
      (∀ j oj, ops[j]? = some oj → j ≠ i → listed.getD j true = false → (∀ e ∈ oj.after, Region.binds md e = true → e.on ≠ i) → oi.apart ops oj = true) →
      i ∈ Region.ready md ops listed → YieldsIf P ops S oi v a → S w →
      wpAnyF P md ops Q S f fuel (listed.setIfInBounds i true) (a.put oi.dst v) w → wpAnyF P md ops Q S f (fuel + 1) listed a w := by
  intro fuel
  induction fuel with
  | zero =>
    intro listed a w _ hr hy hS H
    refine ⟨fun h => (by rw [h] at hr; cases hr), fun j hj => ?_⟩
    by_cases hji : j = i
    · subst hji; exact hy.wpOp hi hS ⟨fun _ => hS, H⟩
    · have := ready_mono hj hji
      rw [H.1] at this
      cases this
  | succ fuel ih =>
    intro listed a w hfree hr hy hS H
    refine ⟨fun h => (by rw [h] at hr; cases hr), fun j hj => ?_⟩
    by_cases hji : j = i
    · subst hji; exact hy.wpOp hi hS ⟨fun _ => hS, H⟩
    · have h1 := H.2 j (ready_mono hj hji)
      obtain ⟨hjun, oj, hoj, hall⟩ := mem_ready.1 hj
      have hnot : ∀ e ∈ oj.after, Region.binds md e = true → e.on ≠ i := fun e he hb heq => by
        have h1 := hall e he hb
        have h0 := (mem_ready.1 hr).1
        rw [heq] at h1
        rcases Nat.lt_or_ge i listed.size with h' | h'
        · simp [h'] at h0 h1; rw [h0] at h1; cases h1
        · simp [Array.getElem?_eq_none h'] at h1
      have hjf : j ≠ f := fun e => by
        subst e
        obtain ⟨e', he', hb', hi'⟩ := hwait oj hoj
        exact hnot e' he' hb' hi'
      have h2 := wpOp_putIf hoj (hfree j oj hoj hji hjun hnot) (fun cs b => hsel i oi cs b hi) (fun cs b => hsel j oj cs b hoj) hQ hy h1
      have hfree' : ∀ k ok, ops[k]? = some ok → k ≠ i → (listed.setIfInBounds j true).getD k true = false →
          (∀ e ∈ ok.after, Region.binds md e = true → e.on ≠ i) → oi.apart ops ok = true := fun k ok hk hki hun hno => by
        refine hfree k ok hk hki ?_ hno
        by_cases hjk : j = k
        · subst hjk; exact hjun
        · rw [Go.getD_set_ne true hjk] at hun; exact hun
      refine wpOp_mono (fun a' w' h3 => ⟨h3.2.1, ih (listed.setIfInBounds j true) a' w' hfree' (ready_mono hr (Ne.symm hji)) h3.1 (h3.2.1 hjf) ?_⟩) h2
      rw [Array.setIfInBounds_comm _ _ hji]
      exact h3.2.2

/-- The last operation waits for number i. -/
def waits (md : Region.Mode) (ops : Array Oper) (f i : Nat) : Bool :=
  i != f && match ops[f]? with
  | none => true
  | some o => o.after.any fun e => Region.binds md e && e.on == i
theorem waits_spec {i : Nat} (h : waits md ops f i = true) : i ≠ f ∧ ∀ of, ops[f]? = some of → ∃ e ∈ of.after, Region.binds md e = true ∧ e.on = i := by
  unfold waits at h
  simp only [Bool.and_eq_true, bne_iff_ne, ne_eq] at h
  refine ⟨h.1, fun of hof => ?_⟩
  have h2 := h.2
  rw [hof] at h2
  simp only [Array.any_eq_true, Bool.and_eq_true, beq_iff_eq] at h2
  obtain ⟨k, hk, h3, h4⟩ := h2
  exact ⟨of.after[k], Array.getElem_mem _, h3, h4⟩
theorem wpAnyF_take {i : Nat} {oi : Oper} {v : Value} {fuel : Nat} {listed : Array Bool} {a : Act} {w : World} (hi : ops[i]? = some oi)
    (hs : Region.noSelect ops = true) (hf : Region.free md ops listed i = true) (hr : (Region.ready md ops listed).contains i = true) (hw : waits md ops f i = true)
    (hQ : ∀ c a w, Q (.panic c) (a.put oi.dst v) w → Q (.panic c) a w) (hy : YieldsIf P ops S oi v a) (hS : S w)
    (h : wpAnyF P md ops Q S f fuel (listed.setIfInBounds i true) (a.put oi.dst v) w) : wpAnyF P md ops Q S f (fuel + 1) listed a w :=
  wpAnyF_first hi (Region.noSelect_spec hs) hQ (waits_spec hw).1 (waits_spec hw).2 fuel listed a w (Region.free_spec hi hf) (by simpa using hr) hy hS h
theorem wpAnyF_all {rs : List Nat} {fuel : Nat} {listed : Array Bool} {a : Act} {w : World} (hr : Region.ready md ops listed = rs) (hne : rs ≠ [])
    (h : ∀ i ∈ rs, wpOp P ops Q i (fun a' w' => (i ≠ f → S w') ∧ wpAnyF P md ops Q S f fuel (listed.setIfInBounds i true) a' w') a w) : wpAnyF P md ops Q S f (fuel + 1) listed a w :=
  ⟨fun h0 => absurd (hr ▸ h0) hne, hr ▸ h⟩
theorem wpAnyF_one {i : Nat} {o : Oper} {fuel : Nat} {listed : Array Bool} {a : Act} {w : World} (hi : ops[i]? = some o) (hr : Region.ready md ops listed = [i])
    (h : ∀ K' : Act → World → Prop, (∀ a w, (i ≠ f → S w) → wpAnyF P md ops Q S f fuel (listed.setIfInBounds i true) a w → K' a w) → if Region.wanted o (yielded ops a.tmps) = true then Oper.wp P o a w K' Q else K' (a.put o.dst undef) w) : wpAnyF P md ops Q S f (fuel + 1) listed a w :=
  wpAnyF_all hr (by simp) (fun j hj => by
    obtain rfl : j = i := by simpa using hj
    exact wpOp_step hi (fun K' hK => h K' (fun a w hS hW => hK a w ⟨hS, hW⟩)))
theorem wpAnyF_done {listed : Array Bool} {a : Act} {w : World} (hr : Region.ready md ops listed = []) (h : Q .normal a w) :
    ∀ fuel, wpAnyF P md ops Q S f fuel listed a w
  | 0 => ⟨hr, h⟩
  | _ + 1 => ⟨fun _ => h, by rw [hr]; simp⟩
theorem wp_region_tail (f : Nat) (S : World → Prop) {id : Nat} {a : Act} {w : World} (hm : P.follows .mixedOrders = true)
    (h : wpAnyF P .any ops Q S f ops.size (Array.replicate ops.size false) a { w with drawn := w.drawn + 1 }) : (Code.region id ops true).wp P Q a w :=
  wp_region_any hm (wpAny_of_tail _ _ _ _ h)
end
end Go.Proofs.Ytobdhdehmkmjcaa
namespace Go.Proofs.Ytobdhdehmkmjcaa
set_option linter.unusedVariables false
set_option linter.unusedSimpArgs false
open Go.RowKit Go.Proofs.YtobdhdehmkmjcaaW.PrintWords Go.Proofs.YtobdhdehmkmjcaaW.PrintLast

theorem addAt_len (L : List (List Int)) (i x : Int) (o : Nat) : ((addAt L i x).getD o []).length ≤ (L.getD o []).length + 1 := by
  unfold addAt
  by_cases e : i.toNat = o
  · subst e
    by_cases h : i.toNat < L.length
    · rw [getD_set_eq h]; simp
    · rw [List.set_eq_of_length_le (by omega)]; omega
  · rw [getD_set_ne e]; omega
theorem rep_len (n o : Nat) : ((List.replicate n ([] : List Int)).getD o []).length = 0 := by
  rw [List.getD_eq_getElem?_getD, List.getElem?_replicate]
  split <;> rfl
theorem gateOk_out {nets : Int} {g : GateL} (h : gateOk nets g = true) : 0 ≤ g.out ∧ g.out < nets := by
  unfold gateOk at h
  simp only [Bool.and_eq_true, decide_eq_true_eq] at h
  exact ⟨h.1.1.1.1.2, h.1.1.1.2⟩
theorem ne_of_lt_row {b k : Nat} {v : Value} {W : World} {e : TypeId} {size n : Nat} {xs : List Value} (h : W.ownsRow b e size v n xs) (hk : k < b ∨ W.heap.size ≤ k) : some k ≠ v.ownBlock := fun e' => by
  have h1 := own_base h k e'.symm
  have h2 := own_lt h k e'.symm
  omega

theorem drive_at {nets : Int} {ds : List DriveL} (h : ds.all (driveOk nets) = true) {k : Nat} (hk : k < ds.length) : driveOk nets (ds.getD k zDrive) = true := by
  rw [List.getD_eq_getElem?_getD, List.getElem?_eq_getElem hk]
  exact List.all_eq_true.1 h _ (List.getElem_mem _)
theorem driveOk_net {nets : Int} {d : DriveL} (h : driveOk nets d = true) : 0 ≤ d.net ∧ d.net < nets := by
  unfold driveOk at h
  simp only [Bool.and_eq_true, decide_eq_true_eq] at h
  exact h.1

/-- The next list while it is being filled. -/
def fillL (xs : List Int) (n : Nat) : List Int := xs.take n ++ List.replicate (xs.length - n) 0
theorem fillL_zero (xs : List Int) : fillL xs 0 = List.replicate xs.length 0 := by simp [fillL]
theorem fillL_all (xs : List Int) : fillL xs xs.length = xs := by simp [fillL]
theorem fillL_length (xs : List Int) (n : Nat) (h : n ≤ xs.length) : (fillL xs n).length = xs.length := by simp [fillL]; omega
theorem fillL_set (xs : List Int) (n : Nat) (h : n < xs.length) : (fillL xs n).set n (xs.getD n 0) = fillL xs (n + 1) := by
  unfold fillL
  apply List.ext_getElem?
  intro i
  have hl : (xs.take n).length = n := by simp; omega
  by_cases h1 : i < n
  · rw [List.getElem?_set_ne (by omega), List.getElem?_append_left (by omega), List.getElem?_append_left (by simp; omega)]
    simp [List.getElem?_take, h1, show i < n + 1 by omega]
  · by_cases h2 : i = n
    · subst h2
      rw [List.getElem?_set_self (by simp; omega), List.getElem?_append_left (by simp; omega)]
      simp [List.getElem?_take, List.getD_eq_getElem?_getD, List.getElem?_eq_getElem h]
    · rw [List.getElem?_set_ne (by omega), List.getElem?_append_right (by omega), List.getElem?_append_right (by simp; omega)]
      simp [List.getElem?_replicate]
      split <;> split <;> simp_all <;> omega

theorem own_mono {w : World} {base base' : Nat} {e : TypeId} {size n : Nat} {v : Value} {xs : List Value} (h : w.ownsRow base e size v n xs) (hb : base' ≤ base) : w.ownsRow base' e size v n xs := by
  obtain ⟨h1, h2⟩ := h
  refine ⟨h1, ?_⟩
  rcases h2 with h2 | ⟨g, cap, cur, e1, e2, r⟩
  · exact .inl h2
  · exact .inr ⟨g, cap, cur, e1, Nat.le_trans hb e2, r⟩
end Go.Proofs.Ytobdhdehmkmjcaa
