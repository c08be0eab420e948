/- What a gate answers that is no constant. -/
import Derived.Test.YtobdhdehmkmjcaaU
import Derived.StillTailTactics
import Derived.Deep.RegionWith
namespace Go.Proofs.Ytobdhdehmkmjcaa
open Go.RowKit Go.Proofs.YtobdhdehmkmjcaaW.PrintWords Go.Proofs.YtobdhdehmkmjcaaW.PrintLast

theorem asked_succ {ins now : List Int} {k : Nat} (hk : k < ins.length) : askedL (ins.take (k + 1)) now = askedL (ins.take k) now ++ [now.getD (ins.getD k 0).toNat 0] := by
  unfold askedL
  rw [List.take_succ_eq_append_getElem hk, List.map_append]
  simp [List.getD_eq_getElem?_getD, List.getElem?_eq_getElem hk]

set_option maxHeartbeats 2000000 in
set_option maxRecDepth 100000 in
theorem answer_gate (g mb : Nat) (w : World) (nets : Int) (GA : Option Addr) (gn gc : Nat) (hp : Player w g mb nets GA gn gc) (AI : Option Addr) (ci : Nat) (kd : Int) (ins : List Int) (out dl : Int) (B : Option Addr) (m d : Nat) (now : List Int)
    (h0 : kd ≠ 0) (hlen : (ins.length : Int) = inputsF kd) (hin : ∀ j, j < ins.length → 0 ≤ ins.getD j 0 ∧ ins.getD j 0 < (m : Int)) (hr : ReadsInt w .i64 AI ins.length ins) (hn : ReadsInt w .i64 B m now) :
    Calls Try.prog 83 #[.pointer (some ⟨g, 0, none⟩), .agg #[.int .i64 kd, .slice AI ins.length ci, .int .i64 out, .int .i64 dl], .slice B m d] w fun e w' => e = .returned (.int .i64 (gateVal kd (askedL ins now))) ∧ Below w.heap.size w w' := by
  have hm := hr.2.1
  have hmm := hn.2.1
  have hB : Below w.heap.size w (w.alloc (.cells #[.int .i64 kd, .slice AI ins.length ci, .int .i64 out, .int .i64 dl] 88)) := (Below.refl _ _).alloc (Nat.le_refl _) _
  have hgb : (w.alloc (.cells #[.int .i64 kd, .slice AI ins.length ci, .int .i64 out, .int .i64 dl] 88)).heap[w.heap.size]? = some (.cells #[.int .i64 kd, .slice AI ins.length ci, .int .i64 out, .int .i64 dl] 88 (0, 0)) := blk_new w _
  have hk2 : ins.length ≤ 2 := by rcases inputs_kind h0 hlen with ⟨_, h⟩ | ⟨_, h⟩ | ⟨_, h⟩ | ⟨_, h⟩ | ⟨_, h⟩ | ⟨_, h⟩ <;> omega
  have HB := Lib.hid hB; clear hB
  have HGB := Lib.hid hgb; clear hgb
  have HR := Lib.hid hr; clear hr
  have HN := Lib.hid hn; clear hn
  have HP := Lib.hid hp; clear hp
  have HLEN := Lib.hid hlen; clear hlen
  have HIN := Lib.hid hin; clear hin
  have hsz : (w.alloc (.cells #[.int .i64 kd, .slice AI ins.length ci, .int .i64 out, .int .i64 dl] 88)).heap.size = w.heap.size + 1 := by simp
  have HSZ := Lib.hid hsz; clear hsz
  have hk00 : (kd == 0) = false := by simp [h0]
  go_enter Try.func83, Try.ntmps83
  go_wp2
  go_loopw [7, 20] (fun o i wr => ∃ k : Nat, k ≤ ins.length ∧ i = .int .i64 k ∧ Hid (Below (w.heap.size + 1) (w.alloc (.cells #[.int .i64 kd, .slice AI ins.length ci, .int .i64 out, .int .i64 dl] 88)) wr) ∧ Hid (wr.ownsRow (w.heap.size + 1) 3 1 o (askedL (ins.take k) now).length (nums .i64 (askedL (ins.take k) now)))) (fun _ i _ => ins.length - (intOf i).toNat)
  case atStart => exact ⟨0, by omega, rfl, Lib.hid (Below.refl _ _), Lib.hid (own_nil _ _ _ _)⟩
  case round =>
    obtain ⟨k, hk, rfl, hB1, hown⟩ := hrel
    have hB : Hid (Below w.heap.size w wr) := Lib.hid (HB.out.trans (hB1.out.mono (Nat.le_succ _)))
    have hgb := Lib.hid ((hB1.out.block _ (Nat.lt_succ_self _)).trans HGB.out)
    have f0 : wr.cell? ⟨w.heap.size, 0, none⟩ = some (.int .i64 kd) := (blk_cell hgb.out 0).trans rfl
    by_cases hlt : k < ins.length
    · obtain ⟨ad, rfl, hc⟩ := rdN (HR.out.below hB.out) k hlt
      obtain ⟨i0, i1⟩ := HIN.out k hlt
      have HS := Lib.hid (asked_succ (now := now) hlt)
      generalize hx : ins.getD k 0 = x at *
      obtain ⟨j, rfl⟩ := Int.eq_ofNat_of_zero_le i0
      have hj : j < m := by omega
      obtain ⟨bd, rfl, hd⟩ := rdN (HN.out.below hB.out) j hj
      have hlen2 : ((askedL (ins.take k) now).length + 1) * 8 ≤ 140737488355328 := by simp [askedL]; omega
      have HL2 := Lib.hid hlen2; clear hlen2
      have hj0 : (j : Int).toNat = j := by omega
      rw [hj0] at HS
      generalize now.getD j 0 = y at *
      have hbs : w.heap.size + 1 ≤ wr.heap.size := by have := hB1.out.size; rwa [HSZ.out] at this
      have HBS := Lib.hid hbs; clear hbs
      go_wp2_with (at_builtin; go_must (refine print_append_num (w.heap.size + 1) rfl (.tmp 24) (.tmp 29) 22 3 .i64 8 rfl Try.underlying22 info3 (by decide) _ (askedL (ins.take k) now) y rfl rfl hown.out hB1.out HBS.out HL2.out ?_); intro v1 w1 h1 h2 _ _; have HO1 := Lib.hid h1; clear h1; have HB1 := Lib.hid h2; clear h2)
      go_roundw
      case rel =>
        exact ⟨k + 1, by omega, by go_num, HB1, by rw [HS.out]; exact HO1⟩
      case measure => simp [intOf]; omega
    · obtain rfl : k = ins.length := by omega
      rw [List.take_length] at hown
      have hp2 := HP.out.below hB.out
      have hc2 := hp2.c2
      obtain ⟨A2, c2, rfl⟩ := own_slice hown.out
      have hlq : (askedL ins now).length = ins.length := by simp [askedL]
      rw [hlq] at hown
      have HRQ := Lib.hid (own_reads' hown.out)
      have hgv : Hid (inputsF kd = (ins.length : Int)) := Lib.hid HLEN.out.symm
      generalize hqs : askedL ins now = qs at *
      have HQS := Lib.hid hqs; clear hqs
      have HPM := Lib.hid hp2.mp
      rcases inputs_kind h0 HLEN.out with ⟨rfl, e⟩ | ⟨rfl, e⟩ | ⟨rfl, e⟩ | ⟨rfl, e⟩ | ⟨rfl, e⟩ | ⟨rfl, e⟩
      · have hlook : (Instr.lookup 68 (.map (some mb)) (.int .i64 1) false).run Try.prog wr.drew = .ok (.func (.func 71) #[] #[]) wr.drew := look_at (W := wr.drew) (mb := mb) HPM.out 1 0 (by kernel_rfl)
        go_wp2
        go_still_tail 9, (by kernel_rfl)
        change wpList _ _ _ _ _ wr.drew
        have HRD : Hid (ReadsInt wr.drew .i64 A2 1 qs) := by rw [e] at HRQ; exact HRQ
        have HBD : Hid (Below w.heap.size w wr.drew) := Lib.hid (pw_below_drewN (n := 1) hB.out)
        generalize wr.drew = w2 at *
        go_wp2_with fail
        refine (not_any _ _ _ _ _ HRD.out (by omega)).mono ?_
        rintro e w' ⟨rfl, hb1⟩
        have HGV : Hid (gateVal 1 (askedL ins now) = notF (to01 (qs.getD 0 0))) := Lib.hid (by rw [HQS.out]; rfl)
        generalize notF (to01 (qs.getD 0 0)) = rv at HGV ⊢
        have HBE := Lib.hid (HBD.out.trans (hb1.mono HBD.out.size)); clear hb1
        go_wp2_with fail
        go_ret
        exact ⟨ret_int HGV.out.symm, HBE.out⟩
      · have hlook : (Instr.lookup 68 (.map (some mb)) (.int .i64 2) false).run Try.prog wr.drew = .ok (.func (.func 72) #[] #[]) wr.drew := look_at (W := wr.drew) (mb := mb) HPM.out 2 1 (by kernel_rfl)
        go_wp2
        go_still_tail 9, (by kernel_rfl)
        change wpList _ _ _ _ _ wr.drew
        have HRD : Hid (ReadsInt wr.drew .i64 A2 1 qs) := by rw [e] at HRQ; exact HRQ
        have HBD : Hid (Below w.heap.size w wr.drew) := Lib.hid (pw_below_drewN (n := 1) hB.out)
        generalize wr.drew = w2 at *
        go_wp2_with fail
        refine (buf_any _ _ _ _ _ HRD.out (by omega)).mono ?_
        rintro e w' ⟨rfl, hb1⟩
        have HGV : Hid (gateVal 2 (askedL ins now) = qs.getD 0 0) := Lib.hid (by rw [HQS.out]; rfl)
        generalize qs.getD 0 0 = rv at HGV ⊢
        have HBE := Lib.hid (HBD.out.trans (hb1.mono HBD.out.size)); clear hb1
        go_wp2_with fail
        go_ret
        exact ⟨ret_int HGV.out.symm, HBE.out⟩
      · have hlook : (Instr.lookup 68 (.map (some mb)) (.int .i64 3) false).run Try.prog wr.drew = .ok (.func (.func 73) #[] #[]) wr.drew := look_at (W := wr.drew) (mb := mb) HPM.out 3 2 (by kernel_rfl)
        go_wp2
        go_still_tail 9, (by kernel_rfl)
        change wpList _ _ _ _ _ wr.drew
        have HRD : Hid (ReadsInt wr.drew .i64 A2 2 qs) := by rw [e] at HRQ; exact HRQ
        have HBD : Hid (Below w.heap.size w wr.drew) := Lib.hid (pw_below_drewN (n := 1) hB.out)
        generalize wr.drew = w2 at *
        go_wp2_with fail
        refine (and_any _ _ _ _ _ HRD.out (by omega)).mono ?_
        rintro e w' ⟨rfl, hb1⟩
        have HGV : Hid (gateVal 3 (askedL ins now) = andF (to01 (qs.getD 0 0)) (to01 (qs.getD 1 0))) := Lib.hid (by rw [HQS.out]; rfl)
        generalize andF (to01 (qs.getD 0 0)) (to01 (qs.getD 1 0)) = rv at HGV ⊢
        have HBE := Lib.hid (HBD.out.trans (hb1.mono HBD.out.size)); clear hb1
        go_wp2_with fail
        go_ret
        exact ⟨ret_int HGV.out.symm, HBE.out⟩
      · have hlook : (Instr.lookup 68 (.map (some mb)) (.int .i64 4) false).run Try.prog wr.drew = .ok (.func (.func 74) #[] #[]) wr.drew := look_at (W := wr.drew) (mb := mb) HPM.out 4 3 (by kernel_rfl)
        go_wp2
        go_still_tail 9, (by kernel_rfl)
        change wpList _ _ _ _ _ wr.drew
        have HRD : Hid (ReadsInt wr.drew .i64 A2 2 qs) := by rw [e] at HRQ; exact HRQ
        have HBD : Hid (Below w.heap.size w wr.drew) := Lib.hid (pw_below_drewN (n := 1) hB.out)
        generalize wr.drew = w2 at *
        go_wp2_with fail
        refine (or_any _ _ _ _ _ HRD.out (by omega)).mono ?_
        rintro e w' ⟨rfl, hb1⟩
        have HGV : Hid (gateVal 4 (askedL ins now) = orF (to01 (qs.getD 0 0)) (to01 (qs.getD 1 0))) := Lib.hid (by rw [HQS.out]; rfl)
        generalize orF (to01 (qs.getD 0 0)) (to01 (qs.getD 1 0)) = rv at HGV ⊢
        have HBE := Lib.hid (HBD.out.trans (hb1.mono HBD.out.size)); clear hb1
        go_wp2_with fail
        go_ret
        exact ⟨ret_int HGV.out.symm, HBE.out⟩
      · have hlook : (Instr.lookup 68 (.map (some mb)) (.int .i64 5) false).run Try.prog wr.drew = .ok (.func (.func 75) #[] #[]) wr.drew := look_at (W := wr.drew) (mb := mb) HPM.out 5 4 (by kernel_rfl)
        go_wp2
        go_still_tail 9, (by kernel_rfl)
        change wpList _ _ _ _ _ wr.drew
        have HRD : Hid (ReadsInt wr.drew .i64 A2 2 qs) := by rw [e] at HRQ; exact HRQ
        have HBD : Hid (Below w.heap.size w wr.drew) := Lib.hid (pw_below_drewN (n := 1) hB.out)
        generalize wr.drew = w2 at *
        go_wp2_with fail
        refine (xor_any _ _ _ _ _ HRD.out (by omega)).mono ?_
        rintro e w' ⟨rfl, hb1⟩
        have HGV : Hid (gateVal 5 (askedL ins now) = xorF (to01 (qs.getD 0 0)) (to01 (qs.getD 1 0))) := Lib.hid (by rw [HQS.out]; rfl)
        generalize xorF (to01 (qs.getD 0 0)) (to01 (qs.getD 1 0)) = rv at HGV ⊢
        have HBE := Lib.hid (HBD.out.trans (hb1.mono HBD.out.size)); clear hb1
        go_wp2_with fail
        go_ret
        exact ⟨ret_int HGV.out.symm, HBE.out⟩
      · have hlook : (Instr.lookup 68 (.map (some mb)) (.int .i64 6) false).run Try.prog wr.drew = .ok (.func (.func 76) #[] #[]) wr.drew := look_at (W := wr.drew) (mb := mb) HPM.out 6 5 (by kernel_rfl)
        go_wp2
        go_still_tail 9, (by kernel_rfl)
        change wpList _ _ _ _ _ wr.drew
        have HRD : Hid (ReadsInt wr.drew .i64 A2 2 qs) := by rw [e] at HRQ; exact HRQ
        have HBD : Hid (Below w.heap.size w wr.drew) := Lib.hid (pw_below_drewN (n := 1) hB.out)
        generalize wr.drew = w2 at *
        go_wp2_with fail
        refine (tri_any _ _ _ _ _ HRD.out (by omega)).mono ?_
        rintro e w' ⟨rfl, hb1⟩
        have HGV : Hid (gateVal 6 (askedL ins now) = triF (to01 (qs.getD 0 0)) (to01 (qs.getD 1 0))) := Lib.hid (by rw [HQS.out]; rfl)
        generalize triF (to01 (qs.getD 0 0)) (to01 (qs.getD 1 0)) = rv at HGV ⊢
        have HBE := Lib.hid (HBD.out.trans (hb1.mono HBD.out.size)); clear hb1
        go_wp2_with fail
        go_ret
        exact ⟨ret_int HGV.out.symm, HBE.out⟩
end Go.Proofs.Ytobdhdehmkmjcaa
