/- A player in memory; what a gate answers. -/
import Derived.Test.YtobdhdehmkmjcaaR
import Derived.Test.YtobdhdehmkmjcaaH
namespace Go.Proofs.Ytobdhdehmkmjcaa
open Go.RowKit Go.Proofs.YtobdhdehmkmjcaaW.PrintWords Go.Proofs.YtobdhdehmkmjcaaW.PrintLast

/-- A table of resolutions that lies two cells behind a block's start. -/
def TabAt (w : World) (g : Nat) : Prop := ∀ a b : Int, 0 ≤ a ∧ a ≤ 8 → 0 ≤ b ∧ b ≤ 8 → w.cell? ⟨g, 2 + a.toNat * 9 + b.toNat, none⟩ = some (.int .i64 (meetF a b))
theorem TabAt.below {w w1 : World} {g : Nat} (h : TabAt w g) (hb : Below w.heap.size w w1) : TabAt w1 g := fun a b ha hb' => pw_cell_below hb (h a b ha hb')

set_option maxHeartbeats 400000 in
theorem resolved2_any (g : Nat) (A : Option Addr) (n c : Nat) (xs : List Int) (w : World) (hg : TabAt w g)
    (hr : ReadsInt w .i64 A n xs) (hv : xs.all isVal = true) :
    Calls Try.prog 36 #[.pointer (some ⟨g, 2, none⟩), .slice A n c] w fun e w' => e = .returned (.int .i64 (resF xs)) ∧ w = w' := by
  have HG := Lib.hid hg; clear hg
  have HV := Lib.hid hv; clear hv
  have HL := Lib.hid hr.1
  have hm := hr.2.1
  go_enter Try.func36, Try.ntmps36
  go_wp2
  go_loop [5, 10] (fun o i => ∃ k : Nat, k ≤ n ∧ i = .int .i64 k ∧ o = .int .i64 (resF (xs.take k))) (fun _ i => n - (intOf i).toNat)
  case atStart => exact ⟨0, by omega, rfl, by simp [resF]⟩
  case round =>
    obtain ⟨k, hk, rfl, rfl⟩ := hrel
    by_cases hlt : k < n
    · obtain ⟨ad, rfl, hc⟩ := rdN hr k hlt
      have hlt' : decide ((k : Int) < (n : Int)) = true := by simp; omega
      have hs := resF_succ (xs := xs) (k := k) (by rw [HL.out]; exact hlt)
      have h1 := isVal_iff (resF_val (xs := xs.take k) (by rw [List.all_eq_true]; intro x hx; exact List.all_eq_true.1 HV.out x (List.mem_of_mem_take hx)))
      have h2 := isVal_iff (all_getD HV.out (k := k) (by rw [HL.out]; exact hlt))
      have hcell := HG.out _ _ h1 h2
      have HS := Lib.hid hs; clear hs
      generalize resF (xs.take k) = a at *
      generalize xs.getD k 0 = b at *
      obtain ⟨h1a, h1b⟩ := h1
      obtain ⟨h2a, h2b⟩ := h2
      go_wp2
      go_round
      case rel => exact ⟨k + 1, by omega, by go_num, by rw [HS.out]⟩
      case measure => simp [intOf]; omega
    · obtain rfl : k = n := by omega
      go_wp2
      go_ret
      exact ⟨ret_int (by rw [List.take_of_length_le (by rw [HL.out]; omega)]), rfl⟩

/-- A player in memory. -/
structure Player (w : World) (g mb : Nat) (nets : Int) (A : Option Addr) (n c : Nat) : Prop where
  c0 : w.cell? ⟨g, 0, none⟩ = some (.int .i64 nets)
  c1 : w.cell? ⟨g, 1, none⟩ = some (.slice A n c)
  tab : TabAt w g
  c2 : w.cell? ⟨g, 83, none⟩ = some (.map (some mb))
  mp : w.heap[mb]? = some (.map gE6 6)
theorem Player.below {w w1 : World} {g mb : Nat} {nets : Int} {A : Option Addr} {n c : Nat} (h : Player w g mb nets A n c) (hb : Below w.heap.size w w1) : Player w1 g mb nets A n c :=
  ⟨pw_cell_below hb h.c0, pw_cell_below hb h.c1, h.tab.below hb, pw_cell_below hb h.c2, blk_below h.mp hb⟩

/-- The values of the nets that a gate asks. -/
def askedL (ins : List Int) (now : List Int) : List Int := ins.map fun n => now.getD n.toNat 0
def ansF (g : GateL) (now : List Int) : Int := if g.kind = 0 then g.ins.getD 0 0 else gateVal g.kind (askedL g.ins now)

theorem look_at {W : World} {mb : Nat} (hb : W.heap[mb]? = some (.map gE6 6)) (k : Int) (i : Nat) (hf : Instr.findNow (.int .i64) (.int .i64 k) gE6.toList 0 = some (some (i, .func (.func (71 + i)) #[] #[]))) :
    (Instr.lookup 68 (.map (some mb)) (.int .i64 k) false).run Try.prog W = .ok (.func (.func (71 + i)) #[] #[]) W :=
  run_lookup_int _ 68 3 67 Try.underlying68 Try.underlying3 _ gE6 6 k i _ hb hf
theorem gateOk_ins {nets : Int} {g : GateL} (h : gateOk nets g = true) (h0 : g.kind ≠ 0) {k : Nat} (hk : k < g.ins.length) : 0 ≤ g.ins.getD k 0 ∧ g.ins.getD k 0 < nets := by
  unfold gateOk at h
  simp only [Bool.and_eq_true] at h
  have := all_getD h.2 hk
  rw [if_neg h0] at this
  simpa using this
theorem gateOk_len {nets : Int} {g : GateL} (h : gateOk nets g = true) : (g.ins.length : Int) = inputsF g.kind := by
  unfold gateOk at h
  simp only [Bool.and_eq_true, decide_eq_true_eq] at h
  exact h.1.1.1.1.1

set_option maxHeartbeats 1000000 in
set_option maxRecDepth 100000 in
theorem answer_const (g : Nat) (w : World) (AI : Option Addr) (ci : Nat) (ins : List Int) (out dl : Int) (B : Option Addr) (m d : Nat)
    (h1 : 1 ≤ ins.length) (hr : ReadsInt w .i64 AI ins.length ins) :
    Calls Try.prog 83 #[.pointer (some ⟨g, 0, none⟩), .agg #[.int .i64 0, .slice AI ins.length ci, .int .i64 out, .int .i64 dl], .slice B m d] w fun e w' => e = .returned (.int .i64 (ins.getD 0 0)) ∧ Below w.heap.size w w' := by
  have hm := hr.2.1
  have hB : Below w.heap.size w (w.alloc (.cells #[.int .i64 0, .slice AI ins.length ci, .int .i64 out, .int .i64 dl] 88)) := (Below.refl _ _).alloc (Nat.le_refl _) _
  obtain ⟨ad, rfl, h0⟩ := rd0 (hr.below hB) (by omega)
  generalize ins.getD 0 0 = p at *
  have HB := Lib.hid hB; clear hB
  have HR := Lib.hid hr; clear hr
  go_enter Try.func83, Try.ntmps83
  go_wp2
  go_ret
  exact ⟨rfl, HB.out⟩
end Go.Proofs.Ytobdhdehmkmjcaa
