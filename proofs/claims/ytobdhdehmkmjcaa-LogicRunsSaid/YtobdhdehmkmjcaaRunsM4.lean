/- Words and walks for the row RowLogicRuns, put together: M4. -/
import Derived.Test.YtobdhdehmkmjcaaRuns6
import Derived.IntWalk
namespace Go.Proofs.Ytobdhdehmkmjcaa
set_option linter.unusedVariables false
set_option linter.unusedSimpArgs false
open Go.RowKit Go.Proofs.YtobdhdehmkmjcaaW.PrintWords Go.Proofs.YtobdhdehmkmjcaaW.PrintLast

/-- The memory of ask's loop. -/
def AskSt (w0 w wr : World) (gr gp gB gX cX dn : Nat) (pv qv dv ov nv ev cv : Value) (s : AskS) : Prop :=
  KeptS (fun i => i = gr ∨ some i = qv.ownBlock) w wr ∧
  wr.ownsRow w.heap.size 3 1 (.slice (some ⟨gX, 0, none⟩) dn cX) dn (nums .i64 s.gv) ∧
  (∃ qk, wr.heap[gr]? = some (.cells #[.pointer (some ⟨gp, 0, none⟩), pv, qk, dv, ov, nv, ev] 108 (0, 0)) ∧ wr.ownsRow w0.heap.size 132 3 qk s.q.length (flatS s.q) ∧ (qk.ownBlock = qv.ownBlock ∨ ∃ b, qk.ownBlock = some b ∧ w.heap.size ≤ b)) ∧
  wr.heap[gB]? = some (.cells #[cv] 105 (0, 0))
section
variable {w0 w wr wq : World} {gr gp gB gX cX dn : Nat} {pv qv dv ov nv ev cv : Value} {s : AskS}
theorem AskSt.below (h : AskSt w0 w wr gr gp gB gX cX dn pv qv dv ov nv ev cv s) (hb : Below wr.heap.size wr wq) : AskSt w0 w wq gr gp gB gX cX dn pv qv dv ov nv ev cv s := by
  obtain ⟨h1, h2, ⟨qk, h3, h4, h5⟩, h6⟩ := h
  exact ⟨h1.trans (T := fun _ => False) (KeptS.of_below hb) (fun _ _ h => h.elim), pw_own_below h2 hb, ⟨qk, blk_below h3 hb, pw_own_below h4 hb, h5⟩, blk_below h6 hb⟩
theorem AskSt.put (h : AskSt w0 w wr gr gp gB gX cX dn pv qv dv ov nv ev cv s) (i : Nat) (x : Int) (m : Bool) : AskSt w0 w (wr.setCell ⟨gX, i, none⟩ (.int .i64 x)) gr gp gB gX cX dn pv qv dv ov nv ev cv ⟨s.gv.set i x, s.q, m⟩ := by
  obtain ⟨h1, h2, ⟨qk, h3, h4, h5⟩, h6⟩ := h
  have hgX : w.heap.size ≤ gX := own_base h2 gX rfl
  refine ⟨h1.put (p := ⟨gX, i, none⟩) (fun h => by have h : gX < w.heap.size := h; omega) _, own_put h2 i x, ⟨qk, blk_far h3 (p := ⟨gX, i, none⟩) (fun e => own_ne h2 h3 (by decide) (by rw [e]; rfl)) _, own_setCell h4 (fun e => ?_) _, h5⟩, blk_far h6 (p := ⟨gX, i, none⟩) (fun e => own_ne h2 h6 (by decide) (by rw [e]; rfl)) _⟩
  rcases own_type_ne h4 h2 (by decide) with h | h
  · rw [h] at e; cases e
  · exact h (by rw [← e]; rfl)
theorem AskSt.sent (h : AskSt w0 w wr gr gp gB gX cX dn pv qv dv ov nv ev cv s) {qk : Value} (hqk : wr.heap[gr]? = some (.cells #[.pointer (some ⟨gp, 0, none⟩), pv, qk, dv, ov, nv, ev] 108 (0, 0))) {w3 : World} {gg cap : Nat} {e : SentL}
    (hg : wr.grownBy w3 qk.ownBlock) (ho : w3.ownsRow w0.heap.size 132 3 (.slice (some ⟨gg, 0, none⟩) (s.q.length + 1) cap) (s.q.length + 1) (flatS s.q ++ [.int .i64 e.t, .int .i64 e.gate, .int .i64 e.v])) (hat : qk.ownBlock = some gg ∨ w.heap.size ≤ gg) (hgr : gr < w.heap.size) :
    AskSt w0 w (w3.setCell ⟨gr, 2, none⟩ (.slice (some ⟨gg, 0, none⟩) (s.q.length + 1) cap)) gr gp gB gX cX dn pv qv dv ov nv ev cv ⟨s.gv, s.q ++ [e], s.moved⟩ := by
  obtain ⟨h1, h2, ⟨qk', h3, h4, h5⟩, h6⟩ := h
  obtain rfl : qk' = qk := by
    rw [h3] at hqk
    injection hqk with hqk
    injection hqk with hqk _ _
    have := congrArg (fun a => a[2]?) hqk
    simpa using this
  have hgX : w.heap.size ≤ gX := own_base h2 gX rfl
  have hrq : some gr ≠ qk'.ownBlock := row_ne_blk h4 h3 (by decide)
  have hb3 : w3.heap[gr]? = some (.cells #[.pointer (some ⟨gp, 0, none⟩), pv, qk', dv, ov, nv, ev] 108 (0, 0)) := blk_grown h3 hg hrq
  have hrg : gr ≠ gg := fun e => own_ne ho hb3 (by decide) (by rw [e]; rfl)
  have hB3 : w3.heap[gB]? = some (.cells #[cv] 105 (0, 0)) := blk_grown h6 hg (row_ne_blk h4 h6 (by decide))
  have hBr : gB ≠ gr := fun e => by rw [e, hb3] at hB3; injection hB3 with hB3; injection hB3 with _ hB3 _; exact absurd hB3 (by decide)
  refine ⟨?_, own_setCell (own_other h2 hg (own_type_ne h2 h4 (by decide))) (fun e => ?_) _, ⟨.slice (some ⟨gg, 0, none⟩) (s.q.length + 1) cap, ?_, ?_, ?_⟩, blk_far hB3 (p := ⟨gr, 2, none⟩) hBr _⟩
  · have k1 := h1.trans (T := fun i => i = gr ∨ some i = qv.ownBlock ∨ w.heap.size ≤ i) (KeptS.grown hg (fun k hk _ => by
      rcases h5 with h5 | ⟨b, h5, h7⟩
      · rw [h5] at hk; exact .inr (.inl hk.symm)
      · rw [h5] at hk; injection hk with hk; right; right; omega)) (fun i hi h => by rcases h with h | h | h; exact .inl h; exact .inr h; omega)
    exact k1.put (p := ⟨gr, 2, none⟩) (fun _ => .inl rfl) _
  · have e2 : gr = gX := Option.some.inj e
    omega
  · rw [blk_set hb3]; rfl
  · have := own_setCell ho (p := ⟨gr, 2, none⟩) (fun e => hrg (Option.some.inj e)) (.slice (some ⟨gg, 0, none⟩) (s.q.length + 1) cap)
    simpa [flatS_append, flatS] using this
  · rcases hat with hat | hat
    · rcases h5 with h5 | ⟨b, h5, h7⟩
      · left; rw [← h5, hat]; rfl
      · right; rw [h5] at hat; injection hat with hat; exact ⟨gg, rfl, by omega⟩
    · exact .inr ⟨gg, rfl, hat⟩
end
theorem askTo_succ {gs : List GateL} {t : Int} {all : Bool} {ch : List Bool} {nets : List Int} {s : AskS} (k : Nat) : askTo gs t all ch nets s (k + 1) = askOne gs t all ch nets k (askTo gs t all ch nets s k) := rfl
theorem askOne_no {gs : List GateL} {t : Int} {all : Bool} {ch : List Bool} {nets : List Int} {k : Nat} {s : AskS} (h : askedB all ch (gs.getD k zGate) = false) : askOne gs t all ch nets k s = s := by unfold askOne; rw [if_neg (by rw [h]; simp)]
theorem askOne_late {gs : List GateL} {t : Int} {all : Bool} {ch : List Bool} {nets : List Int} {k : Nat} {s : AskS} (h : askedB all ch (gs.getD k zGate) = true) (hd : 0 < (gs.getD k zGate).delay) : askOne gs t all ch nets k s = ⟨s.gv, s.q ++ [⟨t + (gs.getD k zGate).delay, k, ansF (gs.getD k zGate) nets⟩], s.moved⟩ := by unfold askOne; rw [if_pos h, if_pos hd]
theorem askOne_now {gs : List GateL} {t : Int} {all : Bool} {ch : List Bool} {nets : List Int} {k : Nat} {s : AskS} (h : askedB all ch (gs.getD k zGate) = true) (hd : ¬ 0 < (gs.getD k zGate).delay) : askOne gs t all ch nets k s = ⟨s.gv.set k (ansF (gs.getD k zGate) nets), s.q, s.moved || (ansF (gs.getD k zGate) nets != s.gv.getD k 0)⟩ := by unfold askOne; rw [if_pos h, if_neg hd]
theorem askTo_qlen {gs : List GateL} {t : Int} {all : Bool} {ch : List Bool} {nets : List Int} {s : AskS} : ∀ k, (askTo gs t all ch nets s k).q.length ≤ s.q.length + k
  | 0 => Nat.le_refl _
  | k + 1 => by
    have ih := askTo_qlen (gs := gs) (t := t) (all := all) (ch := ch) (nets := nets) (s := s) k
    unfold askTo askOne
    split
    · split
      · simp; omega
      · exact Nat.le_trans ih (by omega)
    · exact Nat.le_trans ih (by omega)

set_option maxHeartbeats 8000000 in
set_option maxRecDepth 100000 in
theorem ask94_any (w0 w : World) (gr gp mb nn gn gc dn : Nat) (GA : Option Addr) (gs : List GateL) (pv qv ov ev : Value) (gD cD gN cN bC gC cC : Nat) (t : Int) (all : Bool) (drv nets : List Int) (q : List SentL) (ch : List Bool)
    (hB : Below w0.heap.size w0 w) (hg : RdGates w0 GA gn gs)
    (hr : w.heap[gr]? = some (.cells #[.pointer (some ⟨gp, 0, none⟩), pv, qv, .slice (some ⟨gD, 0, none⟩) dn cD, ov, .slice (some ⟨gN, 0, none⟩) nn cN, ev] 108 (0, 0)))
    (hrb : w0.heap.size ≤ gr) (hp : PlayerB w gp mb (nn : Int) GA gn gc)
    (hd : w.ownsRow w0.heap.size 3 1 (.slice (some ⟨gD, 0, none⟩) dn cD) dn (nums .i64 drv))
    (hn : w.ownsRow w0.heap.size 3 1 (.slice (some ⟨gN, 0, none⟩) nn cN) nn (nums .i64 nets))
    (hq : w.ownsRow w0.heap.size 132 3 qv q.length (flatS q))
    (hc : w.ownsRow bC 4 1 (.slice (some ⟨gC, 0, none⟩) nn cC) nn (bools ch))
    (hdn : dn = gn + nn) (hgo : gs.all (gateOk nn) = true) (h1 : 1 ≤ nn) (h40 : nn ≤ 40) (hg60 : gn ≤ 60) (ht0 : 0 ≤ t) (ht1 : t ≤ 100000) (hql : q.length ≤ 100000000) :
    Calls Try.prog 94 #[.pointer (some ⟨gr, 0, none⟩), .int .i64 t, .bool all, .slice (some ⟨gC, 0, none⟩) nn cC] w fun e w' => ∃ gD' cD' qv', e = .returned (.bool (askTo gs t all ch nets ⟨drv, q, false⟩ gn).moved) ∧
      w'.heap[gr]? = some (.cells #[.pointer (some ⟨gp, 0, none⟩), pv, qv', .slice (some ⟨gD', 0, none⟩) dn cD', ov, .slice (some ⟨gN, 0, none⟩) nn cN, ev] 108 (0, 0)) ∧
      w'.ownsRow w.heap.size 3 1 (.slice (some ⟨gD', 0, none⟩) dn cD') dn (nums .i64 (askTo gs t all ch nets ⟨drv, q, false⟩ gn).gv) ∧
      w'.ownsRow w0.heap.size 132 3 qv' (askTo gs t all ch nets ⟨drv, q, false⟩ gn).q.length (flatS (askTo gs t all ch nets ⟨drv, q, false⟩ gn).q) ∧
      KeptS (fun i => i = gr ∨ some i = qv.ownBlock) w w' ∧ (qv'.ownBlock = qv.ownBlock ∨ ∃ b, qv'.ownBlock = some b ∧ w.heap.size ≤ b) := by
  obtain ⟨i132, hi132, hz132, hs132, hb132⟩ := info_parts info132
  have hgr := blk_lt hr
  have hgN := own_lt hn gN rfl
  have hgD := own_lt hd gD rfl
  have hgC := own_lt hc gC rfl
  have n1 : gp ≠ gr := fun e => by have h := hp.1; rw [e, hr] at h; injection h with h; injection h with _ h _; exact absurd h (by decide)
  have n2 : mb ≠ gr := fun e => by have h := hp.2; rw [e, hr] at h; injection h with h; cases h
  have n3 : gN ≠ gr := fun e => own_ne hn hr (by decide) (by rw [e]; rfl)
  have n4 : gC ≠ gr := fun e => own_ne hc hr (by decide) (by rw [e]; rfl)
  have n5 : ∀ g, g = gp ∨ g = mb ∨ g = gN ∨ g = gC → ¬ (g = gr ∨ some g = qv.ownBlock) := by
    rintro g (rfl | rfl | rfl | rfl) (h | h)
    · exact n1 h
    · exact row_ne_blk hq hp.1 (by decide) h
    · exact n2 h
    · exact own_ne_map (m := #[]) (k := 0) hq hp.2 (fun _ _ _ h => by cases h) h
    · exact n3 h
    · rcases own_type_ne hq hn (by decide) with h' | h'
      · rw [h'] at h; cases h
      · exact h' (by rw [← h]; rfl)
    · exact n4 h
    · rcases own_type_ne hq hc (by decide) with h' | h'
      · rw [h'] at h; cases h
      · exact h' (by rw [← h]; rfl)
  have HGL := Lib.hid hg.1
  have HDL := Lib.hid (show drv.length = dn by have := hd.1; simpa [nums] using this)
  have HQL := Lib.hid hql; clear hql
  have HB := Lib.hid hB; clear hB
  have HG := Lib.hid hg; clear hg
  have HR := Lib.hid hr; clear hr
  have HP := Lib.hid hp; clear hp
  have HD := Lib.hid hd; clear hd
  have HN := Lib.hid hn; clear hn
  have HQ := Lib.hid hq; clear hq
  have HC := Lib.hid hc; clear hc
  have HGO := Lib.hid hgo; clear hgo
  have HDN := Lib.hid hdn; clear hdn
  have HQB : Hid (∀ k, some k = qv.ownBlock → w0.heap.size ≤ k) := Lib.hid (fun k hk => own_base HQ.out k hk.symm)
  have HBW : Hid (∀ W, KeptS (fun i => i = gr ∨ some i = qv.ownBlock) w W → Below w0.heap.size w0 W) := Lib.hid (fun W h => HB.out.trans (h.below HB.out.size (fun i hi => by rcases hi with h | h; rw [h]; exact hrb; exact HQB.out i h)))
  have HPW : Hid (∀ W, KeptS (fun i => i = gr ∨ some i = qv.ownBlock) w W → PlayerB W gp mb (nn : Int) GA gn gc) := Lib.hid (fun W h => HP.out.kept h (n5 gp (.inl rfl)) (n5 mb (.inr (.inl rfl))))
  have HNW : Hid (∀ W, KeptS (fun i => i = gr ∨ some i = qv.ownBlock) w W → W.ownsRow w0.heap.size 3 1 (.slice (some ⟨gN, 0, none⟩) nn cN) nn (nums .i64 nets)) := Lib.hid (fun W h => h.own HN.out (fun g hg => by have e : gN = g := Option.some.inj hg; rw [← e]; exact n5 gN (.inr (.inr (.inl rfl)))))
  have HCW : Hid (∀ W, KeptS (fun i => i = gr ∨ some i = qv.ownBlock) w W → W.ownsRow bC 4 1 (.slice (some ⟨gC, 0, none⟩) nn cC) nn (bools ch)) := Lib.hid (fun W h => h.own HC.out (fun g hg => by have e : gC = g := Option.some.inj hg; rw [← e]; exact n5 gC (.inr (.inr (.inr rfl)))))
  clear n1 n2 n3 n4 n5
  have hw1b : Below w.heap.size w (w.alloc (.cells #[.slice (some ⟨gC, 0, none⟩) nn cC] 105)) := (Below.refl _ _).alloc (Nat.le_refl _) _
  have r3 : (w.alloc (.cells #[.slice (some ⟨gC, 0, none⟩) nn cC] 105)).cell? ⟨gr, 3, none⟩ = some (.slice (some ⟨gD, 0, none⟩) dn cD) := pw_cell_below hw1b ((blk_cell HR.out 3).trans rfl)
  have HW1 := Lib.hid hw1b; clear hw1b
  have hdn8 : dn * 8 ≤ 140737488355328 := by have := HDN.out; omega
  have hdn1 : 0 < dn := by have := HDN.out; omega
  go_enter Try.func94, Try.ntmps94
  go_wp2_with fail
  refine (clone_any (some ⟨gD, 0, none⟩) dn cD drv _ (own_reads' (pw_own_below HD.out HW1.out)) hdn1 hdn8).mono ?_
  rintro e w2 ⟨v', rfl, hown, hb2⟩
  obtain ⟨gX, cX, rfl, hX1, hX2, _⟩ := own_cells hown hdn1
  have HK2 : Hid (KeptS (fun i => i = gr ∨ some i = qv.ownBlock) w w2) := Lib.hid (KeptS.of_below (HW1.out.trans (hb2.mono HW1.out.size)))
  have HA2 : Hid (AskSt w0 w w2 gr gp w.heap.size gX cX dn pv qv (.slice (some ⟨gD, 0, none⟩) dn cD) ov (.slice (some ⟨gN, 0, none⟩) nn cN) ev (.slice (some ⟨gC, 0, none⟩) nn cC) (askTo gs t all ch nets ⟨drv, q, false⟩ 0)) := Lib.hid ⟨HK2.out, own_mono hown (by simp), ⟨qv, blk_below (blk_below HR.out HW1.out) hb2, pw_own_below (pw_own_below HQ.out HW1.out) hb2, .inl rfl⟩, blk_below (blk_new w _) hb2⟩
  clear r3 hown hX1 hX2
  have HBX := Lib.hid hb2; clear hb2
  have r0 : w2.cell? ⟨gr, 0, none⟩ = some (.pointer (some ⟨gp, 0, none⟩)) := (blk_cell (blk_below (blk_below HR.out HW1.out) HBX.out) 0).trans rfl
  have p1 : w2.cell? ⟨gp, 1, none⟩ = some (.slice GA gn gc) := (HPW.out w2 HK2.out).player.c1
  have hgn9 : gn ≤ 9223372036854775807 := by omega
  go_wp2_with fail
  clear r0 p1
  go_loopw [10, 29] (fun mv i wr => ∃ k : Nat, k ≤ gn ∧ i = .int .i64 k ∧ mv = .bool (askTo gs t all ch nets ⟨drv, q, false⟩ k).moved ∧ Hid (AskSt w0 w wr gr gp w.heap.size gX cX dn pv qv (.slice (some ⟨gD, 0, none⟩) dn cD) ov (.slice (some ⟨gN, 0, none⟩) nn cN) ev (.slice (some ⟨gC, 0, none⟩) nn cC) (askTo gs t all ch nets ⟨drv, q, false⟩ k))) (fun _ i _ => gn - (intOf i).toNat)
  case atStart => exact ⟨0, Nat.zero_le _, rfl, rfl, HA2⟩
  case round =>
    obtain ⟨k, hk, rfl, rfl, hA⟩ := hrel
    clear HA2 HK2 HBX HW1
    obtain ⟨wx, rfl⟩ : ∃ wx : World, wx = wr := ⟨_, rfl⟩
    by_cases hlt : k < gn
    · have hlt2 : decide ((k : Int) < (gn : Int)) = true := by simp; omega
      -- [[
      have HK := Lib.hid hA.out.1
      obtain ⟨ad, rfl, hgj⟩ := (HG.out.below (HBW.out wx HK.out)).at_ k hlt
      have hok := gate_ok HGO.out (i := k) (by rw [HGL.out]; exact hlt)
      have HSK := Lib.hid (askTo_succ (gs := gs) (t := t) (all := all) (ch := ch) (nets := nets) (s := ⟨drv, q, false⟩) k)
      have HNO := Lib.hid (fun h => askOne_no (gs := gs) (t := t) (all := all) (ch := ch) (nets := nets) (k := k) (s := askTo gs t all ch nets ⟨drv, q, false⟩ k) h)
      have HLA := Lib.hid (fun h1 h2 => askOne_late (gs := gs) (t := t) (all := all) (ch := ch) (nets := nets) (k := k) (s := askTo gs t all ch nets ⟨drv, q, false⟩ k) h1 h2)
      have HNW' := Lib.hid (fun h1 h2 => askOne_now (gs := gs) (t := t) (all := all) (ch := ch) (nets := nets) (k := k) (s := askTo gs t all ch nets ⟨drv, q, false⟩ k) h1 h2)
      have HLQ := Lib.hid (askTo_qlen (gs := gs) (t := t) (all := all) (ch := ch) (nets := nets) (s := ⟨drv, q, false⟩) k)
      obtain ⟨S2, hS2⟩ : ∃ S2, askTo gs t all ch nets ⟨drv, q, false⟩ (k + 1) = S2 := ⟨_, rfl⟩
      have HE := Lib.hid hS2
      rw [hS2] at HSK
      clear hS2
      generalize askTo gs t all ch nets ⟨drv, q, false⟩ k = Sk at *
      have hdl0 := gate_delay hok
      have hdl1 : (gs.getD k zGate).delay ≤ 20 := by
        unfold gateOk at hok
        simp only [Bool.and_eq_true, decide_eq_true_eq] at hok
        exact hok.1.2
      generalize gs.getD k zGate = G at *
      obtain ⟨q1, ⟨AI, ci, q2, q3, q4⟩, q5, q6⟩ := hgj
      have HOK := Lib.hid hok; clear hok
      have Q3 := Lib.hid q3; clear q3
      have qm := Q3.out.2.1
      have HWG : Hid (Below wx.heap.size wx (wx.alloc (.cells #[.int .i64 G.kind, .slice AI G.ins.length ci, .int .i64 G.out, .int .i64 G.delay] 88))) := Lib.hid ((Below.refl _ _).alloc (Nat.le_refl _) _)
      have HAG := Lib.hid (hA.out.below HWG.out)
      have HGB : Hid ((wx.alloc (.cells #[.int .i64 G.kind, .slice AI G.ins.length ci, .int .i64 G.out, .int .i64 G.delay] 88)).heap[wx.heap.size]? = some (.cells #[.int .i64 G.kind, .slice AI G.ins.length ci, .int .i64 G.out, .int .i64 G.delay] 88 (0, 0))) := Lib.hid (blk_new _ _)
      have hsx : w.heap.size ≤ wx.heap.size := HK.out.size
      have bx : (wx.alloc (.cells #[.int .i64 G.kind, .slice AI G.ins.length ci, .int .i64 G.out, .int .i64 G.delay] 88)).cell? ⟨w.heap.size, 0, none⟩ = some (.slice (some ⟨gC, 0, none⟩) nn cC) := (blk_cell HAG.out.2.2.2 0).trans rfl
      have HCG := Lib.hid (HCW.out _ HAG.out.1)
      have HQ3G := Lib.hid (Q3.out.below HWG.out)
      by_cases hk0 : G.kind = 0
      · have hk0b : (G.kind != 0) = false := by simpa using hk0
        cases all
        · have HBT : Hid (askedB false ch G = false) := Lib.hid (by unfold askedB; rw [hk0b]; rfl)
          have HKB := Lib.hid hk0; clear hk0
          go_wp2_with fail
          have HAn : Hid (AskSt w0 w (wx.alloc (.cells #[.int .i64 G.kind, .slice AI G.ins.length ci, .int .i64 G.out, .int .i64 G.delay] 88)) gr gp w.heap.size gX cX dn pv qv (.slice (some ⟨gD, 0, none⟩) dn cD) ov (.slice (some ⟨gN, 0, none⟩) nn cN) ev (.slice (some ⟨gC, 0, none⟩) nn cC) S2) := Lib.hid (by rw [HSK.out, HNO.out HBT.out]; exact HAG.out)
          have HMV : Hid (S2.moved = Sk.moved) := Lib.hid (by rw [HSK.out, HNO.out HBT.out])
          first
          | exact ⟨⟨k + 1, by omega, by go_num, by rw [HE.out, HMV.out], Lib.hid (by rw [HE.out]; exact HAn.out)⟩, by simp [intOf]; omega⟩
        · have HBT : Hid (askedB true ch G = true) := Lib.hid rfl
          have HKB := Lib.hid hk0; clear hk0
          go_wp2_with fail
          obtain ⟨_, _, ⟨qk, hqk, _, _⟩, _⟩ := HAG.out
          have s0 : (wx.alloc (.cells #[.int .i64 G.kind, .slice AI G.ins.length ci, .int .i64 G.out, .int .i64 G.delay] 88)).drew.cell? ⟨gr, 0, none⟩ = some (.pointer (some ⟨gp, 0, none⟩)) := (blk_cell hqk 0).trans rfl
          have s1 : (wx.alloc (.cells #[.int .i64 G.kind, .slice AI G.ins.length ci, .int .i64 G.out, .int .i64 G.delay] 88)).drew.cell? ⟨wx.heap.size, 0, none⟩ = some (.int .i64 G.kind) := (blk_cell HGB.out 0).trans rfl
          have s2 : (wx.alloc (.cells #[.int .i64 G.kind, .slice AI G.ins.length ci, .int .i64 G.out, .int .i64 G.delay] 88)).drew.cell? ⟨wx.heap.size, 1, none⟩ = some (.slice AI G.ins.length ci) := (blk_cell HGB.out 1).trans rfl
          have s3 : (wx.alloc (.cells #[.int .i64 G.kind, .slice AI G.ins.length ci, .int .i64 G.out, .int .i64 G.delay] 88)).drew.cell? ⟨wx.heap.size, 2, none⟩ = some (.int .i64 G.out) := (blk_cell HGB.out 2).trans rfl
          have s4 : (wx.alloc (.cells #[.int .i64 G.kind, .slice AI G.ins.length ci, .int .i64 G.out, .int .i64 G.delay] 88)).drew.cell? ⟨wx.heap.size, 3, none⟩ = some (.int .i64 G.delay) := (blk_cell HGB.out 3).trans rfl
          have s5 : (wx.alloc (.cells #[.int .i64 G.kind, .slice AI G.ins.length ci, .int .i64 G.out, .int .i64 G.delay] 88)).drew.cell? ⟨gr, 5, none⟩ = some (.slice (some ⟨gN, 0, none⟩) nn cN) := (blk_cell hqk 5).trans rfl
          have W1Z : Hid (Below wx.heap.size wx (wx.alloc (.cells #[.int .i64 G.kind, .slice AI G.ins.length ci, .int .i64 G.out, .int .i64 G.delay] 88)).drew) := Lib.hid (pw_below_drewN (n := 1) HWG.out)
          have HGBd : Hid ((wx.alloc (.cells #[.int .i64 G.kind, .slice AI G.ins.length ci, .int .i64 G.out, .int .i64 G.delay] 88)).drew.heap[wx.heap.size]? = some (.cells #[.int .i64 G.kind, .slice AI G.ins.length ci, .int .i64 G.out, .int .i64 G.delay] 88 (0, 0))) := HGB
          clear hqk bx
          refine wp_region_named 99 (fun w' => w'.cell? ⟨gr, 0, none⟩ = some (.pointer (some ⟨gp, 0, none⟩)) ∧ w'.cell? ⟨wx.heap.size, 0, none⟩ = some (.int .i64 G.kind) ∧ w'.cell? ⟨wx.heap.size, 1, none⟩ = some (.slice AI G.ins.length ci) ∧ w'.cell? ⟨wx.heap.size, 2, none⟩ = some (.int .i64 G.out) ∧ w'.cell? ⟨wx.heap.size, 3, none⟩ = some (.int .i64 G.delay) ∧ w'.cell? ⟨gr, 5, none⟩ = some (.slice (some ⟨gN, 0, none⟩) nn cN)) (fun w' => (w'.cell? ⟨gr, 0, none⟩ = some (.pointer (some ⟨gp, 0, none⟩))) ∧ (w'.cell? ⟨wx.heap.size, 0, none⟩ = some (.int .i64 G.kind)) ∧ (w'.cell? ⟨wx.heap.size, 1, none⟩ = some (.slice AI G.ins.length ci)) ∧ (w'.cell? ⟨wx.heap.size, 2, none⟩ = some (.int .i64 G.out)) ∧ (w'.cell? ⟨wx.heap.size, 3, none⟩ = some (.int .i64 G.delay)) ∧ (w'.cell? ⟨gr, 5, none⟩ = some (.slice (some ⟨gN, 0, none⟩) nn cN)) ∧ (Hid (Below wx.heap.size wx w')) ∧ (Hid (w'.heap[wx.heap.size]? = some (.cells #[.int .i64 G.kind, .slice AI G.ins.length ci, .int .i64 G.out, .int .i64 G.delay] 88 (0, 0))))) (by kernel_rfl) ⟨s0, s1, s2, s3, s4, s5, W1Z, HGBd⟩ ?_
          rintro wc ⟨s0, s1, s2, s3, s4, s5, W1Z, HGBd⟩
          refine wpAnyF_take (i := 0) (v := .pointer (some ⟨gr, 0, none⟩)) rfl (by kernel_rfl) (by kernel_rfl) (by kernel_rfl) (by kernel_rfl) (fun _ _ _ h => h) (Or.inl ⟨by rfl, ?_⟩) ⟨s0, s1, s2, s3, s4, s5⟩ ?_
          · rintro W ⟨y0, y1, y2, y3, y4, y5⟩
            go_simp
          try simp only [Act.put, List.setIfInBounds_toArray, List.set_cons_zero, List.set_cons_succ]
          refine wpAnyF_take (i := 1) (v := .pointer (some ⟨gr, 0, none⟩)) rfl (by kernel_rfl) (by kernel_rfl) (by kernel_rfl) (by kernel_rfl) (fun _ _ _ h => h) (Or.inl ⟨by rfl, ?_⟩) ⟨s0, s1, s2, s3, s4, s5⟩ ?_
          · rintro W ⟨y0, y1, y2, y3, y4, y5⟩
            go_simp
          try simp only [Act.put, List.setIfInBounds_toArray, List.set_cons_zero, List.set_cons_succ]
          refine wpAnyF_take (i := 2) (v := .pointer (some ⟨gr, 0, none⟩)) rfl (by kernel_rfl) (by kernel_rfl) (by kernel_rfl) (by kernel_rfl) (fun _ _ _ h => h) (Or.inl ⟨by rfl, ?_⟩) ⟨s0, s1, s2, s3, s4, s5⟩ ?_
          · rintro W ⟨y0, y1, y2, y3, y4, y5⟩
            go_simp
          try simp only [Act.put, List.setIfInBounds_toArray, List.set_cons_zero, List.set_cons_succ]
          refine wpAnyF_take (i := 3) (v := .pointer (some ⟨gp, 0, none⟩)) rfl (by kernel_rfl) (by kernel_rfl) (by kernel_rfl) (by kernel_rfl) (fun _ _ _ h => h) (Or.inl ⟨by rfl, ?_⟩) ⟨s0, s1, s2, s3, s4, s5⟩ ?_
          · rintro W ⟨y0, y1, y2, y3, y4, y5⟩
            go_simp
          try simp only [Act.put, List.setIfInBounds_toArray, List.set_cons_zero, List.set_cons_succ]
          refine wpAnyF_take (i := 4) (v := .agg #[.int .i64 G.kind, .slice AI G.ins.length ci, .int .i64 G.out, .int .i64 G.delay]) rfl (by kernel_rfl) (by kernel_rfl) (by kernel_rfl) (by kernel_rfl) (fun _ _ _ h => h) (Or.inl ⟨by rfl, ?_⟩) ⟨s0, s1, s2, s3, s4, s5⟩ ?_
          · rintro W ⟨y0, y1, y2, y3, y4, y5⟩
            go_simp
          try simp only [Act.put, List.setIfInBounds_toArray, List.set_cons_zero, List.set_cons_succ]
          refine wpAnyF_take (i := 5) (v := .pointer (some ⟨gr, 0, none⟩)) rfl (by kernel_rfl) (by kernel_rfl) (by kernel_rfl) (by kernel_rfl) (fun _ _ _ h => h) (Or.inl ⟨by rfl, ?_⟩) ⟨s0, s1, s2, s3, s4, s5⟩ ?_
          · rintro W ⟨y0, y1, y2, y3, y4, y5⟩
            go_simp
          try simp only [Act.put, List.setIfInBounds_toArray, List.set_cons_zero, List.set_cons_succ]
          refine wpAnyF_take (i := 6) (v := .pointer (some ⟨gr, 0, none⟩)) rfl (by kernel_rfl) (by kernel_rfl) (by kernel_rfl) (by kernel_rfl) (fun _ _ _ h => h) (Or.inl ⟨by rfl, ?_⟩) ⟨s0, s1, s2, s3, s4, s5⟩ ?_
          · rintro W ⟨y0, y1, y2, y3, y4, y5⟩
            go_simp
          try simp only [Act.put, List.setIfInBounds_toArray, List.set_cons_zero, List.set_cons_succ]
          refine wpAnyF_take (i := 7) (v := .pointer (some ⟨gr, 5, none⟩)) rfl (by kernel_rfl) (by kernel_rfl) (by kernel_rfl) (by kernel_rfl) (fun _ _ _ h => h) (Or.inl ⟨by rfl, ?_⟩) ⟨s0, s1, s2, s3, s4, s5⟩ ?_
          · rintro W ⟨y0, y1, y2, y3, y4, y5⟩
            go_simp
          try simp only [Act.put, List.setIfInBounds_toArray, List.set_cons_zero, List.set_cons_succ]
          refine wpAnyF_take (i := 8) (v := .slice (some ⟨gN, 0, none⟩) nn cN) rfl (by kernel_rfl) (by kernel_rfl) (by kernel_rfl) (by kernel_rfl) (fun _ _ _ h => h) (Or.inl ⟨by rfl, ?_⟩) ⟨s0, s1, s2, s3, s4, s5⟩ ?_
          · rintro W ⟨y0, y1, y2, y3, y4, y5⟩
            go_simp
          try simp only [Act.put, List.setIfInBounds_toArray, List.set_cons_zero, List.set_cons_succ]
          have HAc := Lib.hid (hA.out.below W1Z.out)
          have HPc := Lib.hid (HPW.out wc HAc.out.1).player
          have HNc := Lib.hid (own_reads' (HNW.out wc HAc.out.1))
          refine wpAnyF_one (i := 9) rfl (by kernel_rfl) (fun K hK => ?_)
          refine goes_ (f := 83) Try.func83 (by kernel_rfl) rfl #[.pointer (some ⟨gp, 0, none⟩), .agg #[.int .i64 G.kind, .slice AI G.ins.length ci, .int .i64 G.out, .int .i64 G.delay], .slice (some ⟨gN, 0, none⟩) nn cN] rfl rfl rfl (by simp [Act.eval]) ?_
          refine (answer_any gp mb wc _ _ _ _ HPc.out G AI ci _ nn cN nets HOK.out rfl (Q3.out.below W1Z.out) HNc.out).mono ?_
          rintro e wq ⟨rfl, hbq⟩
          have HBQ := Lib.hid hbq; clear hbq
          refine ⟨_, rfl, ?_⟩
          have t0 := pw_cell_below HBQ.out s0
          have t1 := pw_cell_below HBQ.out s1
          have t2 := pw_cell_below HBQ.out s2
          have t3 := pw_cell_below HBQ.out s3
          have t4 := pw_cell_below HBQ.out s4
          have t5 := pw_cell_below HBQ.out s5
          refine hK _ _ (fun _ => ⟨t0, t1, t2, t3, t4, t5⟩) ?_
          clear hK K
          obtain ⟨v, hv⟩ : ∃ v, ansF G nets = v := ⟨_, rfl⟩
          have HVV := Lib.hid hv
          rw [hv]
          clear hv
          try simp only [Act.put, List.setIfInBounds_toArray, List.set_cons_zero, List.set_cons_succ]
          refine wpAnyF_one (i := 10) rfl (by kernel_rfl) (fun K hK => ?_)
          go_simp
          refine hK _ _ (fun _ => ⟨t0, t1, t2, t3, t4, t5⟩) ?_
          clear hK K
          try simp only [Act.put, List.setIfInBounds_toArray, List.set_cons_zero, List.set_cons_succ]
          refine wpAnyF_done (by kernel_rfl) ?_ _
          have HAq := Lib.hid (HAc.out.below HBQ.out)
          have HGBq := Lib.hid (blk_below HGBd.out HBQ.out)
          have HSQ : Hid (wx.heap.size + 1 ≤ wq.heap.size) := Lib.hid (by have := blk_lt HGBq.out; omega)
          clear s0 s1 s2 s3 s4 s5 t0 t1 t2 t3 t5 HAG HGB HWG HAc HPc HNc HGBd W1Z HBQ HCG HQ3G hA
          by_cases hdl : 0 < G.delay
          · have hdl2 : decide (0 < G.delay) = true := by simpa using hdl
            have HS2 := Lib.hid (HSK.out.trans (HLA.out HBT.out hdl))
            obtain ⟨h11, h12, ⟨qk, h13, h14, h15⟩, h16⟩ := HAq.out
            have u0 : wq.drew.cell? ⟨gr, 2, none⟩ = some qk := (blk_cell h13 2).trans rfl
            have u1 : wq.drew.cell? ⟨wx.heap.size, 3, none⟩ = some (.int .i64 G.delay) := t4
            have WQ : Hid (Below wq.heap.size wq wq.drew) := Lib.hid (pw_below_drewN (n := 1) (Below.refl _ _))
            have hszq : wq.drew.heap.size = wq.heap.size := rfl
            have hsum : IntKind.i64.wrap (t + G.delay) = t + G.delay := IntWalk.i64_in _ (by omega)
            have H13 := Lib.hid h13; clear h13
            have H14 := Lib.hid h14; clear h14
            have H15 := Lib.hid h15; clear h15
            clear h11 h12 h16
            have fq : wq.drew.frozen? ⟨gr, 2, none⟩ = false := blk_frozen H13.out 2
            go_wp2_with fail
            refine wp_region_named 16 (fun w' => w'.cell? ⟨gr, 2, none⟩ = some qk ∧ w'.cell? ⟨wx.heap.size, 3, none⟩ = some (.int .i64 G.delay)) (fun w' => (w'.cell? ⟨gr, 2, none⟩ = some qk) ∧ (w'.cell? ⟨wx.heap.size, 3, none⟩ = some (.int .i64 G.delay)) ∧ (Hid (Below wq.heap.size wq w')) ∧ (w'.heap.size = wq.heap.size) ∧ (w'.frozen? ⟨gr, 2, none⟩ = false)) (by kernel_rfl) ⟨u0, u1, WQ, hszq, fq⟩ ?_
            rintro wd ⟨u0, u1, WQ, hszq, fq⟩
            refine wpAnyF_take (i := 0) (v := .pointer (some ⟨gr, 0, none⟩)) rfl (by kernel_rfl) (by kernel_rfl) (by kernel_rfl) (by kernel_rfl) (fun _ _ _ h => h) (Or.inl ⟨by rfl, ?_⟩) ⟨u0, u1⟩ ?_
            · rintro W ⟨y0, y1⟩
              go_simp
            try simp only [Act.put, List.setIfInBounds_toArray, List.set_cons_zero, List.set_cons_succ]
            refine wpAnyF_take (i := 1) (v := .pointer (some ⟨gr, 0, none⟩)) rfl (by kernel_rfl) (by kernel_rfl) (by kernel_rfl) (by kernel_rfl) (fun _ _ _ h => h) (Or.inl ⟨by rfl, ?_⟩) ⟨u0, u1⟩ ?_
            · rintro W ⟨y0, y1⟩
              go_simp
            try simp only [Act.put, List.setIfInBounds_toArray, List.set_cons_zero, List.set_cons_succ]
            refine wpAnyF_take (i := 2) (v := .pointer (some ⟨gr, 0, none⟩)) rfl (by kernel_rfl) (by kernel_rfl) (by kernel_rfl) (by kernel_rfl) (fun _ _ _ h => h) (Or.inl ⟨by rfl, ?_⟩) ⟨u0, u1⟩ ?_
            · rintro W ⟨y0, y1⟩
              go_simp
            try simp only [Act.put, List.setIfInBounds_toArray, List.set_cons_zero, List.set_cons_succ]
            refine wpAnyF_take (i := 3) (v := .pointer (some ⟨gr, 2, none⟩)) rfl (by kernel_rfl) (by kernel_rfl) (by kernel_rfl) (by kernel_rfl) (fun _ _ _ h => h) (Or.inl ⟨by rfl, ?_⟩) ⟨u0, u1⟩ ?_
            · rintro W ⟨y0, y1⟩
              go_simp
            try simp only [Act.put, List.setIfInBounds_toArray, List.set_cons_zero, List.set_cons_succ]
            refine wpAnyF_take (i := 4) (v := qk) rfl (by kernel_rfl) (by kernel_rfl) (by kernel_rfl) (by kernel_rfl) (fun _ _ _ h => h) (Or.inl ⟨by rfl, ?_⟩) ⟨u0, u1⟩ ?_
            · rintro W ⟨y0, y1⟩
              go_simp
            try simp only [Act.put, List.setIfInBounds_toArray, List.set_cons_zero, List.set_cons_succ]
            refine wpAnyF_take (i := 5) (v := .int .i64 t) rfl (by kernel_rfl) (by kernel_rfl) (by kernel_rfl) (by kernel_rfl) (fun _ _ _ h => h) (Or.inl ⟨by rfl, ?_⟩) ⟨u0, u1⟩ ?_
            · rintro W ⟨y0, y1⟩
              go_simp
            try simp only [Act.put, List.setIfInBounds_toArray, List.set_cons_zero, List.set_cons_succ]
            refine wpAnyF_take (i := 6) (v := .pointer (some ⟨wx.heap.size, 3, none⟩)) rfl (by kernel_rfl) (by kernel_rfl) (by kernel_rfl) (by kernel_rfl) (fun _ _ _ h => h) (Or.inl ⟨by rfl, ?_⟩) ⟨u0, u1⟩ ?_
            · rintro W ⟨y0, y1⟩
              go_simp
            try simp only [Act.put, List.setIfInBounds_toArray, List.set_cons_zero, List.set_cons_succ]
            refine wpAnyF_take (i := 7) (v := .int .i64 G.delay) rfl (by kernel_rfl) (by kernel_rfl) (by kernel_rfl) (by kernel_rfl) (fun _ _ _ h => h) (Or.inl ⟨by rfl, ?_⟩) ⟨u0, u1⟩ ?_
            · rintro W ⟨y0, y1⟩
              go_simp
            try simp only [Act.put, List.setIfInBounds_toArray, List.set_cons_zero, List.set_cons_succ]
            refine wpAnyF_take (i := 8) (v := .int .i64 (t + G.delay)) rfl (by kernel_rfl) (by kernel_rfl) (by kernel_rfl) (by kernel_rfl) (fun _ _ _ h => h) (Or.inl ⟨by rfl, ?_⟩) ⟨u0, u1⟩ ?_
            · rintro W ⟨y0, y1⟩
              go_simp
            try simp only [Act.put, List.setIfInBounds_toArray, List.set_cons_zero, List.set_cons_succ]
            refine wpAnyF_take (i := 9) (v := .int .i64 k) rfl (by kernel_rfl) (by kernel_rfl) (by kernel_rfl) (by kernel_rfl) (fun _ _ _ h => h) (Or.inl ⟨by rfl, ?_⟩) ⟨u0, u1⟩ ?_
            · rintro W ⟨y0, y1⟩
              go_simp
            try simp only [Act.put, List.setIfInBounds_toArray, List.set_cons_zero, List.set_cons_succ]
            refine wpAnyF_take (i := 10) (v := .int .i64 v) rfl (by kernel_rfl) (by kernel_rfl) (by kernel_rfl) (by kernel_rfl) (fun _ _ _ h => h) (Or.inl ⟨by rfl, ?_⟩) ⟨u0, u1⟩ ?_
            · rintro W ⟨y0, y1⟩
              go_simp
            try simp only [Act.put, List.setIfInBounds_toArray, List.set_cons_zero, List.set_cons_succ]
            refine wpAnyF_take (i := 11) (v := .agg #[.int .i64 (t + G.delay), .int .i64 k, .int .i64 v]) rfl (by kernel_rfl) (by kernel_rfl) (by kernel_rfl) (by kernel_rfl) (fun _ _ _ h => h) (Or.inl ⟨by rfl, ?_⟩) ⟨u0, u1⟩ ?_
            · rintro W ⟨y0, y1⟩
              go_simp
            try simp only [Act.put, List.setIfInBounds_toArray, List.set_cons_zero, List.set_cons_succ]
            have hwcb : Below wd.heap.size wd (wd.alloc (.cells #[.int .i64 (t + G.delay), .int .i64 k, .int .i64 v] 132)) := (Below.refl _ _).alloc (Nat.le_refl _) _
            have hszc : (wd.alloc (.cells #[.int .i64 (t + G.delay), .int .i64 k, .int .i64 v] 132)).heap.size = wd.heap.size + 1 := Array.size_push _
            have hqq : w0.heap.size ≤ (wd.alloc (.cells #[.int .i64 (t + G.delay), .int .i64 k, .int .i64 v] 132)).heap.size := by have h1 := HB.out.size; have h2 := HSQ.out; rw [hszc, hszq]; omega
            have hown0 := (pw_own_below H14.out WQ.out).alloc (.cells #[.int .i64 (t + G.delay), .int .i64 k, .int .i64 v] 132)
            have HSZQ := Lib.hid hszq; clear hszq hszc
            have hq1 : Sk.q.length + 1 ≤ 100000100 := by have h1 : Sk.q.length ≤ q.length + k := HLQ.out; have h2 := HQL.out; omega
            have hrq : some gr ≠ qk.ownBlock := row_ne_blk H14.out H13.out (by decide)
            have hxq : some wx.heap.size ≠ qk.ownBlock := row_ne_blk H14.out HGBq.out (by decide)
            refine wpAnyF_one (i := 12) rfl (by kernel_rfl) (fun K hK => ?_)
            go_simp
            refine hK _ _ (fun _ => ⟨pw_cell_below hwcb u0, pw_cell_below hwcb u1⟩) ?_
            clear hK K
            try simp only [Act.put, List.setIfInBounds_toArray, List.set_cons_zero, List.set_cons_succ]
            refine wpAnyF_one (i := 13) rfl (by kernel_rfl) (fun K hK => ?_)
            refine step_append_lies _ (by rfl) _ _ _ (by rfl) w0.heap.size 132 i132 (.agg #[.int .i64 0, .int .i64 0, .int .i64 0]) 3 24 Try.underlying106 hi132 hz132 hs132 hb132 rfl (by omega) qk Sk.q.length (flatS Sk.q) (by rfl) hown0 ⟨wd.heap.size, 0, none⟩ 1 1 [.int .i64 (t + G.delay), .int .i64 k, .int .i64 v] (by rfl) (by rfl) (World.news_of_block (cs := #[.int .i64 (t + G.delay), .int .i64 k, .int .i64 v]) (t := 132) (fr := (0, 0)) (heap_alloc_new wd _)) (by simp [Value.oneCell']) Nat.one_pos (by simp only [maxLen]; omega) (by omega) hqq (wd.heap.size + 1) (Array.size_push _) ?_
            intro gg cap w3 hown1 hgrow hat hlt1
            have z0 := hgrow.cell (pw_cell_below hwcb u0) hrq
            have z1 := hgrow.cell (pw_cell_below hwcb u1) hxq
            have zf := (hgrow.frozen_far ⟨gr, 2, none⟩ (Nat.lt_of_lt_of_le (World.block_lt_of_cell? wd _ u0) hwcb.size) hrq).trans ((World.frozen?_of_block (hwcb.block _ (World.block_lt_of_cell? wd _ u0))).trans fq)
            refine hK _ _ (fun _ => ⟨z0, z1⟩) ?_
            clear hK K
            try simp only [Act.put, List.setIfInBounds_toArray, List.set_cons_zero, List.set_cons_succ]
            have HWCB := Lib.hid hwcb; clear hwcb
            have HGROW := Lib.hid hgrow; clear hgrow
            have HOWN1 := Lib.hid hown1; clear hown1
            have HAT := Lib.hid hat; clear hat
            clear u0 u1 hown0
            refine wpAnyF_one (i := 14) rfl (by kernel_rfl) (fun K hK => ?_)
            go_simp
            refine hK _ _ (fun _ => ⟨z0, z1⟩) ?_
            clear hK K
            try simp only [Act.put, List.setIfInBounds_toArray, List.set_cons_zero, List.set_cons_succ]
            refine wpAnyF_one (i := 15) rfl (by kernel_rfl) (fun K hK => ?_)
            go_simp
            refine hK _ _ (fun _ => ⟨z0, z1⟩) ?_
            clear hK K
            try simp only [Act.put, List.setIfInBounds_toArray, List.set_cons_zero, List.set_cons_succ]
            refine wpAnyF_one (i := 16) rfl (by kernel_rfl) (fun K hK => ?_)
            go_simp
            refine hK _ _ (fun h => absurd rfl h) ?_
            clear hK K
            refine wpAnyF_done (by kernel_rfl) ?_ _
            have HAn : Hid (AskSt w0 w (w3.setCell ⟨gr, 2, none⟩ (.slice (some ⟨gg, 0, none⟩) (Sk.q.length + 1) cap)) gr gp w.heap.size gX cX dn pv qv (.slice (some ⟨gD, 0, none⟩) dn cD) ov (.slice (some ⟨gN, 0, none⟩) nn cN) ev (.slice (some ⟨gC, 0, none⟩) nn cC) S2) := Lib.hid (by
              rw [HS2.out]
              refine ((HAq.out.below WQ.out).below HWCB.out).sent (e := ⟨t + G.delay, k, ansF G nets⟩) (blk_below (blk_below H13.out WQ.out) HWCB.out) HGROW.out (by rw [HVV.out]; exact HOWN1.out) ?_ hgr
              rcases HAT.out with h | h
              · exact .inl h
              · right; have h1 := HSQ.out; have h2 := HSZQ.out; omega)
            have hmv : S2.moved = Sk.moved := by rw [HS2.out]
            go_wp2_with fail
            first
            | exact ⟨⟨k + 1, by omega, by go_num, by rw [HE.out, HS2.out], Lib.hid (by rw [HE.out]; exact HAn.out)⟩, by simp [intOf]; omega⟩
          · have hdl2 : decide (0 < G.delay) = false := by simpa using hdl
            have HS2 := Lib.hid (HSK.out.trans (HNW'.out HBT.out (by omega)))
            obtain ⟨h11, h12, ⟨qk, h13, _, _⟩, _⟩ := HAq.out
            obtain ⟨cX1, fX1⟩ := own_get h12 k (by have := HDN.out; omega)
            have HAn : Hid (AskSt w0 w (wq.setCell ⟨gX, k, none⟩ (.int .i64 v)) gr gp w.heap.size gX cX dn pv qv (.slice (some ⟨gD, 0, none⟩) dn cD) ov (.slice (some ⟨gN, 0, none⟩) nn cN) ev (.slice (some ⟨gC, 0, none⟩) nn cC) S2) := Lib.hid (by
              rw [HS2.out, HVV.out]
              exact HAq.out.put k v _)
            have HMV : Hid (S2.moved = (Sk.moved || (v != Sk.gv.getD k 0))) := Lib.hid (by rw [HS2.out, HVV.out])
            have hkd : (k : Int) < (dn : Int) := by have := HDN.out; omega
            clear h11 h12 h13
            generalize Sk.gv.getD k 0 = old at *
            cases hmk : Sk.moved
            · rw [hmk] at HMV
              have HMK := Lib.hid hmk; clear hmk
              cases hvo : (v != old)
              · rw [hvo] at HMV
                go_wp2_with fail
                first
                | exact ⟨⟨k + 1, by omega, by go_num, by rw [HE.out, HMV.out]; rfl, Lib.hid (by rw [HE.out]; exact HAn.out)⟩, by simp [intOf]; omega⟩
              · rw [hvo] at HMV
                go_wp2_with fail
                first
                | exact ⟨⟨k + 1, by omega, by go_num, by rw [HE.out, HMV.out]; rfl, Lib.hid (by rw [HE.out]; exact HAn.out)⟩, by simp [intOf]; omega⟩
            · rw [hmk] at HMV
              have HMK := Lib.hid hmk; clear hmk
              go_wp2_with fail
              first
              | exact ⟨⟨k + 1, by omega, by go_num, by rw [HE.out, HMV.out]; rfl, Lib.hid (by rw [HE.out]; exact HAn.out)⟩, by simp [intOf]; omega⟩
      · have hk0b : (G.kind != 0) = true := by simpa using hk0
        have HIN := Lib.hid (fun j hj => gateOk_ins HOK.out hk0 (k := j) hj)
        cases all
        · have HAN : Hid (askedB false ch G = anyIn ch G.ins) := Lib.hid (by unfold askedB anyIn; rw [hk0b]; rfl)
          have HKB := Lib.hid hk0; clear hk0
          go_wp2_with fail
          refine (contains105_any _ _ _ _ _ _ _ _ _ _ _ HCG.out bx HQ3G.out HIN.out).mono ?_
          rintro e w' ⟨rfl, rfl⟩
          cases hai : anyIn ch G.ins
          · have HBT : Hid (askedB false ch G = false) := Lib.hid (HAN.out.trans hai)
            clear hai
            go_wp2_with fail
            have HAn : Hid (AskSt w0 w (wx.alloc (.cells #[.int .i64 G.kind, .slice AI G.ins.length ci, .int .i64 G.out, .int .i64 G.delay] 88)) gr gp w.heap.size gX cX dn pv qv (.slice (some ⟨gD, 0, none⟩) dn cD) ov (.slice (some ⟨gN, 0, none⟩) nn cN) ev (.slice (some ⟨gC, 0, none⟩) nn cC) S2) := Lib.hid (by rw [HSK.out, HNO.out HBT.out]; exact HAG.out)
            have HMV : Hid (S2.moved = Sk.moved) := Lib.hid (by rw [HSK.out, HNO.out HBT.out])
            first
            | exact ⟨⟨k + 1, by omega, by go_num, by rw [HE.out, HMV.out], Lib.hid (by rw [HE.out]; exact HAn.out)⟩, by simp [intOf]; omega⟩
          · have HBT : Hid (askedB false ch G = true) := Lib.hid (HAN.out.trans hai)
            clear hai
            go_wp2_with fail
            obtain ⟨_, _, ⟨qk, hqk, _, _⟩, _⟩ := HAG.out
            have s0 : (wx.alloc (.cells #[.int .i64 G.kind, .slice AI G.ins.length ci, .int .i64 G.out, .int .i64 G.delay] 88)).drew.cell? ⟨gr, 0, none⟩ = some (.pointer (some ⟨gp, 0, none⟩)) := (blk_cell hqk 0).trans rfl
            have s1 : (wx.alloc (.cells #[.int .i64 G.kind, .slice AI G.ins.length ci, .int .i64 G.out, .int .i64 G.delay] 88)).drew.cell? ⟨wx.heap.size, 0, none⟩ = some (.int .i64 G.kind) := (blk_cell HGB.out 0).trans rfl
            have s2 : (wx.alloc (.cells #[.int .i64 G.kind, .slice AI G.ins.length ci, .int .i64 G.out, .int .i64 G.delay] 88)).drew.cell? ⟨wx.heap.size, 1, none⟩ = some (.slice AI G.ins.length ci) := (blk_cell HGB.out 1).trans rfl
            have s3 : (wx.alloc (.cells #[.int .i64 G.kind, .slice AI G.ins.length ci, .int .i64 G.out, .int .i64 G.delay] 88)).drew.cell? ⟨wx.heap.size, 2, none⟩ = some (.int .i64 G.out) := (blk_cell HGB.out 2).trans rfl
            have s4 : (wx.alloc (.cells #[.int .i64 G.kind, .slice AI G.ins.length ci, .int .i64 G.out, .int .i64 G.delay] 88)).drew.cell? ⟨wx.heap.size, 3, none⟩ = some (.int .i64 G.delay) := (blk_cell HGB.out 3).trans rfl
            have s5 : (wx.alloc (.cells #[.int .i64 G.kind, .slice AI G.ins.length ci, .int .i64 G.out, .int .i64 G.delay] 88)).drew.cell? ⟨gr, 5, none⟩ = some (.slice (some ⟨gN, 0, none⟩) nn cN) := (blk_cell hqk 5).trans rfl
            have W1Z : Hid (Below wx.heap.size wx (wx.alloc (.cells #[.int .i64 G.kind, .slice AI G.ins.length ci, .int .i64 G.out, .int .i64 G.delay] 88)).drew) := Lib.hid (pw_below_drewN (n := 1) HWG.out)
            have HGBd : Hid ((wx.alloc (.cells #[.int .i64 G.kind, .slice AI G.ins.length ci, .int .i64 G.out, .int .i64 G.delay] 88)).drew.heap[wx.heap.size]? = some (.cells #[.int .i64 G.kind, .slice AI G.ins.length ci, .int .i64 G.out, .int .i64 G.delay] 88 (0, 0))) := HGB
            clear hqk bx
            refine wp_region_named 99 (fun w' => w'.cell? ⟨gr, 0, none⟩ = some (.pointer (some ⟨gp, 0, none⟩)) ∧ w'.cell? ⟨wx.heap.size, 0, none⟩ = some (.int .i64 G.kind) ∧ w'.cell? ⟨wx.heap.size, 1, none⟩ = some (.slice AI G.ins.length ci) ∧ w'.cell? ⟨wx.heap.size, 2, none⟩ = some (.int .i64 G.out) ∧ w'.cell? ⟨wx.heap.size, 3, none⟩ = some (.int .i64 G.delay) ∧ w'.cell? ⟨gr, 5, none⟩ = some (.slice (some ⟨gN, 0, none⟩) nn cN)) (fun w' => (w'.cell? ⟨gr, 0, none⟩ = some (.pointer (some ⟨gp, 0, none⟩))) ∧ (w'.cell? ⟨wx.heap.size, 0, none⟩ = some (.int .i64 G.kind)) ∧ (w'.cell? ⟨wx.heap.size, 1, none⟩ = some (.slice AI G.ins.length ci)) ∧ (w'.cell? ⟨wx.heap.size, 2, none⟩ = some (.int .i64 G.out)) ∧ (w'.cell? ⟨wx.heap.size, 3, none⟩ = some (.int .i64 G.delay)) ∧ (w'.cell? ⟨gr, 5, none⟩ = some (.slice (some ⟨gN, 0, none⟩) nn cN)) ∧ (Hid (Below wx.heap.size wx w')) ∧ (Hid (w'.heap[wx.heap.size]? = some (.cells #[.int .i64 G.kind, .slice AI G.ins.length ci, .int .i64 G.out, .int .i64 G.delay] 88 (0, 0))))) (by kernel_rfl) ⟨s0, s1, s2, s3, s4, s5, W1Z, HGBd⟩ ?_
            rintro wc ⟨s0, s1, s2, s3, s4, s5, W1Z, HGBd⟩
            refine wpAnyF_take (i := 0) (v := .pointer (some ⟨gr, 0, none⟩)) rfl (by kernel_rfl) (by kernel_rfl) (by kernel_rfl) (by kernel_rfl) (fun _ _ _ h => h) (Or.inl ⟨by rfl, ?_⟩) ⟨s0, s1, s2, s3, s4, s5⟩ ?_
            · rintro W ⟨y0, y1, y2, y3, y4, y5⟩
              go_simp
            try simp only [Act.put, List.setIfInBounds_toArray, List.set_cons_zero, List.set_cons_succ]
            refine wpAnyF_take (i := 1) (v := .pointer (some ⟨gr, 0, none⟩)) rfl (by kernel_rfl) (by kernel_rfl) (by kernel_rfl) (by kernel_rfl) (fun _ _ _ h => h) (Or.inl ⟨by rfl, ?_⟩) ⟨s0, s1, s2, s3, s4, s5⟩ ?_
            · rintro W ⟨y0, y1, y2, y3, y4, y5⟩
              go_simp
            try simp only [Act.put, List.setIfInBounds_toArray, List.set_cons_zero, List.set_cons_succ]
            refine wpAnyF_take (i := 2) (v := .pointer (some ⟨gr, 0, none⟩)) rfl (by kernel_rfl) (by kernel_rfl) (by kernel_rfl) (by kernel_rfl) (fun _ _ _ h => h) (Or.inl ⟨by rfl, ?_⟩) ⟨s0, s1, s2, s3, s4, s5⟩ ?_
            · rintro W ⟨y0, y1, y2, y3, y4, y5⟩
              go_simp
            try simp only [Act.put, List.setIfInBounds_toArray, List.set_cons_zero, List.set_cons_succ]
            refine wpAnyF_take (i := 3) (v := .pointer (some ⟨gp, 0, none⟩)) rfl (by kernel_rfl) (by kernel_rfl) (by kernel_rfl) (by kernel_rfl) (fun _ _ _ h => h) (Or.inl ⟨by rfl, ?_⟩) ⟨s0, s1, s2, s3, s4, s5⟩ ?_
            · rintro W ⟨y0, y1, y2, y3, y4, y5⟩
              go_simp
            try simp only [Act.put, List.setIfInBounds_toArray, List.set_cons_zero, List.set_cons_succ]
            refine wpAnyF_take (i := 4) (v := .agg #[.int .i64 G.kind, .slice AI G.ins.length ci, .int .i64 G.out, .int .i64 G.delay]) rfl (by kernel_rfl) (by kernel_rfl) (by kernel_rfl) (by kernel_rfl) (fun _ _ _ h => h) (Or.inl ⟨by rfl, ?_⟩) ⟨s0, s1, s2, s3, s4, s5⟩ ?_
            · rintro W ⟨y0, y1, y2, y3, y4, y5⟩
              go_simp
            try simp only [Act.put, List.setIfInBounds_toArray, List.set_cons_zero, List.set_cons_succ]
            refine wpAnyF_take (i := 5) (v := .pointer (some ⟨gr, 0, none⟩)) rfl (by kernel_rfl) (by kernel_rfl) (by kernel_rfl) (by kernel_rfl) (fun _ _ _ h => h) (Or.inl ⟨by rfl, ?_⟩) ⟨s0, s1, s2, s3, s4, s5⟩ ?_
            · rintro W ⟨y0, y1, y2, y3, y4, y5⟩
              go_simp
            try simp only [Act.put, List.setIfInBounds_toArray, List.set_cons_zero, List.set_cons_succ]
            refine wpAnyF_take (i := 6) (v := .pointer (some ⟨gr, 0, none⟩)) rfl (by kernel_rfl) (by kernel_rfl) (by kernel_rfl) (by kernel_rfl) (fun _ _ _ h => h) (Or.inl ⟨by rfl, ?_⟩) ⟨s0, s1, s2, s3, s4, s5⟩ ?_
            · rintro W ⟨y0, y1, y2, y3, y4, y5⟩
              go_simp
            try simp only [Act.put, List.setIfInBounds_toArray, List.set_cons_zero, List.set_cons_succ]
            refine wpAnyF_take (i := 7) (v := .pointer (some ⟨gr, 5, none⟩)) rfl (by kernel_rfl) (by kernel_rfl) (by kernel_rfl) (by kernel_rfl) (fun _ _ _ h => h) (Or.inl ⟨by rfl, ?_⟩) ⟨s0, s1, s2, s3, s4, s5⟩ ?_
            · rintro W ⟨y0, y1, y2, y3, y4, y5⟩
              go_simp
            try simp only [Act.put, List.setIfInBounds_toArray, List.set_cons_zero, List.set_cons_succ]
            refine wpAnyF_take (i := 8) (v := .slice (some ⟨gN, 0, none⟩) nn cN) rfl (by kernel_rfl) (by kernel_rfl) (by kernel_rfl) (by kernel_rfl) (fun _ _ _ h => h) (Or.inl ⟨by rfl, ?_⟩) ⟨s0, s1, s2, s3, s4, s5⟩ ?_
            · rintro W ⟨y0, y1, y2, y3, y4, y5⟩
              go_simp
            try simp only [Act.put, List.setIfInBounds_toArray, List.set_cons_zero, List.set_cons_succ]
            have HAc := Lib.hid (hA.out.below W1Z.out)
            have HPc := Lib.hid (HPW.out wc HAc.out.1).player
            have HNc := Lib.hid (own_reads' (HNW.out wc HAc.out.1))
            refine wpAnyF_one (i := 9) rfl (by kernel_rfl) (fun K hK => ?_)
            refine goes_ (f := 83) Try.func83 (by kernel_rfl) rfl #[.pointer (some ⟨gp, 0, none⟩), .agg #[.int .i64 G.kind, .slice AI G.ins.length ci, .int .i64 G.out, .int .i64 G.delay], .slice (some ⟨gN, 0, none⟩) nn cN] rfl rfl rfl (by simp [Act.eval]) ?_
            refine (answer_any gp mb wc _ _ _ _ HPc.out G AI ci _ nn cN nets HOK.out rfl (Q3.out.below W1Z.out) HNc.out).mono ?_
            rintro e wq ⟨rfl, hbq⟩
            have HBQ := Lib.hid hbq; clear hbq
            refine ⟨_, rfl, ?_⟩
            have t0 := pw_cell_below HBQ.out s0
            have t1 := pw_cell_below HBQ.out s1
            have t2 := pw_cell_below HBQ.out s2
            have t3 := pw_cell_below HBQ.out s3
            have t4 := pw_cell_below HBQ.out s4
            have t5 := pw_cell_below HBQ.out s5
            refine hK _ _ (fun _ => ⟨t0, t1, t2, t3, t4, t5⟩) ?_
            clear hK K
            obtain ⟨v, hv⟩ : ∃ v, ansF G nets = v := ⟨_, rfl⟩
            have HVV := Lib.hid hv
            rw [hv]
            clear hv
            try simp only [Act.put, List.setIfInBounds_toArray, List.set_cons_zero, List.set_cons_succ]
            refine wpAnyF_one (i := 10) rfl (by kernel_rfl) (fun K hK => ?_)
            go_simp
            refine hK _ _ (fun _ => ⟨t0, t1, t2, t3, t4, t5⟩) ?_
            clear hK K
            try simp only [Act.put, List.setIfInBounds_toArray, List.set_cons_zero, List.set_cons_succ]
            refine wpAnyF_done (by kernel_rfl) ?_ _
            have HAq := Lib.hid (HAc.out.below HBQ.out)
            have HGBq := Lib.hid (blk_below HGBd.out HBQ.out)
            have HSQ : Hid (wx.heap.size + 1 ≤ wq.heap.size) := Lib.hid (by have := blk_lt HGBq.out; omega)
            clear s0 s1 s2 s3 s4 s5 t0 t1 t2 t3 t5 HAG HGB HWG HAc HPc HNc HGBd W1Z HBQ HCG HQ3G hA
            by_cases hdl : 0 < G.delay
            · have hdl2 : decide (0 < G.delay) = true := by simpa using hdl
              have HS2 := Lib.hid (HSK.out.trans (HLA.out HBT.out hdl))
              obtain ⟨h11, h12, ⟨qk, h13, h14, h15⟩, h16⟩ := HAq.out
              have u0 : wq.drew.cell? ⟨gr, 2, none⟩ = some qk := (blk_cell h13 2).trans rfl
              have u1 : wq.drew.cell? ⟨wx.heap.size, 3, none⟩ = some (.int .i64 G.delay) := t4
              have WQ : Hid (Below wq.heap.size wq wq.drew) := Lib.hid (pw_below_drewN (n := 1) (Below.refl _ _))
              have hszq : wq.drew.heap.size = wq.heap.size := rfl
              have hsum : IntKind.i64.wrap (t + G.delay) = t + G.delay := IntWalk.i64_in _ (by omega)
              have H13 := Lib.hid h13; clear h13
              have H14 := Lib.hid h14; clear h14
              have H15 := Lib.hid h15; clear h15
              clear h11 h12 h16
              have fq : wq.drew.frozen? ⟨gr, 2, none⟩ = false := blk_frozen H13.out 2
              go_wp2_with fail
              refine wp_region_named 16 (fun w' => w'.cell? ⟨gr, 2, none⟩ = some qk ∧ w'.cell? ⟨wx.heap.size, 3, none⟩ = some (.int .i64 G.delay)) (fun w' => (w'.cell? ⟨gr, 2, none⟩ = some qk) ∧ (w'.cell? ⟨wx.heap.size, 3, none⟩ = some (.int .i64 G.delay)) ∧ (Hid (Below wq.heap.size wq w')) ∧ (w'.heap.size = wq.heap.size) ∧ (w'.frozen? ⟨gr, 2, none⟩ = false)) (by kernel_rfl) ⟨u0, u1, WQ, hszq, fq⟩ ?_
              rintro wd ⟨u0, u1, WQ, hszq, fq⟩
              refine wpAnyF_take (i := 0) (v := .pointer (some ⟨gr, 0, none⟩)) rfl (by kernel_rfl) (by kernel_rfl) (by kernel_rfl) (by kernel_rfl) (fun _ _ _ h => h) (Or.inl ⟨by rfl, ?_⟩) ⟨u0, u1⟩ ?_
              · rintro W ⟨y0, y1⟩
                go_simp
              try simp only [Act.put, List.setIfInBounds_toArray, List.set_cons_zero, List.set_cons_succ]
              refine wpAnyF_take (i := 1) (v := .pointer (some ⟨gr, 0, none⟩)) rfl (by kernel_rfl) (by kernel_rfl) (by kernel_rfl) (by kernel_rfl) (fun _ _ _ h => h) (Or.inl ⟨by rfl, ?_⟩) ⟨u0, u1⟩ ?_
              · rintro W ⟨y0, y1⟩
                go_simp
              try simp only [Act.put, List.setIfInBounds_toArray, List.set_cons_zero, List.set_cons_succ]
              refine wpAnyF_take (i := 2) (v := .pointer (some ⟨gr, 0, none⟩)) rfl (by kernel_rfl) (by kernel_rfl) (by kernel_rfl) (by kernel_rfl) (fun _ _ _ h => h) (Or.inl ⟨by rfl, ?_⟩) ⟨u0, u1⟩ ?_
              · rintro W ⟨y0, y1⟩
                go_simp
              try simp only [Act.put, List.setIfInBounds_toArray, List.set_cons_zero, List.set_cons_succ]
              refine wpAnyF_take (i := 3) (v := .pointer (some ⟨gr, 2, none⟩)) rfl (by kernel_rfl) (by kernel_rfl) (by kernel_rfl) (by kernel_rfl) (fun _ _ _ h => h) (Or.inl ⟨by rfl, ?_⟩) ⟨u0, u1⟩ ?_
              · rintro W ⟨y0, y1⟩
                go_simp
              try simp only [Act.put, List.setIfInBounds_toArray, List.set_cons_zero, List.set_cons_succ]
              refine wpAnyF_take (i := 4) (v := qk) rfl (by kernel_rfl) (by kernel_rfl) (by kernel_rfl) (by kernel_rfl) (fun _ _ _ h => h) (Or.inl ⟨by rfl, ?_⟩) ⟨u0, u1⟩ ?_
              · rintro W ⟨y0, y1⟩
                go_simp
              try simp only [Act.put, List.setIfInBounds_toArray, List.set_cons_zero, List.set_cons_succ]
              refine wpAnyF_take (i := 5) (v := .int .i64 t) rfl (by kernel_rfl) (by kernel_rfl) (by kernel_rfl) (by kernel_rfl) (fun _ _ _ h => h) (Or.inl ⟨by rfl, ?_⟩) ⟨u0, u1⟩ ?_
              · rintro W ⟨y0, y1⟩
                go_simp
              try simp only [Act.put, List.setIfInBounds_toArray, List.set_cons_zero, List.set_cons_succ]
              refine wpAnyF_take (i := 6) (v := .pointer (some ⟨wx.heap.size, 3, none⟩)) rfl (by kernel_rfl) (by kernel_rfl) (by kernel_rfl) (by kernel_rfl) (fun _ _ _ h => h) (Or.inl ⟨by rfl, ?_⟩) ⟨u0, u1⟩ ?_
              · rintro W ⟨y0, y1⟩
                go_simp
              try simp only [Act.put, List.setIfInBounds_toArray, List.set_cons_zero, List.set_cons_succ]
              refine wpAnyF_take (i := 7) (v := .int .i64 G.delay) rfl (by kernel_rfl) (by kernel_rfl) (by kernel_rfl) (by kernel_rfl) (fun _ _ _ h => h) (Or.inl ⟨by rfl, ?_⟩) ⟨u0, u1⟩ ?_
              · rintro W ⟨y0, y1⟩
                go_simp
              try simp only [Act.put, List.setIfInBounds_toArray, List.set_cons_zero, List.set_cons_succ]
              refine wpAnyF_take (i := 8) (v := .int .i64 (t + G.delay)) rfl (by kernel_rfl) (by kernel_rfl) (by kernel_rfl) (by kernel_rfl) (fun _ _ _ h => h) (Or.inl ⟨by rfl, ?_⟩) ⟨u0, u1⟩ ?_
              · rintro W ⟨y0, y1⟩
                go_simp
              try simp only [Act.put, List.setIfInBounds_toArray, List.set_cons_zero, List.set_cons_succ]
              refine wpAnyF_take (i := 9) (v := .int .i64 k) rfl (by kernel_rfl) (by kernel_rfl) (by kernel_rfl) (by kernel_rfl) (fun _ _ _ h => h) (Or.inl ⟨by rfl, ?_⟩) ⟨u0, u1⟩ ?_
              · rintro W ⟨y0, y1⟩
                go_simp
              try simp only [Act.put, List.setIfInBounds_toArray, List.set_cons_zero, List.set_cons_succ]
              refine wpAnyF_take (i := 10) (v := .int .i64 v) rfl (by kernel_rfl) (by kernel_rfl) (by kernel_rfl) (by kernel_rfl) (fun _ _ _ h => h) (Or.inl ⟨by rfl, ?_⟩) ⟨u0, u1⟩ ?_
              · rintro W ⟨y0, y1⟩
                go_simp
              try simp only [Act.put, List.setIfInBounds_toArray, List.set_cons_zero, List.set_cons_succ]
              refine wpAnyF_take (i := 11) (v := .agg #[.int .i64 (t + G.delay), .int .i64 k, .int .i64 v]) rfl (by kernel_rfl) (by kernel_rfl) (by kernel_rfl) (by kernel_rfl) (fun _ _ _ h => h) (Or.inl ⟨by rfl, ?_⟩) ⟨u0, u1⟩ ?_
              · rintro W ⟨y0, y1⟩
                go_simp
              try simp only [Act.put, List.setIfInBounds_toArray, List.set_cons_zero, List.set_cons_succ]
              have hwcb : Below wd.heap.size wd (wd.alloc (.cells #[.int .i64 (t + G.delay), .int .i64 k, .int .i64 v] 132)) := (Below.refl _ _).alloc (Nat.le_refl _) _
              have hszc : (wd.alloc (.cells #[.int .i64 (t + G.delay), .int .i64 k, .int .i64 v] 132)).heap.size = wd.heap.size + 1 := Array.size_push _
              have hqq : w0.heap.size ≤ (wd.alloc (.cells #[.int .i64 (t + G.delay), .int .i64 k, .int .i64 v] 132)).heap.size := by have h1 := HB.out.size; have h2 := HSQ.out; rw [hszc, hszq]; omega
              have hown0 := (pw_own_below H14.out WQ.out).alloc (.cells #[.int .i64 (t + G.delay), .int .i64 k, .int .i64 v] 132)
              have HSZQ := Lib.hid hszq; clear hszq hszc
              have hq1 : Sk.q.length + 1 ≤ 100000100 := by have h1 : Sk.q.length ≤ q.length + k := HLQ.out; have h2 := HQL.out; omega
              have hrq : some gr ≠ qk.ownBlock := row_ne_blk H14.out H13.out (by decide)
              have hxq : some wx.heap.size ≠ qk.ownBlock := row_ne_blk H14.out HGBq.out (by decide)
              refine wpAnyF_one (i := 12) rfl (by kernel_rfl) (fun K hK => ?_)
              go_simp
              refine hK _ _ (fun _ => ⟨pw_cell_below hwcb u0, pw_cell_below hwcb u1⟩) ?_
              clear hK K
              try simp only [Act.put, List.setIfInBounds_toArray, List.set_cons_zero, List.set_cons_succ]
              refine wpAnyF_one (i := 13) rfl (by kernel_rfl) (fun K hK => ?_)
              refine step_append_lies _ (by rfl) _ _ _ (by rfl) w0.heap.size 132 i132 (.agg #[.int .i64 0, .int .i64 0, .int .i64 0]) 3 24 Try.underlying106 hi132 hz132 hs132 hb132 rfl (by omega) qk Sk.q.length (flatS Sk.q) (by rfl) hown0 ⟨wd.heap.size, 0, none⟩ 1 1 [.int .i64 (t + G.delay), .int .i64 k, .int .i64 v] (by rfl) (by rfl) (World.news_of_block (cs := #[.int .i64 (t + G.delay), .int .i64 k, .int .i64 v]) (t := 132) (fr := (0, 0)) (heap_alloc_new wd _)) (by simp [Value.oneCell']) Nat.one_pos (by simp only [maxLen]; omega) (by omega) hqq (wd.heap.size + 1) (Array.size_push _) ?_
              intro gg cap w3 hown1 hgrow hat hlt1
              have z0 := hgrow.cell (pw_cell_below hwcb u0) hrq
              have z1 := hgrow.cell (pw_cell_below hwcb u1) hxq
              have zf := (hgrow.frozen_far ⟨gr, 2, none⟩ (Nat.lt_of_lt_of_le (World.block_lt_of_cell? wd _ u0) hwcb.size) hrq).trans ((World.frozen?_of_block (hwcb.block _ (World.block_lt_of_cell? wd _ u0))).trans fq)
              refine hK _ _ (fun _ => ⟨z0, z1⟩) ?_
              clear hK K
              try simp only [Act.put, List.setIfInBounds_toArray, List.set_cons_zero, List.set_cons_succ]
              have HWCB := Lib.hid hwcb; clear hwcb
              have HGROW := Lib.hid hgrow; clear hgrow
              have HOWN1 := Lib.hid hown1; clear hown1
              have HAT := Lib.hid hat; clear hat
              clear u0 u1 hown0
              refine wpAnyF_one (i := 14) rfl (by kernel_rfl) (fun K hK => ?_)
              go_simp
              refine hK _ _ (fun _ => ⟨z0, z1⟩) ?_
              clear hK K
              try simp only [Act.put, List.setIfInBounds_toArray, List.set_cons_zero, List.set_cons_succ]
              refine wpAnyF_one (i := 15) rfl (by kernel_rfl) (fun K hK => ?_)
              go_simp
              refine hK _ _ (fun _ => ⟨z0, z1⟩) ?_
              clear hK K
              try simp only [Act.put, List.setIfInBounds_toArray, List.set_cons_zero, List.set_cons_succ]
              refine wpAnyF_one (i := 16) rfl (by kernel_rfl) (fun K hK => ?_)
              go_simp
              refine hK _ _ (fun h => absurd rfl h) ?_
              clear hK K
              refine wpAnyF_done (by kernel_rfl) ?_ _
              have HAn : Hid (AskSt w0 w (w3.setCell ⟨gr, 2, none⟩ (.slice (some ⟨gg, 0, none⟩) (Sk.q.length + 1) cap)) gr gp w.heap.size gX cX dn pv qv (.slice (some ⟨gD, 0, none⟩) dn cD) ov (.slice (some ⟨gN, 0, none⟩) nn cN) ev (.slice (some ⟨gC, 0, none⟩) nn cC) S2) := Lib.hid (by
                rw [HS2.out]
                refine ((HAq.out.below WQ.out).below HWCB.out).sent (e := ⟨t + G.delay, k, ansF G nets⟩) (blk_below (blk_below H13.out WQ.out) HWCB.out) HGROW.out (by rw [HVV.out]; exact HOWN1.out) ?_ hgr
                rcases HAT.out with h | h
                · exact .inl h
                · right; have h1 := HSQ.out; have h2 := HSZQ.out; omega)
              have hmv : S2.moved = Sk.moved := by rw [HS2.out]
              go_wp2_with fail
              first
              | exact ⟨⟨k + 1, by omega, by go_num, by rw [HE.out, HS2.out], Lib.hid (by rw [HE.out]; exact HAn.out)⟩, by simp [intOf]; omega⟩
            · have hdl2 : decide (0 < G.delay) = false := by simpa using hdl
              have HS2 := Lib.hid (HSK.out.trans (HNW'.out HBT.out (by omega)))
              obtain ⟨h11, h12, ⟨qk, h13, _, _⟩, _⟩ := HAq.out
              obtain ⟨cX1, fX1⟩ := own_get h12 k (by have := HDN.out; omega)
              have HAn : Hid (AskSt w0 w (wq.setCell ⟨gX, k, none⟩ (.int .i64 v)) gr gp w.heap.size gX cX dn pv qv (.slice (some ⟨gD, 0, none⟩) dn cD) ov (.slice (some ⟨gN, 0, none⟩) nn cN) ev (.slice (some ⟨gC, 0, none⟩) nn cC) S2) := Lib.hid (by
                rw [HS2.out, HVV.out]
                exact HAq.out.put k v _)
              have HMV : Hid (S2.moved = (Sk.moved || (v != Sk.gv.getD k 0))) := Lib.hid (by rw [HS2.out, HVV.out])
              have hkd : (k : Int) < (dn : Int) := by have := HDN.out; omega
              clear h11 h12 h13
              generalize Sk.gv.getD k 0 = old at *
              cases hmk : Sk.moved
              · rw [hmk] at HMV
                have HMK := Lib.hid hmk; clear hmk
                cases hvo : (v != old)
                · rw [hvo] at HMV
                  go_wp2_with fail
                  first
                  | exact ⟨⟨k + 1, by omega, by go_num, by rw [HE.out, HMV.out]; rfl, Lib.hid (by rw [HE.out]; exact HAn.out)⟩, by simp [intOf]; omega⟩
                · rw [hvo] at HMV
                  go_wp2_with fail
                  first
                  | exact ⟨⟨k + 1, by omega, by go_num, by rw [HE.out, HMV.out]; rfl, Lib.hid (by rw [HE.out]; exact HAn.out)⟩, by simp [intOf]; omega⟩
              · rw [hmk] at HMV
                have HMK := Lib.hid hmk; clear hmk
                go_wp2_with fail
                first
                | exact ⟨⟨k + 1, by omega, by go_num, by rw [HE.out, HMV.out]; rfl, Lib.hid (by rw [HE.out]; exact HAn.out)⟩, by simp [intOf]; omega⟩
        · have HBT : Hid (askedB true ch G = true) := Lib.hid rfl
          have HKB := Lib.hid hk0; clear hk0
          go_wp2_with fail
          obtain ⟨_, _, ⟨qk, hqk, _, _⟩, _⟩ := HAG.out
          have s0 : (wx.alloc (.cells #[.int .i64 G.kind, .slice AI G.ins.length ci, .int .i64 G.out, .int .i64 G.delay] 88)).drew.cell? ⟨gr, 0, none⟩ = some (.pointer (some ⟨gp, 0, none⟩)) := (blk_cell hqk 0).trans rfl
          have s1 : (wx.alloc (.cells #[.int .i64 G.kind, .slice AI G.ins.length ci, .int .i64 G.out, .int .i64 G.delay] 88)).drew.cell? ⟨wx.heap.size, 0, none⟩ = some (.int .i64 G.kind) := (blk_cell HGB.out 0).trans rfl
          have s2 : (wx.alloc (.cells #[.int .i64 G.kind, .slice AI G.ins.length ci, .int .i64 G.out, .int .i64 G.delay] 88)).drew.cell? ⟨wx.heap.size, 1, none⟩ = some (.slice AI G.ins.length ci) := (blk_cell HGB.out 1).trans rfl
          have s3 : (wx.alloc (.cells #[.int .i64 G.kind, .slice AI G.ins.length ci, .int .i64 G.out, .int .i64 G.delay] 88)).drew.cell? ⟨wx.heap.size, 2, none⟩ = some (.int .i64 G.out) := (blk_cell HGB.out 2).trans rfl
          have s4 : (wx.alloc (.cells #[.int .i64 G.kind, .slice AI G.ins.length ci, .int .i64 G.out, .int .i64 G.delay] 88)).drew.cell? ⟨wx.heap.size, 3, none⟩ = some (.int .i64 G.delay) := (blk_cell HGB.out 3).trans rfl
          have s5 : (wx.alloc (.cells #[.int .i64 G.kind, .slice AI G.ins.length ci, .int .i64 G.out, .int .i64 G.delay] 88)).drew.cell? ⟨gr, 5, none⟩ = some (.slice (some ⟨gN, 0, none⟩) nn cN) := (blk_cell hqk 5).trans rfl
          have W1Z : Hid (Below wx.heap.size wx (wx.alloc (.cells #[.int .i64 G.kind, .slice AI G.ins.length ci, .int .i64 G.out, .int .i64 G.delay] 88)).drew) := Lib.hid (pw_below_drewN (n := 1) HWG.out)
          have HGBd : Hid ((wx.alloc (.cells #[.int .i64 G.kind, .slice AI G.ins.length ci, .int .i64 G.out, .int .i64 G.delay] 88)).drew.heap[wx.heap.size]? = some (.cells #[.int .i64 G.kind, .slice AI G.ins.length ci, .int .i64 G.out, .int .i64 G.delay] 88 (0, 0))) := HGB
          clear hqk bx
          refine wp_region_named 99 (fun w' => w'.cell? ⟨gr, 0, none⟩ = some (.pointer (some ⟨gp, 0, none⟩)) ∧ w'.cell? ⟨wx.heap.size, 0, none⟩ = some (.int .i64 G.kind) ∧ w'.cell? ⟨wx.heap.size, 1, none⟩ = some (.slice AI G.ins.length ci) ∧ w'.cell? ⟨wx.heap.size, 2, none⟩ = some (.int .i64 G.out) ∧ w'.cell? ⟨wx.heap.size, 3, none⟩ = some (.int .i64 G.delay) ∧ w'.cell? ⟨gr, 5, none⟩ = some (.slice (some ⟨gN, 0, none⟩) nn cN)) (fun w' => (w'.cell? ⟨gr, 0, none⟩ = some (.pointer (some ⟨gp, 0, none⟩))) ∧ (w'.cell? ⟨wx.heap.size, 0, none⟩ = some (.int .i64 G.kind)) ∧ (w'.cell? ⟨wx.heap.size, 1, none⟩ = some (.slice AI G.ins.length ci)) ∧ (w'.cell? ⟨wx.heap.size, 2, none⟩ = some (.int .i64 G.out)) ∧ (w'.cell? ⟨wx.heap.size, 3, none⟩ = some (.int .i64 G.delay)) ∧ (w'.cell? ⟨gr, 5, none⟩ = some (.slice (some ⟨gN, 0, none⟩) nn cN)) ∧ (Hid (Below wx.heap.size wx w')) ∧ (Hid (w'.heap[wx.heap.size]? = some (.cells #[.int .i64 G.kind, .slice AI G.ins.length ci, .int .i64 G.out, .int .i64 G.delay] 88 (0, 0))))) (by kernel_rfl) ⟨s0, s1, s2, s3, s4, s5, W1Z, HGBd⟩ ?_
          rintro wc ⟨s0, s1, s2, s3, s4, s5, W1Z, HGBd⟩
          refine wpAnyF_take (i := 0) (v := .pointer (some ⟨gr, 0, none⟩)) rfl (by kernel_rfl) (by kernel_rfl) (by kernel_rfl) (by kernel_rfl) (fun _ _ _ h => h) (Or.inl ⟨by rfl, ?_⟩) ⟨s0, s1, s2, s3, s4, s5⟩ ?_
          · rintro W ⟨y0, y1, y2, y3, y4, y5⟩
            go_simp
          try simp only [Act.put, List.setIfInBounds_toArray, List.set_cons_zero, List.set_cons_succ]
          refine wpAnyF_take (i := 1) (v := .pointer (some ⟨gr, 0, none⟩)) rfl (by kernel_rfl) (by kernel_rfl) (by kernel_rfl) (by kernel_rfl) (fun _ _ _ h => h) (Or.inl ⟨by rfl, ?_⟩) ⟨s0, s1, s2, s3, s4, s5⟩ ?_
          · rintro W ⟨y0, y1, y2, y3, y4, y5⟩
            go_simp
          try simp only [Act.put, List.setIfInBounds_toArray, List.set_cons_zero, List.set_cons_succ]
          refine wpAnyF_take (i := 2) (v := .pointer (some ⟨gr, 0, none⟩)) rfl (by kernel_rfl) (by kernel_rfl) (by kernel_rfl) (by kernel_rfl) (fun _ _ _ h => h) (Or.inl ⟨by rfl, ?_⟩) ⟨s0, s1, s2, s3, s4, s5⟩ ?_
          · rintro W ⟨y0, y1, y2, y3, y4, y5⟩
            go_simp
          try simp only [Act.put, List.setIfInBounds_toArray, List.set_cons_zero, List.set_cons_succ]
          refine wpAnyF_take (i := 3) (v := .pointer (some ⟨gp, 0, none⟩)) rfl (by kernel_rfl) (by kernel_rfl) (by kernel_rfl) (by kernel_rfl) (fun _ _ _ h => h) (Or.inl ⟨by rfl, ?_⟩) ⟨s0, s1, s2, s3, s4, s5⟩ ?_
          · rintro W ⟨y0, y1, y2, y3, y4, y5⟩
            go_simp
          try simp only [Act.put, List.setIfInBounds_toArray, List.set_cons_zero, List.set_cons_succ]
          refine wpAnyF_take (i := 4) (v := .agg #[.int .i64 G.kind, .slice AI G.ins.length ci, .int .i64 G.out, .int .i64 G.delay]) rfl (by kernel_rfl) (by kernel_rfl) (by kernel_rfl) (by kernel_rfl) (fun _ _ _ h => h) (Or.inl ⟨by rfl, ?_⟩) ⟨s0, s1, s2, s3, s4, s5⟩ ?_
          · rintro W ⟨y0, y1, y2, y3, y4, y5⟩
            go_simp
          try simp only [Act.put, List.setIfInBounds_toArray, List.set_cons_zero, List.set_cons_succ]
          refine wpAnyF_take (i := 5) (v := .pointer (some ⟨gr, 0, none⟩)) rfl (by kernel_rfl) (by kernel_rfl) (by kernel_rfl) (by kernel_rfl) (fun _ _ _ h => h) (Or.inl ⟨by rfl, ?_⟩) ⟨s0, s1, s2, s3, s4, s5⟩ ?_
          · rintro W ⟨y0, y1, y2, y3, y4, y5⟩
            go_simp
          try simp only [Act.put, List.setIfInBounds_toArray, List.set_cons_zero, List.set_cons_succ]
          refine wpAnyF_take (i := 6) (v := .pointer (some ⟨gr, 0, none⟩)) rfl (by kernel_rfl) (by kernel_rfl) (by kernel_rfl) (by kernel_rfl) (fun _ _ _ h => h) (Or.inl ⟨by rfl, ?_⟩) ⟨s0, s1, s2, s3, s4, s5⟩ ?_
          · rintro W ⟨y0, y1, y2, y3, y4, y5⟩
            go_simp
          try simp only [Act.put, List.setIfInBounds_toArray, List.set_cons_zero, List.set_cons_succ]
          refine wpAnyF_take (i := 7) (v := .pointer (some ⟨gr, 5, none⟩)) rfl (by kernel_rfl) (by kernel_rfl) (by kernel_rfl) (by kernel_rfl) (fun _ _ _ h => h) (Or.inl ⟨by rfl, ?_⟩) ⟨s0, s1, s2, s3, s4, s5⟩ ?_
          · rintro W ⟨y0, y1, y2, y3, y4, y5⟩
            go_simp
          try simp only [Act.put, List.setIfInBounds_toArray, List.set_cons_zero, List.set_cons_succ]
          refine wpAnyF_take (i := 8) (v := .slice (some ⟨gN, 0, none⟩) nn cN) rfl (by kernel_rfl) (by kernel_rfl) (by kernel_rfl) (by kernel_rfl) (fun _ _ _ h => h) (Or.inl ⟨by rfl, ?_⟩) ⟨s0, s1, s2, s3, s4, s5⟩ ?_
          · rintro W ⟨y0, y1, y2, y3, y4, y5⟩
            go_simp
          try simp only [Act.put, List.setIfInBounds_toArray, List.set_cons_zero, List.set_cons_succ]
          have HAc := Lib.hid (hA.out.below W1Z.out)
          have HPc := Lib.hid (HPW.out wc HAc.out.1).player
          have HNc := Lib.hid (own_reads' (HNW.out wc HAc.out.1))
          refine wpAnyF_one (i := 9) rfl (by kernel_rfl) (fun K hK => ?_)
          refine goes_ (f := 83) Try.func83 (by kernel_rfl) rfl #[.pointer (some ⟨gp, 0, none⟩), .agg #[.int .i64 G.kind, .slice AI G.ins.length ci, .int .i64 G.out, .int .i64 G.delay], .slice (some ⟨gN, 0, none⟩) nn cN] rfl rfl rfl (by simp [Act.eval]) ?_
          refine (answer_any gp mb wc _ _ _ _ HPc.out G AI ci _ nn cN nets HOK.out rfl (Q3.out.below W1Z.out) HNc.out).mono ?_
          rintro e wq ⟨rfl, hbq⟩
          have HBQ := Lib.hid hbq; clear hbq
          refine ⟨_, rfl, ?_⟩
          have t0 := pw_cell_below HBQ.out s0
          have t1 := pw_cell_below HBQ.out s1
          have t2 := pw_cell_below HBQ.out s2
          have t3 := pw_cell_below HBQ.out s3
          have t4 := pw_cell_below HBQ.out s4
          have t5 := pw_cell_below HBQ.out s5
          refine hK _ _ (fun _ => ⟨t0, t1, t2, t3, t4, t5⟩) ?_
          clear hK K
          obtain ⟨v, hv⟩ : ∃ v, ansF G nets = v := ⟨_, rfl⟩
          have HVV := Lib.hid hv
          rw [hv]
          clear hv
          try simp only [Act.put, List.setIfInBounds_toArray, List.set_cons_zero, List.set_cons_succ]
          refine wpAnyF_one (i := 10) rfl (by kernel_rfl) (fun K hK => ?_)
          go_simp
          refine hK _ _ (fun _ => ⟨t0, t1, t2, t3, t4, t5⟩) ?_
          clear hK K
          try simp only [Act.put, List.setIfInBounds_toArray, List.set_cons_zero, List.set_cons_succ]
          refine wpAnyF_done (by kernel_rfl) ?_ _
          have HAq := Lib.hid (HAc.out.below HBQ.out)
          have HGBq := Lib.hid (blk_below HGBd.out HBQ.out)
          have HSQ : Hid (wx.heap.size + 1 ≤ wq.heap.size) := Lib.hid (by have := blk_lt HGBq.out; omega)
          clear s0 s1 s2 s3 s4 s5 t0 t1 t2 t3 t5 HAG HGB HWG HAc HPc HNc HGBd W1Z HBQ HCG HQ3G hA
          by_cases hdl : 0 < G.delay
          · have hdl2 : decide (0 < G.delay) = true := by simpa using hdl
            have HS2 := Lib.hid (HSK.out.trans (HLA.out HBT.out hdl))
            obtain ⟨h11, h12, ⟨qk, h13, h14, h15⟩, h16⟩ := HAq.out
            have u0 : wq.drew.cell? ⟨gr, 2, none⟩ = some qk := (blk_cell h13 2).trans rfl
            have u1 : wq.drew.cell? ⟨wx.heap.size, 3, none⟩ = some (.int .i64 G.delay) := t4
            have WQ : Hid (Below wq.heap.size wq wq.drew) := Lib.hid (pw_below_drewN (n := 1) (Below.refl _ _))
            have hszq : wq.drew.heap.size = wq.heap.size := rfl
            have hsum : IntKind.i64.wrap (t + G.delay) = t + G.delay := IntWalk.i64_in _ (by omega)
            have H13 := Lib.hid h13; clear h13
            have H14 := Lib.hid h14; clear h14
            have H15 := Lib.hid h15; clear h15
            clear h11 h12 h16
            have fq : wq.drew.frozen? ⟨gr, 2, none⟩ = false := blk_frozen H13.out 2
            go_wp2_with fail
            refine wp_region_named 16 (fun w' => w'.cell? ⟨gr, 2, none⟩ = some qk ∧ w'.cell? ⟨wx.heap.size, 3, none⟩ = some (.int .i64 G.delay)) (fun w' => (w'.cell? ⟨gr, 2, none⟩ = some qk) ∧ (w'.cell? ⟨wx.heap.size, 3, none⟩ = some (.int .i64 G.delay)) ∧ (Hid (Below wq.heap.size wq w')) ∧ (w'.heap.size = wq.heap.size) ∧ (w'.frozen? ⟨gr, 2, none⟩ = false)) (by kernel_rfl) ⟨u0, u1, WQ, hszq, fq⟩ ?_
            rintro wd ⟨u0, u1, WQ, hszq, fq⟩
            refine wpAnyF_take (i := 0) (v := .pointer (some ⟨gr, 0, none⟩)) rfl (by kernel_rfl) (by kernel_rfl) (by kernel_rfl) (by kernel_rfl) (fun _ _ _ h => h) (Or.inl ⟨by rfl, ?_⟩) ⟨u0, u1⟩ ?_
            · rintro W ⟨y0, y1⟩
              go_simp
            try simp only [Act.put, List.setIfInBounds_toArray, List.set_cons_zero, List.set_cons_succ]
            refine wpAnyF_take (i := 1) (v := .pointer (some ⟨gr, 0, none⟩)) rfl (by kernel_rfl) (by kernel_rfl) (by kernel_rfl) (by kernel_rfl) (fun _ _ _ h => h) (Or.inl ⟨by rfl, ?_⟩) ⟨u0, u1⟩ ?_
            · rintro W ⟨y0, y1⟩
              go_simp
            try simp only [Act.put, List.setIfInBounds_toArray, List.set_cons_zero, List.set_cons_succ]
            refine wpAnyF_take (i := 2) (v := .pointer (some ⟨gr, 0, none⟩)) rfl (by kernel_rfl) (by kernel_rfl) (by kernel_rfl) (by kernel_rfl) (fun _ _ _ h => h) (Or.inl ⟨by rfl, ?_⟩) ⟨u0, u1⟩ ?_
            · rintro W ⟨y0, y1⟩
              go_simp
            try simp only [Act.put, List.setIfInBounds_toArray, List.set_cons_zero, List.set_cons_succ]
            refine wpAnyF_take (i := 3) (v := .pointer (some ⟨gr, 2, none⟩)) rfl (by kernel_rfl) (by kernel_rfl) (by kernel_rfl) (by kernel_rfl) (fun _ _ _ h => h) (Or.inl ⟨by rfl, ?_⟩) ⟨u0, u1⟩ ?_
            · rintro W ⟨y0, y1⟩
              go_simp
            try simp only [Act.put, List.setIfInBounds_toArray, List.set_cons_zero, List.set_cons_succ]
            refine wpAnyF_take (i := 4) (v := qk) rfl (by kernel_rfl) (by kernel_rfl) (by kernel_rfl) (by kernel_rfl) (fun _ _ _ h => h) (Or.inl ⟨by rfl, ?_⟩) ⟨u0, u1⟩ ?_
            · rintro W ⟨y0, y1⟩
              go_simp
            try simp only [Act.put, List.setIfInBounds_toArray, List.set_cons_zero, List.set_cons_succ]
            refine wpAnyF_take (i := 5) (v := .int .i64 t) rfl (by kernel_rfl) (by kernel_rfl) (by kernel_rfl) (by kernel_rfl) (fun _ _ _ h => h) (Or.inl ⟨by rfl, ?_⟩) ⟨u0, u1⟩ ?_
            · rintro W ⟨y0, y1⟩
              go_simp
            try simp only [Act.put, List.setIfInBounds_toArray, List.set_cons_zero, List.set_cons_succ]
            refine wpAnyF_take (i := 6) (v := .pointer (some ⟨wx.heap.size, 3, none⟩)) rfl (by kernel_rfl) (by kernel_rfl) (by kernel_rfl) (by kernel_rfl) (fun _ _ _ h => h) (Or.inl ⟨by rfl, ?_⟩) ⟨u0, u1⟩ ?_
            · rintro W ⟨y0, y1⟩
              go_simp
            try simp only [Act.put, List.setIfInBounds_toArray, List.set_cons_zero, List.set_cons_succ]
            refine wpAnyF_take (i := 7) (v := .int .i64 G.delay) rfl (by kernel_rfl) (by kernel_rfl) (by kernel_rfl) (by kernel_rfl) (fun _ _ _ h => h) (Or.inl ⟨by rfl, ?_⟩) ⟨u0, u1⟩ ?_
            · rintro W ⟨y0, y1⟩
              go_simp
            try simp only [Act.put, List.setIfInBounds_toArray, List.set_cons_zero, List.set_cons_succ]
            refine wpAnyF_take (i := 8) (v := .int .i64 (t + G.delay)) rfl (by kernel_rfl) (by kernel_rfl) (by kernel_rfl) (by kernel_rfl) (fun _ _ _ h => h) (Or.inl ⟨by rfl, ?_⟩) ⟨u0, u1⟩ ?_
            · rintro W ⟨y0, y1⟩
              go_simp
            try simp only [Act.put, List.setIfInBounds_toArray, List.set_cons_zero, List.set_cons_succ]
            refine wpAnyF_take (i := 9) (v := .int .i64 k) rfl (by kernel_rfl) (by kernel_rfl) (by kernel_rfl) (by kernel_rfl) (fun _ _ _ h => h) (Or.inl ⟨by rfl, ?_⟩) ⟨u0, u1⟩ ?_
            · rintro W ⟨y0, y1⟩
              go_simp
            try simp only [Act.put, List.setIfInBounds_toArray, List.set_cons_zero, List.set_cons_succ]
            refine wpAnyF_take (i := 10) (v := .int .i64 v) rfl (by kernel_rfl) (by kernel_rfl) (by kernel_rfl) (by kernel_rfl) (fun _ _ _ h => h) (Or.inl ⟨by rfl, ?_⟩) ⟨u0, u1⟩ ?_
            · rintro W ⟨y0, y1⟩
              go_simp
            try simp only [Act.put, List.setIfInBounds_toArray, List.set_cons_zero, List.set_cons_succ]
            refine wpAnyF_take (i := 11) (v := .agg #[.int .i64 (t + G.delay), .int .i64 k, .int .i64 v]) rfl (by kernel_rfl) (by kernel_rfl) (by kernel_rfl) (by kernel_rfl) (fun _ _ _ h => h) (Or.inl ⟨by rfl, ?_⟩) ⟨u0, u1⟩ ?_
            · rintro W ⟨y0, y1⟩
              go_simp
            try simp only [Act.put, List.setIfInBounds_toArray, List.set_cons_zero, List.set_cons_succ]
            have hwcb : Below wd.heap.size wd (wd.alloc (.cells #[.int .i64 (t + G.delay), .int .i64 k, .int .i64 v] 132)) := (Below.refl _ _).alloc (Nat.le_refl _) _
            have hszc : (wd.alloc (.cells #[.int .i64 (t + G.delay), .int .i64 k, .int .i64 v] 132)).heap.size = wd.heap.size + 1 := Array.size_push _
            have hqq : w0.heap.size ≤ (wd.alloc (.cells #[.int .i64 (t + G.delay), .int .i64 k, .int .i64 v] 132)).heap.size := by have h1 := HB.out.size; have h2 := HSQ.out; rw [hszc, hszq]; omega
            have hown0 := (pw_own_below H14.out WQ.out).alloc (.cells #[.int .i64 (t + G.delay), .int .i64 k, .int .i64 v] 132)
            have HSZQ := Lib.hid hszq; clear hszq hszc
            have hq1 : Sk.q.length + 1 ≤ 100000100 := by have h1 : Sk.q.length ≤ q.length + k := HLQ.out; have h2 := HQL.out; omega
            have hrq : some gr ≠ qk.ownBlock := row_ne_blk H14.out H13.out (by decide)
            have hxq : some wx.heap.size ≠ qk.ownBlock := row_ne_blk H14.out HGBq.out (by decide)
            refine wpAnyF_one (i := 12) rfl (by kernel_rfl) (fun K hK => ?_)
            go_simp
            refine hK _ _ (fun _ => ⟨pw_cell_below hwcb u0, pw_cell_below hwcb u1⟩) ?_
            clear hK K
            try simp only [Act.put, List.setIfInBounds_toArray, List.set_cons_zero, List.set_cons_succ]
            refine wpAnyF_one (i := 13) rfl (by kernel_rfl) (fun K hK => ?_)
            refine step_append_lies _ (by rfl) _ _ _ (by rfl) w0.heap.size 132 i132 (.agg #[.int .i64 0, .int .i64 0, .int .i64 0]) 3 24 Try.underlying106 hi132 hz132 hs132 hb132 rfl (by omega) qk Sk.q.length (flatS Sk.q) (by rfl) hown0 ⟨wd.heap.size, 0, none⟩ 1 1 [.int .i64 (t + G.delay), .int .i64 k, .int .i64 v] (by rfl) (by rfl) (World.news_of_block (cs := #[.int .i64 (t + G.delay), .int .i64 k, .int .i64 v]) (t := 132) (fr := (0, 0)) (heap_alloc_new wd _)) (by simp [Value.oneCell']) Nat.one_pos (by simp only [maxLen]; omega) (by omega) hqq (wd.heap.size + 1) (Array.size_push _) ?_
            intro gg cap w3 hown1 hgrow hat hlt1
            have z0 := hgrow.cell (pw_cell_below hwcb u0) hrq
            have z1 := hgrow.cell (pw_cell_below hwcb u1) hxq
            have zf := (hgrow.frozen_far ⟨gr, 2, none⟩ (Nat.lt_of_lt_of_le (World.block_lt_of_cell? wd _ u0) hwcb.size) hrq).trans ((World.frozen?_of_block (hwcb.block _ (World.block_lt_of_cell? wd _ u0))).trans fq)
            refine hK _ _ (fun _ => ⟨z0, z1⟩) ?_
            clear hK K
            try simp only [Act.put, List.setIfInBounds_toArray, List.set_cons_zero, List.set_cons_succ]
            have HWCB := Lib.hid hwcb; clear hwcb
            have HGROW := Lib.hid hgrow; clear hgrow
            have HOWN1 := Lib.hid hown1; clear hown1
            have HAT := Lib.hid hat; clear hat
            clear u0 u1 hown0
            refine wpAnyF_one (i := 14) rfl (by kernel_rfl) (fun K hK => ?_)
            go_simp
            refine hK _ _ (fun _ => ⟨z0, z1⟩) ?_
            clear hK K
            try simp only [Act.put, List.setIfInBounds_toArray, List.set_cons_zero, List.set_cons_succ]
            refine wpAnyF_one (i := 15) rfl (by kernel_rfl) (fun K hK => ?_)
            go_simp
            refine hK _ _ (fun _ => ⟨z0, z1⟩) ?_
            clear hK K
            try simp only [Act.put, List.setIfInBounds_toArray, List.set_cons_zero, List.set_cons_succ]
            refine wpAnyF_one (i := 16) rfl (by kernel_rfl) (fun K hK => ?_)
            go_simp
            refine hK _ _ (fun h => absurd rfl h) ?_
            clear hK K
            refine wpAnyF_done (by kernel_rfl) ?_ _
            have HAn : Hid (AskSt w0 w (w3.setCell ⟨gr, 2, none⟩ (.slice (some ⟨gg, 0, none⟩) (Sk.q.length + 1) cap)) gr gp w.heap.size gX cX dn pv qv (.slice (some ⟨gD, 0, none⟩) dn cD) ov (.slice (some ⟨gN, 0, none⟩) nn cN) ev (.slice (some ⟨gC, 0, none⟩) nn cC) S2) := Lib.hid (by
              rw [HS2.out]
              refine ((HAq.out.below WQ.out).below HWCB.out).sent (e := ⟨t + G.delay, k, ansF G nets⟩) (blk_below (blk_below H13.out WQ.out) HWCB.out) HGROW.out (by rw [HVV.out]; exact HOWN1.out) ?_ hgr
              rcases HAT.out with h | h
              · exact .inl h
              · right; have h1 := HSQ.out; have h2 := HSZQ.out; omega)
            have hmv : S2.moved = Sk.moved := by rw [HS2.out]
            go_wp2_with fail
            first
            | exact ⟨⟨k + 1, by omega, by go_num, by rw [HE.out, HS2.out], Lib.hid (by rw [HE.out]; exact HAn.out)⟩, by simp [intOf]; omega⟩
          · have hdl2 : decide (0 < G.delay) = false := by simpa using hdl
            have HS2 := Lib.hid (HSK.out.trans (HNW'.out HBT.out (by omega)))
            obtain ⟨h11, h12, ⟨qk, h13, _, _⟩, _⟩ := HAq.out
            obtain ⟨cX1, fX1⟩ := own_get h12 k (by have := HDN.out; omega)
            have HAn : Hid (AskSt w0 w (wq.setCell ⟨gX, k, none⟩ (.int .i64 v)) gr gp w.heap.size gX cX dn pv qv (.slice (some ⟨gD, 0, none⟩) dn cD) ov (.slice (some ⟨gN, 0, none⟩) nn cN) ev (.slice (some ⟨gC, 0, none⟩) nn cC) S2) := Lib.hid (by
              rw [HS2.out, HVV.out]
              exact HAq.out.put k v _)
            have HMV : Hid (S2.moved = (Sk.moved || (v != Sk.gv.getD k 0))) := Lib.hid (by rw [HS2.out, HVV.out])
            have hkd : (k : Int) < (dn : Int) := by have := HDN.out; omega
            clear h11 h12 h13
            generalize Sk.gv.getD k 0 = old at *
            cases hmk : Sk.moved
            · rw [hmk] at HMV
              have HMK := Lib.hid hmk; clear hmk
              cases hvo : (v != old)
              · rw [hvo] at HMV
                go_wp2_with fail
                first
                | exact ⟨⟨k + 1, by omega, by go_num, by rw [HE.out, HMV.out]; rfl, Lib.hid (by rw [HE.out]; exact HAn.out)⟩, by simp [intOf]; omega⟩
              · rw [hvo] at HMV
                go_wp2_with fail
                first
                | exact ⟨⟨k + 1, by omega, by go_num, by rw [HE.out, HMV.out]; rfl, Lib.hid (by rw [HE.out]; exact HAn.out)⟩, by simp [intOf]; omega⟩
            · rw [hmk] at HMV
              have HMK := Lib.hid hmk; clear hmk
              go_wp2_with fail
              first
              | exact ⟨⟨k + 1, by omega, by go_num, by rw [HE.out, HMV.out]; rfl, Lib.hid (by rw [HE.out]; exact HAn.out)⟩, by simp [intOf]; omega⟩
      -- ]]
    · obtain rfl : k = gn := by omega
      have hlt2 : decide ((k : Int) < (k : Int)) = false := by simp
      obtain ⟨h1', h2', ⟨qk, h3', h4', h5'⟩, h6'⟩ := hA.out
      have f3 : wx.frozen? ⟨gr, 3, none⟩ = false := blk_frozen h3' 3
      have c3 : wx.cell? ⟨gr, 3, none⟩ = some (.slice (some ⟨gD, 0, none⟩) dn cD) := (blk_cell h3' 3).trans rfl
      have HH : Hid (∃ qv', (wx.setCell ⟨gr, 3, none⟩ (.slice (some ⟨gX, 0, none⟩) dn cX)).heap[gr]? = some (.cells #[.pointer (some ⟨gp, 0, none⟩), pv, qv', .slice (some ⟨gX, 0, none⟩) dn cX, ov, .slice (some ⟨gN, 0, none⟩) nn cN, ev] 108 (0, 0)) ∧
        (wx.setCell ⟨gr, 3, none⟩ (.slice (some ⟨gX, 0, none⟩) dn cX)).ownsRow w.heap.size 3 1 (.slice (some ⟨gX, 0, none⟩) dn cX) dn (nums .i64 (askTo gs t all ch nets ⟨drv, q, false⟩ k).gv) ∧
        (wx.setCell ⟨gr, 3, none⟩ (.slice (some ⟨gX, 0, none⟩) dn cX)).ownsRow w0.heap.size 132 3 qv' (askTo gs t all ch nets ⟨drv, q, false⟩ k).q.length (flatS (askTo gs t all ch nets ⟨drv, q, false⟩ k).q) ∧
        KeptS (fun i => i = gr ∨ some i = qv.ownBlock) w (wx.setCell ⟨gr, 3, none⟩ (.slice (some ⟨gX, 0, none⟩) dn cX)) ∧ (qv'.ownBlock = qv.ownBlock ∨ ∃ b, qv'.ownBlock = some b ∧ w.heap.size ≤ b)) := Lib.hid (by
          refine ⟨qk, by rw [blk_set h3']; rfl, own_setCell h2' (fun e => ?_) _, own_setCell h4' (row_ne_blk h4' h3' (by decide)) _, h1'.put (fun _ => .inl rfl) _, h5'⟩
          have e2 : gr = gX := Option.some.inj e
          have := own_base h2' gX rfl
          omega)
      clear h1' h2' h3' h4' h5' h6'
      go_wp2_with fail
      go_ret
      obtain ⟨qv', g1, g2, g3, g4, g5⟩ := HH.out
      exact ⟨gX, cX, qv', rfl, g1, g2, g3, g4, g5⟩
end Go.Proofs.Ytobdhdehmkmjcaa
