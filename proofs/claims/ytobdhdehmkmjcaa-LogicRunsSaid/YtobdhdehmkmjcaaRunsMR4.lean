/- Words and walks for the row RowLogicRuns, put together: MR4. -/
import Derived.Test.YtobdhdehmkmjcaaRuns13
import Derived.StillTailTactics
import Derived.IntWalk
namespace Go.Proofs.Ytobdhdehmkmjcaa
set_option linter.unusedVariables false
set_option linter.unusedSimpArgs false
open Go Go.RowKit Go.Proofs.YtobdhdehmkmjcaaW.PrintWords Go.Proofs.YtobdhdehmkmjcaaW.PrintLast

def RAskSt (B0 : Nat) (w wr : World) (gp nn gn gc : Nat) (GA : Option Addr) (NV GV DV QV EV : Value) (s : AskS) : Prop :=
  KeptS (fun i => i = gp ∨ some i = GV.ownBlock ∨ some i = QV.ownBlock) w wr ∧
  (∃ qk, wr.heap[gp]? = some (.cells #[.int .i64 nn, .slice GA gn gc, NV, GV, DV, qk, EV] 116 (0, 0)) ∧ wr.ownsRow B0 137 3 qk s.q.length (flatS s.q) ∧ (qk.ownBlock = QV.ownBlock ∨ ∃ b, qk.ownBlock = some b ∧ w.heap.size ≤ b)) ∧
  wr.ownsRow B0 3 1 GV gn (nums .i64 s.gv)
section
variable {B0 : Nat} {w wr wq : World} {gp nn gn gc : Nat} {GA : Option Addr} {NV GV DV QV EV : Value} {s : AskS}
theorem RAskSt.below (h : RAskSt B0 w wr gp nn gn gc GA NV GV DV QV EV s) (hb : Below wr.heap.size wr wq) : RAskSt B0 w wq gp nn gn gc GA NV GV DV QV EV s := by
  obtain ⟨h1, ⟨qk, h2, h3, h4⟩, h5⟩ := h
  exact ⟨h1.trans (T := fun _ => False) (KeptS.of_below hb) (fun _ _ h => h.elim), ⟨qk, blk_below h2 hb, pw_own_below h3 hb, h4⟩, pw_own_below h5 hb⟩
theorem RAskSt.gate {g c k : Nat} {x : Int} {m : Bool} (h : RAskSt B0 w wr gp nn gn gc GA NV (.slice (some ⟨g, 0, none⟩) gn c) DV QV EV s) : RAskSt B0 w (wr.setCell ⟨g, k, none⟩ (.int .i64 x)) gp nn gn gc GA NV (.slice (some ⟨g, 0, none⟩) gn c) DV QV EV ⟨s.gv.set k x, s.q, m⟩ := by
  obtain ⟨h1, ⟨qk, h2, h3, h4⟩, h5⟩ := h
  have n1 : gp ≠ g := fun e => own_ne h5 h2 (by decide) (by rw [e]; rfl)
  have n2 : some g ≠ qk.ownBlock := own_ne_own h3 h5 (by decide) rfl
  exact ⟨h1.put (p := ⟨g, k, none⟩) (fun _ => .inr (.inl rfl)) _, ⟨qk, blk_far h2 (p := ⟨g, k, none⟩) n1 _, own_setCell h3 (p := ⟨g, k, none⟩) n2 _, h4⟩, own_put h5 k x⟩
theorem RAskSt.sent {w1 : World} {v1 qk : Value} {e : SentL} {ql : Nat} {m : Bool} (h1 : KeptS (fun i => i = gp ∨ some i = GV.ownBlock ∨ some i = QV.ownBlock) w wr) (h2 : wr.heap[gp]? = some (.cells #[.int .i64 nn, .slice GA gn gc, NV, GV, DV, qk, EV] 116 (0, 0))) (hl : s.q.length = ql) (h3 : wr.ownsRow B0 137 3 qk ql (flatS s.q)) (h4 : qk.ownBlock = QV.ownBlock ∨ ∃ b, qk.ownBlock = some b ∧ w.heap.size ≤ b)
    (h5 : wr.ownsRow B0 3 1 GV gn (nums .i64 s.gv)) (k1 : w1.ownsRow B0 137 3 v1 (ql + 1) (flatS s.q ++ [.int .i64 e.t, .int .i64 e.gate, .int .i64 e.v])) (hg : wr.grownBy w1 qk.ownBlock) (hat : v1.ownBlock = qk.ownBlock ∨ ∃ b, v1.ownBlock = some b ∧ wr.heap.size ≤ b) :
    RAskSt B0 w (w1.setCell ⟨gp, 5, none⟩ v1) gp nn gn gc GA NV GV DV QV EV ⟨s.gv, s.q ++ [e], m⟩ := by
  subst hl
  have e3 : some gp ≠ qk.ownBlock := own_ne h3 h2 (by decide)
  have hb := blk_grown h2 hg e3
  have hK : KeptS (fun i => some i = qk.ownBlock) wr w1 := KeptS.grown hg (fun k hk _ => hk.symm)
  have hK1 : KeptS (fun i => i = gp ∨ some i = GV.ownBlock ∨ some i = QV.ownBlock) w w1 := h1.trans hK (fun i hi h => by
    rcases h4 with h4 | ⟨b, h4, hb4⟩
    · exact .inr (.inr (by rw [h, h4]))
    · rw [h4] at h
      have : i = b := Option.some.inj h
      omega)
  have o1 := own_other h5 hg (own_type_ne h5 h3 (by decide))
  refine ⟨hK1.put (p := ⟨gp, 5, none⟩) (fun _ => .inl rfl) _, ⟨v1, ?_, ?_, ?_⟩, own_setCell o1 (p := ⟨gp, 5, none⟩) (own_ne o1 hb (by decide)) _⟩
  · rw [blk_set hb]; rfl
  · have := own_setCell k1 (p := ⟨gp, 5, none⟩) (own_ne k1 hb (by decide)) v1
    rw [List.length_append, flatS_append]
    exact this
  · rcases hat with hat | ⟨b, hat, hb5⟩
    · rw [hat]; exact h4
    · exact .inr ⟨b, hat, Nat.le_trans h1.size hb5⟩
end
def srcL (g : GateL) : List Int := if g.kind = 0 then [] else g.ins
def chB (ch : List Bool) (n : Int) : Bool := ch.getD n.toNat false
theorem askedB_src (al : Bool) (ch : List Bool) (g : GateL) : askedB al ch g = (al || (srcL g).any (chB ch)) := by
  unfold askedB srcL
  by_cases h : g.kind = 0
  · rw [if_pos h, h]; rfl
  · rw [if_neg h, bne_iff_ne.2 h, Bool.true_and]; rfl
theorem src_ok {nn : Nat} {g : GateL} (hok : gateOk nn g = true) {j : Nat} (hj : j < (srcL g).length) : 0 ≤ (srcL g).getD j 0 ∧ (srcL g).getD j 0 < (nn : Int) := by
  unfold srcL at hj ⊢
  by_cases h : g.kind = 0
  · rw [if_pos h] at hj; simp at hj
  · rw [if_neg h] at hj ⊢
    exact gateOk_ins hok h hj
theorem gate_delay20 {nn : Int} {g : GateL} (h : gateOk nn g = true) : g.delay ≤ 20 := by
  unfold gateOk at h
  simp only [Bool.and_eq_true, decide_eq_true_eq] at h
  exact h.1.2
theorem anyI_succ {f : Int → Bool} {l : List Int} {k : Nat} (hk : k < l.length) : (l.take (k + 1)).any f = ((l.take k).any f || f (l.getD k 0)) := by
  rw [List.take_succ_eq_append_getElem hk, List.any_append]
  simp [List.getD_eq_getElem?_getD, List.getElem?_eq_getElem hk]

set_option maxHeartbeats 8000000 in
set_option maxRecDepth 100000 in
theorem rask96_any (w0 w : World) (gp nn gn gc mb : Nat) (GA : Option Addr) (gs : List GateL) (NV GV DV QV EV : Value) (t : Int) (al : Bool) (ch : List Bool) (nets gv : List Int) (q : List SentL)
    (hB : Below w0.heap.size w0 w) (hg : RdGates w0 GA gn gs) (hrb : w0.heap.size ≤ gp)
    (hr : w.heap[gp]? = some (.cells #[.int .i64 nn, .slice GA gn gc, NV, GV, DV, QV, EV] 116 (0, 0)))
    (hn : w.ownsRow w0.heap.size 3 1 NV nn (nums .i64 nets)) (hgv : w.ownsRow w0.heap.size 3 1 GV gn (nums .i64 gv)) (hq : w.ownsRow w0.heap.size 137 3 QV q.length (flatS q))
    (hne : ∀ g, NV.ownBlock = some g → GV.ownBlock ≠ some g) (hm : MapCh w mb nn ch ch.length) (hcl : ch.length = nn)
    (hgo : gs.all (gateOk nn) = true) (h1 : 1 ≤ nn) (h40 : nn ≤ 40) (hg60 : gn ≤ 60) (ht0 : 0 ≤ t) (ht1 : t ≤ 100000) (hql : q.length ≤ 50000000) (hnl : nets.length = nn) (hgl : gv.length = gn) :
    Calls Try.prog 96 #[.pointer (some ⟨gp, 0, none⟩), .int .i64 t, .bool al, .map (some mb)] w fun e w' => e = .returned (.bool (askTo gs t al ch nets ⟨gv, q, false⟩ gn).moved) ∧ RAskSt w0.heap.size w w' gp nn gn gc GA NV GV DV QV EV (askTo gs t al ch nets ⟨gv, q, false⟩ gn) := by
  obtain ⟨i137, hi137, hz137, hs137, hb137⟩ := info_parts info137
  have hgw : gp < w.heap.size := blk_lt hr
  obtain ⟨NA, nc, rfl⟩ := own_slice hn
  have HST : Hid (RAskSt w0.heap.size w w gp nn gn gc GA (.slice NA nn nc) GV DV QV EV (askTo gs t al ch nets ⟨gv, q, false⟩ 0)) := Lib.hid ⟨KeptS.refl _ _, ⟨QV, hr, hq, .inl rfl⟩, hgv⟩
  have HNX : Hid (∀ wr s, RAskSt w0.heap.size w wr gp nn gn gc GA (.slice NA nn nc) GV DV QV EV s → ReadsInt wr .i64 NA nn nets ∧ MapCh wr mb nn ch ch.length ∧ Below w0.heap.size w0 wr) := Lib.hid (by
    rintro wr s ⟨k1, ⟨qk, k2, k3, k4⟩, k5⟩
    refine ⟨own_reads' (k1.own hn ?_), hm.blk (k1.block mb hm.lt ?_), hB.trans (k1.below hB.size ?_)⟩
    · rintro g hh (e | e | e)
      · exact own_ne hn hr (by decide) (by rw [hh, e])
      · exact hne g hh e.symm
      · exact own_ne_own hq hn (by decide) hh e
    · obtain ⟨es, c, hmb⟩ := hm.map
      rintro (e | e | e)
      · rw [e, hr] at hmb; cases hmb
      · exact own_ne_map (m := #[]) (k := 0) hgv hmb (fun _ _ _ h => by cases h) e
      · exact own_ne_map (m := #[]) (k := 0) hq hmb (fun _ _ _ h => by cases h) e
    · rintro i (e | e | e)
      · rw [e]; exact hrb
      · exact own_base hgv i e.symm
      · exact own_base hq i e.symm)
  have HGL := Lib.hid hg.1
  have HG := Lib.hid hg; clear hg
  have HGO := Lib.hid hgo; clear hgo
  have HCL := Lib.hid hcl; clear hcl
  have HLN := Lib.hid hnl; clear hnl
  have HGVL := Lib.hid hgl; clear hgl
  have HGVR := Lib.hid hgv; clear hgv
  clear hr hn hq hne hm hB
  go_enter Try.func96, Try.ntmps96
  go_wp2_with fail
  go_loopw [9, 10] (fun b i wr => ∃ k : Nat, k ≤ gn ∧ i = .int .i64 k ∧ b = .bool (askTo gs t al ch nets ⟨gv, q, false⟩ k).moved ∧ Hid (RAskSt w0.heap.size w wr gp nn gn gc GA (.slice NA nn nc) GV DV QV EV (askTo gs t al ch nets ⟨gv, q, false⟩ k))) (fun _ i _ => gn - (intOf i).toNat)
  case atStart => exact ⟨0, Nat.zero_le _, rfl, rfl, HST⟩
  case round =>
    obtain ⟨k, hk, rfl, rfl, hS⟩ := hrel
    clear HST
    obtain ⟨wx, rfl⟩ : ∃ wx : World, wx = wr := ⟨_, rfl⟩
    have c1 : wx.cell? ⟨gp, 1, none⟩ = some (.slice GA gn gc) := by
      obtain ⟨_, ⟨_, h, _⟩, _⟩ := hS.out
      exact (blk_cell h 1).trans rfl
    by_cases hlt : k < gn
    · have hlt2 : decide ((k : Int) < (gn : Int)) = true := by simp; omega
      have hj0 : (0 : Int) ≤ (k : Int) := by omega
      have hj1 : (k : Int) < (gn : Int) := by omega
      obtain ⟨hNX, hMX, hBX⟩ := HNX.out _ _ hS.out
      obtain ⟨gG, cG, rfl, _, _, _⟩ := own_cells HGVR.out (by omega)
      have HBX := Lib.hid hBX; clear hBX
      have HNXX := Lib.hid hNX; clear hNX
      have HMX := Lib.hid hMX; clear hMX
      obtain ⟨ad, rfl, hgj⟩ := (HG.out.below HBX.out).at_ k hlt
      have hok := gate_ok HGO.out (by rw [HGL.out]; exact hlt : k < gs.length)
      have HSUC := Lib.hid (askTo_succ (gs := gs) (t := t) (all := al) (ch := ch) (nets := nets) (s := ⟨gv, q, false⟩) k)
      have HQL : Hid ((askTo gs t al ch nets ⟨gv, q, false⟩ k).q.length ≤ 50000100) := Lib.hid (by have h2 : (askTo gs t al ch nets ⟨gv, q, false⟩ k).q.length ≤ q.length + k := askTo_qlen _; omega)
      have HGVN : Hid ((askTo gs t al ch nets ⟨gv, q, false⟩ k).gv.length = gn) := Lib.hid ((askTo_len k).trans HGVL.out)
      obtain ⟨Sk, hSk⟩ : ∃ Sk, askTo gs t al ch nets ⟨gv, q, false⟩ k = Sk := ⟨_, rfl⟩
      rw [hSk] at hS HSUC HQL HGVN
      have HSKE := Lib.hid hSk
      rw [hSk]
      clear hSk
      obtain ⟨G, hG⟩ : ∃ G, gs.getD k zGate = G := ⟨_, rfl⟩
      rw [hG] at hgj hok
      have HGK := Lib.hid hG; clear hG
      obtain ⟨kd, ins, out, dl⟩ := G
      obtain ⟨g1, ⟨AI, ci, g2, g3, g4⟩, g5, g6⟩ := hgj
      have hdl0 := gate_delay hok
      have hdl1 : dl ≤ 20 := gate_delay20 hok
      simp only at g1 g2 g3 g4 g5 g6 hdl0
      have HG3 := Lib.hid g3; clear g3
      have HOK := Lib.hid hok; clear hok
      have HWG : Hid (Below wx.heap.size wx (wx.alloc (.cells #[.int .i64 kd, .slice AI ins.length ci, .int .i64 out, .int .i64 dl] 88))) := Lib.hid ((Below.refl _ _).alloc (Nat.le_refl _) _)
      have HBLK : Hid ((wx.alloc (.cells #[.int .i64 kd, .slice AI ins.length ci, .int .i64 out, .int .i64 dl] 88)).heap[wx.heap.size]? = some (.cells #[.int .i64 kd, .slice AI ins.length ci, .int .i64 out, .int .i64 dl] 88 (0, 0))) := Lib.hid (blk_new _ _)
      go_wp2_with fail
      refine (sources_any kd ins out dl AI ci _ (HG3.out.below HWG.out)).mono ?_
      rintro e w2 ⟨⟨LA, ln, lc, rfl, hL⟩, hb2⟩
      have hLs : (if kd = 0 then [] else ins) = srcL ⟨kd, ins, out, dl⟩ := rfl
      rw [hLs] at hL
      have HB2 := Lib.hid (HWG.out.trans (hb2.mono HWG.out.size))
      have HBL2 := Lib.hid (blk_below HBLK.out hb2)
      have HLL := Lib.hid hL.1
      have hlm := hL.2.1
      have HL := Lib.hid hL; clear hL hb2 hLs
      have HS2 := Lib.hid (hS.out.below HB2.out)
      have HN2 := Lib.hid (HNXX.out.below HB2.out)
      have HM2 := Lib.hid (HMX.out.blk (HB2.out.block mb HMX.out.lt))
      have HG2 := Lib.hid (HG3.out.below HB2.out)
      have HAB := Lib.hid (askedB_src al ch ⟨kd, ins, out, dl⟩)
      have HSRC : Hid (∀ j, j < ln → 0 ≤ (srcL ⟨kd, ins, out, dl⟩).getD j 0 ∧ (srcL ⟨kd, ins, out, dl⟩).getD j 0 < (nn : Int)) := Lib.hid (fun j hj => src_ok HOK.out (by rw [HLL.out]; exact hj))
      have hgw2 : gp < w2.heap.size := by
        obtain ⟨_, ⟨_, h, _⟩, _⟩ := HS2.out
        exact blk_lt h
      generalize srcL ⟨kd, ins, out, dl⟩ = L at *
      clear hS HNXX HMX HG3 HWG HBLK HB2 c1 g1 g2 g5 g6
      go_wp2_with fail
      go_loop [12, 14] (fun b i => ∃ j : Nat, j ≤ ln ∧ i = .int .i64 j ∧ b = .bool (al || (L.take j).any (chB ch))) (fun _ i => ln - (intOf i).toNat)
      case atStart => exact ⟨0, Nat.zero_le _, rfl, by simp⟩
      case round =>
        obtain ⟨j, hj, rfl, rfl⟩ := hrel
        by_cases hltj : j < ln
        · have hltj2 : decide ((j : Int) < (ln : Int)) = true := by simp; omega
          have hx0 : (0 : Int) ≤ (j : Int) := by omega
          have hx1 : (j : Int) < (ln : Int) := by omega
          obtain ⟨la, rfl, hc⟩ := rdN HL.out j hltj
          obtain ⟨s0, s1⟩ := HSRC.out j hltj
          have HANY := Lib.hid (anyI_succ (f := chB ch) (by rw [HLL.out]; exact hltj : j < L.length))
          obtain ⟨m, hm⟩ : ∃ m : Nat, L.getD j 0 = (m : Int) := Int.eq_ofNat_of_zero_le s0
          rw [hm] at s0 s1 hc HANY
          clear hm
          have hlook := HM2.out.look m (by omega)
          have HCB : Hid (chB ch (m : Int) = ch.getD m false) := Lib.hid rfl
          obtain ⟨cm, hcm⟩ : ∃ cm, ch.getD m false = cm := ⟨_, rfl⟩
          rw [hcm] at hlook HCB
          clear hcm
          cases hb : (al || (L.take j).any (chB ch))
          all_goals have HBB := Lib.hid hb
          all_goals clear hb
          · have HN1 : Hid ((al || (L.take (j + 1)).any (chB ch)) = cm) := Lib.hid (by rw [HANY.out, ← Bool.or_assoc, HBB.out, HCB.out]; rfl)
            go_wp2
            go_round
            case rel => exact ⟨j + 1, by omega, by go_num, by rw [HN1.out]⟩
            case measure => simp [intOf]; omega
          · have HN1 : Hid ((al || (L.take (j + 1)).any (chB ch)) = true) := Lib.hid (by rw [HANY.out, ← Bool.or_assoc, HBB.out]; rfl)
            go_wp2
            go_round
            case rel => exact ⟨j + 1, by omega, by go_num, by rw [HN1.out]⟩
            case measure => simp [intOf]; omega
        · have hltj2 : decide ((j : Int) < (ln : Int)) = false := by simp; omega
          rw [List.take_of_length_le (by rw [HLL.out]; omega)]
          rw [← HAB.out]
          clear hj
          cases hab : askedB al ch ⟨kd, ins, out, dl⟩
          all_goals have HABV := Lib.hid hab
          all_goals clear hab HAB
          · have HSN : Hid (askTo gs t al ch nets ⟨gv, q, false⟩ (k + 1) = Sk) := Lib.hid (HSUC.out.trans (by unfold askOne; rw [HGK.out, if_neg (by rw [HABV.out]; simp)]))
            go_wp2_with fail
            go_roundw
            case rel => exact ⟨k + 1, by omega, by go_num, by rw [HSN.out], by rw [HSN.out]; exact HS2⟩
            case measure => simp [intOf]; omega
          · obtain ⟨qk, hr2, hq2, hqb2⟩ := HS2.out.2.1
            have s0 : w2.drew.cell? ⟨wx.heap.size, 0, none⟩ = some (.int .i64 kd) := (blk_cell HBL2.out 0).trans rfl
            have s1 : w2.drew.cell? ⟨wx.heap.size, 1, none⟩ = some (.slice AI ins.length ci) := (blk_cell HBL2.out 1).trans rfl
            have s2 : w2.drew.cell? ⟨wx.heap.size, 2, none⟩ = some (.int .i64 out) := (blk_cell HBL2.out 2).trans rfl
            have s3 : w2.drew.cell? ⟨wx.heap.size, 3, none⟩ = some (.int .i64 dl) := (blk_cell HBL2.out 3).trans rfl
            have r2 : w2.drew.cell? ⟨gp, 2, none⟩ = some (.slice NA nn nc) := (blk_cell hr2 2).trans rfl
            have HD2 : Hid (Below w2.heap.size w2 w2.drew) := Lib.hid (pw_below_drewN (n := 1) (Below.refl _ _))
            clear hr2 hq2 hqb2
            go_wp2_with fail
            go_still_tail 5, (by kernel_rfl)
            change wpList _ _ _ _ _ w2.drew
            have HS3 := Lib.hid (HS2.out.below HD2.out)
            have HN3 := Lib.hid (HN2.out.below HD2.out)
            have HG3 := Lib.hid (HG2.out.below HD2.out)
            have HBL3 := Lib.hid (blk_below HBL2.out HD2.out)
            clear HS2 HN2 HG2 HBL2 HD2 HM2
            generalize w2.drew = w3 at *
            go_wp2_with fail
            refine (rasked_any kd ins out dl AI ci NA nn nc (nn : Int) nets w3 HOK.out rfl HG3.out HN3.out).mono ?_
            rintro e w4 ⟨rfl, hb4⟩
            have HS4 := Lib.hid (HS3.out.below hb4)
            have HBL4 := Lib.hid (blk_below HBL3.out hb4)
            obtain ⟨v, hv⟩ : ∃ v, ansF ⟨kd, ins, out, dl⟩ nets = v := ⟨_, rfl⟩
            have HV := Lib.hid hv
            rw [hv]
            clear hv hb4 s0 s1 s2 s3 r2 HS3 HN3 HG3 HBL3
            obtain ⟨hk4, ⟨qk, hr4, hq4, hqb4⟩, hg4⟩ := HS4.out
            have HK4 := Lib.hid hk4; clear hk4
            have HR4 := Lib.hid hr4; clear hr4
            have HQ4 := Lib.hid hq4; clear hq4
            have HQB4 := Lib.hid hqb4; clear hqb4
            have HG4 := Lib.hid hg4; clear hg4
            have hgw4 : gp < w4.heap.size := blk_lt HR4.out
            have s3 : w4.cell? ⟨wx.heap.size, 3, none⟩ = some (.int .i64 dl) := (blk_cell HBL4.out 3).trans rfl
            by_cases hd : 0 < dl
            · have hdb : decide (0 < dl) = true := by simpa using hd
              have HSN : Hid (askTo gs t al ch nets ⟨gv, q, false⟩ (k + 1) = ⟨Sk.gv, Sk.q ++ [⟨t + dl, k, v⟩], Sk.moved⟩) := Lib.hid (HSUC.out.trans (by
                unfold askOne
                rw [HGK.out, if_pos HABV.out]
                show (if 0 < dl then _ else _) = _
                rw [if_pos hd, HV.out]))
              obtain ⟨ql, hqln⟩ : ∃ ql, Sk.q.length = ql := ⟨_, rfl⟩
              have HQLN := Lib.hid hqln
              have hql2 : ql ≤ 50000100 := by have := HQL.out; omega
              have HQ5 : Hid (w4.drew.ownsRow w0.heap.size 137 3 qk ql (flatS Sk.q)) := Lib.hid (by have h := pw_own_below HQ4.out (pw_below_drewN (n := 1) (Below.refl w4.heap.size w4)); rw [hqln] at h; exact h)
              have HB5 : Hid (Below w0.heap.size w0 w4.drew) := Lib.hid (pw_below_drewN (n := 1) (HNX.out _ _ HS4.out).2.2)
              have r5 : w4.drew.cell? ⟨gp, 5, none⟩ = some qk := (blk_cell HR4.out 5).trans rfl
              have s3d : w4.drew.cell? ⟨wx.heap.size, 3, none⟩ = some (.int .i64 dl) := s3
              have HS5 := Lib.hid (HS4.out.below (pw_below_drewN (n := 1) (Below.refl w4.heap.size w4)))
              have HR5 : Hid (w4.drew.heap[gp]? = _) := HR4
              have HSZ := Lib.hid HB5.out.size
              have HK5 : Hid (KeptS _ w w4.drew) := Lib.hid HK4.out.drew
              have HG5 : Hid (w4.drew.ownsRow _ _ _ _ _ _) := Lib.hid (pw_own_below HG4.out (pw_below_drewN (n := 1) (Below.refl w4.heap.size w4)))
              have hsum : IntKind.i64.wrap (t + dl) = t + dl := IntWalk.i64_in _ (by omega)
              clear hd hqln
              have HX5 : Hid (w4.drew.heap[wx.heap.size]? = _) := HBL4
              go_wp2_with fail
              refine wp_region_named 16 (fun w' => w'.cell? ⟨gp, 5, none⟩ = some qk ∧ w'.cell? ⟨wx.heap.size, 3, none⟩ = some (.int .i64 dl)) (fun w' => (w'.cell? ⟨gp, 5, none⟩ = some qk) ∧ (w'.cell? ⟨wx.heap.size, 3, none⟩ = some (.int .i64 dl)) ∧ (Hid (Below w0.heap.size w0 w')) ∧ (Hid (w'.heap[gp]? = some (.cells #[.int .i64 nn, .slice (some ad) gn gc, .slice NA nn nc, .slice (some ⟨gG, 0, none⟩) gn cG, DV, qk, EV] 116 (0, 0)))) ∧ (Hid (w'.ownsRow w0.heap.size 137 3 qk ql (flatS Sk.q))) ∧ (Hid (KeptS (fun i => i = gp ∨ some i = (Value.slice (some ⟨gG, 0, none⟩) gn cG).ownBlock ∨ some i = QV.ownBlock) w w')) ∧ (Hid (w'.ownsRow w0.heap.size 3 1 (.slice (some ⟨gG, 0, none⟩) gn cG) gn (nums .i64 Sk.gv))) ∧ (Hid (w'.heap[wx.heap.size]? = some (.cells #[.int .i64 kd, .slice AI ins.length ci, .int .i64 out, .int .i64 dl] 88 (0, 0))))) (by kernel_rfl) ⟨r5, s3d, HB5, HR5, HQ5, HK5, HG5, HX5⟩ ?_
              rintro w5 ⟨u0, u1, HB5, HR5, HQ5, HK5, HG5, HX5⟩
              refine wpAnyF_take (i := 0) (v := .pointer (some ⟨gp, 0, none⟩)) rfl (by kernel_rfl) (by kernel_rfl) (by kernel_rfl) (by kernel_rfl) (fun _ _ _ h => h) (Or.inl ⟨by rfl, ?_⟩) ⟨u0, u1⟩ ?_
              · rintro W ⟨y0, y1⟩
                go_simp
              try simp only [Act.put, List.setIfInBounds_toArray, List.set_cons_zero, List.set_cons_succ]
              refine wpAnyF_take (i := 1) (v := .pointer (some ⟨gp, 0, none⟩)) rfl (by kernel_rfl) (by kernel_rfl) (by kernel_rfl) (by kernel_rfl) (fun _ _ _ h => h) (Or.inl ⟨by rfl, ?_⟩) ⟨u0, u1⟩ ?_
              · rintro W ⟨y0, y1⟩
                go_simp
              try simp only [Act.put, List.setIfInBounds_toArray, List.set_cons_zero, List.set_cons_succ]
              refine wpAnyF_take (i := 2) (v := .pointer (some ⟨gp, 0, none⟩)) rfl (by kernel_rfl) (by kernel_rfl) (by kernel_rfl) (by kernel_rfl) (fun _ _ _ h => h) (Or.inl ⟨by rfl, ?_⟩) ⟨u0, u1⟩ ?_
              · rintro W ⟨y0, y1⟩
                go_simp
              try simp only [Act.put, List.setIfInBounds_toArray, List.set_cons_zero, List.set_cons_succ]
              refine wpAnyF_take (i := 3) (v := .pointer (some ⟨gp, 5, none⟩)) rfl (by kernel_rfl) (by kernel_rfl) (by kernel_rfl) (by kernel_rfl) (fun _ _ _ h => h) (Or.inl ⟨by rfl, ?_⟩) ⟨u0, u1⟩ ?_
              · rintro W ⟨y0, y1⟩
                go_simp
              try simp only [Act.put, List.setIfInBounds_toArray, List.set_cons_zero, List.set_cons_succ]
              refine wpAnyF_take (i := 4) (v := qk) rfl (by kernel_rfl) (by kernel_rfl) (by kernel_rfl) (by kernel_rfl) (fun _ _ _ h => h) (Or.inl ⟨by rfl, ?_⟩) ⟨u0, u1⟩ ?_
              · rintro W ⟨y0, y1⟩
                go_simp
              try simp only [Act.put, List.setIfInBounds_toArray, List.set_cons_zero, List.set_cons_succ]
              refine wpAnyF_take (i := 5) (v := .int .i64 t) rfl (by kernel_rfl) (by kernel_rfl) (by kernel_rfl) (by kernel_rfl) (fun _ _ _ h => h) (Or.inl ⟨by rfl, ?_⟩) ⟨u0, u1⟩ ?_
              · rintro W ⟨y0, y1⟩
                go_simp
              try simp only [Act.put, List.setIfInBounds_toArray, List.set_cons_zero, List.set_cons_succ]
              refine wpAnyF_take (i := 6) (v := .pointer (some ⟨wx.heap.size, 3, none⟩)) rfl (by kernel_rfl) (by kernel_rfl) (by kernel_rfl) (by kernel_rfl) (fun _ _ _ h => h) (Or.inl ⟨by rfl, ?_⟩) ⟨u0, u1⟩ ?_
              · rintro W ⟨y0, y1⟩
                go_simp
              try simp only [Act.put, List.setIfInBounds_toArray, List.set_cons_zero, List.set_cons_succ]
              refine wpAnyF_take (i := 7) (v := .int .i64 dl) rfl (by kernel_rfl) (by kernel_rfl) (by kernel_rfl) (by kernel_rfl) (fun _ _ _ h => h) (Or.inl ⟨by rfl, ?_⟩) ⟨u0, u1⟩ ?_
              · rintro W ⟨y0, y1⟩
                go_simp
              try simp only [Act.put, List.setIfInBounds_toArray, List.set_cons_zero, List.set_cons_succ]
              refine wpAnyF_take (i := 8) (v := .int .i64 (t + dl)) rfl (by kernel_rfl) (by kernel_rfl) (by kernel_rfl) (by kernel_rfl) (fun _ _ _ h => h) (Or.inl ⟨by rfl, ?_⟩) ⟨u0, u1⟩ ?_
              · rintro W ⟨y0, y1⟩
                go_simp
              try simp only [Act.put, List.setIfInBounds_toArray, List.set_cons_zero, List.set_cons_succ]
              refine wpAnyF_take (i := 9) (v := .int .i64 k) rfl (by kernel_rfl) (by kernel_rfl) (by kernel_rfl) (by kernel_rfl) (fun _ _ _ h => h) (Or.inl ⟨by rfl, ?_⟩) ⟨u0, u1⟩ ?_
              · rintro W ⟨y0, y1⟩
                go_simp
              try simp only [Act.put, List.setIfInBounds_toArray, List.set_cons_zero, List.set_cons_succ]
              refine wpAnyF_take (i := 10) (v := .int .i64 v) rfl (by kernel_rfl) (by kernel_rfl) (by kernel_rfl) (by kernel_rfl) (fun _ _ _ h => h) (Or.inl ⟨by rfl, ?_⟩) ⟨u0, u1⟩ ?_
              · rintro W ⟨y0, y1⟩
                go_simp
              try simp only [Act.put, List.setIfInBounds_toArray, List.set_cons_zero, List.set_cons_succ]
              refine wpAnyF_take (i := 11) (v := .agg #[.int .i64 (t + dl), .int .i64 k, .int .i64 v]) rfl (by kernel_rfl) (by kernel_rfl) (by kernel_rfl) (by kernel_rfl) (fun _ _ _ h => h) (Or.inl ⟨by rfl, ?_⟩) ⟨u0, u1⟩ ?_
              · rintro W ⟨y0, y1⟩
                go_simp
              try simp only [Act.put, List.setIfInBounds_toArray, List.set_cons_zero, List.set_cons_succ]
              have hwcb : Below w5.heap.size w5 (w5.alloc (.cells #[.int .i64 (t + dl), .int .i64 k, .int .i64 v] 137)) := (Below.refl _ _).alloc (Nat.le_refl _) _
              have hszc : (w5.alloc (.cells #[.int .i64 (t + dl), .int .i64 k, .int .i64 v] 137)).heap.size = w5.heap.size + 1 := Array.size_push _
              have hqq : w0.heap.size ≤ (w5.alloc (.cells #[.int .i64 (t + dl), .int .i64 k, .int .i64 v] 137)).heap.size := by have h1 := HB5.out.size; rw [hszc]; omega
              have hown0 := HQ5.out.alloc (.cells #[.int .i64 (t + dl), .int .i64 k, .int .i64 v] 137)
              clear hszc
              have hrq : some gp ≠ qk.ownBlock := row_ne_blk HQ5.out HR5.out (by decide)
              have hxq : some wx.heap.size ≠ qk.ownBlock := row_ne_blk HQ5.out HX5.out (by decide)
              refine wpAnyF_one (i := 12) rfl (by kernel_rfl) (fun K hK => ?_)
              go_simp
              refine hK _ _ (fun _ => ⟨pw_cell_below hwcb u0, pw_cell_below hwcb u1⟩) ?_
              clear hK K
              try simp only [Act.put, List.setIfInBounds_toArray, List.set_cons_zero, List.set_cons_succ]
              refine wpAnyF_one (i := 13) rfl (by kernel_rfl) (fun K hK => ?_)
              refine step_append_lies _ (by rfl) _ _ _ (by rfl) w0.heap.size 137 i137 (.agg #[.int .i64 0, .int .i64 0, .int .i64 0]) 3 24 Try.underlying114 hi137 hz137 hs137 hb137 rfl (by omega) qk ql (flatS Sk.q) (by rfl) hown0 ⟨w5.heap.size, 0, none⟩ 1 1 [.int .i64 (t + dl), .int .i64 k, .int .i64 v] (by rfl) (by rfl) (World.news_of_block (cs := #[.int .i64 (t + dl), .int .i64 k, .int .i64 v]) (t := 137) (fr := (0, 0)) (heap_alloc_new w5 _)) (by simp [Value.oneCell']) Nat.one_pos (by simp only [maxLen]; omega) (by omega) hqq (w5.heap.size + 1) (Array.size_push _) ?_
              intro gg cap w6 hown1 hgrow hat hlt1
              have z0 := hgrow.cell (pw_cell_below hwcb u0) hrq
              have z1 := hgrow.cell (pw_cell_below hwcb u1) hxq
              have HR6 := Lib.hid (blk_grown (blk_below HR5.out hwcb) hgrow hrq)
              have zf := blk_frozen HR6.out 5
              refine hK _ _ (fun _ => ⟨z0, z1⟩) ?_
              clear hK K
              try simp only [Act.put, List.setIfInBounds_toArray, List.set_cons_zero, List.set_cons_succ]
              have HG6 := Lib.hid (World.grownBy.trans (World.grownBy_alloc w5 _ _) hgrow); clear hgrow
              have H1 := Lib.hid hown1; clear hown1
              have HAT : Hid ((Value.slice (some ⟨gg, 0, none⟩) (ql + 1) cap).ownBlock = qk.ownBlock ∨ ∃ b, (Value.slice (some ⟨gg, 0, none⟩) (ql + 1) cap).ownBlock = some b ∧ w5.heap.size ≤ b) := Lib.hid (by
                rcases hat with h | h
                · exact .inl h.symm
                · exact .inr ⟨gg, rfl, by omega⟩)
              clear hat u0 u1 hown0 hwcb
              refine wpAnyF_one (i := 14) rfl (by kernel_rfl) (fun K hK => ?_)
              go_simp
              refine hK _ _ (fun _ => ⟨z0, z1⟩) ?_
              clear hK K
              try simp only [Act.put, List.setIfInBounds_toArray, List.set_cons_zero, List.set_cons_succ]
              refine wpAnyF_one (i := 15) rfl (by kernel_rfl) (fun K hK => ?_)
              go_simp
              refine hK _ _ (fun _ => ⟨z0, z1⟩) ?_
              clear hK K
              try simp only [Act.put, List.setIfInBounds_toArray, List.set_cons_zero, List.set_cons_succ]
              refine wpAnyF_one (i := 16) rfl (by kernel_rfl) (fun K hK => ?_)
              go_simp
              refine hK _ _ (fun h => absurd rfl h) ?_
              clear hK K
              refine wpAnyF_done (by kernel_rfl) ?_ _
              obtain ⟨wz, hwz⟩ : ∃ wz, w6.setCell ⟨gp, 5, none⟩ (.slice (some ⟨gg, 0, none⟩) (ql + 1) cap) = wz := ⟨_, rfl⟩
              have HFIN : Hid (RAskSt w0.heap.size w wz gp nn gn gc (some ad) (.slice NA nn nc) (.slice (some ⟨gG, 0, none⟩) gn cG) DV QV EV ⟨Sk.gv, Sk.q ++ [⟨t + dl, k, v⟩], Sk.moved⟩) := Lib.hid (by
                rw [← hwz]
                exact RAskSt.sent (s := Sk) (e := ⟨t + dl, k, v⟩) HK5.out HR5.out HQLN.out HQ5.out HQB4.out HG5.out H1.out HG6.out HAT.out)
              rw [hwz]
              clear hwz
              go_wp2_with fail
              first
              | exact ⟨⟨k + 1, by omega, by go_num, by rw [HSN.out], by rw [HSN.out]; exact HFIN⟩, by simp [intOf]; omega⟩
              | (go_roundw; (case rel => exact ⟨k + 1, by omega, by go_num, by rw [HSN.out], by rw [HSN.out]; exact HFIN⟩); (case measure => simp [intOf]; omega))
            · have hdb : decide (0 < dl) = false := by simpa using hd
              have hgkd := own_get HG4.out k hlt
              obtain ⟨d0, f0⟩ := hgkd
              have HSN : Hid (askTo gs t al ch nets ⟨gv, q, false⟩ (k + 1) = ⟨Sk.gv.set k v, Sk.q, Sk.moved || (v != Sk.gv.getD k 0)⟩) := Lib.hid (HSUC.out.trans (by
                unfold askOne
                rw [HGK.out, if_pos HABV.out]
                show (if 0 < dl then _ else _) = _
                rw [if_neg hd, HV.out]))
              have HFIN := fun m => RAskSt.gate (k := k) (x := v) (m := m) HS4.out
              have HFIN := Lib.hid HFIN
              obtain ⟨x, hx⟩ : ∃ x, Sk.gv.getD k 0 = x := ⟨_, rfl⟩
              rw [hx] at HSN d0
              have HBN : Hid ((x != v) = (v != x)) := Lib.hid bne_comm
              obtain ⟨nb, hnb⟩ : ∃ nb, (v != x) = nb := ⟨_, rfl⟩
              rw [hnb] at HSN HBN
              have r3 : w4.cell? ⟨gp, 3, none⟩ = some (.slice (some ⟨gG, 0, none⟩) gn cG) := (blk_cell HR4.out 3).trans rfl
              have hxv := HBN.out
              clear hd hnb hx HS4 HBL4 HK4 HR4 HQ4 HG4 HBN
              cases hm : Sk.moved
              all_goals have HMV := Lib.hid hm
              all_goals clear hm
              all_goals
                go_wp2_with fail
                go_roundw
                case rel => exact ⟨k + 1, by omega, by go_num, by rw [HSN.out, HMV.out]; first | rfl | simp, by rw [HSN.out]; exact Lib.hid (HFIN.out _)⟩
                case measure => simp [intOf]; omega
    · have hlt2 : decide ((k : Int) < (gn : Int)) = false := by simp; omega
      obtain rfl : k = gn := by omega
      go_wp2_with fail
      go_ret
      exact ⟨rfl, hS.out⟩
end Go.Proofs.Ytobdhdehmkmjcaa
