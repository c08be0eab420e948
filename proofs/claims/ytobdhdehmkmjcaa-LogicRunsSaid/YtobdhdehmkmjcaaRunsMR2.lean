/- Words and walks for the row RowLogicRuns, put together: MR2. -/
import Derived.Test.YtobdhdehmkmjcaaRuns11
import Derived.StillTailTactics
namespace Go.Proofs.Ytobdhdehmkmjcaa
set_option linter.unusedVariables false
set_option linter.unusedSimpArgs false
open Go Go.RowKit Go.Proofs.YtobdhdehmkmjcaaW.PrintWords Go.Proofs.YtobdhdehmkmjcaaW.PrintLast

theorem own_setAny {W : World} {base g n cap : Nat} {e : TypeId} {size : Nat} {xs : List Value} (h : W.ownsRow base e size (.slice (some ⟨g, 0, none⟩) n cap) n xs) (j : Nat) (u : Value) : (W.setCell ⟨g, j, none⟩ u).ownsRow base e size (.slice (some ⟨g, 0, none⟩) n cap) n (xs.set j u) := by
  obtain ⟨h1, h2⟩ := h
  refine ⟨by rw [List.length_set]; exact h1, ?_⟩
  rcases h2 with ⟨h2, _⟩ | ⟨g', cap', cur, e1, hg, hh, hc, hm, hs, ht⟩
  · cases h2
  · injection e1 with e1 e2 e3
    injection e1 with e1
    injection e1 with e1
    subst e1 e3
    refine .inr ⟨g, cap, cur.setIfInBounds j u, rfl, hg, blk_set hh j u, hc, hm, by simpa using hs, ?_⟩
    rw [Array.toList_setIfInBounds, List.take_set, ht]
theorem flatD_set : ∀ (ds : List DriveL) (k : Nat) (m v : Int), ((flatD ds).set (k * 2) (.int .i64 m)).set (k * 2 + 1) (.int .i64 v) = flatD (ds.set k ⟨m, v⟩)
  | [], k, m, v => by simp [flatD]
  | d :: ds, 0, m, v => rfl
  | d :: ds, k + 1, m, v => by
    have ih := flatD_set ds k m v
    have e1 : flatD (d :: ds) = [.int .i64 d.net, .int .i64 d.v] ++ flatD ds := rfl
    have e2 : flatD ((d :: ds).set (k + 1) ⟨m, v⟩) = [.int .i64 d.net, .int .i64 d.v] ++ flatD (ds.set k ⟨m, v⟩) := rfl
    rw [e1, e2, ← ih, show (k + 1) * 2 = k * 2 + 2 by omega, show k * 2 + 2 + 1 = (k * 2 + 1) + 2 by omega]
    rfl
theorem any_succ' {α : Type} (d : α) {f : α → Bool} {l : List α} {k : Nat} (hk : k < l.length) : (l.take (k + 1)).any f = ((l.take k).any f || f (l.getD k d)) := by
  rw [List.take_succ_eq_append_getElem hk, List.any_append]
  simp [List.getD_eq_getElem?_getD, List.getElem?_eq_getElem hk]
/-- What a play's due leaves while the pulses are gone through. -/
def DueSt (B0 : Nat) (w wr : World) (gp nn gn gc : Nat) (GA : Option Addr) (NV GV DV QV EV : Value) (ds : List DriveL) (ov : List Int) (k : Nat) : Prop :=
  ∃ DV' ds', wr.heap[gp]? = some (.cells #[.int .i64 nn, .slice GA gn gc, NV, GV, DV', QV, EV] 116 (0, 0)) ∧ wr.ownsRow B0 85 2 DV' ds'.length (flatD ds') ∧ OvIs nn ds' ov ∧ ds'.length ≤ ds.length + k ∧
    KeptS (fun i => i = gp ∨ some i = DV.ownBlock) w wr ∧ (DV'.ownBlock = DV.ownBlock ∨ ∃ b, DV'.ownBlock = some b ∧ w.heap.size ≤ b)
section
variable {B0 : Nat} {w wr wq : World} {gp nn gn gc : Nat} {GA : Option Addr} {NV GV DV QV EV : Value} {ds : List DriveL} {ov : List Int} {k : Nat}
theorem DueSt.below (h : DueSt B0 w wr gp nn gn gc GA NV GV DV QV EV ds ov k) (hb : Below wr.heap.size wr wq) : DueSt B0 w wq gp nn gn gc GA NV GV DV QV EV ds ov k := by
  obtain ⟨DV', ds', h1, h2, h3, h4, h5, h6⟩ := h
  exact ⟨DV', ds', blk_below h1 hb, pw_own_below h2 hb, h3, h4, h5.trans (T := fun _ => False) (KeptS.of_below hb) (fun _ _ h => h.elim), h6⟩
theorem DueSt.drewN (h : DueSt B0 w wr gp nn gn gc GA NV GV DV QV EV ds ov k) (n : Nat) : DueSt B0 w (wr.drewN n) gp nn gn gc GA NV GV DV QV EV ds ov k := h.below (pw_below_drewN (Below.refl _ _) n)
end
theorem own_two {W : World} {base g n cap j : Nat} {e : TypeId} {xs : List Value} (h : W.ownsRow base e 2 (.slice (some ⟨g, 0, none⟩) n cap) n xs) (hj : j < n) : ∃ u0 u1, W.cell? ⟨g, j * 2, none⟩ = some u0 ∧ W.cell? ⟨g, j * 2 + 1, none⟩ = some u1 ∧ W.frozen? ⟨g, j * 2, none⟩ = false ∧ W.frozen? ⟨g, j * 2 + 1, none⟩ = false := by
  obtain ⟨h1, h2⟩ := h
  rcases h2 with ⟨h2, _⟩ | ⟨g', cap', cur, e1, hg, hh, hc, hm, hs, ht⟩
  · cases h2
  · injection e1 with e1 e2 e3
    injection e1 with e1
    injection e1 with e1
    subst e1 e3
    refine ⟨cur[j * 2]'(by omega), cur[j * 2 + 1]'(by omega), ?_, ?_, blk_frozen hh _, blk_frozen hh _⟩
    · rw [blk_cell hh]; exact Array.getElem?_eq_getElem (by omega)
    · rw [blk_cell hh]; exact Array.getElem?_eq_getElem (by omega)
/-- A drive is stored at its place. -/
theorem DueSt.put {B0 : Nat} {w wr : World} {gp nn gn gc g c L : Nat} {GA : Option Addr} {NV GV DV QV EV : Value} {ds dd : List DriveL} {ov : List Int} {k j : Nat} {m v : Int}
    (hr : wr.heap[gp]? = some (.cells #[.int .i64 nn, .slice GA gn gc, NV, GV, .slice (some ⟨g, 0, none⟩) L c, QV, EV] 116 (0, 0))) (ho : wr.ownsRow B0 85 2 (.slice (some ⟨g, 0, none⟩) L c) L (flatD dd)) (hL : dd.length = L)
    (hov : OvIs nn (dd.set j ⟨m, v⟩) ov) (hl : L ≤ ds.length + k) (hk : KeptS (fun i => i = gp ∨ some i = DV.ownBlock) w wr) (hb : some g = DV.ownBlock ∨ w.heap.size ≤ g) :
    DueSt B0 w ((wr.setCell ⟨g, j * 2, none⟩ (.int .i64 m)).setCell ⟨g, j * 2 + 1, none⟩ (.int .i64 v)) gp nn gn gc GA NV GV DV QV EV ds ov k := by
  have hne : gp ≠ g := fun e => own_ne ho hr (by decide) (by rw [e]; rfl)
  have h1 := own_setAny (own_setAny ho (j * 2) (.int .i64 m)) (j * 2 + 1) (.int .i64 v)
  rw [flatD_set] at h1
  have hS : ∀ (W : World) (p : Addr) (u : Value), p.block = g → KeptS (fun i => i = gp ∨ some i = DV.ownBlock) w W → KeptS (fun i => i = gp ∨ some i = DV.ownBlock) w (W.setCell p u) := fun W p u hp hW => hW.put (fun h => by
    rw [hp] at h ⊢
    rcases hb with hb | hb
    · exact .inr hb
    · omega) u
  refine ⟨_, dd.set j ⟨m, v⟩, blk_far (blk_far hr (p := ⟨g, j * 2, none⟩) hne _) (p := ⟨g, j * 2 + 1, none⟩) hne _, ?_, hov, by rw [List.length_set, hL]; exact hl, hS _ _ _ rfl (hS _ _ _ rfl hk), ?_⟩
  · rw [List.length_set, hL]; exact h1
  · rcases hb with hb | hb
    · exact .inl hb
    · exact .inr ⟨g, rfl, hb⟩
set_option maxHeartbeats 8000000 in
set_option maxRecDepth 100000 in
theorem rdue67_any (w0 w : World) (gp nn gn gc : Nat) (GA PA : Option Addr) (pn pc : Nat) (ps : List PulseL) (NV GV DV QV EV : Value) (t : Int) (gv ov : List Int) (ds : List DriveL) (q : List SentL)
    (hB : Below w0.heap.size w0 w) (hps : RdPulses w0 PA pn ps) (hp64 : pn ≤ 64) (hrb : w0.heap.size ≤ gp)
    (hr : w.heap[gp]? = some (.cells #[.int .i64 nn, .slice GA gn gc, NV, GV, DV, QV, EV] 116 (0, 0)))
    (hgv : w.ownsRow w0.heap.size 3 1 GV gn (nums .i64 gv)) (hd : w.ownsRow w0.heap.size 85 2 DV ds.length (flatD ds)) (hq : w.ownsRow w0.heap.size 137 3 QV q.length (flatS q))
    (hov : OvIs nn ds ov) (hgl : gv.length = gn) (hpo : ∀ k, k < pn → PulseOk nn (ps.getD k zPulse)) (hqo : QOk gn q) (hdl : ds.length ≤ 1000000) (hql : q.length ≤ 50000000) :
    Calls Try.prog 67 #[.pointer (some ⟨gp, 0, none⟩), .slice PA pn pc, .int .i64 t] w fun e w' => e = .returned (.bool (isDue t ps q)) ∧ ∃ DV' ds', w'.heap[gp]? = some (.cells #[.int .i64 nn, .slice GA gn gc, NV, GV, DV', QV, EV] 116 (0, 0)) ∧
      w'.ownsRow w0.heap.size 3 1 GV gn (nums .i64 (dueG t q gv)) ∧ w'.ownsRow w0.heap.size 85 2 DV' ds'.length (flatD ds') ∧ OvIs nn ds' (dueO t ps ov) ∧ ds'.length ≤ ds.length + 64 ∧ KeptS (fun i => i = gp ∨ some i = GV.ownBlock ∨ some i = DV.ownBlock) w w' ∧ (DV'.ownBlock = DV.ownBlock ∨ ∃ b, DV'.ownBlock = some b ∧ w.heap.size ≤ b) := by
  obtain ⟨i85, hi85, hz85, hs85, hb85⟩ := info_parts info85
  have hpm := hps.2.1
  have HPL := Lib.hid hps.1
  have HPS := Lib.hid hps; clear hps
  have HPO := Lib.hid hpo; clear hpo
  have HQO := Lib.hid hqo; clear hqo
  have HGL := Lib.hid hgl; clear hgl
  have hgw : gp < w.heap.size := blk_lt hr
  have HDS : Hid (DueSt w0.heap.size w w gp nn gn gc GA NV GV DV QV EV ds (dueO t (ps.take 0) ov) 0) := Lib.hid ⟨DV, ds, hr, hd, hov, Nat.le_refl _, KeptS.refl _ _, .inl rfl⟩
  have HR := Lib.hid hr; clear hr
  have HGV := Lib.hid hgv; clear hgv
  have HD := Lib.hid hd; clear hd
  have HQ := Lib.hid hq; clear hq
  have HB := Lib.hid hB; clear hB
  have HOV := Lib.hid hov; clear hov
  have HSB : Hid (∀ i, (i = gp ∨ some i = DV.ownBlock) → w0.heap.size ≤ i) := Lib.hid (by
    rintro i (h | h)
    · rw [h]; exact hrb
    · exact own_base HD.out i h.symm)
  go_enter Try.func67, Try.ntmps67
  go_wp2_with fail
  go_loopw [7, 8] (fun b i wr => ∃ k : Nat, k ≤ pn ∧ i = .int .i64 k ∧ b = .bool ((ps.take k).any fun p => decide (p.t = t)) ∧ Hid (DueSt w0.heap.size w wr gp nn gn gc GA NV GV DV QV EV ds (dueO t (ps.take k) ov) k)) (fun _ i _ => pn - (intOf i).toNat)
  case atStart => exact ⟨0, Nat.zero_le _, rfl, rfl, HDS⟩
  case round =>
    obtain ⟨k, hk, rfl, rfl, hS⟩ := hrel
    clear HDS
    obtain ⟨wx, rfl⟩ : ∃ wx : World, wx = wr := ⟨_, rfl⟩
    have HBX : Hid (Below w0.heap.size w0 wx) := Lib.hid (by
      obtain ⟨_, _, _, _, _, _, h5, _⟩ := hS.out
      exact HB.out.trans (h5.below HB.out.size HSB.out))
    by_cases hlt : k < pn
    · have hlt2 : decide ((k : Int) < (pn : Int)) = true := by simp; omega
      have hj0 : (0 : Int) ≤ (k : Int) := by omega
      have hj1 : (k : Int) < (pn : Int) := by omega
      have hkl : k < ps.length := by rw [HPL.out]; exact hlt
      obtain ⟨ad, rfl, q1, q2, q3⟩ := HPS.out.at_ k hlt
      obtain ⟨po0, po1, po2, po3⟩ := HPO.out k hlt
      have HAN := Lib.hid (any_succ' (f := fun p => decide (p.t = t)) zPulse hkl)
      have HSU := Lib.hid (dueO_succ (t := t) (ov := ov) hkl)
      clear hkl
      generalize ps.getD k zPulse = p at *
      obtain ⟨pt, pnet, pv⟩ := p
      simp only at q1 q2 q3 po0 po1 po2 po3
      have Q2 := Lib.hid q2
      have Q3 := Lib.hid q3
      replace q1 := pw_cell_below HBX.out q1
      replace q2 := pw_cell_below HBX.out q2
      replace q3 := pw_cell_below HBX.out q3
      obtain ⟨m, rfl⟩ := Int.eq_ofNat_of_zero_le po1
      generalize (ps.take k).any (fun p => decide (p.t = t)) = ba at *
      by_cases ht : pt = t
      · have htb : (pt != t) = false := by simpa using ht
        have HAN2 : Hid ((ps.take (k + 1)).any (fun p => decide (p.t = t)) = true) := Lib.hid (by rw [HAN.out]; simp [ht])
        have HSU2 : Hid (dueO t (ps.take (k + 1)) ov = (dueO t (ps.take k) ov).set m pv) := Lib.hid (by rw [HSU.out, if_pos ht]; rfl)
        obtain ⟨DV1, d1, hr1, ho1, hv1, hl1, hk1, hb1⟩ := hS.out
        obtain ⟨dl, hdl1⟩ : ∃ dl, d1.length = dl := ⟨_, rfl⟩
        rw [hdl1] at ho1
        obtain ⟨DA, dc, rfl⟩ := own_slice ho1
        have hdl2 : dl ≤ 1000064 := by omega
        have HR1 := Lib.hid hr1; clear hr1
        have HO1 := Lib.hid ho1; clear ho1
        have HV1 := Lib.hid hv1; clear hv1
        have HK1 := Lib.hid hk1; clear hk1
        have HB1 := Lib.hid hb1; clear hb1
        have HDL := Lib.hid hdl1
        have HL1 : Hid (dl ≤ ds.length + k) := Lib.hid (by omega)
        clear hdl1 ht hl1
        have r4x : wx.cell? ⟨gp, 4, none⟩ = some (.slice DA dl dc) := (blk_cell HR1.out 4).trans rfl
        have hgx : gp < wx.heap.size := blk_lt HR1.out
        go_wp2_with fail
        go_loopw [9] (fun i wr => ∃ j : Nat, j ≤ dl ∧ i = .int .i64 j ∧ Hid (Below wx.heap.size wx wr) ∧ Hid (∀ j', j' < j → (d1.getD j' zDrive).net ≠ (m : Int))) (fun i _ => dl - (intOf i).toNat)
        case atStart => exact ⟨0, Nat.zero_le _, rfl, Lib.hid (Below.refl _ _), Lib.hid (fun j' h => by omega)⟩
        case round =>
          obtain ⟨j, hj, rfl, hBy, hF⟩ := hrel
          obtain ⟨wy, rfl⟩ : ∃ wy : World, wy = wr := ⟨_, rfl⟩
          have r4 : wy.cell? ⟨gp, 4, none⟩ = some (.slice DA dl dc) := (blk_cell (blk_below HR1.out hBy.out) 4).trans rfl
          replace q2 := pw_cell_below hBy.out q2
          replace q3 := pw_cell_below hBy.out q3
          clear q1
          by_cases hlj : j < dl
          · have hlj2 : decide ((j : Int) < (dl : Int)) = true := by simp; omega
            have hx0 : (0 : Int) ≤ (j : Int) := by omega
            have hx1 : (j : Int) < (dl : Int) := by omega
            obtain ⟨A, c, e1, hc1, hrd⟩ := drow_reads (by rw [HDL.out]; exact pw_own_below HO1.out hBy.out) (by rw [HDL.out]; omega)
            rw [HDL.out] at e1 hrd
            injection e1 with e1 _ e3
            subst e1 e3
            obtain ⟨gD, dc', e1, _, _, _⟩ := own_cells HO1.out (by omega)
            injection e1 with e1 _ e3
            subst e1 e3
            obtain ⟨da, e1, g1, g2⟩ := hrd.at_ j hlj
            injection e1 with e1
            subst e1
            rw [add_plain] at g1
            clear g2 hrd hc1
            obtain ⟨dm, hdm⟩ : ∃ dm, (d1.getD j zDrive).net = dm := ⟨_, rfl⟩
            rw [hdm] at g1
            by_cases he : dm = (m : Int)
            · have heb : (dm != (m : Int)) = false := by simpa using he
              have HDM : Hid ((d1.getD j zDrive).net = (m : Int)) := Lib.hid (hdm.trans he)
              have hne : ((j : Int) == (dl : Int)) = false := by simp; omega
              clear hdm he
              go_wp2
              go_quiet (fail)
              have HWA : Hid (Below wx.heap.size wx (wy.drewN nq)) := Lib.hid (pw_below_drewN hBy.out _)
              have q2a : (wy.drewN nq).drew.cell? ⟨(ad.add (k * 3)).block, (ad.add (k * 3)).off + 1, none⟩ = some (.int .i64 m) := q2
              have q3a : (wy.drewN nq).drew.cell? ⟨(ad.add (k * 3)).block, (ad.add (k * 3)).off + 2, none⟩ = some (.int .i64 pv) := q3
              clear r4 r4x g1 q2 q3 hBy
              generalize wy.drewN nq = wa at *
              have HR2 := Lib.hid (blk_below HR1.out HWA.out)
              have HO2 := Lib.hid (pw_own_below HO1.out HWA.out)
              have r4a : wa.drew.cell? ⟨gp, 4, none⟩ = some (.slice (some ⟨gD, 0, none⟩) dl dc) := (blk_cell HR2.out 4).trans rfl
              obtain ⟨u0, u1, d0, _, f0, _⟩ := own_two HO2.out hlj
              obtain ⟨_, u3, _, d3, _, f3⟩ := own_two (own_setAny HO2.out (j * 2) (.int .i64 m)) hlj
              have d0a : wa.drew.cell? ⟨gD, j * 2, none⟩ = some u0 := d0
              have f0a : wa.drew.frozen? ⟨gD, j * 2, none⟩ = false := f0
              have d3a : (wa.drew.setCell ⟨gD, j * 2, none⟩ (.int .i64 m)).cell? ⟨gD, j * 2 + 1, none⟩ = some u3 := d3
              have f3a : (wa.drew.setCell ⟨gD, j * 2, none⟩ (.int .i64 m)).frozen? ⟨gD, j * 2 + 1, none⟩ = false := f3
              have r4b : wa.cell? ⟨gp, 4, none⟩ = some (.slice (some ⟨gD, 0, none⟩) dl dc) := r4a
              have HFIN : Hid (DueSt w0.heap.size w ((wa.drew.setCell ⟨gD, j * 2, none⟩ (.int .i64 m)).setCell ⟨gD, j * 2 + 1, none⟩ (.int .i64 pv)) gp nn gn gc GA NV GV DV QV EV ds (dueO t (ps.take (k + 1)) ov) (k + 1)) := Lib.hid (by
                refine DueSt.put (m := (m : Int)) (HR2.out : wa.drew.heap[gp]? = _) (pw_own_below HO2.out (pw_below_drewN (n := 1) (Below.refl _ _))) HDL.out ?_ (by have := HL1.out; omega) (HK1.out.trans (T := fun _ => False) (KeptS.of_below (pw_below_drewN (n := 1) HWA.out)) (fun _ _ h => h.elim)) ?_
                · rw [HSU2.out]
                  exact HV1.out.set_ (by rw [HDL.out]; exact hlj) HDM.out po3
                · rcases HB1.out with h | ⟨b, h, hb⟩
                  · exact .inl h
                  · exact .inr (by have h' : gD = b := Option.some.inj h; omega))
              clear d0 f0 d3 f3
              go_wp2_with fail
              go_still_tail 17, (by kernel_rfl)
              change wpList _ _ _ _ _ wa.drew
              generalize wa.drew = wb at *
              clear HR2 HO2 HWA
              go_wp2_with fail
              go_roundw
              case rel => exact ⟨k + 1, by omega, by go_num, by rw [HAN2.out], HFIN⟩
              case measure => simp [intOf]; omega
            · have heb : (dm != (m : Int)) = true := by simpa using he
              have HF2 : Hid (∀ j', j' < j + 1 → (d1.getD j' zDrive).net ≠ (m : Int)) := Lib.hid (fun j' h => by
                rcases Nat.lt_succ_iff_lt_or_eq.1 h with h2 | h2
                · exact hF.out j' h2
                · rw [h2, hdm]; exact he)
              clear hdm he
              go_wp2
              go_quiet (fail)
              go_wp2
              go_roundw
              case rel => exact ⟨j + 1, by omega, by go_num, Lib.hid (pw_below_drewN hBy.out _), HF2⟩
              case measure => simp [intOf]; omega
          · have hlj2 : decide ((j : Int) < (dl : Int)) = false := by simp; omega
            have hje : j = dl := by omega
            have heq : ((j : Int) == (dl : Int)) = true := by simp; omega
            go_wp2
            go_quiet (fail)
            have HWA : Hid (Below wx.heap.size wx (wy.drewN nq)) := Lib.hid (pw_below_drewN hBy.out _)
            have q2a : (wy.drewN nq).cell? ⟨(ad.add (k * 3)).block, (ad.add (k * 3)).off + 1, none⟩ = some (.int .i64 m) := q2
            have q3a : (wy.drewN nq).cell? ⟨(ad.add (k * 3)).block, (ad.add (k * 3)).off + 2, none⟩ = some (.int .i64 pv) := q3
            clear r4 r4x q2 q3 hBy
            generalize wy.drewN nq = wa at *
            subst hje
            have HR2 := Lib.hid (blk_below HR1.out HWA.out)
            have HO2 := Lib.hid (pw_own_below HO1.out HWA.out)
            have r4a : wa.cell? ⟨gp, 4, none⟩ = some (.slice DA j dc) := (blk_cell HR2.out 4).trans rfl
            have HBa : Hid (Below w0.heap.size w0 wa) := Lib.hid (HBX.out.trans (HWA.out.mono HBX.out.size))
            have HSZ := Lib.hid HBa.out.size
            clear q2a q3a
            go_wp2_with (at_builtin; refine print_append_cells (w0 := w0) (W := wa) w0.heap.size rfl (.tmp 60) (.tmp 62) 40 85 (.agg #[.int .i64 0, .int .i64 0]) 2 16 rfl Try.underlying40 info85 rfl (by omega) (by omega) (.slice DA j dc) j (flatD d1) [.int .i64 0, .int .i64 0] rfl rfl rfl (by simp [Value.oneCell']) HO2.out HBa.out HSZ.out (by omega) ?_; intro v1 w1 h1 hb1 hg1 hat; obtain ⟨gE, ec, rfl, _, _, _⟩ := own_cells h1 (by omega); have H1 := Lib.hid h1; clear h1; have HW1 := Lib.hid hb1; clear hb1; have HG1 := Lib.hid hg1; clear hg1; have HAT := Lib.hid hat; clear hat; have HR3 := Lib.hid (blk_grown HR2.out HG1.out (own_ne HO2.out HR2.out (by decide))); have k4 : w1.cell? ⟨gp, 4, none⟩ = some (.slice DA j dc) := (blk_cell HR3.out 4).trans rfl; have f4 := blk_frozen HR3.out 4)
            clear k4 f4 r4a
            obtain ⟨wb, hwb⟩ : ∃ wb, w1.setCell ⟨gp, 4, none⟩ (.slice (some ⟨gE, 0, none⟩) (j + 1) ec) = wb := ⟨_, rfl⟩
            rw [hwb]
            have HR4 : Hid (wb.heap[gp]? = some (.cells #[.int .i64 nn, .slice GA gn gc, NV, GV, .slice (some ⟨gE, 0, none⟩) (j + 1) ec, QV, EV] 116 (0, 0))) := Lib.hid (by rw [← hwb, blk_set HR3.out]; rfl)
            have HO4 : Hid (wb.ownsRow w0.heap.size 85 2 (.slice (some ⟨gE, 0, none⟩) (j + 1) ec) (j + 1) (flatD (d1 ++ [zDrive]))) := Lib.hid (by rw [← hwb, flatD_append]; exact own_setCell H1.out (p := ⟨gp, 4, none⟩) (own_ne H1.out HR3.out (by decide)) _)
            have HB4 : Hid (Below w0.heap.size w0 wb) := Lib.hid (by rw [← hwb]; exact HW1.out.trans ((KeptS.setCell (S := (· = gp)) (p := ⟨gp, 4, none⟩) rfl _).below HW1.out.size (fun i h => by rw [h]; exact hrb)))
            have HDB : Hid ((Value.slice DA j dc).ownBlock = DV.ownBlock ∨ ∃ b, (Value.slice DA j dc).ownBlock = some b ∧ w.heap.size ≤ b) := HB1
            have HK4 : Hid (KeptS (fun i => i = gp ∨ some i = DV.ownBlock) w wb) := Lib.hid (by
              rw [← hwb]
              refine KeptS.put (((HK1.out.trans (T := fun _ => False) (KeptS.of_below HWA.out) (fun _ _ h => h.elim)).trans (T := fun i => some i = (Value.slice DA j dc).ownBlock) (KeptS.grown HG1.out (fun q hq _ => hq.symm)) (fun i hi h => ?_))) (p := ⟨gp, 4, none⟩) (fun _ => .inl rfl) _
              rcases HDB.out with h2 | ⟨b, h2, hb⟩
              · exact .inr (by rw [h, h2])
              · rw [h2] at h
                have : i = b := Option.some.inj h
                omega)
            have HE4 : Hid (some gE = DV.ownBlock ∨ w.heap.size ≤ gE) := Lib.hid (by
              have hsz : w.heap.size ≤ wa.heap.size := Nat.le_trans HK1.out.size HWA.out.size
              rcases HAT.out with h | ⟨b, h, hb⟩
              · have h' : some gE = (Value.slice DA j dc).ownBlock := h
                rcases HDB.out with h2 | ⟨b, h2, hb⟩
                · exact .inl (by rw [h', h2])
                · rw [h2] at h'
                  exact .inr (by have : gE = b := Option.some.inj h'; omega)
              · exact .inr (by have : gE = b := Option.some.inj h; omega))
            have hlj : j < j + 1 := Nat.lt_succ_self j
            have hx0 : (0 : Int) ≤ (j : Int) := by omega
            have hx1 : (j : Int) < (j : Int) + 1 := by omega
            have hx2 : (j : Int) < ((j + 1 : Nat) : Int) := by omega
            clear hwb HG1 HW1 H1 HR3 HAT HR2 HO2 HWA HBa
            have q2b : wb.drew.cell? ⟨(ad.add (k * 3)).block, (ad.add (k * 3)).off + 1, none⟩ = some (.int .i64 m) := pw_cell_below HB4.out Q2.out
            have q3b : wb.drew.cell? ⟨(ad.add (k * 3)).block, (ad.add (k * 3)).off + 2, none⟩ = some (.int .i64 pv) := pw_cell_below HB4.out Q3.out
            have r4b : wb.drew.cell? ⟨gp, 4, none⟩ = some (.slice (some ⟨gE, 0, none⟩) (j + 1) ec) := (blk_cell HR4.out 4).trans rfl
            obtain ⟨u0, u1, d0, _, f0, _⟩ := own_two HO4.out hlj
            obtain ⟨_, u3, _, d3, _, f3⟩ := own_two (own_setAny HO4.out (j * 2) (.int .i64 m)) hlj
            have d0a : wb.drew.cell? ⟨gE, j * 2, none⟩ = some u0 := d0
            have f0a : wb.drew.frozen? ⟨gE, j * 2, none⟩ = false := f0
            have d3a : (wb.drew.setCell ⟨gE, j * 2, none⟩ (.int .i64 m)).cell? ⟨gE, j * 2 + 1, none⟩ = some u3 := d3
            have f3a : (wb.drew.setCell ⟨gE, j * 2, none⟩ (.int .i64 m)).frozen? ⟨gE, j * 2 + 1, none⟩ = false := f3
            have HFIN : Hid (DueSt w0.heap.size w ((wb.drew.setCell ⟨gE, j * 2, none⟩ (.int .i64 m)).setCell ⟨gE, j * 2 + 1, none⟩ (.int .i64 pv)) gp nn gn gc GA NV GV DV QV EV ds (dueO t (ps.take (k + 1)) ov) (k + 1)) := Lib.hid (by
              refine DueSt.put (dd := d1 ++ [zDrive]) (m := (m : Int)) (HR4.out : wb.drew.heap[gp]? = _) (pw_own_below HO4.out (pw_below_drewN (n := 1) (Below.refl _ _))) (by rw [List.length_append, HDL.out]; rfl) ?_ (by have := HL1.out; omega) (HK4.out.drew) HE4.out
              rw [HSU2.out, List.set_append_right _ _ (by rw [HDL.out]; exact Nat.le_refl _), HDL.out, Nat.sub_self]
              exact HV1.out.push (fun q hq => hF.out q (by rw [← HDL.out]; exact hq)) po1 po2 po3)
            clear d0 f0 d3 f3
            go_wp2_with fail
            go_still_tail 17, (by kernel_rfl)
            change wpList _ _ _ _ _ wb.drew
            generalize wb.drew = wc at *
            clear HR4 HO4 HB4 HK4
            go_wp2_with fail
            go_roundw
            case rel => exact ⟨k + 1, by omega, by go_num, by rw [HAN2.out], HFIN⟩
            case measure => simp [intOf]; omega
      · have htb : (pt != t) = true := by simpa using ht
        have HAN2 : Hid ((ps.take (k + 1)).any (fun p => decide (p.t = t)) = ba) := Lib.hid (by rw [HAN.out]; simp [ht])
        have HSU2 : Hid (dueO t (ps.take (k + 1)) ov = dueO t (ps.take k) ov) := Lib.hid (by rw [HSU.out, if_neg ht])
        clear ht
        go_wp2_with fail
        go_roundw
        case rel => exact ⟨k + 1, by omega, by go_num, by rw [HAN2.out], Lib.hid (by
          rw [HSU2.out]
          obtain ⟨DV', ds', h1, h2, h3, h4, h5⟩ := hS.out
          exact ⟨DV', ds', h1, h2, h3, by omega, h5⟩)⟩
        case measure => simp [intOf]; omega
    · have hlt2 : decide ((k : Int) < (pn : Int)) = false := by simp; omega
      have hS2 := hS.out
      rw [List.take_of_length_le (by rw [HPL.out]; omega : ps.length ≤ k)] at hS2
      have HPA : Hid ((ps.take k).any (fun p => decide (p.t = t)) = ps.any fun p => decide (p.t = t)) := Lib.hid (by rw [List.take_of_length_le (by rw [HPL.out]; omega)])
      rw [HPA.out]
      generalize hpa : (ps.any fun p => decide (p.t = t)) = pa
      have HPB := Lib.hid hpa; clear hpa HPA
      obtain ⟨DV1, d1, hr1, ho1, hv1, hl1, hk1, hb1⟩ := hS2
      have HO1 := Lib.hid ho1; clear ho1
      have HV1 := Lib.hid hv1; clear hv1
      have HB1 := Lib.hid hb1; clear hb1
      have HL1 : Hid (d1.length ≤ ds.length + 64) := Lib.hid (by omega)
      clear hl1
      obtain ⟨qn, hqn⟩ : ∃ qn, q.length = qn := ⟨_, rfl⟩
      have HQN := Lib.hid hqn
      have HQw := HQ.out
      rw [hqn] at hql HQw
      obtain ⟨QA, qc, rfl⟩ := own_slice HQw
      have HQw := Lib.hid HQw
      clear hqn HQ
      have HQK : Hid (∀ wr, KeptS (fun i => i = gp ∨ some i = GV.ownBlock ∨ some i = DV.ownBlock) w wr → wr.ownsRow w0.heap.size 137 3 (.slice QA qn qc) qn (flatS q)) := Lib.hid (fun wr hk => hk.own HQw.out (fun g hh h => by
        rcases h with e | e | e
        · exact own_ne HQw.out HR.out (by decide) (by rw [hh, e])
        · exact own_ne_own HGV.out HQw.out (by decide) hh e
        · exact own_ne_own HD.out HQw.out (by decide) hh e))
      have HK1 : Hid (KeptS (fun i => i = gp ∨ some i = GV.ownBlock ∨ some i = DV.ownBlock) w wx) := Lib.hid (hk1.mono (fun i hi h => by
        rcases h with h | h
        · exact .inl h
        · exact .inr (.inr h)))
      have HG1 : Hid (wx.ownsRow w0.heap.size 3 1 GV gn (nums .i64 (dueG t (q.take 0) gv))) := Lib.hid (hk1.own HGV.out (fun g hh h => by
        rcases h with e | e
        · exact own_ne HGV.out HR.out (by decide) (by rw [hh, e])
        · exact own_ne_own HD.out HGV.out (by decide) hh e))
      have HR1 := Lib.hid hr1; clear hr1 hk1
      have hpa0 : (Value.bool pa) = .bool (pa || (q.take 0).any fun e => decide (e.t = t)) := by simp
      go_wp2_with fail
      clear hlt2 hlt
      go_loopw [7, 10] (fun b i wr => ∃ k : Nat, k ≤ qn ∧ i = .int .i64 k ∧ b = .bool (pa || (q.take k).any fun e => decide (e.t = t)) ∧ Hid (wr.heap[gp]? = some (.cells #[.int .i64 nn, .slice GA gn gc, NV, GV, DV1, .slice QA qn qc, EV] 116 (0, 0))) ∧ Hid (wr.ownsRow w0.heap.size 85 2 DV1 d1.length (flatD d1)) ∧ Hid (KeptS (fun i => i = gp ∨ some i = GV.ownBlock ∨ some i = DV.ownBlock) w wr) ∧ Hid (wr.ownsRow w0.heap.size 3 1 GV gn (nums .i64 (dueG t (q.take k) gv)))) (fun _ i _ => qn - (intOf i).toNat)
      case atStart => exact ⟨0, Nat.zero_le _, rfl, hpa0, HR1, HO1, HK1, HG1⟩
      case round =>
        clear HR1 HO1 HK1 HG1 hpa0 hS HBX
        obtain ⟨j, hj, rfl, rfl, hR, hO, hK, hG⟩ := hrel
        obtain ⟨wy, rfl⟩ : ∃ wy : World, wy = wr := ⟨_, rfl⟩
        have r5 : wy.cell? ⟨gp, 5, none⟩ = some (.slice QA qn qc) := (blk_cell hR.out 5).trans rfl
        by_cases hltj : j < qn
        · have hltj2 : decide ((j : Int) < (qn : Int)) = true := by simp; omega
          have hx0 : (0 : Int) ≤ (j : Int) := by omega
          have hx1 : (j : Int) < (qn : Int) := by omega
          have hjl : j < q.length := by rw [HQN.out]; exact hltj
          obtain ⟨gQ, qc', e1, _, _, hcell⟩ := own_cells (HQK.out wy hK.out) (by omega)
          injection e1 with e1 _ e3
          subst e1 e3
          obtain ⟨k0, k1, k2⟩ := flatS_at j hjl
          have q0 := hcell _ _ k0
          have q1 := hcell _ _ k1
          have q2 := hcell _ _ k2
          clear k0 k1 k2 hcell
          have HAN := Lib.hid (any_succ' (f := fun e => decide (e.t = t)) zSent hjl)
          have HSU := Lib.hid (dueG_succ (t := t) (gv := gv) hjl)
          have hmem : q.getD j zSent ∈ q := by rw [List.getD_eq_getElem?_getD, List.getElem?_eq_getElem hjl]; exact List.getElem_mem _
          obtain ⟨m0, m1, m2⟩ := HQO.out _ hmem
          clear hjl hmem
          generalize q.getD j zSent = e at *
          obtain ⟨et, eg, ev⟩ := e
          simp only at q0 q1 q2 m0 m1 m2
          obtain ⟨m, rfl⟩ := Int.eq_ofNat_of_zero_le m0
          generalize (q.take j).any (fun e => decide (e.t = t)) = ba at *
          by_cases ht : et = t
          · have htb : (et == t) = true := by simpa using ht
            have HAN2 : Hid ((pa || (q.take (j + 1)).any (fun e => decide (e.t = t))) = true) := Lib.hid (by rw [HAN.out]; simp [ht])
            have HSU2 : Hid (dueG t (q.take (j + 1)) gv = (dueG t (q.take j) gv).set m ev) := Lib.hid (by rw [HSU.out, if_pos ht]; rfl)
            obtain ⟨gG, cG, rfl, _, _, _⟩ := own_cells hG.out (by omega)
            obtain ⟨d0, f0⟩ := own_get hG.out m (by omega)
            generalize (dueG t (q.take j) gv).getD m 0 = od at d0
            have y0 : (0 : Int) ≤ (m : Int) := by omega
            have y1 : (m : Int) < (gn : Int) := by omega
            have r3a : wy.drew.cell? ⟨gp, 3, none⟩ = some (.slice (some ⟨gG, 0, none⟩) gn cG) := (blk_cell hR.out 3).trans rfl
            have r5a : wy.drew.cell? ⟨gp, 5, none⟩ = some (.slice (some ⟨gQ, 0, none⟩) qn qc) := r5
            have q1a : wy.drew.cell? ⟨gQ, j * 3 + 1, none⟩ = some (.int .i64 m) := q1
            have q2a : wy.drew.cell? ⟨gQ, j * 3 + 2, none⟩ = some (.int .i64 ev) := q2
            have d0a : wy.drew.cell? ⟨gG, m, none⟩ = some (.int .i64 od) := d0
            have f0a : wy.drew.frozen? ⟨gG, m, none⟩ = false := f0
            have HRn : Hid ((wy.drew.setCell ⟨gG, m, none⟩ (.int .i64 ev)).heap[gp]? = some (.cells #[.int .i64 nn, .slice GA gn gc, NV, .slice (some ⟨gG, 0, none⟩) gn cG, DV1, .slice (some ⟨gQ, 0, none⟩) qn qc, EV] 116 (0, 0))) := Lib.hid (blk_far (hR.out : wy.drew.heap[gp]? = _) (p := ⟨gG, m, none⟩) (fun e => own_ne hG.out hR.out (by decide) (by rw [e]; rfl)) _)
            have HOn : Hid ((wy.drew.setCell ⟨gG, m, none⟩ (.int .i64 ev)).ownsRow w0.heap.size 85 2 DV1 d1.length (flatD d1)) := Lib.hid (own_setCell (pw_own_below hO.out (pw_below_drewN (n := 1) (Below.refl _ _))) (p := ⟨gG, m, none⟩) (own_ne_own hO.out hG.out (by decide) rfl) _)
            have HKn : Hid (KeptS (fun i => i = gp ∨ some i = (Value.slice (some ⟨gG, 0, none⟩) gn cG).ownBlock ∨ some i = DV.ownBlock) w (wy.drew.setCell ⟨gG, m, none⟩ (.int .i64 ev))) := Lib.hid (hK.out.drew.put (p := ⟨gG, m, none⟩) (fun _ => .inr (.inl rfl)) _)
            have HGn : Hid ((wy.drew.setCell ⟨gG, m, none⟩ (.int .i64 ev)).ownsRow w0.heap.size 3 1 (.slice (some ⟨gG, 0, none⟩) gn cG) gn (nums .i64 (dueG t (q.take (j + 1)) gv))) := Lib.hid (by
              rw [HSU2.out]
              exact own_put (pw_own_below hG.out (pw_below_drewN (n := 1) (Below.refl _ _))) m ev)
            clear ht d0 f0 hR hO hK hG
            go_wp2_with fail
            go_still_tail 21, (by kernel_rfl)
            change wpList _ _ _ _ _ wy.drew
            generalize wy.drew = wb at *
            go_wp2_with fail
            go_roundw
            case rel => exact ⟨j + 1, by omega, by go_num, by rw [HAN2.out], HRn, HOn, HKn, HGn⟩
            case measure => simp [intOf]; omega
          · have htb : (et == t) = false := by simpa using ht
            have HAN2 : Hid ((q.take (j + 1)).any (fun e => decide (e.t = t)) = ba) := Lib.hid (by rw [HAN.out]; simp [ht])
            have HSU2 : Hid (dueG t (q.take (j + 1)) gv = dueG t (q.take j) gv) := Lib.hid (by rw [HSU.out, if_neg ht])
            clear ht
            go_wp2_with fail
            go_roundw
            case rel => exact ⟨j + 1, by omega, by go_num, by rw [HAN2.out], hR, hO, hK, by rw [HSU2.out]; exact hG⟩
            case measure => simp [intOf]; omega
        · have hltj2 : decide ((j : Int) < (qn : Int)) = false := by simp; omega
          have HFI : Hid ((pa || (q.take j).any fun e => decide (e.t = t)) = isDue t ps q) := Lib.hid (by
            rw [← HPB.out, List.take_of_length_le (by rw [HQN.out]; omega)]
            rfl)
          have HGF : Hid (wy.ownsRow w0.heap.size 3 1 GV gn (nums .i64 (dueG t q gv))) := Lib.hid (by
            have h := hG.out
            rwa [List.take_of_length_le (by rw [HQN.out]; omega)] at h)
          go_wp2_with fail
          go_ret
          exact ⟨by rw [HFI.out]; rfl, DV1, d1, hR.out, HGF.out, hO.out, HV1.out, HL1.out, hK.out, HB1.out⟩
end Go.Proofs.Ytobdhdehmkmjcaa
