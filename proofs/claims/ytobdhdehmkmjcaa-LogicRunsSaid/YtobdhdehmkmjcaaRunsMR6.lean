/- Words and walks for the row RowLogicRuns, put together: MR6. -/
import Derived.Test.YtobdhdehmkmjcaaRunsMR5
import Derived.Test.YtobdhdehmkmjcaaRuns18
namespace Go.Proofs.Ytobdhdehmkmjcaa
set_option linter.unusedVariables false
set_option linter.unusedSimpArgs false
open Go Go.RowKit Go.Proofs.YtobdhdehmkmjcaaW.PrintWords Go.Proofs.YtobdhdehmkmjcaaW.PrintLast

/-- What the reference's Run answers. -/
def RRunRes (nets : Int) (gs : List GateL) (gn : Nat) (ps : List PulseL) (un : Int) (w w' : World) (e : Ending) : Prop :=
  ∃ r, (preR nets gs ps un ≠ 0 → r = .err (preR nets gs ps un)) ∧ (preR nets gs ps un = 0 → TR nets.toNat gs ps un 0 (S0 nets.toNat gn) r) ∧ runOut r w' e ∧ Below w.heap.size w w'
theorem RRunRes.err {nets : Int} {gs : List GateL} {gn : Nat} {ps : List PulseL} {un : Int} {w w' : World} {e : Ending} (x : Int) (h : preR nets gs ps un = x) (hx : x ≠ 0) (he : e = .returned (.tuple #[.slice none 0 0, .slice none 0 0, .int .i64 x])) (hb : Below w.heap.size w w') : RRunRes nets gs gn ps un w w' e :=
  ⟨.err x, fun _ => by rw [h], fun h0 => absurd (h.symm.trans h0) hx, he, hb⟩
theorem RRunRes.fin {nn gn : Nat} {gs : List GateL} {ps : List PulseL} {un : Int} {w wx : World} {ed : List EdgeL} {nets : List Int} {EA NA : Option Addr} {ec nc : Nat} {q : Nat} (h0 : preR (nn : Int) gs ps un = 0) (h : TR nn gs ps un 0 (S0 nn gn) (.ok ed nets)) (hl : nets.length = nn) (he : RdEdges wx EA ed.length ed) (hn : ReadsInt wx .i64 NA nn nets) (hB : Below w.heap.size w wx) :
    RRunRes (nn : Int) gs gn ps un w (wx.drewN q) (.returned (.tuple #[.slice EA ed.length ec, .slice NA nn nc, .int .i64 0])) := by
  refine ⟨.ok ed nets, fun h1 => absurd h0 h1, fun _ => h, ⟨EA, ec, NA, nc, by rw [hl], ?_, ?_⟩, pw_below_drewN hB q⟩
  · exact he
  · rw [hl]; exact hn
theorem RRunRes.err2 {nn gn : Nat} {gs : List GateL} {ps : List PulseL} {un : Int} {w wx : World} (x : Int) (h0 : preR (nn : Int) gs ps un = 0) (h : TR nn gs ps un 0 (S0 nn gn) (.err x)) (hB : Below w.heap.size w wx) :
    RRunRes (nn : Int) gs gn ps un w wx (.returned (.tuple #[.slice none 0 0, .slice none 0 0, .int .i64 x])) :=
  ⟨.err x, fun h1 => absurd h0 h1, fun _ => h, rfl, hB⟩
theorem dueG_not {t : Int} : ∀ {q : List SentL} {gv : List Int}, (q.any fun e => decide (e.t = t)) = false → dueG t q gv = gv
  | [], gv, _ => rfl
  | e :: q, gv, h => by
    rw [List.any_cons, Bool.or_eq_false_iff] at h
    show dueG t q (if e.t = t then gv.set e.gate.toNat e.v else gv) = gv
    rw [if_neg (by simpa using h.1)]
    exact dueG_not h.2
theorem dueO_not {t : Int} : ∀ {ps : List PulseL} {ov : List Int}, (ps.any fun p => decide (p.t = t)) = false → dueO t ps ov = ov
  | [], gv, _ => rfl
  | e :: q, gv, h => by
    rw [List.any_cons, Bool.or_eq_false_iff] at h
    show dueO t q (if e.t = t then gv.set e.net.toNat e.v else gv) = gv
    rw [if_neg (by simpa using h.1)]
    exact dueO_not h.2
theorem live_not {t : Int} {Q : List SentL} (h : (Q.any fun e => decide (e.t = t)) = false) : liveQ (t + 1) Q = liveQ t Q := by
  unfold liveQ
  apply List.filter_congr
  intro e he
  rw [List.any_eq_false] at h
  have := h e he
  rw [Bool.eq_iff_iff]
  simp only [decide_eq_true_eq] at this ⊢
  omega
theorem live_app {t : Int} {Q nw : List SentL} (h : ∀ e ∈ nw, t < e.t) : liveQ (t + 1) (Q ++ nw) = liveQ (t + 1) Q ++ nw := by
  unfold liveQ
  rw [List.filter_append]
  congr 1
  rw [List.filter_eq_self]
  intro e he
  have := h e he
  simp only [decide_eq_true_eq]
  omega
/-- The state of a play between two times. -/
structure PlayAt (nn gn : Nat) (t : Int) (S : TS) (ds : List DriveL) (Q : List SentL) : Prop where
  ov : OvIs nn ds S.ov
  vo : S.ov.all isVal = true
  good : GoodS nn gn ⟨S.gv, S.nets, Q⟩
  live : S.q = liveQ t Q
  ql : (Q.length : Int) ≤ 12180 * t
  dl : (ds.length : Int) ≤ 64 * t
  el : S.ed.length ≤ 60
theorem PlayAt.start (nn gn : Nat) : PlayAt nn gn 0 (S0 nn gn) [] [] :=
  ⟨OvIs.start nn, rep_val rfl, ⟨by simp [S0], rep_val rfl, by simp [S0], rep_val rfl, fun e he => by cases he⟩, rfl, by simp, by simp, by simp [S0]⟩
/-- What the rounds say of a time. -/
theorem time_bad {nn gn : Nat} {gs : List GateL} {ps : List PulseL} {un t : Int} {S : TS} {ds : List DriveL} {Q : List SentL} (h : PlayAt nn gn t S ds Q) (hle : t ≤ un) (hd : isDue t ps Q = true ∨ t ≤ 0) (hr : RunsR nn gs t (dueO t ps S.ov) [S.nets] true ⟨dueG t Q S.gv, S.nets, Q⟩ none) : TR nn gs ps un t S (.err 10) := by
  have h1 := runsR_split hr (dueQ t S.q)
  refine TR.bad hle (by rw [h.live, isDue_live]; exact hd) ?_
  unfold begS
  rw [h.live, dueG_live, ← h.live]
  exact h1
theorem time_some {nn gn : Nat} {gs : List GateL} {ps : List PulseL} {un t : Int} {S : TS} {ds : List DriveL} {Q : List SentL} {s : RS} (h : PlayAt nn gn t S ds Q) (hle : t ≤ un) (hd : isDue t ps Q = true ∨ t ≤ 0) (hr : RunsR nn gs t (dueO t ps S.ov) [S.nets] true ⟨dueG t Q S.gv, S.nets, Q⟩ (some s)) :
    ∃ q', liveQ (t + 1) s.q = q' ∧ (60 < (S.ed ++ edgesTo t S.nets s.nets nn).length → TR nn gs ps un t S (.err 3)) ∧ ((S.ed ++ edgesTo t S.nets s.nets nn).length ≤ 60 → ∀ r, TR nn gs ps un (t + 1) ⟨s.gv, dueO t ps S.ov, s.nets, q', S.ed ++ edgesTo t S.nets s.nets nn⟩ r → TR nn gs ps un t S r) := by
  obtain ⟨nw, e1, e2, e3⟩ := runsR_split hr (dueQ t S.q)
  have hb : RunsR nn gs t (dueO t ps S.ov) [S.nets] true (begS t S) (some ⟨s.gv, s.nets, dueQ t S.q ++ nw⟩) := by
    unfold begS
    have h2 : dueG t S.q S.gv = dueG t Q S.gv := by rw [h.live, dueG_live]
    rw [h2]
    exact e3
  have hd' : isDue t ps S.q = true ∨ t ≤ 0 := by rw [h.live, isDue_live]; exact hd
  refine ⟨dueQ t S.q ++ nw, ?_, fun h60 => TR.large hle hd' hb h60, fun h60 r hr2 => TR.go hle hd' hb h60 hr2⟩
  rw [e1, live_app e2, h.live, dueQ_live]
theorem PlayAt.skip {nn gn : Nat} {gs : List GateL} {ps : List PulseL} {un t : Int} {S : TS} {ds ds' : List DriveL} {Q : List SentL} (h : PlayAt nn gn t S ds Q) (hle : t ≤ un) (h0 : 0 < t) (hd : isDue t ps Q = false) (hov : OvIs nn ds' (dueO t ps S.ov)) (hdl : ds'.length ≤ ds.length + 64) : PlayAt nn gn (t + 1) S ds' Q ∧ dueG t Q S.gv = S.gv ∧ ∀ r, TR nn gs ps un (t + 1) S r → TR nn gs ps un t S r := by
  have hd2 := hd
  unfold isDue at hd2
  rw [Bool.or_eq_false_iff] at hd2
  rw [dueO_not hd2.1] at hov
  have h1 := h.ql
  have h2 := h.dl
  refine ⟨⟨hov, h.vo, h.good, by rw [h.live, live_not hd2.2], by omega, by omega, h.el⟩, dueG_not hd2.2, fun r hr => TR.skip hle (by rw [h.live, isDue_live]; exact hd) h0 hr⟩
theorem PlayAt.next {nn gn : Nat} {ps : List PulseL} {t : Int} {S : TS} {ds ds' : List DriveL} {Q : List SentL} {s : RS} (h : PlayAt nn gn t S ds Q) (hp : ∀ p ∈ ps, isVal p.v = true) (hov : OvIs nn ds' (dueO t ps S.ov)) (hdl : ds'.length ≤ ds.length + 64) (hs : GoodS nn gn s) (hq : s.q.length ≤ Q.length + 60 * 203) (he : (S.ed ++ edgesTo t S.nets s.nets nn).length ≤ 60) : PlayAt nn gn (t + 1) ⟨s.gv, dueO t ps S.ov, s.nets, liveQ (t + 1) s.q, S.ed ++ edgesTo t S.nets s.nets nn⟩ ds' s.q := by
  have h1 := h.ql
  have h2 := h.dl
  exact ⟨hov, dueO_val (nn := nn) hp h.vo, ⟨hs.lg, hs.vg, hs.ln, hs.vn, hs.qo⟩, rfl, by omega, by omega, he⟩
/-- A play while it is made. -/
theorem own_repl {W : World} {B0 : Nat} : W.ownsRow B0 3 1 (.slice none 0 0) 0 (nums .i64 (List.replicate 0 0)) := own_nil _ _ _ _
/-- What came due, in memory. -/
theorem PlaySt.due {B0 : Nat} {w w' : World} {gp nn gn gc : Nat} {GA : Option Addr} {NV GV DV QV EV DV' : Value} {nets gv gv' : List Int} {ds ds' : List DriveL} {q : List SentL} {ed : List EdgeL} (h : PlaySt B0 w gp nn gn gc GA NV GV DV QV EV nets gv ds q ed)
    (h1 : w'.heap[gp]? = some (.cells #[.int .i64 nn, .slice GA gn gc, NV, GV, DV', QV, EV] 116 (0, 0))) (h2 : w'.ownsRow B0 3 1 GV gn (nums .i64 gv')) (h3 : w'.ownsRow B0 85 2 DV' ds'.length (flatD ds')) (hk : KeptS (fun i => i = gp ∨ some i = GV.ownBlock ∨ some i = DV.ownBlock) w w') : PlaySt B0 w' gp nn gn gc GA NV GV DV' QV EV nets gv' ds' q ed := by
  obtain ⟨k1, k2, k3, k4, k5, k6, k7⟩ := h
  refine ⟨h1, hk.own k2 ?_, h2, h3, hk.own k5 ?_, hk.own k6 ?_, k7⟩
  · rintro g hh (e | e | e)
    · exact own_ne k2 k1 (by decide) (by rw [hh, e])
    · exact k7 g hh e.symm
    · exact own_ne_own k4 k2 (by decide) hh e
  · rintro g hh (e | e | e)
    · exact own_ne k5 k1 (by decide) (by rw [hh, e])
    · exact own_ne_own k3 k5 (by decide) hh e
    · exact own_ne_own k4 k5 (by decide) hh e
  · rintro g hh (e | e | e)
    · exact own_ne k6 k1 (by decide) (by rw [hh, e])
    · exact own_ne_own k3 k6 (by decide) hh e
    · exact own_ne_own k4 k6 (by decide) hh e
theorem PlaySt.kbase {B0 : Nat} {w : World} {gp nn gn gc : Nat} {GA : Option Addr} {NV GV DV QV EV : Value} {nets gv : List Int} {ds : List DriveL} {q : List SentL} {ed : List EdgeL} (h : PlaySt B0 w gp nn gn gc GA NV GV DV QV EV nets gv ds q ed) (hb : B0 ≤ gp) : ∀ i, (i = gp ∨ some i = GV.ownBlock ∨ some i = DV.ownBlock) → B0 ≤ i := by
  obtain ⟨h1, h2, h3, h4, h5, h6, h7⟩ := h
  rintro i (e | e | e)
  · rw [e]; exact hb
  · exact own_base h3 i e.symm
  · exact own_base h4 i e.symm
theorem RndOut.cases {nn gn gp gc : Nat} {gs : List GateL} {t : Int} {ov nets0 : List Int} {w0 w w' : World} {GA : Option Addr} {GV DV : Value} {ds : List DriveL} {ed : List EdgeL} {q0 : Nat} {e : Ending} {s0 : RS} (h : ∃ r, RunsR nn gs t ov [nets0] true s0 r ∧ RndOut w0.heap.size w w' gp nn gn gc GA GV DV ds ed nets0 t q0 r e ∧ Below w0.heap.size w0 w') :
    (RunsR nn gs t ov [nets0] true s0 none ∧ e = .returned (.int .i64 10) ∧ Below w0.heap.size w0 w') ∨ (∃ s, RunsR nn gs t ov [nets0] true s0 (some s) ∧ e = .returned (.int .i64 (if 60 < (ed ++ edgesTo t nets0 s.nets nn).length then 3 else 0)) ∧ GoodS nn gn s ∧ s.q.length ≤ q0 + 60 * 203 ∧ ∃ NV QV EV, PlaySt w0.heap.size w' gp nn gn gc GA NV GV DV QV EV s.nets s.gv ds s.q (ed ++ edgesTo t nets0 s.nets nn) ∧ Below w0.heap.size w0 w') := by
  obtain ⟨r, h1, h2, h3⟩ := h
  cases r with
  | none => exact .inl ⟨h1, h2, h3⟩
  | some s =>
    obtain ⟨k1, k2, k3, NV, QV, EV, k4⟩ := h2
    exact .inr ⟨s, h1, k1, k2, k3, NV, QV, EV, k4, h3⟩
set_option maxHeartbeats 16000000 in
set_option maxRecDepth 100000 in
theorem rrun33_any (nets : Int) (GA : Option Addr) (gn gc : Nat) (gs : List GateL) (PA : Option Addr) (pn pc : Nat) (ps : List PulseL) (un : Int) (w : World) (hg : RdGates w GA gn gs) (hps : RdPulses w PA pn ps) :
    Calls Try.prog 33 #[.agg #[.int .i64 nets, .slice GA gn gc], .slice PA pn pc, .int .i64 un] w fun e w' => RRunRes nets gs gn ps un w w' e := by
  have HGL := Lib.hid hg.1
  have HPL := Lib.hid hps.1
  have hB : Below w.heap.size w (w.alloc (.cells #[.int .i64 nets, .slice GA gn gc] 39)) := (Below.refl _ _).alloc (Nat.le_refl _) _
  have hbk : (w.alloc (.cells #[.int .i64 nets, .slice GA gn gc] 39)).heap[w.heap.size]? = some (.cells #[.int .i64 nets, .slice GA gn gc] 39 (0, 0)) := blk_new _ _
  have c0 : (w.alloc (.cells #[.int .i64 nets, .slice GA gn gc] 39)).cell? ⟨w.heap.size, 0, none⟩ = some (.int .i64 nets) := (blk_cell hbk 0).trans rfl
  have c1 : (w.alloc (.cells #[.int .i64 nets, .slice GA gn gc] 39)).cell? ⟨w.heap.size, 1, none⟩ = some (.slice GA gn gc) := (blk_cell hbk 1).trans rfl
  have HG1 := Lib.hid (hg.below hB)
  have HPS1 := Lib.hid (hps.below hB)
  have HB := Lib.hid hB; clear hB
  have HBK := Lib.hid hbk; clear hbk
  have HG := Lib.hid hg; clear hg
  have HPS := Lib.hid hps; clear hps
  go_enter Try.func33, Try.ntmps33
  go_wp2_with fail
  refine (rruns66_any _ _ _ _ _ _ _ _ _ _ _ HG1.out HPS1.out).mono ?_
  rintro e w1 ⟨rfl, hb1⟩
  have HBK1 := Lib.hid (blk_below HBK.out hb1)
  have HB1 := Lib.hid (HB.out.trans (hb1.mono HB.out.size))
  clear hb1 c0 c1 HBK HB HG1 HPS1
  by_cases hv : preR nets gs ps un = 0
  case neg =>
    have hb2 : (preR nets gs ps un != 0) = true := by simpa using hv
    obtain ⟨vv, hvv⟩ : ∃ vv, preR nets gs ps un = vv := ⟨_, rfl⟩
    have HV := Lib.hid hv; clear hv
    have HX := Lib.hid hvv
    rw [hvv] at hb2 HV ⊢
    clear hvv
    go_wp2_with fail
    go_ret3
    exact RRunRes.err _ HX.out HV.out rfl HB1.out
  obtain ⟨hvz, h64, hu0, hu1, hall, htw⟩ := preR_zero hv
  obtain ⟨v1, v2, v3, v4⟩ := validF_ok hvz
  obtain ⟨nn, rfl⟩ : ∃ nn : Nat, nets = (nn : Int) := ⟨nets.toNat, by omega⟩
  have HPRE := Lib.hid hv
  rw [hv]
  have HGO := Lib.hid v4
  have hn1 : 1 ≤ nn := by omega
  have hn40 : nn ≤ 40 := by omega
  have hg60 : gn ≤ 60 := by have := HGL.out; omega
  have hp64 : pn ≤ 64 := by have := HPL.out; omega
  have HPO : Hid (∀ k, k < pn → PulseOk nn (ps.getD k zPulse)) := Lib.hid (fun k hk => pulse_ok hall (by rw [HPL.out]; exact hk))
  have HPV : Hid (∀ p ∈ ps, isVal p.v = true) := Lib.hid (fun p hp => by
    have h := List.all_eq_true.1 hall p hp
    simp only [pulseB, Bool.and_eq_true] at h
    exact h.2)
  clear hv hvz h64 hall htw v1 v2 v3 v4
  have c0 : w1.cell? ⟨w.heap.size, 0, none⟩ = some (.int .i64 nn) := (blk_cell HBK1.out 0).trans rfl
  have c1 : w1.cell? ⟨w.heap.size, 1, none⟩ = some (.slice GA gn gc) := (blk_cell HBK1.out 1).trans rfl
  obtain ⟨gp, hgp⟩ : ∃ gp, w1.heap.size = gp := ⟨_, rfl⟩
  have hrb : w.heap.size ≤ gp := by rw [← hgp]; exact HB1.out.size
  obtain ⟨w2, hw2⟩ : ∃ w2, w1.alloc (.cells #[.int .i64 nn, .slice GA gn gc, .slice none 0 0, .slice none 0 0, .slice none 0 0, .slice none 0 0, .slice none 0 0] 116) = w2 := ⟨_, rfl⟩
  have HW2 := Lib.hid hw2
  have hb2 : Below w1.heap.size w1 w2 := by rw [← hw2]; exact (Below.refl _ _).alloc (Nat.le_refl _) _
  have HB2 := Lib.hid (HB1.out.trans (hb2.mono HB1.out.size))
  have HBK2 := Lib.hid (blk_below HBK1.out hb2)
  have HR2 : Hid (w2.heap[gp]? = some (.cells #[.int .i64 nn, .slice GA gn gc, .slice none 0 0, .slice none 0 0, .slice none 0 0, .slice none 0 0, .slice none 0 0] 116 (0, 0))) := Lib.hid (by rw [← hw2, ← hgp]; exact blk_new _ _)
  have HGP := Lib.hid hgp
  clear hb2 hw2 HB1 HBK1 hgp
  go_wp2_with fail
  rw [HGP.out, HW2.out]
  clear c0 c1
  have HN2 : Hid (w2.ownsRow w.heap.size 3 1 (.slice none 0 0) 0 (nums .i64 (List.replicate 0 0))) := Lib.hid own_repl
  go_loopw [11] (fun i wr => ∃ (k : Nat) (NV : Value), k ≤ nn ∧ i = .int .i64 k ∧ Hid (Below w.heap.size w wr) ∧ Hid (wr.heap[w.heap.size]? = some (.cells #[.int .i64 nn, .slice GA gn gc] 39 (0, 0))) ∧ Hid (wr.heap[gp]? = some (.cells #[.int .i64 nn, .slice GA gn gc, NV, .slice none 0 0, .slice none 0 0, .slice none 0 0, .slice none 0 0] 116 (0, 0))) ∧ Hid (wr.ownsRow w.heap.size 3 1 NV k (nums .i64 (List.replicate k 0)))) (fun i _ => nn - (intOf i).toNat)
  case atStart => exact ⟨0, _, Nat.zero_le _, rfl, HB2, HBK2, HR2, HN2⟩
  case round =>
    clear HB2 HBK2 HR2 HN2 HW2 HGP
    obtain ⟨k, NV, hk, rfl, hB, hBK, hR, hN⟩ := hrel
    obtain ⟨wx, rfl⟩ : ∃ wx : World, wx = wr := ⟨_, rfl⟩
    have c0 : wx.cell? ⟨w.heap.size, 0, none⟩ = some (.int .i64 nn) := (blk_cell hBK.out 0).trans rfl
    by_cases hlt : k < nn
    · have hlt2 : decide ((k : Int) < (nn : Int)) = true := by simp; omega
      have c2 : wx.cell? ⟨gp, 2, none⟩ = some NV := (blk_cell hR.out 2).trans rfl
      have HSZ := Lib.hid hB.out.size
      have hpg : gp < wx.heap.size := blk_lt hR.out
      go_wp2_with (at_builtin; go_must (refine print_append_cells (w0 := w) (W := wx) w.heap.size rfl (.tmp 36) (.tmp 37) 22 3 (.int .i64 0) 1 8 rfl Try.underlying22 info3 rfl (by omega) (by omega) NV k (nums .i64 (List.replicate k 0)) [.int .i64 0] rfl rfl rfl (by simp [Value.oneCell']) hN.out hB.out HSZ.out (by omega) ?_); intro v1 w3 h1 hb1 hg1 hat; obtain ⟨VA, vc, rfl⟩ := own_slice h1; have H1 := Lib.hid h1; clear h1 hat; have HB1 := Lib.hid hb1; clear hb1; have HG1 := Lib.hid hg1; clear hg1; have HR1 := Lib.hid (blk_grown hR.out HG1.out (own_ne hN.out hR.out (by decide))); have HK1 := Lib.hid (blk_grown hBK.out HG1.out (own_ne hN.out hBK.out (by decide))); have k2 : w3.cell? ⟨gp, 2, none⟩ = some NV := (blk_cell HR1.out 2).trans rfl; have f2 := blk_frozen HR1.out 2)
      obtain ⟨wz, hwz⟩ : ∃ wz, w3.setCell ⟨gp, 2, none⟩ (.slice VA (k + 1) vc) = wz := ⟨_, rfl⟩
      have HRn : Hid (wz.heap[gp]? = some (.cells #[.int .i64 nn, .slice GA gn gc, .slice VA (k + 1) vc, .slice none 0 0, .slice none 0 0, .slice none 0 0, .slice none 0 0] 116 (0, 0))) := Lib.hid (by rw [← hwz, blk_set HR1.out]; rfl)
      have HKn : Hid (wz.heap[w.heap.size]? = some (.cells #[.int .i64 nn, .slice GA gn gc] 39 (0, 0))) := Lib.hid (by rw [← hwz]; exact blk_far HK1.out (p := ⟨gp, 2, none⟩) (blk_ne HK1.out HR1.out (by decide)) _)
      have HBn : Hid (Below w.heap.size w wz) := Lib.hid (by rw [← hwz]; exact HB1.out.trans ((KeptS.setCell (S := (· = gp)) (p := ⟨gp, 2, none⟩) rfl _).below HB1.out.size (fun i h => by rw [h]; exact hrb)))
      have HNn : Hid (wz.ownsRow w.heap.size 3 1 (.slice VA (k + 1) vc) (k + 1) (nums .i64 (List.replicate (k + 1) 0))) := Lib.hid (by
        rw [← hwz, List.replicate_succ', nums_append]
        exact own_setCell H1.out (p := ⟨gp, 2, none⟩) (own_ne H1.out HR1.out (by decide)) _)
      rw [hwz]
      clear hwz
      go_roundw
      case rel => exact ⟨k + 1, _, by omega, by go_num, HBn, HKn, HRn, HNn⟩
      case measure => simp [intOf]; omega
    · have hlt2 : decide ((k : Int) < (nn : Int)) = false := by simp; omega
      have hkn : k = nn := by omega
      rw [hkn] at hN
      clear hk hkn
      have HG2 : Hid (wx.ownsRow w.heap.size 3 1 (.slice none 0 0) 0 (nums .i64 (List.replicate 0 0))) := Lib.hid own_repl
      have HNE0 : Hid (∀ g, NV.ownBlock = some g → (Value.slice none 0 0).ownBlock ≠ some g) := Lib.hid (fun g h e => by cases e)
      go_wp2_with fail
      clear hlt2 hlt c0
      go_loopw [12] (fun i wr => ∃ (k : Nat) (GV : Value), k ≤ gn ∧ i = .int .i64 k ∧ Hid (Below w.heap.size w wr) ∧ Hid (wr.heap[w.heap.size]? = some (.cells #[.int .i64 nn, .slice GA gn gc] 39 (0, 0))) ∧ Hid (wr.heap[gp]? = some (.cells #[.int .i64 nn, .slice GA gn gc, NV, GV, .slice none 0 0, .slice none 0 0, .slice none 0 0] 116 (0, 0))) ∧ Hid (wr.ownsRow w.heap.size 3 1 NV nn (nums .i64 (List.replicate nn 0))) ∧ Hid (wr.ownsRow w.heap.size 3 1 GV k (nums .i64 (List.replicate k 0))) ∧ Hid (∀ g, NV.ownBlock = some g → GV.ownBlock ≠ some g)) (fun i _ => gn - (intOf i).toNat)
      case atStart => exact ⟨0, _, Nat.zero_le _, rfl, hB, hBK, hR, hN, HG2, HNE0⟩
      case round =>
        clear hB hBK hR hN HG2 HNE0
        obtain ⟨k, GV, hk, rfl, hB, hBK, hR, hN, hG, hNE⟩ := hrel
        obtain ⟨wx, rfl⟩ : ∃ wx : World, wx = wr := ⟨_, rfl⟩
        have c1 : wx.cell? ⟨w.heap.size, 1, none⟩ = some (.slice GA gn gc) := (blk_cell hBK.out 1).trans rfl
        by_cases hlt : k < gn
        · have hlt2 : decide ((k : Int) < (gn : Int)) = true := by simp; omega
          have c2 : wx.cell? ⟨gp, 3, none⟩ = some GV := (blk_cell hR.out 3).trans rfl
          have HSZ := Lib.hid hB.out.size
          have hpg : gp < wx.heap.size := blk_lt hR.out
          go_wp2_with (at_builtin; go_must (refine print_append_cells (w0 := w) (W := wx) w.heap.size rfl (.tmp 52) (.tmp 53) 22 3 (.int .i64 0) 1 8 rfl Try.underlying22 info3 rfl (by omega) (by omega) GV k (nums .i64 (List.replicate k 0)) [.int .i64 0] rfl rfl rfl (by simp [Value.oneCell']) hG.out hB.out HSZ.out (by omega) ?_); intro v1 w3 h1 hb1 hg1 hat; obtain ⟨VA, vc, rfl⟩ := own_slice h1; have H1 := Lib.hid h1; clear h1; have HAT := Lib.hid hat; clear hat; have HB1 := Lib.hid hb1; clear hb1; have HG1 := Lib.hid hg1; clear hg1; have HR1 := Lib.hid (blk_grown hR.out HG1.out (own_ne hG.out hR.out (by decide))); have HK1 := Lib.hid (blk_grown hBK.out HG1.out (own_ne hG.out hBK.out (by decide))); have k2 : w3.cell? ⟨gp, 3, none⟩ = some GV := (blk_cell HR1.out 3).trans rfl; have f2 := blk_frozen HR1.out 3)
          obtain ⟨wz, hwz⟩ : ∃ wz, w3.setCell ⟨gp, 3, none⟩ (.slice VA (k + 1) vc) = wz := ⟨_, rfl⟩
          have HRn : Hid (wz.heap[gp]? = some (.cells #[.int .i64 nn, .slice GA gn gc, NV, .slice VA (k + 1) vc, .slice none 0 0, .slice none 0 0, .slice none 0 0] 116 (0, 0))) := Lib.hid (by rw [← hwz, blk_set HR1.out]; rfl)
          have HKn : Hid (wz.heap[w.heap.size]? = some (.cells #[.int .i64 nn, .slice GA gn gc] 39 (0, 0))) := Lib.hid (by rw [← hwz]; exact blk_far HK1.out (p := ⟨gp, 3, none⟩) (blk_ne HK1.out HR1.out (by decide)) _)
          have HBn : Hid (Below w.heap.size w wz) := Lib.hid (by rw [← hwz]; exact HB1.out.trans ((KeptS.setCell (S := (· = gp)) (p := ⟨gp, 3, none⟩) rfl _).below HB1.out.size (fun i h => by rw [h]; exact hrb)))
          have HNn : Hid (wz.ownsRow w.heap.size 3 1 (.slice VA (k + 1) vc) (k + 1) (nums .i64 (List.replicate (k + 1) 0))) := Lib.hid (by
            rw [← hwz, List.replicate_succ', nums_append]
            exact own_setCell H1.out (p := ⟨gp, 3, none⟩) (own_ne H1.out HR1.out (by decide)) _)
          have HMn : Hid (wz.ownsRow w.heap.size 3 1 NV nn (nums .i64 (List.replicate nn 0))) := Lib.hid (by
            have h3 : w3.ownsRow w.heap.size 3 1 NV nn (nums .i64 (List.replicate nn 0)) := own_other hN.out HG1.out (by
              cases hnb : NV.ownBlock with
              | none => exact .inl rfl
              | some g => exact .inr (fun e => hNE.out g hnb e.symm))
            rw [← hwz]
            exact own_setCell h3 (p := ⟨gp, 3, none⟩) (own_ne h3 HR1.out (by decide)) _)
          have HEn : Hid (∀ g, NV.ownBlock = some g → (Value.slice VA (k + 1) vc).ownBlock ≠ some g) := Lib.hid (fun g h e => by
            rcases HAT.out with h2 | ⟨b, h2, hb⟩
            · exact hNE.out g h (h2.symm.trans e)
            · have h3 := own_lt hN.out g h
              have : b = g := Option.some.inj (h2.symm.trans e)
              omega)
          rw [hwz]
          clear hwz
          go_roundw
          case rel => exact ⟨k + 1, _, by omega, by go_num, HBn, HKn, HRn, HMn, HNn, HEn⟩
          case measure => simp [intOf]; omega
        · have hlt2 : decide ((k : Int) < (gn : Int)) = false := by simp; omega
          have hkn : k = gn := by omega
          rw [hkn] at hG
          clear hk hkn
          have HPS0 : Hid (PlaySt w.heap.size wx gp nn gn gc GA NV GV (.slice none 0 0) (.slice none 0 0) (.slice none 0 0) (S0 nn gn).nets (S0 nn gn).gv [] [] (S0 nn gn).ed) := Lib.hid ⟨hR.out, hN.out, hG.out, own_nil _ _ _ _, own_nil _ _ _ _, own_nil _ _ _ _, hNE.out⟩
          have HPA0 := Lib.hid (PlayAt.start nn gn)
          have HTR0 : Hid (∀ r, TR nn gs ps un 0 (S0 nn gn) r → TR nn gs ps un 0 (S0 nn gn) r) := Lib.hid (fun r h => h)
          clear hBK hR hN hG hNE
          go_wp2_with fail
          clear hlt2 hlt c1
          go_loopw [13] (fun i wr => ∃ (t : Nat) (S : TS) (NV GV DV QV EV : Value) (ds : List DriveL) (Q : List SentL), (t : Int) ≤ un + 1 ∧ i = .int .i64 t ∧ Hid (Below w.heap.size w wr) ∧ Hid (PlaySt w.heap.size wr gp nn gn gc GA NV GV DV QV EV S.nets S.gv ds Q S.ed) ∧ Hid (PlayAt nn gn t S ds Q) ∧ Hid (∀ r, TR nn gs ps un t S r → TR nn gs ps un 0 (S0 nn gn) r)) (fun i _ => (un + 1 - intOf i).toNat)
          case atStart => exact ⟨0, S0 nn gn, _, _, _, _, _, [], [], by omega, rfl, hB, HPS0, HPA0, HTR0⟩
          case round =>
            clear hB HPS0 HPA0 HTR0
            obtain ⟨t, S, NV, GV, DV, QV, EV, ds, Q, htu, rfl, hB, hPS, hPA, hTR⟩ := hrel
            obtain ⟨wx, rfl⟩ : ∃ wx : World, wx = wr := ⟨_, rfl⟩
            by_cases hle : (t : Int) ≤ un
            · have hleb : decide ((t : Int) ≤ un) = true := by simpa using hle
              have hql : Q.length ≤ 40000000 := by have := hPA.out.ql; omega
              have hdl : ds.length ≤ 900000 := by have := hPA.out.dl; omega
              have HELX := Lib.hid hPA.out.el
              go_wp2_with fail
              refine (rdue67_any w wx gp nn gn gc GA PA pn pc ps NV GV DV QV EV t S.gv S.ov ds Q hB.out HPS.out hp64 hrb hPS.out.1 hPS.out.2.2.1 hPS.out.2.2.2.1 hPS.out.2.2.2.2.1 hPA.out.ov hPA.out.good.lg HPO.out hPA.out.good.qo (by omega) (by omega)).mono ?_
              rintro e w5 ⟨rfl, DV', ds', r1, r2, r3, r4, r5, r6, _⟩
              have HPS5 := Lib.hid (hPS.out.due r1 r2 r3 r6)
              have HB5 := Lib.hid (hB.out.trans (r6.below hB.out.size (hPS.out.kbase hrb)))
              have HOV5 := Lib.hid r4
              have HDL5 := Lib.hid r5
              clear r1 r2 r3 r4 r5 r6
              obtain ⟨du, hdu⟩ : ∃ du, isDue t ps Q = du := ⟨_, rfl⟩
              have HDU := Lib.hid hdu
              rw [hdu]
              clear hdu hPS
              by_cases hsk : du = false ∧ 0 < t
              · obtain ⟨rfl, ht0⟩ := hsk
                obtain ⟨hpa, hgv, htr⟩ := PlayAt.skip (gs := gs) hPA.out hle (by omega) HDU.out HOV5.out HDL5.out
                have HPAn : Hid (PlayAt nn gn ((t + 1 : Nat) : Int) S ds' Q) := Lib.hid hpa
                have HTRn : Hid (∀ r, TR nn gs ps un ((t + 1 : Nat) : Int) S r → TR nn gs ps un 0 (S0 nn gn) r) := Lib.hid (fun r h => hTR.out r (htr r h))
                rw [hgv] at HPS5
                clear hpa hgv htr
                have ht0b : decide ((0 : Int) < (t : Int)) = true := by simp; omega
                go_wp2_with fail
                first
                | (go_roundw; (case rel => exact ⟨t + 1, S, _, _, _, _, _, ds', Q, by omega, by go_num, HB5, HPS5, HPAn, HTRn⟩); (case measure => simp [intOf]; omega))
                | exact ⟨⟨t + 1, S, _, _, _, _, _, ds', Q, by omega, by go_num, HB5, HPS5, HPAn, HTRn⟩, by simp [intOf]; omega⟩
              · have HD2 : Hid (isDue t ps Q = true ∨ (t : Int) ≤ 0) := Lib.hid (by
                  rw [HDU.out]
                  cases du
                  · right
                    have h2 : ¬ 0 < t := fun h => hsk ⟨rfl, h⟩
                    omega
                  · exact .inl rfl)
                have HGD5 : Hid (GoodS nn gn ⟨dueG t Q S.gv, S.nets, Q⟩) := Lib.hid (by
                  have h := hPA.out.good
                  exact ⟨(dueG_len t Q S.gv).trans h.lg, dueG_val (gn := gn) h.qo h.vg, h.ln, h.vn, h.qo⟩)
                have HVO5 : Hid ((dueO t ps S.ov).all isVal = true) := Lib.hid (dueO_val (nn := nn) HPV.out hPA.out.vo)
                have hdl2 : ds'.length ≤ 1000000 := by have := HDL5.out; omega
                have ht0 : (0 : Int) ≤ (t : Int) := by omega
                have ht1 : (t : Int) ≤ 100000 := by omega
                have hx : ((!du) && decide (0 < t)) = false := by
                  cases du
                  · have h2 : ¬ 0 < t := fun h => hsk ⟨rfl, h⟩
                    simp; omega
                  · rfl
                cases du
                all_goals
                  first
                  | (have h2 : ¬ 0 < t := fun h => hsk ⟨rfl, h⟩; clear hsk hx)
                  | clear hsk hx
                  go_wp2_with fail
                  refine (rrounds68_any w w5 gp nn gn gc GA gs NV GV DV' QV EV t S.nets (dueG t Q S.gv) (dueO t ps S.ov) ds' Q S.ed HB5.out HG.out hrb HPS5.out HOV5.out HVO5.out HGD5.out HGO.out hn1 hn40 hg60 ht0 ht1 hql HELX.out hdl2).mono ?_
                  intro e w6 hx6
                  rcases RndOut.cases hx6 with ⟨hrun, rfl, hb6⟩ | ⟨s, hrun, rfl, hgd, hq6, NV6, QV6, EV6, hps6, hb6⟩
                  all_goals clear hx6
                  · have HTF : Hid (TR nn gs ps un 0 (S0 nn gn) (.err 10)) := Lib.hid (hTR.out _ (time_bad hPA.out hle HD2.out hrun))
                    have HB6 := Lib.hid hb6
                    clear hrun hb6
                    go_wp2_with fail
                    go_ret3
                    exact RRunRes.err2 10 HPRE.out HTF.out HB6.out
                  · obtain ⟨q', hq', hlarge, hgo⟩ := time_some hPA.out hle HD2.out hrun
                    have HB6 := Lib.hid hb6
                    have HPS6 := Lib.hid hps6
                    by_cases h60 : 60 < (S.ed ++ edgesTo t S.nets s.nets nn).length
                    · have HTF : Hid (TR nn gs ps un 0 (S0 nn gn) (.err 3)) := Lib.hid (hTR.out _ (hlarge h60))
                      rw [if_pos h60]
                      clear hrun hb6 hps6 hlarge hgo hq' h60
                      go_wp2_with fail
                      go_ret3
                      exact RRunRes.err2 3 HPRE.out HTF.out HB6.out
                    · have HPAn : Hid (PlayAt nn gn ((t + 1 : Nat) : Int) ⟨s.gv, dueO t ps S.ov, s.nets, liveQ ((t : Int) + 1) s.q, S.ed ++ edgesTo t S.nets s.nets nn⟩ ds' s.q) := Lib.hid (hPA.out.next HPV.out HOV5.out HDL5.out hgd hq6 (by omega))
                      have HTRn : Hid (∀ r, TR nn gs ps un ((t + 1 : Nat) : Int) ⟨s.gv, dueO t ps S.ov, s.nets, liveQ ((t : Int) + 1) s.q, S.ed ++ edgesTo t S.nets s.nets nn⟩ r → TR nn gs ps un 0 (S0 nn gn) r) := Lib.hid (fun r h => hTR.out r (hgo (by omega) r (by rw [← hq']; exact h)))
                      rw [if_neg h60]
                      clear hrun hb6 hps6 hlarge hgo hq' h60 hgd hq6
                      go_wp2_with fail
                      first
                      | (go_roundw; (case rel => exact ⟨t + 1, ⟨s.gv, dueO t ps S.ov, s.nets, liveQ ((t : Int) + 1) s.q, S.ed ++ edgesTo t S.nets s.nets nn⟩, _, _, _, _, _, ds', s.q, by omega, by go_num, HB6, HPS6, HPAn, HTRn⟩); (case measure => simp [intOf]; omega))
                      | exact ⟨⟨t + 1, ⟨s.gv, dueO t ps S.ov, s.nets, liveQ ((t : Int) + 1) s.q, S.ed ++ edgesTo t S.nets s.nets nn⟩, _, _, _, _, _, ds', s.q, by omega, by go_num, HB6, HPS6, HPAn, HTRn⟩, by simp [intOf]; omega⟩
            · have hleb : decide ((t : Int) ≤ un) = false := by simpa using hle
              have HTF : Hid (TR nn gs ps un 0 (S0 nn gn) (.ok S.ed S.nets)) := Lib.hid (hTR.out _ (TR.fin (by omega)))
              obtain ⟨k1, k2, k3, k4, k5, k6, k7⟩ := hPS.out
              obtain ⟨EA, ec, rfl, hE2⟩ := own_edges k6
              obtain ⟨NA, nc, rfl⟩ := own_slice k2
              have HE2 := Lib.hid hE2; clear hE2
              have HN2 := Lib.hid (own_reads' k2)
              have HLN := Lib.hid hPA.out.good.ln
              have r5 : wx.cell? ⟨gp, 6, none⟩ = some (.slice EA S.ed.length ec) := (blk_cell k1 6).trans rfl
              have r1 : wx.cell? ⟨gp, 2, none⟩ = some (.slice NA nn nc) := (blk_cell k1 2).trans rfl
              clear k1 k2 k3 k4 k5 k6 k7 hPS hPA hTR
              go_wp2_with fail
              go_quiet (fail)
              go_wp2
              go_ret3
              exact RRunRes.fin HPRE.out HTF.out HLN.out HE2.out HN2.out hB.out
end Go.Proofs.Ytobdhdehmkmjcaa
