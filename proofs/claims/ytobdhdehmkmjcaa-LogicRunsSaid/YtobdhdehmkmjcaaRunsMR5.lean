/- Words and walks for the row RowLogicRuns, put together: MR5. -/
import Derived.Test.YtobdhdehmkmjcaaRunsMR2
import Derived.Test.YtobdhdehmkmjcaaRunsMR4
import Derived.Test.YtobdhdehmkmjcaaRunsMB
namespace Go.Proofs.Ytobdhdehmkmjcaa
set_option linter.unusedVariables false
set_option linter.unusedSimpArgs false
open Go Go.RowKit Go.Proofs.YtobdhdehmkmjcaaW.PrintWords Go.Proofs.YtobdhdehmkmjcaaW.PrintLast

theorem SeenOk.kept2 {S : Nat → Prop} {W W' : World} {b : Nat} {v : Value} {L : List (List Int)} (h : SeenOk W b v L) (k : KeptS S W W') (hS : ∀ i, S i → i < b ∨ ∃ cs, W.heap[i]? = some (.cells cs 137 (0, 0))) : SeenOk W' b v L := by
  obtain ⟨h0, cs, h1, h2⟩ := h
  have key : ∀ {e : TypeId} {sz n : Nat} {u : Value} {xs : List Value}, e ≠ 137 → W.ownsRow b e sz u n xs → W'.ownsRow b e sz u n xs := by
    intro e sz n u xs he ho
    refine k.own ho (fun g hg hs => ?_)
    rcases hS g hs with h3 | ⟨cs', h3⟩
    · have := own_base ho g hg; omega
    · exact own_ne ho h3 he hg.symm
  exact ⟨h0, cs, key (by decide) h1, fun i hi => key (by decide) (h2 i hi)⟩
theorem own_blk137 {W : World} {b n : Nat} {v : Value} {xs : List Value} (h : W.ownsRow b 137 3 v n xs) {g : Nat} (hg : v.ownBlock = some g) : ∃ cs, W.heap[g]? = some (.cells cs 137 (0, 0)) := by
  rcases h.2 with ⟨rfl, _⟩ | ⟨g', cap, cur, rfl, _, hh, _⟩
  · cases hg
  · have : g' = g := Option.some.inj hg
    exact ⟨cur, by rw [← this]; exact hh⟩
/-- A play in memory. -/
def PlaySt (B0 : Nat) (wr : World) (gp nn gn gc : Nat) (GA : Option Addr) (NV GV DV QV EV : Value) (nets gv : List Int) (ds : List DriveL) (q : List SentL) (ed : List EdgeL) : Prop :=
  wr.heap[gp]? = some (.cells #[.int .i64 nn, .slice GA gn gc, NV, GV, DV, QV, EV] 116 (0, 0)) ∧ wr.ownsRow B0 3 1 NV nn (nums .i64 nets) ∧ wr.ownsRow B0 3 1 GV gn (nums .i64 gv) ∧ wr.ownsRow B0 85 2 DV ds.length (flatD ds) ∧ wr.ownsRow B0 137 3 QV q.length (flatS q) ∧ wr.ownsRow B0 58 3 EV ed.length (flatE ed) ∧
  (∀ g, NV.ownBlock = some g → GV.ownBlock ≠ some g)
theorem PlaySt.below {B0 : Nat} {w1 w2 : World} {gp nn gn gc : Nat} {GA : Option Addr} {NV GV DV QV EV : Value} {nets gv : List Int} {ds : List DriveL} {q : List SentL} {ed : List EdgeL} (h : PlaySt B0 w1 gp nn gn gc GA NV GV DV QV EV nets gv ds q ed) (hb : Below w1.heap.size w1 w2) : PlaySt B0 w2 gp nn gn gc GA NV GV DV QV EV nets gv ds q ed := by
  obtain ⟨h1, h2, h3, h4, h5, h6, h7⟩ := h
  exact ⟨blk_below h1 hb, pw_own_below h2 hb, pw_own_below h3 hb, pw_own_below h4 hb, pw_own_below h5 hb, pw_own_below h6 hb, h7⟩
theorem PlaySt.base {B0 : Nat} {w1 : World} {gp nn gn gc : Nat} {GA : Option Addr} {NV GV DV QV EV : Value} {nets gv : List Int} {ds : List DriveL} {q : List SentL} {ed : List EdgeL} (h : PlaySt B0 w1 gp nn gn gc GA NV GV DV QV EV nets gv ds q ed) (hb : B0 ≤ gp) : ∀ i, (i = gp ∨ some i = GV.ownBlock ∨ some i = QV.ownBlock) → B0 ≤ i := by
  obtain ⟨h1, h2, h3, h4, h5, h6, h7⟩ := h
  rintro i (e | e | e)
  · rw [e]; exact hb
  · exact own_base h3 i e.symm
  · exact own_base h5 i e.symm
/-- One edge more. -/
theorem PlaySt.edge {B0 : Nat} {W w1 : World} {gp nn gn gc el : Nat} {GA : Option Addr} {NV GV DV QV EV v1 : Value} {nets gv : List Int} {ds : List DriveL} {q : List SentL} {ed : List EdgeL} (e : EdgeL) (hl : ed.length = el) (h : PlaySt B0 W gp nn gn gc GA NV GV DV QV EV nets gv ds q ed)
    (k1 : w1.ownsRow B0 58 3 v1 (el + 1) (flatE ed ++ [.int .i64 e.t, .int .i64 e.net, .int .i64 e.v])) (hg : W.grownBy w1 EV.ownBlock) : PlaySt B0 (w1.setCell ⟨gp, 6, none⟩ v1) gp nn gn gc GA NV GV DV QV v1 nets gv ds q (ed ++ [e]) := by
  subst hl
  obtain ⟨h1, h2, h3, h4, h5, h6, h7⟩ := h
  have hb := blk_grown h1 hg (own_ne h6 h1 (by decide))
  have o2 := own_other h2 hg (own_type_ne h2 h6 (by decide))
  have o3 := own_other h3 hg (own_type_ne h3 h6 (by decide))
  have o4 := own_other h4 hg (own_type_ne h4 h6 (by decide))
  have o5 := own_other h5 hg (own_type_ne h5 h6 (by decide))
  refine ⟨by rw [blk_set hb]; rfl, own_setCell o2 (p := ⟨gp, 6, none⟩) (own_ne o2 hb (by decide)) _, own_setCell o3 (p := ⟨gp, 6, none⟩) (own_ne o3 hb (by decide)) _, own_setCell o4 (p := ⟨gp, 6, none⟩) (own_ne o4 hb (by decide)) _, own_setCell o5 (p := ⟨gp, 6, none⟩) (own_ne o5 hb (by decide)) _, ?_, h7⟩
  have := own_setCell k1 (p := ⟨gp, 6, none⟩) (own_ne k1 hb (by decide)) v1
  rw [List.length_append, flatE_append]
  exact this
/-- What the rounds keep: rows from before them that they do not write. -/
def RPl (B0 : Nat) (w wr : World) (gp nn gn gc : Nat) (GA : Option Addr) (NV GV DV QV EV qk : Value) (s : RS) (ds : List DriveL) (ed : List EdgeL) : Prop :=
  KeptS (fun i => i = gp ∨ some i = GV.ownBlock ∨ some i = QV.ownBlock) w wr ∧ PlaySt B0 wr gp nn gn gc GA NV GV DV qk EV s.nets s.gv ds s.q ed ∧ (qk.ownBlock = QV.ownBlock ∨ ∃ b, qk.ownBlock = some b ∧ w.heap.size ≤ b)
section
variable {B0 : Nat} {w wr wq : World} {gp nn gn gc : Nat} {GA : Option Addr} {NV GV DV QV EV qk : Value} {s : RS} {ds : List DriveL} {ed : List EdgeL}
theorem RPl.below (h : RPl B0 w wr gp nn gn gc GA NV GV DV QV EV qk s ds ed) (hb : Below wr.heap.size wr wq) : RPl B0 w wq gp nn gn gc GA NV GV DV QV EV qk s ds ed := by
  obtain ⟨h1, h2, h3⟩ := h
  exact ⟨h1.trans (T := fun _ => False) (KeptS.of_below hb) (fun _ _ h => h.elim), h2.below hb, h3⟩
theorem RPl.nets {X : Value} {x : List Int} (h : RPl B0 w wr gp nn gn gc GA NV GV DV QV EV qk s ds ed) (hx : wr.ownsRow B0 3 1 X nn (nums .i64 x)) (hX : ∀ g, X.ownBlock = some g → GV.ownBlock ≠ some g) : RPl B0 w (wr.setCell ⟨gp, 2, none⟩ X) gp nn gn gc GA X GV DV QV EV qk ⟨s.gv, x, s.q⟩ ds ed := by
  obtain ⟨h1, ⟨k1, k2, k3, k4, k5, k6, k7⟩, h3⟩ := h
  refine ⟨h1.put (p := ⟨gp, 2, none⟩) (fun _ => .inl rfl) _, ⟨by rw [blk_set k1]; rfl, own_setCell hx (p := ⟨gp, 2, none⟩) (own_ne hx k1 (by decide)) _, own_setCell k3 (p := ⟨gp, 2, none⟩) (own_ne k3 k1 (by decide)) _, own_setCell k4 (p := ⟨gp, 2, none⟩) (own_ne k4 k1 (by decide)) _, own_setCell k5 (p := ⟨gp, 2, none⟩) (own_ne k5 k1 (by decide)) _, own_setCell k6 (p := ⟨gp, 2, none⟩) (own_ne k6 k1 (by decide)) _, hX⟩, h3⟩
theorem RPl.ask {a : AskS} (h : RPl B0 w wr gp nn gn gc GA NV GV DV QV EV qk s ds ed) (k : RAskSt B0 wr wq gp nn gn gc GA NV GV DV qk EV a) : ∃ qk', RPl B0 w wq gp nn gn gc GA NV GV DV QV EV qk' ⟨a.gv, s.nets, a.q⟩ ds ed := by
  obtain ⟨h1, ⟨k1, k2, k3, k4, k5, k6, k7⟩, h3⟩ := h
  obtain ⟨m1, ⟨qk', m2, m3, m4⟩, m5⟩ := k
  refine ⟨qk', h1.trans m1 (fun i hi h => ?_), ⟨m2, m1.own k2 ?_, m5, m1.own k4 ?_, m3, m1.own k6 ?_, k7⟩, ?_⟩
  · rcases h with e | e | e
    · exact .inl e
    · exact .inr (.inl e)
    · rcases h3 with h3 | ⟨b, h3, hb⟩
      · exact .inr (.inr (by rw [e, h3]))
      · rw [h3] at e
        have : i = b := Option.some.inj e
        omega
  · rintro g hh (e | e | e)
    · exact own_ne k2 k1 (by decide) (by rw [hh, e])
    · exact k7 g hh e.symm
    · exact own_ne_own k5 k2 (by decide) hh e
  · rintro g hh (e | e | e)
    · exact own_ne k4 k1 (by decide) (by rw [hh, e])
    · exact own_ne_own k3 k4 (by decide) hh e
    · exact own_ne_own k5 k4 (by decide) hh e
  · rintro g hh (e | e | e)
    · exact own_ne k6 k1 (by decide) (by rw [hh, e])
    · exact own_ne_own k3 k6 (by decide) hh e
    · exact own_ne_own k5 k6 (by decide) hh e
  · rcases m4 with m4 | ⟨b, m4, hb⟩
    · rw [m4]; exact h3
    · exact .inr ⟨b, m4, Nat.le_trans h1.size hb⟩
/-- A row of the rounds' own is kept by asking. -/
theorem RPl.keep {a : AskS} {v : Value} {n : Nat} {xs : List Value} (h : RPl B0 w wr gp nn gn gc GA NV GV DV QV EV qk s ds ed) (k : RAskSt B0 wr wq gp nn gn gc GA NV GV DV qk EV a) (hgp : gp < w.heap.size) (hG : ∀ g, GV.ownBlock = some g → g < w.heap.size) (hv : wr.ownsRow w.heap.size 3 1 v n xs) : wq.ownsRow w.heap.size 3 1 v n xs := by
  obtain ⟨h1, ⟨k1, k2, k3, k4, k5, k6, k7⟩, h3⟩ := h
  refine k.1.own hv ?_
  have hb := own_base hv
  rintro g hh (e | e | e)
  · have := hb g hh; omega
  · have := hb g hh; have := hG g e.symm; omega
  · exact own_ne_own k5 hv (by decide) hh e
theorem RPl.seen {a : AskS} {v : Value} {L : List (List Int)} (h : RPl B0 w wr gp nn gn gc GA NV GV DV QV EV qk s ds ed) (k : RAskSt B0 wr wq gp nn gn gc GA NV GV DV qk EV a) (hgp : gp < w.heap.size) (hG : ∀ g, GV.ownBlock = some g → g < w.heap.size) (hv : SeenOk wr w.heap.size v L) : SeenOk wq w.heap.size v L := by
  obtain ⟨h1, ⟨k1, k2, k3, k4, k5, k6, k7⟩, h3⟩ := h
  refine hv.kept2 k.1 (fun i hi => ?_)
  rcases hi with e | e | e
  · left; omega
  · left; exact hG i e.symm
  · right; exact own_blk137 k5 e.symm
end
theorem drow_reads1 {W : World} {b : Nat} {v : Value} {ds : List DriveL} (h : W.ownsRow b 85 2 v ds.length (flatD ds)) : ∃ A c, v = .slice A ds.length c ∧ RdDrives W A ds.length ds := by
  cases ds with
  | nil =>
    obtain ⟨A, c, rfl⟩ := own_slice h
    exact ⟨A, c, rfl, rfl, by decide, fun h => absurd h (by decide)⟩
  | cons d ds =>
    obtain ⟨A, c, e, _, h2⟩ := drow_reads h (by simp)
    exact ⟨A, c, e, h2⟩
theorem SeenOk.cell {W : World} {b : Nat} {v : Value} {L : List (List Int)} (h : SeenOk W b v L) {p : Addr} (hp : p.block < b) (u : Value) : SeenOk (W.setCell p u) b v L :=
  h.kept2 (KeptS.setCell (S := (· = p.block)) (p := p) rfl u) (fun i hi => .inl (by have : i = p.block := hi; omega))
theorem RPl.grown {B0 : Nat} {w wr wq : World} {gp nn gn gc b n : Nat} {GA : Option Addr} {NV GV DV QV EV qk v : Value} {s : RS} {ds : List DriveL} {ed : List EdgeL} {cs : List Value} (h : RPl B0 w wr gp nn gn gc GA NV GV DV QV EV qk s ds ed) (hv : wr.ownsRow b 22 1 v n cs) (hb : w.heap.size ≤ b) (hg : wr.grownBy wq v.ownBlock) : RPl B0 w wq gp nn gn gc GA NV GV DV QV EV qk s ds ed := by
  obtain ⟨h1, ⟨k1, k2, k3, k4, k5, k6, k7⟩, h3⟩ := h
  exact ⟨h1.trans (T := fun i => w.heap.size ≤ i) (KeptS.grown hg (fun k hk _ => by have := own_base hv k hk; omega)) (fun i hi h => by omega), ⟨blk_grown k1 hg (row_ne_blk hv k1 (by decide)), own_other k2 hg (own_type_ne k2 hv (by decide)), own_other k3 hg (own_type_ne k3 hv (by decide)), own_other k4 hg (own_type_ne k4 hv (by decide)), own_other k5 hg (own_type_ne k5 hv (by decide)), own_other k6 hg (own_type_ne k6 hv (by decide)), k7⟩, h3⟩
theorem rnd_is {nn gn : Nat} {gs : List GateL} {t : Int} {ov : List Int} {al : Bool} {s : RS} {X : List Int} {ch : List Bool} (hX : netsOf nn gs s.gv ov = X) (hc : changedOf nn X s.nets = ch) (hg : gs.length = gn) :
    rndS nn gs t ov al s = ⟨(askTo gs t al ch X ⟨s.gv, s.q, false⟩ gn).gv, X, (askTo gs t al ch X ⟨s.gv, s.q, false⟩ gn).q⟩ ∧ rndMov nn gs t ov al s = (askTo gs t al ch X ⟨s.gv, s.q, false⟩ gn).moved := by
  subst hX hc hg
  exact ⟨rfl, rfl⟩
theorem runs_no {nn : Nat} {gs : List GateL} {t : Int} {ov : List Int} {seen : List (List Int)} {first : Bool} {s : RS} {r : Option RS} (ha : rndAny nn gs ov s = false) (hl : seen.length ≤ 101) (hm : rndMov nn gs t ov (decide (t = 0) && first) s = true) (h : RunsR nn gs t ov seen false (rndS nn gs t ov (decide (t = 0) && first) s) r) : RunsR nn gs t ov seen first s r :=
  RunsR.go (fun h => by rw [ha] at h; cases h.1) (by unfold seenR; rw [ha]; exact hl) (.inr hm) (by unfold seenR; rw [ha]; exact h)
theorem runs_yes {nn : Nat} {gs : List GateL} {t : Int} {ov : List Int} {seen : List (List Int)} {first : Bool} {s : RS} {X : List Int} {r : Option RS} (hX : netsOf nn gs s.gv ov = X) (ha : rndAny nn gs ov s = true) (hmem : memB seen X = false) (hl : seen.length + 1 ≤ 101) (h : RunsR nn gs t ov (seen ++ [X]) false (rndS nn gs t ov (decide (t = 0) && first) s) r) : RunsR nn gs t ov seen first s r := by
  subst hX
  exact RunsR.go (fun h => by rw [hmem] at h; cases h.2) (by unfold seenR; rw [ha]; simp; omega) (.inl ha) (by unfold seenR; rw [ha]; exact h)
theorem runs_stop {nn : Nat} {gs : List GateL} {t : Int} {ov : List Int} {seen : List (List Int)} {first : Bool} {s : RS} (ha : rndAny nn gs ov s = false) (hl : seen.length ≤ 101) (hm : rndMov nn gs t ov (decide (t = 0) && first) s = false) : RunsR nn gs t ov seen first s (some (rndS nn gs t ov (decide (t = 0) && first) s)) :=
  RunsR.stop (by unfold seenR; rw [ha]; exact hl) ha hm
theorem runs_bad2 {nn : Nat} {gs : List GateL} {t : Int} {ov : List Int} {seen : List (List Int)} {first : Bool} {s : RS} (ha : rndAny nn gs ov s = true) (hl : 101 < seen.length + 1) : RunsR nn gs t ov seen first s none :=
  RunsR.bad2 (by unfold seenR; rw [ha]; simp; omega)
theorem mov_first {nn : Nat} {gs : List GateL} {t : Int} {ov : List Int} {first : Bool} {s : RS} (hg : gs.all (gateOk nn) = true) (ha : rndAny nn gs ov s = false) (hm : rndMov nn gs t ov (decide (t = 0) && first) s = true) : first = true := by
  cases first
  · rw [Bool.and_false, mov_none hg ha] at hm; cases hm
  · rfl
def fstOf : Value → Nat
  | .bool true => 1
  | _ => 0
def lenOf2 : Value → Nat
  | .slice _ n _ => n
  | _ => 0
/-- What the rounds answer and leave. -/
def RndOut (B0 : Nat) (w w' : World) (gp nn gn gc : Nat) (GA : Option Addr) (GV DV : Value) (ds : List DriveL) (ed : List EdgeL) (nets0 : List Int) (t : Int) (q0 : Nat) (r : Option RS) (e : Ending) : Prop :=
  match r with
  | none => e = .returned (.int .i64 10)
  | some s => e = .returned (.int .i64 (if 60 < (ed ++ edgesTo t nets0 s.nets nn).length then 3 else 0)) ∧ GoodS nn gn s ∧ s.q.length ≤ q0 + 60 * 203 ∧ ∃ NV QV EV, PlaySt B0 w' gp nn gn gc GA NV GV DV QV EV s.nets s.gv ds s.q (ed ++ edgesTo t nets0 s.nets nn)
set_option maxHeartbeats 16000000 in
set_option maxRecDepth 100000 in
theorem rrounds68_any (w0 w : World) (gp nn gn gc : Nat) (GA : Option Addr) (gs : List GateL) (NV GV DV QV EV : Value) (t : Int) (nets gv ov : List Int) (ds : List DriveL) (q : List SentL) (ed : List EdgeL)
    (hB : Below w0.heap.size w0 w) (hg : RdGates w0 GA gn gs) (hrb : w0.heap.size ≤ gp) (hp : PlaySt w0.heap.size w gp nn gn gc GA NV GV DV QV EV nets gv ds q ed)
    (hov : OvIs nn ds ov) (hvo : ov.all isVal = true) (hgood : GoodS nn gn ⟨gv, nets, q⟩)
    (hgo : gs.all (gateOk nn) = true) (h1 : 1 ≤ nn) (h40 : nn ≤ 40) (hg60 : gn ≤ 60) (ht0 : 0 ≤ t) (ht1 : t ≤ 100000) (hql : q.length ≤ 40000000) (hel : ed.length ≤ 60) (hdl : ds.length ≤ 1000000) :
    Calls Try.prog 68 #[.pointer (some ⟨gp, 0, none⟩), .int .i64 t] w fun e w' => ∃ r, RunsR nn gs t ov [nets] true ⟨gv, nets, q⟩ r ∧ RndOut w0.heap.size w w' gp nn gn gc GA GV DV ds ed nets t q.length r e ∧ Below w0.heap.size w0 w' := by
  obtain ⟨i58, hi58, hz58, hs58, hb58⟩ := info_parts info58
  have hgw : gp < w.heap.size := blk_lt hp.1
  have hGW : ∀ g, GV.ownBlock = some g → g < w.heap.size := own_lt hp.2.2.1
  obtain ⟨hp1, hp2, hp3, hp4, hp5, hp6, hp7⟩ := hp
  obtain ⟨NA, nc, rfl⟩ := own_slice hp2
  obtain ⟨VA, vc, rfl⟩ := own_slice hp3
  obtain ⟨dn, hdn⟩ : ∃ dn, ds.length = dn := ⟨_, rfl⟩
  have HDN := Lib.hid hdn
  have hp4' := hp4
  rw [hdn] at hp4'
  obtain ⟨DA, dc, rfl⟩ := own_slice hp4'
  clear hp4' hdn
  have HRN := Lib.hid (own_reads' hp2)
  have HPL : Hid (RPl w0.heap.size w w gp nn gn gc GA (.slice NA nn nc) (.slice VA gn vc) (.slice DA dn dc) QV EV QV ⟨gv, nets, q⟩ ds ed) := Lib.hid ⟨KeptS.refl _ _, ⟨hp1, hp2, hp3, hp4, hp5, hp6, hp7⟩, .inl rfl⟩
  have r2 : w.cell? ⟨gp, 2, none⟩ = some (.slice NA nn nc) := (blk_cell hp1 2).trans rfl
  have HBASE : Hid (∀ wr NV' qk s, RPl w0.heap.size w wr gp nn gn gc GA NV' (.slice VA gn vc) (.slice DA dn dc) QV EV qk s ds ed → Below w0.heap.size w0 wr) := Lib.hid (fun wr NV' qk s h => hB.trans (h.1.below hB.size (fun i hi => by
    rcases hi with e | e | e
    · rw [e]; exact hrb
    · exact own_base hp3 i e.symm
    · exact own_base hp5 i e.symm)))
  have HGL := Lib.hid hg.1
  have HG := Lib.hid hg; clear hg
  have HGO := Lib.hid hgo; clear hgo
  have HGW := Lib.hid hGW; clear hGW
  have HOV := Lib.hid hov; clear hov
  have HVO := Lib.hid hvo; clear hvo
  have HGD := Lib.hid hgood; clear hgood
  have HLN := Lib.hid HGD.out.ln
  have HB := Lib.hid hB; clear hB
  have HNIL : Hid (w.ownsRow w.heap.size 3 1 (.slice none 0 0) ([] : List Int).length (nums .i64 [])) := Lib.hid (own_nil _ _ _ _)
  have HBW : Hid (Below w.heap.size w w) := Lib.hid (Below.refl _ _)
  have HLE : Hid (w.heap.size ≤ w.heap.size) := Lib.hid (Nat.le_refl _)
  have HL2 := Lib.hid (show (([] : List Int).length + nn) * 8 ≤ 140737488355328 by simp; omega)
  clear hp1 hp2 hp3 hp4 hp5 hp6 hp7
  go_enter Try.func68, Try.ntmps68
  go_wp2_with (at_builtin; go_must (refine print_append_row w.heap.size rfl (.const (.slice none 0 0)) (.tmp 16) 22 3 .i64 8 rfl Try.underlying22 info3 (by decide) _ [] nets NA nn nc rfl rfl HNIL.out HRN.out HBW.out HLE.out HL2.out ?_); intro q1 wv hq1 hq2 hq3 _; obtain ⟨BA, bc, rfl⟩ := own_slice hq1; have HO1 := Lib.hid hq1; clear hq1; have HB2 := Lib.hid hq2; clear hq2 hq3)
  have HO1' : Hid (wv.ownsRow w.heap.size 3 1 (.slice BA nets.length bc) nets.length (nums .i64 nets)) := HO1
  clear HO1
  rw [HLN.out]
  rw [HLN.out] at HO1'
  have HWA : Hid (Below w.heap.size w (wv.alloc (.cells #[.slice BA nn bc] 22))) := Lib.hid (HB2.out.alloc HB2.out.size _)
  have HSE : Hid (SeenOk (wv.alloc (.cells #[.slice BA nn bc] 22)) w.heap.size (.slice (some ⟨wv.heap.size, 0, none⟩) 1 1) [nets]) := Lib.hid (seen_new wv w.heap.size _ nets HB2.out.size (by rw [HLN.out]; exact HO1'.out))
  have HPL1 := Lib.hid (HPL.out.below HWA.out)
  have HBR1 : Hid ((wv.alloc (.cells #[.slice BA nn bc] 22)).ownsRow w.heap.size 3 1 (.slice BA nn bc) nn (nums .i64 nets)) := Lib.hid (HO1'.out.alloc _)
  have HQ0 : Hid (q.length + 60 * (2 * (102 - [nets].length) + fstOf (.bool true)) ≤ q.length + 60 * 203) := Lib.hid (Nat.le_refl _)
  clear HPL HO1' HB2 r2 HNIL HBW HLE HL2
  go_wp2_with fail
  go_loopw [6, 7] (fun sv fv wr => ∃ (seen : List (List Int)) (first : Bool) (s : RS) (NV' qk : Value) (AS : Option Addr) (sl cS : Nat), sv = .slice AS sl cS ∧ fv = .bool first ∧ Hid (SeenOk wr w.heap.size sv seen) ∧ Hid (RPl w0.heap.size w wr gp nn gn gc GA NV' (.slice VA gn vc) (.slice DA dn dc) QV EV qk s ds ed) ∧ Hid (wr.ownsRow w.heap.size 3 1 (.slice BA nn bc) nn (nums .i64 nets)) ∧ Hid (∀ r, RunsR nn gs t ov seen first s r → RunsR nn gs t ov [nets] true ⟨gv, nets, q⟩ r) ∧ Hid (GoodS nn gn s) ∧ sl ≤ 101 ∧ 1 ≤ sl ∧ Hid (seen.length = sl) ∧ Hid (∀ i, i < seen.length → (seen.getD i []).length = nn) ∧ Hid (s.q.length + 60 * (2 * (102 - seen.length) + fstOf fv) ≤ q.length + 60 * 203)) (fun sv fv _ => 2 * (102 - lenOf2 sv) + fstOf fv)
  case atStart => exact ⟨[nets], true, ⟨gv, nets, q⟩, .slice NA nn nc, QV, _, _, _, rfl, rfl, HSE, HPL1, HBR1, Lib.hid (fun r h => h), HGD, by omega, by omega, Lib.hid rfl, Lib.hid (fun i hi => by obtain rfl : i = 0 := (by simpa using hi); exact HLN.out), HQ0⟩
  case round =>
    obtain ⟨seen, first, s, NV', qk, AS, sl, cS, rfl, rfl, hSE, hPL, hBR, hRUN, hGD, hs101, hs1, HSL, hLEN, hQL⟩ := hrel
    clear HSE HPL1 HBR1 HQ0 HWA
    obtain ⟨wx, rfl⟩ : ∃ wx : World, wx = wr := ⟨_, rfl⟩
    obtain ⟨hK, ⟨k1, k2, k3, k4, k5, k6, k7⟩, hqk⟩ := hPL.out
    rw [HDN.out] at k4
    have HB0 := Lib.hid (HBASE.out _ _ _ _ hPL.out)
    obtain ⟨gN, nc', rfl, _, _, _⟩ := own_cells k2 (by omega)
    have s0 : wx.drew.cell? ⟨gp, 0, none⟩ = some (.int .i64 nn) := (blk_cell k1 0).trans rfl
    have s1 : wx.drew.cell? ⟨gp, 1, none⟩ = some (.slice GA gn gc) := (blk_cell k1 1).trans rfl
    have s3 : wx.drew.cell? ⟨gp, 3, none⟩ = some (.slice VA gn vc) := (blk_cell k1 3).trans rfl
    have s4 : wx.drew.cell? ⟨gp, 4, none⟩ = some (.slice DA dn dc) := (blk_cell k1 4).trans rfl
    have HD1 : Hid (Below wx.heap.size wx wx.drew) := Lib.hid (pw_below_drewN (n := 1) (Below.refl _ _))
    have HVR := Lib.hid (own_reads' (pw_own_below k3 HD1.out))
    have HDR : Hid (RdDrives wx.drew DA dn ds) := Lib.hid (by
      obtain ⟨A, c, e1, e2⟩ := drow_reads1 (by rw [HDN.out]; exact pw_own_below k4 HD1.out)
      rw [HDN.out] at e1 e2
      injection e1 with e1 _ _
      rw [e1]; exact e2)
    have HGR := Lib.hid (HG.out.below (HB0.out.trans (HD1.out.mono HB0.out.size)))
    have hgx : gp < wx.heap.size := blk_lt k1
    clear hK k1 k2 k3 k4 k5 k6 k7 hqk
    obtain ⟨X, hX⟩ : ∃ X, netsOf nn gs s.gv ov = X := ⟨_, rfl⟩
    have HXL : Hid (X.length = nn) := Lib.hid (by rw [← hX]; exact netsOf_len ..)
    have HXA : Hid (∀ n, n < nn → X.getD n 0 = accD ds n (accG gs s.gv n gn) dn) := Lib.hid (fun n hn => by
      rw [← hX, netsOf_at _ _ _ hn, ← HOV.out.acc gs s.gv hn, HGL.out, HDN.out])
    have HX := Lib.hid hX; clear hX
    go_wp2_with fail
    go_still_tail 12, (by kernel_rfl)
    change wpList _ _ _ _ _ wx.drew
    have hSE2 := Lib.hid (hSE.out.below HD1.out)
    have hPL2 := Lib.hid (hPL.out.below HD1.out)
    have hBR2 := Lib.hid (pw_own_below hBR.out HD1.out)
    have HB02 := Lib.hid (HB0.out.trans (HD1.out.mono HB0.out.size))
    clear hSE hPL hBR HB0 HD1 hgx
    generalize wx.drew = w3 at *
    go_wp2_with fail
    refine (rdriven_any nn GA gn gc gs VA vc s.gv DA dn dc ds X w3 HGR.out HVR.out HDR.out hGD.out.vg HOV.out.drives h40 HXL.out HXA.out).mono ?_
    rintro e w4 ⟨XV, rfl, hxo, hb4⟩
    obtain ⟨gX, xc, rfl, _, _, _⟩ := own_cells hxo (by omega)
    have HSE4 := Lib.hid (hSE2.out.below hb4)
    have HPL4 := Lib.hid (hPL2.out.below hb4)
    have HBR4 := Lib.hid (pw_own_below hBR2.out hb4)
    have HB04 := Lib.hid (HB02.out.trans (hb4.mono HB02.out.size))
    have HXO4 : Hid (w4.ownsRow w.heap.size 3 1 (.slice (some ⟨gX, 0, none⟩) nn xc) nn (nums .i64 X)) := Lib.hid (own_mono hxo (by have := hPL2.out.1.size; omega))
    clear s0 s1 s3 s4 hxo hb4 hSE2 hPL2 hBR2 HB02 HVR HDR HGR
    obtain ⟨ch, hch⟩ : ∃ ch, changedOf nn X s.nets = ch := ⟨_, rfl⟩
    have HCH := Lib.hid hch
    have HCL : Hid (ch.length = nn) := Lib.hid (by rw [← hch]; exact changedOf_len ..)
    have HCA : Hid (∀ n, n < nn → ch.getD n false = (X.getD n 0 != s.nets.getD n 0)) := Lib.hid (fun n hn => by rw [← hch]; exact changedOf_at _ _ hn)
    have HANY : Hid (rndAny nn gs ov s = ch.any id) := Lib.hid (by unfold rndAny; rw [HX.out, hch])
    clear hch
    have HM0 : Hid (MapCh (w4.alloc (.map #[] 0)) w4.heap.size nn ch 0) := Lib.hid (MapCh.start w4 nn ch)
    have HW0 : Hid (Below w4.heap.size w4 (w4.alloc (.map #[] 0))) := Lib.hid ((Below.refl _ _).alloc (Nat.le_refl _) _)
    have hmm := @run_makeMap Try.prog
    have hgp4 : gp < w4.heap.size := blk_lt HPL4.out.2.1.1
    go_wp2_with fail
    clear hmm
    go_loopw [10] (fun i wr => ∃ k : Nat, k ≤ nn ∧ i = .int .i64 k ∧ Hid (Below w4.heap.size w4 wr) ∧ Hid (MapCh wr w4.heap.size nn ch k)) (fun i _ => nn - (intOf i).toNat)
    case atStart => exact ⟨0, Nat.zero_le _, rfl, HW0, HM0⟩
    case round =>
      clear HW0 HM0
      obtain ⟨k, hk, rfl, hBk, hMk⟩ := hrel
      obtain ⟨wy, rfl⟩ : ∃ wy : World, wy = wr := ⟨_, rfl⟩
      have s0 : wy.cell? ⟨gp, 0, none⟩ = some (.int .i64 nn) := (blk_cell (blk_below HPL4.out.2.1.1 hBk.out) 0).trans rfl
      by_cases hlt : k < nn
      · have hlt2 : decide ((k : Int) < (nn : Int)) = true := by simp; omega
        have hj0 : (0 : Int) ≤ (k : Int) := by omega
        have hj1 : (k : Int) < (nn : Int) := by omega
        have s2 : wy.cell? ⟨gp, 2, none⟩ = some (.slice (some ⟨gN, 0, none⟩) nn nc') := (blk_cell (blk_below HPL4.out.2.1.1 hBk.out) 2).trans rfl
        have x0 := (own_get (pw_own_below HXO4.out hBk.out) k hlt).1
        have n0 := (own_get (pw_own_below HPL4.out.2.1.2.1 hBk.out) k hlt).1
        have HCK := Lib.hid (HCA.out k hlt)
        obtain ⟨xv, hxv⟩ : ∃ xv, X.getD k 0 = xv := ⟨_, rfl⟩
        obtain ⟨nv, hnv⟩ : ∃ nv, s.nets.getD k 0 = nv := ⟨_, rfl⟩
        rw [hxv] at x0 HCK
        rw [hnv] at n0 HCK
        clear hxv hnv
        by_cases hv : xv = nv
        · have hvb : (xv != nv) = false := by simpa using hv
          have HMn : Hid (MapCh wy w4.heap.size nn ch (k + 1)) := Lib.hid (hMk.out.skip (by rw [HCL.out]; exact hlt) (by rw [HCK.out, hvb]))
          clear hv
          go_wp2
          go_quiet (fail)
          go_wp2
          go_roundw
          case rel => exact ⟨k + 1, by omega, by go_num, Lib.hid (pw_below_drewN hBk.out _), Lib.hid (HMn.out.blk rfl)⟩
          case measure => simp [intOf]; omega
        · have hvb : (xv != nv) = true := by simpa using hv
          have HCT : Hid (ch.getD k false = true) := Lib.hid (by rw [HCK.out, hvb])
          clear hv
          go_wp2_with fail
          go_quiet (fail)
          have HBq := Lib.hid (pw_below_drewN hBk.out nq)
          have HMq : Hid (MapCh (wy.drewN nq) w4.heap.size nn ch k) := Lib.hid (hMk.out.blk rfl)
          clear s0 s2 x0 n0 hBk hMk
          generalize wy.drewN nq = wq at *
          obtain ⟨wu, hupd, hmu, hgu⟩ := HMq.out.put (by rw [HCL.out]; exact hlt) (by omega) HCT.out
          have HMu := Lib.hid hmu; clear hmu
          have HBu : Hid (Below w4.heap.size w4 wu) := Lib.hid (HBq.out.grown hgu HBq.out.size (fun i hi => by injection hi with hi; omega))
          clear hgu HMq HBq
          go_wp2_with fail
          go_roundw
          case rel => exact ⟨k + 1, by omega, by go_num, HBu, HMu⟩
          case measure => simp [intOf]; omega
      · have hlt2 : decide ((k : Int) < (nn : Int)) = false := by simp; omega
        have hkn : k = nn := by omega
        subst hkn
        obtain ⟨c, hlen, hc⟩ := hMk.out.len
        have HANYC : Hid (rndAny k gs ov s = decide (0 < c)) := Lib.hid (by rw [HANY.out, hc, List.take_of_length_le (by rw [HCL.out]; exact Nat.le_refl _)])
        have HLEN := Lib.hid hlen; clear hlen hc
        have HM5 : Hid (MapCh wy w4.heap.size k ch ch.length) := Lib.hid (by rw [HCL.out]; exact hMk.out)
        have HB0w : w0.heap.size ≤ w.heap.size := HB.out.size
        have HPLy := Lib.hid (HPL4.out.below hBk.out)
        have HSEy := Lib.hid (HSE4.out.below hBk.out)
        have HBRy := Lib.hid (pw_own_below HBR4.out hBk.out)
        have HXOy := Lib.hid (pw_own_below HXO4.out hBk.out)
        clear hMk hBk HPL4 HSE4 HBR4 HXO4 HB04 HCA hk
        by_cases hcz : 0 < c
        · have HANYV : Hid (rndAny k gs ov s = true) := Lib.hid (by rw [HANYC.out]; simpa using hcz)
          have hl3 := HLEN.out wy 3 rfl
          obtain ⟨AS', cS', hse, hSR⟩ := HSEy.out.reads
          injection hse with e1 e2 e3
          subst e1 e3
          obtain ⟨ad, rfl, hcell⟩ := hSR.2.2 (by have := HSL.out; omega)
          have HSR := Lib.hid hSR; clear hSR hcell e2
          go_wp2_with fail
          clear hl3
          go_loopw [11] (fun i wr => ∃ j : Nat, j ≤ sl ∧ i = .int .i64 j ∧ Hid ((seen.take j).any (fun x => sameB x X) = false) ∧ ∃ r, wr = wy.drewN r) (fun i _ => sl - (intOf i).toNat)
          case atStart => exact ⟨0, Nat.zero_le _, rfl, Lib.hid rfl, 0, rfl⟩
          case round =>
            obtain ⟨j, hj, rfl, hany, r, rfl⟩ := hrel
            have hl3 := HLEN.out (wy.drewN r) 3 rfl
            by_cases hlj : j < sl
            · obtain ⟨ad', had, hcell⟩ := HSR.out.2.2 (by have := HSL.out; omega)
              obtain rfl : ad = ad' := by injection had
              have hlj' : j < seen.length := by rw [HSL.out]; exact hlj
              obtain ⟨BJ, dj, cj1, cj2⟩ := hcell j hlj'
              rw [hLEN.out j hlj'] at cj1 cj2
              have HANY1 := Lib.hid (any_succ (p := fun x => sameB x X) hlj' hany.out)
              have HAT := Lib.hid (fun h => any_at (p := fun x => sameB x X) (L := seen) (k := j) hlj' h)
              clear hcell had hlj'
              obtain ⟨y, hy⟩ : ∃ y, seen.getD j [] = y := ⟨_, rfl⟩
              rw [hy] at cj2 HANY1 HAT
              clear hy
              have cj1' : (wy.drewN r).cell? (ad.add j) = some (.slice BJ k dj) := cj1
              have HCJ : Hid (ReadsInt (wy.drewN r) .i64 BJ k y) := Lib.hid cj2
              have HXRr : Hid (ReadsInt (wy.drewN r) .i64 (some ⟨gX, 0, none⟩) k X) := Lib.hid (own_reads' (pw_own_below HXOy.out (pw_below_drewN (n := r) (Below.refl _ _))))
              clear cj1 cj2
              go_wp2_with fail
              refine (requal_any _ _ _ _ _ y X _ HCJ.out HXRr.out).mono ?_
              rintro e w7 ⟨rfl, q7, rfl⟩
              cases hsy : sameB y X
              · have HS2 := Lib.hid (HANY1.out.trans hsy); clear hsy
                go_wp2_with fail
                go_roundw
                case rel => exact ⟨j + 1, by omega, by go_num, HS2, _, by first | rfl | rw [World.drewN_drewN]⟩
                case measure => simp [intOf]; omega
              · have HMEM : Hid (memB seen X = true) := Lib.hid (HAT.out hsy)
                have HRR : Hid (RunsR k gs t ov [nets] true ⟨gv, nets, q⟩ none) := Lib.hid (hRUN.out _ (RunsR.bad1 HANYV.out (by rw [HX.out]; exact HMEM.out)))
                have HBE := Lib.hid (HBASE.out _ _ _ _ HPLy.out)
                clear hsy
                go_wp2_with fail
                go_ret
                refine ⟨none, HRR.out, rfl, by first | exact pw_below_drewN (n := _) HBE.out | exact pw_below_drewN (n := _) (pw_below_drewN (n := _) HBE.out)⟩
            · have hje : j = sl := by omega
              have HMEM : Hid (memB seen X = false) := Lib.hid (by
                have h := hany.out
                rwa [List.take_of_length_le (by rw [HSL.out]; omega)] at h)
              have hbr : Below wy.heap.size wy (wy.drewN r) := pw_below_drewN (n := r) (Below.refl _ _)
              have HPLp := Lib.hid (HPLy.out.below hbr)
              have HSEp := Lib.hid (HSEy.out.below hbr)
              have HBRp := Lib.hid (pw_own_below HBRy.out hbr)
              have HXOp := Lib.hid (pw_own_below HXOy.out hbr)
              have HMBp : Hid ((wy.drewN r).heap[w4.heap.size]? = wy.heap[w4.heap.size]?) := Lib.hid rfl
              have hmy : w4.heap.size < wy.heap.size := HM5.out.lt
              clear hbr hany
              generalize wy.drewN r = wp at *
              have HPLs := Lib.hid (HPLp.out.nets (X := .slice (some ⟨gX, 0, none⟩) k xc) (x := X) (own_mono HXOp.out HB0w) (fun g hg h => by have e : gX = g := Option.some.inj hg; have h1 := HGW.out g h; have h2 := own_base HXOp.out gX rfl; omega))
              have HSEs := Lib.hid (HSEp.out.cell (p := ⟨gp, 2, none⟩) hgw (.slice (some ⟨gX, 0, none⟩) k xc))
              have HBRs := Lib.hid (own_setCell HBRp.out (p := ⟨gp, 2, none⟩) (fun e => by have h2 := own_base HBRp.out gp e.symm; omega) (.slice (some ⟨gX, 0, none⟩) k xc))
              have HXOs := Lib.hid (own_setCell HXOp.out (p := ⟨gp, 2, none⟩) (fun e => by have h2 := own_base HXOp.out gp e.symm; omega) (.slice (some ⟨gX, 0, none⟩) k xc))
              have HMBs : Hid ((wp.setCell ⟨gp, 2, none⟩ (.slice (some ⟨gX, 0, none⟩) k xc)).heap[w4.heap.size]? = wy.heap[w4.heap.size]?) := Lib.hid ((Below.heap_setCell wp ⟨gp, 2, none⟩ _ w4.heap.size (fun e => by have e2 : w4.heap.size = gp := e; omega)).trans HMBp.out)
              have HMs := Lib.hid (HM5.out.blk HMBs.out)
              have p2 : wp.cell? ⟨gp, 2, none⟩ = some (.slice (some ⟨gN, 0, none⟩) k nc') := (blk_cell HPLp.out.2.1.1 2).trans rfl
              have f2 := blk_frozen HPLp.out.2.1.1 2
              have hwpg : gp < wp.heap.size := blk_lt HPLp.out.2.1.1
              have hl3q := HLEN.out (wp.setCell ⟨gp, 2, none⟩ (.slice (some ⟨gX, 0, none⟩) k xc)) 3 HMBs.out
              obtain ⟨cs, hcs, hput⟩ := HSEs.out.own
              rw [HSL.out] at hcs
              have HCS := Lib.hid hcs; clear hcs
              have HPUT := Lib.hid hput; clear hput
              have HBR := Lib.hid (Below.refl w.heap.size (wp.setCell ⟨gp, 2, none⟩ (.slice (some ⟨gX, 0, none⟩) k xc)))
              have HLE2 : Hid (w.heap.size ≤ (wp.setCell ⟨gp, 2, none⟩ (.slice (some ⟨gX, 0, none⟩) k xc)).heap.size) := Lib.hid HPLs.out.1.size
              have HLB : Hid ((sl + 1) * 24 ≤ 140737488355328) := Lib.hid (by omega)
              clear hl3
              by_cases h100 : 100 < sl
              · have HRR : Hid (RunsR k gs t ov [nets] true ⟨gv, nets, q⟩ none) := Lib.hid (hRUN.out _ (runs_bad2 HANYV.out (by have := HSL.out; omega)))
                go_wp2_with (at_builtin; go_must (refine print_append_cells (w0 := (wp.setCell ⟨gp, 2, none⟩ (.slice (some ⟨gX, 0, none⟩) k xc))) (W := (wp.setCell ⟨gp, 2, none⟩ (.slice (some ⟨gX, 0, none⟩) k xc))) w.heap.size rfl (.tmp 81) (.tmp 83) 94 22 uV 1 24 rfl Try.underlying94 info22 rfl (by omega) (by omega) _ sl cs [.slice (some ⟨gX, 0, none⟩) k xc] rfl (by go_simp) rfl (by simp [Value.oneCell']) HCS.out HBR.out HLE2.out HLB.out ?_); intro v8 wq hv8 hb8 hg8 _; obtain ⟨A8, c8, rfl⟩ := own_slice hv8; have HV8 := Lib.hid hv8; clear hv8 hb8; have HG8 := Lib.hid hg8; clear hg8; have HPLq := Lib.hid (HPLs.out.grown HCS.out (Nat.le_refl _) HG8.out); have hgq : gp < wq.heap.size := blk_lt HPLq.out.2.1.1; have HMBq : Hid (wq.heap[w4.heap.size]? = wy.heap[w4.heap.size]?) := Lib.hid ((HG8.out.block _ HMs.out.lt (by obtain ⟨es, ce, hmb⟩ := HMs.out.map; exact own_ne_map (m := #[]) (k := 0) HCS.out hmb (fun _ _ _ h => by cases h))).trans HMBs.out); have hl3w := HLEN.out wq 3 HMBq.out)
                have HBE := Lib.hid (HBASE.out _ _ _ _ HPLq.out)
                go_wp2_with fail
                go_ret
                exact ⟨none, HRR.out, rfl, HBE.out⟩
              · have HLN9 : Hid (∀ i, i < sl + 1 → ((seen ++ [X]).getD i []).length = k) := Lib.hid (fun i hi => by
                  have hs := HSL.out
                  by_cases e : i < seen.length
                  · have := hLEN.out i e
                    rw [List.getD_eq_getElem?_getD, List.getElem?_append_left e, ← List.getD_eq_getElem?_getD]
                    exact this
                  · obtain rfl : i = seen.length := by omega
                    rw [List.getD_eq_getElem?_getD, List.getElem?_append_right (Nat.le_refl _), Nat.sub_self]
                    exact HXL.out)
                have HSL9 : Hid ((seen ++ [X]).length = sl + 1) := Lib.hid (by rw [List.length_append, HSL.out]; rfl)
                obtain ⟨tb, htb⟩ : ∃ tb, (t == 0) = tb := ⟨_, rfl⟩
                have HTB : Hid (decide (t = 0) = tb) := Lib.hid htb
                cases tb
                · have HAL : Hid ((decide (t = 0) && first) = false) := Lib.hid (by rw [HTB.out]; rfl)
                  go_wp2_with (at_builtin; go_must (refine print_append_cells (w0 := (wp.setCell ⟨gp, 2, none⟩ (.slice (some ⟨gX, 0, none⟩) k xc))) (W := (wp.setCell ⟨gp, 2, none⟩ (.slice (some ⟨gX, 0, none⟩) k xc))) w.heap.size rfl (.tmp 81) (.tmp 83) 94 22 uV 1 24 rfl Try.underlying94 info22 rfl (by omega) (by omega) _ sl cs [.slice (some ⟨gX, 0, none⟩) k xc] rfl (by go_simp) rfl (by simp [Value.oneCell']) HCS.out HBR.out HLE2.out HLB.out ?_); intro v8 wq hv8 hb8 hg8 _; obtain ⟨A8, c8, rfl⟩ := own_slice hv8; have HV8 := Lib.hid hv8; clear hv8 hb8; have HG8 := Lib.hid hg8; clear hg8; have HPLq := Lib.hid (HPLs.out.grown HCS.out (Nat.le_refl _) HG8.out); have hgq : gp < wq.heap.size := blk_lt HPLq.out.2.1.1; have HMBq : Hid (wq.heap[w4.heap.size]? = wy.heap[w4.heap.size]?) := Lib.hid ((HG8.out.block _ HMs.out.lt (by obtain ⟨es, ce, hmb⟩ := HMs.out.map; exact own_ne_map (m := #[]) (k := 0) HCS.out hmb (fun _ _ _ h => by cases h))).trans HMBs.out); have hl3w := HLEN.out wq 3 HMBq.out)
                  have HSEq : Hid (SeenOk wq w.heap.size (.slice A8 (sl + 1) c8) (seen ++ [X])) := Lib.hid (HPUT.out (wp.setCell ⟨gp, 2, none⟩ (.slice (some ⟨gX, 0, none⟩) k xc)) wq _ (.slice (some ⟨gX, 0, none⟩) k xc) X (Below.refl _ _) HG8.out (by have := HSL.out; omega) (by rw [HSL.out]; exact HV8.out) (by rw [HXL.out]; exact own_other HXOs.out HG8.out (own_type_ne HXOs.out HCS.out (by decide))))
                  have HBRq := Lib.hid (own_other HBRs.out HG8.out (own_type_ne HBRs.out HCS.out (by decide)))
                  have HMq : Hid (MapCh wq w4.heap.size k ch ch.length) := Lib.hid (HM5.out.blk HMBq.out)
                  have K1 := Lib.hid HPLq.out.2.1.1
                  have K2 := Lib.hid HPLq.out.2.1.2.1
                  have K3 := Lib.hid HPLq.out.2.1.2.2.1
                  have K5 := Lib.hid HPLq.out.2.1.2.2.2.2.1
                  have K7 := Lib.hid HPLq.out.2.1.2.2.2.2.2.2
                  have HQS : Hid (s.q.length ≤ 50000000) := Lib.hid (by have := hQL.out; omega)
                  have HB0q := Lib.hid (HBASE.out _ _ _ _ HPLq.out)
                  refine (rask96_any w0 wq gp k gn gc w4.heap.size GA gs _ _ _ qk EV t false ch X s.gv s.q HB0q.out HG.out hrb K1.out K2.out K3.out K5.out K7.out HMq.out HCL.out HGO.out h1 h40 hg60 ht0 ht1 HQS.out HXL.out hGD.out.lg).mono ?_
                  rintro e w8 ⟨rfl, hst⟩
                  obtain ⟨hrs, hmv⟩ := rnd_is (t := t) (al := false) HX.out HCH.out HGL.out
                  obtain ⟨qk', hpl8⟩ := HPLq.out.ask hst
                  have HPL8 : Hid (RPl w0.heap.size w w8 gp k gn gc GA (.slice (some ⟨gX, 0, none⟩) k xc) (.slice VA gn vc) (.slice DA dn dc) QV EV qk' (rndS k gs t ov (decide (t = 0) && first) s) ds ed) := Lib.hid (by rw [HAL.out, hrs]; exact hpl8)
                  have HBR8 := Lib.hid (HPLq.out.keep hst hgw HGW.out HBRq.out)
                  have HSE8 := Lib.hid (HPLq.out.seen hst hgw HGW.out HSEq.out)
                  have HB08 := Lib.hid (HBASE.out _ _ _ _ hpl8)
                  have HGD8 := Lib.hid (hGD.out.rnd (t := t) (all := decide (t = 0) && first) HGO.out HGL.out HOV.out.len HVO.out)
                  have HQ8 : Hid ((rndS k gs t ov (decide (t = 0) && first) s).q.length ≤ s.q.length + 60) := Lib.hid (by have := rnd_qlen (nn := k) (gs := gs) (t := t) (all := decide (t = 0) && first) (ov := ov) (s := s); have h2 := HGL.out; omega)
                  have HMB8 : Hid (w8.heap[w4.heap.size]? = wy.heap[w4.heap.size]?) := Lib.hid ((hst.1.block _ HMq.out.lt (fun h => by
                    obtain ⟨es, ce, hmb⟩ := HMq.out.map
                    rcases h with e | e | e
                    · rw [e, K1.out] at hmb; cases hmb
                    · exact own_ne_map (m := #[]) (k := 0) K3.out hmb (fun _ _ _ h => by cases h) e
                    · exact own_ne_map (m := #[]) (k := 0) K5.out hmb (fun _ _ _ h => by cases h) e)).trans HMBq.out)
                  have hl38 := HLEN.out w8 3 HMB8.out
                  rw [← hmv]
                  obtain ⟨mv, hmm⟩ : ∃ mv, rndMov k gs t ov false s = mv := ⟨_, rfl⟩
                  rw [hmm]
                  have HMV : Hid (rndMov k gs t ov (decide (t = 0) && first) s = mv) := Lib.hid (by rw [HAL.out]; exact hmm)
                  clear hst hrs hpl8 hmv hmm
                  cases mv
                  · go_wp2_with fail
                    have HRR := Lib.hid (fun r h => hRUN.out r (runs_yes HX.out HANYV.out HMEM.out (by have := HSL.out; omega) h))
                    have HQN : Hid ((rndS k gs t ov (decide (t = 0) && first) s).q.length + 60 * (2 * (102 - (seen ++ [X]).length) + fstOf (.bool false)) ≤ q.length + 60 * 203) := Lib.hid (by have h1 := hQL.out; have h2 := HQ8.out; have h3 := HSL.out; rw [HSL9.out]; simp only [fstOf]; omega)
                    have HLN99 : Hid (∀ i, i < (seen ++ [X]).length → ((seen ++ [X]).getD i []).length = k) := Lib.hid (by rw [HSL9.out]; exact HLN9.out)
                    first
                    | exact ⟨⟨seen ++ [X], false, _, _, qk', A8, sl + 1, c8, rfl, rfl, HSE8, HPL8, HBR8, HRR, HGD8, by omega, by omega, HSL9, HLN99, HQN⟩, by simp only [lenOf2, fstOf]; omega⟩
                    | (go_roundw; (case rel => exact ⟨seen ++ [X], false, _, _, qk', A8, sl + 1, c8, rfl, rfl, HSE8, HPL8, HBR8, HRR, HGD8, by omega, by omega, HSL9, HLN99, HQN⟩); (case measure => simp only [lenOf2, fstOf]; omega))
                  · go_wp2_with fail
                    have HRR := Lib.hid (fun r h => hRUN.out r (runs_yes HX.out HANYV.out HMEM.out (by have := HSL.out; omega) h))
                    have HQN : Hid ((rndS k gs t ov (decide (t = 0) && first) s).q.length + 60 * (2 * (102 - (seen ++ [X]).length) + fstOf (.bool false)) ≤ q.length + 60 * 203) := Lib.hid (by have h1 := hQL.out; have h2 := HQ8.out; have h3 := HSL.out; rw [HSL9.out]; simp only [fstOf]; omega)
                    have HLN99 : Hid (∀ i, i < (seen ++ [X]).length → ((seen ++ [X]).getD i []).length = k) := Lib.hid (by rw [HSL9.out]; exact HLN9.out)
                    first
                    | exact ⟨⟨seen ++ [X], false, _, _, qk', A8, sl + 1, c8, rfl, rfl, HSE8, HPL8, HBR8, HRR, HGD8, by omega, by omega, HSL9, HLN99, HQN⟩, by simp only [lenOf2, fstOf]; omega⟩
                    | (go_roundw; (case rel => exact ⟨seen ++ [X], false, _, _, qk', A8, sl + 1, c8, rfl, rfl, HSE8, HPL8, HBR8, HRR, HGD8, by omega, by omega, HSL9, HLN99, HQN⟩); (case measure => simp only [lenOf2, fstOf]; omega))
                · have HAL : Hid ((decide (t = 0) && first) = first) := Lib.hid (by rw [HTB.out]; rfl)
                  go_wp2_with (at_builtin; go_must (refine print_append_cells (w0 := (wp.setCell ⟨gp, 2, none⟩ (.slice (some ⟨gX, 0, none⟩) k xc))) (W := (wp.setCell ⟨gp, 2, none⟩ (.slice (some ⟨gX, 0, none⟩) k xc))) w.heap.size rfl (.tmp 81) (.tmp 83) 94 22 uV 1 24 rfl Try.underlying94 info22 rfl (by omega) (by omega) _ sl cs [.slice (some ⟨gX, 0, none⟩) k xc] rfl (by go_simp) rfl (by simp [Value.oneCell']) HCS.out HBR.out HLE2.out HLB.out ?_); intro v8 wq hv8 hb8 hg8 _; obtain ⟨A8, c8, rfl⟩ := own_slice hv8; have HV8 := Lib.hid hv8; clear hv8 hb8; have HG8 := Lib.hid hg8; clear hg8; have HPLq := Lib.hid (HPLs.out.grown HCS.out (Nat.le_refl _) HG8.out); have hgq : gp < wq.heap.size := blk_lt HPLq.out.2.1.1; have HMBq : Hid (wq.heap[w4.heap.size]? = wy.heap[w4.heap.size]?) := Lib.hid ((HG8.out.block _ HMs.out.lt (by obtain ⟨es, ce, hmb⟩ := HMs.out.map; exact own_ne_map (m := #[]) (k := 0) HCS.out hmb (fun _ _ _ h => by cases h))).trans HMBs.out); have hl3w := HLEN.out wq 3 HMBq.out)
                  have HSEq : Hid (SeenOk wq w.heap.size (.slice A8 (sl + 1) c8) (seen ++ [X])) := Lib.hid (HPUT.out (wp.setCell ⟨gp, 2, none⟩ (.slice (some ⟨gX, 0, none⟩) k xc)) wq _ (.slice (some ⟨gX, 0, none⟩) k xc) X (Below.refl _ _) HG8.out (by have := HSL.out; omega) (by rw [HSL.out]; exact HV8.out) (by rw [HXL.out]; exact own_other HXOs.out HG8.out (own_type_ne HXOs.out HCS.out (by decide))))
                  have HBRq := Lib.hid (own_other HBRs.out HG8.out (own_type_ne HBRs.out HCS.out (by decide)))
                  have HMq : Hid (MapCh wq w4.heap.size k ch ch.length) := Lib.hid (HM5.out.blk HMBq.out)
                  have K1 := Lib.hid HPLq.out.2.1.1
                  have K2 := Lib.hid HPLq.out.2.1.2.1
                  have K3 := Lib.hid HPLq.out.2.1.2.2.1
                  have K5 := Lib.hid HPLq.out.2.1.2.2.2.2.1
                  have K7 := Lib.hid HPLq.out.2.1.2.2.2.2.2.2
                  have HQS : Hid (s.q.length ≤ 50000000) := Lib.hid (by have := hQL.out; omega)
                  have HB0q := Lib.hid (HBASE.out _ _ _ _ HPLq.out)
                  refine (rask96_any w0 wq gp k gn gc w4.heap.size GA gs _ _ _ qk EV t first ch X s.gv s.q HB0q.out HG.out hrb K1.out K2.out K3.out K5.out K7.out HMq.out HCL.out HGO.out h1 h40 hg60 ht0 ht1 HQS.out HXL.out hGD.out.lg).mono ?_
                  rintro e w8 ⟨rfl, hst⟩
                  obtain ⟨hrs, hmv⟩ := rnd_is (t := t) (al := first) HX.out HCH.out HGL.out
                  obtain ⟨qk', hpl8⟩ := HPLq.out.ask hst
                  have HPL8 : Hid (RPl w0.heap.size w w8 gp k gn gc GA (.slice (some ⟨gX, 0, none⟩) k xc) (.slice VA gn vc) (.slice DA dn dc) QV EV qk' (rndS k gs t ov (decide (t = 0) && first) s) ds ed) := Lib.hid (by rw [HAL.out, hrs]; exact hpl8)
                  have HBR8 := Lib.hid (HPLq.out.keep hst hgw HGW.out HBRq.out)
                  have HSE8 := Lib.hid (HPLq.out.seen hst hgw HGW.out HSEq.out)
                  have HB08 := Lib.hid (HBASE.out _ _ _ _ hpl8)
                  have HGD8 := Lib.hid (hGD.out.rnd (t := t) (all := decide (t = 0) && first) HGO.out HGL.out HOV.out.len HVO.out)
                  have HQ8 : Hid ((rndS k gs t ov (decide (t = 0) && first) s).q.length ≤ s.q.length + 60) := Lib.hid (by have := rnd_qlen (nn := k) (gs := gs) (t := t) (all := decide (t = 0) && first) (ov := ov) (s := s); have h2 := HGL.out; omega)
                  have HMB8 : Hid (w8.heap[w4.heap.size]? = wy.heap[w4.heap.size]?) := Lib.hid ((hst.1.block _ HMq.out.lt (fun h => by
                    obtain ⟨es, ce, hmb⟩ := HMq.out.map
                    rcases h with e | e | e
                    · rw [e, K1.out] at hmb; cases hmb
                    · exact own_ne_map (m := #[]) (k := 0) K3.out hmb (fun _ _ _ h => by cases h) e
                    · exact own_ne_map (m := #[]) (k := 0) K5.out hmb (fun _ _ _ h => by cases h) e)).trans HMBq.out)
                  have hl38 := HLEN.out w8 3 HMB8.out
                  rw [← hmv]
                  obtain ⟨mv, hmm⟩ : ∃ mv, rndMov k gs t ov first s = mv := ⟨_, rfl⟩
                  rw [hmm]
                  have HMV : Hid (rndMov k gs t ov (decide (t = 0) && first) s = mv) := Lib.hid (by rw [HAL.out]; exact hmm)
                  clear hst hrs hpl8 hmv hmm
                  cases mv
                  · go_wp2_with fail
                    have HRR := Lib.hid (fun r h => hRUN.out r (runs_yes HX.out HANYV.out HMEM.out (by have := HSL.out; omega) h))
                    have HQN : Hid ((rndS k gs t ov (decide (t = 0) && first) s).q.length + 60 * (2 * (102 - (seen ++ [X]).length) + fstOf (.bool false)) ≤ q.length + 60 * 203) := Lib.hid (by have h1 := hQL.out; have h2 := HQ8.out; have h3 := HSL.out; rw [HSL9.out]; simp only [fstOf]; omega)
                    have HLN99 : Hid (∀ i, i < (seen ++ [X]).length → ((seen ++ [X]).getD i []).length = k) := Lib.hid (by rw [HSL9.out]; exact HLN9.out)
                    first
                    | exact ⟨⟨seen ++ [X], false, _, _, qk', A8, sl + 1, c8, rfl, rfl, HSE8, HPL8, HBR8, HRR, HGD8, by omega, by omega, HSL9, HLN99, HQN⟩, by simp only [lenOf2, fstOf]; omega⟩
                    | (go_roundw; (case rel => exact ⟨seen ++ [X], false, _, _, qk', A8, sl + 1, c8, rfl, rfl, HSE8, HPL8, HBR8, HRR, HGD8, by omega, by omega, HSL9, HLN99, HQN⟩); (case measure => simp only [lenOf2, fstOf]; omega))
                  · go_wp2_with fail
                    have HRR := Lib.hid (fun r h => hRUN.out r (runs_yes HX.out HANYV.out HMEM.out (by have := HSL.out; omega) h))
                    have HQN : Hid ((rndS k gs t ov (decide (t = 0) && first) s).q.length + 60 * (2 * (102 - (seen ++ [X]).length) + fstOf (.bool false)) ≤ q.length + 60 * 203) := Lib.hid (by have h1 := hQL.out; have h2 := HQ8.out; have h3 := HSL.out; rw [HSL9.out]; simp only [fstOf]; omega)
                    have HLN99 : Hid (∀ i, i < (seen ++ [X]).length → ((seen ++ [X]).getD i []).length = k) := Lib.hid (by rw [HSL9.out]; exact HLN9.out)
                    first
                    | exact ⟨⟨seen ++ [X], false, _, _, qk', A8, sl + 1, c8, rfl, rfl, HSE8, HPL8, HBR8, HRR, HGD8, by omega, by omega, HSL9, HLN99, HQN⟩, by simp only [lenOf2, fstOf]; omega⟩
                    | (go_roundw; (case rel => exact ⟨seen ++ [X], false, _, _, qk', A8, sl + 1, c8, rfl, rfl, HSE8, HPL8, HBR8, HRR, HGD8, by omega, by omega, HSL9, HLN99, HQN⟩); (case measure => simp only [lenOf2, fstOf]; omega))
        · have HANYV : Hid (rndAny k gs ov s = false) := Lib.hid (by rw [HANYC.out]; simpa using hcz)
          obtain rfl : c = 0 := by omega
          have hl3 := HLEN.out wy 3 rfl
          have HPLp := HPLy
          have HSEp := HSEy
          have HBRp := HBRy
          have HXOp := HXOy
          have HMBp : Hid (wy.heap[w4.heap.size]? = wy.heap[w4.heap.size]?) := Lib.hid rfl
          have hmy : w4.heap.size < wy.heap.size := HM5.out.lt
          go_wp2_with fail
          go_loop [11] (fun i => i = .int .i64 0) (fun _ => 0)
          case atStart => rfl
          case round =>
            subst hrel
            have HPLs := Lib.hid (HPLp.out.nets (X := .slice (some ⟨gX, 0, none⟩) k xc) (x := X) (own_mono HXOp.out HB0w) (fun g hg h => by have e : gX = g := Option.some.inj hg; have h1 := HGW.out g h; have h2 := own_base HXOp.out gX rfl; omega))
            have HSEs := Lib.hid (HSEp.out.cell (p := ⟨gp, 2, none⟩) hgw (.slice (some ⟨gX, 0, none⟩) k xc))
            have HBRs := Lib.hid (own_setCell HBRp.out (p := ⟨gp, 2, none⟩) (fun e => by have h2 := own_base HBRp.out gp e.symm; omega) (.slice (some ⟨gX, 0, none⟩) k xc))
            have HXOs := Lib.hid (own_setCell HXOp.out (p := ⟨gp, 2, none⟩) (fun e => by have h2 := own_base HXOp.out gp e.symm; omega) (.slice (some ⟨gX, 0, none⟩) k xc))
            have HMBs : Hid ((wy.setCell ⟨gp, 2, none⟩ (.slice (some ⟨gX, 0, none⟩) k xc)).heap[w4.heap.size]? = wy.heap[w4.heap.size]?) := Lib.hid ((Below.heap_setCell wy ⟨gp, 2, none⟩ _ w4.heap.size (fun e => by have e2 : w4.heap.size = gp := e; omega)).trans rfl)
            have HMs := Lib.hid (HM5.out.blk HMBs.out)
            have p2 : wy.cell? ⟨gp, 2, none⟩ = some (.slice (some ⟨gN, 0, none⟩) k nc') := (blk_cell HPLp.out.2.1.1 2).trans rfl
            have f2 := blk_frozen HPLp.out.2.1.1 2
            have hwpg : gp < wy.heap.size := blk_lt HPLp.out.2.1.1
            have HPLq := HPLs
            have HSEq := HSEs
            have HBRq := HBRs
            have HMq := HMs
            have HMBq := HMBs
            have hl3w := HLEN.out (wy.setCell ⟨gp, 2, none⟩ (.slice (some ⟨gX, 0, none⟩) k xc)) 3 HMBq.out
            have K1 := Lib.hid HPLq.out.2.1.1
            have K2 := Lib.hid HPLq.out.2.1.2.1
            have K3 := Lib.hid HPLq.out.2.1.2.2.1
            have K5 := Lib.hid HPLq.out.2.1.2.2.2.2.1
            have K7 := Lib.hid HPLq.out.2.1.2.2.2.2.2.2
            have HQS : Hid (s.q.length ≤ 50000000) := Lib.hid (by have := hQL.out; omega)
            have HB0q := Lib.hid (HBASE.out _ _ _ _ HPLq.out)
            obtain ⟨tb, htb⟩ : ∃ tb, (t == 0) = tb := ⟨_, rfl⟩
            have HTB : Hid (decide (t = 0) = tb) := Lib.hid htb
            cases tb
            · have HAL : Hid ((decide (t = 0) && first) = false) := Lib.hid (by rw [HTB.out]; rfl)
              go_wp2_with fail
              refine (rask96_any w0 (wy.setCell ⟨gp, 2, none⟩ (.slice (some ⟨gX, 0, none⟩) k xc)) gp k gn gc w4.heap.size GA gs _ _ _ qk EV t false ch X s.gv s.q HB0q.out HG.out hrb K1.out K2.out K3.out K5.out K7.out HMq.out HCL.out HGO.out h1 h40 hg60 ht0 ht1 HQS.out HXL.out hGD.out.lg).mono ?_
              rintro e w8 ⟨rfl, hst⟩
              obtain ⟨hrs, hmv⟩ := rnd_is (t := t) (al := false) HX.out HCH.out HGL.out
              obtain ⟨qk', hpl8⟩ := HPLq.out.ask hst
              have HPL8 : Hid (RPl w0.heap.size w w8 gp k gn gc GA (.slice (some ⟨gX, 0, none⟩) k xc) (.slice VA gn vc) (.slice DA dn dc) QV EV qk' (rndS k gs t ov (decide (t = 0) && first) s) ds ed) := Lib.hid (by rw [HAL.out, hrs]; exact hpl8)
              have HBR8 := Lib.hid (HPLq.out.keep hst hgw HGW.out HBRq.out)
              have HSE8 := Lib.hid (HPLq.out.seen hst hgw HGW.out HSEq.out)
              have HB08 := Lib.hid (HBASE.out _ _ _ _ hpl8)
              have HGD8 := Lib.hid (hGD.out.rnd (t := t) (all := decide (t = 0) && first) HGO.out HGL.out HOV.out.len HVO.out)
              have HQ8 : Hid ((rndS k gs t ov (decide (t = 0) && first) s).q.length ≤ s.q.length + 60) := Lib.hid (by have := rnd_qlen (nn := k) (gs := gs) (t := t) (all := decide (t = 0) && first) (ov := ov) (s := s); have h2 := HGL.out; omega)
              have HMB8 : Hid (w8.heap[w4.heap.size]? = wy.heap[w4.heap.size]?) := Lib.hid ((hst.1.block _ HMq.out.lt (fun h => by
                obtain ⟨es, ce, hmb⟩ := HMq.out.map
                rcases h with e | e | e
                · rw [e, K1.out] at hmb; cases hmb
                · exact own_ne_map (m := #[]) (k := 0) K3.out hmb (fun _ _ _ h => by cases h) e
                · exact own_ne_map (m := #[]) (k := 0) K5.out hmb (fun _ _ _ h => by cases h) e)).trans HMBq.out)
              have hl38 := HLEN.out w8 3 HMB8.out
              rw [← hmv]
              obtain ⟨mv, hmm⟩ : ∃ mv, rndMov k gs t ov false s = mv := ⟨_, rfl⟩
              rw [hmm]
              have HMV : Hid (rndMov k gs t ov (decide (t = 0) && first) s = mv) := Lib.hid (by rw [HAL.out]; exact hmm)
              clear hst hrs hpl8 hmv hmm
              cases mv
              · go_wp2_with fail
                have HRR : Hid (RunsR k gs t ov [nets] true ⟨gv, nets, q⟩ (some (rndS k gs t ov (decide (t = 0) && first) s))) := Lib.hid (hRUN.out _ (runs_stop HANYV.out (by have := HSL.out; omega) HMV.out))
                have HQE : Hid ((rndS k gs t ov (decide (t = 0) && first) s).q.length ≤ q.length + 60 * 203) := Lib.hid (by have h1 := hQL.out; have h2 := HQ8.out; have h3 := HSL.out; omega)
                obtain ⟨s2, hs2⟩ : ∃ s2, rndS k gs t ov (decide (t = 0) && first) s = s2 := ⟨_, rfl⟩
                rw [hs2] at HRR HQE HPL8 HGD8
                clear hs2 HQ8
                have HPS : Hid (PlaySt w0.heap.size w8 gp k gn gc GA (.slice (some ⟨gX, 0, none⟩) k xc) (.slice VA gn vc) (.slice DA dn dc) qk' EV s2.nets s2.gv ds s2.q (ed ++ edgesTo t nets s2.nets 0)) := Lib.hid (by have h := HPL8.out.2.1; rwa [show ed = ed ++ edgesTo t nets s2.nets 0 from (List.append_nil _).symm] at h)
                clear HPL8 HSE8 HMV
                go_loopw [12] (fun i wr => ∃ (m : Nat) (EV' : Value), m ≤ k ∧ i = .int .i64 m ∧ Hid (Below w0.heap.size w0 wr) ∧ Hid (PlaySt w0.heap.size wr gp k gn gc GA (.slice (some ⟨gX, 0, none⟩) k xc) (.slice VA gn vc) (.slice DA dn dc) qk' EV' s2.nets s2.gv ds s2.q (ed ++ edgesTo t nets s2.nets m)) ∧ Hid (wr.ownsRow w.heap.size 3 1 (.slice BA k bc) k (nums .i64 nets))) (fun i _ => k - (intOf i).toNat)
                case atStart => exact ⟨0, EV, Nat.zero_le _, rfl, HB08, HPS, HBR8⟩
                case round =>
                  obtain ⟨m, EV', hm, rfl, hBm, hPm, hVm⟩ := hrel
                  clear HPS HBR8 HB08 hl38
                  obtain ⟨wm, rfl⟩ : ∃ wm : World, wm = wr := ⟨_, rfl⟩
                  have c0 : wm.cell? ⟨gp, 0, none⟩ = some (.int .i64 k) := (blk_cell hPm.out.1 0).trans rfl
                  by_cases hlm : m < k
                  · have hlm2 : decide ((m : Int) < (k : Int)) = true := by simp; omega
                    have hm0 : (0 : Int) ≤ (m : Int) := by omega
                    have hm1 : (m : Int) < (k : Int) := by omega
                    have c2 : wm.cell? ⟨gp, 2, none⟩ = some (.slice (some ⟨gX, 0, none⟩) k xc) := (blk_cell hPm.out.1 2).trans rfl
                    obtain ⟨gB, bc', e1, _, _, _⟩ := own_cells hVm.out (by omega)
                    injection e1 with e1 _ e3
                    subst e1 e3
                    have n0 := (own_get hPm.out.2.1 m hlm).1
                    have b0 := (own_get hVm.out m hlm).1
                    obtain ⟨nv, hnv⟩ : ∃ nv, s2.nets.getD m 0 = nv := ⟨_, rfl⟩
                    obtain ⟨bv, hbv⟩ : ∃ bv, nets.getD m 0 = bv := ⟨_, rfl⟩
                    rw [hnv] at n0
                    rw [hbv] at b0
                    by_cases hv : nv = bv
                    · have hvb : (nv != bv) = false := by simpa using hv
                      have HPn : Hid (PlaySt w0.heap.size wm gp k gn gc GA (.slice (some ⟨gX, 0, none⟩) k xc) (.slice VA gn vc) (.slice DA dn dc) qk' EV' s2.nets s2.gv ds s2.q (ed ++ edgesTo t nets s2.nets (m + 1))) := Lib.hid (by rw [edges_no hnv hbv hv]; exact hPm.out)
                      clear hnv hbv hv
                      go_wp2_with fail
                      go_quiet (fail)
                      have HPq := Lib.hid (HPn.out.below (pw_below_drewN (n := nq) (Below.refl _ _)))
                      have HBq := Lib.hid (pw_below_drewN hBm.out nq)
                      have HVq := Lib.hid (pw_own_below hVm.out (pw_below_drewN (n := nq) (Below.refl _ _)))
                      clear c0 c2 n0 b0 hBm hPm hVm HPn
                      generalize wm.drewN nq = wq2 at *
                      go_wp2_with fail
                      go_roundw
                      case rel => exact ⟨m + 1, EV', by omega, by go_num, HBq, HPq, HVq⟩
                      case measure => simp [intOf]; omega
                    · have hvb : (nv != bv) = true := by simpa using hv
                      have HES := Lib.hid (edges_yes (ed := ed) (t := t) hnv hbv hv)
                      obtain ⟨el, hel2⟩ : ∃ el, (ed ++ edgesTo t nets s2.nets m).length = el := ⟨_, rfl⟩
                      have HEL2 := Lib.hid hel2
                      have hel3 : el ≤ 100 := by have h1 := edgesTo_len t nets s2.nets m; rw [← hel2, List.length_append]; omega
                      have HNV := Lib.hid hnv
                      clear hnv hbv hv hel2
                      go_wp2_with fail
                      go_quiet (fail)
                      have HPq := Lib.hid (hPm.out.below (pw_below_drewN (n := nq) (Below.refl _ _)))
                      have HBq := Lib.hid (pw_below_drewN hBm.out nq)
                      have HVq := Lib.hid (pw_own_below hVm.out (pw_below_drewN (n := nq) (Below.refl _ _)))
                      clear c0 c2 n0 b0 hBm hPm hVm
                      generalize wm.drewN nq = wq2 at *
                      have u0 : wq2.drew.cell? ⟨gp, 6, none⟩ = some EV' := (blk_cell HPq.out.1 6).trans rfl
                      have u1 : wq2.drew.cell? ⟨gp, 2, none⟩ = some (.slice (some ⟨gX, 0, none⟩) k xc) := (blk_cell HPq.out.1 2).trans rfl
                      have u2 : wq2.drew.cell? ⟨gX, m, none⟩ = some (.int .i64 (s2.nets.getD m 0)) := (own_get HPq.out.2.1 m hlm).1
                      obtain ⟨nv2, hnv2⟩ : ∃ nv2, s2.nets.getD m 0 = nv2 := ⟨_, rfl⟩
                      have HPd : Hid (PlaySt w0.heap.size wq2.drew gp k gn gc GA (.slice (some ⟨gX, 0, none⟩) k xc) (.slice VA gn vc) (.slice DA dn dc) qk' EV' s2.nets s2.gv ds s2.q (ed ++ edgesTo t nets s2.nets m)) := Lib.hid (HPq.out.below (pw_below_drewN (n := 1) (Below.refl _ _)))
                      have HBd : Hid (Below w0.heap.size w0 wq2.drew) := Lib.hid (pw_below_drewN HBq.out 1)
                      have HVd : Hid (wq2.drew.ownsRow w.heap.size 3 1 (.slice (some ⟨gB, 0, none⟩) k bc) k (nums .i64 nets)) := Lib.hid (pw_own_below HVq.out (pw_below_drewN (n := 1) (Below.refl _ _)))
                      rw [hnv2] at u2
                      have HNV2 := Lib.hid hnv2
                      clear hnv2
                      go_wp2_with fail
                      refine wp_region_named 19 (fun w' => w'.cell? ⟨gp, 6, none⟩ = some EV' ∧ w'.cell? ⟨gp, 2, none⟩ = some (.slice (some ⟨gX, 0, none⟩) k xc) ∧ w'.cell? ⟨gX, m, none⟩ = some (.int .i64 nv2)) (fun w' => (w'.cell? ⟨gp, 6, none⟩ = some EV') ∧ (w'.cell? ⟨gp, 2, none⟩ = some (.slice (some ⟨gX, 0, none⟩) k xc)) ∧ (w'.cell? ⟨gX, m, none⟩ = some (.int .i64 nv2)) ∧ (Hid (Below w0.heap.size w0 w')) ∧ (Hid (PlaySt w0.heap.size w' gp k gn gc GA (.slice (some ⟨gX, 0, none⟩) k xc) (.slice VA gn vc) (.slice DA dn dc) qk' EV' s2.nets s2.gv ds s2.q (ed ++ edgesTo t nets s2.nets m))) ∧ (Hid (w'.ownsRow w.heap.size 3 1 (.slice (some ⟨gB, 0, none⟩) k bc) k (nums .i64 nets)))) (by kernel_rfl) ⟨u0, u1, u2, HBd, HPd, HVd⟩ ?_
                      rintro w5 ⟨u0, u1, u2, HBd, HPd, HVd⟩
                      refine wpAnyF_take (i := 0) (v := .pointer (some ⟨gp, 0, none⟩)) rfl (by kernel_rfl) (by kernel_rfl) (by kernel_rfl) (by kernel_rfl) (fun _ _ _ h => h) (Or.inl ⟨by rfl, ?_⟩) ⟨u0, u1, u2⟩ ?_
                      · rintro W ⟨y0, y1, y2⟩
                        go_simp
                      try simp only [Act.put, List.setIfInBounds_toArray, List.set_cons_zero, List.set_cons_succ]
                      refine wpAnyF_take (i := 1) (v := .pointer (some ⟨gp, 0, none⟩)) rfl (by kernel_rfl) (by kernel_rfl) (by kernel_rfl) (by kernel_rfl) (fun _ _ _ h => h) (Or.inl ⟨by rfl, ?_⟩) ⟨u0, u1, u2⟩ ?_
                      · rintro W ⟨y0, y1, y2⟩
                        go_simp
                      try simp only [Act.put, List.setIfInBounds_toArray, List.set_cons_zero, List.set_cons_succ]
                      refine wpAnyF_take (i := 2) (v := .pointer (some ⟨gp, 0, none⟩)) rfl (by kernel_rfl) (by kernel_rfl) (by kernel_rfl) (by kernel_rfl) (fun _ _ _ h => h) (Or.inl ⟨by rfl, ?_⟩) ⟨u0, u1, u2⟩ ?_
                      · rintro W ⟨y0, y1, y2⟩
                        go_simp
                      try simp only [Act.put, List.setIfInBounds_toArray, List.set_cons_zero, List.set_cons_succ]
                      refine wpAnyF_take (i := 3) (v := .pointer (some ⟨gp, 6, none⟩)) rfl (by kernel_rfl) (by kernel_rfl) (by kernel_rfl) (by kernel_rfl) (fun _ _ _ h => h) (Or.inl ⟨by rfl, ?_⟩) ⟨u0, u1, u2⟩ ?_
                      · rintro W ⟨y0, y1, y2⟩
                        go_simp
                      try simp only [Act.put, List.setIfInBounds_toArray, List.set_cons_zero, List.set_cons_succ]
                      refine wpAnyF_take (i := 4) (v := EV') rfl (by kernel_rfl) (by kernel_rfl) (by kernel_rfl) (by kernel_rfl) (fun _ _ _ h => h) (Or.inl ⟨by rfl, ?_⟩) ⟨u0, u1, u2⟩ ?_
                      · rintro W ⟨y0, y1, y2⟩
                        go_simp
                      try simp only [Act.put, List.setIfInBounds_toArray, List.set_cons_zero, List.set_cons_succ]
                      refine wpAnyF_take (i := 5) (v := .int .i64 t) rfl (by kernel_rfl) (by kernel_rfl) (by kernel_rfl) (by kernel_rfl) (fun _ _ _ h => h) (Or.inl ⟨by rfl, ?_⟩) ⟨u0, u1, u2⟩ ?_
                      · rintro W ⟨y0, y1, y2⟩
                        go_simp
                      try simp only [Act.put, List.setIfInBounds_toArray, List.set_cons_zero, List.set_cons_succ]
                      refine wpAnyF_take (i := 6) (v := .int .i64 m) rfl (by kernel_rfl) (by kernel_rfl) (by kernel_rfl) (by kernel_rfl) (fun _ _ _ h => h) (Or.inl ⟨by rfl, ?_⟩) ⟨u0, u1, u2⟩ ?_
                      · rintro W ⟨y0, y1, y2⟩
                        go_simp
                      try simp only [Act.put, List.setIfInBounds_toArray, List.set_cons_zero, List.set_cons_succ]
                      refine wpAnyF_take (i := 7) (v := .pointer (some ⟨gp, 0, none⟩)) rfl (by kernel_rfl) (by kernel_rfl) (by kernel_rfl) (by kernel_rfl) (fun _ _ _ h => h) (Or.inl ⟨by rfl, ?_⟩) ⟨u0, u1, u2⟩ ?_
                      · rintro W ⟨y0, y1, y2⟩
                        go_simp
                      try simp only [Act.put, List.setIfInBounds_toArray, List.set_cons_zero, List.set_cons_succ]
                      refine wpAnyF_take (i := 8) (v := .pointer (some ⟨gp, 0, none⟩)) rfl (by kernel_rfl) (by kernel_rfl) (by kernel_rfl) (by kernel_rfl) (fun _ _ _ h => h) (Or.inl ⟨by rfl, ?_⟩) ⟨u0, u1, u2⟩ ?_
                      · rintro W ⟨y0, y1, y2⟩
                        go_simp
                      try simp only [Act.put, List.setIfInBounds_toArray, List.set_cons_zero, List.set_cons_succ]
                      refine wpAnyF_take (i := 9) (v := .pointer (some ⟨gp, 2, none⟩)) rfl (by kernel_rfl) (by kernel_rfl) (by kernel_rfl) (by kernel_rfl) (fun _ _ _ h => h) (Or.inl ⟨by rfl, ?_⟩) ⟨u0, u1, u2⟩ ?_
                      · rintro W ⟨y0, y1, y2⟩
                        go_simp
                      try simp only [Act.put, List.setIfInBounds_toArray, List.set_cons_zero, List.set_cons_succ]
                      refine wpAnyF_take (i := 10) (v := .slice (some ⟨gX, 0, none⟩) k xc) rfl (by kernel_rfl) (by kernel_rfl) (by kernel_rfl) (by kernel_rfl) (fun _ _ _ h => h) (Or.inl ⟨by rfl, ?_⟩) ⟨u0, u1, u2⟩ ?_
                      · rintro W ⟨y0, y1, y2⟩
                        go_simp
                      try simp only [Act.put, List.setIfInBounds_toArray, List.set_cons_zero, List.set_cons_succ]
                      refine wpAnyF_take (i := 11) (v := .int .i64 m) rfl (by kernel_rfl) (by kernel_rfl) (by kernel_rfl) (by kernel_rfl) (fun _ _ _ h => h) (Or.inl ⟨by rfl, ?_⟩) ⟨u0, u1, u2⟩ ?_
                      · rintro W ⟨y0, y1, y2⟩
                        go_simp
                      try simp only [Act.put, List.setIfInBounds_toArray, List.set_cons_zero, List.set_cons_succ]
                      refine wpAnyF_take (i := 12) (v := .pointer (some ⟨gX, m, none⟩)) rfl (by kernel_rfl) (by kernel_rfl) (by kernel_rfl) (by kernel_rfl) (fun _ _ _ h => h) (Or.inl ⟨by rfl, ?_⟩) ⟨u0, u1, u2⟩ ?_
                      · rintro W ⟨y0, y1, y2⟩
                        go_simp
                      try simp only [Act.put, List.setIfInBounds_toArray, List.set_cons_zero, List.set_cons_succ]
                      refine wpAnyF_take (i := 13) (v := .int .i64 nv2) rfl (by kernel_rfl) (by kernel_rfl) (by kernel_rfl) (by kernel_rfl) (fun _ _ _ h => h) (Or.inl ⟨by rfl, ?_⟩) ⟨u0, u1, u2⟩ ?_
                      · rintro W ⟨y0, y1, y2⟩
                        go_simp
                      try simp only [Act.put, List.setIfInBounds_toArray, List.set_cons_zero, List.set_cons_succ]
                      refine wpAnyF_take (i := 14) (v := .agg #[.int .i64 t, .int .i64 m, .int .i64 nv2]) rfl (by kernel_rfl) (by kernel_rfl) (by kernel_rfl) (by kernel_rfl) (fun _ _ _ h => h) (Or.inl ⟨by rfl, ?_⟩) ⟨u0, u1, u2⟩ ?_
                      · rintro W ⟨y0, y1, y2⟩
                        go_simp
                      try simp only [Act.put, List.setIfInBounds_toArray, List.set_cons_zero, List.set_cons_succ]
                      have hwcb : Below w5.heap.size w5 (w5.alloc (.cells #[.int .i64 t, .int .i64 m, .int .i64 nv2] 58)) := (Below.refl _ _).alloc (Nat.le_refl _) _
                      have hqq : w0.heap.size ≤ (w5.alloc (.cells #[.int .i64 t, .int .i64 m, .int .i64 nv2] 58)).heap.size := by have h1 := HBd.out.size; have h2 := hwcb.size; omega
                      have hown5 : w5.ownsRow w0.heap.size 58 3 EV' el (flatE (ed ++ edgesTo t nets s2.nets m)) := by have h := HPd.out.2.2.2.2.2.1; rwa [HEL2.out] at h
                      have hown0 := hown5.alloc (.cells #[.int .i64 t, .int .i64 m, .int .i64 nv2] 58)
                      have hrq : some gp ≠ EV'.ownBlock := own_ne hown5 HPd.out.1 (by decide)
                      have hxq : some gX ≠ EV'.ownBlock := own_ne_own hown5 HPd.out.2.1 (by decide) rfl
                      have H5 := Lib.hid hown5; clear hown5
                      refine wpAnyF_one (i := 15) rfl (by kernel_rfl) (fun K hK => ?_)
                      go_simp
                      refine hK _ _ (fun _ => ⟨pw_cell_below hwcb u0, pw_cell_below hwcb u1, pw_cell_below hwcb u2⟩) ?_
                      clear hK K
                      try simp only [Act.put, List.setIfInBounds_toArray, List.set_cons_zero, List.set_cons_succ]
                      refine wpAnyF_one (i := 16) rfl (by kernel_rfl) (fun K hK => ?_)
                      refine step_append_lies _ (by rfl) _ _ _ (by rfl) w0.heap.size 58 i58 (.agg #[.int .i64 0, .int .i64 0, .int .i64 0]) 3 24 Try.underlying54 hi58 hz58 hs58 hb58 rfl (by omega) EV' el (flatE (ed ++ edgesTo t nets s2.nets m)) (by rfl) hown0 ⟨w5.heap.size, 0, none⟩ 1 1 [.int .i64 t, .int .i64 m, .int .i64 nv2] (by rfl) (by rfl) (World.news_of_block (cs := #[.int .i64 t, .int .i64 m, .int .i64 nv2]) (t := 58) (fr := (0, 0)) (heap_alloc_new w5 _)) (by simp [Value.oneCell']) Nat.one_pos (by simp only [maxLen]; omega) (by omega) hqq (w5.heap.size + 1) (Array.size_push _) ?_
                      intro gg cap w6 hown1 hgrow hat hlt1
                      have z0 := hgrow.cell (pw_cell_below hwcb u0) hrq
                      have z1 := hgrow.cell (pw_cell_below hwcb u1) hrq
                      have z2 := hgrow.cell (pw_cell_below hwcb u2) hxq
                      have HR6 := Lib.hid (blk_grown (blk_below HPd.out.1 hwcb) hgrow hrq)
                      have zf := blk_frozen HR6.out 6
                      refine hK _ _ (fun _ => ⟨z0, z1, z2⟩) ?_
                      clear hK K
                      try simp only [Act.put, List.setIfInBounds_toArray, List.set_cons_zero, List.set_cons_succ]
                      have HG6 := Lib.hid (World.grownBy.trans (World.grownBy_alloc w5 _ _) hgrow)
                      have HB6 : Hid (Below w0.heap.size w0 w6) := Lib.hid ((HBd.out.alloc HBd.out.size _).grown hgrow hqq (own_base H5.out))
                      have H1 := Lib.hid hown1; clear hown1 hgrow hat
                      clear u0 u1 u2 hown0 hwcb hqq
                      refine wpAnyF_one (i := 17) rfl (by kernel_rfl) (fun K hK => ?_)
                      go_simp
                      refine hK _ _ (fun _ => ⟨z0, z1, z2⟩) ?_
                      clear hK K
                      try simp only [Act.put, List.setIfInBounds_toArray, List.set_cons_zero, List.set_cons_succ]
                      refine wpAnyF_one (i := 18) rfl (by kernel_rfl) (fun K hK => ?_)
                      go_simp
                      refine hK _ _ (fun _ => ⟨z0, z1, z2⟩) ?_
                      clear hK K
                      try simp only [Act.put, List.setIfInBounds_toArray, List.set_cons_zero, List.set_cons_succ]
                      refine wpAnyF_one (i := 19) rfl (by kernel_rfl) (fun K hK => ?_)
                      go_simp
                      refine hK _ _ (fun h => absurd rfl h) ?_
                      clear hK K
                      refine wpAnyF_done (by kernel_rfl) ?_ _
                      obtain ⟨wz, hwz⟩ : ∃ wz, w6.setCell ⟨gp, 6, none⟩ (.slice (some ⟨gg, 0, none⟩) (el + 1) cap) = wz := ⟨_, rfl⟩
                      have HPn : Hid (PlaySt w0.heap.size wz gp k gn gc GA (.slice (some ⟨gX, 0, none⟩) k xc) (.slice VA gn vc) (.slice DA dn dc) qk' (.slice (some ⟨gg, 0, none⟩) (el + 1) cap) s2.nets s2.gv ds s2.q (ed ++ edgesTo t nets s2.nets (m + 1))) := Lib.hid (by
                        rw [HES.out, ← hwz]
                        have h := PlaySt.edge (e := ⟨t, m, nv2⟩) HEL2.out HPd.out H1.out HG6.out
                        rw [show nv2 = nv from HNV2.out.symm.trans HNV.out] at h
                        exact h)
                      have HBn : Hid (Below w0.heap.size w0 wz) := Lib.hid (by rw [← hwz]; exact HB6.out.trans ((KeptS.setCell (S := (· = gp)) (p := ⟨gp, 6, none⟩) rfl _).below HB6.out.size (fun i h => by rw [h]; exact hrb)))
                      have HVn : Hid (wz.ownsRow w.heap.size 3 1 (.slice (some ⟨gB, 0, none⟩) k bc) k (nums .i64 nets)) := Lib.hid (by
                        rw [← hwz]
                        exact own_setCell (own_other HVd.out HG6.out (own_type_ne HVd.out H5.out (by decide))) (p := ⟨gp, 6, none⟩) (fun e => by have h2 := own_base HVd.out gp e.symm; omega) _)
                      rw [hwz]
                      clear hwz
                      go_wp2_with fail
                      first
                      | exact ⟨⟨m + 1, _, by omega, by go_num, HBn, HPn, HVn⟩, by simp [intOf]; omega⟩
                      | (go_roundw; (case rel => exact ⟨m + 1, _, by omega, by go_num, HBn, HPn, HVn⟩); (case measure => simp [intOf]; omega))
                  · have hlm2 : decide ((m : Int) < (k : Int)) = false := by simp; omega
                    have hmn : m = k := by omega
                    have HPf : Hid (PlaySt w0.heap.size wm gp k gn gc GA (.slice (some ⟨gX, 0, none⟩) k xc) (.slice VA gn vc) (.slice DA dn dc) qk' EV' s2.nets s2.gv ds s2.q (ed ++ edgesTo t nets s2.nets k)) := Lib.hid (by have h := hPm.out; rw [hmn] at h; exact h)
                    obtain ⟨el, hel2⟩ : ∃ el, (ed ++ edgesTo t nets s2.nets k).length = el := ⟨_, rfl⟩
                    have hE := HPf.out.2.2.2.2.2.1
                    rw [hel2] at hE
                    obtain ⟨EA, ec, rfl⟩ := own_slice hE
                    have HEL2 := Lib.hid hel2
                    have c6 : wm.cell? ⟨gp, 6, none⟩ = some (.slice EA el ec) := (blk_cell HPf.out.1 6).trans rfl
                    clear hE hel2 hmn hPm
                    by_cases h60 : 60 < el
                    · go_wp2_with fail
                      go_ret
                      exact ⟨some s2, HRR.out, ⟨by rw [if_pos (by rw [HEL2.out]; exact h60)]; rfl, HGD8.out, HQE.out, _, _, _, HPf.out⟩, hBm.out⟩
                    · go_wp2_with fail
                      go_ret
                      exact ⟨some s2, HRR.out, ⟨by rw [if_neg (by rw [HEL2.out]; exact h60)]; rfl, HGD8.out, HQE.out, _, _, _, HPf.out⟩, hBm.out⟩
              · go_wp2_with fail
                have HFST := mov_first HGO.out HANYV.out HMV.out
                have HRR := Lib.hid (fun r h => hRUN.out r (runs_no HANYV.out (by have := HSL.out; omega) HMV.out h))
                have HQN : Hid ((rndS k gs t ov (decide (t = 0) && first) s).q.length + 60 * (2 * (102 - seen.length) + fstOf (.bool false)) ≤ q.length + 60 * 203) := Lib.hid (by have h1 := hQL.out; have h2 := HQ8.out; rw [HFST] at h1 h2 ⊢; simp only [fstOf] at h1 ⊢; omega)
                first
                | exact ⟨⟨seen, false, _, _, qk', AS, sl, cS, rfl, rfl, HSE8, HPL8, HBR8, HRR, HGD8, hs101, hs1, HSL, hLEN, HQN⟩, by rw [HFST]; simp only [lenOf2, fstOf]; omega⟩
                | (go_roundw; (case rel => exact ⟨seen, false, _, _, qk', AS, sl, cS, rfl, rfl, HSE8, HPL8, HBR8, HRR, HGD8, hs101, hs1, HSL, hLEN, HQN⟩); (case measure => rw [HFST]; simp only [lenOf2, fstOf]; omega))
            · have HAL : Hid ((decide (t = 0) && first) = first) := Lib.hid (by rw [HTB.out]; rfl)
              go_wp2_with fail
              refine (rask96_any w0 (wy.setCell ⟨gp, 2, none⟩ (.slice (some ⟨gX, 0, none⟩) k xc)) gp k gn gc w4.heap.size GA gs _ _ _ qk EV t first ch X s.gv s.q HB0q.out HG.out hrb K1.out K2.out K3.out K5.out K7.out HMq.out HCL.out HGO.out h1 h40 hg60 ht0 ht1 HQS.out HXL.out hGD.out.lg).mono ?_
              rintro e w8 ⟨rfl, hst⟩
              obtain ⟨hrs, hmv⟩ := rnd_is (t := t) (al := first) HX.out HCH.out HGL.out
              obtain ⟨qk', hpl8⟩ := HPLq.out.ask hst
              have HPL8 : Hid (RPl w0.heap.size w w8 gp k gn gc GA (.slice (some ⟨gX, 0, none⟩) k xc) (.slice VA gn vc) (.slice DA dn dc) QV EV qk' (rndS k gs t ov (decide (t = 0) && first) s) ds ed) := Lib.hid (by rw [HAL.out, hrs]; exact hpl8)
              have HBR8 := Lib.hid (HPLq.out.keep hst hgw HGW.out HBRq.out)
              have HSE8 := Lib.hid (HPLq.out.seen hst hgw HGW.out HSEq.out)
              have HB08 := Lib.hid (HBASE.out _ _ _ _ hpl8)
              have HGD8 := Lib.hid (hGD.out.rnd (t := t) (all := decide (t = 0) && first) HGO.out HGL.out HOV.out.len HVO.out)
              have HQ8 : Hid ((rndS k gs t ov (decide (t = 0) && first) s).q.length ≤ s.q.length + 60) := Lib.hid (by have := rnd_qlen (nn := k) (gs := gs) (t := t) (all := decide (t = 0) && first) (ov := ov) (s := s); have h2 := HGL.out; omega)
              have HMB8 : Hid (w8.heap[w4.heap.size]? = wy.heap[w4.heap.size]?) := Lib.hid ((hst.1.block _ HMq.out.lt (fun h => by
                obtain ⟨es, ce, hmb⟩ := HMq.out.map
                rcases h with e | e | e
                · rw [e, K1.out] at hmb; cases hmb
                · exact own_ne_map (m := #[]) (k := 0) K3.out hmb (fun _ _ _ h => by cases h) e
                · exact own_ne_map (m := #[]) (k := 0) K5.out hmb (fun _ _ _ h => by cases h) e)).trans HMBq.out)
              have hl38 := HLEN.out w8 3 HMB8.out
              rw [← hmv]
              obtain ⟨mv, hmm⟩ : ∃ mv, rndMov k gs t ov first s = mv := ⟨_, rfl⟩
              rw [hmm]
              have HMV : Hid (rndMov k gs t ov (decide (t = 0) && first) s = mv) := Lib.hid (by rw [HAL.out]; exact hmm)
              clear hst hrs hpl8 hmv hmm
              cases mv
              · go_wp2_with fail
                have HRR : Hid (RunsR k gs t ov [nets] true ⟨gv, nets, q⟩ (some (rndS k gs t ov (decide (t = 0) && first) s))) := Lib.hid (hRUN.out _ (runs_stop HANYV.out (by have := HSL.out; omega) HMV.out))
                have HQE : Hid ((rndS k gs t ov (decide (t = 0) && first) s).q.length ≤ q.length + 60 * 203) := Lib.hid (by have h1 := hQL.out; have h2 := HQ8.out; have h3 := HSL.out; omega)
                obtain ⟨s2, hs2⟩ : ∃ s2, rndS k gs t ov (decide (t = 0) && first) s = s2 := ⟨_, rfl⟩
                rw [hs2] at HRR HQE HPL8 HGD8
                clear hs2 HQ8
                have HPS : Hid (PlaySt w0.heap.size w8 gp k gn gc GA (.slice (some ⟨gX, 0, none⟩) k xc) (.slice VA gn vc) (.slice DA dn dc) qk' EV s2.nets s2.gv ds s2.q (ed ++ edgesTo t nets s2.nets 0)) := Lib.hid (by have h := HPL8.out.2.1; rwa [show ed = ed ++ edgesTo t nets s2.nets 0 from (List.append_nil _).symm] at h)
                clear HPL8 HSE8 HMV
                go_loopw [12] (fun i wr => ∃ (m : Nat) (EV' : Value), m ≤ k ∧ i = .int .i64 m ∧ Hid (Below w0.heap.size w0 wr) ∧ Hid (PlaySt w0.heap.size wr gp k gn gc GA (.slice (some ⟨gX, 0, none⟩) k xc) (.slice VA gn vc) (.slice DA dn dc) qk' EV' s2.nets s2.gv ds s2.q (ed ++ edgesTo t nets s2.nets m)) ∧ Hid (wr.ownsRow w.heap.size 3 1 (.slice BA k bc) k (nums .i64 nets))) (fun i _ => k - (intOf i).toNat)
                case atStart => exact ⟨0, EV, Nat.zero_le _, rfl, HB08, HPS, HBR8⟩
                case round =>
                  obtain ⟨m, EV', hm, rfl, hBm, hPm, hVm⟩ := hrel
                  clear HPS HBR8 HB08 hl38
                  obtain ⟨wm, rfl⟩ : ∃ wm : World, wm = wr := ⟨_, rfl⟩
                  have c0 : wm.cell? ⟨gp, 0, none⟩ = some (.int .i64 k) := (blk_cell hPm.out.1 0).trans rfl
                  by_cases hlm : m < k
                  · have hlm2 : decide ((m : Int) < (k : Int)) = true := by simp; omega
                    have hm0 : (0 : Int) ≤ (m : Int) := by omega
                    have hm1 : (m : Int) < (k : Int) := by omega
                    have c2 : wm.cell? ⟨gp, 2, none⟩ = some (.slice (some ⟨gX, 0, none⟩) k xc) := (blk_cell hPm.out.1 2).trans rfl
                    obtain ⟨gB, bc', e1, _, _, _⟩ := own_cells hVm.out (by omega)
                    injection e1 with e1 _ e3
                    subst e1 e3
                    have n0 := (own_get hPm.out.2.1 m hlm).1
                    have b0 := (own_get hVm.out m hlm).1
                    obtain ⟨nv, hnv⟩ : ∃ nv, s2.nets.getD m 0 = nv := ⟨_, rfl⟩
                    obtain ⟨bv, hbv⟩ : ∃ bv, nets.getD m 0 = bv := ⟨_, rfl⟩
                    rw [hnv] at n0
                    rw [hbv] at b0
                    by_cases hv : nv = bv
                    · have hvb : (nv != bv) = false := by simpa using hv
                      have HPn : Hid (PlaySt w0.heap.size wm gp k gn gc GA (.slice (some ⟨gX, 0, none⟩) k xc) (.slice VA gn vc) (.slice DA dn dc) qk' EV' s2.nets s2.gv ds s2.q (ed ++ edgesTo t nets s2.nets (m + 1))) := Lib.hid (by rw [edges_no hnv hbv hv]; exact hPm.out)
                      clear hnv hbv hv
                      go_wp2_with fail
                      go_quiet (fail)
                      have HPq := Lib.hid (HPn.out.below (pw_below_drewN (n := nq) (Below.refl _ _)))
                      have HBq := Lib.hid (pw_below_drewN hBm.out nq)
                      have HVq := Lib.hid (pw_own_below hVm.out (pw_below_drewN (n := nq) (Below.refl _ _)))
                      clear c0 c2 n0 b0 hBm hPm hVm HPn
                      generalize wm.drewN nq = wq2 at *
                      go_wp2_with fail
                      go_roundw
                      case rel => exact ⟨m + 1, EV', by omega, by go_num, HBq, HPq, HVq⟩
                      case measure => simp [intOf]; omega
                    · have hvb : (nv != bv) = true := by simpa using hv
                      have HES := Lib.hid (edges_yes (ed := ed) (t := t) hnv hbv hv)
                      obtain ⟨el, hel2⟩ : ∃ el, (ed ++ edgesTo t nets s2.nets m).length = el := ⟨_, rfl⟩
                      have HEL2 := Lib.hid hel2
                      have hel3 : el ≤ 100 := by have h1 := edgesTo_len t nets s2.nets m; rw [← hel2, List.length_append]; omega
                      have HNV := Lib.hid hnv
                      clear hnv hbv hv hel2
                      go_wp2_with fail
                      go_quiet (fail)
                      have HPq := Lib.hid (hPm.out.below (pw_below_drewN (n := nq) (Below.refl _ _)))
                      have HBq := Lib.hid (pw_below_drewN hBm.out nq)
                      have HVq := Lib.hid (pw_own_below hVm.out (pw_below_drewN (n := nq) (Below.refl _ _)))
                      clear c0 c2 n0 b0 hBm hPm hVm
                      generalize wm.drewN nq = wq2 at *
                      have u0 : wq2.drew.cell? ⟨gp, 6, none⟩ = some EV' := (blk_cell HPq.out.1 6).trans rfl
                      have u1 : wq2.drew.cell? ⟨gp, 2, none⟩ = some (.slice (some ⟨gX, 0, none⟩) k xc) := (blk_cell HPq.out.1 2).trans rfl
                      have u2 : wq2.drew.cell? ⟨gX, m, none⟩ = some (.int .i64 (s2.nets.getD m 0)) := (own_get HPq.out.2.1 m hlm).1
                      obtain ⟨nv2, hnv2⟩ : ∃ nv2, s2.nets.getD m 0 = nv2 := ⟨_, rfl⟩
                      have HPd : Hid (PlaySt w0.heap.size wq2.drew gp k gn gc GA (.slice (some ⟨gX, 0, none⟩) k xc) (.slice VA gn vc) (.slice DA dn dc) qk' EV' s2.nets s2.gv ds s2.q (ed ++ edgesTo t nets s2.nets m)) := Lib.hid (HPq.out.below (pw_below_drewN (n := 1) (Below.refl _ _)))
                      have HBd : Hid (Below w0.heap.size w0 wq2.drew) := Lib.hid (pw_below_drewN HBq.out 1)
                      have HVd : Hid (wq2.drew.ownsRow w.heap.size 3 1 (.slice (some ⟨gB, 0, none⟩) k bc) k (nums .i64 nets)) := Lib.hid (pw_own_below HVq.out (pw_below_drewN (n := 1) (Below.refl _ _)))
                      rw [hnv2] at u2
                      have HNV2 := Lib.hid hnv2
                      clear hnv2
                      go_wp2_with fail
                      refine wp_region_named 19 (fun w' => w'.cell? ⟨gp, 6, none⟩ = some EV' ∧ w'.cell? ⟨gp, 2, none⟩ = some (.slice (some ⟨gX, 0, none⟩) k xc) ∧ w'.cell? ⟨gX, m, none⟩ = some (.int .i64 nv2)) (fun w' => (w'.cell? ⟨gp, 6, none⟩ = some EV') ∧ (w'.cell? ⟨gp, 2, none⟩ = some (.slice (some ⟨gX, 0, none⟩) k xc)) ∧ (w'.cell? ⟨gX, m, none⟩ = some (.int .i64 nv2)) ∧ (Hid (Below w0.heap.size w0 w')) ∧ (Hid (PlaySt w0.heap.size w' gp k gn gc GA (.slice (some ⟨gX, 0, none⟩) k xc) (.slice VA gn vc) (.slice DA dn dc) qk' EV' s2.nets s2.gv ds s2.q (ed ++ edgesTo t nets s2.nets m))) ∧ (Hid (w'.ownsRow w.heap.size 3 1 (.slice (some ⟨gB, 0, none⟩) k bc) k (nums .i64 nets)))) (by kernel_rfl) ⟨u0, u1, u2, HBd, HPd, HVd⟩ ?_
                      rintro w5 ⟨u0, u1, u2, HBd, HPd, HVd⟩
                      refine wpAnyF_take (i := 0) (v := .pointer (some ⟨gp, 0, none⟩)) rfl (by kernel_rfl) (by kernel_rfl) (by kernel_rfl) (by kernel_rfl) (fun _ _ _ h => h) (Or.inl ⟨by rfl, ?_⟩) ⟨u0, u1, u2⟩ ?_
                      · rintro W ⟨y0, y1, y2⟩
                        go_simp
                      try simp only [Act.put, List.setIfInBounds_toArray, List.set_cons_zero, List.set_cons_succ]
                      refine wpAnyF_take (i := 1) (v := .pointer (some ⟨gp, 0, none⟩)) rfl (by kernel_rfl) (by kernel_rfl) (by kernel_rfl) (by kernel_rfl) (fun _ _ _ h => h) (Or.inl ⟨by rfl, ?_⟩) ⟨u0, u1, u2⟩ ?_
                      · rintro W ⟨y0, y1, y2⟩
                        go_simp
                      try simp only [Act.put, List.setIfInBounds_toArray, List.set_cons_zero, List.set_cons_succ]
                      refine wpAnyF_take (i := 2) (v := .pointer (some ⟨gp, 0, none⟩)) rfl (by kernel_rfl) (by kernel_rfl) (by kernel_rfl) (by kernel_rfl) (fun _ _ _ h => h) (Or.inl ⟨by rfl, ?_⟩) ⟨u0, u1, u2⟩ ?_
                      · rintro W ⟨y0, y1, y2⟩
                        go_simp
                      try simp only [Act.put, List.setIfInBounds_toArray, List.set_cons_zero, List.set_cons_succ]
                      refine wpAnyF_take (i := 3) (v := .pointer (some ⟨gp, 6, none⟩)) rfl (by kernel_rfl) (by kernel_rfl) (by kernel_rfl) (by kernel_rfl) (fun _ _ _ h => h) (Or.inl ⟨by rfl, ?_⟩) ⟨u0, u1, u2⟩ ?_
                      · rintro W ⟨y0, y1, y2⟩
                        go_simp
                      try simp only [Act.put, List.setIfInBounds_toArray, List.set_cons_zero, List.set_cons_succ]
                      refine wpAnyF_take (i := 4) (v := EV') rfl (by kernel_rfl) (by kernel_rfl) (by kernel_rfl) (by kernel_rfl) (fun _ _ _ h => h) (Or.inl ⟨by rfl, ?_⟩) ⟨u0, u1, u2⟩ ?_
                      · rintro W ⟨y0, y1, y2⟩
                        go_simp
                      try simp only [Act.put, List.setIfInBounds_toArray, List.set_cons_zero, List.set_cons_succ]
                      refine wpAnyF_take (i := 5) (v := .int .i64 t) rfl (by kernel_rfl) (by kernel_rfl) (by kernel_rfl) (by kernel_rfl) (fun _ _ _ h => h) (Or.inl ⟨by rfl, ?_⟩) ⟨u0, u1, u2⟩ ?_
                      · rintro W ⟨y0, y1, y2⟩
                        go_simp
                      try simp only [Act.put, List.setIfInBounds_toArray, List.set_cons_zero, List.set_cons_succ]
                      refine wpAnyF_take (i := 6) (v := .int .i64 m) rfl (by kernel_rfl) (by kernel_rfl) (by kernel_rfl) (by kernel_rfl) (fun _ _ _ h => h) (Or.inl ⟨by rfl, ?_⟩) ⟨u0, u1, u2⟩ ?_
                      · rintro W ⟨y0, y1, y2⟩
                        go_simp
                      try simp only [Act.put, List.setIfInBounds_toArray, List.set_cons_zero, List.set_cons_succ]
                      refine wpAnyF_take (i := 7) (v := .pointer (some ⟨gp, 0, none⟩)) rfl (by kernel_rfl) (by kernel_rfl) (by kernel_rfl) (by kernel_rfl) (fun _ _ _ h => h) (Or.inl ⟨by rfl, ?_⟩) ⟨u0, u1, u2⟩ ?_
                      · rintro W ⟨y0, y1, y2⟩
                        go_simp
                      try simp only [Act.put, List.setIfInBounds_toArray, List.set_cons_zero, List.set_cons_succ]
                      refine wpAnyF_take (i := 8) (v := .pointer (some ⟨gp, 0, none⟩)) rfl (by kernel_rfl) (by kernel_rfl) (by kernel_rfl) (by kernel_rfl) (fun _ _ _ h => h) (Or.inl ⟨by rfl, ?_⟩) ⟨u0, u1, u2⟩ ?_
                      · rintro W ⟨y0, y1, y2⟩
                        go_simp
                      try simp only [Act.put, List.setIfInBounds_toArray, List.set_cons_zero, List.set_cons_succ]
                      refine wpAnyF_take (i := 9) (v := .pointer (some ⟨gp, 2, none⟩)) rfl (by kernel_rfl) (by kernel_rfl) (by kernel_rfl) (by kernel_rfl) (fun _ _ _ h => h) (Or.inl ⟨by rfl, ?_⟩) ⟨u0, u1, u2⟩ ?_
                      · rintro W ⟨y0, y1, y2⟩
                        go_simp
                      try simp only [Act.put, List.setIfInBounds_toArray, List.set_cons_zero, List.set_cons_succ]
                      refine wpAnyF_take (i := 10) (v := .slice (some ⟨gX, 0, none⟩) k xc) rfl (by kernel_rfl) (by kernel_rfl) (by kernel_rfl) (by kernel_rfl) (fun _ _ _ h => h) (Or.inl ⟨by rfl, ?_⟩) ⟨u0, u1, u2⟩ ?_
                      · rintro W ⟨y0, y1, y2⟩
                        go_simp
                      try simp only [Act.put, List.setIfInBounds_toArray, List.set_cons_zero, List.set_cons_succ]
                      refine wpAnyF_take (i := 11) (v := .int .i64 m) rfl (by kernel_rfl) (by kernel_rfl) (by kernel_rfl) (by kernel_rfl) (fun _ _ _ h => h) (Or.inl ⟨by rfl, ?_⟩) ⟨u0, u1, u2⟩ ?_
                      · rintro W ⟨y0, y1, y2⟩
                        go_simp
                      try simp only [Act.put, List.setIfInBounds_toArray, List.set_cons_zero, List.set_cons_succ]
                      refine wpAnyF_take (i := 12) (v := .pointer (some ⟨gX, m, none⟩)) rfl (by kernel_rfl) (by kernel_rfl) (by kernel_rfl) (by kernel_rfl) (fun _ _ _ h => h) (Or.inl ⟨by rfl, ?_⟩) ⟨u0, u1, u2⟩ ?_
                      · rintro W ⟨y0, y1, y2⟩
                        go_simp
                      try simp only [Act.put, List.setIfInBounds_toArray, List.set_cons_zero, List.set_cons_succ]
                      refine wpAnyF_take (i := 13) (v := .int .i64 nv2) rfl (by kernel_rfl) (by kernel_rfl) (by kernel_rfl) (by kernel_rfl) (fun _ _ _ h => h) (Or.inl ⟨by rfl, ?_⟩) ⟨u0, u1, u2⟩ ?_
                      · rintro W ⟨y0, y1, y2⟩
                        go_simp
                      try simp only [Act.put, List.setIfInBounds_toArray, List.set_cons_zero, List.set_cons_succ]
                      refine wpAnyF_take (i := 14) (v := .agg #[.int .i64 t, .int .i64 m, .int .i64 nv2]) rfl (by kernel_rfl) (by kernel_rfl) (by kernel_rfl) (by kernel_rfl) (fun _ _ _ h => h) (Or.inl ⟨by rfl, ?_⟩) ⟨u0, u1, u2⟩ ?_
                      · rintro W ⟨y0, y1, y2⟩
                        go_simp
                      try simp only [Act.put, List.setIfInBounds_toArray, List.set_cons_zero, List.set_cons_succ]
                      have hwcb : Below w5.heap.size w5 (w5.alloc (.cells #[.int .i64 t, .int .i64 m, .int .i64 nv2] 58)) := (Below.refl _ _).alloc (Nat.le_refl _) _
                      have hqq : w0.heap.size ≤ (w5.alloc (.cells #[.int .i64 t, .int .i64 m, .int .i64 nv2] 58)).heap.size := by have h1 := HBd.out.size; have h2 := hwcb.size; omega
                      have hown5 : w5.ownsRow w0.heap.size 58 3 EV' el (flatE (ed ++ edgesTo t nets s2.nets m)) := by have h := HPd.out.2.2.2.2.2.1; rwa [HEL2.out] at h
                      have hown0 := hown5.alloc (.cells #[.int .i64 t, .int .i64 m, .int .i64 nv2] 58)
                      have hrq : some gp ≠ EV'.ownBlock := own_ne hown5 HPd.out.1 (by decide)
                      have hxq : some gX ≠ EV'.ownBlock := own_ne_own hown5 HPd.out.2.1 (by decide) rfl
                      have H5 := Lib.hid hown5; clear hown5
                      refine wpAnyF_one (i := 15) rfl (by kernel_rfl) (fun K hK => ?_)
                      go_simp
                      refine hK _ _ (fun _ => ⟨pw_cell_below hwcb u0, pw_cell_below hwcb u1, pw_cell_below hwcb u2⟩) ?_
                      clear hK K
                      try simp only [Act.put, List.setIfInBounds_toArray, List.set_cons_zero, List.set_cons_succ]
                      refine wpAnyF_one (i := 16) rfl (by kernel_rfl) (fun K hK => ?_)
                      refine step_append_lies _ (by rfl) _ _ _ (by rfl) w0.heap.size 58 i58 (.agg #[.int .i64 0, .int .i64 0, .int .i64 0]) 3 24 Try.underlying54 hi58 hz58 hs58 hb58 rfl (by omega) EV' el (flatE (ed ++ edgesTo t nets s2.nets m)) (by rfl) hown0 ⟨w5.heap.size, 0, none⟩ 1 1 [.int .i64 t, .int .i64 m, .int .i64 nv2] (by rfl) (by rfl) (World.news_of_block (cs := #[.int .i64 t, .int .i64 m, .int .i64 nv2]) (t := 58) (fr := (0, 0)) (heap_alloc_new w5 _)) (by simp [Value.oneCell']) Nat.one_pos (by simp only [maxLen]; omega) (by omega) hqq (w5.heap.size + 1) (Array.size_push _) ?_
                      intro gg cap w6 hown1 hgrow hat hlt1
                      have z0 := hgrow.cell (pw_cell_below hwcb u0) hrq
                      have z1 := hgrow.cell (pw_cell_below hwcb u1) hrq
                      have z2 := hgrow.cell (pw_cell_below hwcb u2) hxq
                      have HR6 := Lib.hid (blk_grown (blk_below HPd.out.1 hwcb) hgrow hrq)
                      have zf := blk_frozen HR6.out 6
                      refine hK _ _ (fun _ => ⟨z0, z1, z2⟩) ?_
                      clear hK K
                      try simp only [Act.put, List.setIfInBounds_toArray, List.set_cons_zero, List.set_cons_succ]
                      have HG6 := Lib.hid (World.grownBy.trans (World.grownBy_alloc w5 _ _) hgrow)
                      have HB6 : Hid (Below w0.heap.size w0 w6) := Lib.hid ((HBd.out.alloc HBd.out.size _).grown hgrow hqq (own_base H5.out))
                      have H1 := Lib.hid hown1; clear hown1 hgrow hat
                      clear u0 u1 u2 hown0 hwcb hqq
                      refine wpAnyF_one (i := 17) rfl (by kernel_rfl) (fun K hK => ?_)
                      go_simp
                      refine hK _ _ (fun _ => ⟨z0, z1, z2⟩) ?_
                      clear hK K
                      try simp only [Act.put, List.setIfInBounds_toArray, List.set_cons_zero, List.set_cons_succ]
                      refine wpAnyF_one (i := 18) rfl (by kernel_rfl) (fun K hK => ?_)
                      go_simp
                      refine hK _ _ (fun _ => ⟨z0, z1, z2⟩) ?_
                      clear hK K
                      try simp only [Act.put, List.setIfInBounds_toArray, List.set_cons_zero, List.set_cons_succ]
                      refine wpAnyF_one (i := 19) rfl (by kernel_rfl) (fun K hK => ?_)
                      go_simp
                      refine hK _ _ (fun h => absurd rfl h) ?_
                      clear hK K
                      refine wpAnyF_done (by kernel_rfl) ?_ _
                      obtain ⟨wz, hwz⟩ : ∃ wz, w6.setCell ⟨gp, 6, none⟩ (.slice (some ⟨gg, 0, none⟩) (el + 1) cap) = wz := ⟨_, rfl⟩
                      have HPn : Hid (PlaySt w0.heap.size wz gp k gn gc GA (.slice (some ⟨gX, 0, none⟩) k xc) (.slice VA gn vc) (.slice DA dn dc) qk' (.slice (some ⟨gg, 0, none⟩) (el + 1) cap) s2.nets s2.gv ds s2.q (ed ++ edgesTo t nets s2.nets (m + 1))) := Lib.hid (by
                        rw [HES.out, ← hwz]
                        have h := PlaySt.edge (e := ⟨t, m, nv2⟩) HEL2.out HPd.out H1.out HG6.out
                        rw [show nv2 = nv from HNV2.out.symm.trans HNV.out] at h
                        exact h)
                      have HBn : Hid (Below w0.heap.size w0 wz) := Lib.hid (by rw [← hwz]; exact HB6.out.trans ((KeptS.setCell (S := (· = gp)) (p := ⟨gp, 6, none⟩) rfl _).below HB6.out.size (fun i h => by rw [h]; exact hrb)))
                      have HVn : Hid (wz.ownsRow w.heap.size 3 1 (.slice (some ⟨gB, 0, none⟩) k bc) k (nums .i64 nets)) := Lib.hid (by
                        rw [← hwz]
                        exact own_setCell (own_other HVd.out HG6.out (own_type_ne HVd.out H5.out (by decide))) (p := ⟨gp, 6, none⟩) (fun e => by have h2 := own_base HVd.out gp e.symm; omega) _)
                      rw [hwz]
                      clear hwz
                      go_wp2_with fail
                      first
                      | exact ⟨⟨m + 1, _, by omega, by go_num, HBn, HPn, HVn⟩, by simp [intOf]; omega⟩
                      | (go_roundw; (case rel => exact ⟨m + 1, _, by omega, by go_num, HBn, HPn, HVn⟩); (case measure => simp [intOf]; omega))
                  · have hlm2 : decide ((m : Int) < (k : Int)) = false := by simp; omega
                    have hmn : m = k := by omega
                    have HPf : Hid (PlaySt w0.heap.size wm gp k gn gc GA (.slice (some ⟨gX, 0, none⟩) k xc) (.slice VA gn vc) (.slice DA dn dc) qk' EV' s2.nets s2.gv ds s2.q (ed ++ edgesTo t nets s2.nets k)) := Lib.hid (by have h := hPm.out; rw [hmn] at h; exact h)
                    obtain ⟨el, hel2⟩ : ∃ el, (ed ++ edgesTo t nets s2.nets k).length = el := ⟨_, rfl⟩
                    have hE := HPf.out.2.2.2.2.2.1
                    rw [hel2] at hE
                    obtain ⟨EA, ec, rfl⟩ := own_slice hE
                    have HEL2 := Lib.hid hel2
                    have c6 : wm.cell? ⟨gp, 6, none⟩ = some (.slice EA el ec) := (blk_cell HPf.out.1 6).trans rfl
                    clear hE hel2 hmn hPm
                    by_cases h60 : 60 < el
                    · go_wp2_with fail
                      go_ret
                      exact ⟨some s2, HRR.out, ⟨by rw [if_pos (by rw [HEL2.out]; exact h60)]; rfl, HGD8.out, HQE.out, _, _, _, HPf.out⟩, hBm.out⟩
                    · go_wp2_with fail
                      go_ret
                      exact ⟨some s2, HRR.out, ⟨by rw [if_neg (by rw [HEL2.out]; exact h60)]; rfl, HGD8.out, HQE.out, _, _, _, HPf.out⟩, hBm.out⟩
              · go_wp2_with fail
                have HFST := mov_first HGO.out HANYV.out HMV.out
                have HRR := Lib.hid (fun r h => hRUN.out r (runs_no HANYV.out (by have := HSL.out; omega) HMV.out h))
                have HQN : Hid ((rndS k gs t ov (decide (t = 0) && first) s).q.length + 60 * (2 * (102 - seen.length) + fstOf (.bool false)) ≤ q.length + 60 * 203) := Lib.hid (by have h1 := hQL.out; have h2 := HQ8.out; rw [HFST] at h1 h2 ⊢; simp only [fstOf] at h1 ⊢; omega)
                first
                | exact ⟨⟨seen, false, _, _, qk', AS, sl, cS, rfl, rfl, HSE8, HPL8, HBR8, HRR, HGD8, hs101, hs1, HSL, hLEN, HQN⟩, by rw [HFST]; simp only [lenOf2, fstOf]; omega⟩
                | (go_roundw; (case rel => exact ⟨seen, false, _, _, qk', AS, sl, cS, rfl, rfl, HSE8, HPL8, HBR8, HRR, HGD8, hs101, hs1, HSL, hLEN, HQN⟩); (case measure => rw [HFST]; simp only [lenOf2, fstOf]; omega))
end Go.Proofs.Ytobdhdehmkmjcaa
