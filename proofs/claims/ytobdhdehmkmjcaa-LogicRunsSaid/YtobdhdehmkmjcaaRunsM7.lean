/- Words and walks for the row RowLogicRuns, put together: M7. -/
import Derived.Test.YtobdhdehmkmjcaaRuns8
import Derived.Lib.SliceRun
namespace Go.Proofs.Ytobdhdehmkmjcaa
set_option linter.unusedVariables false
set_option linter.unusedSimpArgs false
open Go.RowKit Go.Proofs.YtobdhdehmkmjcaaW.PrintWords Go.Proofs.YtobdhdehmkmjcaaW.PrintLast

/-- The memory of a run's rounds. -/
def SetSt (B0 : Nat) (w wr : World) (gr gp nn dn gO cO gN cN : Nat) (pv qv ev : Value) (ov : List Int) (s : RS) : Prop :=
  KeptS (fun i => i = gr ∨ i = gN ∨ some i = qv.ownBlock) w wr ∧
  (∃ gD cD qk, wr.heap[gr]? = some (.cells #[.pointer (some ⟨gp, 0, none⟩), pv, qk, .slice (some ⟨gD, 0, none⟩) dn cD, .slice (some ⟨gO, 0, none⟩) nn cO, .slice (some ⟨gN, 0, none⟩) nn cN, ev] 108 (0, 0)) ∧
    wr.ownsRow B0 3 1 (.slice (some ⟨gD, 0, none⟩) dn cD) dn (nums .i64 (s.gv ++ ov)) ∧ wr.ownsRow B0 132 3 qk s.q.length (flatS s.q) ∧ gD ≠ gN ∧ (qk.ownBlock = qv.ownBlock ∨ ∃ b, qk.ownBlock = some b ∧ w.heap.size ≤ b)) ∧
  wr.ownsRow B0 3 1 (.slice (some ⟨gN, 0, none⟩) nn cN) nn (nums .i64 s.nets)
section
variable {B0 : Nat} {w wr wq : World} {gr gp nn dn gO cO gN cN : Nat} {pv qv ev : Value} {ov : List Int} {s : RS}
theorem SetSt.below (h : SetSt B0 w wr gr gp nn dn gO cO gN cN pv qv ev ov s) (hb : Below wr.heap.size wr wq) : SetSt B0 w wq gr gp nn dn gO cO gN cN pv qv ev ov s := by
  obtain ⟨h1, ⟨gD, cD, qk, h2, h3, h4, h5, h6⟩, h7⟩ := h
  exact ⟨h1.trans (T := fun _ => False) (KeptS.of_below hb) (fun _ _ h => h.elim), ⟨gD, cD, qk, blk_below h2 hb, pw_own_below h3 hb, pw_own_below h4 hb, h5, h6⟩, pw_own_below h7 hb⟩
theorem SetSt.grown {b n : Nat} {v : Value} {xs : List Value} (h : SetSt B0 w wr gr gp nn dn gO cO gN cN pv qv ev ov s) (hv : wr.ownsRow b 22 1 v n xs) (hbw : w.heap.size ≤ b) (hg : wr.grownBy wq v.ownBlock) : SetSt B0 w wq gr gp nn dn gO cO gN cN pv qv ev ov s := by
  obtain ⟨h1, ⟨gD, cD, qk, h2, h3, h4, h5, h6⟩, h7⟩ := h
  exact ⟨h1.trans (T := fun i => w.heap.size ≤ i) (KeptS.grown hg (fun k hk _ => by have := own_base hv k hk; omega)) (fun i hi h => by omega), ⟨gD, cD, qk, blk_grown h2 hg (row_ne_blk hv h2 (by decide)), own_other h3 hg (own_type_ne h3 hv (by decide)), own_other h4 hg (own_type_ne h4 hv (by decide)), h5, h6⟩, own_other h7 hg (own_type_ne h7 hv (by decide))⟩
end
/-- What settleAt answers and leaves. -/
def SetOut (B0 : Nat) (w wr : World) (gr gp nn dn gO cO gN cN : Nat) (pv qv ev : Value) (ov : List Int) (gn q0 : Nat) (r : Option RS) (e : Ending) : Prop :=
  match r with
  | none => e = .returned (.int .i64 10) ∧ KeptS (fun i => i = gr ∨ i = gN ∨ some i = qv.ownBlock) w wr
  | some s => e = .returned (.int .i64 0) ∧ SetSt B0 w wr gr gp nn dn gO cO gN cN pv qv ev ov s ∧ GoodS nn gn s ∧ s.q.length ≤ q0 + 60 * 101
theorem own_ne_own {W : World} {b b' e e' sz sz' n n' g : Nat} {v v' : Value} {xs xs' : List Value} (h : W.ownsRow b e sz v n xs) (h' : W.ownsRow b' e' sz' v' n' xs') (he : e ≠ e') (hg : v'.ownBlock = some g) : some g ≠ v.ownBlock := by
  intro e1
  rcases own_type_ne h h' he with h2 | h2
  · rw [h2] at e1; cases e1
  · exact h2 (by rw [hg]; exact e1.symm)
theorem ask_rnd {nn gn : Nat} {gs : List GateL} {t : Int} {al : Bool} {ov : List Int} {s : RS} (hg : gs.length = gn) (hl : s.gv.length = gn) :
    askTo gs t al (changedOf nn (netsOf nn gs s.gv ov) s.nets) (netsOf nn gs s.gv ov) ⟨s.gv ++ ov, s.q, false⟩ gn = ⟨(rndS nn gs t ov al s).gv ++ ov, (rndS nn gs t ov al s).q, rndMov nn gs t ov al s⟩ := by
  subst hg
  exact askTo_app _ (by omega)

set_option maxHeartbeats 8000000 in
set_option maxRecDepth 100000 in
theorem settle65_any (w0 w : World) (gr gp mb nn gn gc dn : Nat) (GA : Option Addr) (gs : List GateL) (pv qv ev : Value) (gO cO gN cN : Nat) (t : Int) (ov : List Int) (s0 : RS) (outs : List Bool)
    (hB : Below w0.heap.size w0 w) (hg : RdGates w0 GA gn gs) (hrb : w0.heap.size ≤ gr) (hp : PlayerB w gp mb (nn : Int) GA gn gc)
    (hs : SetSt w0.heap.size w w gr gp nn dn gO cO gN cN pv qv ev ov s0) (hq0 : ∀ gD cD qk, w.heap[gr]? = some (.cells #[.pointer (some ⟨gp, 0, none⟩), pv, qk, .slice (some ⟨gD, 0, none⟩) dn cD, .slice (some ⟨gO, 0, none⟩) nn cO, .slice (some ⟨gN, 0, none⟩) nn cN, ev] 108 (0, 0)) → qk = qv)
    (ho : w.ownsRow w0.heap.size 4 1 (.slice (some ⟨gO, 0, none⟩) nn cO) nn (bools outs))
    (hdn : dn = gn + nn) (hgo : gs.all (gateOk nn) = true) (h1 : 1 ≤ nn) (h40 : nn ≤ 40) (hg60 : gn ≤ 60) (ht0 : 0 ≤ t) (ht1 : t ≤ 100000) (hql : s0.q.length ≤ 50000000)
    (hgood : GoodS nn gn s0) (hol : ov.length = nn) (hov : ov.all isVal = true) (hout : ∀ n, n < nn → outs.getD n false = false → ov.getD n 0 = 4) :
    Calls Try.prog 65 #[.pointer (some ⟨gr, 0, none⟩), .int .i64 t] w fun e w' => ∃ r, RunsP nn gs t ov 0 [] s0 r ∧ SetOut w0.heap.size w w' gr gp nn dn gO cO gN cN pv qv ev ov gn s0.q.length r e := by
  obtain ⟨i2, hi2, hy0, hy1, hy2⟩ := info_parts info22
  obtain ⟨hK0, ⟨gD0, cD0, qk0, hr0, hd0, hqq0, hne0, _⟩, hn0⟩ := hs
  obtain rfl := hq0 _ _ _ hr0
  clear hq0
  have hgr := blk_lt hr0
  have hgN := own_lt hn0 gN rfl
  have HSW : Hid (∀ i, (i = gr ∨ i = gN ∨ some i = qk0.ownBlock) → w0.heap.size ≤ i) := Lib.hid (by
    rintro i (h | h | h)
    · rw [h]; exact hrb
    · rw [h]; exact own_base hn0 gN rfl
    · exact own_base hqq0 i h.symm)
  have HNP : Hid (∀ i, i = gp ∨ i = mb ∨ i = gO → ¬ (i = gr ∨ i = gN ∨ some i = qk0.ownBlock)) := Lib.hid (by
    rintro i (rfl | rfl | rfl) (h | h | h)
    · have h2 := hp.1; rw [h, hr0] at h2; injection h2 with h2; injection h2 with _ h2 _; exact absurd h2 (by decide)
    · exact own_ne hn0 hp.1 (by decide) (by rw [h]; rfl)
    · exact row_ne_blk hqq0 hp.1 (by decide) h
    · have h2 := hp.2; rw [h, hr0] at h2; injection h2 with h2; cases h2
    · exact own_ne_map (m := #[]) (k := 0) hn0 hp.2 (fun _ _ _ h => by cases h) (by rw [h]; rfl)
    · exact own_ne_map (m := #[]) (k := 0) hqq0 hp.2 (fun _ _ _ h => by cases h) h
    · exact own_ne ho hr0 (by decide) (by rw [← h]; rfl)
    · exact own_ne_own hn0 ho (by decide) rfl (by rw [h]; rfl)
    · exact own_ne_own hqq0 ho (by decide) rfl h)
  have HB := Lib.hid hB; clear hB
  have HBW : Hid (∀ W, KeptS (fun i => i = gr ∨ i = gN ∨ some i = qk0.ownBlock) w W → Below w0.heap.size w0 W) := Lib.hid (fun W h => HB.out.trans (h.below HB.out.size HSW.out))
  have HP := Lib.hid hp; clear hp
  have HPW : Hid (∀ W, KeptS (fun i => i = gr ∨ i = gN ∨ some i = qk0.ownBlock) w W → PlayerB W gp mb (nn : Int) GA gn gc) := Lib.hid (fun W h => HP.out.kept h (HNP.out gp (.inl rfl)) (HNP.out mb (.inr (.inl rfl))))
  have HO := Lib.hid ho; clear ho
  have HOW : Hid (∀ W, KeptS (fun i => i = gr ∨ i = gN ∨ some i = qk0.ownBlock) w W → W.ownsRow w0.heap.size 4 1 (.slice (some ⟨gO, 0, none⟩) nn cO) nn (bools outs)) := Lib.hid (fun W h => h.own HO.out (fun g hg => by have e : gO = g := Option.some.inj hg; rw [← e]; exact HNP.out gO (.inr (.inr rfl))))
  have HG := Lib.hid hg; clear hg
  have HGL := Lib.hid HG.out.1
  have HGO := Lib.hid hgo; clear hgo
  have HDN := Lib.hid hdn; clear hdn
  have HQL := Lib.hid hql; clear hql
  have HOL := Lib.hid hol; clear hol
  have HOV := Lib.hid hov; clear hov
  have HOUT := Lib.hid hout; clear hout
  have HGD := Lib.hid hgood; clear hgood
  have hwb : Below w.heap.size w (w.alloc (.cells #[.pointer (some ⟨gr, 0, none⟩)] 104)) := (Below.refl _ _).alloc (Nat.le_refl _) _
  have HS0 : Hid (SetSt w0.heap.size w (w.alloc (.cells #[.pointer (some ⟨gr, 0, none⟩)] 104)) gr gp nn dn gO cO gN cN pv qk0 ev ov s0) := Lib.hid (SetSt.below ⟨hK0, ⟨gD0, cD0, qk0, hr0, hd0, hqq0, hne0, .inl rfl⟩, hn0⟩ hwb)
  have HBX : Hid ((w.alloc (.cells #[.pointer (some ⟨gr, 0, none⟩)] 104)).heap[w.heap.size]? = some (.cells #[.pointer (some ⟨gr, 0, none⟩)] 104 (0, 0))) := Lib.hid (blk_new w _)
  have hnil : ∀ W, (binOp .eql 94 (.slice none 0 0) (.slice none 0 0)).run Try.prog W = .ok (.bool true) W := fun W => Lib.run_eql_slice_nil W 94 22 none 0 0 0 0 Try.underlying94
  have HSE0 : Hid (SeenOk (w.alloc (.cells #[.pointer (some ⟨gr, 0, none⟩)] 104)) w.heap.size (.slice none 0 0) []) := Lib.hid ⟨by simp, [], own_nil _ _ _ _, fun i hi => by simp at hi⟩
  clear hK0 hr0 hd0 hqq0 hn0 hne0 hwb
  go_enter Try.func65, Try.ntmps65
  go_wp2_with fail
  go_loopw [5, 6] (fun sv kv wr => ∃ (k : Nat) (seen : List (List Int)) (s : RS), k ≤ 100 ∧ kv = .int .i64 k ∧ (k = 0 → sv = .slice none 0 0) ∧ Hid (seen.length = k) ∧ Hid (SeenOk wr w.heap.size sv seen) ∧ Hid (SetSt w0.heap.size w wr gr gp nn dn gO cO gN cN pv qk0 ev ov s) ∧ Hid (wr.heap[w.heap.size]? = some (.cells #[.pointer (some ⟨gr, 0, none⟩)] 104 (0, 0))) ∧ Hid (GoodS nn gn s) ∧ Hid (s.q.length ≤ s0.q.length + 60 * k) ∧ Hid (∀ r, RunsP nn gs t ov k seen s r → RunsP nn gs t ov 0 [] s0 r)) (fun _ kv _ => 101 - (intOf kv).toNat)
  case atStart => exact ⟨0, [], s0, by omega, rfl, fun _ => rfl, Lib.hid rfl, HSE0, HS0, HBX, HGD, Lib.hid (by omega), Lib.hid (fun r h => h)⟩
  case round =>
    obtain ⟨k, seen, s, hk, rfl, hsv, hSL, hSE, hS, hBX, hGD, hQL, hRP⟩ := hrel
    clear HSE0 HS0 HBX
    obtain ⟨wx, rfl⟩ : ∃ wx : World, wx = wr := ⟨_, rfl⟩
    obtain ⟨AS, cS, rfl, hsr⟩ := hSE.out.reads
    have HSR := Lib.hid hsr; clear hsr
    have HSVN := Lib.hid hsv; clear hsv
    -- [[
    obtain ⟨hK, ⟨gD, cD, qk, hr, hd, hq, hne, hat⟩, hn⟩ := hS.out
    have hbx0 : wx.cell? ⟨w.heap.size, 0, none⟩ = some (.pointer (some ⟨gr, 0, none⟩)) := (blk_cell hBX.out 0).trans rfl
    have hdv : (s.gv ++ ov).all isVal = true := by rw [List.all_append, hGD.out.vg, HOV.out]; rfl
    have HDV := Lib.hid hdv; clear hdv
    have HIS := Lib.hid (nets_is HGL.out hGD.out.lg HOL.out HOUT.out)
    go_wp2_with fail
    refine (resolve92_any w0 wx gr gp mb nn gn gc dn GA gs pv qk ev gD cD gN cN gO cO (s.gv ++ ov) s.nets (netsOf nn gs s.gv ov) outs (HBW.out wx hK) HG.out hr (HPW.out wx hK) hd (HOW.out wx hK) hn HDN.out hne HDV.out HGO.out h1 h40 hg60 (netsOf_len ..) HIS.out).mono ?_
    rintro e w1 ⟨g', rfl, hc1, hn1, hk1⟩
    have hgrN : gr ≠ gN := fun e => own_ne hn hr (by decide) (by rw [e]; rfl)
    have hK1 : KeptS (fun i => i = gr ∨ i = gN ∨ some i = qk0.ownBlock) w w1 := hK.trans hk1 (fun i _ h => .inr (.inl h))
    have HB1 := Lib.hid (HBW.out w1 hK1)
    have HP1 := Lib.hid (HPW.out w1 hK1)
    have HR1 := Lib.hid (hk1.blk hr hgrN)
    have HD1 := Lib.hid (hk1.own hd (fun g hg => by have e : gD = g := Option.some.inj hg; rw [← e]; exact hne))
    have HN1 := Lib.hid hn1
    have HQ1 := Lib.hid (hk1.own hq (fun g hg h => own_ne_own hn hq (by decide) hg (by rw [h]; rfl)))
    have HC1 := Lib.hid hc1
    have HQB : Hid (s.q.length ≤ 100000000) := Lib.hid (by have h1 := hQL.out; have h2 := HQL.out; omega)
    have hb1 : w0.heap.size ≤ w1.heap.size := HB1.out.size
    have hszx := hK.size
    clear hc1 hn1 hbx0 hK1
    go_wp2_with fail
    refine (contains93_any _ _ _ _ _ _ HC1.out).mono ?_
    rintro e w' ⟨rfl, rfl⟩
    obtain ⟨w1, rfl⟩ : ∃ w1 : World, w1 = w' := ⟨_, rfl⟩
    obtain ⟨a, ha⟩ : ∃ a, (changedOf nn (netsOf nn gs s.gv ov) s.nets).any id = a := ⟨_, rfl⟩
    rw [ha]
    have HAA : Hid (rndAny nn gs ov s = a) := Lib.hid ha
    clear ha
    have hbx1 : w1.cell? ⟨w.heap.size, 0, none⟩ = some (.pointer (some ⟨gr, 0, none⟩)) := (blk_cell (hk1.blk hBX.out (by omega)) 0).trans rfl
    by_cases ht : t = 0
    · have htb : (t == 0) = true := by simpa using ht
      by_cases hkz : k = 0
      · have hkb0 : ((k : Int) == 0) = true := by simpa using hkz
        have hsn : seen = [] := List.eq_nil_of_length_eq_zero (by have := hSL.out; omega)
        have hs0 := HSVN.out hkz
        injection hs0 with e1 e2 e3
        have HTZ := Lib.hid ht; clear ht
        have HKZ := Lib.hid hkz; clear hkz
        subst e1 e3
        subst hsn
        clear e2
        have HAL : Hid ((decide (t = 0) && decide (k = 0)) = true) := Lib.hid (by rw [decide_eq_true HTZ.out, decide_eq_true HKZ.out]; rfl)
        go_wp2_with fail
        refine (ask94_any w0 w1 gr gp mb nn gn gc dn GA gs pv qk (.slice (some ⟨gO, 0, none⟩) nn cO) ev gD cD gN cN wx.heap.size g' nn t true (s.gv ++ ov) (netsOf nn gs s.gv ov) s.q (changedOf nn (netsOf nn gs s.gv ov) s.nets) HB1.out HG.out HR1.out hrb HP1.out HD1.out HN1.out HQ1.out HC1.out HDN.out HGO.out h1 h40 hg60 ht0 ht1 HQB.out).mono ?_
        rintro e w2 ⟨gD2, cD2, qk2, rfl, hr2, hd2, hq2, hk2, hat2⟩
        rw [ask_rnd HGL.out hGD.out.lg] at hd2 hq2 ⊢
        have HGR := Lib.hid (hGD.out.rnd (t := t) (all := true) HGO.out HGL.out HOL.out HOV.out)
        have HQR := Lib.hid (rnd_qlen (nn := nn) (gs := gs) (t := t) (all := true) (ov := ov) (s := s))
        obtain ⟨m, hm⟩ : ∃ m, rndMov nn gs t ov true s = m := ⟨_, rfl⟩
        have HMV := Lib.hid hm
        have hstop := fun h1 h2 => RunsP.stop (nn := nn) (gs := gs) (t := t) (ov := ov) (k := k) (seen := []) (s := s) h1 h2
        have hbad := fun h1 h2 => RunsP.bad (nn := nn) (gs := gs) (t := t) (ov := ov) (k := k) (seen := []) (s := s) h1 h2
        have hgo' := fun r h1 h2 h3 h4 => RunsP.go (nn := nn) (gs := gs) (t := t) (ov := ov) (k := k) (seen := []) (s := s) (r := r) h1 h2 h3 h4
        rw [HAL.out, hm, HAA.out] at hstop hbad hgo'
        have HSTOP := Lib.hid hstop; clear hstop
        have HBAD := Lib.hid hbad; clear hbad
        have HGOO := Lib.hid hgo'; clear hgo'
        rw [hm]
        clear hm
        have HS2 : Hid (SetSt w0.heap.size w w2 gr gp nn dn gO cO gN cN pv qk0 ev ov (rndS nn gs t ov true s)) := Lib.hid (by
          refine ⟨(hK.trans hk1 (fun i _ h => .inr (.inl h))).trans hk2 (fun i hi h => ?_), ⟨gD2, cD2, qk2, hr2, own_mono hd2 hb1, hq2, ?_, ?_⟩, hk2.own HN1.out (fun g hg => ?_)⟩
          · rcases h with h | h
            · exact .inl h
            · rcases hat with h3 | ⟨b, h3, h4⟩
              · rw [h3] at h; exact .inr (.inr h)
              · rw [h3] at h; injection h with h; omega
          · have h3 := own_base hd2 gD2 rfl
            have h4 := hk1.size
            have h5 := hK.size
            omega
          · rcases hat2 with h3 | ⟨b, h3, h4⟩
            · rw [h3]; exact hat
            · right; exact ⟨b, h3, by have h5 := hk1.size; have h6 := hK.size; omega⟩
          · have e : gN = g := Option.some.inj hg
            rw [← e]
            rintro (h | h)
            · exact own_ne HN1.out HR1.out (by decide) (by rw [h]; rfl)
            · exact own_ne_own HQ1.out HN1.out (by decide) rfl h)
        have HBX2 : Hid (w2.heap[w.heap.size]? = some (.cells #[.pointer (some ⟨gr, 0, none⟩)] 104 (0, 0))) := Lib.hid (hk2.blk (hk1.blk hBX.out (by omega)) (by
          rintro (h | h)
          · omega
          · exact row_ne_blk HQ1.out (hk1.blk hBX.out (by omega)) (by decide) h))
        have HSE2 : Hid (SeenOk w2 w.heap.size (.slice none 0 0) ([] : List (List Int))) := Lib.hid ((hSE.out.kept hk1 (fun i h => .inl (by omega))).kept hk2 (fun i h => by
          rcases h with h | h
          · exact .inl (by omega)
          · rcases HQ1.out.2 with ⟨e, _⟩ | ⟨gq, cap, cur, e, _, h4, _⟩
            · rw [e] at h; cases h
            · rw [e] at h; have e2 : i = gq := Option.some.inj h
              exact .inr ⟨cur, by rw [e2]; exact h4⟩))
        clear hr2 hd2 hq2 hk2 hat2 HB1 HR1 HP1 HD1 HN1 HQ1 HC1 HQB hr hd hq hne hat hn hk1 hK hS hBX hSE hb1
        have HKL := Lib.hid (HS2.out.1)
        obtain ⟨hK2, ⟨gD3, cD3, qk3, hr3, hd3, hq3, hne3, hat3⟩, hn3⟩ := HS2.out
        have hbx : w2.cell? ⟨w.heap.size, 0, none⟩ = some (.pointer (some ⟨gr, 0, none⟩)) := (blk_cell HBX2.out 0).trans rfl
        have hr5 : w2.cell? ⟨gr, 5, none⟩ = some (.slice (some ⟨gN, 0, none⟩) nn cN) := (blk_cell hr3 5).trans rfl
        have HRY := Lib.hid (own_reads' hn3)
        obtain ⟨AS2, cS2, esl, hsr2⟩ := HSE2.out.reads
        have HSR2 : Hid (ReadsRows w2 none 0 ([] : List (List Int))) := Lib.hid (by injection esl with e1 e2 e3; rw [e1]; exact hsr2)
        clear hK2 hr3 hd3 hq3 hne3 hat3 hn3 esl hsr2
        cases a
        · cases m
          · -- at rest
            have HRUN : Hid (RunsP nn gs t ov 0 [] s0 (some (rndS nn gs t ov true s))) := Lib.hid (hRP.out _ (HSTOP.out (by simp) (by simp)))
            go_wp2_with fail
            go_ret
            exact ⟨_, HRUN.out, rfl, HS2.out, HGR.out, by have h1 := HQR.out; have h2 := hQL.out; have h3 := HGL.out; omega⟩
          · by_cases hk1 : k + 1 ≤ 100
            · have hkb : decide ((100 : Int) < (k : Int) + 1) = false := by simp; omega
              have HRUN : Hid (∀ r, RunsP nn gs t ov (k + 1) (([] : List (List Int)) ++ [netsOf nn gs s.gv ov]) (rndS nn gs t ov true s) r → RunsP nn gs t ov 0 [] s0 r) := Lib.hid (fun r h => hRP.out r (HGOO.out r (by simp) (fun h => by have h2 := h.1; cases h2) hk1 h))
              go_wp2_with fail
              have HSG : Hid (SetSt w0.heap.size w w2 gr gp nn dn gO cO gN cN pv qk0 ev ov (rndS nn gs t ov true s)) := by first | exact HS2 | exact Lib.hid (HS2.out.below (pw_below_drewN (n := q3) (Below.refl _ _)))
              have HSEG : Hid (SeenOk w2 w.heap.size (.slice none 0 0) ([] : List (List Int))) := by first | exact HSE2 | exact Lib.hid (HSE2.out.below (pw_below_drewN (n := q3) (Below.refl _ _)))
              have HBXG : Hid (w2.heap[w.heap.size]? = some (.cells #[.pointer (some ⟨gr, 0, none⟩)] 104 (0, 0))) := HBX2
              have HRNG := Lib.hid (own_reads' HSG.out.2.2)
              have hnn8 : nn * 8 ≤ 140737488355328 := by omega
              try go_wp2_with fail
              refine (clone_any (some ⟨gN, 0, none⟩) nn cN (rndS nn gs t ov true s).nets _ HRNG.out h1 hnn8).mono ?_
              rintro e w4 ⟨vc, rfl, hcl, hb4⟩
              have HCL := Lib.hid hcl; clear hcl
              have HB4 := Lib.hid hb4; clear hb4
              obtain ⟨AC, cC, rfl⟩ := own_slice HCL.out
              have HSG4 := Lib.hid (HSG.out.below HB4.out)
              have HBX4 := Lib.hid (blk_below HBXG.out HB4.out)
              have hsz4 : w.heap.size ≤ (w2).heap.size := HSG.out.1.size
              obtain ⟨cs, hcs, hput⟩ := (HSEG.out.below HB4.out).own
              have HPUT := Lib.hid hput; clear hput
              have HCA := Lib.hid (hcs.alloc (.cells #[.slice AC nn cC] 22))
              have HSL2 := hSL
              have hw4 : (w2).heap.size ≤ w4.heap.size := HB4.out.size
              have hwA : w.heap.size ≤ (w4.alloc (.cells #[.slice AC nn cC] 22)).heap.size := by rw [show (w4.alloc (.cells #[.slice AC nn cC] 22)).heap.size = w4.heap.size + 1 from Array.size_push _]; omega
              have HWA := Lib.hid hwA; clear hwA
              have hlk : 0 ≤ 100 := by have := hSL.out; omega
              have HCS := Lib.hid hcs; clear hcs
              go_wp2_with (at_builtin; refine wpList_append_lies (w := w4.alloc (.cells #[.slice AC nn cC] 22)) rfl (.tmp 46) (.tmp 52) 94 rfl w.heap.size 22 i2 uV 1 24 Try.underlying94 hi2 hy0 hy1 hy2 rfl (by omega) (.slice none 0 0) 0 cs rfl HCA.out ⟨w4.heap.size, 0, none⟩ 1 1 [.slice AC nn cC] rfl rfl (World.news_of_block (cs := #[.slice AC nn cC]) (t := 22) (fr := (0, 0)) (blk_new w4 _)) (by simp [Value.oneCell']) Nat.one_pos (by simp only [maxLen]; omega) (by omega) HWA.out (w4.heap.size + 1) (Array.size_push _) ?_; intro g2 cap2 w10 hown2 hgrow2 hat2 hlt2; have HOW2 := Lib.hid hown2; have HGW2 := Lib.hid hgrow2; clear hown2 hgrow2 hat2 hlt2)
              have HBA : Hid (Below w4.heap.size w4 (w4.alloc (.cells #[.slice AC nn cC] 22))) := Lib.hid ((Below.refl _ _).alloc (Nat.le_refl _) _)
              have HSn : Hid (SetSt w0.heap.size w w10 gr gp nn dn gO cO gN cN pv qk0 ev ov (rndS nn gs t ov true s)) := Lib.hid ((HSG4.out.below HBA.out).grown HCA.out (Nat.le_refl _) HGW2.out)
              have HBXn : Hid (w10.heap[w.heap.size]? = some (.cells #[.pointer (some ⟨gr, 0, none⟩)] 104 (0, 0))) := Lib.hid (blk_grown (blk_alloc HBX4.out _) HGW2.out (row_ne_blk HCA.out (blk_alloc HBX4.out _) (by decide)))
              have hnl : (rndS nn gs t ov true s).nets.length = nn := HGR.out.ln
              have hCLa := own_mono (HCL.out.alloc (.cells #[.slice AC nn cC] 22)) hsz4
              have HSEn : Hid (SeenOk w10 w.heap.size (.slice (some ⟨g2, 0, none⟩) (0 + 1) cap2) (([] : List (List Int)) ++ [netsOf nn gs s.gv ov])) := Lib.hid (HPUT.out (w4.alloc (.cells #[.slice AC nn cC] 22)) w10 _ (.slice AC nn cC) (rndS nn gs t ov true s).nets HBA.out HGW2.out (by first | omega | simp) HOW2.out (by
                rw [hnl]
                exact own_other hCLa HGW2.out (own_type_ne hCLa HCA.out (by decide))))
              first
              | exact ⟨⟨k + 1, ([] : List (List Int)) ++ [netsOf nn gs s.gv ov], rndS nn gs t ov true s, by omega, by go_num, fun h => by omega, Lib.hid (by rw [List.length_append, hSL.out]; rfl), HSEn, HSn, HBXn, HGR, Lib.hid (by have h1 := HQR.out; have h2 := hQL.out; have h3 := HGL.out; omega), HRUN⟩, by simp [intOf]; omega⟩
            · have hkb : decide ((100 : Int) < (k : Int) + 1) = true := by simp; omega
              have HRUN : Hid (RunsP nn gs t ov 0 [] s0 none) := Lib.hid (hRP.out _ (HBAD.out (by simp) (.inr (by omega))))
              go_wp2_with fail
              go_ret
              exact ⟨none, HRUN.out, rfl, HKL.out⟩
        · cases m
          · go_wp2_with fail
            refine (contains85r_any none _ 0 ([] : List (List Int)) (some ⟨gN, 0, none⟩) nn cN (rndS nn gs t ov true s).nets w.heap.size gr _ HSR2.out HRY.out ⟨hbx, hr5⟩).mono ?_
            rintro e w3 ⟨rfl, q3, rfl⟩
            obtain ⟨c, hc⟩ : ∃ c, memB ([] : List (List Int)) (rndS nn gs t ov true s).nets = c := ⟨_, rfl⟩
            rw [hc]
            have HMB : Hid (memB ([] : List (List Int)) (netsOf nn gs s.gv ov) = c) := Lib.hid hc
            clear hc
            cases c
            · by_cases hk1 : k + 1 ≤ 100
              · have hkb : decide ((100 : Int) < (k : Int) + 1) = false := by simp; omega
                have HRUN : Hid (∀ r, RunsP nn gs t ov (k + 1) (([] : List (List Int)) ++ [netsOf nn gs s.gv ov]) (rndS nn gs t ov true s) r → RunsP nn gs t ov 0 [] s0 r) := Lib.hid (fun r h => hRP.out r (HGOO.out r (by simp) (fun h => by have h2 := h.2; rw [HMB.out] at h2; cases h2) hk1 h))
                go_wp2_with fail
                have HSG : Hid (SetSt w0.heap.size w (w2.drewN q3) gr gp nn dn gO cO gN cN pv qk0 ev ov (rndS nn gs t ov true s)) := by first | exact HS2 | exact Lib.hid (HS2.out.below (pw_below_drewN (n := q3) (Below.refl _ _)))
                have HSEG : Hid (SeenOk (w2.drewN q3) w.heap.size (.slice none 0 0) ([] : List (List Int))) := by first | exact HSE2 | exact Lib.hid (HSE2.out.below (pw_below_drewN (n := q3) (Below.refl _ _)))
                have HBXG : Hid ((w2.drewN q3).heap[w.heap.size]? = some (.cells #[.pointer (some ⟨gr, 0, none⟩)] 104 (0, 0))) := HBX2
                have HRNG := Lib.hid (own_reads' HSG.out.2.2)
                have hnn8 : nn * 8 ≤ 140737488355328 := by omega
                try go_wp2_with fail
                refine (clone_any (some ⟨gN, 0, none⟩) nn cN (rndS nn gs t ov true s).nets _ HRNG.out h1 hnn8).mono ?_
                rintro e w4 ⟨vc, rfl, hcl, hb4⟩
                have HCL := Lib.hid hcl; clear hcl
                have HB4 := Lib.hid hb4; clear hb4
                obtain ⟨AC, cC, rfl⟩ := own_slice HCL.out
                have HSG4 := Lib.hid (HSG.out.below HB4.out)
                have HBX4 := Lib.hid (blk_below HBXG.out HB4.out)
                have hsz4 : w.heap.size ≤ ((w2.drewN q3)).heap.size := HSG.out.1.size
                obtain ⟨cs, hcs, hput⟩ := (HSEG.out.below HB4.out).own
                have HPUT := Lib.hid hput; clear hput
                have HCA := Lib.hid (hcs.alloc (.cells #[.slice AC nn cC] 22))
                have HSL2 := hSL
                have hw4 : ((w2.drewN q3)).heap.size ≤ w4.heap.size := HB4.out.size
                have hwA : w.heap.size ≤ (w4.alloc (.cells #[.slice AC nn cC] 22)).heap.size := by rw [show (w4.alloc (.cells #[.slice AC nn cC] 22)).heap.size = w4.heap.size + 1 from Array.size_push _]; omega
                have HWA := Lib.hid hwA; clear hwA
                have hlk : 0 ≤ 100 := by have := hSL.out; omega
                have HCS := Lib.hid hcs; clear hcs
                go_wp2_with (at_builtin; refine wpList_append_lies (w := w4.alloc (.cells #[.slice AC nn cC] 22)) rfl (.tmp 46) (.tmp 52) 94 rfl w.heap.size 22 i2 uV 1 24 Try.underlying94 hi2 hy0 hy1 hy2 rfl (by omega) (.slice none 0 0) 0 cs rfl HCA.out ⟨w4.heap.size, 0, none⟩ 1 1 [.slice AC nn cC] rfl rfl (World.news_of_block (cs := #[.slice AC nn cC]) (t := 22) (fr := (0, 0)) (blk_new w4 _)) (by simp [Value.oneCell']) Nat.one_pos (by simp only [maxLen]; omega) (by omega) HWA.out (w4.heap.size + 1) (Array.size_push _) ?_; intro g2 cap2 w10 hown2 hgrow2 hat2 hlt2; have HOW2 := Lib.hid hown2; have HGW2 := Lib.hid hgrow2; clear hown2 hgrow2 hat2 hlt2)
                have HBA : Hid (Below w4.heap.size w4 (w4.alloc (.cells #[.slice AC nn cC] 22))) := Lib.hid ((Below.refl _ _).alloc (Nat.le_refl _) _)
                have HSn : Hid (SetSt w0.heap.size w w10 gr gp nn dn gO cO gN cN pv qk0 ev ov (rndS nn gs t ov true s)) := Lib.hid ((HSG4.out.below HBA.out).grown HCA.out (Nat.le_refl _) HGW2.out)
                have HBXn : Hid (w10.heap[w.heap.size]? = some (.cells #[.pointer (some ⟨gr, 0, none⟩)] 104 (0, 0))) := Lib.hid (blk_grown (blk_alloc HBX4.out _) HGW2.out (row_ne_blk HCA.out (blk_alloc HBX4.out _) (by decide)))
                have hnl : (rndS nn gs t ov true s).nets.length = nn := HGR.out.ln
                have hCLa := own_mono (HCL.out.alloc (.cells #[.slice AC nn cC] 22)) hsz4
                have HSEn : Hid (SeenOk w10 w.heap.size (.slice (some ⟨g2, 0, none⟩) (0 + 1) cap2) (([] : List (List Int)) ++ [netsOf nn gs s.gv ov])) := Lib.hid (HPUT.out (w4.alloc (.cells #[.slice AC nn cC] 22)) w10 _ (.slice AC nn cC) (rndS nn gs t ov true s).nets HBA.out HGW2.out (by first | omega | simp) HOW2.out (by
                  rw [hnl]
                  exact own_other hCLa HGW2.out (own_type_ne hCLa HCA.out (by decide))))
                first
                | exact ⟨⟨k + 1, ([] : List (List Int)) ++ [netsOf nn gs s.gv ov], rndS nn gs t ov true s, by omega, by go_num, fun h => by omega, Lib.hid (by rw [List.length_append, hSL.out]; rfl), HSEn, HSn, HBXn, HGR, Lib.hid (by have h1 := HQR.out; have h2 := hQL.out; have h3 := HGL.out; omega), HRUN⟩, by simp [intOf]; omega⟩
              · have hkb : decide ((100 : Int) < (k : Int) + 1) = true := by simp; omega
                have HRUN : Hid (RunsP nn gs t ov 0 [] s0 none) := Lib.hid (hRP.out _ (HBAD.out (by simp) (.inr (by omega))))
                go_wp2_with fail
                go_ret
                exact ⟨none, HRUN.out, rfl, HKL.out.drewN q3⟩
            · have HRUN : Hid (RunsP nn gs t ov 0 [] s0 none) := Lib.hid (hRP.out _ (HBAD.out (by simp) (.inl (by simp [HMB.out]))))
              go_wp2_with fail
              go_ret
              exact ⟨none, HRUN.out, rfl, HKL.out.drewN q3⟩
          · go_wp2_with fail
            refine (contains85r_any none _ 0 ([] : List (List Int)) (some ⟨gN, 0, none⟩) nn cN (rndS nn gs t ov true s).nets w.heap.size gr _ HSR2.out HRY.out ⟨hbx, hr5⟩).mono ?_
            rintro e w3 ⟨rfl, q3, rfl⟩
            obtain ⟨c, hc⟩ : ∃ c, memB ([] : List (List Int)) (rndS nn gs t ov true s).nets = c := ⟨_, rfl⟩
            rw [hc]
            have HMB : Hid (memB ([] : List (List Int)) (netsOf nn gs s.gv ov) = c) := Lib.hid hc
            clear hc
            cases c
            · by_cases hk1 : k + 1 ≤ 100
              · have hkb : decide ((100 : Int) < (k : Int) + 1) = false := by simp; omega
                have HRUN : Hid (∀ r, RunsP nn gs t ov (k + 1) (([] : List (List Int)) ++ [netsOf nn gs s.gv ov]) (rndS nn gs t ov true s) r → RunsP nn gs t ov 0 [] s0 r) := Lib.hid (fun r h => hRP.out r (HGOO.out r (by simp) (fun h => by have h2 := h.2; rw [HMB.out] at h2; cases h2) hk1 h))
                go_wp2_with fail
                have HSG : Hid (SetSt w0.heap.size w (w2.drewN q3) gr gp nn dn gO cO gN cN pv qk0 ev ov (rndS nn gs t ov true s)) := by first | exact HS2 | exact Lib.hid (HS2.out.below (pw_below_drewN (n := q3) (Below.refl _ _)))
                have HSEG : Hid (SeenOk (w2.drewN q3) w.heap.size (.slice none 0 0) ([] : List (List Int))) := by first | exact HSE2 | exact Lib.hid (HSE2.out.below (pw_below_drewN (n := q3) (Below.refl _ _)))
                have HBXG : Hid ((w2.drewN q3).heap[w.heap.size]? = some (.cells #[.pointer (some ⟨gr, 0, none⟩)] 104 (0, 0))) := HBX2
                have HRNG := Lib.hid (own_reads' HSG.out.2.2)
                have hnn8 : nn * 8 ≤ 140737488355328 := by omega
                try go_wp2_with fail
                refine (clone_any (some ⟨gN, 0, none⟩) nn cN (rndS nn gs t ov true s).nets _ HRNG.out h1 hnn8).mono ?_
                rintro e w4 ⟨vc, rfl, hcl, hb4⟩
                have HCL := Lib.hid hcl; clear hcl
                have HB4 := Lib.hid hb4; clear hb4
                obtain ⟨AC, cC, rfl⟩ := own_slice HCL.out
                have HSG4 := Lib.hid (HSG.out.below HB4.out)
                have HBX4 := Lib.hid (blk_below HBXG.out HB4.out)
                have hsz4 : w.heap.size ≤ ((w2.drewN q3)).heap.size := HSG.out.1.size
                obtain ⟨cs, hcs, hput⟩ := (HSEG.out.below HB4.out).own
                have HPUT := Lib.hid hput; clear hput
                have HCA := Lib.hid (hcs.alloc (.cells #[.slice AC nn cC] 22))
                have HSL2 := hSL
                have hw4 : ((w2.drewN q3)).heap.size ≤ w4.heap.size := HB4.out.size
                have hwA : w.heap.size ≤ (w4.alloc (.cells #[.slice AC nn cC] 22)).heap.size := by rw [show (w4.alloc (.cells #[.slice AC nn cC] 22)).heap.size = w4.heap.size + 1 from Array.size_push _]; omega
                have HWA := Lib.hid hwA; clear hwA
                have hlk : 0 ≤ 100 := by have := hSL.out; omega
                have HCS := Lib.hid hcs; clear hcs
                go_wp2_with (at_builtin; refine wpList_append_lies (w := w4.alloc (.cells #[.slice AC nn cC] 22)) rfl (.tmp 46) (.tmp 52) 94 rfl w.heap.size 22 i2 uV 1 24 Try.underlying94 hi2 hy0 hy1 hy2 rfl (by omega) (.slice none 0 0) 0 cs rfl HCA.out ⟨w4.heap.size, 0, none⟩ 1 1 [.slice AC nn cC] rfl rfl (World.news_of_block (cs := #[.slice AC nn cC]) (t := 22) (fr := (0, 0)) (blk_new w4 _)) (by simp [Value.oneCell']) Nat.one_pos (by simp only [maxLen]; omega) (by omega) HWA.out (w4.heap.size + 1) (Array.size_push _) ?_; intro g2 cap2 w10 hown2 hgrow2 hat2 hlt2; have HOW2 := Lib.hid hown2; have HGW2 := Lib.hid hgrow2; clear hown2 hgrow2 hat2 hlt2)
                have HBA : Hid (Below w4.heap.size w4 (w4.alloc (.cells #[.slice AC nn cC] 22))) := Lib.hid ((Below.refl _ _).alloc (Nat.le_refl _) _)
                have HSn : Hid (SetSt w0.heap.size w w10 gr gp nn dn gO cO gN cN pv qk0 ev ov (rndS nn gs t ov true s)) := Lib.hid ((HSG4.out.below HBA.out).grown HCA.out (Nat.le_refl _) HGW2.out)
                have HBXn : Hid (w10.heap[w.heap.size]? = some (.cells #[.pointer (some ⟨gr, 0, none⟩)] 104 (0, 0))) := Lib.hid (blk_grown (blk_alloc HBX4.out _) HGW2.out (row_ne_blk HCA.out (blk_alloc HBX4.out _) (by decide)))
                have hnl : (rndS nn gs t ov true s).nets.length = nn := HGR.out.ln
                have hCLa := own_mono (HCL.out.alloc (.cells #[.slice AC nn cC] 22)) hsz4
                have HSEn : Hid (SeenOk w10 w.heap.size (.slice (some ⟨g2, 0, none⟩) (0 + 1) cap2) (([] : List (List Int)) ++ [netsOf nn gs s.gv ov])) := Lib.hid (HPUT.out (w4.alloc (.cells #[.slice AC nn cC] 22)) w10 _ (.slice AC nn cC) (rndS nn gs t ov true s).nets HBA.out HGW2.out (by first | omega | simp) HOW2.out (by
                  rw [hnl]
                  exact own_other hCLa HGW2.out (own_type_ne hCLa HCA.out (by decide))))
                first
                | exact ⟨⟨k + 1, ([] : List (List Int)) ++ [netsOf nn gs s.gv ov], rndS nn gs t ov true s, by omega, by go_num, fun h => by omega, Lib.hid (by rw [List.length_append, hSL.out]; rfl), HSEn, HSn, HBXn, HGR, Lib.hid (by have h1 := HQR.out; have h2 := hQL.out; have h3 := HGL.out; omega), HRUN⟩, by simp [intOf]; omega⟩
              · have hkb : decide ((100 : Int) < (k : Int) + 1) = true := by simp; omega
                have HRUN : Hid (RunsP nn gs t ov 0 [] s0 none) := Lib.hid (hRP.out _ (HBAD.out (by simp) (.inr (by omega))))
                go_wp2_with fail
                go_ret
                exact ⟨none, HRUN.out, rfl, HKL.out.drewN q3⟩
            · have HRUN : Hid (RunsP nn gs t ov 0 [] s0 none) := Lib.hid (hRP.out _ (HBAD.out (by simp) (.inl (by simp [HMB.out]))))
              go_wp2_with fail
              go_ret
              exact ⟨none, HRUN.out, rfl, HKL.out.drewN q3⟩
      · have hkb0 : ((k : Int) == 0) = false := by simpa using hkz
        have HTZ := Lib.hid ht; clear ht
        have HKZ := Lib.hid hkz; clear hkz
        have HAL : Hid ((decide (t = 0) && decide (k = 0)) = false) := Lib.hid (by rw [decide_eq_false HKZ.out, Bool.and_false])
        go_wp2_with fail
        refine (ask94_any w0 w1 gr gp mb nn gn gc dn GA gs pv qk (.slice (some ⟨gO, 0, none⟩) nn cO) ev gD cD gN cN wx.heap.size g' nn t false (s.gv ++ ov) (netsOf nn gs s.gv ov) s.q (changedOf nn (netsOf nn gs s.gv ov) s.nets) HB1.out HG.out HR1.out hrb HP1.out HD1.out HN1.out HQ1.out HC1.out HDN.out HGO.out h1 h40 hg60 ht0 ht1 HQB.out).mono ?_
        rintro e w2 ⟨gD2, cD2, qk2, rfl, hr2, hd2, hq2, hk2, hat2⟩
        rw [ask_rnd HGL.out hGD.out.lg] at hd2 hq2 ⊢
        have HGR := Lib.hid (hGD.out.rnd (t := t) (all := false) HGO.out HGL.out HOL.out HOV.out)
        have HQR := Lib.hid (rnd_qlen (nn := nn) (gs := gs) (t := t) (all := false) (ov := ov) (s := s))
        obtain ⟨m, hm⟩ : ∃ m, rndMov nn gs t ov false s = m := ⟨_, rfl⟩
        have HMV := Lib.hid hm
        have hstop := fun h1 h2 => RunsP.stop (nn := nn) (gs := gs) (t := t) (ov := ov) (k := k) (seen := seen) (s := s) h1 h2
        have hbad := fun h1 h2 => RunsP.bad (nn := nn) (gs := gs) (t := t) (ov := ov) (k := k) (seen := seen) (s := s) h1 h2
        have hgo' := fun r h1 h2 h3 h4 => RunsP.go (nn := nn) (gs := gs) (t := t) (ov := ov) (k := k) (seen := seen) (s := s) (r := r) h1 h2 h3 h4
        rw [HAL.out, hm, HAA.out] at hstop hbad hgo'
        have HSTOP := Lib.hid hstop; clear hstop
        have HBAD := Lib.hid hbad; clear hbad
        have HGOO := Lib.hid hgo'; clear hgo'
        rw [hm]
        clear hm
        have HS2 : Hid (SetSt w0.heap.size w w2 gr gp nn dn gO cO gN cN pv qk0 ev ov (rndS nn gs t ov false s)) := Lib.hid (by
          refine ⟨(hK.trans hk1 (fun i _ h => .inr (.inl h))).trans hk2 (fun i hi h => ?_), ⟨gD2, cD2, qk2, hr2, own_mono hd2 hb1, hq2, ?_, ?_⟩, hk2.own HN1.out (fun g hg => ?_)⟩
          · rcases h with h | h
            · exact .inl h
            · rcases hat with h3 | ⟨b, h3, h4⟩
              · rw [h3] at h; exact .inr (.inr h)
              · rw [h3] at h; injection h with h; omega
          · have h3 := own_base hd2 gD2 rfl
            have h4 := hk1.size
            have h5 := hK.size
            omega
          · rcases hat2 with h3 | ⟨b, h3, h4⟩
            · rw [h3]; exact hat
            · right; exact ⟨b, h3, by have h5 := hk1.size; have h6 := hK.size; omega⟩
          · have e : gN = g := Option.some.inj hg
            rw [← e]
            rintro (h | h)
            · exact own_ne HN1.out HR1.out (by decide) (by rw [h]; rfl)
            · exact own_ne_own HQ1.out HN1.out (by decide) rfl h)
        have HBX2 : Hid (w2.heap[w.heap.size]? = some (.cells #[.pointer (some ⟨gr, 0, none⟩)] 104 (0, 0))) := Lib.hid (hk2.blk (hk1.blk hBX.out (by omega)) (by
          rintro (h | h)
          · omega
          · exact row_ne_blk HQ1.out (hk1.blk hBX.out (by omega)) (by decide) h))
        have HSE2 : Hid (SeenOk w2 w.heap.size (.slice AS seen.length cS) seen) := Lib.hid ((hSE.out.kept hk1 (fun i h => .inl (by omega))).kept hk2 (fun i h => by
          rcases h with h | h
          · exact .inl (by omega)
          · rcases HQ1.out.2 with ⟨e, _⟩ | ⟨gq, cap, cur, e, _, h4, _⟩
            · rw [e] at h; cases h
            · rw [e] at h; have e2 : i = gq := Option.some.inj h
              exact .inr ⟨cur, by rw [e2]; exact h4⟩))
        clear hr2 hd2 hq2 hk2 hat2 HB1 HR1 HP1 HD1 HN1 HQ1 HC1 HQB hr hd hq hne hat hn hk1 hK hS hBX hSE hb1
        have HKL := Lib.hid (HS2.out.1)
        obtain ⟨hK2, ⟨gD3, cD3, qk3, hr3, hd3, hq3, hne3, hat3⟩, hn3⟩ := HS2.out
        have hbx : w2.cell? ⟨w.heap.size, 0, none⟩ = some (.pointer (some ⟨gr, 0, none⟩)) := (blk_cell HBX2.out 0).trans rfl
        have hr5 : w2.cell? ⟨gr, 5, none⟩ = some (.slice (some ⟨gN, 0, none⟩) nn cN) := (blk_cell hr3 5).trans rfl
        have HRY := Lib.hid (own_reads' hn3)
        obtain ⟨AS2, cS2, esl, hsr2⟩ := HSE2.out.reads
        have HSR2 : Hid (ReadsRows w2 AS seen.length seen) := Lib.hid (by injection esl with e1 e2 e3; rw [e1]; exact hsr2)
        clear hK2 hr3 hd3 hq3 hne3 hat3 hn3 esl hsr2
        cases a
        · cases m
          · -- at rest
            have HRUN : Hid (RunsP nn gs t ov 0 [] s0 (some (rndS nn gs t ov false s))) := Lib.hid (hRP.out _ (HSTOP.out (by simp) (by simp)))
            go_wp2_with fail
            go_ret
            exact ⟨_, HRUN.out, rfl, HS2.out, HGR.out, by have h1 := HQR.out; have h2 := hQL.out; have h3 := HGL.out; omega⟩
          · by_cases hk1 : k + 1 ≤ 100
            · have hkb : decide ((100 : Int) < (k : Int) + 1) = false := by simp; omega
              have HRUN : Hid (∀ r, RunsP nn gs t ov (k + 1) (seen ++ [netsOf nn gs s.gv ov]) (rndS nn gs t ov false s) r → RunsP nn gs t ov 0 [] s0 r) := Lib.hid (fun r h => hRP.out r (HGOO.out r (by simp) (fun h => by have h2 := h.1; cases h2) hk1 h))
              go_wp2_with fail
              have HSG : Hid (SetSt w0.heap.size w w2 gr gp nn dn gO cO gN cN pv qk0 ev ov (rndS nn gs t ov false s)) := by first | exact HS2 | exact Lib.hid (HS2.out.below (pw_below_drewN (n := q3) (Below.refl _ _)))
              have HSEG : Hid (SeenOk w2 w.heap.size (.slice AS seen.length cS) seen) := by first | exact HSE2 | exact Lib.hid (HSE2.out.below (pw_below_drewN (n := q3) (Below.refl _ _)))
              have HBXG : Hid (w2.heap[w.heap.size]? = some (.cells #[.pointer (some ⟨gr, 0, none⟩)] 104 (0, 0))) := HBX2
              have HRNG := Lib.hid (own_reads' HSG.out.2.2)
              have hnn8 : nn * 8 ≤ 140737488355328 := by omega
              try go_wp2_with fail
              refine (clone_any (some ⟨gN, 0, none⟩) nn cN (rndS nn gs t ov false s).nets _ HRNG.out h1 hnn8).mono ?_
              rintro e w4 ⟨vc, rfl, hcl, hb4⟩
              have HCL := Lib.hid hcl; clear hcl
              have HB4 := Lib.hid hb4; clear hb4
              obtain ⟨AC, cC, rfl⟩ := own_slice HCL.out
              have HSG4 := Lib.hid (HSG.out.below HB4.out)
              have HBX4 := Lib.hid (blk_below HBXG.out HB4.out)
              have hsz4 : w.heap.size ≤ (w2).heap.size := HSG.out.1.size
              obtain ⟨cs, hcs, hput⟩ := (HSEG.out.below HB4.out).own
              have HPUT := Lib.hid hput; clear hput
              have HCA := Lib.hid (hcs.alloc (.cells #[.slice AC nn cC] 22))
              have HSL2 := hSL
              have hw4 : (w2).heap.size ≤ w4.heap.size := HB4.out.size
              have hwA : w.heap.size ≤ (w4.alloc (.cells #[.slice AC nn cC] 22)).heap.size := by rw [show (w4.alloc (.cells #[.slice AC nn cC] 22)).heap.size = w4.heap.size + 1 from Array.size_push _]; omega
              have HWA := Lib.hid hwA; clear hwA
              have hlk : seen.length ≤ 100 := by have := hSL.out; omega
              have HCS := Lib.hid hcs; clear hcs
              go_wp2_with (at_builtin; refine wpList_append_lies (w := w4.alloc (.cells #[.slice AC nn cC] 22)) rfl (.tmp 46) (.tmp 52) 94 rfl w.heap.size 22 i2 uV 1 24 Try.underlying94 hi2 hy0 hy1 hy2 rfl (by omega) (.slice AS seen.length cS) seen.length cs rfl HCA.out ⟨w4.heap.size, 0, none⟩ 1 1 [.slice AC nn cC] rfl rfl (World.news_of_block (cs := #[.slice AC nn cC]) (t := 22) (fr := (0, 0)) (blk_new w4 _)) (by simp [Value.oneCell']) Nat.one_pos (by simp only [maxLen]; omega) (by omega) HWA.out (w4.heap.size + 1) (Array.size_push _) ?_; intro g2 cap2 w10 hown2 hgrow2 hat2 hlt2; have HOW2 := Lib.hid hown2; have HGW2 := Lib.hid hgrow2; clear hown2 hgrow2 hat2 hlt2)
              have HBA : Hid (Below w4.heap.size w4 (w4.alloc (.cells #[.slice AC nn cC] 22))) := Lib.hid ((Below.refl _ _).alloc (Nat.le_refl _) _)
              have HSn : Hid (SetSt w0.heap.size w w10 gr gp nn dn gO cO gN cN pv qk0 ev ov (rndS nn gs t ov false s)) := Lib.hid ((HSG4.out.below HBA.out).grown HCA.out (Nat.le_refl _) HGW2.out)
              have HBXn : Hid (w10.heap[w.heap.size]? = some (.cells #[.pointer (some ⟨gr, 0, none⟩)] 104 (0, 0))) := Lib.hid (blk_grown (blk_alloc HBX4.out _) HGW2.out (row_ne_blk HCA.out (blk_alloc HBX4.out _) (by decide)))
              have hnl : (rndS nn gs t ov false s).nets.length = nn := HGR.out.ln
              have hCLa := own_mono (HCL.out.alloc (.cells #[.slice AC nn cC] 22)) hsz4
              have HSEn : Hid (SeenOk w10 w.heap.size (.slice (some ⟨g2, 0, none⟩) (seen.length + 1) cap2) (seen ++ [netsOf nn gs s.gv ov])) := Lib.hid (HPUT.out (w4.alloc (.cells #[.slice AC nn cC] 22)) w10 _ (.slice AC nn cC) (rndS nn gs t ov false s).nets HBA.out HGW2.out (by first | omega | simp) HOW2.out (by
                rw [hnl]
                exact own_other hCLa HGW2.out (own_type_ne hCLa HCA.out (by decide))))
              first
              | exact ⟨⟨k + 1, seen ++ [netsOf nn gs s.gv ov], rndS nn gs t ov false s, by omega, by go_num, fun h => by omega, Lib.hid (by rw [List.length_append, hSL.out]; rfl), HSEn, HSn, HBXn, HGR, Lib.hid (by have h1 := HQR.out; have h2 := hQL.out; have h3 := HGL.out; omega), HRUN⟩, by simp [intOf]; omega⟩
            · have hkb : decide ((100 : Int) < (k : Int) + 1) = true := by simp; omega
              have HRUN : Hid (RunsP nn gs t ov 0 [] s0 none) := Lib.hid (hRP.out _ (HBAD.out (by simp) (.inr (by omega))))
              go_wp2_with fail
              go_ret
              exact ⟨none, HRUN.out, rfl, HKL.out⟩
        · cases m
          · go_wp2_with fail
            refine (contains85r_any AS _ cS seen (some ⟨gN, 0, none⟩) nn cN (rndS nn gs t ov false s).nets w.heap.size gr _ HSR2.out HRY.out ⟨hbx, hr5⟩).mono ?_
            rintro e w3 ⟨rfl, q3, rfl⟩
            obtain ⟨c, hc⟩ : ∃ c, memB seen (rndS nn gs t ov false s).nets = c := ⟨_, rfl⟩
            rw [hc]
            have HMB : Hid (memB seen (netsOf nn gs s.gv ov) = c) := Lib.hid hc
            clear hc
            cases c
            · by_cases hk1 : k + 1 ≤ 100
              · have hkb : decide ((100 : Int) < (k : Int) + 1) = false := by simp; omega
                have HRUN : Hid (∀ r, RunsP nn gs t ov (k + 1) (seen ++ [netsOf nn gs s.gv ov]) (rndS nn gs t ov false s) r → RunsP nn gs t ov 0 [] s0 r) := Lib.hid (fun r h => hRP.out r (HGOO.out r (by simp) (fun h => by have h2 := h.2; rw [HMB.out] at h2; cases h2) hk1 h))
                go_wp2_with fail
                have HSG : Hid (SetSt w0.heap.size w (w2.drewN q3) gr gp nn dn gO cO gN cN pv qk0 ev ov (rndS nn gs t ov false s)) := by first | exact HS2 | exact Lib.hid (HS2.out.below (pw_below_drewN (n := q3) (Below.refl _ _)))
                have HSEG : Hid (SeenOk (w2.drewN q3) w.heap.size (.slice AS seen.length cS) seen) := by first | exact HSE2 | exact Lib.hid (HSE2.out.below (pw_below_drewN (n := q3) (Below.refl _ _)))
                have HBXG : Hid ((w2.drewN q3).heap[w.heap.size]? = some (.cells #[.pointer (some ⟨gr, 0, none⟩)] 104 (0, 0))) := HBX2
                have HRNG := Lib.hid (own_reads' HSG.out.2.2)
                have hnn8 : nn * 8 ≤ 140737488355328 := by omega
                try go_wp2_with fail
                refine (clone_any (some ⟨gN, 0, none⟩) nn cN (rndS nn gs t ov false s).nets _ HRNG.out h1 hnn8).mono ?_
                rintro e w4 ⟨vc, rfl, hcl, hb4⟩
                have HCL := Lib.hid hcl; clear hcl
                have HB4 := Lib.hid hb4; clear hb4
                obtain ⟨AC, cC, rfl⟩ := own_slice HCL.out
                have HSG4 := Lib.hid (HSG.out.below HB4.out)
                have HBX4 := Lib.hid (blk_below HBXG.out HB4.out)
                have hsz4 : w.heap.size ≤ ((w2.drewN q3)).heap.size := HSG.out.1.size
                obtain ⟨cs, hcs, hput⟩ := (HSEG.out.below HB4.out).own
                have HPUT := Lib.hid hput; clear hput
                have HCA := Lib.hid (hcs.alloc (.cells #[.slice AC nn cC] 22))
                have HSL2 := hSL
                have hw4 : ((w2.drewN q3)).heap.size ≤ w4.heap.size := HB4.out.size
                have hwA : w.heap.size ≤ (w4.alloc (.cells #[.slice AC nn cC] 22)).heap.size := by rw [show (w4.alloc (.cells #[.slice AC nn cC] 22)).heap.size = w4.heap.size + 1 from Array.size_push _]; omega
                have HWA := Lib.hid hwA; clear hwA
                have hlk : seen.length ≤ 100 := by have := hSL.out; omega
                have HCS := Lib.hid hcs; clear hcs
                go_wp2_with (at_builtin; refine wpList_append_lies (w := w4.alloc (.cells #[.slice AC nn cC] 22)) rfl (.tmp 46) (.tmp 52) 94 rfl w.heap.size 22 i2 uV 1 24 Try.underlying94 hi2 hy0 hy1 hy2 rfl (by omega) (.slice AS seen.length cS) seen.length cs rfl HCA.out ⟨w4.heap.size, 0, none⟩ 1 1 [.slice AC nn cC] rfl rfl (World.news_of_block (cs := #[.slice AC nn cC]) (t := 22) (fr := (0, 0)) (blk_new w4 _)) (by simp [Value.oneCell']) Nat.one_pos (by simp only [maxLen]; omega) (by omega) HWA.out (w4.heap.size + 1) (Array.size_push _) ?_; intro g2 cap2 w10 hown2 hgrow2 hat2 hlt2; have HOW2 := Lib.hid hown2; have HGW2 := Lib.hid hgrow2; clear hown2 hgrow2 hat2 hlt2)
                have HBA : Hid (Below w4.heap.size w4 (w4.alloc (.cells #[.slice AC nn cC] 22))) := Lib.hid ((Below.refl _ _).alloc (Nat.le_refl _) _)
                have HSn : Hid (SetSt w0.heap.size w w10 gr gp nn dn gO cO gN cN pv qk0 ev ov (rndS nn gs t ov false s)) := Lib.hid ((HSG4.out.below HBA.out).grown HCA.out (Nat.le_refl _) HGW2.out)
                have HBXn : Hid (w10.heap[w.heap.size]? = some (.cells #[.pointer (some ⟨gr, 0, none⟩)] 104 (0, 0))) := Lib.hid (blk_grown (blk_alloc HBX4.out _) HGW2.out (row_ne_blk HCA.out (blk_alloc HBX4.out _) (by decide)))
                have hnl : (rndS nn gs t ov false s).nets.length = nn := HGR.out.ln
                have hCLa := own_mono (HCL.out.alloc (.cells #[.slice AC nn cC] 22)) hsz4
                have HSEn : Hid (SeenOk w10 w.heap.size (.slice (some ⟨g2, 0, none⟩) (seen.length + 1) cap2) (seen ++ [netsOf nn gs s.gv ov])) := Lib.hid (HPUT.out (w4.alloc (.cells #[.slice AC nn cC] 22)) w10 _ (.slice AC nn cC) (rndS nn gs t ov false s).nets HBA.out HGW2.out (by first | omega | simp) HOW2.out (by
                  rw [hnl]
                  exact own_other hCLa HGW2.out (own_type_ne hCLa HCA.out (by decide))))
                first
                | exact ⟨⟨k + 1, seen ++ [netsOf nn gs s.gv ov], rndS nn gs t ov false s, by omega, by go_num, fun h => by omega, Lib.hid (by rw [List.length_append, hSL.out]; rfl), HSEn, HSn, HBXn, HGR, Lib.hid (by have h1 := HQR.out; have h2 := hQL.out; have h3 := HGL.out; omega), HRUN⟩, by simp [intOf]; omega⟩
              · have hkb : decide ((100 : Int) < (k : Int) + 1) = true := by simp; omega
                have HRUN : Hid (RunsP nn gs t ov 0 [] s0 none) := Lib.hid (hRP.out _ (HBAD.out (by simp) (.inr (by omega))))
                go_wp2_with fail
                go_ret
                exact ⟨none, HRUN.out, rfl, HKL.out.drewN q3⟩
            · have HRUN : Hid (RunsP nn gs t ov 0 [] s0 none) := Lib.hid (hRP.out _ (HBAD.out (by simp) (.inl (by simp [HMB.out]))))
              go_wp2_with fail
              go_ret
              exact ⟨none, HRUN.out, rfl, HKL.out.drewN q3⟩
          · go_wp2_with fail
            refine (contains85r_any AS _ cS seen (some ⟨gN, 0, none⟩) nn cN (rndS nn gs t ov false s).nets w.heap.size gr _ HSR2.out HRY.out ⟨hbx, hr5⟩).mono ?_
            rintro e w3 ⟨rfl, q3, rfl⟩
            obtain ⟨c, hc⟩ : ∃ c, memB seen (rndS nn gs t ov false s).nets = c := ⟨_, rfl⟩
            rw [hc]
            have HMB : Hid (memB seen (netsOf nn gs s.gv ov) = c) := Lib.hid hc
            clear hc
            cases c
            · by_cases hk1 : k + 1 ≤ 100
              · have hkb : decide ((100 : Int) < (k : Int) + 1) = false := by simp; omega
                have HRUN : Hid (∀ r, RunsP nn gs t ov (k + 1) (seen ++ [netsOf nn gs s.gv ov]) (rndS nn gs t ov false s) r → RunsP nn gs t ov 0 [] s0 r) := Lib.hid (fun r h => hRP.out r (HGOO.out r (by simp) (fun h => by have h2 := h.2; rw [HMB.out] at h2; cases h2) hk1 h))
                go_wp2_with fail
                have HSG : Hid (SetSt w0.heap.size w (w2.drewN q3) gr gp nn dn gO cO gN cN pv qk0 ev ov (rndS nn gs t ov false s)) := by first | exact HS2 | exact Lib.hid (HS2.out.below (pw_below_drewN (n := q3) (Below.refl _ _)))
                have HSEG : Hid (SeenOk (w2.drewN q3) w.heap.size (.slice AS seen.length cS) seen) := by first | exact HSE2 | exact Lib.hid (HSE2.out.below (pw_below_drewN (n := q3) (Below.refl _ _)))
                have HBXG : Hid ((w2.drewN q3).heap[w.heap.size]? = some (.cells #[.pointer (some ⟨gr, 0, none⟩)] 104 (0, 0))) := HBX2
                have HRNG := Lib.hid (own_reads' HSG.out.2.2)
                have hnn8 : nn * 8 ≤ 140737488355328 := by omega
                try go_wp2_with fail
                refine (clone_any (some ⟨gN, 0, none⟩) nn cN (rndS nn gs t ov false s).nets _ HRNG.out h1 hnn8).mono ?_
                rintro e w4 ⟨vc, rfl, hcl, hb4⟩
                have HCL := Lib.hid hcl; clear hcl
                have HB4 := Lib.hid hb4; clear hb4
                obtain ⟨AC, cC, rfl⟩ := own_slice HCL.out
                have HSG4 := Lib.hid (HSG.out.below HB4.out)
                have HBX4 := Lib.hid (blk_below HBXG.out HB4.out)
                have hsz4 : w.heap.size ≤ ((w2.drewN q3)).heap.size := HSG.out.1.size
                obtain ⟨cs, hcs, hput⟩ := (HSEG.out.below HB4.out).own
                have HPUT := Lib.hid hput; clear hput
                have HCA := Lib.hid (hcs.alloc (.cells #[.slice AC nn cC] 22))
                have HSL2 := hSL
                have hw4 : ((w2.drewN q3)).heap.size ≤ w4.heap.size := HB4.out.size
                have hwA : w.heap.size ≤ (w4.alloc (.cells #[.slice AC nn cC] 22)).heap.size := by rw [show (w4.alloc (.cells #[.slice AC nn cC] 22)).heap.size = w4.heap.size + 1 from Array.size_push _]; omega
                have HWA := Lib.hid hwA; clear hwA
                have hlk : seen.length ≤ 100 := by have := hSL.out; omega
                have HCS := Lib.hid hcs; clear hcs
                go_wp2_with (at_builtin; refine wpList_append_lies (w := w4.alloc (.cells #[.slice AC nn cC] 22)) rfl (.tmp 46) (.tmp 52) 94 rfl w.heap.size 22 i2 uV 1 24 Try.underlying94 hi2 hy0 hy1 hy2 rfl (by omega) (.slice AS seen.length cS) seen.length cs rfl HCA.out ⟨w4.heap.size, 0, none⟩ 1 1 [.slice AC nn cC] rfl rfl (World.news_of_block (cs := #[.slice AC nn cC]) (t := 22) (fr := (0, 0)) (blk_new w4 _)) (by simp [Value.oneCell']) Nat.one_pos (by simp only [maxLen]; omega) (by omega) HWA.out (w4.heap.size + 1) (Array.size_push _) ?_; intro g2 cap2 w10 hown2 hgrow2 hat2 hlt2; have HOW2 := Lib.hid hown2; have HGW2 := Lib.hid hgrow2; clear hown2 hgrow2 hat2 hlt2)
                have HBA : Hid (Below w4.heap.size w4 (w4.alloc (.cells #[.slice AC nn cC] 22))) := Lib.hid ((Below.refl _ _).alloc (Nat.le_refl _) _)
                have HSn : Hid (SetSt w0.heap.size w w10 gr gp nn dn gO cO gN cN pv qk0 ev ov (rndS nn gs t ov false s)) := Lib.hid ((HSG4.out.below HBA.out).grown HCA.out (Nat.le_refl _) HGW2.out)
                have HBXn : Hid (w10.heap[w.heap.size]? = some (.cells #[.pointer (some ⟨gr, 0, none⟩)] 104 (0, 0))) := Lib.hid (blk_grown (blk_alloc HBX4.out _) HGW2.out (row_ne_blk HCA.out (blk_alloc HBX4.out _) (by decide)))
                have hnl : (rndS nn gs t ov false s).nets.length = nn := HGR.out.ln
                have hCLa := own_mono (HCL.out.alloc (.cells #[.slice AC nn cC] 22)) hsz4
                have HSEn : Hid (SeenOk w10 w.heap.size (.slice (some ⟨g2, 0, none⟩) (seen.length + 1) cap2) (seen ++ [netsOf nn gs s.gv ov])) := Lib.hid (HPUT.out (w4.alloc (.cells #[.slice AC nn cC] 22)) w10 _ (.slice AC nn cC) (rndS nn gs t ov false s).nets HBA.out HGW2.out (by first | omega | simp) HOW2.out (by
                  rw [hnl]
                  exact own_other hCLa HGW2.out (own_type_ne hCLa HCA.out (by decide))))
                first
                | exact ⟨⟨k + 1, seen ++ [netsOf nn gs s.gv ov], rndS nn gs t ov false s, by omega, by go_num, fun h => by omega, Lib.hid (by rw [List.length_append, hSL.out]; rfl), HSEn, HSn, HBXn, HGR, Lib.hid (by have h1 := HQR.out; have h2 := hQL.out; have h3 := HGL.out; omega), HRUN⟩, by simp [intOf]; omega⟩
              · have hkb : decide ((100 : Int) < (k : Int) + 1) = true := by simp; omega
                have HRUN : Hid (RunsP nn gs t ov 0 [] s0 none) := Lib.hid (hRP.out _ (HBAD.out (by simp) (.inr (by omega))))
                go_wp2_with fail
                go_ret
                exact ⟨none, HRUN.out, rfl, HKL.out.drewN q3⟩
            · have HRUN : Hid (RunsP nn gs t ov 0 [] s0 none) := Lib.hid (hRP.out _ (HBAD.out (by simp) (.inl (by simp [HMB.out]))))
              go_wp2_with fail
              go_ret
              exact ⟨none, HRUN.out, rfl, HKL.out.drewN q3⟩
    · have htb : (t == 0) = false := by simpa using ht
      have HTZ := Lib.hid ht; clear ht
      have HAL : Hid ((decide (t = 0) && decide (k = 0)) = false) := Lib.hid (by rw [decide_eq_false HTZ.out, Bool.false_and])
      go_wp2_with fail
      refine (ask94_any w0 w1 gr gp mb nn gn gc dn GA gs pv qk (.slice (some ⟨gO, 0, none⟩) nn cO) ev gD cD gN cN wx.heap.size g' nn t false (s.gv ++ ov) (netsOf nn gs s.gv ov) s.q (changedOf nn (netsOf nn gs s.gv ov) s.nets) HB1.out HG.out HR1.out hrb HP1.out HD1.out HN1.out HQ1.out HC1.out HDN.out HGO.out h1 h40 hg60 ht0 ht1 HQB.out).mono ?_
      rintro e w2 ⟨gD2, cD2, qk2, rfl, hr2, hd2, hq2, hk2, hat2⟩
      rw [ask_rnd HGL.out hGD.out.lg] at hd2 hq2 ⊢
      have HGR := Lib.hid (hGD.out.rnd (t := t) (all := false) HGO.out HGL.out HOL.out HOV.out)
      have HQR := Lib.hid (rnd_qlen (nn := nn) (gs := gs) (t := t) (all := false) (ov := ov) (s := s))
      obtain ⟨m, hm⟩ : ∃ m, rndMov nn gs t ov false s = m := ⟨_, rfl⟩
      have HMV := Lib.hid hm
      have hstop := fun h1 h2 => RunsP.stop (nn := nn) (gs := gs) (t := t) (ov := ov) (k := k) (seen := seen) (s := s) h1 h2
      have hbad := fun h1 h2 => RunsP.bad (nn := nn) (gs := gs) (t := t) (ov := ov) (k := k) (seen := seen) (s := s) h1 h2
      have hgo' := fun r h1 h2 h3 h4 => RunsP.go (nn := nn) (gs := gs) (t := t) (ov := ov) (k := k) (seen := seen) (s := s) (r := r) h1 h2 h3 h4
      rw [HAL.out, hm, HAA.out] at hstop hbad hgo'
      have HSTOP := Lib.hid hstop; clear hstop
      have HBAD := Lib.hid hbad; clear hbad
      have HGOO := Lib.hid hgo'; clear hgo'
      rw [hm]
      clear hm
      have HS2 : Hid (SetSt w0.heap.size w w2 gr gp nn dn gO cO gN cN pv qk0 ev ov (rndS nn gs t ov false s)) := Lib.hid (by
        refine ⟨(hK.trans hk1 (fun i _ h => .inr (.inl h))).trans hk2 (fun i hi h => ?_), ⟨gD2, cD2, qk2, hr2, own_mono hd2 hb1, hq2, ?_, ?_⟩, hk2.own HN1.out (fun g hg => ?_)⟩
        · rcases h with h | h
          · exact .inl h
          · rcases hat with h3 | ⟨b, h3, h4⟩
            · rw [h3] at h; exact .inr (.inr h)
            · rw [h3] at h; injection h with h; omega
        · have h3 := own_base hd2 gD2 rfl
          have h4 := hk1.size
          have h5 := hK.size
          omega
        · rcases hat2 with h3 | ⟨b, h3, h4⟩
          · rw [h3]; exact hat
          · right; exact ⟨b, h3, by have h5 := hk1.size; have h6 := hK.size; omega⟩
        · have e : gN = g := Option.some.inj hg
          rw [← e]
          rintro (h | h)
          · exact own_ne HN1.out HR1.out (by decide) (by rw [h]; rfl)
          · exact own_ne_own HQ1.out HN1.out (by decide) rfl h)
      have HBX2 : Hid (w2.heap[w.heap.size]? = some (.cells #[.pointer (some ⟨gr, 0, none⟩)] 104 (0, 0))) := Lib.hid (hk2.blk (hk1.blk hBX.out (by omega)) (by
        rintro (h | h)
        · omega
        · exact row_ne_blk HQ1.out (hk1.blk hBX.out (by omega)) (by decide) h))
      have HSE2 : Hid (SeenOk w2 w.heap.size (.slice AS seen.length cS) seen) := Lib.hid ((hSE.out.kept hk1 (fun i h => .inl (by omega))).kept hk2 (fun i h => by
        rcases h with h | h
        · exact .inl (by omega)
        · rcases HQ1.out.2 with ⟨e, _⟩ | ⟨gq, cap, cur, e, _, h4, _⟩
          · rw [e] at h; cases h
          · rw [e] at h; have e2 : i = gq := Option.some.inj h
            exact .inr ⟨cur, by rw [e2]; exact h4⟩))
      clear hr2 hd2 hq2 hk2 hat2 HB1 HR1 HP1 HD1 HN1 HQ1 HC1 HQB hr hd hq hne hat hn hk1 hK hS hBX hSE hb1
      have HKL := Lib.hid (HS2.out.1)
      obtain ⟨hK2, ⟨gD3, cD3, qk3, hr3, hd3, hq3, hne3, hat3⟩, hn3⟩ := HS2.out
      have hbx : w2.cell? ⟨w.heap.size, 0, none⟩ = some (.pointer (some ⟨gr, 0, none⟩)) := (blk_cell HBX2.out 0).trans rfl
      have hr5 : w2.cell? ⟨gr, 5, none⟩ = some (.slice (some ⟨gN, 0, none⟩) nn cN) := (blk_cell hr3 5).trans rfl
      have HRY := Lib.hid (own_reads' hn3)
      obtain ⟨AS2, cS2, esl, hsr2⟩ := HSE2.out.reads
      have HSR2 : Hid (ReadsRows w2 AS seen.length seen) := Lib.hid (by injection esl with e1 e2 e3; rw [e1]; exact hsr2)
      clear hK2 hr3 hd3 hq3 hne3 hat3 hn3 esl hsr2
      cases a
      · cases m
        · -- at rest
          have HRUN : Hid (RunsP nn gs t ov 0 [] s0 (some (rndS nn gs t ov false s))) := Lib.hid (hRP.out _ (HSTOP.out (by simp) (by simp)))
          go_wp2_with fail
          go_ret
          exact ⟨_, HRUN.out, rfl, HS2.out, HGR.out, by have h1 := HQR.out; have h2 := hQL.out; have h3 := HGL.out; omega⟩
        · by_cases hk1 : k + 1 ≤ 100
          · have hkb : decide ((100 : Int) < (k : Int) + 1) = false := by simp; omega
            have HRUN : Hid (∀ r, RunsP nn gs t ov (k + 1) (seen ++ [netsOf nn gs s.gv ov]) (rndS nn gs t ov false s) r → RunsP nn gs t ov 0 [] s0 r) := Lib.hid (fun r h => hRP.out r (HGOO.out r (by simp) (fun h => by have h2 := h.1; cases h2) hk1 h))
            go_wp2_with fail
            have HSG : Hid (SetSt w0.heap.size w w2 gr gp nn dn gO cO gN cN pv qk0 ev ov (rndS nn gs t ov false s)) := by first | exact HS2 | exact Lib.hid (HS2.out.below (pw_below_drewN (n := q3) (Below.refl _ _)))
            have HSEG : Hid (SeenOk w2 w.heap.size (.slice AS seen.length cS) seen) := by first | exact HSE2 | exact Lib.hid (HSE2.out.below (pw_below_drewN (n := q3) (Below.refl _ _)))
            have HBXG : Hid (w2.heap[w.heap.size]? = some (.cells #[.pointer (some ⟨gr, 0, none⟩)] 104 (0, 0))) := HBX2
            have HRNG := Lib.hid (own_reads' HSG.out.2.2)
            have hnn8 : nn * 8 ≤ 140737488355328 := by omega
            try go_wp2_with fail
            refine (clone_any (some ⟨gN, 0, none⟩) nn cN (rndS nn gs t ov false s).nets _ HRNG.out h1 hnn8).mono ?_
            rintro e w4 ⟨vc, rfl, hcl, hb4⟩
            have HCL := Lib.hid hcl; clear hcl
            have HB4 := Lib.hid hb4; clear hb4
            obtain ⟨AC, cC, rfl⟩ := own_slice HCL.out
            have HSG4 := Lib.hid (HSG.out.below HB4.out)
            have HBX4 := Lib.hid (blk_below HBXG.out HB4.out)
            have hsz4 : w.heap.size ≤ (w2).heap.size := HSG.out.1.size
            obtain ⟨cs, hcs, hput⟩ := (HSEG.out.below HB4.out).own
            have HPUT := Lib.hid hput; clear hput
            have HCA := Lib.hid (hcs.alloc (.cells #[.slice AC nn cC] 22))
            have HSL2 := hSL
            have hw4 : (w2).heap.size ≤ w4.heap.size := HB4.out.size
            have hwA : w.heap.size ≤ (w4.alloc (.cells #[.slice AC nn cC] 22)).heap.size := by rw [show (w4.alloc (.cells #[.slice AC nn cC] 22)).heap.size = w4.heap.size + 1 from Array.size_push _]; omega
            have HWA := Lib.hid hwA; clear hwA
            have hlk : seen.length ≤ 100 := by have := hSL.out; omega
            have HCS := Lib.hid hcs; clear hcs
            go_wp2_with (at_builtin; refine wpList_append_lies (w := w4.alloc (.cells #[.slice AC nn cC] 22)) rfl (.tmp 46) (.tmp 52) 94 rfl w.heap.size 22 i2 uV 1 24 Try.underlying94 hi2 hy0 hy1 hy2 rfl (by omega) (.slice AS seen.length cS) seen.length cs rfl HCA.out ⟨w4.heap.size, 0, none⟩ 1 1 [.slice AC nn cC] rfl rfl (World.news_of_block (cs := #[.slice AC nn cC]) (t := 22) (fr := (0, 0)) (blk_new w4 _)) (by simp [Value.oneCell']) Nat.one_pos (by simp only [maxLen]; omega) (by omega) HWA.out (w4.heap.size + 1) (Array.size_push _) ?_; intro g2 cap2 w10 hown2 hgrow2 hat2 hlt2; have HOW2 := Lib.hid hown2; have HGW2 := Lib.hid hgrow2; clear hown2 hgrow2 hat2 hlt2)
            have HBA : Hid (Below w4.heap.size w4 (w4.alloc (.cells #[.slice AC nn cC] 22))) := Lib.hid ((Below.refl _ _).alloc (Nat.le_refl _) _)
            have HSn : Hid (SetSt w0.heap.size w w10 gr gp nn dn gO cO gN cN pv qk0 ev ov (rndS nn gs t ov false s)) := Lib.hid ((HSG4.out.below HBA.out).grown HCA.out (Nat.le_refl _) HGW2.out)
            have HBXn : Hid (w10.heap[w.heap.size]? = some (.cells #[.pointer (some ⟨gr, 0, none⟩)] 104 (0, 0))) := Lib.hid (blk_grown (blk_alloc HBX4.out _) HGW2.out (row_ne_blk HCA.out (blk_alloc HBX4.out _) (by decide)))
            have hnl : (rndS nn gs t ov false s).nets.length = nn := HGR.out.ln
            have hCLa := own_mono (HCL.out.alloc (.cells #[.slice AC nn cC] 22)) hsz4
            have HSEn : Hid (SeenOk w10 w.heap.size (.slice (some ⟨g2, 0, none⟩) (seen.length + 1) cap2) (seen ++ [netsOf nn gs s.gv ov])) := Lib.hid (HPUT.out (w4.alloc (.cells #[.slice AC nn cC] 22)) w10 _ (.slice AC nn cC) (rndS nn gs t ov false s).nets HBA.out HGW2.out (by first | omega | simp) HOW2.out (by
              rw [hnl]
              exact own_other hCLa HGW2.out (own_type_ne hCLa HCA.out (by decide))))
            first
            | exact ⟨⟨k + 1, seen ++ [netsOf nn gs s.gv ov], rndS nn gs t ov false s, by omega, by go_num, fun h => by omega, Lib.hid (by rw [List.length_append, hSL.out]; rfl), HSEn, HSn, HBXn, HGR, Lib.hid (by have h1 := HQR.out; have h2 := hQL.out; have h3 := HGL.out; omega), HRUN⟩, by simp [intOf]; omega⟩
          · have hkb : decide ((100 : Int) < (k : Int) + 1) = true := by simp; omega
            have HRUN : Hid (RunsP nn gs t ov 0 [] s0 none) := Lib.hid (hRP.out _ (HBAD.out (by simp) (.inr (by omega))))
            go_wp2_with fail
            go_ret
            exact ⟨none, HRUN.out, rfl, HKL.out⟩
      · cases m
        · go_wp2_with fail
          refine (contains85r_any AS _ cS seen (some ⟨gN, 0, none⟩) nn cN (rndS nn gs t ov false s).nets w.heap.size gr _ HSR2.out HRY.out ⟨hbx, hr5⟩).mono ?_
          rintro e w3 ⟨rfl, q3, rfl⟩
          obtain ⟨c, hc⟩ : ∃ c, memB seen (rndS nn gs t ov false s).nets = c := ⟨_, rfl⟩
          rw [hc]
          have HMB : Hid (memB seen (netsOf nn gs s.gv ov) = c) := Lib.hid hc
          clear hc
          cases c
          · by_cases hk1 : k + 1 ≤ 100
            · have hkb : decide ((100 : Int) < (k : Int) + 1) = false := by simp; omega
              have HRUN : Hid (∀ r, RunsP nn gs t ov (k + 1) (seen ++ [netsOf nn gs s.gv ov]) (rndS nn gs t ov false s) r → RunsP nn gs t ov 0 [] s0 r) := Lib.hid (fun r h => hRP.out r (HGOO.out r (by simp) (fun h => by have h2 := h.2; rw [HMB.out] at h2; cases h2) hk1 h))
              go_wp2_with fail
              have HSG : Hid (SetSt w0.heap.size w (w2.drewN q3) gr gp nn dn gO cO gN cN pv qk0 ev ov (rndS nn gs t ov false s)) := by first | exact HS2 | exact Lib.hid (HS2.out.below (pw_below_drewN (n := q3) (Below.refl _ _)))
              have HSEG : Hid (SeenOk (w2.drewN q3) w.heap.size (.slice AS seen.length cS) seen) := by first | exact HSE2 | exact Lib.hid (HSE2.out.below (pw_below_drewN (n := q3) (Below.refl _ _)))
              have HBXG : Hid ((w2.drewN q3).heap[w.heap.size]? = some (.cells #[.pointer (some ⟨gr, 0, none⟩)] 104 (0, 0))) := HBX2
              have HRNG := Lib.hid (own_reads' HSG.out.2.2)
              have hnn8 : nn * 8 ≤ 140737488355328 := by omega
              try go_wp2_with fail
              refine (clone_any (some ⟨gN, 0, none⟩) nn cN (rndS nn gs t ov false s).nets _ HRNG.out h1 hnn8).mono ?_
              rintro e w4 ⟨vc, rfl, hcl, hb4⟩
              have HCL := Lib.hid hcl; clear hcl
              have HB4 := Lib.hid hb4; clear hb4
              obtain ⟨AC, cC, rfl⟩ := own_slice HCL.out
              have HSG4 := Lib.hid (HSG.out.below HB4.out)
              have HBX4 := Lib.hid (blk_below HBXG.out HB4.out)
              have hsz4 : w.heap.size ≤ ((w2.drewN q3)).heap.size := HSG.out.1.size
              obtain ⟨cs, hcs, hput⟩ := (HSEG.out.below HB4.out).own
              have HPUT := Lib.hid hput; clear hput
              have HCA := Lib.hid (hcs.alloc (.cells #[.slice AC nn cC] 22))
              have HSL2 := hSL
              have hw4 : ((w2.drewN q3)).heap.size ≤ w4.heap.size := HB4.out.size
              have hwA : w.heap.size ≤ (w4.alloc (.cells #[.slice AC nn cC] 22)).heap.size := by rw [show (w4.alloc (.cells #[.slice AC nn cC] 22)).heap.size = w4.heap.size + 1 from Array.size_push _]; omega
              have HWA := Lib.hid hwA; clear hwA
              have hlk : seen.length ≤ 100 := by have := hSL.out; omega
              have HCS := Lib.hid hcs; clear hcs
              go_wp2_with (at_builtin; refine wpList_append_lies (w := w4.alloc (.cells #[.slice AC nn cC] 22)) rfl (.tmp 46) (.tmp 52) 94 rfl w.heap.size 22 i2 uV 1 24 Try.underlying94 hi2 hy0 hy1 hy2 rfl (by omega) (.slice AS seen.length cS) seen.length cs rfl HCA.out ⟨w4.heap.size, 0, none⟩ 1 1 [.slice AC nn cC] rfl rfl (World.news_of_block (cs := #[.slice AC nn cC]) (t := 22) (fr := (0, 0)) (blk_new w4 _)) (by simp [Value.oneCell']) Nat.one_pos (by simp only [maxLen]; omega) (by omega) HWA.out (w4.heap.size + 1) (Array.size_push _) ?_; intro g2 cap2 w10 hown2 hgrow2 hat2 hlt2; have HOW2 := Lib.hid hown2; have HGW2 := Lib.hid hgrow2; clear hown2 hgrow2 hat2 hlt2)
              have HBA : Hid (Below w4.heap.size w4 (w4.alloc (.cells #[.slice AC nn cC] 22))) := Lib.hid ((Below.refl _ _).alloc (Nat.le_refl _) _)
              have HSn : Hid (SetSt w0.heap.size w w10 gr gp nn dn gO cO gN cN pv qk0 ev ov (rndS nn gs t ov false s)) := Lib.hid ((HSG4.out.below HBA.out).grown HCA.out (Nat.le_refl _) HGW2.out)
              have HBXn : Hid (w10.heap[w.heap.size]? = some (.cells #[.pointer (some ⟨gr, 0, none⟩)] 104 (0, 0))) := Lib.hid (blk_grown (blk_alloc HBX4.out _) HGW2.out (row_ne_blk HCA.out (blk_alloc HBX4.out _) (by decide)))
              have hnl : (rndS nn gs t ov false s).nets.length = nn := HGR.out.ln
              have hCLa := own_mono (HCL.out.alloc (.cells #[.slice AC nn cC] 22)) hsz4
              have HSEn : Hid (SeenOk w10 w.heap.size (.slice (some ⟨g2, 0, none⟩) (seen.length + 1) cap2) (seen ++ [netsOf nn gs s.gv ov])) := Lib.hid (HPUT.out (w4.alloc (.cells #[.slice AC nn cC] 22)) w10 _ (.slice AC nn cC) (rndS nn gs t ov false s).nets HBA.out HGW2.out (by first | omega | simp) HOW2.out (by
                rw [hnl]
                exact own_other hCLa HGW2.out (own_type_ne hCLa HCA.out (by decide))))
              first
              | exact ⟨⟨k + 1, seen ++ [netsOf nn gs s.gv ov], rndS nn gs t ov false s, by omega, by go_num, fun h => by omega, Lib.hid (by rw [List.length_append, hSL.out]; rfl), HSEn, HSn, HBXn, HGR, Lib.hid (by have h1 := HQR.out; have h2 := hQL.out; have h3 := HGL.out; omega), HRUN⟩, by simp [intOf]; omega⟩
            · have hkb : decide ((100 : Int) < (k : Int) + 1) = true := by simp; omega
              have HRUN : Hid (RunsP nn gs t ov 0 [] s0 none) := Lib.hid (hRP.out _ (HBAD.out (by simp) (.inr (by omega))))
              go_wp2_with fail
              go_ret
              exact ⟨none, HRUN.out, rfl, HKL.out.drewN q3⟩
          · have HRUN : Hid (RunsP nn gs t ov 0 [] s0 none) := Lib.hid (hRP.out _ (HBAD.out (by simp) (.inl (by simp [HMB.out]))))
            go_wp2_with fail
            go_ret
            exact ⟨none, HRUN.out, rfl, HKL.out.drewN q3⟩
        · go_wp2_with fail
          refine (contains85r_any AS _ cS seen (some ⟨gN, 0, none⟩) nn cN (rndS nn gs t ov false s).nets w.heap.size gr _ HSR2.out HRY.out ⟨hbx, hr5⟩).mono ?_
          rintro e w3 ⟨rfl, q3, rfl⟩
          obtain ⟨c, hc⟩ : ∃ c, memB seen (rndS nn gs t ov false s).nets = c := ⟨_, rfl⟩
          rw [hc]
          have HMB : Hid (memB seen (netsOf nn gs s.gv ov) = c) := Lib.hid hc
          clear hc
          cases c
          · by_cases hk1 : k + 1 ≤ 100
            · have hkb : decide ((100 : Int) < (k : Int) + 1) = false := by simp; omega
              have HRUN : Hid (∀ r, RunsP nn gs t ov (k + 1) (seen ++ [netsOf nn gs s.gv ov]) (rndS nn gs t ov false s) r → RunsP nn gs t ov 0 [] s0 r) := Lib.hid (fun r h => hRP.out r (HGOO.out r (by simp) (fun h => by have h2 := h.2; rw [HMB.out] at h2; cases h2) hk1 h))
              go_wp2_with fail
              have HSG : Hid (SetSt w0.heap.size w (w2.drewN q3) gr gp nn dn gO cO gN cN pv qk0 ev ov (rndS nn gs t ov false s)) := by first | exact HS2 | exact Lib.hid (HS2.out.below (pw_below_drewN (n := q3) (Below.refl _ _)))
              have HSEG : Hid (SeenOk (w2.drewN q3) w.heap.size (.slice AS seen.length cS) seen) := by first | exact HSE2 | exact Lib.hid (HSE2.out.below (pw_below_drewN (n := q3) (Below.refl _ _)))
              have HBXG : Hid ((w2.drewN q3).heap[w.heap.size]? = some (.cells #[.pointer (some ⟨gr, 0, none⟩)] 104 (0, 0))) := HBX2
              have HRNG := Lib.hid (own_reads' HSG.out.2.2)
              have hnn8 : nn * 8 ≤ 140737488355328 := by omega
              try go_wp2_with fail
              refine (clone_any (some ⟨gN, 0, none⟩) nn cN (rndS nn gs t ov false s).nets _ HRNG.out h1 hnn8).mono ?_
              rintro e w4 ⟨vc, rfl, hcl, hb4⟩
              have HCL := Lib.hid hcl; clear hcl
              have HB4 := Lib.hid hb4; clear hb4
              obtain ⟨AC, cC, rfl⟩ := own_slice HCL.out
              have HSG4 := Lib.hid (HSG.out.below HB4.out)
              have HBX4 := Lib.hid (blk_below HBXG.out HB4.out)
              have hsz4 : w.heap.size ≤ ((w2.drewN q3)).heap.size := HSG.out.1.size
              obtain ⟨cs, hcs, hput⟩ := (HSEG.out.below HB4.out).own
              have HPUT := Lib.hid hput; clear hput
              have HCA := Lib.hid (hcs.alloc (.cells #[.slice AC nn cC] 22))
              have HSL2 := hSL
              have hw4 : ((w2.drewN q3)).heap.size ≤ w4.heap.size := HB4.out.size
              have hwA : w.heap.size ≤ (w4.alloc (.cells #[.slice AC nn cC] 22)).heap.size := by rw [show (w4.alloc (.cells #[.slice AC nn cC] 22)).heap.size = w4.heap.size + 1 from Array.size_push _]; omega
              have HWA := Lib.hid hwA; clear hwA
              have hlk : seen.length ≤ 100 := by have := hSL.out; omega
              have HCS := Lib.hid hcs; clear hcs
              go_wp2_with (at_builtin; refine wpList_append_lies (w := w4.alloc (.cells #[.slice AC nn cC] 22)) rfl (.tmp 46) (.tmp 52) 94 rfl w.heap.size 22 i2 uV 1 24 Try.underlying94 hi2 hy0 hy1 hy2 rfl (by omega) (.slice AS seen.length cS) seen.length cs rfl HCA.out ⟨w4.heap.size, 0, none⟩ 1 1 [.slice AC nn cC] rfl rfl (World.news_of_block (cs := #[.slice AC nn cC]) (t := 22) (fr := (0, 0)) (blk_new w4 _)) (by simp [Value.oneCell']) Nat.one_pos (by simp only [maxLen]; omega) (by omega) HWA.out (w4.heap.size + 1) (Array.size_push _) ?_; intro g2 cap2 w10 hown2 hgrow2 hat2 hlt2; have HOW2 := Lib.hid hown2; have HGW2 := Lib.hid hgrow2; clear hown2 hgrow2 hat2 hlt2)
              have HBA : Hid (Below w4.heap.size w4 (w4.alloc (.cells #[.slice AC nn cC] 22))) := Lib.hid ((Below.refl _ _).alloc (Nat.le_refl _) _)
              have HSn : Hid (SetSt w0.heap.size w w10 gr gp nn dn gO cO gN cN pv qk0 ev ov (rndS nn gs t ov false s)) := Lib.hid ((HSG4.out.below HBA.out).grown HCA.out (Nat.le_refl _) HGW2.out)
              have HBXn : Hid (w10.heap[w.heap.size]? = some (.cells #[.pointer (some ⟨gr, 0, none⟩)] 104 (0, 0))) := Lib.hid (blk_grown (blk_alloc HBX4.out _) HGW2.out (row_ne_blk HCA.out (blk_alloc HBX4.out _) (by decide)))
              have hnl : (rndS nn gs t ov false s).nets.length = nn := HGR.out.ln
              have hCLa := own_mono (HCL.out.alloc (.cells #[.slice AC nn cC] 22)) hsz4
              have HSEn : Hid (SeenOk w10 w.heap.size (.slice (some ⟨g2, 0, none⟩) (seen.length + 1) cap2) (seen ++ [netsOf nn gs s.gv ov])) := Lib.hid (HPUT.out (w4.alloc (.cells #[.slice AC nn cC] 22)) w10 _ (.slice AC nn cC) (rndS nn gs t ov false s).nets HBA.out HGW2.out (by first | omega | simp) HOW2.out (by
                rw [hnl]
                exact own_other hCLa HGW2.out (own_type_ne hCLa HCA.out (by decide))))
              first
              | exact ⟨⟨k + 1, seen ++ [netsOf nn gs s.gv ov], rndS nn gs t ov false s, by omega, by go_num, fun h => by omega, Lib.hid (by rw [List.length_append, hSL.out]; rfl), HSEn, HSn, HBXn, HGR, Lib.hid (by have h1 := HQR.out; have h2 := hQL.out; have h3 := HGL.out; omega), HRUN⟩, by simp [intOf]; omega⟩
            · have hkb : decide ((100 : Int) < (k : Int) + 1) = true := by simp; omega
              have HRUN : Hid (RunsP nn gs t ov 0 [] s0 none) := Lib.hid (hRP.out _ (HBAD.out (by simp) (.inr (by omega))))
              go_wp2_with fail
              go_ret
              exact ⟨none, HRUN.out, rfl, HKL.out.drewN q3⟩
          · have HRUN : Hid (RunsP nn gs t ov 0 [] s0 none) := Lib.hid (hRP.out _ (HBAD.out (by simp) (.inl (by simp [HMB.out]))))
            go_wp2_with fail
            go_ret
            exact ⟨none, HRUN.out, rfl, HKL.out.drewN q3⟩
    -- ]]
end Go.Proofs.Ytobdhdehmkmjcaa
