/- Words and walks for the row RowLogicRuns, put together: M8. -/
import Derived.Test.YtobdhdehmkmjcaaRunsM7
namespace Go.Proofs.Ytobdhdehmkmjcaa
set_option linter.unusedVariables false
set_option linter.unusedSimpArgs false
open Go.RowKit Go.Proofs.YtobdhdehmkmjcaaW.PrintWords Go.Proofs.YtobdhdehmkmjcaaW.PrintLast

def RdSent (w : World) (ad : Addr) (d : SentL) : Prop := w.cell? ad = some (.int .i64 d.t) ∧ w.cell? ⟨ad.block, ad.off + 1, none⟩ = some (.int .i64 d.gate) ∧ w.cell? ⟨ad.block, ad.off + 2, none⟩ = some (.int .i64 d.v)
def RdSents (w : World) (A : Option Addr) (n : Nat) (ds : List SentL) : Prop :=
  ds.length = n ∧ n ≤ 9223372036854775807 ∧ (0 < n → ∃ ad, A = some ad ∧ ∀ i, i < n → RdSent w (ad.add (i * 3)) (ds.getD i zSent))
theorem RdSents.at_ {w : World} {A : Option Addr} {n : Nat} {ds : List SentL} (h : RdSents w A n ds) (i : Nat) (hi : i < n) : ∃ ad, A = some ad ∧ RdSent w (ad.add (i * 3)) (ds.getD i zSent) := by
  obtain ⟨ad, e, hc⟩ := h.2.2 (by omega)
  exact ⟨ad, e, hc i hi⟩
theorem own_sents {W : World} {b : Nat} {e : TypeId} {v : Value} {ds : List SentL} (h : W.ownsRow b e 3 v ds.length (flatS ds)) : ∃ A c, v = .slice A ds.length c ∧ RdSents W A ds.length ds := by
  cases ds with
  | nil =>
    obtain ⟨A, c, rfl⟩ := own_slice h
    exact ⟨A, c, rfl, rfl, by decide, fun h => absurd h (by decide)⟩
  | cons d ds =>
    obtain ⟨g, c, rfl, hc, hm, hcell⟩ := own_cells h (by simp)
    refine ⟨_, c, rfl, rfl, by simp only [maxLen] at hm; omega, fun _ => ⟨_, rfl, fun i hi => ?_⟩⟩
    obtain ⟨e0, e1, e2⟩ := flatS_at i hi
    have ea : (⟨g, 0, none⟩ : Addr).add (i * 3) = ⟨g, i * 3, none⟩ := by simp [Addr.add]; exact Eq.symm
    rw [ea]
    exact ⟨hcell _ _ e0, hcell _ _ e1, hcell _ _ e2⟩
theorem dueO_succ {t : Int} {ps : List PulseL} {ov : List Int} {k : Nat} (hk : k < ps.length) : dueO t (ps.take (k + 1)) ov = if (ps.getD k zPulse).t = t then (dueO t (ps.take k) ov).set (ps.getD k zPulse).net.toNat (ps.getD k zPulse).v else dueO t (ps.take k) ov := by
  unfold dueO
  rw [List.take_succ_eq_append_getElem hk, List.foldl_append]
  simp [List.getD_eq_getElem?_getD, List.getElem?_eq_getElem hk]
theorem dueG_succ {t : Int} {q : List SentL} {gv : List Int} {k : Nat} (hk : k < q.length) : dueG t (q.take (k + 1)) gv = if (q.getD k zSent).t = t then (dueG t (q.take k) gv).set (q.getD k zSent).gate.toNat (q.getD k zSent).v else dueG t (q.take k) gv := by
  unfold dueG
  rw [List.take_succ_eq_append_getElem hk, List.foldl_append]
  simp [List.getD_eq_getElem?_getD, List.getElem?_eq_getElem hk]
theorem dueQ_succ {t : Int} {q : List SentL} {k : Nat} (hk : k < q.length) : dueQ t (q.take (k + 1)) = if (q.getD k zSent).t = t then dueQ t (q.take k) else dueQ t (q.take k) ++ [q.getD k zSent] := by
  unfold dueQ
  rw [List.take_succ_eq_append_getElem hk, List.filter_append]
  by_cases h : q[k].t = t <;> simp [List.getD_eq_getElem?_getD, List.getElem?_eq_getElem hk, h]
theorem dueO_len (t : Int) : ∀ (q : List PulseL) (gv : List Int), (dueO t q gv).length = gv.length
  | [], gv => rfl
  | e :: q, gv => by
    show (dueO t q _).length = _
    rw [dueO_len t q]
    show (if e.t = t then gv.set e.net.toNat e.v else gv).length = _
    split
    · rw [List.length_set]
    · rfl
theorem dueQ_len (t : Int) (q : List SentL) : (dueQ t q).length ≤ q.length := List.length_filter_le _ _
theorem set_app2 {gv ov : List Int} {k n : Nat} (x : Int) (h : gv.length = k) : (gv ++ ov).set (k + n) x = gv ++ ov.set n x := by
  subst h
  rw [List.set_append_right _ _ (by omega), show gv.length + n - gv.length = n by omega]
def PulseOk (nn : Nat) (p : PulseL) : Prop := 0 ≤ p.t ∧ 0 ≤ p.net ∧ p.net < (nn : Int) ∧ isVal p.v = true

set_option maxHeartbeats 8000000 in
set_option maxRecDepth 100000 in
theorem due64_any (w0 w : World) (gr gp mb nn gn gc dn : Nat) (GA : Option Addr) (PA : Option Addr) (pn pc : Nat) (ps : List PulseL) (qv ov' nv ev : Value) (gD cD : Nat) (t : Int) (gv ov : List Int) (q : List SentL)
    (hB : Below w0.heap.size w0 w) (hps : RdPulses w0 PA pn ps) (hrb : w0.heap.size ≤ gr) (hp : PlayerB w gp mb (nn : Int) GA gn gc)
    (hr : w.heap[gr]? = some (.cells #[.pointer (some ⟨gp, 0, none⟩), .slice PA pn pc, qv, .slice (some ⟨gD, 0, none⟩) dn cD, ov', nv, ev] 108 (0, 0)))
    (hd : w.ownsRow w0.heap.size 3 1 (.slice (some ⟨gD, 0, none⟩) dn cD) dn (nums .i64 (gv ++ ov))) (hq : w.ownsRow w0.heap.size 132 3 qv q.length (flatS q))
    (hdn : dn = gn + nn) (hgv : gv.length = gn) (hov : ov.length = nn) (h40 : nn ≤ 40) (hg60 : gn ≤ 60) (hpo : ∀ k, k < pn → PulseOk nn (ps.getD k zPulse)) (hqo : QOk gn q) (hql : q.length ≤ 50000000) :
    Calls Try.prog 64 #[.pointer (some ⟨gr, 0, none⟩), .int .i64 t] w fun e w' => e = .returned (.tuple #[]) ∧ ∃ qv', w'.heap[gr]? = some (.cells #[.pointer (some ⟨gp, 0, none⟩), .slice PA pn pc, qv', .slice (some ⟨gD, 0, none⟩) dn cD, ov', nv, ev] 108 (0, 0)) ∧
      w'.ownsRow w0.heap.size 3 1 (.slice (some ⟨gD, 0, none⟩) dn cD) dn (nums .i64 (dueG t q gv ++ dueO t ps ov)) ∧ w'.ownsRow w0.heap.size 132 3 qv' (dueQ t q).length (flatS (dueQ t q)) ∧ KeptS (fun i => i = gr ∨ i = gD) w w' := by
  obtain ⟨i132, hi132, hz132, hs132, hb132⟩ := info_parts info132
  have hgr := blk_lt hr
  have hgD := own_lt hd gD rfl
  have n1 : gr ≠ gD := fun e => own_ne hd hr (by decide) (by rw [e]; rfl)
  have n2 : gp ≠ gD := fun e => own_ne hd hp.1 (by decide) (by rw [e]; rfl)
  have n3 : mb ≠ gD := fun e => own_ne_map (m := #[]) (k := 0) hd hp.2 (fun _ _ _ h => by cases h) (by rw [e]; rfl)
  have hpm := hps.2.1
  have HPL := Lib.hid hps.1
  have HQM := Lib.hid hql; clear hql
  have HB := Lib.hid hB; clear hB
  have HPS := Lib.hid hps; clear hps
  have HR := Lib.hid hr; clear hr
  have HP := Lib.hid hp; clear hp
  have HD := Lib.hid hd; clear hd
  have HQ := Lib.hid hq; clear hq
  have HDN := Lib.hid hdn; clear hdn
  have HGV := Lib.hid hgv; clear hgv
  have HOV := Lib.hid hov; clear hov
  have HPO := Lib.hid hpo; clear hpo
  have HQO := Lib.hid hqo; clear hqo
  have HBW : Hid (∀ W, KeptS (· = gD) w W → Below w0.heap.size w0 W) := Lib.hid (fun W h => HB.out.trans (h.below HB.out.size (fun i hi => by rw [hi]; exact own_base HD.out _ rfl)))
  have HRW : Hid (∀ W, KeptS (· = gD) w W → W.heap[gr]? = some (.cells #[.pointer (some ⟨gp, 0, none⟩), .slice PA pn pc, qv, .slice (some ⟨gD, 0, none⟩) dn cD, ov', nv, ev] 108 (0, 0))) := Lib.hid (fun W h => h.blk HR.out n1)
  have HPW : Hid (∀ W, KeptS (· = gD) w W → PlayerB W gp mb (nn : Int) GA gn gc) := Lib.hid (fun W h => HP.out.kept h n2 n3)
  have HQW : Hid (∀ W, KeptS (· = gD) w W → W.ownsRow w0.heap.size 132 3 qv q.length (flatS q)) := Lib.hid (fun W h => h.own HQ.out (fun g hg e => own_ne_own HD.out HQ.out (by decide) hg (by rw [e]; rfl)))
  have HK0 : Hid (KeptS (· = gD) w w) := Lib.hid (KeptS.refl _ _)
  have HD0 : Hid (w.ownsRow w0.heap.size 3 1 (.slice (some ⟨gD, 0, none⟩) dn cD) dn (nums .i64 (gv ++ dueO t (ps.take 0) ov))) := HD
  have r1 : w.cell? ⟨gr, 1, none⟩ = some (.slice PA pn pc) := (blk_cell HR.out 1).trans rfl
  go_enter Try.func64, Try.ntmps64
  go_wp2_with fail
  clear r1
  go_loopw [14] (fun i wr => ∃ k : Nat, k ≤ pn ∧ i = .int .i64 k ∧ Hid (KeptS (· = gD) w wr) ∧ Hid (wr.ownsRow w0.heap.size 3 1 (.slice (some ⟨gD, 0, none⟩) dn cD) dn (nums .i64 (gv ++ dueO t (ps.take k) ov)))) (fun i _ => pn - (intOf i).toNat)
  case atStart => exact ⟨0, Nat.zero_le _, rfl, HK0, HD0⟩
  case round =>
    obtain ⟨k, hk, rfl, hK, hD⟩ := hrel
    clear HK0 HD0
    obtain ⟨wx, rfl⟩ : ∃ wx : World, wx = wr := ⟨_, rfl⟩
    by_cases hlt : k < pn
    · have hlt2 : decide ((k : Int) < (pn : Int)) = true := by simp; omega
      -- [[
      obtain ⟨ad, rfl, q1, q2, q3⟩ := (HPS.out.below (HBW.out wx hK.out)).at_ k hlt
      obtain ⟨po0, po1, po2, po3⟩ := HPO.out k hlt
      have HSU := Lib.hid (dueO_succ (t := t) (ps := ps) (ov := ov) (k := k) (by rw [HPL.out]; exact hlt))
      have HOL := Lib.hid ((dueO_len t (ps.take k) ov).trans HOV.out)
      obtain ⟨O2, hO2⟩ : ∃ O2, dueO t (ps.take (k + 1)) ov = O2 := ⟨_, rfl⟩
      have HO2 := Lib.hid hO2
      have hsu := HSU.out
      rw [hO2] at hsu
      clear hO2 HSU
      generalize dueO t (ps.take k) ov = O1 at *
      generalize ps.getD k zPulse = p at *
      obtain ⟨pt, pnet, pv⟩ := p
      simp only at q1 q2 q3 po0 po1 po2 po3 hsu
      obtain ⟨m, rfl⟩ := Int.eq_ofNat_of_zero_le po1
      have hmn : m < nn := by omega
      have hmm : ((m : Nat) : Int).toNat = m := rfl
      rw [hmm] at hsu
      clear hmm
      have HWG : Hid (Below wx.heap.size wx (wx.alloc (.cells #[.int .i64 pt, .int .i64 m, .int .i64 pv] 103))) := Lib.hid ((Below.refl _ _).alloc (Nat.le_refl _) _)
      have HKG : Hid (KeptS (· = gD) w (wx.alloc (.cells #[.int .i64 pt, .int .i64 m, .int .i64 pv] 103))) := Lib.hid (hK.out.alloc _)
      have HDG := Lib.hid (pw_own_below hD.out HWG.out)
      by_cases hpt : pt = t
      · have hb : (pt == t) = true := by simpa using hpt
        rw [if_pos hpt] at hsu
        have HS2 := Lib.hid hsu; clear hsu
        have HPT := Lib.hid hpt; clear hpt
        have hgb : (wx.alloc (.cells #[.int .i64 pt, .int .i64 m, .int .i64 pv] 103)).drew.heap[wx.heap.size]? = some (.cells #[.int .i64 pt, .int .i64 m, .int .i64 pv] 103 (0, 0)) := blk_new _ _
        have s0 : (wx.alloc (.cells #[.int .i64 pt, .int .i64 m, .int .i64 pv] 103)).drew.cell? ⟨gr, 3, none⟩ = some (.slice (some ⟨gD, 0, none⟩) dn cD) := (blk_cell (HRW.out _ HKG.out) 3).trans rfl
        have s1 : (wx.alloc (.cells #[.int .i64 pt, .int .i64 m, .int .i64 pv] 103)).drew.cell? ⟨gr, 0, none⟩ = some (.pointer (some ⟨gp, 0, none⟩)) := (blk_cell (HRW.out _ HKG.out) 0).trans rfl
        have s2 : (wx.alloc (.cells #[.int .i64 pt, .int .i64 m, .int .i64 pv] 103)).drew.cell? ⟨gp, 1, none⟩ = some (.slice GA gn gc) := (HPW.out _ HKG.out).player.c1
        have s3 : (wx.alloc (.cells #[.int .i64 pt, .int .i64 m, .int .i64 pv] 103)).drew.cell? ⟨wx.heap.size, 1, none⟩ = some (.int .i64 m) := (blk_cell hgb 1).trans rfl
        have s4 : (wx.alloc (.cells #[.int .i64 pt, .int .i64 m, .int .i64 pv] 103)).drew.cell? ⟨wx.heap.size, 2, none⟩ = some (.int .i64 pv) := (blk_cell hgb 2).trans rfl
        obtain ⟨d0, df⟩ := own_get HDG.out (gn + m) (by have := HDN.out; omega)
        have HKD : Hid (KeptS (· = gD) w (wx.alloc (.cells #[.int .i64 pt, .int .i64 m, .int .i64 pv] 103)).drew) := Lib.hid HKG.out.drew
        have HDD : Hid ((wx.alloc (.cells #[.int .i64 pt, .int .i64 m, .int .i64 pv] 103)).drew.ownsRow w0.heap.size 3 1 (.slice (some ⟨gD, 0, none⟩) dn cD) dn (nums .i64 (gv ++ O1))) := HDG
        have hsum : IntKind.i64.wrap ((gn : Int) + (m : Int)) = (gn : Int) + (m : Int) := IntWalk.i64_in _ (by omega)
        have hj0 : (0 : Int) ≤ (gn : Int) + (m : Int) := by omega
        have hj1 : (gn : Int) + (m : Int) < (dn : Int) := by have := HDN.out; omega
        generalize (gv ++ O1).getD (gn + m) 0 = od at d0
        have d0' : (wx.alloc (.cells #[.int .i64 pt, .int .i64 m, .int .i64 pv] 103)).drew.cell? ⟨gD, gn + m, none⟩ = some (.int .i64 od) := d0
        have df' : (wx.alloc (.cells #[.int .i64 pt, .int .i64 m, .int .i64 pv] 103)).drew.frozen? ⟨gD, gn + m, none⟩ = false := df
        clear d0 df
        go_wp2_with fail
        clear hgb
        refine wp_region_named 19 (fun w' => w'.cell? ⟨gr, 3, none⟩ = some (.slice (some ⟨gD, 0, none⟩) dn cD) ∧ w'.cell? ⟨gr, 0, none⟩ = some (.pointer (some ⟨gp, 0, none⟩)) ∧ w'.cell? ⟨gp, 1, none⟩ = some (.slice GA gn gc) ∧ w'.cell? ⟨wx.heap.size, 1, none⟩ = some (.int .i64 m) ∧ w'.cell? ⟨wx.heap.size, 2, none⟩ = some (.int .i64 pv)) (fun w' => (w'.cell? ⟨gr, 3, none⟩ = some (.slice (some ⟨gD, 0, none⟩) dn cD)) ∧ (w'.cell? ⟨gr, 0, none⟩ = some (.pointer (some ⟨gp, 0, none⟩))) ∧ (w'.cell? ⟨gp, 1, none⟩ = some (.slice GA gn gc)) ∧ (w'.cell? ⟨wx.heap.size, 1, none⟩ = some (.int .i64 m)) ∧ (w'.cell? ⟨wx.heap.size, 2, none⟩ = some (.int .i64 pv)) ∧ (w'.cell? ⟨gD, gn + m, none⟩ = some (.int .i64 od)) ∧ (w'.frozen? ⟨gD, gn + m, none⟩ = false) ∧ (Hid (KeptS (· = gD) w w')) ∧ (Hid (w'.ownsRow w0.heap.size 3 1 (.slice (some ⟨gD, 0, none⟩) dn cD) dn (nums .i64 (gv ++ O1))))) (by kernel_rfl) ⟨s0, s1, s2, s3, s4, d0', df', HKD, HDD⟩ ?_
        rintro wc ⟨s0, s1, s2, s3, s4, d0', df', HKD, HDD⟩
        refine wpAnyF_take (i := 0) (v := .pointer (some ⟨gr, 0, none⟩)) rfl (by kernel_rfl) (by kernel_rfl) (by kernel_rfl) (by kernel_rfl) (fun _ _ _ h => h) (Or.inl ⟨by rfl, ?_⟩) ⟨s0, s1, s2, s3, s4⟩ ?_
        · rintro W ⟨y0, y1, y2, y3, y4⟩
          go_simp
        try simp only [Act.put, List.setIfInBounds_toArray, List.set_cons_zero, List.set_cons_succ]
        refine wpAnyF_take (i := 1) (v := .pointer (some ⟨gr, 0, none⟩)) rfl (by kernel_rfl) (by kernel_rfl) (by kernel_rfl) (by kernel_rfl) (fun _ _ _ h => h) (Or.inl ⟨by rfl, ?_⟩) ⟨s0, s1, s2, s3, s4⟩ ?_
        · rintro W ⟨y0, y1, y2, y3, y4⟩
          go_simp
        try simp only [Act.put, List.setIfInBounds_toArray, List.set_cons_zero, List.set_cons_succ]
        refine wpAnyF_take (i := 2) (v := .pointer (some ⟨gr, 3, none⟩)) rfl (by kernel_rfl) (by kernel_rfl) (by kernel_rfl) (by kernel_rfl) (fun _ _ _ h => h) (Or.inl ⟨by rfl, ?_⟩) ⟨s0, s1, s2, s3, s4⟩ ?_
        · rintro W ⟨y0, y1, y2, y3, y4⟩
          go_simp
        try simp only [Act.put, List.setIfInBounds_toArray, List.set_cons_zero, List.set_cons_succ]
        refine wpAnyF_take (i := 3) (v := .slice (some ⟨gD, 0, none⟩) dn cD) rfl (by kernel_rfl) (by kernel_rfl) (by kernel_rfl) (by kernel_rfl) (fun _ _ _ h => h) (Or.inl ⟨by rfl, ?_⟩) ⟨s0, s1, s2, s3, s4⟩ ?_
        · rintro W ⟨y0, y1, y2, y3, y4⟩
          go_simp
        try simp only [Act.put, List.setIfInBounds_toArray, List.set_cons_zero, List.set_cons_succ]
        refine wpAnyF_take (i := 4) (v := .pointer (some ⟨gr, 0, none⟩)) rfl (by kernel_rfl) (by kernel_rfl) (by kernel_rfl) (by kernel_rfl) (fun _ _ _ h => h) (Or.inl ⟨by rfl, ?_⟩) ⟨s0, s1, s2, s3, s4⟩ ?_
        · rintro W ⟨y0, y1, y2, y3, y4⟩
          go_simp
        try simp only [Act.put, List.setIfInBounds_toArray, List.set_cons_zero, List.set_cons_succ]
        refine wpAnyF_take (i := 5) (v := .pointer (some ⟨gr, 0, none⟩)) rfl (by kernel_rfl) (by kernel_rfl) (by kernel_rfl) (by kernel_rfl) (fun _ _ _ h => h) (Or.inl ⟨by rfl, ?_⟩) ⟨s0, s1, s2, s3, s4⟩ ?_
        · rintro W ⟨y0, y1, y2, y3, y4⟩
          go_simp
        try simp only [Act.put, List.setIfInBounds_toArray, List.set_cons_zero, List.set_cons_succ]
        refine wpAnyF_take (i := 6) (v := .pointer (some ⟨gr, 0, none⟩)) rfl (by kernel_rfl) (by kernel_rfl) (by kernel_rfl) (by kernel_rfl) (fun _ _ _ h => h) (Or.inl ⟨by rfl, ?_⟩) ⟨s0, s1, s2, s3, s4⟩ ?_
        · rintro W ⟨y0, y1, y2, y3, y4⟩
          go_simp
        try simp only [Act.put, List.setIfInBounds_toArray, List.set_cons_zero, List.set_cons_succ]
        refine wpAnyF_take (i := 7) (v := .pointer (some ⟨gp, 0, none⟩)) rfl (by kernel_rfl) (by kernel_rfl) (by kernel_rfl) (by kernel_rfl) (fun _ _ _ h => h) (Or.inl ⟨by rfl, ?_⟩) ⟨s0, s1, s2, s3, s4⟩ ?_
        · rintro W ⟨y0, y1, y2, y3, y4⟩
          go_simp
        try simp only [Act.put, List.setIfInBounds_toArray, List.set_cons_zero, List.set_cons_succ]
        refine wpAnyF_take (i := 8) (v := .pointer (some ⟨gp, 0, none⟩)) rfl (by kernel_rfl) (by kernel_rfl) (by kernel_rfl) (by kernel_rfl) (fun _ _ _ h => h) (Or.inl ⟨by rfl, ?_⟩) ⟨s0, s1, s2, s3, s4⟩ ?_
        · rintro W ⟨y0, y1, y2, y3, y4⟩
          go_simp
        try simp only [Act.put, List.setIfInBounds_toArray, List.set_cons_zero, List.set_cons_succ]
        refine wpAnyF_take (i := 9) (v := .pointer (some ⟨gp, 0, none⟩)) rfl (by kernel_rfl) (by kernel_rfl) (by kernel_rfl) (by kernel_rfl) (fun _ _ _ h => h) (Or.inl ⟨by rfl, ?_⟩) ⟨s0, s1, s2, s3, s4⟩ ?_
        · rintro W ⟨y0, y1, y2, y3, y4⟩
          go_simp
        try simp only [Act.put, List.setIfInBounds_toArray, List.set_cons_zero, List.set_cons_succ]
        refine wpAnyF_take (i := 10) (v := .pointer (some ⟨gp, 1, none⟩)) rfl (by kernel_rfl) (by kernel_rfl) (by kernel_rfl) (by kernel_rfl) (fun _ _ _ h => h) (Or.inl ⟨by rfl, ?_⟩) ⟨s0, s1, s2, s3, s4⟩ ?_
        · rintro W ⟨y0, y1, y2, y3, y4⟩
          go_simp
        try simp only [Act.put, List.setIfInBounds_toArray, List.set_cons_zero, List.set_cons_succ]
        refine wpAnyF_take (i := 11) (v := .slice GA gn gc) rfl (by kernel_rfl) (by kernel_rfl) (by kernel_rfl) (by kernel_rfl) (fun _ _ _ h => h) (Or.inl ⟨by rfl, ?_⟩) ⟨s0, s1, s2, s3, s4⟩ ?_
        · rintro W ⟨y0, y1, y2, y3, y4⟩
          go_simp
        try simp only [Act.put, List.setIfInBounds_toArray, List.set_cons_zero, List.set_cons_succ]
        refine wpAnyF_take (i := 12) (v := .int .i64 gn) rfl (by kernel_rfl) (by kernel_rfl) (by kernel_rfl) (by kernel_rfl) (fun _ _ _ h => h) (Or.inl ⟨by rfl, ?_⟩) ⟨s0, s1, s2, s3, s4⟩ ?_
        · rintro W ⟨y0, y1, y2, y3, y4⟩
          go_simp
        try simp only [Act.put, List.setIfInBounds_toArray, List.set_cons_zero, List.set_cons_succ]
        refine wpAnyF_take (i := 13) (v := .pointer (some ⟨wx.heap.size, 1, none⟩)) rfl (by kernel_rfl) (by kernel_rfl) (by kernel_rfl) (by kernel_rfl) (fun _ _ _ h => h) (Or.inl ⟨by rfl, ?_⟩) ⟨s0, s1, s2, s3, s4⟩ ?_
        · rintro W ⟨y0, y1, y2, y3, y4⟩
          go_simp
        try simp only [Act.put, List.setIfInBounds_toArray, List.set_cons_zero, List.set_cons_succ]
        refine wpAnyF_take (i := 14) (v := .int .i64 m) rfl (by kernel_rfl) (by kernel_rfl) (by kernel_rfl) (by kernel_rfl) (fun _ _ _ h => h) (Or.inl ⟨by rfl, ?_⟩) ⟨s0, s1, s2, s3, s4⟩ ?_
        · rintro W ⟨y0, y1, y2, y3, y4⟩
          go_simp
        try simp only [Act.put, List.setIfInBounds_toArray, List.set_cons_zero, List.set_cons_succ]
        refine wpAnyF_take (i := 15) (v := .int .i64 ((gn : Int) + (m : Int))) rfl (by kernel_rfl) (by kernel_rfl) (by kernel_rfl) (by kernel_rfl) (fun _ _ _ h => h) (Or.inl ⟨by rfl, ?_⟩) ⟨s0, s1, s2, s3, s4⟩ ?_
        · rintro W ⟨y0, y1, y2, y3, y4⟩
          go_simp
        try simp only [Act.put, List.setIfInBounds_toArray, List.set_cons_zero, List.set_cons_succ]
        refine wpAnyF_take (i := 16) (v := .pointer (some ⟨wx.heap.size, 2, none⟩)) rfl (by kernel_rfl) (by kernel_rfl) (by kernel_rfl) (by kernel_rfl) (fun _ _ _ h => h) (Or.inl ⟨by rfl, ?_⟩) ⟨s0, s1, s2, s3, s4⟩ ?_
        · rintro W ⟨y0, y1, y2, y3, y4⟩
          go_simp
        try simp only [Act.put, List.setIfInBounds_toArray, List.set_cons_zero, List.set_cons_succ]
        refine wpAnyF_take (i := 17) (v := .int .i64 pv) rfl (by kernel_rfl) (by kernel_rfl) (by kernel_rfl) (by kernel_rfl) (fun _ _ _ h => h) (Or.inl ⟨by rfl, ?_⟩) ⟨s0, s1, s2, s3, s4⟩ ?_
        · rintro W ⟨y0, y1, y2, y3, y4⟩
          go_simp
        try simp only [Act.put, List.setIfInBounds_toArray, List.set_cons_zero, List.set_cons_succ]
        refine wpAnyF_take (i := 18) (v := .pointer (some ⟨gD, gn + m, none⟩)) rfl (by kernel_rfl) (by kernel_rfl) (by kernel_rfl) (by kernel_rfl) (fun _ _ _ h => h) (Or.inl ⟨by rfl, ?_⟩) ⟨s0, s1, s2, s3, s4⟩ ?_
        · rintro W ⟨y0, y1, y2, y3, y4⟩
          go_simp
        try simp only [Act.put, List.setIfInBounds_toArray, List.set_cons_zero, List.set_cons_succ]
        refine wpAnyF_one (i := 19) rfl (by kernel_rfl) (fun K hK => ?_)
        go_simp
        refine hK _ _ (fun h => absurd rfl h) ?_
        clear hK K
        refine wpAnyF_done (by kernel_rfl) ?_ _
        have HKn : Hid (KeptS (· = gD) w (wc.setCell ⟨gD, gn + m, none⟩ (.int .i64 pv))) := Lib.hid (HKD.out.put (fun _ => rfl) _)
        have HDn : Hid ((wc.setCell ⟨gD, gn + m, none⟩ (.int .i64 pv)).ownsRow w0.heap.size 3 1 (.slice (some ⟨gD, 0, none⟩) dn cD) dn (nums .i64 (gv ++ O2))) := Lib.hid (by
          have h := own_put HDD.out (gn + m) pv
          rw [set_app2 pv HGV.out, ← HS2.out] at h
          exact h)
        go_wp2_with fail
        first
        | (go_roundw; (case rel => exact ⟨k + 1, by omega, by go_num, HKn, Lib.hid (by rw [HO2.out]; exact HDn.out)⟩); (case measure => simp [intOf]; omega))
        | exact ⟨⟨k + 1, by omega, by go_num, HKn, Lib.hid (by rw [HO2.out]; exact HDn.out)⟩, by simp [intOf]; omega⟩
      · have hb : (pt == t) = false := by simpa using hpt
        rw [if_neg hpt] at hsu
        have HS2 := Lib.hid hsu; clear hsu
        clear hpt
        go_wp2_with fail
        go_roundw
        case rel => exact ⟨k + 1, by omega, by go_num, HKG, Lib.hid (by rw [HO2.out, HS2.out]; exact HDG.out)⟩
        case measure => simp [intOf]; omega
      -- ]]
    · have hlt2 : decide ((k : Int) < (pn : Int)) = false := by simp; omega
      have HDF : Hid (wx.ownsRow w0.heap.size 3 1 (.slice (some ⟨gD, 0, none⟩) dn cD) dn (nums .i64 (dueG t (q.take 0) gv ++ dueO t ps ov))) := Lib.hid (by
        have h := hD.out
        rw [List.take_of_length_le (by rw [HPL.out]; omega)] at h
        exact h)
      have HOL := Lib.hid ((dueO_len t ps ov).trans HOV.out)
      obtain ⟨O1, hO1⟩ : ∃ O1, dueO t ps ov = O1 := ⟨_, rfl⟩
      rw [hO1] at HDF HOL
      have HO1 := Lib.hid hO1; clear hO1
      obtain ⟨QA, qc, eqv, hqr⟩ := own_sents HQ.out
      subst eqv
      have r2 : wx.cell? ⟨gr, 2, none⟩ = some (.slice QA q.length qc) := (blk_cell (HRW.out wx hK.out) 2).trans rfl
      have hqm : q.length ≤ 9223372036854775807 := hqr.2.1
      have HRE : Hid (wx.ownsRow w.heap.size 132 3 (.slice none 0 0) (dueQ t (q.take 0)).length (flatS (dueQ t (q.take 0)))) := Lib.hid (own_nil _ _ _ _)
      have HRDS : Hid (∀ W, KeptS (· = gD) w W → RdSents W QA q.length q) := Lib.hid (fun W h => by
        obtain ⟨QA2, qc2, e2, h2⟩ := own_sents (HQW.out W h)
        injection e2 with e2 _ _
        rw [e2]; exact h2)
      clear hqr
      obtain ⟨qn, hqn⟩ : ∃ qn, q.length = qn := ⟨_, rfl⟩
      have HQN := Lib.hid hqn
      rw [hqn] at r2 hqm HRDS HQM
      rw [hqn] at HRW
      have HK2 := hK
      have HSZ : Hid (w.heap.size ≤ wx.heap.size) := Lib.hid hK.out.size
      clear hD hqn
      go_wp2_with fail
      clear r2 hK
      go_loopw [6, 47] (fun rv i wr => ∃ k : Nat, k ≤ qn ∧ i = .int .i64 k ∧ Hid (KeptS (· = gD) w wr) ∧ Hid (wr.ownsRow w0.heap.size 3 1 (.slice (some ⟨gD, 0, none⟩) dn cD) dn (nums .i64 (dueG t (q.take k) gv ++ O1))) ∧ Hid (wr.ownsRow w.heap.size 132 3 rv (dueQ t (q.take k)).length (flatS (dueQ t (q.take k))))) (fun _ i _ => qn - (intOf i).toNat)
      case atStart => exact ⟨0, Nat.zero_le _, rfl, HK2, HDF, HRE⟩
      case round =>
        obtain ⟨j, hj, rfl, hK, hD, hE⟩ := hrel
        clear HK2 HDF HRE
        obtain ⟨wy, rfl⟩ : ∃ wy : World, wy = wr := ⟨_, rfl⟩
        by_cases hltj : j < qn
        · have hltj2 : decide ((j : Int) < (qn : Int)) = true := by simp; omega
          -- [[
          obtain ⟨ad, rfl, q1, q2, q3⟩ := (HRDS.out wy hK.out).at_ j hltj
          have hqq := HQO.out (q.getD j zSent) (by rw [List.getD_eq_getElem?_getD, List.getElem?_eq_getElem (by rw [HQN.out]; exact hltj)]; exact List.getElem_mem _)
          have HG2 := Lib.hid (dueG_succ (t := t) (q := q) (gv := gv) (k := j) (by rw [HQN.out]; exact hltj))
          have HQ2 := Lib.hid (dueQ_succ (t := t) (q := q) (k := j) (by rw [HQN.out]; exact hltj))
          have HGL := Lib.hid ((dueG_len t (q.take j) gv).trans HGV.out)
          have HQLE : Hid ((dueQ t (q.take j)).length ≤ 50000000) := Lib.hid (by have h1 := dueQ_len t (q.take j); have h2 : (q.take j).length ≤ j := List.length_take_le _ _; have h3 := HQM.out; omega)
          obtain ⟨G2, hG2⟩ : ∃ G2, dueG t (q.take (j + 1)) gv = G2 := ⟨_, rfl⟩
          obtain ⟨Q2, hQ2⟩ : ∃ Q2, dueQ t (q.take (j + 1)) = Q2 := ⟨_, rfl⟩
          have hg2 := HG2.out
          have hq2 := HQ2.out
          rw [hG2] at hg2
          rw [hQ2] at hq2
          have HGE := Lib.hid hG2; clear hG2
          have HQE := Lib.hid hQ2; clear hQ2
          clear HG2 HQ2
          generalize dueG t (q.take j) gv = G1 at *
          generalize dueQ t (q.take j) = Q1 at *
          generalize q.getD j zSent = p at *
          obtain ⟨pt, pg, pv⟩ := p
          simp only at q1 q2 q3 hqq hg2 hq2
          obtain ⟨po1, po2, po3⟩ := hqq
          obtain ⟨m, rfl⟩ := Int.eq_ofNat_of_zero_le po1
          have hmn : m < gn := by omega
          have hmm : ((m : Nat) : Int).toNat = m := rfl
          rw [hmm] at hg2
          clear hmm
          have HWG : Hid (Below wy.heap.size wy (wy.alloc (.cells #[.int .i64 pt, .int .i64 m, .int .i64 pv] 132))) := Lib.hid ((Below.refl _ _).alloc (Nat.le_refl _) _)
          have HKG : Hid (KeptS (· = gD) w (wy.alloc (.cells #[.int .i64 pt, .int .i64 m, .int .i64 pv] 132))) := Lib.hid (hK.out.alloc _)
          have HDG := Lib.hid (pw_own_below hD.out HWG.out)
          have HEG := Lib.hid (pw_own_below hE.out HWG.out)
          obtain ⟨EA, ec, rfl⟩ := own_slice hE.out
          by_cases hpt : pt = t
          · have hb : (pt == t) = true := by simpa using hpt
            rw [if_pos hpt] at hg2 hq2
            have HS2 := Lib.hid hg2; clear hg2
            have HT2 := Lib.hid hq2; clear hq2
            clear hpt
            have hgb : (wy.alloc (.cells #[.int .i64 pt, .int .i64 m, .int .i64 pv] 132)).drew.heap[wy.heap.size]? = some (.cells #[.int .i64 pt, .int .i64 m, .int .i64 pv] 132 (0, 0)) := blk_new _ _
            have s0 : (wy.alloc (.cells #[.int .i64 pt, .int .i64 m, .int .i64 pv] 132)).drew.cell? ⟨gr, 3, none⟩ = some (.slice (some ⟨gD, 0, none⟩) dn cD) := (blk_cell (HRW.out _ HKG.out) 3).trans rfl
            have s1 : (wy.alloc (.cells #[.int .i64 pt, .int .i64 m, .int .i64 pv] 132)).drew.cell? ⟨wy.heap.size, 1, none⟩ = some (.int .i64 m) := (blk_cell hgb 1).trans rfl
            have s2 : (wy.alloc (.cells #[.int .i64 pt, .int .i64 m, .int .i64 pv] 132)).drew.cell? ⟨wy.heap.size, 2, none⟩ = some (.int .i64 pv) := (blk_cell hgb 2).trans rfl
            obtain ⟨d0, df⟩ := own_get HDG.out m (by have := HDN.out; omega)
            have HKD : Hid (KeptS (· = gD) w (wy.alloc (.cells #[.int .i64 pt, .int .i64 m, .int .i64 pv] 132)).drew) := Lib.hid HKG.out.drew
            have HDD : Hid ((wy.alloc (.cells #[.int .i64 pt, .int .i64 m, .int .i64 pv] 132)).drew.ownsRow w0.heap.size 3 1 (.slice (some ⟨gD, 0, none⟩) dn cD) dn (nums .i64 (G1 ++ O1))) := HDG
            have HED : Hid ((wy.alloc (.cells #[.int .i64 pt, .int .i64 m, .int .i64 pv] 132)).drew.ownsRow w.heap.size 132 3 (.slice EA Q1.length ec) Q1.length (flatS Q1)) := HEG
            have hj0 : (0 : Int) ≤ (m : Int) := by omega
            have hj1 : (m : Int) < (dn : Int) := by have := HDN.out; omega
            generalize (G1 ++ O1).getD m 0 = od at d0
            have d0' : (wy.alloc (.cells #[.int .i64 pt, .int .i64 m, .int .i64 pv] 132)).drew.cell? ⟨gD, m, none⟩ = some (.int .i64 od) := d0
            have df' : (wy.alloc (.cells #[.int .i64 pt, .int .i64 m, .int .i64 pv] 132)).drew.frozen? ⟨gD, m, none⟩ = false := df
            clear d0 df
            go_wp2_with fail
            clear hgb
            refine wp_region_named 9 (fun w' => w'.cell? ⟨gr, 3, none⟩ = some (.slice (some ⟨gD, 0, none⟩) dn cD) ∧ w'.cell? ⟨wy.heap.size, 1, none⟩ = some (.int .i64 m) ∧ w'.cell? ⟨wy.heap.size, 2, none⟩ = some (.int .i64 pv)) (fun w' => (w'.cell? ⟨gr, 3, none⟩ = some (.slice (some ⟨gD, 0, none⟩) dn cD)) ∧ (w'.cell? ⟨wy.heap.size, 1, none⟩ = some (.int .i64 m)) ∧ (w'.cell? ⟨wy.heap.size, 2, none⟩ = some (.int .i64 pv)) ∧ (w'.cell? ⟨gD, m, none⟩ = some (.int .i64 od)) ∧ (w'.frozen? ⟨gD, m, none⟩ = false) ∧ (Hid (KeptS (· = gD) w w')) ∧ (Hid (w'.ownsRow w0.heap.size 3 1 (.slice (some ⟨gD, 0, none⟩) dn cD) dn (nums .i64 (G1 ++ O1)))) ∧ (Hid (w'.ownsRow w.heap.size 132 3 (.slice EA Q1.length ec) Q1.length (flatS Q1)))) (by kernel_rfl) ⟨s0, s1, s2, d0', df', HKD, HDD, HED⟩ ?_
            rintro wc ⟨s0, s1, s2, d0', df', HKD, HDD, HED⟩
            refine wpAnyF_take (i := 0) (v := .pointer (some ⟨gr, 0, none⟩)) rfl (by kernel_rfl) (by kernel_rfl) (by kernel_rfl) (by kernel_rfl) (fun _ _ _ h => h) (Or.inl ⟨by rfl, ?_⟩) ⟨s0, s1, s2⟩ ?_
            · rintro W ⟨y0, y1, y2⟩
              go_simp
            try simp only [Act.put, List.setIfInBounds_toArray, List.set_cons_zero, List.set_cons_succ]
            refine wpAnyF_take (i := 1) (v := .pointer (some ⟨gr, 0, none⟩)) rfl (by kernel_rfl) (by kernel_rfl) (by kernel_rfl) (by kernel_rfl) (fun _ _ _ h => h) (Or.inl ⟨by rfl, ?_⟩) ⟨s0, s1, s2⟩ ?_
            · rintro W ⟨y0, y1, y2⟩
              go_simp
            try simp only [Act.put, List.setIfInBounds_toArray, List.set_cons_zero, List.set_cons_succ]
            refine wpAnyF_take (i := 2) (v := .pointer (some ⟨gr, 3, none⟩)) rfl (by kernel_rfl) (by kernel_rfl) (by kernel_rfl) (by kernel_rfl) (fun _ _ _ h => h) (Or.inl ⟨by rfl, ?_⟩) ⟨s0, s1, s2⟩ ?_
            · rintro W ⟨y0, y1, y2⟩
              go_simp
            try simp only [Act.put, List.setIfInBounds_toArray, List.set_cons_zero, List.set_cons_succ]
            refine wpAnyF_take (i := 3) (v := .slice (some ⟨gD, 0, none⟩) dn cD) rfl (by kernel_rfl) (by kernel_rfl) (by kernel_rfl) (by kernel_rfl) (fun _ _ _ h => h) (Or.inl ⟨by rfl, ?_⟩) ⟨s0, s1, s2⟩ ?_
            · rintro W ⟨y0, y1, y2⟩
              go_simp
            try simp only [Act.put, List.setIfInBounds_toArray, List.set_cons_zero, List.set_cons_succ]
            refine wpAnyF_take (i := 4) (v := .pointer (some ⟨wy.heap.size, 1, none⟩)) rfl (by kernel_rfl) (by kernel_rfl) (by kernel_rfl) (by kernel_rfl) (fun _ _ _ h => h) (Or.inl ⟨by rfl, ?_⟩) ⟨s0, s1, s2⟩ ?_
            · rintro W ⟨y0, y1, y2⟩
              go_simp
            try simp only [Act.put, List.setIfInBounds_toArray, List.set_cons_zero, List.set_cons_succ]
            refine wpAnyF_take (i := 5) (v := .int .i64 m) rfl (by kernel_rfl) (by kernel_rfl) (by kernel_rfl) (by kernel_rfl) (fun _ _ _ h => h) (Or.inl ⟨by rfl, ?_⟩) ⟨s0, s1, s2⟩ ?_
            · rintro W ⟨y0, y1, y2⟩
              go_simp
            try simp only [Act.put, List.setIfInBounds_toArray, List.set_cons_zero, List.set_cons_succ]
            refine wpAnyF_take (i := 6) (v := .pointer (some ⟨wy.heap.size, 2, none⟩)) rfl (by kernel_rfl) (by kernel_rfl) (by kernel_rfl) (by kernel_rfl) (fun _ _ _ h => h) (Or.inl ⟨by rfl, ?_⟩) ⟨s0, s1, s2⟩ ?_
            · rintro W ⟨y0, y1, y2⟩
              go_simp
            try simp only [Act.put, List.setIfInBounds_toArray, List.set_cons_zero, List.set_cons_succ]
            refine wpAnyF_take (i := 7) (v := .int .i64 pv) rfl (by kernel_rfl) (by kernel_rfl) (by kernel_rfl) (by kernel_rfl) (fun _ _ _ h => h) (Or.inl ⟨by rfl, ?_⟩) ⟨s0, s1, s2⟩ ?_
            · rintro W ⟨y0, y1, y2⟩
              go_simp
            try simp only [Act.put, List.setIfInBounds_toArray, List.set_cons_zero, List.set_cons_succ]
            refine wpAnyF_take (i := 8) (v := .pointer (some ⟨gD, m, none⟩)) rfl (by kernel_rfl) (by kernel_rfl) (by kernel_rfl) (by kernel_rfl) (fun _ _ _ h => h) (Or.inl ⟨by rfl, ?_⟩) ⟨s0, s1, s2⟩ ?_
            · rintro W ⟨y0, y1, y2⟩
              go_simp
            try simp only [Act.put, List.setIfInBounds_toArray, List.set_cons_zero, List.set_cons_succ]
            refine wpAnyF_one (i := 9) rfl (by kernel_rfl) (fun K hK => ?_)
            go_simp
            refine hK _ _ (fun h => absurd rfl h) ?_
            clear hK K
            refine wpAnyF_done (by kernel_rfl) ?_ _
            have HKn : Hid (KeptS (· = gD) w (wc.setCell ⟨gD, m, none⟩ (.int .i64 pv))) := Lib.hid (HKD.out.put (fun _ => rfl) _)
            have HDn : Hid ((wc.setCell ⟨gD, m, none⟩ (.int .i64 pv)).ownsRow w0.heap.size 3 1 (.slice (some ⟨gD, 0, none⟩) dn cD) dn (nums .i64 (G2 ++ O1))) := Lib.hid (by
              have h := own_put HDD.out m pv
              rw [set_app pv (by rw [HGL.out]; exact hmn), ← HS2.out] at h
              exact h)
            have HEn : Hid ((wc.setCell ⟨gD, m, none⟩ (.int .i64 pv)).ownsRow w.heap.size 132 3 (.slice EA Q1.length ec) Q1.length (flatS Q1)) := Lib.hid (own_setCell HED.out (p := ⟨gD, m, none⟩) (fun e => own_ne_own HED.out HDD.out (by decide) rfl e) _)
            go_wp2_with fail
            first
            | (go_roundw; (case rel => exact ⟨j + 1, by omega, by go_num, HKn, Lib.hid (by rw [HGE.out]; exact HDn.out), Lib.hid (by rw [HQE.out, HT2.out]; exact HEn.out)⟩); (case measure => simp [intOf]; omega))
            | exact ⟨⟨j + 1, by omega, by go_num, HKn, Lib.hid (by rw [HGE.out]; exact HDn.out), Lib.hid (by rw [HQE.out, HT2.out]; exact HEn.out)⟩, by simp [intOf]; omega⟩
          · have hb : (pt == t) = false := by simpa using hpt
            rw [if_neg hpt] at hg2 hq2
            have HS2 := Lib.hid hg2; clear hg2
            have HT2 := Lib.hid hq2; clear hq2
            clear hpt
            have HSA : Hid ((wy.alloc (.cells #[.int .i64 pt, .int .i64 m, .int .i64 pv] 132)).heap.size = wy.heap.size + 1) := Lib.hid (Array.size_push _)
            have HEA := Lib.hid (HEG.out.alloc (.cells #[.int .i64 pt, .int .i64 m, .int .i64 pv] 132))
            have HSB : Hid (((wy.alloc (.cells #[.int .i64 pt, .int .i64 m, .int .i64 pv] 132)).alloc (.cells #[.int .i64 pt, .int .i64 m, .int .i64 pv] 132)).heap.size = wy.heap.size + 1 + 1) := Lib.hid ((Array.size_push _).trans (congrArg (· + 1) HSA.out))
            have hbs : w.heap.size ≤ ((wy.alloc (.cells #[.int .i64 pt, .int .i64 m, .int .i64 pv] 132)).alloc (.cells #[.int .i64 pt, .int .i64 m, .int .i64 pv] 132)).heap.size := by rw [HSB.out]; have := hK.out.size; omega
            have HBS := Lib.hid hbs; clear hbs
            have HNEWS := Lib.hid (World.news_of_block (cs := #[.int .i64 pt, .int .i64 m, .int .i64 pv]) (t := 132) (fr := (0, 0)) (blk_new (wy.alloc (.cells #[.int .i64 pt, .int .i64 m, .int .i64 pv] 132)) (.cells #[.int .i64 pt, .int .i64 m, .int .i64 pv] 132)))
            have HNE2 : Hid (((wy.alloc (.cells #[.int .i64 pt, .int .i64 m, .int .i64 pv] 132)).alloc (.cells #[.int .i64 pt, .int .i64 m, .int .i64 pv] 132)).heap[wy.heap.size + 1]? = some (.cells #[.int .i64 pt, .int .i64 m, .int .i64 pv] 132 (0, 0))) := Lib.hid (by rw [← HSA.out]; exact blk_new _ _)
            have hq5 : Q1.length ≤ 50000000 := HQLE.out
            go_wp2_with (at_builtin; refine wpList_append_lies (w := (wy.alloc (.cells #[.int .i64 pt, .int .i64 m, .int .i64 pv] 132)).alloc (.cells #[.int .i64 pt, .int .i64 m, .int .i64 pv] 132)) rfl (.tmp 64) (.tmp 66) 106 rfl w.heap.size 132 i132 (.agg #[.int .i64 0, .int .i64 0, .int .i64 0]) 3 24 Try.underlying106 hi132 hz132 hs132 hb132 rfl (by omega) (.slice EA Q1.length ec) Q1.length (flatS Q1) rfl HEA.out ⟨wy.heap.size + 1, 0, none⟩ 1 1 [.int .i64 pt, .int .i64 m, .int .i64 pv] rfl rfl (World.news_of_block (cs := #[.int .i64 pt, .int .i64 m, .int .i64 pv]) (t := 132) (fr := (0, 0)) HNE2.out) (by simp [Value.oneCell']) Nat.one_pos (by simp only [maxLen]; omega) (by omega) HBS.out (wy.heap.size + 1 + 1) HSB.out ?_; intro g2 cap2 w10 hown2 hgrow2 hat2 hlt2; have HOW2 := Lib.hid hown2; have HGW2 := Lib.hid hgrow2; clear hown2 hgrow2 hat2 hlt2)
            have HKn : Hid (KeptS (· = gD) w w10) := Lib.hid ((HKG.out.alloc _).trans (T := fun i => w.heap.size ≤ i) (KeptS.grown HGW2.out (fun k hk _ => own_base HEA.out k hk)) (fun i hi h => by omega))
            have HDn : Hid (w10.ownsRow w0.heap.size 3 1 (.slice (some ⟨gD, 0, none⟩) dn cD) dn (nums .i64 (G1 ++ O1))) := Lib.hid (own_other (HDG.out.alloc _) HGW2.out (own_type_ne (HDG.out.alloc _) HEA.out (by decide)))
            have HEn : Hid (w10.ownsRow w.heap.size 132 3 (.slice (some ⟨g2, 0, none⟩) (Q1.length + 1) cap2) Q2.length (flatS Q2)) := Lib.hid (by
              rw [HT2.out, flatS_append, List.length_append]
              exact HOW2.out)
            first
            | (go_roundw; (case rel => exact ⟨j + 1, by omega, by go_num, HKn, Lib.hid (by rw [HGE.out, HS2.out]; exact HDn.out), Lib.hid (by rw [HQE.out]; exact HEn.out)⟩); (case measure => simp [intOf]; omega))
            | exact ⟨⟨j + 1, by omega, by go_num, HKn, Lib.hid (by rw [HGE.out, HS2.out]; exact HDn.out), Lib.hid (by rw [HQE.out]; exact HEn.out)⟩, by simp [intOf]; omega⟩
          -- ]]
        · have hltj2 : decide ((j : Int) < (qn : Int)) = false := by simp; omega
          have HDF : Hid (wy.ownsRow w0.heap.size 3 1 (.slice (some ⟨gD, 0, none⟩) dn cD) dn (nums .i64 (dueG t q gv ++ O1))) := Lib.hid (by
            have h := hD.out
            rwa [List.take_of_length_le (by rw [HQN.out]; omega)] at h)
          have hEF := hE.out
          rw [List.take_of_length_le (by rw [HQN.out]; omega)] at hEF
          obtain ⟨EA, ec, rfl⟩ := own_slice hEF
          have HEF := Lib.hid hEF; clear hEF
          have hrr := HRW.out wy hK.out
          have c2 : wy.cell? ⟨gr, 2, none⟩ = some (.slice QA qn qc) := (blk_cell hrr 2).trans rfl
          have f2 : wy.frozen? ⟨gr, 2, none⟩ = false := blk_frozen hrr 2
          have HRR := Lib.hid hrr; clear hrr
          have hgg := own_base HD.out gD rfl
          have HFIN : Hid ((wy.setCell ⟨gr, 2, none⟩ (.slice EA (dueQ t q).length ec)).heap[gr]? = some (.cells #[.pointer (some ⟨gp, 0, none⟩), .slice PA pn pc, (.slice EA (dueQ t q).length ec), .slice (some ⟨gD, 0, none⟩) dn cD, ov', nv, ev] 108 (0, 0)) ∧ (wy.setCell ⟨gr, 2, none⟩ (.slice EA (dueQ t q).length ec)).ownsRow w0.heap.size 3 1 (.slice (some ⟨gD, 0, none⟩) dn cD) dn (nums .i64 (dueG t q gv ++ O1)) ∧ (wy.setCell ⟨gr, 2, none⟩ (.slice EA (dueQ t q).length ec)).ownsRow w0.heap.size 132 3 (.slice EA (dueQ t q).length ec) (dueQ t q).length (flatS (dueQ t q)) ∧ KeptS (fun i => i = gr ∨ i = gD) w (wy.setCell ⟨gr, 2, none⟩ (.slice EA (dueQ t q).length ec))) := Lib.hid ⟨by rw [blk_set HRR.out]; rfl, own_setCell HDF.out (fun e => n1 (Option.some.inj e)) _, own_mono (own_setCell HEF.out (row_ne_blk HEF.out HRR.out (by decide)) _) HB.out.size, (hK.out.mono (fun i _ h => .inr h)).put (fun _ => .inl rfl) _⟩
          go_wp2_with fail
          first
          | (go_end0; rw [HO1.out]; exact ⟨rfl, _, HFIN.out⟩)
end Go.Proofs.Ytobdhdehmkmjcaa
