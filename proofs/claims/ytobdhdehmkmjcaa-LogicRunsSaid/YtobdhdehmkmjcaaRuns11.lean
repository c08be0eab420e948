/- Words and walks for the row RowLogicRuns, put together: M9, MA, MR0. -/
import Derived.Test.YtobdhdehmkmjcaaRunsM8
import Derived.Test.YtobdhdehmkmjcaaRuns2
import Derived.Test.YtobdhdehmkmjcaaRuns6
namespace Go.Proofs.Ytobdhdehmkmjcaa
set_option linter.unusedVariables false
set_option linter.unusedSimpArgs false
open Go.RowKit Go.Proofs.YtobdhdehmkmjcaaW.PrintWords Go.Proofs.YtobdhdehmkmjcaaW.PrintLast

def AccSt (w : World) (P2 P3 : Nat) (acc : Option Int) : Prop := w.heap[P2]? = some (.cells #[.bool acc.isSome] 4 (0, 0)) ∧ w.heap[P3]? = some (.cells #[.int .i64 (acc.getD 0)] 3 (0, 0))
theorem AccSt.below {w w' : World} {P2 P3 : Nat} {acc : Option Int} (h : AccSt w P2 P3 acc) (hb : Below w.heap.size w w') : AccSt w' P2 P3 acc := ⟨blk_below h.1 hb, blk_below h.2 hb⟩
set_option maxHeartbeats 1000000 in
theorem take91_any (u t : Int) (P1 P2 P3 : Nat) (acc : Option Int) (w : World) (h1 : w.heap[P1]? = some (.cells #[.int .i64 t] 3 (0, 0))) (hA : AccSt w P2 P3 acc) :
    Calls Try.prog 91 #[.int .i64 u, .pointer (some ⟨P1, 0, none⟩), .pointer (some ⟨P2, 0, none⟩), .pointer (some ⟨P3, 0, none⟩)] w fun e w' => e = .returned (.tuple #[]) ∧ AccSt w' P2 P3 (takeF t acc u) ∧ KeptS (fun i => i = P2 ∨ i = P3) w w' := by
  have hne : P2 ≠ P3 := blk_ne hA.1 hA.2 (by decide)
  have c1 : w.cell? ⟨P1, 0, none⟩ = some (.int .i64 t) := (blk_cell h1 0).trans rfl
  have c2 : w.cell? ⟨P2, 0, none⟩ = some (.bool acc.isSome) := (blk_cell hA.1 0).trans rfl
  have c3 : w.cell? ⟨P3, 0, none⟩ = some (.int .i64 (acc.getD 0)) := (blk_cell hA.2 0).trans rfl
  have f3 := blk_frozen hA.2 0
  have hA2 : (w.setCell ⟨P3, 0, none⟩ (.int .i64 u)).heap[P2]? = some (.cells #[.bool acc.isSome] 4 (0, 0)) := blk_far hA.1 (p := ⟨P3, 0, none⟩) hne _
  have hA3 : (w.setCell ⟨P3, 0, none⟩ (.int .i64 u)).heap[P3]? = some (.cells #[.int .i64 u] 3 (0, 0)) := by rw [blk_set hA.2]; rfl
  have c2' : (w.setCell ⟨P3, 0, none⟩ (.int .i64 u)).cell? ⟨P2, 0, none⟩ = some (.bool acc.isSome) := (blk_cell hA2 0).trans rfl
  have f2' := blk_frozen hA2 0
  have HYES : Hid (AccSt ((w.setCell ⟨P3, 0, none⟩ (.int .i64 u)).setCell ⟨P2, 0, none⟩ (.bool true)) P2 P3 (some u) ∧ KeptS (fun i => i = P2 ∨ i = P3) w ((w.setCell ⟨P3, 0, none⟩ (.int .i64 u)).setCell ⟨P2, 0, none⟩ (.bool true))) :=
    Lib.hid ⟨⟨by rw [blk_set hA2]; rfl, blk_far hA3 (p := ⟨P2, 0, none⟩) (Ne.symm hne) _⟩, (((KeptS.refl _ w).put (p := ⟨P3, 0, none⟩) (fun _ => .inr rfl) _).put (p := ⟨P2, 0, none⟩) (fun _ => .inl rfl) _)⟩
  have HNO := Lib.hid hA
  clear hA hA2 hA3 h1
  by_cases hu : t < u
  · have hub : decide (t < u) = true := by simpa using hu
    cases acc with
    | none =>
      have HT : Hid (takeF t none u = some u) := Lib.hid (if_pos hu)
      clear hu
      go_enter Try.func91, Try.ntmps91
      go_wp2
      go_end0
      exact ⟨rfl, by rw [HT.out]; exact HYES.out.1, HYES.out.2⟩
    | some v =>
      by_cases hv : u < v
      · have hvb : decide (u < v) = true := by simpa using hv
        have HT : Hid (takeF t (some v) u = some u) := Lib.hid (if_pos ⟨hu, hv⟩)
        clear hu hv
        go_enter Try.func91, Try.ntmps91
        go_wp2
        go_end0
        exact ⟨rfl, by rw [HT.out]; exact HYES.out.1, HYES.out.2⟩
      · have hvb : decide (u < v) = false := by simpa using hv
        have HT : Hid (takeF t (some v) u = some v) := Lib.hid (if_neg (fun h => hv h.2))
        clear hu hv
        go_enter Try.func91, Try.ntmps91
        go_wp2
        go_end0
        exact ⟨rfl, by rw [HT.out]; exact HNO.out, KeptS.refl _ _⟩
  · have hub : decide (t < u) = false := by simpa using hu
    have HT : Hid (takeF t acc u = acc) := Lib.hid (by
      unfold takeF
      cases acc with
      | none => exact if_neg hu
      | some v => exact if_neg (fun h => hu h.1))
    clear hu
    go_enter Try.func91, Try.ntmps91
    go_wp2
    go_end0
    exact ⟨rfl, by rw [HT.out]; exact HNO.out, KeptS.refl _ _⟩
theorem fold_succ {α : Type} {f : α → Int} {t : Int} {l : List α} {acc : Option Int} {k : Nat} (hk : k < l.length) (d : α) : ((l.take (k + 1)).map f).foldl (takeF t) acc = takeF t (((l.take k).map f).foldl (takeF t) acc) (f (l.getD k d)) := by
  rw [List.take_succ_eq_append_getElem hk, List.map_append, List.foldl_append]
  simp [List.getD_eq_getElem?_getD, List.getElem?_eq_getElem hk]
set_option maxHeartbeats 4000000 in
set_option maxRecDepth 100000 in
theorem next63_any (w0 w : World) (gr : Nat) (PA : Option Addr) (pn pc : Nat) (ps : List PulseL) (a0 qv a3 a4 a5 a6 : Value) (B1 : Nat) (t : Int) (q : List SentL)
    (hB : Below w0.heap.size w0 w) (hps : RdPulses w0 PA pn ps) (hr : w.heap[gr]? = some (.cells #[a0, .slice PA pn pc, qv, a3, a4, a5, a6] 108 (0, 0))) (hq : w.ownsRow B1 132 3 qv q.length (flatS q)) :
    Calls Try.prog 63 #[.pointer (some ⟨gr, 0, none⟩), .int .i64 t] w fun e w' => e = .returned (.tuple #[.int .i64 ((nextT t ps q).getD 0), .bool (nextT t ps q).isSome]) ∧ Below w.heap.size w w' := by
  have hpm := hps.2.1
  have HPL := Lib.hid hps.1
  have HPS := Lib.hid (hps.below hB); clear hps hB
  obtain ⟨QA, qc, rfl, hqs⟩ := own_sents hq
  have hqm := hqs.2.1
  clear hq
  have HQS := Lib.hid hqs; clear hqs
  have hgr := blk_lt hr
  have HR := Lib.hid hr; clear hr
  have hb1 : Below w.heap.size w (w.alloc (.cells #[.int .i64 t] 3)) := (Below.refl _ _).alloc (Nat.le_refl _) _
  have hs1 : (w.alloc (.cells #[.int .i64 t] 3)).heap.size = w.heap.size + 1 := Array.size_push _
  obtain ⟨w3, hw3⟩ : ∃ w3, ((w.alloc (.cells #[.int .i64 t] 3)).alloc (.cells #[.int .i64 0] 3)).alloc (.cells #[.bool false] 4) = w3 := ⟨_, rfl⟩
  have hs2 : ((w.alloc (.cells #[.int .i64 t] 3)).alloc (.cells #[.int .i64 0] 3)).heap.size = w.heap.size + 1 + 1 := (Array.size_push _).trans (congrArg (· + 1) hs1)
  have hbw : Below w.heap.size w w3 := by rw [← hw3]; exact (hb1.alloc (by rw [hs1]; omega) _).alloc (by rw [hs2]; omega) _
  have hP1 : w3.heap[w.heap.size]? = some (.cells #[.int .i64 t] 3 (0, 0)) := by rw [← hw3]; exact blk_alloc (blk_alloc (blk_new w _) _) _
  have hP3 : w3.heap[w.heap.size + 1]? = some (.cells #[.int .i64 0] 3 (0, 0)) := by
    have h := blk_new (w.alloc (.cells #[.int .i64 t] 3)) (.cells #[.int .i64 0] 3)
    rw [hs1] at h
    rw [← hw3]; exact blk_alloc h _
  have hP2 : w3.heap[w.heap.size + 1 + 1]? = some (.cells #[.bool false] 4 (0, 0)) := by
    have h := blk_new ((w.alloc (.cells #[.int .i64 t] 3)).alloc (.cells #[.int .i64 0] 3)) (.cells #[.bool false] 4)
    rw [hs2] at h
    rw [← hw3]; exact h
  have HBW := Lib.hid hbw; clear hbw
  have HP1 := Lib.hid hP1; clear hP1
  have HAC : Hid (AccSt w3 (w.heap.size + 1 + 1) (w.heap.size + 1) (((ps.take 0).map (·.t)).foldl (takeF t) none)) := Lib.hid ⟨hP2, hP3⟩
  have r1 : (((w.alloc (.cells #[.int .i64 t] 3)).alloc (.cells #[.int .i64 0] 3)).alloc (.cells #[.bool false] 4)).cell? ⟨gr, 1, none⟩ = some (.slice PA pn pc) := by rw [hw3]; exact pw_cell_below HBW.out ((blk_cell HR.out 1).trans rfl)
  have HW3 := Lib.hid hw3
  obtain ⟨qn, hqn⟩ : ∃ qn, q.length = qn := ⟨_, rfl⟩
  have HQN := Lib.hid hqn
  rw [hqn] at hqm HQS HR
  clear hP2 hP3 hs1 hs2 hb1 hw3 hqn
  go_enter Try.func63, Try.ntmps63
  go_wp2_with fail
  clear r1
  rw [HW3.out]
  go_loopw [19] (fun i wr => ∃ k : Nat, k ≤ pn ∧ i = .int .i64 k ∧ Hid (Below w.heap.size w wr) ∧ Hid (wr.heap[w.heap.size]? = some (.cells #[.int .i64 t] 3 (0, 0))) ∧ Hid (AccSt wr (w.heap.size + 1 + 1) (w.heap.size + 1) (((ps.take k).map (·.t)).foldl (takeF t) none))) (fun i _ => pn - (intOf i).toNat)
  case atStart => exact ⟨0, Nat.zero_le _, rfl, HBW, HP1, HAC⟩
  case round =>
    obtain ⟨k, hk, rfl, hB, hP, hA⟩ := hrel
    clear HBW HP1 HAC HW3
    obtain ⟨wx, rfl⟩ : ∃ wx : World, wx = wr := ⟨_, rfl⟩
    by_cases hlt : k < pn
    · have hlt2 : decide ((k : Int) < (pn : Int)) = true := by simp; omega
      obtain ⟨ad, rfl, q1, q2, q3⟩ := (HPS.out.below hB.out).at_ k hlt
      have HSU := Lib.hid (fold_succ (f := (·.t)) (t := t) (l := ps) (acc := none) (k := k) (by rw [HPL.out]; exact hlt) zPulse)
      generalize ps.getD k zPulse = p at *
      obtain ⟨pt, pnet, pv⟩ := p
      simp only at q1 q2 q3
      have HWG : Hid (Below wx.heap.size wx (wx.alloc (.cells #[.int .i64 pt, .int .i64 pnet, .int .i64 pv] 103))) := Lib.hid ((Below.refl _ _).alloc (Nat.le_refl _) _)
      have HAG := Lib.hid (hA.out.below HWG.out)
      have HPG := Lib.hid (blk_below hP.out HWG.out)
      have hszx : w.heap.size ≤ wx.heap.size := hB.out.size
      go_wp2_with fail
      refine (take91_any pt t w.heap.size (w.heap.size + 1 + 1) (w.heap.size + 1) _ _ HPG.out HAG.out).mono ?_
      rintro e w2 ⟨rfl, hA2, hK2⟩
      have HA2 : Hid (AccSt w2 (w.heap.size + 1 + 1) (w.heap.size + 1) (((ps.take (k + 1)).map (·.t)).foldl (takeF t) none)) := Lib.hid (by rw [HSU.out]; exact hA2)
      have HP2 := Lib.hid (hK2.blk HPG.out (fun h => by omega))
      have HB2 : Hid (Below w.heap.size w w2) := Lib.hid ((hB.out.trans (HWG.out.mono hszx)).trans (hK2.below (Nat.le_trans hszx HWG.out.size) (fun i h => by omega)))
      clear hA2 hK2
      go_wp2_with fail
      first
      | (go_roundw; (case rel => exact ⟨k + 1, by omega, by go_num, HB2, HP2, HA2⟩); (case measure => simp [intOf]; omega))
      | exact ⟨⟨k + 1, by omega, by go_num, HB2, HP2, HA2⟩, by simp [intOf]; omega⟩
    · have hlt2 : decide ((k : Int) < (pn : Int)) = false := by simp; omega
      have HA0 : Hid (AccSt wx (w.heap.size + 1 + 1) (w.heap.size + 1) (((q.take 0).map (·.t)).foldl (takeF t) ((ps.map (·.t)).foldl (takeF t) none))) := Lib.hid (by
        have h := hA.out
        rwa [List.take_of_length_le (by rw [HPL.out]; omega)] at h)
      have r2 : wx.cell? ⟨gr, 2, none⟩ = some (.slice QA qn qc) := pw_cell_below hB.out ((blk_cell HR.out 2).trans rfl)
      go_wp2_with fail
      clear r2
      go_loopw [33] (fun i wr => ∃ k : Nat, k ≤ qn ∧ i = .int .i64 k ∧ Hid (Below w.heap.size w wr) ∧ Hid (wr.heap[w.heap.size]? = some (.cells #[.int .i64 t] 3 (0, 0))) ∧ Hid (AccSt wr (w.heap.size + 1 + 1) (w.heap.size + 1) (((q.take k).map (·.t)).foldl (takeF t) ((ps.map (·.t)).foldl (takeF t) none)))) (fun i _ => qn - (intOf i).toNat)
      case atStart => exact ⟨0, Nat.zero_le _, rfl, hB, hP, HA0⟩
      case round =>
        obtain ⟨j, hj, rfl, hB, hP, hA⟩ := hrel
        clear HA0
        obtain ⟨wy, rfl⟩ : ∃ wy : World, wy = wr := ⟨_, rfl⟩
        by_cases hltj : j < qn
        · have hltj2 : decide ((j : Int) < (qn : Int)) = true := by simp; omega
          have hqs : RdSents wy QA qn q := ⟨HQS.out.1, HQS.out.2.1, fun hn => by
            obtain ⟨ad, e, hc⟩ := HQS.out.2.2 hn
            exact ⟨ad, e, fun i hi => ⟨pw_cell_below hB.out (hc i hi).1, pw_cell_below hB.out (hc i hi).2.1, pw_cell_below hB.out (hc i hi).2.2⟩⟩⟩
          obtain ⟨ad, rfl, q1, q2, q3⟩ := hqs.at_ j hltj
          have HSU := Lib.hid (fold_succ (f := (·.t)) (t := t) (l := q) (acc := (ps.map (·.t)).foldl (takeF t) none) (k := j) (by rw [HQN.out]; exact hltj) zSent)
          generalize q.getD j zSent = p at *
          obtain ⟨pt, pg, pv⟩ := p
          simp only at q1 q2 q3
          have HWG : Hid (Below wy.heap.size wy (wy.alloc (.cells #[.int .i64 pt, .int .i64 pg, .int .i64 pv] 132))) := Lib.hid ((Below.refl _ _).alloc (Nat.le_refl _) _)
          have HAG := Lib.hid (hA.out.below HWG.out)
          have HPG := Lib.hid (blk_below hP.out HWG.out)
          have hszx : w.heap.size ≤ wy.heap.size := hB.out.size
          clear hqs
          go_wp2_with fail
          refine (take91_any pt t w.heap.size (w.heap.size + 1 + 1) (w.heap.size + 1) _ _ HPG.out HAG.out).mono ?_
          rintro e w2 ⟨rfl, hA2, hK2⟩
          have HA2 : Hid (AccSt w2 (w.heap.size + 1 + 1) (w.heap.size + 1) (((q.take (j + 1)).map (·.t)).foldl (takeF t) ((ps.map (·.t)).foldl (takeF t) none))) := Lib.hid (by rw [HSU.out]; exact hA2)
          have HP2 := Lib.hid (hK2.blk HPG.out (fun h => by omega))
          have HB2 : Hid (Below w.heap.size w w2) := Lib.hid ((hB.out.trans (HWG.out.mono hszx)).trans (hK2.below (Nat.le_trans hszx HWG.out.size) (fun i h => by omega)))
          clear hA2 hK2
          go_wp2_with fail
          first
          | (go_roundw; (case rel => exact ⟨j + 1, by omega, by go_num, HB2, HP2, HA2⟩); (case measure => simp [intOf]; omega))
          | exact ⟨⟨j + 1, by omega, by go_num, HB2, HP2, HA2⟩, by simp [intOf]; omega⟩
        · have hltj2 : decide ((j : Int) < (qn : Int)) = false := by simp; omega
          have HN : Hid (AccSt wy (w.heap.size + 1 + 1) (w.heap.size + 1) (nextT t ps q)) := Lib.hid (by
            have h := hA.out
            rwa [List.take_of_length_le (by rw [HQN.out]; omega)] at h)
          obtain ⟨nx, hnx⟩ : ∃ nx, nextT t ps q = nx := ⟨_, rfl⟩
          rw [hnx] at HN
          have HNX := Lib.hid hnx; clear hnx
          have c2 : wy.cell? ⟨w.heap.size + 1 + 1, 0, none⟩ = some (.bool nx.isSome) := (blk_cell HN.out.1 0).trans rfl
          have c3 : wy.cell? ⟨w.heap.size + 1, 0, none⟩ = some (.int .i64 (nx.getD 0)) := (blk_cell HN.out.2 0).trans rfl
          go_wp2
          go_quiet (fail)
          go_wp2
          go_ret2
          rw [HNX.out]
          exact ⟨rfl, pw_below_drewN (n := _) hB.out⟩
end Go.Proofs.Ytobdhdehmkmjcaa
namespace Go.Proofs.Ytobdhdehmkmjcaa
set_option linter.unusedVariables false
set_option linter.unusedSimpArgs false
open Go Go.RowKit Go.Proofs.YtobdhdehmkmjcaaW.PrintWords Go.Proofs.YtobdhdehmkmjcaaW.PrintLast

def pulseB (nets : Int) (p : PulseL) : Bool := decide (0 ≤ p.t) && decide (0 ≤ p.net) && decide (p.net < nets) && isVal p.v
def sameP (p q : PulseL) : Bool := decide (p.t = q.t) && decide (p.net = q.net)
def twiceP (ps : List PulseL) : Bool := (List.range ps.length).any fun i => (ps.take i).any fun q => sameP (ps.getD i zPulse) q
def preR (nets : Int) (gs : List GateL) (ps : List PulseL) (un : Int) : Int :=
  if validF nets gs ≠ 0 then validF nets gs else if 64 < ps.length then 3 else if un < 0 ∨ 2000 < un then 1 else if ps.all (pulseB nets) = false then 1 else if twiceP ps = true then 5 else 0
theorem preR_zero {nets : Int} {gs : List GateL} {ps : List PulseL} {un : Int} (h : preR nets gs ps un = 0) : validF nets gs = 0 ∧ ps.length ≤ 64 ∧ 0 ≤ un ∧ un ≤ 2000 ∧ ps.all (pulseB nets) = true ∧ twiceP ps = false := by
  unfold preR at h
  split at h
  · rename_i h1; exact absurd h h1
  split at h
  · cases h
  split at h
  · cases h
  split at h
  · cases h
  split at h
  · cases h
  rename_i h1 h2 h3 h4 h5
  exact ⟨by simpa using h1, by omega, by omega, by omega, by simpa using h4, by simpa using h5⟩
def S0 (nn gn : Nat) : TS := ⟨List.replicate gn 0, List.replicate nn 4, List.replicate nn 0, [], []⟩
def outsTo (nn : Nat) (ps : List PulseL) : List Bool := ps.foldl (fun o p => o.set p.net.toNat true) (List.replicate nn false)
theorem outsTo_succ {nn : Nat} {ps : List PulseL} {k : Nat} (hk : k < ps.length) : outsTo nn (ps.take (k + 1)) = (outsTo nn (ps.take k)).set (ps.getD k zPulse).net.toNat true := by
  unfold outsTo
  rw [List.take_succ_eq_append_getElem hk, List.foldl_append]
  simp [List.getD_eq_getElem?_getD, List.getElem?_eq_getElem hk]
theorem setb_ne {l : List Bool} {i j : Nat} {x : Bool} (h : i ≠ j) : (l.set i x).getD j false = l.getD j false := getD_set_ne h
theorem outs_keep (n : Nat) : ∀ (ps : List PulseL) (o : List Bool), (ps.foldl (fun o p => o.set p.net.toNat true) o).getD n false = false → n < o.length → o.getD n false = false ∧ ∀ p ∈ ps, p.net.toNat ≠ n
  | [], o, h, _ => ⟨h, fun p hp => by cases hp⟩
  | p :: ps, o, h, hn => by
    obtain ⟨h1, h2⟩ := outs_keep n ps _ h (by rw [List.length_set]; exact hn)
    have hne : p.net.toNat ≠ n := fun e => by
      subst e
      rw [getD_set_eq hn] at h1
      cases h1
    exact ⟨by rw [← setb_ne (x := true) hne]; exact h1, fun q hq => by
      rcases List.mem_cons.1 hq with e | e
      · rw [e]; exact hne
      · exact h2 q e⟩
theorem dueO_keep (t : Int) {n : Nat} : ∀ (ps : List PulseL) (ov : List Int), (∀ p ∈ ps, p.net.toNat ≠ n) → (dueO t ps ov).getD n 0 = ov.getD n 0
  | [], ov, _ => rfl
  | e :: q, ov, h => by
    show (dueO t q _).getD n 0 = _
    rw [dueO_keep t q _ (fun e' he' => h e' (List.mem_cons_of_mem _ he'))]
    show (if e.t = t then ov.set e.net.toNat e.v else ov).getD n 0 = _
    split
    · rw [getD_set_ne (h e List.mem_cons_self)]
    · rfl
theorem out_four {nn : Nat} {t : Int} {ps : List PulseL} {ov : List Int} (h : ∀ n, n < nn → (outsTo nn ps).getD n false = false → ov.getD n 0 = 4) : ∀ n, n < nn → (outsTo nn ps).getD n false = false → (dueO t ps ov).getD n 0 = 4 := by
  intro n hn ho
  rw [dueO_keep t ps ov (outs_keep n ps _ ho (by simpa using hn)).2]
  exact h n hn ho
theorem dueO_val {nn : Nat} {t : Int} : ∀ {ps : List PulseL} {ov : List Int}, (∀ p ∈ ps, isVal p.v = true) → ov.all isVal = true → (dueO t ps ov).all isVal = true
  | [], ov, _, h => h
  | e :: q, ov, hp, h => by
    show (dueO t q _).all isVal = true
    refine dueO_val (nn := nn) (fun p hp' => hp p (List.mem_cons_of_mem _ hp')) ?_
    show (if e.t = t then ov.set e.net.toNat e.v else ov).all isVal = true
    split
    · exact all_set h _ (hp e List.mem_cons_self)
    · exact h
theorem dueG_val {gn : Nat} {t : Int} : ∀ {q : List SentL} {gv : List Int}, QOk gn q → gv.all isVal = true → (dueG t q gv).all isVal = true
  | [], ov, _, h => h
  | e :: q, ov, hp, h => by
    show (dueG t q _).all isVal = true
    refine dueG_val (gn := gn) (fun p hp' => hp p (List.mem_cons_of_mem _ hp')) ?_
    show (if e.t = t then ov.set e.gate.toNat e.v else ov).all isVal = true
    split
    · exact all_set h _ (hp e List.mem_cons_self).2.2
    · exact h
def RdEdge (w : World) (ad : Addr) (d : EdgeL) : Prop := w.cell? ad = some (.int .i64 d.t) ∧ w.cell? ⟨ad.block, ad.off + 1, none⟩ = some (.int .i64 d.net) ∧ w.cell? ⟨ad.block, ad.off + 2, none⟩ = some (.int .i64 d.v)
def RdEdges (w : World) (A : Option Addr) (n : Nat) (ds : List EdgeL) : Prop :=
  ds.length = n ∧ n ≤ 9223372036854775807 ∧ (0 < n → ∃ ad, A = some ad ∧ ∀ i, i < n → RdEdge w (ad.add (i * 3)) (ds.getD i zEdge))
theorem RdEdges.below {w w1 : World} {A : Option Addr} {n : Nat} {ds : List EdgeL} (h : RdEdges w A n ds) (hb : Below w.heap.size w w1) : RdEdges w1 A n ds :=
  ⟨h.1, h.2.1, fun hn => by
    obtain ⟨ad, e, hc⟩ := h.2.2 hn
    exact ⟨ad, e, fun i hi => ⟨pw_cell_below hb (hc i hi).1, pw_cell_below hb (hc i hi).2.1, pw_cell_below hb (hc i hi).2.2⟩⟩⟩
theorem RdEdges.at_ {w : World} {A : Option Addr} {n : Nat} {ds : List EdgeL} (h : RdEdges w A n ds) (i : Nat) (hi : i < n) : ∃ ad, A = some ad ∧ RdEdge w (ad.add (i * 3)) (ds.getD i zEdge) := by
  obtain ⟨ad, e, hc⟩ := h.2.2 (by omega)
  exact ⟨ad, e, hc i hi⟩
theorem own_edges {W : World} {b : Nat} {e : TypeId} {v : Value} {ds : List EdgeL} (h : W.ownsRow b e 3 v ds.length (flatE ds)) : ∃ A c, v = .slice A ds.length c ∧ RdEdges W A ds.length ds := by
  cases ds with
  | nil =>
    obtain ⟨A, c, rfl⟩ := own_slice h
    exact ⟨A, c, rfl, rfl, by decide, fun h => absurd h (by decide)⟩
  | cons d ds =>
    obtain ⟨g, c, rfl, hc, hm, hcell⟩ := own_cells h (by simp)
    refine ⟨_, c, rfl, rfl, by simp only [maxLen] at hm; omega, fun _ => ⟨_, rfl, fun i hi => ?_⟩⟩
    obtain ⟨e0, e1, e2⟩ := flatE_at i hi
    have ea : (⟨g, 0, none⟩ : Addr).add (i * 3) = ⟨g, i * 3, none⟩ := by simp [Addr.add]; exact Eq.symm
    rw [ea]
    exact ⟨hcell _ _ e0, hcell _ _ e1, hcell _ _ e2⟩
def runOut (r : OutR) (w : World) (e : Ending) : Prop :=
  match r with
  | .err x => e = .returned (.tuple #[.slice none 0 0, .slice none 0 0, .int .i64 x])
  | .ok ed nets => ∃ A c B d, e = .returned (.tuple #[.slice A ed.length c, .slice B nets.length d, .int .i64 0]) ∧ RdEdges w A ed.length ed ∧ ReadsInt w .i64 B nets.length nets
section
variable {P : Program} {ops : Array Oper} {Q : Exit → Act → World → Prop} {md : Region.Mode} {S : World → Prop} {f : Nat}
theorem wpAnyF_list {rs : List Nat} {fuel : Nat} {listed : Array Bool} {a : Act} {w : World} (hr : Region.ready md ops listed = rs) (hne : rs ≠ [])
    (h : ∀ i ∈ rs, ∃ o, ops[i]? = some o ∧ ∀ K' : Act → World → Prop, (∀ a w, (i ≠ f → S w) → wpAnyF P md ops Q S f fuel (listed.setIfInBounds i true) a w → K' a w) → if Region.wanted o (yielded ops a.tmps) = true then Oper.wp P o a w K' Q else K' (a.put o.dst undef) w) : wpAnyF P md ops Q S f (fuel + 1) listed a w :=
  wpAnyF_all hr hne (fun i hi => by
    obtain ⟨o, ho, h'⟩ := h i hi
    exact wpOp_step ho (fun K' hK => h' K' (fun a w hS hW => hK a w ⟨hS, hW⟩)))
theorem wpAnyF_three {i j k : Nat} {o o' o'' : Oper} {fuel : Nat} {listed : Array Bool} {a : Act} {w : World} (hi : ops[i]? = some o) (hj : ops[j]? = some o') (hk : ops[k]? = some o'') (hr : Region.ready md ops listed = [i, j, k])
    (h : ∀ K' : Act → World → Prop, (∀ a w, (i ≠ f → S w) → wpAnyF P md ops Q S f fuel (listed.setIfInBounds i true) a w → K' a w) → if Region.wanted o (yielded ops a.tmps) = true then Oper.wp P o a w K' Q else K' (a.put o.dst undef) w)
    (h' : ∀ K' : Act → World → Prop, (∀ a w, (j ≠ f → S w) → wpAnyF P md ops Q S f fuel (listed.setIfInBounds j true) a w → K' a w) → if Region.wanted o' (yielded ops a.tmps) = true then Oper.wp P o' a w K' Q else K' (a.put o'.dst undef) w)
    (h'' : ∀ K' : Act → World → Prop, (∀ a w, (k ≠ f → S w) → wpAnyF P md ops Q S f fuel (listed.setIfInBounds k true) a w → K' a w) → if Region.wanted o'' (yielded ops a.tmps) = true then Oper.wp P o'' a w K' Q else K' (a.put o''.dst undef) w) : wpAnyF P md ops Q S f (fuel + 1) listed a w :=
  wpAnyF_list hr (by simp) (fun n hn => by
    have hn' : n = i ∨ n = j ∨ n = k := by simpa using hn
    rcases hn' with rfl | rfl | rfl
    · exact ⟨o, hi, h⟩
    · exact ⟨o', hj, h'⟩
    · exact ⟨o'', hk, h''⟩)
theorem wpAnyF_four {i j k m : Nat} {o o' o'' o3 : Oper} {fuel : Nat} {listed : Array Bool} {a : Act} {w : World} (hi : ops[i]? = some o) (hj : ops[j]? = some o') (hk : ops[k]? = some o'') (hm : ops[m]? = some o3) (hr : Region.ready md ops listed = [i, j, k, m])
    (h : ∀ K' : Act → World → Prop, (∀ a w, (i ≠ f → S w) → wpAnyF P md ops Q S f fuel (listed.setIfInBounds i true) a w → K' a w) → if Region.wanted o (yielded ops a.tmps) = true then Oper.wp P o a w K' Q else K' (a.put o.dst undef) w)
    (h' : ∀ K' : Act → World → Prop, (∀ a w, (j ≠ f → S w) → wpAnyF P md ops Q S f fuel (listed.setIfInBounds j true) a w → K' a w) → if Region.wanted o' (yielded ops a.tmps) = true then Oper.wp P o' a w K' Q else K' (a.put o'.dst undef) w)
    (h'' : ∀ K' : Act → World → Prop, (∀ a w, (k ≠ f → S w) → wpAnyF P md ops Q S f fuel (listed.setIfInBounds k true) a w → K' a w) → if Region.wanted o'' (yielded ops a.tmps) = true then Oper.wp P o'' a w K' Q else K' (a.put o''.dst undef) w)
    (h3 : ∀ K' : Act → World → Prop, (∀ a w, (m ≠ f → S w) → wpAnyF P md ops Q S f fuel (listed.setIfInBounds m true) a w → K' a w) → if Region.wanted o3 (yielded ops a.tmps) = true then Oper.wp P o3 a w K' Q else K' (a.put o3.dst undef) w) : wpAnyF P md ops Q S f (fuel + 1) listed a w :=
  wpAnyF_list hr (by simp) (fun n hn => by
    have hn' : n = i ∨ n = j ∨ n = k ∨ n = m := by simpa using hn
    rcases hn' with rfl | rfl | rfl | rfl
    · exact ⟨o, hi, h⟩
    · exact ⟨o', hj, h'⟩
    · exact ⟨o'', hk, h''⟩
    · exact ⟨o3, hm, h3⟩)
/-- Where the orders of four operations meet again. -/
theorem wpAnyF_join4 {σ : Type} (d1 d2 d3 d4 : Option Tmp) (v1 v2 v3 v4 : σ → Value) (F : σ → World → Prop) (fuel' : Nat) (l' : Array Bool) {fuel : Nat} {l : Array Bool} {a : Act} {w : World}
    (hrest : ∀ x W, F x W → wpAnyF P md ops Q S f fuel' l' ((((a.put d1 (v1 x)).put d2 (v2 x)).put d3 (v3 x)).put d4 (v4 x)) W)
    (h : (∀ x W, F x W → wpAnyF P md ops Q S f fuel' l' ((((a.put d1 (v1 x)).put d2 (v2 x)).put d3 (v3 x)).put d4 (v4 x)) W) → wpAnyF P md ops Q S f fuel l a w) : wpAnyF P md ops Q S f fuel l a w := h hrest
end
set_option maxHeartbeats 1000000 in
set_option maxRecDepth 100000 in
theorem made2_any (nets : Int) (A : Option Addr) (n c : Nat) (w : World) :
    Calls Try.prog 52 #[.agg #[.int .i64 nets, .slice A n c]] w fun e w' => ∃ g mb, e = .returned (.pointer (some ⟨g, 0, none⟩)) ∧ PlayerB w' g mb nets A n c ∧ Below w.heap.size w w' := by
  have hB : Below w.heap.size w (w.alloc (.cells #[.int .i64 nets, .slice A n c] 39)) := (Below.refl _ _).alloc (Nat.le_refl _) _
  have hb0 : (w.alloc (.cells #[.int .i64 nets, .slice A n c] 39)).drew.heap[w.heap.size]? = some (.cells #[.int .i64 nets, .slice A n c] 39 (0, 0)) := blk_new w _
  have c0 : (w.alloc (.cells #[.int .i64 nets, .slice A n c] 39)).drew.cell? ⟨w.heap.size, 0, none⟩ = some (.int .i64 nets) := (blk_cell hb0 0).trans rfl
  have c1 : (w.alloc (.cells #[.int .i64 nets, .slice A n c] 39)).drew.cell? ⟨w.heap.size, 1, none⟩ = some (.slice A n c) := (blk_cell hb0 1).trans rfl
  obtain ⟨T, hT⟩ : ∃ T : Array Value, tabA = T := ⟨_, rfl⟩
  obtain ⟨pc, hpc⟩ : ∃ pc : Nat → Array Value, playerCells nets A n c = pc := ⟨_, rfl⟩
  obtain ⟨X, hX⟩ : ∃ X : Array Value, preCells nets A n c = X := ⟨_, rfl⟩
  have hX1 := pre_fold nets A n c
  have hX2 := pre_size nets A n c
  have hX3 := pre_set nets A n c
  have hX4 := tabA_size
  rw [hX, hT] at hX1
  rw [hX] at hX2 hX3
  rw [hpc] at hX3
  rw [hT] at hX4
  have hpl : ∀ (m : Nat) (W : World) (_ : W.heap[m]? = some (.map gE6 6)), PlayerB (W.alloc (.cells (pc m) 125)) W.heap.size m nets A n c := by
    rw [← hpc]; exact fun m W h => ⟨blk_new W _, blk_alloc h _⟩
  have htab : ∀ cur, TabTo 81 cur → cur = T := fun cur h => (tabA_of h).trans hT
  have HPLN := Lib.hid hpl; clear hpl
  have HTAB := Lib.hid htab; clear htab
  clear hT hpc hX
  have HB := Lib.hid (pw_below_drewN hB 1 : Below w.heap.size w (w.alloc (.cells #[.int .i64 nets, .slice A n c] 39)).drew); clear hB
  have HB0 := Lib.hid hb0; clear hb0
  go_enter Try.func52, Try.ntmps52
  go_wp2
  go_region_law (first
    | (refine goes_ (f := 35) Try.func35 (by kernel_rfl) rfl #[] rfl rfl rfl (by simp) ?_; refine (table_any _).mono ?_; rintro e w1 ⟨⟨cur, rfl, hcur⟩, hb1⟩; refine ⟨_, rfl, ?_⟩; obtain rfl := HTAB.out _ hcur; have hb2 := blk_below HB0.out hb1; have c10 : w1.cell? ⟨w.heap.size, 0, none⟩ = some (.int .i64 nets) := (blk_cell hb2 0).trans rfl; have c11 : w1.cell? ⟨w.heap.size, 1, none⟩ = some (.slice A n c) := (blk_cell hb2 1).trans rfl; have hb3 := blk_alloc hb2 (.map gE6 6); have c20 : (w1.alloc (.map gE6 6)).cell? ⟨w.heap.size, 0, none⟩ = some (.int .i64 nets) := (blk_cell hb3 0).trans rfl; have c21 : (w1.alloc (.map gE6 6)).cell? ⟨w.heap.size, 1, none⟩ = some (.slice A n c) := (blk_cell hb3 1).trans rfl; have HBB := Lib.hid (HB.out.trans (hb1.mono HB.out.size)); clear hb1 hb2 hb3)
    | (refine goes_ (f := 40) Try.func40 (by kernel_rfl) rfl #[] rfl rfl rfl (by simp) ?_; refine (gates_any _).mono ?_; rintro e w2 ⟨rfl, rfl⟩; refine ⟨_, rfl, ?_⟩; have HPL : Hid (PlayerB ((w1.alloc (.map gE6 6)).alloc (.cells (pc w1.heap.size) 125)) (w1.heap.size + 1) w1.heap.size nets A n c) := Lib.hid (by have h := HPLN.out w1.heap.size (w1.alloc (.map gE6 6)) (blk_new w1 _); rwa [show (w1.alloc (.map gE6 6)).heap.size = w1.heap.size + 1 from Array.size_push _] at h)))
  all_goals (go_wp2_with fail; go_ret; exact ⟨_, _, rfl, HPL.out, ((HBB.out.alloc HBB.out.size _).alloc (by have := HBB.out.size; simp; omega) _)⟩)
end Go.Proofs.Ytobdhdehmkmjcaa
namespace Go.Proofs.Ytobdhdehmkmjcaa
set_option linter.unusedVariables false
set_option linter.unusedSimpArgs false
open Go Go.RowKit Go.Proofs.YtobdhdehmkmjcaaW.PrintWords Go.Proofs.YtobdhdehmkmjcaaW.PrintLast

/-- The outside drivers say what the nets get from outside. -/
structure OvIs (nn : Nat) (ds : List DriveL) (ov : List Int) : Prop where
  len : ov.length = nn
  ok : ∀ k, k < ds.length → 0 ≤ (ds.getD k zDrive).net ∧ (ds.getD k zDrive).net < (nn : Int) ∧ isVal (ds.getD k zDrive).v = true
  one : ∀ i j, i < ds.length → j < ds.length → (ds.getD i zDrive).net = (ds.getD j zDrive).net → i = j
  hit : ∀ k, k < ds.length → ov.getD (ds.getD k zDrive).net.toNat 0 = (ds.getD k zDrive).v
  miss : ∀ n, n < nn → (∀ k, k < ds.length → (ds.getD k zDrive).net ≠ (n : Int)) → ov.getD n 0 = 4
theorem getD_setD {l : List DriveL} {i j : Nat} {x : DriveL} (hi : i < l.length) : (l.set i x).getD j zDrive = if j = i then x else l.getD j zDrive := by
  rw [List.getD_eq_getElem?_getD, List.getD_eq_getElem?_getD, List.getElem?_set]
  by_cases h : i = j
  · subst h; simp [hi]
  · rw [if_neg h, if_neg (fun e => h e.symm)]
theorem getD_snoc {l : List DriveL} {j : Nat} {x : DriveL} : (l ++ [x]).getD j zDrive = if j < l.length then l.getD j zDrive else if j = l.length then x else zDrive := by
  rw [List.getD_eq_getElem?_getD, List.getD_eq_getElem?_getD]
  by_cases h : j < l.length
  · rw [if_pos h, List.getElem?_append_left h]
  · rw [if_neg h, List.getElem?_append_right (by omega)]
    by_cases e : j = l.length
    · subst e; simp
    · rw [if_neg e]
      obtain ⟨d, hd⟩ : ∃ d, j - l.length = d + 1 := ⟨j - l.length - 1, by omega⟩
      rw [hd]; rfl
theorem OvIs.set_ {nn : Nat} {ds : List DriveL} {ov : List Int} {k : Nat} {m v : Int} (h : OvIs nn ds ov) (hk : k < ds.length) (hm : (ds.getD k zDrive).net = m) (hv : isVal v = true) : OvIs nn (ds.set k ⟨m, v⟩) (ov.set m.toNat v) := by
  have hn : ∀ j, ((ds.set k ⟨m, v⟩).getD j zDrive).net = (ds.getD j zDrive).net := fun j => by
    rw [getD_setD hk]
    split
    · rename_i e; rw [e]; exact hm.symm
    · rfl
  have hok := h.ok k hk
  have hmn : m.toNat < ov.length := by rw [h.len]; omega
  refine ⟨(List.length_set ..).trans h.len, fun j hj => ?_, fun i j hi hj e => ?_, fun j hj => ?_, fun n hn' hf => ?_⟩
  · rw [List.length_set] at hj
    have := h.ok j hj
    rw [hn]
    refine ⟨this.1, this.2.1, ?_⟩
    rw [getD_setD hk]
    split
    · exact hv
    · exact this.2.2
  · rw [List.length_set] at hi hj
    rw [hn, hn] at e
    exact h.one i j hi hj e
  · rw [List.length_set] at hj
    rw [hn]
    by_cases e : j = k
    · subst e
      rw [hm, getD_set_eq hmn, getD_setD hk, if_pos rfl]
    · have hne : m.toNat ≠ (ds.getD j zDrive).net.toNat := fun e2 => by
        have h1 := h.ok j hj
        exact e (h.one j k hj hk (by omega))
      rw [getD_set_ne hne, getD_setD hk, if_neg e]
      exact h.hit j hj
  · have hf2 : ∀ j, j < ds.length → (ds.getD j zDrive).net ≠ (n : Int) := fun j hj => by
      have := hf j (by rw [List.length_set]; exact hj)
      rwa [hn] at this
    have hne : m.toNat ≠ n := fun e => hf2 k hk (by omega)
    rw [getD_set_ne hne]
    exact h.miss n hn' hf2
theorem OvIs.push {nn : Nat} {ds : List DriveL} {ov : List Int} {m v : Int} (h : OvIs nn ds ov) (hf : ∀ k, k < ds.length → (ds.getD k zDrive).net ≠ m) (h0 : 0 ≤ m) (h1 : m < (nn : Int)) (hv : isVal v = true) : OvIs nn (ds ++ [⟨m, v⟩]) (ov.set m.toNat v) := by
  have hmn : m.toNat < ov.length := by rw [h.len]; omega
  have hlt : ∀ {j}, j < (ds ++ [(⟨m, v⟩ : DriveL)]).length → j < ds.length ∨ j = ds.length := fun {j} hj => by simp at hj; omega
  have ha : ∀ {j}, j < ds.length → (ds ++ [(⟨m, v⟩ : DriveL)]).getD j zDrive = ds.getD j zDrive := fun {j} hj => by rw [getD_snoc, if_pos hj]
  have hb : (ds ++ [(⟨m, v⟩ : DriveL)]).getD ds.length zDrive = ⟨m, v⟩ := by rw [getD_snoc, if_neg (by omega), if_pos rfl]
  refine ⟨(List.length_set ..).trans h.len, fun j hj => ?_, fun i j hi hj e => ?_, fun j hj => ?_, fun n hn' hf2 => ?_⟩
  · rcases hlt hj with h2 | rfl
    · rw [ha h2]; exact h.ok j h2
    · rw [hb]; exact ⟨h0, h1, hv⟩
  · rcases hlt hi with h2 | rfl
    · rcases hlt hj with h3 | rfl
      · rw [ha h2, ha h3] at e; exact h.one i j h2 h3 e
      · rw [ha h2, hb] at e; exact absurd e (hf i h2)
    · rcases hlt hj with h3 | rfl
      · rw [ha h3, hb] at e; exact absurd e.symm (hf j h3)
      · rfl
  · rcases hlt hj with h2 | rfl
    · rw [ha h2]
      have h3 := h.ok j h2
      have hne : m.toNat ≠ (ds.getD j zDrive).net.toNat := fun e2 => hf j h2 (by omega)
      rw [getD_set_ne hne]
      exact h.hit j h2
    · rw [hb, getD_set_eq hmn]
  · have hne : m.toNat ≠ n := fun e => by
      have := hf2 ds.length (by simp)
      rw [hb] at this
      exact this (by show m = _; omega)
    rw [getD_set_ne hne]
    refine h.miss n hn' fun j hj => ?_
    have := hf2 j (by simp; omega)
    rwa [ha hj] at this
theorem OvIs.start (nn : Nat) : OvIs nn [] (List.replicate nn 4) :=
  ⟨by simp, fun k hk => by simp at hk, fun i j hi => by simp at hi, fun k hk => by simp at hk, fun n hn _ => by simp [List.getD_eq_getElem?_getD, hn]⟩
theorem accD_none {ds : List DriveL} {n a : Int} : ∀ k, (∀ j, j < k → (ds.getD j zDrive).net ≠ n) → accD ds n a k = a
  | 0, _ => rfl
  | k + 1, h => by rw [accD_miss (h k (by omega)), accD_none k (fun j hj => h j (by omega))]
theorem accD_some {ds : List DriveL} {n a : Int} {i : Nat} (hi : (ds.getD i zDrive).net = n) : ∀ k, i < k → (∀ j, j < k → j ≠ i → (ds.getD j zDrive).net ≠ n) → accD ds n a k = meetF a (ds.getD i zDrive).v
  | 0, h, _ => by omega
  | k + 1, h, hf => by
    by_cases e : i = k
    · subst e
      rw [accD_hit hi, accD_none i (fun j hj => hf j (by omega) (by omega))]
    · rw [accD_miss (hf k (by omega) (fun e2 => e e2.symm)), accD_some hi k (by omega) (fun j hj => hf j (by omega))]
/-- What the reference drives is what the nets come to. -/
theorem OvIs.acc {nn : Nat} {ds : List DriveL} {ov : List Int} (h : OvIs nn ds ov) (gs : List GateL) (gv : List Int) {n : Nat} (hn : n < nn) : accD ds n (accG gs gv n gs.length) ds.length = netAt gs gv ov n := by
  unfold netAt
  by_cases hx : ∃ k, k < ds.length ∧ (ds.getD k zDrive).net = (n : Int)
  · obtain ⟨k, hk, e⟩ := hx
    rw [accD_some e ds.length hk (fun j hj hne e2 => hne (h.one j k hj hk (e2.trans e.symm)))]
    have h2 := h.hit k hk
    rw [e] at h2
    rw [getD_def 4 0 (by rw [h.len]; exact hn)]
    rw [← h2]; rfl
  · have hf : ∀ k, k < ds.length → (ds.getD k zDrive).net ≠ (n : Int) := fun k hk e => hx ⟨k, hk, e⟩
    rw [accD_none ds.length hf, getD_def 4 0 (by rw [h.len]; exact hn), h.miss n hn hf, meetF_z (accG_ne8 _ _ _ _)]
theorem OvIs.drives {nn : Nat} {ds : List DriveL} {ov : List Int} (h : OvIs nn ds ov) : ds.all (driveOk nn) = true := by
  rw [List.all_eq_true]
  intro d hd
  obtain ⟨k, hk, rfl⟩ := List.getElem_of_mem hd
  have := h.ok k hk
  rw [List.getD_eq_getElem?_getD, List.getElem?_eq_getElem hk, Option.getD_some] at this
  unfold driveOk
  rw [decide_eq_true this.1, decide_eq_true this.2.1, this.2.2]
  rfl
/-! ### Messages: the reference keeps all of them. -/
def liveQ (t : Int) (Q : List SentL) : List SentL := Q.filter fun e => decide (t ≤ e.t)
theorem dueG_live {t : Int} : ∀ (Q : List SentL) (gv : List Int), dueG t (liveQ t Q) gv = dueG t Q gv
  | [], gv => rfl
  | e :: Q, gv => by
    have ih := dueG_live (t := t) Q
    unfold liveQ at ih ⊢
    show dueG t (List.filter _ (e :: Q)) gv = dueG t Q (if e.t = t then gv.set e.gate.toNat e.v else gv)
    rw [List.filter_cons]
    by_cases h : t ≤ e.t
    · rw [if_pos (by simpa using h)]
      exact ih _
    · rw [if_neg (by simpa using h), if_neg (by omega)]
      exact ih _
theorem isDue_live {t : Int} {ps : List PulseL} {Q : List SentL} : isDue t ps (liveQ t Q) = isDue t ps Q := by
  unfold isDue liveQ
  congr 1
  rw [Bool.eq_iff_iff, List.any_eq_true, List.any_eq_true]
  constructor
  · rintro ⟨e, he, h⟩
    exact ⟨e, (List.mem_filter.1 he).1, h⟩
  · rintro ⟨e, he, h⟩
    refine ⟨e, List.mem_filter.2 ⟨he, ?_⟩, h⟩
    simp only [decide_eq_true_eq] at h ⊢
    omega
theorem dueQ_live {t : Int} (Q : List SentL) : dueQ t (liveQ t Q) = liveQ (t + 1) Q := by
  unfold dueQ liveQ
  rw [List.filter_filter]
  apply List.filter_congr
  intro e _
  rw [Bool.eq_iff_iff]
  simp only [Bool.and_eq_true, decide_eq_true_eq]
  omega
theorem askTo_split {gs : List GateL} {t : Int} {all : Bool} {ch : List Bool} {nets gv : List Int} {m : Bool} (Q q : List SentL) : ∀ k, ∃ nw, (askTo gs t all ch nets ⟨gv, Q, m⟩ k).q = Q ++ nw ∧ (askTo gs t all ch nets ⟨gv, q, m⟩ k) = ⟨(askTo gs t all ch nets ⟨gv, Q, m⟩ k).gv, q ++ nw, (askTo gs t all ch nets ⟨gv, Q, m⟩ k).moved⟩ ∧ (∀ e ∈ nw, ∃ i, i < k ∧ 0 < (gs.getD i zGate).delay ∧ e.t = t + (gs.getD i zGate).delay)
  | 0 => ⟨[], (List.append_nil _).symm, by show AskS.mk _ _ _ = _; rw [List.append_nil]; rfl, fun e he => by cases he⟩
  | k + 1 => by
    obtain ⟨nw, h1, h2, h3⟩ := askTo_split (m := m) (gv := gv) (gs := gs) (t := t) (all := all) (ch := ch) (nets := nets) Q q k
    have h3' : ∀ e ∈ nw, ∃ i, i < k + 1 ∧ 0 < (gs.getD i zGate).delay ∧ e.t = t + (gs.getD i zGate).delay := fun e he => by
      obtain ⟨i, hi, h⟩ := h3 e he
      exact ⟨i, by omega, h⟩
    rw [askTo_succ, askTo_succ, h2]
    generalize askTo gs t all ch nets ⟨gv, Q, m⟩ k = S at *
    obtain ⟨sg, sq, sm⟩ := S
    simp only at h1
    subst h1
    unfold askOne
    by_cases ha : askedB all ch (gs.getD k zGate) = true
    · rw [if_pos ha, if_pos ha]
      by_cases hd : 0 < (gs.getD k zGate).delay
      · rw [if_pos hd, if_pos hd]
        refine ⟨nw ++ [⟨t + (gs.getD k zGate).delay, k, ansF (gs.getD k zGate) nets⟩], by simp, by simp, fun e he => ?_⟩
        rcases List.mem_append.1 he with h | h
        · exact h3' e h
        · obtain rfl : e = _ := by simpa using h
          exact ⟨k, by omega, hd, rfl⟩
      · rw [if_neg hd, if_neg hd]
        exact ⟨nw, rfl, rfl, h3'⟩
    · rw [if_neg ha, if_neg ha]
      exact ⟨nw, rfl, rfl, h3'⟩
/-- Rounds do not look at the messages: with other ones they do the same and add the same. -/
theorem rnd_split {nn : Nat} {gs : List GateL} {t : Int} {ov : List Int} {all : Bool} {gv nets : List Int} (Q q : List SentL) : ∃ nw, rndS nn gs t ov all ⟨gv, nets, q⟩ = ⟨(rndS nn gs t ov all ⟨gv, nets, Q⟩).gv, (rndS nn gs t ov all ⟨gv, nets, Q⟩).nets, q ++ nw⟩ ∧ (rndS nn gs t ov all ⟨gv, nets, Q⟩).q = Q ++ nw ∧ rndMov nn gs t ov all ⟨gv, nets, q⟩ = rndMov nn gs t ov all ⟨gv, nets, Q⟩ ∧ (∀ e ∈ nw, t < e.t) := by
  obtain ⟨nw, h1, h2, h3⟩ := askTo_split (gs := gs) (t := t) (all := all) (ch := changedOf nn (netsOf nn gs gv ov) nets) (nets := netsOf nn gs gv ov) (gv := gv) (m := false) Q q gs.length
  refine ⟨nw, ?_, h1, ?_, fun e he => ?_⟩
  · show RS.mk _ _ _ = _
    unfold askF
    rw [h2]
    rfl
  · unfold rndMov askF
    rw [h2]
  · obtain ⟨i, _, h4, h5⟩ := h3 e he
    omega
theorem runsR_split {nn : Nat} {gs : List GateL} {t : Int} {ov : List Int} : ∀ {seen first s r}, RunsR nn gs t ov seen first s r → ∀ q : List SentL,
    match r with
    | none => RunsR nn gs t ov seen first ⟨s.gv, s.nets, q⟩ none
    | some s' => ∃ nw, s'.q = s.q ++ nw ∧ (∀ e ∈ nw, t < e.t) ∧ RunsR nn gs t ov seen first ⟨s.gv, s.nets, q⟩ (some ⟨s'.gv, s'.nets, q ++ nw⟩) := by
  intro seen first s r h
  induction h with
  | bad1 h1 h2 => exact fun q => RunsR.bad1 h1 h2
  | bad2 h1 => exact fun q => RunsR.bad2 h1
  | @stop seen first s h1 h2 h3 =>
    intro q
    obtain ⟨nw, e1, e2, e3, e4⟩ := rnd_split (nn := nn) (gs := gs) (t := t) (ov := ov) (all := decide (t = 0) && first) (gv := s.gv) (nets := s.nets) s.q q
    refine ⟨nw, e2, e4, ?_⟩
    have := RunsR.stop (nn := nn) (gs := gs) (t := t) (ov := ov) (seen := seen) (first := first) (s := ⟨s.gv, s.nets, q⟩) h1 h2 (by rw [e3]; exact h3)
    rw [e1] at this
    exact this
  | @go seen first s r h1 h2 h3 h4 ih =>
    intro q
    obtain ⟨nw, e1, e2, e3, e4⟩ := rnd_split (nn := nn) (gs := gs) (t := t) (ov := ov) (all := decide (t = 0) && first) (gv := s.gv) (nets := s.nets) s.q q
    have ih2 := ih (q ++ nw)
    have h3' : rndAny nn gs ov s = true ∨ rndMov nn gs t ov (decide (t = 0) && first) ⟨s.gv, s.nets, q⟩ = true := by rw [e3]; exact h3
    cases r with
    | none =>
      refine RunsR.go (s := ⟨s.gv, s.nets, q⟩) h1 h2 h3' ?_
      rw [e1]
      exact ih2
    | some s' =>
      obtain ⟨nw2, f1, f2, f3⟩ := ih2
      refine ⟨nw ++ nw2, by rw [f1, e2, List.append_assoc], fun e he => ?_, ?_⟩
      · rcases List.mem_append.1 he with h | h
        · exact e4 e h
        · exact f2 e h
      · refine RunsR.go (s := ⟨s.gv, s.nets, q⟩) h1 h2 h3' ?_
        rw [e1, ← List.append_assoc]
        exact f3
end Go.Proofs.Ytobdhdehmkmjcaa
