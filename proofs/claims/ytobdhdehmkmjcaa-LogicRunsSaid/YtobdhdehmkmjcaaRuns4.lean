/- Words and walks for the row RowLogicRuns, put together: Z2, Y1, M1. -/
import Derived.Test.YtobdhdehmkmjcaaRuns3
import Derived.Test.YtobdhdehmkmjcaaRuns2
namespace Go.Proofs.Ytobdhdehmkmjcaa
set_option linter.unusedVariables false
set_option linter.unusedSimpArgs false
open Go.RowKit Go.Proofs.YtobdhdehmkmjcaaW.PrintWords Go.Proofs.YtobdhdehmkmjcaaW.PrintLast

structure TS where
  gv : List Int
  ov : List Int
  nets : List Int
  q : List SentL
  ed : List EdgeL
inductive OutR
  | err (e : Int)
  | ok (ed : List EdgeL) (nets : List Int)
def dueG (t : Int) (q : List SentL) (gv : List Int) : List Int := q.foldl (fun gv e => if e.t = t then gv.set e.gate.toNat e.v else gv) gv
def dueO (t : Int) (ps : List PulseL) (ov : List Int) : List Int := ps.foldl (fun ov p => if p.t = t then ov.set p.net.toNat p.v else ov) ov
def dueQ (t : Int) (q : List SentL) : List SentL := q.filter fun e => decide (e.t ≠ t)
def isDue (t : Int) (ps : List PulseL) (q : List SentL) : Bool := (ps.any fun p => decide (p.t = t)) || (q.any fun e => decide (e.t = t))
def edgesTo (t : Int) (old new : List Int) : Nat → List EdgeL
  | 0 => []
  | n + 1 => if new.getD n 0 ≠ old.getD n 0 then edgesTo t old new n ++ [⟨t, n, new.getD n 0⟩] else edgesTo t old new n
/-- The state of the rounds behind what comes due. -/
def begS (t : Int) (S : TS) : RS := ⟨dueG t S.q S.gv, S.nets, dueQ t S.q⟩
def endS (nn : Nat) (t : Int) (ps : List PulseL) (S : TS) (s : RS) : TS := ⟨s.gv, dueO t ps S.ov, s.nets, s.q, S.ed ++ edgesTo t S.nets s.nets nn⟩
inductive TR (nn : Nat) (gs : List GateL) (ps : List PulseL) (until' : Int) : Int → TS → OutR → Prop
  | fin {t S} : until' < t → TR nn gs ps until' t S (.ok S.ed S.nets)
  | skip {t S r} : t ≤ until' → isDue t ps S.q = false → 0 < t → TR nn gs ps until' (t + 1) S r → TR nn gs ps until' t S r
  | bad {t S} : t ≤ until' → (isDue t ps S.q = true ∨ t ≤ 0) → RunsR nn gs t (dueO t ps S.ov) [S.nets] true (begS t S) none → TR nn gs ps until' t S (.err 10)
  | large {t S s} : t ≤ until' → (isDue t ps S.q = true ∨ t ≤ 0) → RunsR nn gs t (dueO t ps S.ov) [S.nets] true (begS t S) (some s) → 60 < (endS nn t ps S s).ed.length → TR nn gs ps until' t S (.err 3)
  | go {t S s r} : t ≤ until' → (isDue t ps S.q = true ∨ t ≤ 0) → RunsR nn gs t (dueO t ps S.ov) [S.nets] true (begS t S) (some s) → (endS nn t ps S s).ed.length ≤ 60 → TR nn gs ps until' (t + 1) (endS nn t ps S s) r → TR nn gs ps until' t S r
def takeF (t : Int) (acc : Option Int) (u : Int) : Option Int :=
  match acc with
  | none => if t < u then some u else none
  | some v => if t < u ∧ u < v then some u else some v
def nextT (t : Int) (ps : List PulseL) (q : List SentL) : Option Int := (q.map (·.t)).foldl (takeF t) ((ps.map (·.t)).foldl (takeF t) none)
inductive TP (nn : Nat) (gs : List GateL) (ps : List PulseL) (until' : Int) : Option Int → TS → OutR → Prop
  | none {S} : TP nn gs ps until' none S (.ok S.ed S.nets)
  | fin {t S} : until' < t → TP nn gs ps until' (some t) S (.ok S.ed S.nets)
  | bad {t S} : t ≤ until' → RunsP nn gs t (dueO t ps S.ov) 0 [] (begS t S) none → TP nn gs ps until' (some t) S (.err 10)
  | large {t S s} : t ≤ until' → RunsP nn gs t (dueO t ps S.ov) 0 [] (begS t S) (some s) → 60 < (endS nn t ps S s).ed.length → TP nn gs ps until' (some t) S (.err 3)
  | go {t S s r} : t ≤ until' → RunsP nn gs t (dueO t ps S.ov) 0 [] (begS t S) (some s) → (endS nn t ps S s).ed.length ≤ 60 → TP nn gs ps until' (nextT t ps s.q) (endS nn t ps S s) r → TP nn gs ps until' (some t) S r

/-! ### The next time. -/
def MinOf (t : Int) (L : List Int) (acc : Option Int) : Prop :=
  match acc with
  | none => ∀ x ∈ L, ¬ t < x
  | some v => t < v ∧ v ∈ L ∧ ∀ x ∈ L, t < x → v ≤ x
theorem takeF_min {t u : Int} {L : List Int} {acc : Option Int} (h : MinOf t L acc) : MinOf t (L ++ [u]) (takeF t acc u) := by
  unfold takeF
  cases acc with
  | none =>
    by_cases hu : t < u
    · rw [if_pos hu]
      refine ⟨hu, by simp, fun x hx hl => ?_⟩
      rcases List.mem_append.1 hx with h1 | h1
      · exact absurd hl (h x h1)
      · have : x = u := by simpa using h1
        omega
    · rw [if_neg hu]
      intro x hx hl
      rcases List.mem_append.1 hx with h1 | h1
      · exact h x h1 hl
      · have : x = u := by simpa using h1
        omega
  | some v =>
    obtain ⟨h1, h2, h3⟩ := h
    simp only
    by_cases hu : t < u ∧ u < v
    · rw [if_pos hu]
      refine ⟨hu.1, by simp, fun x hx hl => ?_⟩
      rcases List.mem_append.1 hx with h4 | h4
      · have := h3 x h4 hl; omega
      · have : x = u := by simpa using h4
        omega
    · rw [if_neg hu]
      refine ⟨h1, List.mem_append_left _ h2, fun x hx hl => ?_⟩
      rcases List.mem_append.1 hx with h4 | h4
      · exact h3 x h4 hl
      · have : x = u := by simpa using h4
        omega
theorem foldl_min {t : Int} : ∀ (l L : List Int) (acc : Option Int), MinOf t L acc → MinOf t (L ++ l) (l.foldl (takeF t) acc)
  | [], L, acc, h => by simpa using h
  | x :: l, L, acc, h => by
    have := foldl_min l (L ++ [x]) _ (takeF_min (u := x) h)
    simpa using this
theorem nextT_min (t : Int) (ps : List PulseL) (q : List SentL) : MinOf t (ps.map (·.t) ++ q.map (·.t)) (nextT t ps q) := by
  have h0 : MinOf t [] (none : Option Int) := fun x hx => by cases hx
  have h1 := foldl_min (ps.map (·.t)) [] none h0
  have h2 := foldl_min (q.map (·.t)) _ _ h1
  unfold nextT
  simpa using h2
theorem isDue_mem {t : Int} {ps : List PulseL} {q : List SentL} : isDue t ps q = true ↔ t ∈ ps.map (·.t) ++ q.map (·.t) := by
  unfold isDue
  rw [Bool.or_eq_true, List.mem_append, List.any_eq_true, List.any_eq_true, List.mem_map, List.mem_map]
  simp only [decide_eq_true_eq]
theorem not_due {t u : Int} {ps : List PulseL} {q : List SentL} (h : t < u) (hn : ∀ c, nextT t ps q = some c → u < c) : isDue u ps q = false := by
  cases hd : isDue u ps q
  · rfl
  · have hm := isDue_mem.1 hd
    have := nextT_min t ps q
    cases hx : nextT t ps q with
    | none => rw [hx] at this; exact absurd h (this u hm)
    | some c =>
      rw [hx] at this
      have h1 := this.2.2 u hm h
      have h2 := hn c hx
      omega

/-! ### From one time to the next. -/
section
variable {nn : Nat} {gs : List GateL} {ps : List PulseL} {un : Int}
theorem TR.det_skip {t : Int} {S : TS} {r : OutR} (h : TR nn gs ps un t S r) (hd : isDue t ps S.q = false) (h0 : 0 < t) (hu : t ≤ un) : TR nn gs ps un (t + 1) S r := by
  cases h with
  | fin h1 => omega
  | skip h1 h2 h3 h4 => exact h4
  | bad h1 h2 h3 => rcases h2 with h2 | h2; rw [hd] at h2; cases h2; omega
  | large h1 h2 h3 h4 => rcases h2 with h2 | h2; rw [hd] at h2; cases h2; omega
  | go h1 h2 h3 h4 h5 => rcases h2 with h2 | h2; rw [hd] at h2; cases h2; omega
/-- Times at which nothing comes due are passed over. -/
theorem TR.skips {S : TS} {r : OutR} : ∀ (n : Nat) (t : Int), TR nn gs ps un t S r → 0 < t → (∀ u, t ≤ u → u < t + n → isDue u ps S.q = false) → TR nn gs ps un (t + n) S r
  | 0, t, h, _, _ => by simpa using h
  | n + 1, t, h, h0, hd => by
    by_cases hu : t ≤ un
    · have h1 := h.det_skip (hd t (by omega) (by omega)) h0 hu
      have h2 := TR.skips n (t + 1) h1 (by omega) (fun u h3 h4 => hd u (by omega) (by omega))
      rwa [show t + 1 + (n : Int) = t + ((n + 1 : Nat) : Int) by omega] at h2
    · cases h with
      | fin h1 => exact .fin (by omega)
      | skip h1 => exact absurd h1 hu
      | bad h1 => exact absurd h1 hu
      | large h1 => exact absurd h1 hu
      | go h1 => exact absurd h1 hu
theorem TR.fin_eq {t : Int} {S : TS} {r : OutR} (h : TR nn gs ps un t S r) (hu : un < t) : r = .ok S.ed S.nets := by
  cases h with
  | fin h1 => rfl
  | skip h1 => omega
  | bad h1 => omega
  | large h1 => omega
  | go h1 => omega

/-- What holds of the state at the head of a time. -/
structure TOk (nn : Nat) (gs : List GateL) (t : Int) (S : TS) : Prop where
  ln : S.nets.length = nn
  lg : S.gv.length = gs.length
  qd : ∀ e ∈ S.q, 0 ≤ e.gate ∧ (gs.getD e.gate.toNat zGate).delay > 0
  fresh : t ≠ 0 → ∀ i, i < gs.length → (gs.getD i zGate).delay = 0 → S.gv.getD i 0 = ansF (gs.getD i zGate) S.nets
  zero : t = 0 → (∀ i, i < gs.length → S.gv.getD i 0 = 0) ∧ (∀ n, n < nn → S.nets.getD n 0 = 0) ∧ S.q = []
theorem dueG_len (t : Int) : ∀ (q : List SentL) (gv : List Int), (dueG t q gv).length = gv.length
  | [], gv => rfl
  | e :: q, gv => by
    show (dueG t q _).length = _
    rw [dueG_len t q]
    show (if e.t = t then gv.set e.gate.toNat e.v else gv).length = _
    split
    · rw [List.length_set]
    · rfl
theorem dueG_keep (t : Int) {i : Nat} : ∀ (q : List SentL) (gv : List Int), (∀ e ∈ q, e.gate.toNat ≠ i) → (dueG t q gv).getD i 0 = gv.getD i 0
  | [], gv, _ => rfl
  | e :: q, gv, h => by
    show (dueG t q _).getD i 0 = _
    rw [dueG_keep t q _ (fun e' he' => h e' (List.mem_cons_of_mem _ he'))]
    show (if e.t = t then gv.set e.gate.toNat e.v else gv).getD i 0 = _
    split
    · rw [getD_set_ne (h e List.mem_cons_self)]
    · rfl
theorem askTo_q {t : Int} {all : Bool} {ch : List Bool} {nets : List Int} {s : AskS} : ∀ k, k ≤ gs.length → ∀ e ∈ (askTo gs t all ch nets s k).q, e ∈ s.q ∨ (0 ≤ e.gate ∧ (gs.getD e.gate.toNat zGate).delay > 0)
  | 0, _ => fun e he => .inl he
  | k + 1, hk => by
    intro e he
    unfold askTo askOne at he
    split at he
    · split at he
      · rename_i hd
        rcases List.mem_append.1 he with h | h
        · exact askTo_q k (by omega) e h
        · have : e = ⟨t + (gs.getD k zGate).delay, k, ansF (gs.getD k zGate) nets⟩ := by simpa using h
          subst this
          exact .inr ⟨by simp, by simpa using hd⟩
      · exact askTo_q k (by omega) e he
    · exact askTo_q k (by omega) e he
theorem rnd_q {t : Int} {ov : List Int} {all : Bool} {s : RS} {P : SentL → Prop} (h : ∀ e ∈ s.q, 0 ≤ e.gate ∧ (gs.getD e.gate.toNat zGate).delay > 0) : ∀ e ∈ (rndS nn gs t ov all s).q, 0 ≤ e.gate ∧ (gs.getD e.gate.toNat zGate).delay > 0 := by
  intro e he
  rcases askTo_q _ (Nat.le_refl _) e he with h1 | h1
  · exact h e h1
  · exact h1
/-- The end of the rounds: what the next time needs. -/
theorem runs_end {t : Int} {ov : List Int} (hg : gs.all (gateOk nn) = true) : ∀ {k seen s r}, RunsP nn gs t ov k seen s r → s.gv.length = gs.length → s.nets.length = nn → (0 < k ∨ t ≠ 0 → Fresh gs s) → (∀ e ∈ s.q, 0 ≤ e.gate ∧ (gs.getD e.gate.toNat zGate).delay > 0) →
    ∀ s', r = some s' → s'.gv.length = gs.length ∧ s'.nets.length = nn ∧ Fresh gs s' ∧ (∀ e ∈ s'.q, 0 ≤ e.gate ∧ (gs.getD e.gate.toNat zGate).delay > 0) := by
  intro k seen s r h
  have hf : ∀ {k : Nat} {s : RS}, s.gv.length = gs.length → (0 < k ∨ t ≠ 0 → Fresh gs s) → Fresh gs (rndS nn gs t ov (decide (t = 0) && decide (k = 0)) s) := by
    intro k s hl hF
    refine rnd_fresh hg hl ?_
    by_cases h1 : 0 < k ∨ t ≠ 0
    · exact .inr (hF h1)
    · left
      rw [not_or] at h1
      rw [decide_eq_true (by omega), decide_eq_true (show k = 0 by omega)]; rfl
  induction h with
  | stop h1 h2 =>
    intro hl hn hF hq s' e
    injection e with e
    subst e
    exact ⟨rnd_len.trans hl, netsOf_len .., hf hl hF, rnd_q (P := fun _ => True) hq⟩
  | bad h1 h2 => intro _ _ _ _ s' e; cases e
  | go h1 h2 h3 h4 ih =>
    intro hl hn hF hq s' e
    exact ih (rnd_len.trans hl) (netsOf_len ..) (fun _ => hf hl hF) (rnd_q (P := fun _ => True) hq) s' e
theorem begS_ok {t : Int} {S : TS} (hg : gs.all (gateOk nn) = true) (h : TOk nn gs t S) : (begS t S).gv.length = gs.length ∧ (begS t S).nets.length = nn ∧ (t ≠ 0 → Fresh gs (begS t S)) ∧ (∀ e ∈ (begS t S).q, 0 ≤ e.gate ∧ (gs.getD e.gate.toNat zGate).delay > 0) := by
  refine ⟨(dueG_len ..).trans h.lg, h.ln, fun ht i hi hd => ?_, fun e he => h.qd e (List.mem_filter.1 he).1⟩
  show (dueG t S.q S.gv).getD i 0 = ansF _ S.nets
  rw [dueG_keep t S.q S.gv (fun e he e2 => by have := (h.qd e he).2; rw [e2] at this; omega)]
  exact h.fresh ht i hi hd
/-- The rounds of one time are alike. -/
theorem time_same {t : Int} {S : TS} {ov : List Int} {r r' : Option RS} (hg : gs.all (gateOk nn) = true) (hn : nn ≤ 40) (h : TOk nn gs t S) (hP : RunsP nn gs t ov 0 [] (begS t S) r) (hR : RunsR nn gs t ov [S.nets] true (begS t S) r') : r = r' := by
  obtain ⟨b1, b2, b3, b4⟩ := begS_ok hg h
  by_cases ht : t = 0
  · subst ht
    obtain ⟨z1, z2, z3⟩ := h.zero rfl
    have hgv : ∀ i, i < gs.length → (begS 0 S).gv.getD i 0 = 0 := fun i hi => by
      show (dueG 0 S.q S.gv).getD i 0 = 0
      rw [z3]
      exact z1 i hi
    refine early_same hg hn hP _ _ _ hR ⟨b2, b1, (by simp), (fun n hn' => .inl (z2 n hn')), (fun _ => hgv), (fun e => by omega), (fun i hi _ => hgv i hi), (fun x hx => by cases hx), (fun x hx => ?_), (by simp), (by simp), (by simp)⟩
    obtain rfl : x = S.nets := by simpa using hx
    exact ⟨h.ln, LeL.refl _⟩
  · exact late_same hg ht (s0 := begS t S) (b3 ht) b2 b1 hP true r' hR ⟨by omega, b2, b1, b3 ht, fun _ _ _ => rfl, rfl, fun _ => rfl, fun e => by omega⟩
theorem time_next {t : Int} {S : TS} {s : RS} (hg : gs.all (gateOk nn) = true) (h : TOk nn gs t S) (h0 : 0 ≤ t) (hP : RunsP nn gs t (dueO t ps S.ov) 0 [] (begS t S) (some s)) (u : Int) (hu : t < u) : TOk nn gs u (endS nn t ps S s) := by
  obtain ⟨b1, b2, b3, b4⟩ := begS_ok hg h
  obtain ⟨e1, e2, e3, e4⟩ := runs_end hg hP b1 b2 (fun hk => b3 (by omega)) b4 s rfl
  exact ⟨e2, e1, e4, fun _ => e3, fun e => by omega⟩
theorem times_same (hg : gs.all (gateOk nn) = true) (hn : nn ≤ 40) : ∀ {c S r}, TP nn gs ps un c S r → ∀ t r', c = some t → 0 ≤ t → TOk nn gs t S → (isDue t ps S.q = true ∨ t ≤ 0 ∨ un < t) → TR nn gs ps un t S r' → r = r' := by
  intro c S r h
  induction h with
  | none => intro t r' e; cases e
  | fin h1 =>
    intro t r' e h0 hok _ hR
    injection e with e; subst e
    exact (hR.fin_eq h1).symm
  | bad h1 h2 =>
    intro t r' e h0 hok hdue hR
    injection e with e; subst e
    cases hR with
    | fin h3 => omega
    | skip h3 h4 h5 h6 => rcases hdue with h | h | h; rw [h4] at h; cases h; omega; omega
    | bad h3 h4 h5 => rfl
    | large h3 h4 h5 h6 => have := time_same hg hn hok h2 h5; cases this
    | go h3 h4 h5 h6 h7 => have := time_same hg hn hok h2 h5; cases this
  | large h1 h2 h2' =>
    intro t r' e h0 hok hdue hR
    injection e with e; subst e
    cases hR with
    | fin h3 => omega
    | skip h3 h4 h5 h6 => rcases hdue with h | h | h; rw [h4] at h; cases h; omega; omega
    | bad h3 h4 h5 => have := time_same hg hn hok h2 h5; cases this
    | large h3 h4 h5 h6 => rfl
    | go h3 h4 h5 h6 h7 =>
      have := time_same hg hn hok h2 h5
      injection this with this
      subst this
      omega
  | @go t S s r h1 h2 h2' hP ih =>
    intro t' r' e h0 hok hdue hR
    injection e with e; subst e
    cases hR with
    | fin h3 => omega
    | skip h3 h4 h5 h6 => rcases hdue with h | h | h; rw [h4] at h; cases h; omega; omega
    | bad h3 h4 h5 => have := time_same hg hn hok h2 h5; cases this
    | large h3 h4 h5 h6 =>
      have := time_same hg hn hok h2 h5
      injection this with this
      subst this
      omega
    | go h3 h4 h5 h6 h7 =>
      have := time_same hg hn hok h2 h5
      injection this with this
      subst this
      have hq : (endS nn t ps S s).q = s.q := rfl
      cases hx : nextT t ps s.q with
      | none =>
        rw [hx] at hP
        cases hP
        -- nothing comes due any more
        have h8 := h7.skips (un + 1 - (t + 1)).toNat (t + 1) (by omega) (fun u h8 h9 => by rw [hq]; exact not_due (t := t) (by omega) (fun c hc => by rw [hx] at hc; cases hc))
        exact (h8.fin_eq (by omega)).symm
      | some c =>
        have hm := nextT_min t ps s.q
        rw [hx] at hm
        have h8 := h7.skips (c - (t + 1)).toNat (t + 1) (by omega) (fun u h8 h9 => by rw [hq]; exact not_due (t := t) (by omega) (fun c' hc => by rw [hx] at hc; injection hc with hc; have := hm.1; omega))
        have hc : t + 1 + ((c - (t + 1)).toNat : Int) = c := by have := hm.1; omega
        rw [hc] at h8
        exact ih c r' hx (by have := hm.1; omega) (time_next hg hok h0 h2 c hm.1) (.inl (by rw [hq]; exact isDue_mem.2 hm.2.1)) h8
end
end Go.Proofs.Ytobdhdehmkmjcaa
namespace Go.Proofs.Ytobdhdehmkmjcaa
set_option linter.unusedVariables false
set_option linter.unusedSimpArgs false
open Go Go.RowKit Go.Proofs.YtobdhdehmkmjcaaW.PrintWords Go.Proofs.YtobdhdehmkmjcaaW.PrintLast

section
variable {P : Program} {ops : Array Oper} {Q : Exit → Act → World → Prop} {md : Region.Mode} {S : World → Prop} {f : Nat}
theorem wpAnyF_two {i j : Nat} {o o' : Oper} {fuel : Nat} {listed : Array Bool} {a : Act} {w : World} (hi : ops[i]? = some o) (hj : ops[j]? = some o') (hr : Region.ready md ops listed = [i, j])
    (h : ∀ K' : Act → World → Prop, (∀ a w, (i ≠ f → S w) → wpAnyF P md ops Q S f fuel (listed.setIfInBounds i true) a w → K' a w) → if Region.wanted o (yielded ops a.tmps) = true then Oper.wp P o a w K' Q else K' (a.put o.dst undef) w)
    (h' : ∀ K' : Act → World → Prop, (∀ a w, (j ≠ f → S w) → wpAnyF P md ops Q S f fuel (listed.setIfInBounds j true) a w → K' a w) → if Region.wanted o' (yielded ops a.tmps) = true then Oper.wp P o' a w K' Q else K' (a.put o'.dst undef) w) : wpAnyF P md ops Q S f (fuel + 1) listed a w :=
  wpAnyF_all hr (by simp) (fun k hk => by
    have hk' : k = i ∨ k = j := by simpa using hk
    rcases hk' with rfl | rfl
    · exact wpOp_step hi (fun K' hK => h K' (fun a w hS hW => hK a w ⟨hS, hW⟩))
    · exact wpOp_step hj (fun K' hK => h' K' (fun a w hS hW => hK a w ⟨hS, hW⟩)))
end

theorem clone_all (A : Option Addr) (n c : Nat) (xs : List Int) (w : World) (hr : ReadsInt w .i64 A n xs) (hb : n * 8 ≤ 140737488355328) :
    Calls Try.prog 60 #[.slice A n c] w fun e w' => ∃ v', e = .returned v' ∧ w'.ownsRow w.heap.size 3 1 v' n (nums .i64 xs) ∧ Below w.heap.size w w' := by
  rcases Nat.eq_zero_or_pos n with rfl | hn
  · obtain rfl : xs = [] := List.eq_nil_of_length_eq_zero hr.1
    cases A with
    | none =>
      refine (Try.slices_Clone_int_nil 0 c w).mono ?_
      rintro e w' ⟨rfl, rfl⟩
      exact ⟨_, rfl, own_nil _ _ _ _, Below.refl _ _⟩
    | some a =>
      refine (Try.slices_Clone_int_zero a c w).mono ?_
      rintro e w' ⟨v', rfl, h1, _, h2⟩
      exact ⟨v', rfl, h1, h2⟩
  · exact clone_any A n c xs w hr hn hb
end Go.Proofs.Ytobdhdehmkmjcaa
namespace Go.Proofs.Ytobdhdehmkmjcaa
set_option linter.unusedVariables false
set_option linter.unusedSimpArgs false
open Go.RowKit Go.Proofs.YtobdhdehmkmjcaaW.PrintWords Go.Proofs.YtobdhdehmkmjcaaW.PrintLast

/-- Every block but those of S is as it was. -/
structure KeptS (S : Nat → Prop) (w w' : World) : Prop where
  os : w'.os = w.os
  tape : w'.tape = w.tape
  output : w'.output = w.output
  size : w.heap.size ≤ w'.heap.size
  block : ∀ i, i < w.heap.size → ¬ S i → w'.heap[i]? = w.heap[i]?
section
variable {S T : Nat → Prop} {a b c : World}
theorem KeptS.refl (S : Nat → Prop) (a : World) : KeptS S a a := ⟨rfl, rfl, rfl, Nat.le_refl _, fun _ _ _ => rfl⟩
theorem KeptS.trans (h : KeptS S a b) (k : KeptS T b c) (hT : ∀ i, i < a.heap.size → T i → S i) : KeptS S a c :=
  ⟨k.os.trans h.os, k.tape.trans h.tape, k.output.trans h.output, Nat.le_trans h.size k.size, fun i hi hs => (k.block i (Nat.lt_of_lt_of_le hi h.size) (fun ht => hs (hT i hi ht))).trans (h.block i hi hs)⟩
theorem KeptS.mono (h : KeptS T a b) (hT : ∀ i, i < a.heap.size → T i → S i) : KeptS S a b :=
  ⟨h.os, h.tape, h.output, h.size, fun i hi hs => h.block i hi (fun ht => hs (hT i hi ht))⟩
theorem KeptS.of_below (h : Below a.heap.size a b) : KeptS S a b := ⟨h.os, h.tape, h.output, h.size, fun i hi _ => h.block i hi⟩
theorem KeptS.below {B : Nat} (h : KeptS S a b) (hB : B ≤ a.heap.size) (hS : ∀ i, S i → B ≤ i) : Below B a b :=
  ⟨h.os, h.tape, h.output, h.size, fun i hi => h.block i (Nat.lt_of_lt_of_le hi hB) (fun hs => by have := hS i hs; omega)⟩
theorem KeptS.grown {row : Option Nat} (h : a.grownBy b row) (hr : ∀ k, row = some k → k < a.heap.size → S k) : KeptS S a b :=
  ⟨h.os, h.tape, h.output, h.size, fun i hi hs => h.block i hi (fun e => hs (hr i e.symm hi))⟩
theorem KeptS.setCell {p : Addr} (hp : S p.block) (u : Value) : KeptS S a (a.setCell p u) :=
  ⟨rfl, rfl, rfl, by simp [World.setCell], fun i hi hs => Below.heap_setCell _ _ _ _ (fun e => hs (by rw [e]; exact hp))⟩
theorem KeptS.blk {g : Nat} {o : Obj} (h : KeptS S a b) (hb : a.heap[g]? = some o) (hg : ¬ S g) : b.heap[g]? = some o := (h.block g (blk_lt hb) hg).trans hb
theorem KeptS.cell {p : Addr} {v : Value} (h : KeptS S a b) (hc : a.cell? p = some v) (hp : ¬ S p.block) : b.cell? p = some v :=
  (World.cell?_of_block (h.block p.block (World.block_lt_of_cell? a p hc) hp)).trans hc
theorem KeptS.own {base n size : Nat} {e : TypeId} {v : Value} {xs : List Value} (h : KeptS S a b) (ho : a.ownsRow base e size v n xs) (hv : ∀ g, v.ownBlock = some g → ¬ S g) : b.ownsRow base e size v n xs := by
  obtain ⟨h1, h2⟩ := ho
  refine ⟨h1, ?_⟩
  rcases h2 with h2 | ⟨g, cap, cur, rfl, h3, h4, h5⟩
  · exact .inl h2
  · exact .inr ⟨g, cap, cur, rfl, h3, h.blk h4 (hv g rfl), h5⟩
theorem KeptS.put (h : KeptS S a b) {p : Addr} (hp : p.block < a.heap.size → S p.block) (u : Value) : KeptS S a (b.setCell p u) :=
  ⟨h.os, h.tape, h.output, by simp only [World.setCell]; simpa using h.size, fun i hi hs => by
    rw [Below.heap_setCell _ _ _ _ (fun e => hs (by have := hp (by rw [← e]; exact hi); rw [← e] at this; exact this))]
    exact h.block i hi hs⟩
theorem KeptS.drewN (h : KeptS S a b) (n : Nat) : KeptS S a (b.drewN n) := ⟨h.os, h.tape, h.output, h.size, h.block⟩
theorem KeptS.drew (h : KeptS S a b) : KeptS S a b.drew := ⟨h.os, h.tape, h.output, h.size, h.block⟩
theorem KeptS.alloc (h : KeptS S a b) (o : Obj) : KeptS S a (b.alloc o) := h.trans (T := S) (KeptS.of_below ((Below.refl _ _).alloc (Nat.le_refl _) _)) (fun _ _ h => h)
end

/-- A player as blocks. -/
def PlayerB (w : World) (g mb : Nat) (nets : Int) (A : Option Addr) (n c : Nat) : Prop := w.heap[g]? = some (.cells (playerCells nets A n c mb) 125 (0, 0)) ∧ w.heap[mb]? = some (.map gE6 6)
theorem PlayerB.player {w : World} {g mb : Nat} {nets : Int} {A : Option Addr} {n c : Nat} (h : PlayerB w g mb nets A n c) : Player w g mb nets A n c := by
  obtain ⟨hb, hm⟩ := h
  have hs : tabA.size = 81 := by unfold tabA; rw [List.size_toArray, List.length_map, List.length_range]
  have p0 : (playerCells nets A n c mb)[0]? = some (.int .i64 nets) := by
    unfold playerCells
    rw [Array.getElem?_append_left (by rw [Array.size_append, hs]; show 0 < 2 + 81; omega), Array.getElem?_append_left (by show 0 < 2; omega)]
    rfl
  have p1 : (playerCells nets A n c mb)[1]? = some (.slice A n c) := by
    unfold playerCells
    rw [Array.getElem?_append_left (by rw [Array.size_append, hs]; show 1 < 2 + 81; omega), Array.getElem?_append_left (by show 1 < 2; omega)]
    rfl
  refine ⟨(blk_cell hb 0).trans p0, (blk_cell hb 1).trans p1, ?_, (blk_cell hb 83).trans ?_, hm⟩
  · intro a b ha hb'
    rw [blk_cell hb]
    have := player_tab ⟨a.toNat, by omega⟩ ⟨b.toNat, by omega⟩
    have e1 : ((a.toNat : Nat) : Int) = a := Int.toNat_of_nonneg ha.1
    have e2 : ((b.toNat : Nat) : Int) = b := Int.toNat_of_nonneg hb'.1
    simp only [e1, e2] at this
    unfold playerCells
    rw [Array.getElem?_append_left (by rw [Array.size_append, hs]; show _ < 2 + 81; omega), Array.getElem?_append_right (by show 2 ≤ _; omega)]
    show tabA[2 + a.toNat * 9 + b.toNat - 2]? = _
    rw [show 2 + a.toNat * 9 + b.toNat - 2 = a.toNat * 9 + b.toNat by omega]
    exact this
  · unfold playerCells
    rw [Array.getElem?_append_right (by rw [Array.size_append, hs]; show 2 + 81 ≤ 83; omega), Array.size_append, hs]
    rfl
theorem PlayerB.kept {S : Nat → Prop} {w w' : World} {g mb : Nat} {nets : Int} {A : Option Addr} {n c : Nat} (h : PlayerB w g mb nets A n c) (k : KeptS S w w') (h1 : ¬ S g) (h2 : ¬ S mb) : PlayerB w' g mb nets A n c := ⟨k.blk h.1 h1, k.blk h.2 h2⟩

/-! ### What was sent, edges, pulses. -/
def flatS (q : List SentL) : List Value := q.flatMap fun e => [.int .i64 e.t, .int .i64 e.gate, .int .i64 e.v]
def flatE (q : List EdgeL) : List Value := q.flatMap fun e => [.int .i64 e.t, .int .i64 e.net, .int .i64 e.v]
theorem flatS_append (a b : List SentL) : flatS (a ++ b) = flatS a ++ flatS b := by simp [flatS]
theorem flatE_append (a b : List EdgeL) : flatE (a ++ b) = flatE a ++ flatE b := by simp [flatE]
def zSent : SentL := ⟨0, 0, 0⟩
def zEdge : EdgeL := ⟨0, 0, 0⟩
def zPulse : PulseL := ⟨0, 0, 0⟩
theorem flatS_at : ∀ {q : List SentL} (i : Nat), i < q.length → (flatS q)[i * 3]? = some (.int .i64 (q.getD i zSent).t) ∧ (flatS q)[i * 3 + 1]? = some (.int .i64 (q.getD i zSent).gate) ∧ (flatS q)[i * 3 + 2]? = some (.int .i64 (q.getD i zSent).v)
  | [], i, hi => by simp at hi
  | e :: q, 0, _ => ⟨rfl, rfl, rfl⟩
  | e :: q, i + 1, hi => by
    have h := flatS_at (q := q) i (by simpa using hi)
    have e1 : flatS (e :: q) = [.int .i64 e.t, .int .i64 e.gate, .int .i64 e.v] ++ flatS q := rfl
    rw [e1, show (i + 1) * 3 = i * 3 + 3 by omega, show i * 3 + 3 + 1 = (i * 3 + 1) + 3 by omega, show i * 3 + 3 + 2 = (i * 3 + 2) + 3 by omega]
    simpa using h
theorem flatE_at : ∀ {q : List EdgeL} (i : Nat), i < q.length → (flatE q)[i * 3]? = some (.int .i64 (q.getD i zEdge).t) ∧ (flatE q)[i * 3 + 1]? = some (.int .i64 (q.getD i zEdge).net) ∧ (flatE q)[i * 3 + 2]? = some (.int .i64 (q.getD i zEdge).v)
  | [], i, hi => by simp at hi
  | e :: q, 0, _ => ⟨rfl, rfl, rfl⟩
  | e :: q, i + 1, hi => by
    have h := flatE_at (q := q) i (by simpa using hi)
    have e1 : flatE (e :: q) = [.int .i64 e.t, .int .i64 e.net, .int .i64 e.v] ++ flatE q := rfl
    rw [e1, show (i + 1) * 3 = i * 3 + 3 by omega, show i * 3 + 3 + 1 = (i * 3 + 1) + 3 by omega, show i * 3 + 3 + 2 = (i * 3 + 2) + 3 by omega]
    simpa using h
theorem info132 : (Try.prog.info? 132).map (fun i => (i.zero, i.size, i.bytes)) = some (some (.agg #[.int .i64 0, .int .i64 0, .int .i64 0]), 3, 24) := by kernel_rfl
theorem info137 : (Try.prog.info? 137).map (fun i => (i.zero, i.size, i.bytes)) = some (some (.agg #[.int .i64 0, .int .i64 0, .int .i64 0]), 3, 24) := by kernel_rfl
theorem info58 : (Try.prog.info? 58).map (fun i => (i.zero, i.size, i.bytes)) = some (some (.agg #[.int .i64 0, .int .i64 0, .int .i64 0]), 3, 24) := by kernel_rfl
theorem info4 : (Try.prog.info? 4).map (fun i => (i.zero, i.size, i.bytes)) = some (some (.bool false), 1, 1) := by kernel_rfl
def RdPulse (w : World) (ad : Addr) (d : PulseL) : Prop := w.cell? ad = some (.int .i64 d.t) ∧ w.cell? ⟨ad.block, ad.off + 1, none⟩ = some (.int .i64 d.net) ∧ w.cell? ⟨ad.block, ad.off + 2, none⟩ = some (.int .i64 d.v)
def RdPulses (w : World) (A : Option Addr) (n : Nat) (ds : List PulseL) : Prop :=
  ds.length = n ∧ n ≤ 9223372036854775807 ∧ (0 < n → ∃ ad, A = some ad ∧ ∀ i, i < n → RdPulse w (ad.add (i * 3)) (ds.getD i zPulse))
theorem RdPulse.below {w w1 : World} {ad : Addr} {d : PulseL} (h : RdPulse w ad d) (hb : Below w.heap.size w w1) : RdPulse w1 ad d := ⟨pw_cell_below hb h.1, pw_cell_below hb h.2.1, pw_cell_below hb h.2.2⟩
theorem RdPulses.below {w w1 : World} {A : Option Addr} {n : Nat} {ds : List PulseL} (h : RdPulses w A n ds) (hb : Below w.heap.size w w1) : RdPulses w1 A n ds :=
  ⟨h.1, h.2.1, fun hn => by
    obtain ⟨ad, e, hc⟩ := h.2.2 hn
    exact ⟨ad, e, fun i hi => (hc i hi).below hb⟩⟩
theorem RdPulses.at_ {w : World} {A : Option Addr} {n : Nat} {ds : List PulseL} (h : RdPulses w A n ds) (i : Nat) (hi : i < n) : ∃ ad, A = some ad ∧ RdPulse w (ad.add (i * 3)) (ds.getD i zPulse) := by
  obtain ⟨ad, e, hc⟩ := h.2.2 (by omega)
  exact ⟨ad, e, hc i hi⟩
abbrev bools (bs : List Bool) : List Value := encs Value.bool bs
theorem make105 (m : Nat) (hn : m * 1 ≤ 281474976710656) (W : World) :
    (Instr.makeSlice 105 (.int .i64 (m : Int)) (.int .i64 (m : Int))).run Try.prog W = .ok (.slice (some ⟨W.heap.size, 0, none⟩) m m) (W.alloc (.cells (madeCells #[.bool false] m) 4)) := by
  exact run_make_row' 105 4 (.bool false) 1 Try.underlying105 info4 rfl .i64 .i64 m (by rw [Nat.mul_comm]; exact hn) (by omega) W
theorem own_made4 (W : World) (base m : Nat) (hb : base ≤ W.heap.size) (hm : m ≤ 9223372036854775807) :
    (W.alloc (.cells (madeCells #[.bool false] m) 4)).ownsRow base 4 1 (.slice (some ⟨W.heap.size, 0, none⟩) m m) m (bools (List.replicate m false)) := by
  have h := World.ownsRow_lit (base := base) (e := 4) (size := 1) W (madeCells #[.bool false] m) m hb (by simpa [maxLen] using hm) (by simp [size_madeCells])
  have hl : (madeCells #[Value.bool false] m).toList = bools (List.replicate m false) := by
    apply List.ext_getElem
    · simp [bools, encs, madeCells]
    · intro i h1 h2
      simp [bools, encs, madeCells, Nat.mod_one]
  rwa [hl] at h
/-- Lists that are being filled. -/
def fillB (xs : List Bool) (n : Nat) : List Bool := xs.take n ++ List.replicate (xs.length - n) false
theorem fillB_zero (xs : List Bool) : fillB xs 0 = List.replicate xs.length false := by simp [fillB]
theorem fillB_all (xs : List Bool) : fillB xs xs.length = xs := by simp [fillB]
theorem fillB_set (xs : List Bool) (n : Nat) (h : n < xs.length) : (fillB xs n).set n (xs.getD n false) = fillB xs (n + 1) := by
  unfold fillB
  apply List.ext_getElem?
  intro i
  have hl : (xs.take n).length = n := by simp; omega
  by_cases h1 : i < n
  · rw [List.getElem?_set_ne (by omega), List.getElem?_append_left (by omega), List.getElem?_append_left (by simp; omega)]
    simp [List.getElem?_take, h1, show i < n + 1 by omega]
  · by_cases h2 : i = n
    · subst h2
      rw [List.getElem?_set_self (by simp; omega), List.getElem?_append_left (by simp; omega)]
      simp [List.getElem?_take, List.getD_eq_getElem?_getD, List.getElem?_eq_getElem h]
    · rw [List.getElem?_set_ne (by omega), List.getElem?_append_right (by omega), List.getElem?_append_right (by simp; omega)]
      simp [List.getElem?_replicate]
      split <;> split <;> simp_all <;> omega
/-- A list, written over from the left. -/
def overL (xs ys : List Int) (n : Nat) : List Int := xs.take n ++ ys.drop n
theorem overL_zero (xs ys : List Int) : overL xs ys 0 = ys := by simp [overL]
theorem overL_all {xs ys : List Int} (h : ys.length = xs.length) : overL xs ys xs.length = xs := by
  unfold overL
  rw [List.take_length, ← h, List.drop_length, List.append_nil]
theorem overL_set {xs ys : List Int} {n : Nat} (hl : ys.length = xs.length) (h : n < xs.length) : (overL xs ys n).set n (xs.getD n 0) = overL xs ys (n + 1) := by
  unfold overL
  apply List.ext_getElem?
  intro i
  have hl1 : (xs.take n).length = n := by simp; omega
  have hl2 : (xs.take (n + 1)).length = n + 1 := by simp; omega
  by_cases h1 : i < n
  · rw [List.getElem?_set_ne (by omega), List.getElem?_append_left (by omega), List.getElem?_append_left (by omega)]
    simp [List.getElem?_take, h1, show i < n + 1 by omega]
  · by_cases h2 : i = n
    · subst h2
      rw [List.getElem?_set_self (by simp; omega), List.getElem?_append_left (by omega)]
      simp [List.getElem?_take, List.getD_eq_getElem?_getD, List.getElem?_eq_getElem h]
    · rw [List.getElem?_set_ne (by omega), List.getElem?_append_right (by omega), List.getElem?_append_right (by omega), hl1, hl2, List.getElem?_drop, List.getElem?_drop]
      congr 1
      omega
theorem overL_at {xs ys : List Int} {n : Nat} (h : n ≤ xs.length) {i : Nat} (hi : n ≤ i) : (overL xs ys n).getD i 0 = ys.getD i 0 := by
  have hl1 : (xs.take n).length = n := by simp; omega
  unfold overL
  rw [List.getD_eq_getElem?_getD, List.getElem?_append_right (by omega), hl1, List.getElem?_drop, show n + (i - n) = i by omega, List.getD_eq_getElem?_getD]
/-- A drawn region is entered at a world with a name. -/
theorem wp_region_named {P : Program} {ops : Array Oper} {Q : Exit → Act → World → Prop} (f : Nat) (S F : World → Prop) {id : Nat} {a : Act} {w : World} (hm : P.follows .mixedOrders = true) (hF : F w.drew)
    (h : ∀ wc, F wc → wpAnyF P .any ops Q S f ops.size (Array.replicate ops.size false) a wc) : (Code.region id ops true).wp P Q a w :=
  wp_region_tail f S hm (h w.drew hF)
end Go.Proofs.Ytobdhdehmkmjcaa
