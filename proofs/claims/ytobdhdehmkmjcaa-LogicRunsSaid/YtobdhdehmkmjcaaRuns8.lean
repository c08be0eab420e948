/- Words and walks for the row RowLogicRuns, put together: M5, M6. -/
import Derived.Test.YtobdhdehmkmjcaaRunsM4
namespace Go.Proofs.Ytobdhdehmkmjcaa
set_option linter.unusedVariables false
set_option linter.unusedSimpArgs false
open Go.RowKit Go.Proofs.YtobdhdehmkmjcaaW.PrintWords Go.Proofs.YtobdhdehmkmjcaaW.PrintLast

set_option maxHeartbeats 400000 in
theorem eq95_any (A B : Option Addr) (n c m d : Nat) (xs ys : List Int) (P gr : Nat) (w : World) (hx : ReadsInt w .i64 A n xs) (hy : ReadsInt w .i64 B m ys) (hp : w.cell? ⟨P, 0, none⟩ = some (.pointer (some ⟨gr, 0, none⟩)) ∧ w.cell? ⟨gr, 5, none⟩ = some (.slice B m d)) :
    Calls Try.prog 95 #[.slice A n c, .pointer (some ⟨P, 0, none⟩)] w fun e w' => e = .returned (.bool (sameB xs ys)) ∧ ∃ q, w' = w.drewN q := by
  obtain ⟨hp1, hp2⟩ := hp
  have HX := Lib.hid hx; clear hx
  have HY := Lib.hid hy; clear hy
  go_enter Try.func95, Try.ntmps95
  go_wp2_with fail
  refine (equal_any _ _ _ _ _ _ _ _ _ HX.out HY.out).mono ?_
  rintro e w' ⟨rfl, q, rfl⟩
  go_wp2_with fail
  go_ret
  exact ⟨rfl, q, rfl⟩
theorem eq95_is (A B : Option Addr) (n c m d : Nat) (xs ys : List Int) (P gr : Nat) (b : Bool) (w : World) (hx : ReadsInt w .i64 A n xs) (hy : ReadsInt w .i64 B m ys) (hp : w.cell? ⟨P, 0, none⟩ = some (.pointer (some ⟨gr, 0, none⟩)) ∧ w.cell? ⟨gr, 5, none⟩ = some (.slice B m d)) (hb : Hid (sameB xs ys = b)) :
    Calls Try.prog 95 #[.slice A n c, .pointer (some ⟨P, 0, none⟩)] w fun e w' => e = .returned (.bool b) ∧ ∃ q, w' = w.drewN q := by
  have := eq95_any A B n c m d xs ys P gr w hx hy hp
  rwa [hb.out] at this
set_option maxHeartbeats 1000000 in
theorem index102r_any (A : Option Addr) (n c : Nat) (L : List (List Int)) (B : Option Addr) (m d : Nat) (ys : List Int) (P gr : Nat) (w : World) (hL : ReadsRows w A n L) (hy : ReadsInt w .i64 B m ys) (hp : w.cell? ⟨P, 0, none⟩ = some (.pointer (some ⟨gr, 0, none⟩)) ∧ w.cell? ⟨gr, 5, none⟩ = some (.slice B m d)) :
    Calls Try.prog 102 #[.slice A n c, .func (.func 95) #[] #[.pointer (some ⟨P, 0, none⟩)]] w fun e w' => (∃ r : Int, e = .returned (.int .i64 r) ∧ (decide (0 ≤ r)) = memB L ys) ∧ ∃ q, w' = w.drewN q := by
  have hm := hL.2.1
  have HN := Lib.hid hL.1
  have HL := Lib.hid hL; clear hL
  have HY := Lib.hid hy; clear hy
  have HP := Lib.hid hp; clear hp
  go_enter Try.func102, Try.ntmps102
  go_wp2
  go_loopw [8] (fun i wr => ∃ k : Nat, k ≤ n ∧ i = .int .i64 k ∧ Hid ((L.take k).any (fun x => sameB x ys) = false) ∧ ∃ q, wr = w.drewN q) (fun i _ => n - (intOf i).toNat)
  case atStart => exact ⟨0, by omega, rfl, Lib.hid rfl, 0, rfl⟩
  case round =>
    obtain ⟨k, hk, rfl, hany, q, rfl⟩ := hrel
    by_cases hlt : k < n
    · obtain ⟨ad, rfl, hc⟩ := HL.out.2.2 (by omega)
      obtain ⟨B1, d1, h1, h2⟩ := hc k hlt
      have h1' : (w.drewN q).cell? (ad.add k) = some (.slice B1 (L.getD k []).length d1) := h1
      have H2 : Hid (ReadsInt (w.drewN q) .i64 B1 (L.getD k []).length (L.getD k [])) := Lib.hid h2
      clear h1 h2 hc
      have HA := Lib.hid (any_succ (p := fun x => sameB x ys) (by rw [HN.out]; exact hlt) hany.out)
      have HAT := fun h => any_at (p := fun x => sameB x ys) (L := L) (k := k) (by rw [HN.out]; exact hlt) h
      generalize hx : L.getD k [] = x at *
      have HX := Lib.hid hx; clear hx
      generalize hln : x.length = ln at *
      cases hb : sameB x ys
      all_goals have HB := Lib.hid hb
      · have HS : Hid ((L.take (k + 1)).any (fun x => sameB x ys) = false) := Lib.hid (HA.out.trans hb)
        clear hb HAT
        go_wp2_with (go_at_call 95; refine (eq95_is _ B _ _ m d _ _ _ gr _ _ H2.out HY.out HP.out HB).mono ?_; rintro e w' ⟨rfl, q2, rfl⟩)
        go_roundw
        case rel => exact ⟨k + 1, by omega, by go_num, HS, _, rfl⟩
        case measure => simp [intOf]; omega
      · have HT := Lib.hid (HAT hb)
        clear hb HAT
        go_wp2_with (go_at_call 95; refine (eq95_is _ B _ _ m d _ _ _ gr _ _ H2.out HY.out HP.out HB).mono ?_; rintro e w' ⟨rfl, q2, rfl⟩)
        go_ret
        exact ⟨⟨_, rfl, by unfold memB; rw [HT.out]; simp⟩, _, rfl⟩
    · go_wp2
      go_ret
      refine ⟨⟨_, rfl, ?_⟩, q, rfl⟩
      have h := hany.out
      rw [List.take_of_length_le (by rw [HN.out]; omega)] at h
      unfold memB
      rw [h]
      rfl
set_option maxHeartbeats 400000 in
theorem contains85r_any (A : Option Addr) (n c : Nat) (L : List (List Int)) (B : Option Addr) (m d : Nat) (ys : List Int) (P gr : Nat) (w : World) (hL : ReadsRows w A n L) (hy : ReadsInt w .i64 B m ys) (hp : w.cell? ⟨P, 0, none⟩ = some (.pointer (some ⟨gr, 0, none⟩)) ∧ w.cell? ⟨gr, 5, none⟩ = some (.slice B m d)) :
    Calls Try.prog 85 #[.slice A n c, .func (.func 95) #[] #[.pointer (some ⟨P, 0, none⟩)]] w fun e w' => e = .returned (.bool (memB L ys)) ∧ ∃ q, w' = w.drewN q := by
  have HL := Lib.hid hL; clear hL
  have HY := Lib.hid hy; clear hy
  have HP := Lib.hid hp; clear hp
  go_enter Try.func85, Try.ntmps85
  go_wp2_with (go_at_call 102; refine (index102r_any _ _ _ _ B m d _ _ gr _ HL.out HY.out HP.out).mono ?_; rintro e w' ⟨⟨r, rfl, hr⟩, q, rfl⟩; have HR := Lib.hid hr; clear hr)
  go_ret
  exact ⟨ret_bool HR.out, q, rfl⟩
end Go.Proofs.Ytobdhdehmkmjcaa
namespace Go.Proofs.Ytobdhdehmkmjcaa
set_option linter.unusedVariables false
set_option linter.unusedSimpArgs false
open Go.RowKit Go.Proofs.YtobdhdehmkmjcaaW.PrintWords Go.Proofs.YtobdhdehmkmjcaaW.PrintLast

theorem meetF_ne8 (a b : Int) : meetF a b ≠ 8 := by
  unfold meetF
  simp only [Bool.or_eq_true, beq_iff_eq]
  split
  · decide
  split
  · decide
  rename_i h0 h8
  have h1 : a ≠ 8 := fun e => h8 (.inl e)
  have h2 : b ≠ 8 := fun e => h8 (.inr e)
  split
  · exact h1
  split
  · decide
  split
  · split <;> decide
  split
  · decide
  split
  · exact h2
  split
  · exact h1
  · decide
theorem meetF_z {a : Int} (h : a ≠ 8) : meetF a 4 = a := by
  unfold meetF
  simp only [Bool.or_eq_true, beq_iff_eq]
  by_cases h0 : a = 0
  · simp [h0]
  by_cases h4 : a = 4
  · simp [h4]
  by_cases h1 : a = 1
  · simp [h1]
  by_cases h2 : a = 2
  · simp [h2]
  by_cases h3 : a = 3
  · simp [h3]
  simp [h0, h4, h1, h2, h3, h]
theorem accG_ne8 (gs : List GateL) (gv : List Int) (n : Int) : ∀ k, accG gs gv n k ≠ 8
  | 0 => by show (4 : Int) ≠ 8; decide
  | k + 1 => by
    unfold accG
    split
    · exact meetF_ne8 _ _
    · exact accG_ne8 gs gv n k
theorem getD_app {gv ov : List Int} {k : Nat} (h : k < gv.length) : (gv ++ ov).getD k 0 = gv.getD k 0 := by
  rw [List.getD_eq_getElem?_getD, List.getElem?_append_left h, ← List.getD_eq_getElem?_getD]
theorem getD_app2 {gv ov : List Int} {k n : Nat} (h : gv.length = k) : (gv ++ ov).getD (k + n) 0 = ov.getD n 0 := by
  subst h
  rw [List.getD_eq_getElem?_getD, List.getElem?_append_right (by omega), show gv.length + n - gv.length = n by omega, ← List.getD_eq_getElem?_getD]
theorem accG_app {gs : List GateL} {gv ov : List Int} {n : Int} : ∀ k, k ≤ gv.length → accG gs (gv ++ ov) n k = accG gs gv n k
  | 0, _ => rfl
  | k + 1, h => by
    unfold accG
    rw [accG_app k (by omega), getD_app (by omega)]
theorem getD_def {l : List Int} {n : Nat} (a b : Int) (h : n < l.length) : l.getD n a = l.getD n b := by
  rw [List.getD_eq_getElem?_getD, List.getElem?_eq_getElem h, List.getD_eq_getElem?_getD, List.getElem?_eq_getElem h]; rfl
theorem nets_is {nn gn : Nat} {gs : List GateL} {gv ov : List Int} {outs : List Bool} (hg : gs.length = gn) (hl : gv.length = gn) (ho : ov.length = nn) (hq : ∀ n, n < nn → outs.getD n false = false → ov.getD n 0 = 4) :
    ∀ n, n < nn → (netsOf nn gs gv ov).getD n 0 = if outs.getD n false = true then meetF (accG gs (gv ++ ov) n gn) ((gv ++ ov).getD (gn + n) 0) else accG gs (gv ++ ov) n gn := by
  intro n hn
  rw [netsOf_at _ _ _ hn, accG_app gn (by omega), getD_app2 hl]
  unfold netAt
  rw [hg, getD_def 4 0 (by omega)]
  split
  · rfl
  · rename_i hb
    rw [hq n hn (by simpa using hb), meetF_z (accG_ne8 _ _ _ _)]
theorem set_app {gv ov : List Int} {k : Nat} (x : Int) (h : k < gv.length) : (gv ++ ov).set k x = gv.set k x ++ ov := by
  rw [List.set_append_left _ _ h]
theorem askTo_app {gs : List GateL} {t : Int} {all : Bool} {ch : List Bool} {nets gv ov : List Int} {q : List SentL} {m : Bool} : ∀ k, k ≤ gv.length →
    askTo gs t all ch nets ⟨gv ++ ov, q, m⟩ k = ⟨(askTo gs t all ch nets ⟨gv, q, m⟩ k).gv ++ ov, (askTo gs t all ch nets ⟨gv, q, m⟩ k).q, (askTo gs t all ch nets ⟨gv, q, m⟩ k).moved⟩
  | 0, _ => rfl
  | k + 1, h => by
    have hlen := askTo_len (gs := gs) (t := t) (all := all) (ch := ch) (nets := nets) (s := ⟨gv, q, m⟩) k
    rw [askTo_succ, askTo_succ, askTo_app k (by omega)]
    generalize askTo gs t all ch nets ⟨gv, q, m⟩ k = S at *
    have hl : k < S.gv.length := by rw [hlen]; exact h
    unfold askOne
    split
    · split
      · rfl
      · rw [set_app _ hl]
        show AskS.mk _ _ _ = _
        rw [getD_app hl]
    · rfl
def QOk (gn : Nat) (q : List SentL) : Prop := ∀ e ∈ q, 0 ≤ e.gate ∧ e.gate < (gn : Int) ∧ isVal e.v = true
structure GoodS (nn gn : Nat) (s : RS) : Prop where
  lg : s.gv.length = gn
  vg : s.gv.all isVal = true
  ln : s.nets.length = nn
  vn : s.nets.all isVal = true
  qo : QOk gn s.q
theorem all_set {l : List Int} (h : l.all isVal = true) (k : Nat) {x : Int} (hx : isVal x = true) : (l.set k x).all isVal = true := by
  rw [List.all_eq_true] at *
  intro y hy
  rcases List.mem_or_eq_of_mem_set hy with h1 | h1
  · exact h y h1
  · rw [h1]; exact hx
theorem netsOf_val {nn gn : Nat} {gs : List GateL} {gv ov : List Int} (hg : gs.length = gn) (hl : gv.length = gn) (hv : gv.all isVal = true) (ho : ov.length = nn) (hw : ov.all isVal = true) : (netsOf nn gs gv ov).all isVal = true := by
  rw [List.all_eq_true]
  intro x hx
  unfold netsOf at hx
  rw [List.mem_map] at hx
  obtain ⟨n, hn, rfl⟩ := hx
  have hn' := List.mem_range.1 hn
  unfold netAt
  refine meetF_val (accG_val _ hv _ (by omega)) ?_
  rw [getD_def 4 0 (by omega)]
  exact all_getD hw (by omega)
theorem askTo_val {nn : Nat} {gs : List GateL} {t : Int} {all : Bool} {ch : List Bool} {nets : List Int} {s : AskS} (hg : gs.all (gateOk nn) = true) (hn : nets.length = nn) (hv : nets.all isVal = true) (hs : s.gv.all isVal = true) (hq : QOk gs.length s.q) :
    ∀ k, k ≤ gs.length → (askTo gs t all ch nets s k).gv.all isVal = true ∧ QOk gs.length (askTo gs t all ch nets s k).q
  | 0, _ => ⟨hs, hq⟩
  | k + 1, h => by
    obtain ⟨h1, h2⟩ := askTo_val hg hn hv hs hq k (by omega)
    have ha := ansF_val (now := nets) (gate_ok hg (show k < gs.length by omega)) (by rw [hn]) hv
    rw [askTo_succ]
    unfold askOne
    split
    · split
      · refine ⟨h1, fun e he => ?_⟩
        rcases List.mem_append.1 he with h3 | h3
        · exact h2 e h3
        · have : e = ⟨t + (gs.getD k zGate).delay, k, ansF (gs.getD k zGate) nets⟩ := by simpa using h3
          subst this
          exact ⟨by simp, by simp; omega, ha⟩
      · exact ⟨all_set h1 _ ha, h2⟩
    · exact ⟨h1, h2⟩
theorem GoodS.rnd {nn gn : Nat} {gs : List GateL} {t : Int} {all : Bool} {ov : List Int} {s : RS} (h : GoodS nn gn s) (hg : gs.all (gateOk nn) = true) (hgl : gs.length = gn) (ho : ov.length = nn) (hw : ov.all isVal = true) : GoodS nn gn (rndS nn gs t ov all s) := by
  have hn := netsOf_val (nn := nn) hgl h.lg h.vg ho hw
  obtain ⟨h1, h2⟩ := askTo_val (t := t) (all := all) (ch := changedOf nn (netsOf nn gs s.gv ov) s.nets) (s := ⟨s.gv, s.q, false⟩) hg (netsOf_len nn gs s.gv ov) hn h.vg (by rw [hgl]; exact h.qo) _ (Nat.le_refl _)
  exact ⟨rnd_len.trans h.lg, h1, netsOf_len .., hn, by rw [← hgl]; exact h2⟩
theorem rnd_qlen {nn : Nat} {gs : List GateL} {t : Int} {all : Bool} {ov : List Int} {s : RS} : (rndS nn gs t ov all s).q.length ≤ s.q.length + gs.length := askTo_qlen _
theorem SeenOk.kept {S : Nat → Prop} {W W' : World} {b : Nat} {v : Value} {L : List (List Int)} (h : SeenOk W b v L) (k : KeptS S W W') (hS : ∀ i, S i → i < b ∨ ∃ cs, W.heap[i]? = some (.cells cs 132 (0, 0))) : SeenOk W' b v L := by
  obtain ⟨h0, cs, h1, h2⟩ := h
  have key : ∀ {e : TypeId} {sz n : Nat} {u : Value} {xs : List Value}, e ≠ 132 → W.ownsRow b e sz u n xs → W'.ownsRow b e sz u n xs := by
    intro e sz n u xs he ho
    refine k.own ho (fun g hg hs => ?_)
    rcases hS g hs with h3 | ⟨cs', h3⟩
    · have := own_base ho g hg; omega
    · exact own_ne ho h3 he hg.symm
  exact ⟨h0, cs, key (by decide) h1, fun i hi => key (by decide) (h2 i hi)⟩
end Go.Proofs.Ytobdhdehmkmjcaa
