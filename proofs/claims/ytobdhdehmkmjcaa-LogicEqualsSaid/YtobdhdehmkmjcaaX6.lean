/- Settling walks. -/
import Derived.Test.YtobdhdehmkmjcaaY0
namespace Go.Proofs.Ytobdhdehmkmjcaa
set_option linter.unusedVariables false
set_option linter.unusedSimpArgs false
open Go.RowKit Go.Proofs.YtobdhdehmkmjcaaW.PrintWords Go.Proofs.YtobdhdehmkmjcaaW.PrintLast

theorem addAt_len (L : List (List Int)) (i x : Int) (o : Nat) : ((addAt L i x).getD o []).length ≤ (L.getD o []).length + 1 := by
  unfold addAt
  by_cases e : i.toNat = o
  · subst e
    by_cases h : i.toNat < L.length
    · rw [getD_set_eq h]; simp
    · rw [List.set_eq_of_length_le (by omega)]; omega
  · rw [getD_set_ne e]; omega
theorem gatesTo_len (gs : List GateL) (now : List Int) (L : List (List Int)) (o : Nat) : ((gatesTo gs now L).getD o []).length ≤ (L.getD o []).length + gs.length := by
  unfold gatesTo
  induction gs generalizing L with
  | nil => simp
  | cons g gs ih =>
    have h1 := ih (addAt L g.out (ansF g now))
    have h2 := addAt_len L g.out (ansF g now) o
    simp only [List.foldl_cons, List.length_cons]
    omega
theorem drivesTo_len (ds : List DriveL) (L : List (List Int)) (o : Nat) : ((drivesTo ds L).getD o []).length ≤ (L.getD o []).length + ds.length := by
  unfold drivesTo
  induction ds generalizing L with
  | nil => simp
  | cons g gs ih =>
    have h1 := ih (addAt L g.net g.v)
    have h2 := addAt_len L g.net g.v o
    simp only [List.foldl_cons, List.length_cons]
    omega
theorem rep_len (n o : Nat) : ((List.replicate n ([] : List Int)).getD o []).length = 0 := by
  rw [List.getD_eq_getElem?_getD, List.getElem?_replicate]
  split <;> rfl
theorem all_at {nets : Int} {gs : List GateL} (h : gs.all (gateOk nets) = true) {k : Nat} (hk : k < gs.length) : gateOk nets (gs.getD k zGate) = true := by
  rw [List.getD_eq_getElem?_getD, List.getElem?_eq_getElem hk]
  exact List.all_eq_true.1 h _ (List.getElem_mem _)
theorem gateOk_out {nets : Int} {g : GateL} (h : gateOk nets g = true) : 0 ≤ g.out ∧ g.out < nets := by
  unfold gateOk at h
  simp only [Bool.and_eq_true, decide_eq_true_eq] at h
  exact ⟨h.1.1.1.1.2, h.1.1.1.2⟩
theorem ne_of_lt_row {b k : Nat} {v : Value} {W : World} {e : TypeId} {size n : Nat} {xs : List Value} (h : W.ownsRow b e size v n xs) (hk : k < b ∨ W.heap.size ≤ k) : some k ≠ v.ownBlock := fun e' => by
  have h1 := own_base h k e'.symm
  have h2 := own_lt h k e'.symm
  omega

theorem drive_at {nets : Int} {ds : List DriveL} (h : ds.all (driveOk nets) = true) {k : Nat} (hk : k < ds.length) : driveOk nets (ds.getD k zDrive) = true := by
  rw [List.getD_eq_getElem?_getD, List.getElem?_eq_getElem hk]
  exact List.all_eq_true.1 h _ (List.getElem_mem _)
theorem driveOk_net {nets : Int} {d : DriveL} (h : driveOk nets d = true) : 0 ≤ d.net ∧ d.net < nets := by
  unfold driveOk at h
  simp only [Bool.and_eq_true, decide_eq_true_eq] at h
  exact h.1

/-- The next list while it is being filled. -/
def fillL (xs : List Int) (n : Nat) : List Int := xs.take n ++ List.replicate (xs.length - n) 0
theorem fillL_zero (xs : List Int) : fillL xs 0 = List.replicate xs.length 0 := by simp [fillL]
theorem fillL_all (xs : List Int) : fillL xs xs.length = xs := by simp [fillL]
theorem fillL_length (xs : List Int) (n : Nat) (h : n ≤ xs.length) : (fillL xs n).length = xs.length := by simp [fillL]; omega
theorem fillL_set (xs : List Int) (n : Nat) (h : n < xs.length) : (fillL xs n).set n (xs.getD n 0) = fillL xs (n + 1) := by
  unfold fillL
  apply List.ext_getElem?
  intro i
  have hl : (xs.take n).length = n := by simp; omega
  by_cases h1 : i < n
  · rw [List.getElem?_set_ne (by omega), List.getElem?_append_left (by omega), List.getElem?_append_left (by simp; omega)]
    simp [List.getElem?_take, h1, show i < n + 1 by omega]
  · by_cases h2 : i = n
    · subst h2
      rw [List.getElem?_set_self (by simp; omega), List.getElem?_append_left (by simp; omega)]
      simp [List.getElem?_take, List.getD_eq_getElem?_getD, List.getElem?_eq_getElem h]
    · rw [List.getElem?_set_ne (by omega), List.getElem?_append_right (by omega), List.getElem?_append_right (by simp; omega)]
      simp [List.getElem?_replicate]
      split <;> split <;> simp_all <;> omega

theorem own_mono {w : World} {base base' : Nat} {e : TypeId} {size n : Nat} {v : Value} {xs : List Value} (h : w.ownsRow base e size v n xs) (hb : base' ≤ base) : w.ownsRow base' e size v n xs := by
  obtain ⟨h1, h2⟩ := h
  refine ⟨h1, ?_⟩
  rcases h2 with h2 | ⟨g, cap, cur, e1, e2, r⟩
  · exact .inl h2
  · exact .inr ⟨g, cap, cur, e1, Nat.le_trans hb e2, r⟩
def settleRes (r : Option (List Int × Nat)) (w : World) (e : Ending) : Prop :=
  match r with
  | some (xs, k) => ∃ A c, e = .returned (.tuple #[.slice A xs.length c, .int .i64 k, .int .i64 0]) ∧ ReadsInt w .i64 A xs.length xs
  | none => e = .returned (.tuple #[.slice none 0 0, .int .i64 0, .int .i64 10])

set_option maxHeartbeats 2000000 in
set_option maxRecDepth 100000 in
theorem settle53_any (g mb nn : Nat) (GA : Option Addr) (gn gc : Nat) (gs : List GateL) (DA : Option Addr) (dn dc : Nat) (ds : List DriveL) (A : Option Addr) (c : Nat) (start : List Int) (w : World)
    (hp : Player w g mb (nn : Int) GA gn gc) (hg : RdGates w GA gn gs) (hd : RdDrives w DA dn ds) (hs : ReadsInt w .i64 A nn start) (hv : start.all isVal = true) (hgo : gs.all (gateOk nn) = true) (hdo : ds.all (driveOk nn) = true) (h1 : 1 ≤ nn) (h40 : nn ≤ 40) (hg60 : gn ≤ 60) (hdn : dn ≤ 140737488355328 / 8 - 100) :
    Calls Try.prog 53 #[.pointer (some ⟨g, 0, none⟩), .slice DA dn dc, .slice A nn c] w fun e w' => settleRes (settleF (nextF nn gs ds) [start] start 101) w' e ∧ Below w.heap.size w w' := by
  obtain ⟨i0, hi0, hz0, hz1, hz2⟩ := info_parts info3
  have hl := hs.1
  have HP := Lib.hid hp; clear hp
  have HG := Lib.hid hg; clear hg
  have HD := Lib.hid hd; clear hd
  have HS := Lib.hid hs; clear hs
  have HV := Lib.hid hv; clear hv
  have HGO := Lib.hid hgo; clear hgo
  have HDO := Lib.hid hdo; clear hdo
  have HL := Lib.hid hl; clear hl
  have HDN := Lib.hid hdn; clear hdn
  have HGN := Lib.hid hg60; clear hg60
  go_enter Try.func53, Try.ntmps53
  go_wp2_with fail
  refine (clone_any _ _ _ _ _ HS.out h1 (by omega)).mono ?_
  rintro e w1 ⟨v', rfl, hown, hb1⟩
  have HOWN := Lib.hid hown; clear hown
  have HB1 := Lib.hid hb1; clear hb1
  have hown' : w1.ownsRow w.heap.size 3 1 v' start.length (nums .i64 start) := by rw [HL.out]; exact HOWN.out
  have HSE := Lib.hid (seen_new w1 w.heap.size v' start HB1.out.size hown'); clear hown'
  obtain ⟨A1, c1, rfl⟩ := own_slice HOWN.out
  have HB2 := Lib.hid (HB1.out.alloc HB1.out.size (.cells #[.slice A1 nn c1] 22))
  have HN1 := Lib.hid (HOWN.out.alloc (.cells #[.slice A1 nn c1] 22))
  go_wp2_with fail
  go_loopw [9, 10, 11] (fun n s r wr => ∃ (k : Nat) (now : List Int) (S : List (List Int)) (A2 : Option Addr) (c2 : Nat), k ≤ 100 ∧ r = .int .i64 k ∧ n = .slice A2 nn c2 ∧ Hid (wr.ownsRow w.heap.size 3 1 n nn (nums .i64 now)) ∧ Hid (SeenOk wr w.heap.size s S) ∧ Hid (S.length = k + 1) ∧ Hid (now.length = nn) ∧ Hid (now.all isVal = true) ∧ Hid (Below w.heap.size w wr) ∧ Hid (settleF (nextF nn gs ds) S now (101 - k) = settleF (nextF nn gs ds) [start] start 101)) (fun _ _ r _ => 101 - (intOf r).toNat)
  case atStart => exact ⟨0, start, [start], A1, c1, by omega, rfl, rfl, HN1, HSE, Lib.hid rfl, HL, HV, HB2, Lib.hid rfl⟩
  case round =>
    obtain ⟨k, now, S, A2, c2, hk, rfl, rfl, hN, hSE, hSL, hNL, hNV, hB, hF⟩ := hrel
    have hp2 := HP.out.below hB.out
    have p0 := hp2.c0
    have hmk := make94 nn (by omega) wr
    have hrows := rows_made wr nn
    have hwm : Below wr.heap.size wr (wr.alloc (.cells (madeCells #[uV] nn) 22)) := (Below.refl _ _).alloc (Nat.le_refl _) _
    have p1 := (hp2.below hwm).c1
    have HRO := Lib.hid hrows; clear hrows
    have HWM := Lib.hid hwm; clear hwm
    have hgn : gn ≤ 9223372036854775807 := by have := HGN.out; omega
    clear hp2
    obtain ⟨wo, rfl⟩ : ∃ wo : World, wo = wr := ⟨_, rfl⟩
    go_wp2_with fail
    go_loopw [37] (fun i wx => ∃ j : Nat, j ≤ gn ∧ i = .int .i64 j ∧ Hid (Rows wx wo.heap.size (wo.heap.size + 1) (gatesTo (gs.take j) now (List.replicate nn []))) ∧ Hid (Below wo.heap.size wo wx)) (fun i _ => gn - (intOf i).toNat)
    case atStart => exact ⟨0, by omega, rfl, HRO, HWM⟩
    case round =>
      obtain ⟨j, hj, rfl, hRO, hBx⟩ := hrel
      obtain ⟨wx, rfl⟩ : ∃ wx : World, wx = wr := ⟨_, rfl⟩
      clear HRO HWM hmk
      by_cases hlt : j < gn
      · have hbw := hB.out.trans (hBx.out.mono hB.out.size)
        have HBW := Lib.hid hbw; clear hbw
        -- [[
        obtain ⟨ad, rfl, hgj⟩ := (HG.out.below HBW.out).at_ j hlt
        have hok := all_at HGO.out (k := j) (by rw [HG.out.1]; exact hlt)
        have hsucc := gatesTo_succ (gs := gs) (now := now) (L := List.replicate nn []) (k := j) (by rw [HG.out.1]; exact hlt)
        have hlen := gatesTo_len (gs.take j) now (List.replicate nn [])
        have hLL := gatesTo_length (gs.take j) now (List.replicate nn [])
        rw [List.length_replicate] at hLL
        generalize hLj : gatesTo (gs.take j) now (List.replicate nn []) = L at *
        generalize hGj : gs.getD j zGate = G at *
        obtain ⟨q1, ⟨AI, ci, q2, q3, q4⟩, q5, q6⟩ := hgj
        obtain ⟨oo0, oo1⟩ := gateOk_out hok
        obtain ⟨o, ho⟩ := Int.eq_ofNat_of_zero_le oo0
        have hon : o < nn := by omega
        have hlen' := hlen o
        rw [rep_len] at hlen'
        have hlj : (gs.take j).length ≤ j := by simp; omega
        obtain ⟨v, v1, v2, v3, v4, v5, v6⟩ := hRO.out.at_ o (by rw [hLL]; exact hon)
        have hx' : (G.out).toNat = o := by rw [ho]; rfl
        unfold addAt at hsucc
        rw [hx'] at hsucc
        generalize hLo : L.getD o [] = Lo at *
        have hlb : (Lo.length + 1) * 8 ≤ 140737488355328 := by
          have h60 := HGN.out
          have h2 : Lo.length ≤ 0 + (gs.take j).length := hlen'
          omega
        generalize hx : ansF G now = x at *
        have HOK := Lib.hid hok
        have Q3 := Lib.hid q3; clear q3
        have V6 := Lib.hid v6; clear v6
        have V2 := Lib.hid v2; clear v2
        have hans : ∀ W, Player W g mb (nn : Int) (some ad) gn gc → ReadsInt W .i64 AI G.ins.length G.ins → ReadsInt W .i64 A2 nn now → Calls Try.prog 83 #[.pointer (some ⟨g, 0, none⟩), .agg #[.int .i64 G.kind, .slice AI G.ins.length ci, .int .i64 o, .int .i64 G.delay], .slice A2 nn c2] W fun e w' => e = .returned (.int .i64 x) ∧ Below W.heap.size W w' := by
          intro W k1 k2 k3
          have := answer_any g mb W _ _ _ _ k1 G AI ci A2 nn c2 now hok rfl k2 k3
          rw [hx, ho] at this
          exact this
        have HANS := Lib.hid hans; clear hans
        have HX := Lib.hid hx; clear hx
        have HSU := Lib.hid hsucc; clear hsucc
        have HLB := Lib.hid hlb; clear hlb
        have HO := Lib.hid ho
        rw [ho] at q5 oo0 oo1
        clear hlen hlen' hlj hok hgn hx' ho hLo
        have qm := Q3.out.2.1
        have hg0 : (wx.alloc (.cells #[.int .i64 G.kind, .slice AI G.ins.length ci, .int .i64 o, .int .i64 G.delay] 88)).drew.heap[wx.heap.size]? = some (.cells #[.int .i64 G.kind, .slice AI G.ins.length ci, .int .i64 o, .int .i64 G.delay] 88 (0, 0)) := blk_new _ _
        have w1z : Below wx.heap.size wx (wx.alloc (.cells #[.int .i64 G.kind, .slice AI G.ins.length ci, .int .i64 o, .int .i64 G.delay] 88)).drew := pw_below_drewN (n := 1) ((Below.refl _ _).alloc (Nat.le_refl _) _)
        have s0 : (wx.alloc (.cells #[.int .i64 G.kind, .slice AI G.ins.length ci, .int .i64 o, .int .i64 G.delay] 88)).drew.cell? ⟨wo.heap.size, o, none⟩ = some v := pw_cell_below w1z v1
        have s1 : (wx.alloc (.cells #[.int .i64 G.kind, .slice AI G.ins.length ci, .int .i64 o, .int .i64 G.delay] 88)).drew.cell? ⟨wx.heap.size, 0, none⟩ = some (.int .i64 G.kind) := (blk_cell hg0 0).trans rfl
        have s2 : (wx.alloc (.cells #[.int .i64 G.kind, .slice AI G.ins.length ci, .int .i64 o, .int .i64 G.delay] 88)).drew.cell? ⟨wx.heap.size, 1, none⟩ = some (.slice AI G.ins.length ci) := (blk_cell hg0 1).trans rfl
        have s3 : (wx.alloc (.cells #[.int .i64 G.kind, .slice AI G.ins.length ci, .int .i64 o, .int .i64 G.delay] 88)).drew.cell? ⟨wx.heap.size, 2, none⟩ = some (.int .i64 o) := (blk_cell hg0 2).trans rfl
        have s4 : (wx.alloc (.cells #[.int .i64 G.kind, .slice AI G.ins.length ci, .int .i64 o, .int .i64 G.delay] 88)).drew.cell? ⟨wx.heap.size, 3, none⟩ = some (.int .i64 G.delay) := (blk_cell hg0 3).trans rfl
        have hsz1 : (wx.alloc (.cells #[.int .i64 G.kind, .slice AI G.ins.length ci, .int .i64 o, .int .i64 G.delay] 88)).drew.heap.size = wx.heap.size + 1 := by simp
        have n1 : some wo.heap.size ≠ v.ownBlock := ne_of_lt_row V2.out (.inl (Nat.lt_succ_self _))
        have n2 : some wx.heap.size ≠ v.ownBlock := ne_of_lt_row V2.out (.inr (Nat.le_refl _))
        have hf0 : (wx.alloc (.cells #[.int .i64 G.kind, .slice AI G.ins.length ci, .int .i64 o, .int .i64 G.delay] 88)).drew.frozen? ⟨wo.heap.size, o, none⟩ = false := (World.frozen?_of_block (w1z.block _ v5)).trans v3
        have hqq : ∀ wc : World, Below (wx.alloc (.cells #[.int .i64 G.kind, .slice AI G.ins.length ci, .int .i64 o, .int .i64 G.delay] 88)).drew.heap.size (wx.alloc (.cells #[.int .i64 G.kind, .slice AI G.ins.length ci, .int .i64 o, .int .i64 G.delay] 88)).drew wc → wo.heap.size + 1 ≤ (wc.alloc (.cells #[.int .i64 x] 3)).heap.size := by
          intro wc hbc
          have hq := hbc.size
          rw [hsz1] at hq
          have hq2 := hBx.out.size
          rw [show (wc.alloc (.cells #[.int .i64 x] 3)).heap.size = wc.heap.size + 1 from Array.size_push _]
          omega
        have hll : Lo.length + 1 ≤ maxLen := by have := HLB.out; simp only [maxLen]; omega
        have HQQ := Lib.hid hqq; clear hqq
        have HLL := Lib.hid hll; clear hll
        have W1Z := Lib.hid w1z; clear w1z
        have HPX := Lib.hid ((HP.out.below HBW.out).below W1Z.out)
        have HNX := Lib.hid (own_reads' (pw_own_below (pw_own_below hN.out hBx.out) W1Z.out))
        have Q3X := Lib.hid (Q3.out.below W1Z.out)
        have hsx := hBx.out.size
        go_wp2_with fail
        refine wp_region_tail 15 (fun w' => w'.cell? ⟨wo.heap.size, o, none⟩ = some v ∧ w'.cell? ⟨wx.heap.size, 0, none⟩ = some (.int .i64 G.kind) ∧ w'.cell? ⟨wx.heap.size, 1, none⟩ = some (.slice AI G.ins.length ci) ∧ w'.cell? ⟨wx.heap.size, 2, none⟩ = some (.int .i64 o) ∧ w'.cell? ⟨wx.heap.size, 3, none⟩ = some (.int .i64 G.delay)) (by kernel_rfl) ?_
        refine wpAnyF_take (i := 0) (v := .slice (some ⟨wo.heap.size, 0, none⟩) nn nn) rfl (by kernel_rfl) (by kernel_rfl) (by kernel_rfl) (by kernel_rfl) (fun _ _ _ h => h) (Or.inl ⟨by rfl, ?_⟩) ⟨s0, s1, s2, s3, s4⟩ ?_
        · rintro W ⟨y0, y1, y2, y3, y4⟩
          go_simp
        try simp only [Act.put, List.setIfInBounds_toArray, List.set_cons_zero, List.set_cons_succ]
        refine wpAnyF_take (i := 1) (v := .pointer (some ⟨wx.heap.size, 2, none⟩)) rfl (by kernel_rfl) (by kernel_rfl) (by kernel_rfl) (by kernel_rfl) (fun _ _ _ h => h) (Or.inl ⟨by rfl, ?_⟩) ⟨s0, s1, s2, s3, s4⟩ ?_
        · rintro W ⟨y0, y1, y2, y3, y4⟩
          go_simp
        try simp only [Act.put, List.setIfInBounds_toArray, List.set_cons_zero, List.set_cons_succ]
        refine wpAnyF_take (i := 2) (v := .int .i64 o) rfl (by kernel_rfl) (by kernel_rfl) (by kernel_rfl) (by kernel_rfl) (fun _ _ _ h => h) (Or.inl ⟨by rfl, ?_⟩) ⟨s0, s1, s2, s3, s4⟩ ?_
        · rintro W ⟨y0, y1, y2, y3, y4⟩
          go_simp
        try simp only [Act.put, List.setIfInBounds_toArray, List.set_cons_zero, List.set_cons_succ]
        refine wpAnyF_take (i := 3) (v := .slice (some ⟨wo.heap.size, 0, none⟩) nn nn) rfl (by kernel_rfl) (by kernel_rfl) (by kernel_rfl) (by kernel_rfl) (fun _ _ _ h => h) (Or.inl ⟨by rfl, ?_⟩) ⟨s0, s1, s2, s3, s4⟩ ?_
        · rintro W ⟨y0, y1, y2, y3, y4⟩
          go_simp
        try simp only [Act.put, List.setIfInBounds_toArray, List.set_cons_zero, List.set_cons_succ]
        refine wpAnyF_take (i := 4) (v := .pointer (some ⟨wx.heap.size, 2, none⟩)) rfl (by kernel_rfl) (by kernel_rfl) (by kernel_rfl) (by kernel_rfl) (fun _ _ _ h => h) (Or.inl ⟨by rfl, ?_⟩) ⟨s0, s1, s2, s3, s4⟩ ?_
        · rintro W ⟨y0, y1, y2, y3, y4⟩
          go_simp
        try simp only [Act.put, List.setIfInBounds_toArray, List.set_cons_zero, List.set_cons_succ]
        refine wpAnyF_take (i := 5) (v := .int .i64 o) rfl (by kernel_rfl) (by kernel_rfl) (by kernel_rfl) (by kernel_rfl) (fun _ _ _ h => h) (Or.inl ⟨by rfl, ?_⟩) ⟨s0, s1, s2, s3, s4⟩ ?_
        · rintro W ⟨y0, y1, y2, y3, y4⟩
          go_simp
        try simp only [Act.put, List.setIfInBounds_toArray, List.set_cons_zero, List.set_cons_succ]
        refine wpAnyF_take (i := 6) (v := .pointer (some ⟨wo.heap.size, o, none⟩)) rfl (by kernel_rfl) (by kernel_rfl) (by kernel_rfl) (by kernel_rfl) (fun _ _ _ h => h) (Or.inl ⟨by rfl, ?_⟩) ⟨s0, s1, s2, s3, s4⟩ ?_
        · rintro W ⟨y0, y1, y2, y3, y4⟩
          go_simp
        try simp only [Act.put, List.setIfInBounds_toArray, List.set_cons_zero, List.set_cons_succ]
        refine wpAnyF_take (i := 7) (v := v) rfl (by kernel_rfl) (by kernel_rfl) (by kernel_rfl) (by kernel_rfl) (fun _ _ _ h => h) (Or.inl ⟨by rfl, ?_⟩) ⟨s0, s1, s2, s3, s4⟩ ?_
        · rintro W ⟨y0, y1, y2, y3, y4⟩
          go_simp
        try simp only [Act.put, List.setIfInBounds_toArray, List.set_cons_zero, List.set_cons_succ]
        refine wpAnyF_take (i := 8) (v := .pointer (some ⟨g, 0, none⟩)) rfl (by kernel_rfl) (by kernel_rfl) (by kernel_rfl) (by kernel_rfl) (fun _ _ _ h => h) (Or.inl ⟨by rfl, ?_⟩) ⟨s0, s1, s2, s3, s4⟩ ?_
        · rintro W ⟨y0, y1, y2, y3, y4⟩
          go_simp
        try simp only [Act.put, List.setIfInBounds_toArray, List.set_cons_zero, List.set_cons_succ]
        refine wpAnyF_take (i := 9) (v := .agg #[.int .i64 G.kind, .slice AI G.ins.length ci, .int .i64 o, .int .i64 G.delay]) rfl (by kernel_rfl) (by kernel_rfl) (by kernel_rfl) (by kernel_rfl) (fun _ _ _ h => h) (Or.inl ⟨by rfl, ?_⟩) ⟨s0, s1, s2, s3, s4⟩ ?_
        · rintro W ⟨y0, y1, y2, y3, y4⟩
          go_simp
        try simp only [Act.put, List.setIfInBounds_toArray, List.set_cons_zero, List.set_cons_succ]
        refine wpAnyF_take (i := 10) (v := .slice A2 nn c2) rfl (by kernel_rfl) (by kernel_rfl) (by kernel_rfl) (by kernel_rfl) (fun _ _ _ h => h) (Or.inl ⟨by rfl, ?_⟩) ⟨s0, s1, s2, s3, s4⟩ ?_
        · rintro W ⟨y0, y1, y2, y3, y4⟩
          go_simp
        try simp only [Act.put, List.setIfInBounds_toArray, List.set_cons_zero, List.set_cons_succ]
        refine wpAnyF_one (i := 11) rfl (by kernel_rfl) (fun K hK => ?_)
        refine goes_ (f := 83) Try.func83 (by kernel_rfl) rfl #[.pointer (some ⟨g, 0, none⟩), .agg #[.int .i64 G.kind, .slice AI G.ins.length ci, .int .i64 o, .int .i64 G.delay], .slice A2 nn c2] rfl rfl rfl (by simp [Act.eval]) ?_
        refine (HANS.out _ HPX.out Q3X.out HNX.out).mono ?_
        rintro e wc ⟨rfl, hbc⟩
        refine ⟨_, rfl, ?_⟩
        have t0 := pw_cell_below hbc s0
        have t1 := pw_cell_below hbc s1
        have t2 := pw_cell_below hbc s2
        have t3 := pw_cell_below hbc s3
        have t4 := pw_cell_below hbc s4
        have hwcb : Below wc.heap.size wc (wc.alloc (.cells #[.int .i64 x] 3)) := (Below.refl _ _).alloc (Nat.le_refl _) _
        refine hK _ _ (fun _ => ⟨t0, t1, t2, t3, t4⟩) ?_
        clear hK K
        try simp only [Act.put, List.setIfInBounds_toArray, List.set_cons_zero, List.set_cons_succ]
        refine wpAnyF_one (i := 12) rfl (by kernel_rfl) (fun K hK => ?_)
        go_simp
        refine hK _ _ (fun _ => ⟨pw_cell_below hwcb t0, pw_cell_below hwcb t1, pw_cell_below hwcb t2, pw_cell_below hwcb t3, pw_cell_below hwcb t4⟩) ?_
        clear hK K
        try simp only [Act.put, List.setIfInBounds_toArray, List.set_cons_zero, List.set_cons_succ]
        refine wpAnyF_one (i := 13) rfl (by kernel_rfl) (fun K hK => ?_)
        refine step_append_lies _ (by rfl) _ _ _ (by rfl) (wo.heap.size + 1) 3 i0 (.int .i64 0) 1 8 Try.underlying22 hi0 hz0 hz1 hz2 rfl (by omega) v Lo.length (nums .i64 Lo) (by rfl) ((pw_own_below (pw_own_below V2.out W1Z.out) hbc).alloc _) ⟨wc.heap.size, 0, none⟩ 1 1 [.int .i64 x] (by rfl) (by rfl) (World.news_of_block (cs := #[.int .i64 x]) (t := 3) (fr := (0, 0)) (heap_alloc_new wc _)) (by simp [Value.oneCell']) Nat.one_pos HLL.out HLB.out (HQQ.out wc hbc) (wc.heap.size + 1) (Array.size_push _) ?_
        intro gg cap w3 hown1 hgrow hat hlt1
        have z0 := hgrow.cell (pw_cell_below hwcb t0) n1
        have z1 := hgrow.cell (pw_cell_below hwcb t1) n2
        have z2 := hgrow.cell (pw_cell_below hwcb t2) n2
        have z3 := hgrow.cell (pw_cell_below hwcb t3) n2
        have z4 := hgrow.cell (pw_cell_below hwcb t4) n2
        have zf := (hgrow.frozen_far ⟨wo.heap.size, o, none⟩ (Nat.lt_of_lt_of_le (World.block_lt_of_cell? wc _ t0) hwcb.size) n1).trans ((World.frozen?_of_block (hwcb.block _ (World.block_lt_of_cell? wc _ t0))).trans ((World.frozen?_of_block (hbc.block _ (World.block_lt_of_cell? _ _ s0))).trans hf0))
        refine hK _ _ (fun _ => ⟨z0, z1, z2, z3, z4⟩) ?_
        clear hK K
        try simp only [Act.put, List.setIfInBounds_toArray, List.set_cons_zero, List.set_cons_succ]
        have HWCB := Lib.hid hwcb; clear hwcb
        have HGROW := Lib.hid hgrow; clear hgrow
        have HOWN1 := Lib.hid hown1; clear hown1
        have HAT := Lib.hid hat; clear hat
        have HBC := Lib.hid hbc; clear hbc
        clear s0 s1 s2 s3 s4 t0 t1 t2 t3 t4
        refine wpAnyF_one (i := 14) rfl (by kernel_rfl) (fun K hK => ?_)
        go_simp
        refine hK _ _ (fun _ => ⟨z0, z1, z2, z3, z4⟩) ?_
        clear hK K
        try simp only [Act.put, List.setIfInBounds_toArray, List.set_cons_zero, List.set_cons_succ]
        refine wpAnyF_one (i := 15) rfl (by kernel_rfl) (fun K hK => ?_)
        go_simp
        refine hK _ _ (fun h => absurd rfl h) ?_
        clear hK K
        refine wpAnyF_done (by kernel_rfl) ?_ _
        have HROW : Hid (Rows (w3.setCell ⟨wo.heap.size, o, none⟩ (.slice (some ⟨gg, 0, none⟩) (Lo.length + 1) cap)) wo.heap.size (wo.heap.size + 1) (gatesTo (gs.take (j + 1)) now (List.replicate nn []))) := Lib.hid (by
          rw [HSU.out]
          refine V6.out (wc.alloc (.cells #[.int .i64 x] 3)) w3 _ x ((W1Z.out.trans (HBC.out.mono W1Z.out.size)).trans (HWCB.out.mono (Nat.le_trans W1Z.out.size HBC.out.size))) HGROW.out ?_ ?_
          · have h := HOWN1.out
            simpa [nums] using h
          · rcases HAT.out with h | h
            · exact .inl h
            · exact .inr ⟨gg, rfl, by have h1 := W1Z.out.size; have h2 := HBC.out.size; omega⟩)
        have HBN : Hid (Below wo.heap.size wo (w3.setCell ⟨wo.heap.size, o, none⟩ (.slice (some ⟨gg, 0, none⟩) (Lo.length + 1) cap))) := Lib.hid (by
          have e1 := hBx.out.size
          have e2 := W1Z.out.size
          have e3 := HBC.out.size
          have e4 := HWCB.out.size
          have hall := ((hBx.out.trans (W1Z.out.mono e1)).trans (HBC.out.mono (Nat.le_trans e1 e2))).trans (HWCB.out.mono (Nat.le_trans (Nat.le_trans e1 e2) e3))
          exact (hall.grown HGROW.out (by omega) (fun k hk => by have := own_base V2.out k hk; omega)).setCell (Nat.le_refl _) _)
        have hgn2 : gn ≤ 9223372036854775807 := by have := HGN.out; omega
        go_wp2_with fail
        go_roundw
        case rel => exact ⟨j + 1, by omega, by go_num, HROW, HBN⟩
        case measure => simp [intOf]; omega
        -- ]]
      · obtain rfl : j = gn := by omega
        have hrg : Hid (Rows wx wo.heap.size (wo.heap.size + 1) (gatesTo gs now (List.replicate nn []))) := Lib.hid (by have h := hRO.out; rwa [List.take_of_length_le (by rw [HG.out.1]; exact Nat.le_refl _)] at h)
        clear hRO
        have hdm : dn ≤ 9223372036854775807 := by have := HDN.out; omega
        generalize hLg : gatesTo gs now (List.replicate nn []) = Lg at *
        have hLgl : Lg.length = nn := by rw [← hLg, gatesTo_length, List.length_replicate]
        have hLgn : ∀ o, (Lg.getD o []).length ≤ 60 := by
          intro o
          have h1 := gatesTo_len gs now (List.replicate nn []) o
          rw [hLg, rep_len] at h1
          have h2 := HGN.out
          have h3 := HG.out.1
          omega
        have HLG := Lib.hid hLg; clear hLg
        have HLGL := Lib.hid hLgl; clear hLgl
        have HLGN := Lib.hid hLgn; clear hLgn
        go_wp2_with fail
        go_loopw [59] (fun i wx => ∃ j : Nat, j ≤ dn ∧ i = .int .i64 j ∧ Hid (Rows wx wo.heap.size (wo.heap.size + 1) (drivesTo (ds.take j) Lg)) ∧ Hid (Below wo.heap.size wo wx)) (fun i _ => dn - (intOf i).toNat)
        case atStart => exact ⟨0, by omega, rfl, hrg, hBx⟩
        case round =>
          obtain ⟨j, hj, rfl, hRO, hBy⟩ := hrel
          clear hrg hBx
          obtain ⟨wy, rfl⟩ : ∃ wy : World, wy = wr := ⟨_, rfl⟩
          by_cases hlt : j < dn
          · have hbw := hB.out.trans (hBy.out.mono hB.out.size)
            -- [[
            obtain ⟨ad, rfl, q1, q2⟩ := (HD.out.below hbw).at_ j hlt
            clear hbw
            have hdj := drive_at HDO.out (k := j) (by rw [HD.out.1]; exact hlt)
            have hsucc := drivesTo_succ (ds := ds) (L := Lg) (k := j) (by rw [HD.out.1]; exact hlt)
            have hlen := drivesTo_len (ds.take j) Lg
            have hLL := drivesTo_length (ds.take j) Lg
            rw [HLGL.out] at hLL
            generalize hLj : drivesTo (ds.take j) Lg = L at *
            generalize hGj : ds.getD j zDrive = G at *
            obtain ⟨dnet, dv⟩ := G
            obtain ⟨oo0, oo1⟩ := driveOk_net hdj
            obtain ⟨o, ho⟩ := Int.eq_ofNat_of_zero_le (show 0 ≤ dnet from oo0)
            subst ho
            have hon : o < nn := by have : ((o : Nat) : Int) < (nn : Int) := oo1; omega
            have hlen' := hlen o
            have hlen2 := HLGN.out o
            have hlj : (ds.take j).length ≤ j := by simp; omega
            obtain ⟨v, v1, v2, v3, v4, v5, v6⟩ := hRO.out.at_ o (by rw [hLL]; exact hon)
            unfold addAt at hsucc
            have hx' : (((o : Nat) : Int)).toNat = o := rfl
            simp only [hx'] at hsucc
            generalize hLo : L.getD o [] = Lo at *
            have hlb : (Lo.length + 1) * 8 ≤ 140737488355328 := by
              have h60 := HDN.out
              have h2 : Lo.length ≤ (Lg.getD o []).length + (ds.take j).length := hlen'
              omega
            have V6 := Lib.hid v6; clear v6
            have V2 := Lib.hid v2; clear v2
            have HSU := Lib.hid hsucc; clear hsucc
            have HLL := Lib.hid (show Lo.length + 1 ≤ maxLen by simp only [maxLen]; omega)
            have HLB := Lib.hid hlb; clear hlb
            clear hlen hlen' hlen2 hlj hx' hLo hdj
            have hg0 : (wy.alloc (.cells #[.int .i64 o, .int .i64 dv] 85)).drew.heap[wy.heap.size]? = some (.cells #[.int .i64 o, .int .i64 dv] 85 (0, 0)) := blk_new _ _
            have w1z : Below wy.heap.size wy (wy.alloc (.cells #[.int .i64 o, .int .i64 dv] 85)).drew := pw_below_drewN (n := 1) ((Below.refl _ _).alloc (Nat.le_refl _) _)
            have s0 : (wy.alloc (.cells #[.int .i64 o, .int .i64 dv] 85)).drew.cell? ⟨wo.heap.size, o, none⟩ = some v := pw_cell_below w1z v1
            have s1 : (wy.alloc (.cells #[.int .i64 o, .int .i64 dv] 85)).drew.cell? ⟨wy.heap.size, 0, none⟩ = some (.int .i64 o) := (blk_cell hg0 0).trans rfl
            have s2 : (wy.alloc (.cells #[.int .i64 o, .int .i64 dv] 85)).drew.cell? ⟨wy.heap.size, 1, none⟩ = some (.int .i64 dv) := (blk_cell hg0 1).trans rfl
            have hsz1 : (wy.alloc (.cells #[.int .i64 o, .int .i64 dv] 85)).drew.heap.size = wy.heap.size + 1 := by simp
            have n1 : some wo.heap.size ≠ v.ownBlock := ne_of_lt_row V2.out (.inl (Nat.lt_succ_self _))
            have n2 : some wy.heap.size ≠ v.ownBlock := ne_of_lt_row V2.out (.inr (Nat.le_refl _))
            have hf0 : (wy.alloc (.cells #[.int .i64 o, .int .i64 dv] 85)).drew.frozen? ⟨wo.heap.size, o, none⟩ = false := (World.frozen?_of_block (w1z.block _ v5)).trans v3
            have W1Z := Lib.hid w1z; clear w1z
            have hsx := hBy.out.size
            go_wp2_with fail
            refine wp_region_tail 13 (fun w' => w'.cell? ⟨wo.heap.size, o, none⟩ = some v ∧ w'.cell? ⟨wy.heap.size, 0, none⟩ = some (.int .i64 o) ∧ w'.cell? ⟨wy.heap.size, 1, none⟩ = some (.int .i64 dv)) (by kernel_rfl) ?_
            refine wpAnyF_take (i := 0) (v := .slice (some ⟨wo.heap.size, 0, none⟩) nn nn) rfl (by kernel_rfl) (by kernel_rfl) (by kernel_rfl) (by kernel_rfl) (fun _ _ _ h => h) (Or.inl ⟨by rfl, ?_⟩) ⟨s0, s1, s2⟩ ?_
            · rintro W ⟨y0, y1, y2⟩
              go_simp
            try simp only [Act.put, List.setIfInBounds_toArray, List.set_cons_zero, List.set_cons_succ]
            refine wpAnyF_take (i := 1) (v := .pointer (some ⟨wy.heap.size, 0, none⟩)) rfl (by kernel_rfl) (by kernel_rfl) (by kernel_rfl) (by kernel_rfl) (fun _ _ _ h => h) (Or.inl ⟨by rfl, ?_⟩) ⟨s0, s1, s2⟩ ?_
            · rintro W ⟨y0, y1, y2⟩
              go_simp
            try simp only [Act.put, List.setIfInBounds_toArray, List.set_cons_zero, List.set_cons_succ]
            refine wpAnyF_take (i := 2) (v := .int .i64 o) rfl (by kernel_rfl) (by kernel_rfl) (by kernel_rfl) (by kernel_rfl) (fun _ _ _ h => h) (Or.inl ⟨by rfl, ?_⟩) ⟨s0, s1, s2⟩ ?_
            · rintro W ⟨y0, y1, y2⟩
              go_simp
            try simp only [Act.put, List.setIfInBounds_toArray, List.set_cons_zero, List.set_cons_succ]
            refine wpAnyF_take (i := 3) (v := .slice (some ⟨wo.heap.size, 0, none⟩) nn nn) rfl (by kernel_rfl) (by kernel_rfl) (by kernel_rfl) (by kernel_rfl) (fun _ _ _ h => h) (Or.inl ⟨by rfl, ?_⟩) ⟨s0, s1, s2⟩ ?_
            · rintro W ⟨y0, y1, y2⟩
              go_simp
            try simp only [Act.put, List.setIfInBounds_toArray, List.set_cons_zero, List.set_cons_succ]
            refine wpAnyF_take (i := 4) (v := .pointer (some ⟨wy.heap.size, 0, none⟩)) rfl (by kernel_rfl) (by kernel_rfl) (by kernel_rfl) (by kernel_rfl) (fun _ _ _ h => h) (Or.inl ⟨by rfl, ?_⟩) ⟨s0, s1, s2⟩ ?_
            · rintro W ⟨y0, y1, y2⟩
              go_simp
            try simp only [Act.put, List.setIfInBounds_toArray, List.set_cons_zero, List.set_cons_succ]
            refine wpAnyF_take (i := 5) (v := .int .i64 o) rfl (by kernel_rfl) (by kernel_rfl) (by kernel_rfl) (by kernel_rfl) (fun _ _ _ h => h) (Or.inl ⟨by rfl, ?_⟩) ⟨s0, s1, s2⟩ ?_
            · rintro W ⟨y0, y1, y2⟩
              go_simp
            try simp only [Act.put, List.setIfInBounds_toArray, List.set_cons_zero, List.set_cons_succ]
            refine wpAnyF_take (i := 6) (v := .pointer (some ⟨wo.heap.size, o, none⟩)) rfl (by kernel_rfl) (by kernel_rfl) (by kernel_rfl) (by kernel_rfl) (fun _ _ _ h => h) (Or.inl ⟨by rfl, ?_⟩) ⟨s0, s1, s2⟩ ?_
            · rintro W ⟨y0, y1, y2⟩
              go_simp
            try simp only [Act.put, List.setIfInBounds_toArray, List.set_cons_zero, List.set_cons_succ]
            refine wpAnyF_take (i := 7) (v := v) rfl (by kernel_rfl) (by kernel_rfl) (by kernel_rfl) (by kernel_rfl) (fun _ _ _ h => h) (Or.inl ⟨by rfl, ?_⟩) ⟨s0, s1, s2⟩ ?_
            · rintro W ⟨y0, y1, y2⟩
              go_simp
            try simp only [Act.put, List.setIfInBounds_toArray, List.set_cons_zero, List.set_cons_succ]
            refine wpAnyF_take (i := 8) (v := .pointer (some ⟨wy.heap.size, 1, none⟩)) rfl (by kernel_rfl) (by kernel_rfl) (by kernel_rfl) (by kernel_rfl) (fun _ _ _ h => h) (Or.inl ⟨by rfl, ?_⟩) ⟨s0, s1, s2⟩ ?_
            · rintro W ⟨y0, y1, y2⟩
              go_simp
            try simp only [Act.put, List.setIfInBounds_toArray, List.set_cons_zero, List.set_cons_succ]
            refine wpAnyF_take (i := 9) (v := .int .i64 dv) rfl (by kernel_rfl) (by kernel_rfl) (by kernel_rfl) (by kernel_rfl) (fun _ _ _ h => h) (Or.inl ⟨by rfl, ?_⟩) ⟨s0, s1, s2⟩ ?_
            · rintro W ⟨y0, y1, y2⟩
              go_simp
            try simp only [Act.put, List.setIfInBounds_toArray, List.set_cons_zero, List.set_cons_succ]
            obtain ⟨wc, hwc⟩ : ∃ wc : World, wc = (wy.alloc (.cells #[.int .i64 o, .int .i64 dv] 85)).drew := ⟨_, rfl⟩
            change wpAnyF _ _ _ _ _ _ _ _ _ (wy.alloc (.cells #[.int .i64 o, .int .i64 dv] 85)).drew
            rw [← hwc]
            rw [← hwc] at s0 s1 s2 hf0 W1Z hsz1
            clear hwc hg0
            have hwcb : Below wc.heap.size wc (wc.alloc (.cells #[.int .i64 dv] 3)) := (Below.refl _ _).alloc (Nat.le_refl _) _
            have hszc : (wc.alloc (.cells #[.int .i64 dv] 3)).heap.size = wc.heap.size + 1 := Array.size_push _
            have hqq : wo.heap.size + 1 ≤ (wc.alloc (.cells #[.int .i64 dv] 3)).heap.size := by rw [hszc, hsz1]; omega
            have hown0 := (pw_own_below V2.out W1Z.out).alloc (.cells #[.int .i64 dv] 3)
            have HSZ1 := Lib.hid hsz1; clear hsz1 hszc
            refine wpAnyF_one (i := 10) rfl (by kernel_rfl) (fun K hK => ?_)
            go_simp
            refine hK _ _ (fun _ => ⟨pw_cell_below hwcb s0, pw_cell_below hwcb s1, pw_cell_below hwcb s2⟩) ?_
            clear hK K
            try simp only [Act.put, List.setIfInBounds_toArray, List.set_cons_zero, List.set_cons_succ]
            refine wpAnyF_one (i := 11) rfl (by kernel_rfl) (fun K hK => ?_)
            refine step_append_lies _ (by rfl) _ _ _ (by rfl) (wo.heap.size + 1) 3 i0 (.int .i64 0) 1 8 Try.underlying22 hi0 hz0 hz1 hz2 rfl (by omega) v Lo.length (nums .i64 Lo) (by rfl) hown0 ⟨wc.heap.size, 0, none⟩ 1 1 [.int .i64 dv] (by rfl) (by rfl) (World.news_of_block (cs := #[.int .i64 dv]) (t := 3) (fr := (0, 0)) (heap_alloc_new wc _)) (by simp [Value.oneCell']) Nat.one_pos HLL.out HLB.out hqq (wc.heap.size + 1) (Array.size_push _) ?_
            intro gg cap w3 hown1 hgrow hat hlt1
            have z0 := hgrow.cell (pw_cell_below hwcb s0) n1
            have z1 := hgrow.cell (pw_cell_below hwcb s1) n2
            have z2 := hgrow.cell (pw_cell_below hwcb s2) n2
            have zf := (hgrow.frozen_far ⟨wo.heap.size, o, none⟩ (Nat.lt_of_lt_of_le (World.block_lt_of_cell? wc _ s0) hwcb.size) n1).trans ((World.frozen?_of_block (hwcb.block _ (World.block_lt_of_cell? wc _ s0))).trans hf0)
            refine hK _ _ (fun _ => ⟨z0, z1, z2⟩) ?_
            clear hK K
            try simp only [Act.put, List.setIfInBounds_toArray, List.set_cons_zero, List.set_cons_succ]
            have HWCB := Lib.hid hwcb; clear hwcb
            have HGROW := Lib.hid hgrow; clear hgrow
            have HOWN1 := Lib.hid hown1; clear hown1
            have HAT := Lib.hid hat; clear hat
            clear s0 s1 s2 hown0
            refine wpAnyF_one (i := 12) rfl (by kernel_rfl) (fun K hK => ?_)
            go_simp
            refine hK _ _ (fun _ => ⟨z0, z1, z2⟩) ?_
            clear hK K
            try simp only [Act.put, List.setIfInBounds_toArray, List.set_cons_zero, List.set_cons_succ]
            refine wpAnyF_one (i := 13) rfl (by kernel_rfl) (fun K hK => ?_)
            go_simp
            refine hK _ _ (fun h => absurd rfl h) ?_
            clear hK K
            refine wpAnyF_done (by kernel_rfl) ?_ _
            have HROW : Hid (Rows (w3.setCell ⟨wo.heap.size, o, none⟩ (.slice (some ⟨gg, 0, none⟩) (Lo.length + 1) cap)) wo.heap.size (wo.heap.size + 1) (drivesTo (ds.take (j + 1)) Lg)) := Lib.hid (by
              rw [HSU.out]
              refine V6.out (wc.alloc (.cells #[.int .i64 dv] 3)) w3 _ dv (W1Z.out.trans (HWCB.out.mono W1Z.out.size)) HGROW.out ?_ ?_
              · have h := HOWN1.out
                simpa [nums] using h
              · rcases HAT.out with h | h
                · exact .inl h
                · exact .inr ⟨gg, rfl, by have := HSZ1.out; omega⟩)
            have HBN : Hid (Below wo.heap.size wo (w3.setCell ⟨wo.heap.size, o, none⟩ (.slice (some ⟨gg, 0, none⟩) (Lo.length + 1) cap))) := Lib.hid (by
              have hall := (hBy.out.trans (W1Z.out.mono hBy.out.size)).trans (HWCB.out.mono (Nat.le_trans hBy.out.size W1Z.out.size))
              exact (hall.grown HGROW.out (by omega) (fun k hk => by have := own_base V2.out k hk; omega)).setCell (Nat.le_refl _) _)
            have hdm2 : dn ≤ 9223372036854775807 := by have := HDN.out; omega
            go_wp2_with fail
            go_roundw
            case rel => exact ⟨j + 1, by omega, by go_num, HROW, HBN⟩
            case measure => simp [intOf]; omega
            -- ]]
          · obtain rfl : j = dn := by omega
            have hre : drivesTo ds Lg = driversF nn gs ds now := by rw [← HLG.out]; rfl
            have hrd : Hid (Rows wy wo.heap.size (wo.heap.size + 1) (driversF nn gs ds now)) := Lib.hid (by
              have h := hRO.out
              rw [List.take_of_length_le (by rw [HD.out.1]; exact Nat.le_refl _)] at h
              rwa [hre] at h)
            clear hRO hre
            have HBWY := Lib.hid (hB.out.trans (hBy.out.mono hB.out.size))
            have p0y := (HP.out.below HBWY.out).c0
            have hmk2 := make22 nn (by omega) wy
            have hxl : (nextF nn gs ds now).length = nn := nextF_length nn gs ds now
            have hxg : ∀ i, i < nn → (nextF nn gs ds now).getD i 0 = resF ((driversF nn gs ds now).getD i []) := by
              intro i hi
              have hl2 := driversF_length nn gs ds now
              unfold nextF
              simp [List.getD_eq_getElem?_getD, List.getElem?_eq_getElem (show i < (driversF nn gs ds now).length by omega)]
            have hxv := nextF_val (ds := ds) HGO.out HDO.out hNL.out hNV.out
            have hxo := allOk_drivers (ds := ds) HGO.out HDO.out hNL.out hNV.out
            have hdl := driversF_length nn gs ds now
            have hwB : Below wy.heap.size wy ((wy.alloc (.cells (madeCells #[.int .i64 0] nn) 3)).alloc (.cells #[.slice (some ⟨wy.heap.size, 0, none⟩) nn nn] 22)) := ((Below.refl _ _).alloc (Nat.le_refl _) _).alloc (by rw [show (wy.alloc (.cells (madeCells #[.int .i64 0] nn) 3)).heap.size = wy.heap.size + 1 from Array.size_push _]; omega) _
            have hvb : ((wy.alloc (.cells (madeCells #[.int .i64 0] nn) 3)).alloc (.cells #[.slice (some ⟨wy.heap.size, 0, none⟩) nn nn] 22)).heap[wy.heap.size + 1]? = some (.cells #[.slice (some ⟨wy.heap.size, 0, none⟩) nn nn] 22 (0, 0)) := by
              have h := blk_new (wy.alloc (.cells (madeCells #[.int .i64 0] nn) 3)) (.cells #[.slice (some ⟨wy.heap.size, 0, none⟩) nn nn] 22)
              rwa [show (wy.alloc (.cells (madeCells #[.int .i64 0] nn) 3)).heap.size = wy.heap.size + 1 from Array.size_push _] at h
            have hnb := (own_made wy wy.heap.size 3 .i64 nn (Nat.le_refl _) (by omega)).alloc (.cells #[.slice (some ⟨wy.heap.size, 0, none⟩) nn nn] 22)
            have HDR := Lib.hid (driversF_length nn gs ds now)
            generalize hX : nextF nn gs ds now = X at *
            have hnb2 : ((wy.alloc (.cells (madeCells #[.int .i64 0] nn) 3)).alloc (.cells #[.slice (some ⟨wy.heap.size, 0, none⟩) nn nn] 22)).ownsRow wy.heap.size 3 1 (.slice (some ⟨wy.heap.size, 0, none⟩) nn nn) nn (nums .i64 (fillL X 0)) := by
              rw [fillL_zero, hxl]; exact hnb
            clear hnb
            have HXL := Lib.hid hxl; clear hxl
            have HXG := Lib.hid hxg; clear hxg
            have HXV := Lib.hid hxv; clear hxv
            have HXO := Lib.hid hxo; clear hxo
            have HX := Lib.hid hX; clear hX
            have HWB := Lib.hid hwB; clear hwB
            have HVB := Lib.hid hvb
            have HNB := Lib.hid hnb2; clear hnb2
            clear hdl
            have v0 := (blk_cell hvb 0).trans rfl
            clear hvb
            go_wp2_with fail
            go_loopw [85] (fun i wx => ∃ q : Nat, q ≤ nn ∧ i = .int .i64 q ∧ Hid (Below wy.heap.size wy wx) ∧ Hid (wx.heap[wy.heap.size + 1]? = some (.cells #[.slice (some ⟨wy.heap.size, 0, none⟩) nn nn] 22 (0, 0))) ∧ Hid (wx.ownsRow wy.heap.size 3 1 (.slice (some ⟨wy.heap.size, 0, none⟩) nn nn) nn (nums .i64 (fillL X q)))) (fun i _ => nn - (intOf i).toNat)
            case atStart => exact ⟨0, by omega, rfl, HWB, HVB, HNB⟩
            case round =>
              obtain ⟨q, hq, rfl, hBz, hVz, hNz⟩ := hrel
              obtain ⟨wz, rfl⟩ : ∃ wz : World, wz = wr := ⟨_, rfl⟩
              clear HWB HVB HNB v0 p0y hmk2
              by_cases hlt : q < nn
              · -- [[
                have hrz := hrd.out.below hBz.out
                obtain ⟨RA, rc, r1, r2⟩ := hrz.reads q (by rw [HDR.out]; exact hlt)
                have hrv := HXO.out q
                have hgq := HXG.out q hlt
                obtain ⟨nq1, nq2⟩ := own_at hNz.out q (by omega) (by omega)
                obtain ⟨ns1, ns2⟩ := own_store hNz.out q (X.getD q 0)
                have hxs := fillL_set X q (by rw [HXL.out]; exact hlt)
                have hqn : ((q : Nat) : Int).toNat = q := rfl
                rw [hqn] at nq1 nq2 ns1 ns2
                rw [hxs] at ns1
                generalize hdq : (driversF nn gs ds now).getD q [] = dl at *
                generalize hln : dl.length = ln at *
                generalize rd (fillL X q) (q : Int) = old at *
                have hbw := hB.out.trans ((hBy.out.trans (hBz.out.mono hBy.out.size)).mono hB.out.size)
                have htab := (HP.out.below hbw).tab
                have HTAB := Lib.hid (show TabAt wz.drew g from htab); clear htab
                have HR2 := Lib.hid (show ReadsInt wz.drew .i64 RA ln dl from r2); clear r2
                have HRV := Lib.hid hrv; clear hrv
                have HNS := Lib.hid ns1; clear ns1
                have HGQ := Lib.hid hgq; clear hgq
                have s0 : wz.drew.cell? ⟨wy.heap.size + 1, 0, none⟩ = some (.slice (some ⟨wy.heap.size, 0, none⟩) nn nn) := (blk_cell hVz.out 0).trans rfl
                have s1 : wz.drew.cell? ⟨wo.heap.size, q, none⟩ = some (.slice RA ln rc) := r1
                clear hxs hqn hdq hln hbw ns2
                go_wp2_with fail
                refine wp_region_tail 11 (fun w' => w'.cell? ⟨wy.heap.size + 1, 0, none⟩ = some (.slice (some ⟨wy.heap.size, 0, none⟩) nn nn) ∧ w'.cell? ⟨wo.heap.size, q, none⟩ = some (.slice RA ln rc)) (by kernel_rfl) ?_
                refine wpAnyF_take (i := 0) (v := .slice (some ⟨wy.heap.size, 0, none⟩) nn nn) rfl (by kernel_rfl) (by kernel_rfl) (by kernel_rfl) (by kernel_rfl) (fun _ _ _ h => h) (Or.inl ⟨by rfl, ?_⟩) ⟨s0, s1⟩ ?_
                · rintro W ⟨y0, y1⟩
                  go_simp
                try simp only [Act.put, List.setIfInBounds_toArray, List.set_cons_zero, List.set_cons_succ]
                refine wpAnyF_take (i := 1) (v := .int .i64 q) rfl (by kernel_rfl) (by kernel_rfl) (by kernel_rfl) (by kernel_rfl) (fun _ _ _ h => h) (Or.inl ⟨by rfl, ?_⟩) ⟨s0, s1⟩ ?_
                · rintro W ⟨y0, y1⟩
                  go_simp
                try simp only [Act.put, List.setIfInBounds_toArray, List.set_cons_zero, List.set_cons_succ]
                refine wpAnyF_take (i := 2) (v := .pointer (some ⟨g, 0, none⟩)) rfl (by kernel_rfl) (by kernel_rfl) (by kernel_rfl) (by kernel_rfl) (fun _ _ _ h => h) (Or.inl ⟨by rfl, ?_⟩) ⟨s0, s1⟩ ?_
                · rintro W ⟨y0, y1⟩
                  go_simp
                try simp only [Act.put, List.setIfInBounds_toArray, List.set_cons_zero, List.set_cons_succ]
                refine wpAnyF_take (i := 3) (v := .pointer (some ⟨g, 0, none⟩)) rfl (by kernel_rfl) (by kernel_rfl) (by kernel_rfl) (by kernel_rfl) (fun _ _ _ h => h) (Or.inl ⟨by rfl, ?_⟩) ⟨s0, s1⟩ ?_
                · rintro W ⟨y0, y1⟩
                  go_simp
                try simp only [Act.put, List.setIfInBounds_toArray, List.set_cons_zero, List.set_cons_succ]
                refine wpAnyF_take (i := 4) (v := .pointer (some ⟨g, 2, none⟩)) rfl (by kernel_rfl) (by kernel_rfl) (by kernel_rfl) (by kernel_rfl) (fun _ _ _ h => h) (Or.inl ⟨by rfl, ?_⟩) ⟨s0, s1⟩ ?_
                · rintro W ⟨y0, y1⟩
                  go_simp
                try simp only [Act.put, List.setIfInBounds_toArray, List.set_cons_zero, List.set_cons_succ]
                refine wpAnyF_take (i := 5) (v := .slice (some ⟨wo.heap.size, 0, none⟩) nn nn) rfl (by kernel_rfl) (by kernel_rfl) (by kernel_rfl) (by kernel_rfl) (fun _ _ _ h => h) (Or.inl ⟨by rfl, ?_⟩) ⟨s0, s1⟩ ?_
                · rintro W ⟨y0, y1⟩
                  go_simp
                try simp only [Act.put, List.setIfInBounds_toArray, List.set_cons_zero, List.set_cons_succ]
                refine wpAnyF_take (i := 6) (v := .int .i64 q) rfl (by kernel_rfl) (by kernel_rfl) (by kernel_rfl) (by kernel_rfl) (fun _ _ _ h => h) (Or.inl ⟨by rfl, ?_⟩) ⟨s0, s1⟩ ?_
                · rintro W ⟨y0, y1⟩
                  go_simp
                try simp only [Act.put, List.setIfInBounds_toArray, List.set_cons_zero, List.set_cons_succ]
                refine wpAnyF_take (i := 7) (v := .pointer (some ⟨wo.heap.size, q, none⟩)) rfl (by kernel_rfl) (by kernel_rfl) (by kernel_rfl) (by kernel_rfl) (fun _ _ _ h => h) (Or.inl ⟨by rfl, ?_⟩) ⟨s0, s1⟩ ?_
                · rintro W ⟨y0, y1⟩
                  go_simp
                try simp only [Act.put, List.setIfInBounds_toArray, List.set_cons_zero, List.set_cons_succ]
                refine wpAnyF_take (i := 8) (v := .slice RA ln rc) rfl (by kernel_rfl) (by kernel_rfl) (by kernel_rfl) (by kernel_rfl) (fun _ _ _ h => h) (Or.inl ⟨by rfl, ?_⟩) ⟨s0, s1⟩ ?_
                · rintro W ⟨y0, y1⟩
                  go_simp
                try simp only [Act.put, List.setIfInBounds_toArray, List.set_cons_zero, List.set_cons_succ]
                change wpAnyF _ _ _ _ _ _ _ _ _ wz.drew
                refine wpAnyF_one (i := 9) rfl (by kernel_rfl) (fun K hK => ?_)
                refine goes_ (f := 36) Try.func36 (by kernel_rfl) rfl #[.pointer (some ⟨g, 2, none⟩), .slice RA ln rc] rfl rfl rfl (by simp [Act.eval]) ?_
                refine (resolved2_any g RA ln rc dl wz.drew HTAB.out HR2.out HRV.out).mono ?_
                rintro e wc ⟨rfl, rfl⟩
                refine ⟨_, rfl, ?_⟩
                refine hK _ _ (fun _ => ⟨s0, s1⟩) ?_
                clear hK K
                rw [← HGQ.out]
                generalize X.getD q 0 = xq at *
                try simp only [Act.put, List.setIfInBounds_toArray, List.set_cons_zero, List.set_cons_succ]
                refine wpAnyF_one (i := 10) rfl (by kernel_rfl) (fun K hK => ?_)
                go_simp
                refine hK _ _ (fun _ => ⟨s0, s1⟩) ?_
                clear hK K
                try simp only [Act.put, List.setIfInBounds_toArray, List.set_cons_zero, List.set_cons_succ]
                refine wpAnyF_one (i := 11) rfl (by kernel_rfl) (fun K hK => ?_)
                go_simp
                refine hK _ _ (fun h => absurd rfl h) ?_
                clear hK K
                refine wpAnyF_done (by kernel_rfl) ?_ _
                go_wp2_with fail
                go_roundw
                case rel => exact ⟨q + 1, by omega, by go_num, Lib.hid (pw_below_drewN (n := 1) (hBz.out.setCell (Nat.le_refl _) _)), Lib.hid (blk_drew (blk_far hVz.out (show wy.heap.size + 1 ≠ wy.heap.size by omega) _)), Lib.hid HNS.out⟩
                case measure => simp [intOf]; omega
              -- ]]
              · obtain rfl : q = nn := by omega
                have v0 : wz.cell? ⟨wy.heap.size + 1, 0, none⟩ = some (.slice (some ⟨wy.heap.size, 0, none⟩) q q) := (blk_cell hVz.out 0).trans rfl
                have v0' : wz.drew.cell? ⟨wy.heap.size + 1, 0, none⟩ = some (.slice (some ⟨wy.heap.size, 0, none⟩) q q) := v0
                go_wp2_with fail
                have hXX := hNz.out
                have hfa := fillL_all X
                rw [HXL.out] at hfa
                rw [hfa] at hXX
                have HWW0 := Lib.hid (hBy.out.trans (hBz.out.mono hBy.out.size))
                have HNN := Lib.hid (own_reads' (pw_own_below (pw_own_below hN.out hBy.out) hBz.out))
                have HXX := Lib.hid hXX; clear hXX hfa hNz
                have HRX := Lib.hid (own_reads' HXX.out)
                obtain ⟨AS, cS, rfl, hSR⟩ := (hSE.out.below HWW0.out).reads
                have HSR := Lib.hid hSR; clear hSR
                refine (equal_any _ _ _ _ _ _ X now wz HRX.out HNN.out).mono ?_
                rintro e w' ⟨rfl, qq, rfl⟩
                have HWW := Lib.hid (hB.out.trans (HWW0.out.mono hB.out.size))
                have v1 : (wz.drewN qq).cell? ⟨wy.heap.size + 1, 0, none⟩ = some (.slice (some ⟨wy.heap.size, 0, none⟩) q q) := v0
                clear v0'
                cases hsb : sameB X now
                · have HSB := Lib.hid hsb; clear hsb
                  by_cases hk100 : k = 100
                  · have HFIN : Hid (settleF (nextF q gs ds) [start] start 101 = none) := Lib.hid (by
                      rw [← hF.out]
                      exact settleF_stop hk (by rw [HX.out]; exact HSB.out) (.inl hk100))
                    subst hk100
                    go_wp2_with fail
                    go_ret3
                    refine ⟨?_, pw_below_drewN (n := _) HWW.out⟩
                    rw [HFIN.out]
                    exact rfl
                  · have hk1 : ((k : Int) == 100) = false := by simp; omega
                    go_wp2_with fail
                    refine (contains85_any AS _ cS S (some ⟨wy.heap.size, 0, none⟩) q q X (wy.heap.size + 1) _ ?_ ?_ ?_).mono ?_
                    · exact HSR.out.below (pw_below_drewN (n := _) (Below.refl _ _))
                    · exact HRX.out.below (pw_below_drewN (n := _) (Below.refl _ _))
                    · exact v0
                    rintro e w' ⟨rfl, q2, rfl⟩
                    cases hmb : memB S X
                    · have HMB := Lib.hid hmb; clear hmb
                      have HGO : Hid (settleF (nextF q gs ds) (S ++ [X]) X (101 - (k + 1)) = settleF (nextF q gs ds) [start] start 101) := Lib.hid (by
                        rw [← hF.out]
                        have := settleF_go (F := nextF q gs ds) (seen := S) (now := now) (r := k) (by omega) (by rw [HX.out]; exact HSB.out) (by rw [HX.out]; exact HMB.out)
                        rw [HX.out] at this
                        exact this.symm)
                      obtain ⟨i2, hi2, hy0, hy1, hy2⟩ := info_parts info22
                      go_wp2_with fail
                      have hbd : Below wz.heap.size wz (wz.drewN (qq + q2)).drew := pw_below_drewN (n := 1) (pw_below_drewN (n := qq + q2) (Below.refl _ _))
                      obtain ⟨cs, hcs, hput⟩ := ((hSE.out.below HWW0.out).below hbd).own
                      have hxd := (pw_own_below HXX.out hbd).alloc (.cells #[.slice (some ⟨wy.heap.size, 0, none⟩) q q] 22)
                      have hnw : some (wy.heap.size + 1) ≠ (Value.slice AS S.length cS).ownBlock := fun e' => by
                        obtain ⟨cs0, hcs0, _⟩ := hSE.out.own
                        have e1 := own_lt hcs0 _ e'.symm
                        have e2 := hBy.out.size
                        omega
                      have s0 : (wz.drewN (qq + q2)).drew.cell? ⟨wy.heap.size + 1, 0, none⟩ = some (.slice (some ⟨wy.heap.size, 0, none⟩) q q) := v0
                      have hsz2 : ((wz.drewN (qq + q2)).drew.alloc (.cells #[.slice (some ⟨wy.heap.size, 0, none⟩) q q] 22)).heap.size = wz.heap.size + 1 := Array.size_push _
                      have hwle : w.heap.size ≤ wz.heap.size := by have h1 := HWW.out.size; omega
                      have hwle2 : w.heap.size ≤ wy.heap.size := by have h1 := HBWY.out.size; omega
                      have HPUT := Lib.hid hput; clear hput
                      have HXD := Lib.hid hxd; clear hxd
                      have hba : Below (wz.drewN (qq + q2)).drew.heap.size (wz.drewN (qq + q2)).drew ((wz.drewN (qq + q2)).drew.alloc (.cells #[.slice (some ⟨wy.heap.size, 0, none⟩) q q] 22)) := (Below.refl _ _).alloc (Nat.le_refl _) _
                      have HBA := Lib.hid hba; clear hba
                      have HBD := Lib.hid hbd; clear hbd
                      refine wp_region_tail 6 (fun w' => w'.cell? ⟨wy.heap.size + 1, 0, none⟩ = some (.slice (some ⟨wy.heap.size, 0, none⟩) q q)) (by kernel_rfl) ?_
                      change wpAnyF _ _ _ _ _ _ _ _ _ (wz.drewN (qq + q2)).drew
                      have hwds : (wz.drewN (qq + q2)).drew.heap.size = wz.heap.size := rfl
                      generalize (wz.drewN (qq + q2)).drew = wd at *
                      have HWDS := Lib.hid hwds; clear hwds
                      have HSZ2 := Lib.hid hsz2; clear hsz2
                      refine wpAnyF_take (i := 0) (v := .slice AS S.length cS) rfl (by kernel_rfl) (by kernel_rfl) (by kernel_rfl) (by kernel_rfl) (fun _ _ _ h => h) (Or.inl ⟨by rfl, ?_⟩) s0 ?_
                      · intro W y0
                        go_simp
                      try simp only [Act.put, List.setIfInBounds_toArray, List.set_cons_zero, List.set_cons_succ]
                      refine wpAnyF_take (i := 1) (v := .slice (some ⟨wy.heap.size, 0, none⟩) q q) rfl (by kernel_rfl) (by kernel_rfl) (by kernel_rfl) (by kernel_rfl) (fun _ _ _ h => h) (Or.inl ⟨by rfl, ?_⟩) s0 ?_
                      · intro W y0
                        go_simp
                      try simp only [Act.put, List.setIfInBounds_toArray, List.set_cons_zero, List.set_cons_succ]
                      refine wpAnyF_take (i := 4) (v := .slice (some ⟨wy.heap.size, 0, none⟩) q q) rfl (by kernel_rfl) (by kernel_rfl) (by kernel_rfl) (by kernel_rfl) (fun _ _ _ h => h) (Or.inl ⟨by rfl, ?_⟩) s0 ?_
                      · intro W y0
                        go_simp
                      try simp only [Act.put, List.setIfInBounds_toArray, List.set_cons_zero, List.set_cons_succ]
                      refine wpAnyF_one (i := 2) rfl (by kernel_rfl) (fun K hK => ?_)
                      go_simp
                      refine hK _ _ (fun _ => pw_cell_below HBA.out s0) ?_
                      clear hK K
                      try simp only [Act.put, List.setIfInBounds_toArray, List.set_cons_zero, List.set_cons_succ]
                      refine wpAnyF_one (i := 3) rfl (by kernel_rfl) (fun K hK => ?_)
                      refine step_append_lies _ (by rfl) _ _ _ (by rfl) w.heap.size 22 i2 uV 1 24 Try.underlying94 hi2 hy0 hy1 hy2 rfl (by omega) (.slice AS S.length cS) S.length cs (by rfl) (hcs.alloc _) ⟨wd.heap.size, 0, none⟩ 1 1 [.slice (some ⟨wy.heap.size, 0, none⟩) q q] (by rfl) (by rfl) (World.news_of_block (cs := #[.slice (some ⟨wy.heap.size, 0, none⟩) q q]) (t := 22) (fr := (0, 0)) (heap_alloc_new _ _)) (by simp [Value.oneCell']) Nat.one_pos (by have := hSL.out; simp only [maxLen]; omega) (by have := hSL.out; omega) (by rw [HSZ2.out]; omega) (wd.heap.size + 1) (Array.size_push _) ?_
                      intro gg cap w3 hown1 hgrow hat hlt1
                      have z0 := hgrow.cell (pw_cell_below HBA.out s0) hnw
                      refine hK _ _ (fun _ => z0) ?_
                      clear hK K
                      try simp only [Act.put, List.setIfInBounds_toArray, List.set_cons_zero, List.set_cons_succ]
                      have HW3 := Lib.hid (show SeenOk w3 w.heap.size (.slice (some ⟨gg, 0, none⟩) (S.length + 1) cap) (S ++ [X]) from HPUT.out _ w3 _ _ X HBA.out hgrow (by have := hSL.out; omega) hown1 (by
                        rw [HXL.out]
                        exact own_other (own_mono HXD.out hwle2) hgrow (own_type_ne (own_mono HXD.out hwle2) (hcs.alloc _) (by decide))))
                      have HX3 := Lib.hid (own_other (own_mono HXD.out hwle2) hgrow (own_type_ne (own_mono HXD.out hwle2) (hcs.alloc _) (by decide)))
                      have HB3 : Hid (Below w.heap.size w w3) := Lib.hid (((HWW.out.trans (HBD.out.mono hwle)).trans (HBA.out.mono (by rw [HWDS.out]; exact hwle))).grown hgrow (by rw [HSZ2.out]; omega) (fun k hk => own_base hcs k hk))
                      clear hgrow hown1 hat hlt1 hcs hnw s0
                      refine wpAnyF_one (i := 5) rfl (by kernel_rfl) (fun K hK => ?_)
                      go_simp
                      refine hK _ _ (fun _ => z0) ?_
                      clear hK K
                      try simp only [Act.put, List.setIfInBounds_toArray, List.set_cons_zero, List.set_cons_succ]
                      refine wpAnyF_one (i := 6) rfl (by kernel_rfl) (fun K hK => ?_)
                      go_simp
                      refine hK _ _ (fun h => absurd rfl h) ?_
                      clear hK K
                      refine wpAnyF_done (by kernel_rfl) ?_ _
                      go_wp2_with fail
                      go_roundw
                      case rel => exact ⟨k + 1, X, S ++ [X], _, _, by omega, by go_num, rfl, HX3, by first | exact HW3 | (have h := HW3; simpa using h), Lib.hid (by rw [List.length_append, hSL.out]; rfl), HXL, HXV, HB3, HGO⟩
                      case measure => simp [intOf]; omega
                    · have HMB := Lib.hid hmb; clear hmb
                      have HFIN : Hid (settleF (nextF q gs ds) [start] start 101 = none) := Lib.hid (by
                        rw [← hF.out]
                        exact settleF_stop hk (by rw [HX.out]; exact HSB.out) (.inr (by rw [HX.out]; exact HMB.out)))
                      go_wp2_with fail
                      go_ret3
                      refine ⟨?_, pw_below_drewN (n := _) HWW.out⟩
                      rw [HFIN.out]
                      exact rfl
                · have HSB := Lib.hid hsb; clear hsb
                  have HFIN : Hid (settleF (nextF q gs ds) [start] start 101 = some (now, k)) := Lib.hid (by
                    rw [← hF.out]
                    exact settleF_done hk (by rw [HX.out]; exact HSB.out))
                  go_wp2_with fail
                  go_ret3
                  refine ⟨?_, pw_below_drewN (n := qq) HWW.out⟩
                  rw [HFIN.out]
                  refine ⟨A2, c2, by rw [hNL.out]; rfl, ?_⟩
                  rw [hNL.out]
                  exact HNN.out
end Go.Proofs.Ytobdhdehmkmjcaa
