/- Words and walks for the row RowLogicRuns, put together: M2. -/
import Derived.Test.YtobdhdehmkmjcaaRuns4
import Derived.IntWalk
namespace Go.Proofs.Ytobdhdehmkmjcaa
set_option linter.unusedVariables false
set_option linter.unusedSimpArgs false
open Go.RowKit Go.Proofs.YtobdhdehmkmjcaaW.PrintWords Go.Proofs.YtobdhdehmkmjcaaW.PrintLast

def rowsTo (nn : Nat) (gs : List GateL) (gv : List Int) : Nat → List (List Int)
  | 0 => List.replicate nn []
  | k + 1 => addAt (rowsTo nn gs gv k) (gs.getD k zGate).out (gv.getD k 0)
theorem rowsTo_len (nn : Nat) (gs : List GateL) (gv : List Int) : ∀ k, (rowsTo nn gs gv k).length = nn
  | 0 => by simp [rowsTo]
  | k + 1 => by rw [rowsTo, addAt_length, rowsTo_len]
theorem rowsTo_short (nn : Nat) (gs : List GateL) (gv : List Int) (o : Nat) : ∀ k, ((rowsTo nn gs gv k).getD o []).length ≤ k
  | 0 => by rw [rowsTo, rep_len]; exact Nat.le_refl _
  | k + 1 => by
    have h1 := addAt_len (rowsTo nn gs gv k) (gs.getD k zGate).out (gv.getD k 0) o
    have h2 := rowsTo_short nn gs gv o k
    rw [rowsTo]
    omega
theorem rowsTo_res {nn : Nat} {gs : List GateL} {gv : List Int} (hg : gs.all (gateOk nn) = true) (n : Nat) : ∀ k, k ≤ gs.length → resF ((rowsTo nn gs gv k).getD n []) = accG gs gv n k
  | 0, _ => by
    have : (List.replicate nn ([] : List Int)).getD n [] = [] := List.eq_nil_of_length_eq_zero (rep_len nn n)
    rw [rowsTo, this]; rfl
  | k + 1, hk => by
    have ho := gateOk_out (gate_ok hg (show k < gs.length by omega))
    rw [rowsTo, resF_addAt ho.1 (by rw [rowsTo_len]; omega), rowsTo_res hg n k (by omega)]
    rfl
theorem rowsTo_ok {nn : Nat} {gs : List GateL} {gv : List Int} (hv : gv.all isVal = true) : ∀ k, k ≤ gv.length → allOk (rowsTo nn gs gv k)
  | 0, _ => allOk_rep nn
  | k + 1, hk => allOk_add (rowsTo_ok hv k (by omega)) _ _ (all_getD hv (by omega))
theorem Rows.setCell {W : World} {D b : Nat} {L : List (List Int)} (h : Rows W D b L) {p : Addr} (hD : p.block ≠ D) (hr : p.block < b ∨ ∃ cs t, W.heap[p.block]? = some (.cells cs t (0, 0)) ∧ (3 : TypeId) ≠ t) (u : Value) : Rows (W.setCell p u) D b L := by
  obtain ⟨vs, h1, h2, h3, h4, h5⟩ := h
  refine ⟨vs, h1, h2, blk_far h3 (Ne.symm hD) u, fun i hi => own_setCell (h4 i hi) (fun e => ?_) u, h5⟩
  rcases hr with hr | ⟨cs, t, hr, ht⟩
  · have := own_base (h4 i hi) _ e.symm; omega
  · exact own_ne (h4 i hi) hr ht e
theorem Rows.drewN {W : World} {D b : Nat} {L : List (List Int)} (h : Rows W D b L) (n : Nat) : Rows (W.drewN n) D b L := h
theorem own_ne_map {w : World} {base n size g : Nat} {e : TypeId} {v : Value} {xs : List Value} {m : Array (Value × Value)} {k : TypeId} {o : Obj} (h : w.ownsRow base e size v n xs) (hg : w.heap[g]? = some o) (ho : ∀ cs t fr, o ≠ .cells cs t fr) : some g ≠ v.ownBlock := fun e' => by
  rcases h.2 with ⟨rfl, _⟩ | ⟨q, cap, cur, rfl, h3, h4, _⟩
  · cases e'
  · injection e' with e'
    have e2 : g = q := e'
    subst e2
    rw [hg] at h4
    injection h4 with h4
    exact ho _ _ _ h4

theorem own_get {W : World} {base g n cap : Nat} {e : TypeId} {k : IntKind} {xs : List Int} (h : W.ownsRow base e 1 (.slice (some ⟨g, 0, none⟩) n cap) n (nums k xs)) (i : Nat) (hi : i < n) : W.cell? ⟨g, i, none⟩ = some (.int k (xs.getD i 0)) ∧ W.frozen? ⟨g, i, none⟩ = false :=
  own_at h (i : Int) (by omega) (by omega)
theorem own_put {W : World} {base g n cap : Nat} {e : TypeId} {k : IntKind} {xs : List Int} (h : W.ownsRow base e 1 (.slice (some ⟨g, 0, none⟩) n cap) n (nums k xs)) (i : Nat) (x : Int) : (W.setCell ⟨g, i, none⟩ (.int k x)).ownsRow base e 1 (.slice (some ⟨g, 0, none⟩) n cap) n (nums k (xs.set i x)) :=
  (own_store h (i : Int) x).1
theorem own_getB {W : World} {base g n cap : Nat} {e : TypeId} {xs : List Bool} (h : W.ownsRow base e 1 (.slice (some ⟨g, 0, none⟩) n cap) n (bools xs)) (i : Nat) (hi : i < n) : W.cell? ⟨g, i, none⟩ = some (.bool (xs.getD i false)) ∧ W.frozen? ⟨g, i, none⟩ = false :=
  own_at_of (d := false) h (i : Int) (by omega) (by omega)
theorem own_putB {W : World} {base g n cap : Nat} {e : TypeId} {xs : List Bool} (h : W.ownsRow base e 1 (.slice (some ⟨g, 0, none⟩) n cap) n (bools xs)) (i : Nat) (x : Bool) : (W.setCell ⟨g, i, none⟩ (.bool x)).ownsRow base e 1 (.slice (some ⟨g, 0, none⟩) n cap) n (bools (xs.set i x)) :=
  (own_store_of h (i : Int) x).1

theorem changedOf_len (nn : Nat) (a b : List Int) : (changedOf nn a b).length = nn := by simp [changedOf]

set_option maxHeartbeats 8000000 in
set_option maxRecDepth 100000 in
theorem resolve92_any (w0 w : World) (gr gp mb nn gn gc dn : Nat) (GA : Option Addr) (gs : List GateL) (pv qv ev : Value) (gD cD gN cN gO cO : Nat) (drv nets X : List Int) (outs : List Bool)
    (hB : Below w0.heap.size w0 w) (hg : RdGates w0 GA gn gs)
    (hr : w.heap[gr]? = some (.cells #[.pointer (some ⟨gp, 0, none⟩), pv, qv, .slice (some ⟨gD, 0, none⟩) dn cD, .slice (some ⟨gO, 0, none⟩) nn cO, .slice (some ⟨gN, 0, none⟩) nn cN, ev] 108 (0, 0)))
    (hp : PlayerB w gp mb (nn : Int) GA gn gc)
    (hd : w.ownsRow w0.heap.size 3 1 (.slice (some ⟨gD, 0, none⟩) dn cD) dn (nums .i64 drv))
    (ho : w.ownsRow w0.heap.size 4 1 (.slice (some ⟨gO, 0, none⟩) nn cO) nn (bools outs))
    (hn : w.ownsRow w0.heap.size 3 1 (.slice (some ⟨gN, 0, none⟩) nn cN) nn (nums .i64 nets))
    (hdn : dn = gn + nn) (hne : gD ≠ gN) (hv : drv.all isVal = true) (hgo : gs.all (gateOk nn) = true) (h1 : 1 ≤ nn) (h40 : nn ≤ 40) (hg60 : gn ≤ 60) (hXl : X.length = nn)
    (hX : ∀ n, n < nn → X.getD n 0 = if outs.getD n false = true then meetF (accG gs drv n gn) (drv.getD (gn + n) 0) else accG gs drv n gn) :
    Calls Try.prog 92 #[.pointer (some ⟨gr, 0, none⟩)] w fun e w' => ∃ g', e = .returned (.slice (some ⟨g', 0, none⟩) nn nn) ∧ w'.ownsRow w.heap.size 4 1 (.slice (some ⟨g', 0, none⟩) nn nn) nn (bools (changedOf nn X nets)) ∧
      w'.ownsRow w0.heap.size 3 1 (.slice (some ⟨gN, 0, none⟩) nn cN) nn (nums .i64 X) ∧ KeptS (· = gN) w w' := by
  obtain ⟨i0, hi0, hz0, hz1, hz2⟩ := info_parts info3
  have hgN := own_lt hn gN rfl
  have hgD := own_lt hd gD rfl
  have hgr := blk_lt hr
  have n1 : gr ≠ gN := fun e => own_ne hn hr (by decide) (by rw [e]; rfl)
  have n2 : gp ≠ gN := fun e => own_ne hn hp.1 (by decide) (by rw [e]; rfl)
  have n3 : mb ≠ gN := fun e => own_ne_map (m := #[]) (k := 0) hn hp.2 (fun _ _ _ h => by cases h) (by rw [e]; rfl)
  have n4 : gO ≠ gN := fun e => by rcases own_type_ne ho hn (by decide) with h | h; cases h; exact h (by rw [e]; rfl)
  have HND := Lib.hid (show drv.length = dn by have := hd.1; simpa [nums] using this)
  have HNO := Lib.hid (show outs.length = nn by have := ho.1; simpa [encs] using this)
  have HNN := Lib.hid (show nets.length = nn by have := hn.1; simpa [nums] using this)
  have HGL := Lib.hid hg.1
  have HB := Lib.hid hB; clear hB
  have HG := Lib.hid hg; clear hg
  have HR := Lib.hid hr; clear hr
  have HP := Lib.hid hp; clear hp
  have HD := Lib.hid hd; clear hd
  have HO := Lib.hid ho; clear ho
  have HN := Lib.hid hn; clear hn
  have HV := Lib.hid hv; clear hv
  have HGO := Lib.hid hgo; clear hgo
  have HX := Lib.hid hX; clear hX
  have HXL := Lib.hid hXl; clear hXl
  have HDN := Lib.hid hdn; clear hdn
  have HK0 := Lib.hid (KeptS.refl (· = gN) w)
  have HBW : Hid (∀ W, KeptS (· = gN) w W → Below w0.heap.size w0 W) := Lib.hid (fun W h => HB.out.trans (h.below HB.out.size (fun i hi => by subst hi; exact own_base HN.out _ rfl)))
  have HRW : Hid (∀ W, KeptS (· = gN) w W → W.heap[gr]? = some (.cells #[.pointer (some ⟨gp, 0, none⟩), pv, qv, .slice (some ⟨gD, 0, none⟩) dn cD, .slice (some ⟨gO, 0, none⟩) nn cO, .slice (some ⟨gN, 0, none⟩) nn cN, ev] 108 (0, 0))) := Lib.hid (fun W h => h.blk HR.out n1)
  have HPW : Hid (∀ W, KeptS (· = gN) w W → PlayerB W gp mb (nn : Int) GA gn gc) := Lib.hid (fun W h => HP.out.kept h n2 n3)
  have HDW : Hid (∀ W, KeptS (· = gN) w W → W.ownsRow w0.heap.size 3 1 (.slice (some ⟨gD, 0, none⟩) dn cD) dn (nums .i64 drv)) := Lib.hid (fun W h => h.own HD.out (fun g hg => by have e : gD = g := Option.some.inj hg; rw [← e]; exact hne))
  have HOW : Hid (∀ W, KeptS (· = gN) w W → W.ownsRow w0.heap.size 4 1 (.slice (some ⟨gO, 0, none⟩) nn cO) nn (bools outs)) := Lib.hid (fun W h => h.own HO.out (fun g hg => by have e : gO = g := Option.some.inj hg; rw [← e]; exact n4))
  have r0 : w.cell? ⟨gr, 0, none⟩ = some (.pointer (some ⟨gp, 0, none⟩)) := (blk_cell HR.out 0).trans rfl
  have p0 : w.cell? ⟨gp, 0, none⟩ = some (.int .i64 nn) := HP.out.player.c0
  have hmk := make94 nn (by omega) w
  have HROW := Lib.hid (rows_made w nn)
  have hwm : Below w.heap.size w (w.alloc (.cells (madeCells #[uV] nn) 22)) := (Below.refl _ _).alloc (Nat.le_refl _) _
  have HWM := Lib.hid hwm; clear hwm
  go_enter Try.func92, Try.ntmps92
  have r0' : (w.alloc (.cells (madeCells #[uV] nn) 22)).cell? ⟨gr, 0, none⟩ = some (.pointer (some ⟨gp, 0, none⟩)) := pw_cell_below HWM.out r0
  have p1' : (w.alloc (.cells (madeCells #[uV] nn) 22)).cell? ⟨gp, 1, none⟩ = some (.slice GA gn gc) := pw_cell_below HWM.out HP.out.player.c1
  have hgn9 : gn ≤ 9223372036854775807 := by omega
  go_wp2_with fail
  clear hmk r0 p0 r0' p1'
  go_loopw [27] (fun i wx => ∃ j : Nat, j ≤ gn ∧ i = .int .i64 j ∧ Hid (Rows wx w.heap.size (w.heap.size + 1) (rowsTo nn gs drv j)) ∧ Hid (Below w.heap.size w wx)) (fun i _ => gn - (intOf i).toNat)
  case atStart => exact ⟨0, Nat.zero_le _, rfl, HROW, HWM⟩
  case round =>
    obtain ⟨j, hj, rfl, hRO, hBx⟩ := hrel
    obtain ⟨wx, rfl⟩ : ∃ wx : World, wx = wr := ⟨_, rfl⟩
    clear HROW HWM
    by_cases hlt : j < gn
    · have hlt2 : decide ((j : Int) < (gn : Int)) = true := by simp; omega
      have HKX : Hid (KeptS (· = gN) w wx) := Lib.hid (KeptS.of_below hBx.out)
      -- [[
      obtain ⟨ad, rfl, hgj⟩ := (HG.out.below (HBW.out wx HKX.out)).at_ j hlt
      have hok := gate_ok HGO.out (i := j) (by rw [HGL.out]; exact hlt)
      have hsh := rowsTo_short nn gs drv
      obtain ⟨sx, _⟩ := own_get (HDW.out wx HKX.out) j (by have := HDN.out; omega)
      have hsucc : rowsTo nn gs drv (j + 1) = addAt (rowsTo nn gs drv j) (gs.getD j zGate).out (drv.getD j 0) := rfl
      have hLL := rowsTo_len nn gs drv j
      generalize drv.getD j 0 = x at sx hsucc
      obtain ⟨L2, hL2⟩ : ∃ L2, rowsTo nn gs drv (j + 1) = L2 := ⟨_, rfl⟩
      rw [hL2] at hsucc
      have HL2 := Lib.hid hL2; clear hL2
      have hshj := fun o => hsh o j
      clear hsh
      generalize rowsTo nn gs drv j = L at *
      generalize gs.getD j zGate = G at *
      obtain ⟨q1, ⟨AI, ci, q2, q3, q4⟩, q5, q6⟩ := hgj
      obtain ⟨oo0, oo1⟩ := gateOk_out hok
      obtain ⟨o, ho⟩ := Int.eq_ofNat_of_zero_le oo0
      have hon : o < nn := by omega
      obtain ⟨v, v1, v2, v3, v4, v5, v6⟩ := hRO.out.at_ o (by rw [hLL]; exact hon)
      have hx' : (G.out).toNat = o := by rw [ho]; rfl
      unfold addAt at hsucc
      rw [hx'] at hsucc
      have hlo := hshj o
      generalize L.getD o [] = Lo at *
      have hlb : (Lo.length + 1) * 8 ≤ 140737488355328 := by omega
      rw [ho] at q5
      have qm := q3.2.1
      have V6 := Lib.hid v6; clear v6
      have V2 := Lib.hid v2; clear v2
      have HSU := Lib.hid hsucc; clear hsucc
      have HLL := Lib.hid (show Lo.length + 1 ≤ maxLen by simp only [maxLen]; omega)
      have HLB := Lib.hid hlb; clear hlb
      clear hx' hshj hlo hok oo0 oo1 ho
      have q3' := Lib.hid q3; clear q3
      have hg0 : (wx.alloc (.cells #[.int .i64 G.kind, .slice AI G.ins.length ci, .int .i64 o, .int .i64 G.delay] 88)).drew.heap[wx.heap.size]? = some (.cells #[.int .i64 G.kind, .slice AI G.ins.length ci, .int .i64 o, .int .i64 G.delay] 88 (0, 0)) := blk_new _ _
      have w1z : Below wx.heap.size wx (wx.alloc (.cells #[.int .i64 G.kind, .slice AI G.ins.length ci, .int .i64 o, .int .i64 G.delay] 88)).drew := pw_below_drewN (n := 1) ((Below.refl _ _).alloc (Nat.le_refl _) _)
      have s0 : (wx.alloc (.cells #[.int .i64 G.kind, .slice AI G.ins.length ci, .int .i64 o, .int .i64 G.delay] 88)).drew.cell? ⟨w.heap.size, o, none⟩ = some v := pw_cell_below w1z v1
      have s1 : (wx.alloc (.cells #[.int .i64 G.kind, .slice AI G.ins.length ci, .int .i64 o, .int .i64 G.delay] 88)).drew.cell? ⟨wx.heap.size, 2, none⟩ = some (.int .i64 o) := (blk_cell hg0 2).trans rfl
      have s2 : (wx.alloc (.cells #[.int .i64 G.kind, .slice AI G.ins.length ci, .int .i64 o, .int .i64 G.delay] 88)).drew.cell? ⟨gr, 3, none⟩ = some (.slice (some ⟨gD, 0, none⟩) dn cD) := pw_cell_below w1z ((blk_cell (HRW.out wx HKX.out) 3).trans rfl)
      have s3 : (wx.alloc (.cells #[.int .i64 G.kind, .slice AI G.ins.length ci, .int .i64 o, .int .i64 G.delay] 88)).drew.cell? ⟨gD, j, none⟩ = some (.int .i64 x) := pw_cell_below w1z sx
      have hsz1 : (wx.alloc (.cells #[.int .i64 G.kind, .slice AI G.ins.length ci, .int .i64 o, .int .i64 G.delay] 88)).drew.heap.size = wx.heap.size + 1 := by simp
      have n1' : some w.heap.size ≠ v.ownBlock := ne_of_lt_row V2.out (.inl (Nat.lt_succ_self _))
      have n2' : some wx.heap.size ≠ v.ownBlock := ne_of_lt_row V2.out (.inr (Nat.le_refl _))
      have n3' : some gr ≠ v.ownBlock := ne_of_lt_row V2.out (.inl (by omega))
      have n4' : some gD ≠ v.ownBlock := ne_of_lt_row V2.out (.inl (by omega))
      have hf0 : (wx.alloc (.cells #[.int .i64 G.kind, .slice AI G.ins.length ci, .int .i64 o, .int .i64 G.delay] 88)).drew.frozen? ⟨w.heap.size, o, none⟩ = false := (World.frozen?_of_block (w1z.block _ v5)).trans v3
      have W1Z := Lib.hid w1z; clear w1z
      have hsx := hBx.out.size
      have hjd : (j : Int) < (dn : Int) := by have := HDN.out; omega
      have hdd : (0 : Int) ≤ (j : Int) := by omega
      clear sx v1 v3 q4
      go_wp2_with fail
      clear hg0
      refine wp_region_named 18 (fun w' => w'.cell? ⟨w.heap.size, o, none⟩ = some v ∧ w'.cell? ⟨wx.heap.size, 2, none⟩ = some (.int .i64 o) ∧ w'.cell? ⟨gr, 3, none⟩ = some (.slice (some ⟨gD, 0, none⟩) dn cD) ∧ w'.cell? ⟨gD, j, none⟩ = some (.int .i64 x)) (fun w' => (w'.cell? ⟨w.heap.size, o, none⟩ = some v) ∧ (w'.cell? ⟨wx.heap.size, 2, none⟩ = some (.int .i64 o)) ∧ (w'.cell? ⟨gr, 3, none⟩ = some (.slice (some ⟨gD, 0, none⟩) dn cD)) ∧ (w'.cell? ⟨gD, j, none⟩ = some (.int .i64 x)) ∧ (Hid (Below wx.heap.size wx w')) ∧ (w'.heap.size = wx.heap.size + 1) ∧ (w'.frozen? ⟨w.heap.size, o, none⟩ = false)) (by kernel_rfl) ⟨s0, s1, s2, s3, W1Z, hsz1, hf0⟩ ?_
      rintro wc ⟨s0, s1, s2, s3, W1Z, hsz1, hf0⟩
      refine wpAnyF_take (i := 0) (v := .slice (some ⟨w.heap.size, 0, none⟩) nn nn) rfl (by kernel_rfl) (by kernel_rfl) (by kernel_rfl) (by kernel_rfl) (fun _ _ _ h => h) (Or.inl ⟨by rfl, ?_⟩) ⟨s0, s1, s2, s3⟩ ?_
      · rintro W ⟨y0, y1, y2, y3⟩
        go_simp
      try simp only [Act.put, List.setIfInBounds_toArray, List.set_cons_zero, List.set_cons_succ]
      refine wpAnyF_take (i := 1) (v := .pointer (some ⟨wx.heap.size, 2, none⟩)) rfl (by kernel_rfl) (by kernel_rfl) (by kernel_rfl) (by kernel_rfl) (fun _ _ _ h => h) (Or.inl ⟨by rfl, ?_⟩) ⟨s0, s1, s2, s3⟩ ?_
      · rintro W ⟨y0, y1, y2, y3⟩
        go_simp
      try simp only [Act.put, List.setIfInBounds_toArray, List.set_cons_zero, List.set_cons_succ]
      refine wpAnyF_take (i := 2) (v := .int .i64 o) rfl (by kernel_rfl) (by kernel_rfl) (by kernel_rfl) (by kernel_rfl) (fun _ _ _ h => h) (Or.inl ⟨by rfl, ?_⟩) ⟨s0, s1, s2, s3⟩ ?_
      · rintro W ⟨y0, y1, y2, y3⟩
        go_simp
      try simp only [Act.put, List.setIfInBounds_toArray, List.set_cons_zero, List.set_cons_succ]
      refine wpAnyF_take (i := 3) (v := .slice (some ⟨w.heap.size, 0, none⟩) nn nn) rfl (by kernel_rfl) (by kernel_rfl) (by kernel_rfl) (by kernel_rfl) (fun _ _ _ h => h) (Or.inl ⟨by rfl, ?_⟩) ⟨s0, s1, s2, s3⟩ ?_
      · rintro W ⟨y0, y1, y2, y3⟩
        go_simp
      try simp only [Act.put, List.setIfInBounds_toArray, List.set_cons_zero, List.set_cons_succ]
      refine wpAnyF_take (i := 4) (v := .pointer (some ⟨wx.heap.size, 2, none⟩)) rfl (by kernel_rfl) (by kernel_rfl) (by kernel_rfl) (by kernel_rfl) (fun _ _ _ h => h) (Or.inl ⟨by rfl, ?_⟩) ⟨s0, s1, s2, s3⟩ ?_
      · rintro W ⟨y0, y1, y2, y3⟩
        go_simp
      try simp only [Act.put, List.setIfInBounds_toArray, List.set_cons_zero, List.set_cons_succ]
      refine wpAnyF_take (i := 5) (v := .int .i64 o) rfl (by kernel_rfl) (by kernel_rfl) (by kernel_rfl) (by kernel_rfl) (fun _ _ _ h => h) (Or.inl ⟨by rfl, ?_⟩) ⟨s0, s1, s2, s3⟩ ?_
      · rintro W ⟨y0, y1, y2, y3⟩
        go_simp
      try simp only [Act.put, List.setIfInBounds_toArray, List.set_cons_zero, List.set_cons_succ]
      refine wpAnyF_take (i := 6) (v := .pointer (some ⟨w.heap.size, o, none⟩)) rfl (by kernel_rfl) (by kernel_rfl) (by kernel_rfl) (by kernel_rfl) (fun _ _ _ h => h) (Or.inl ⟨by rfl, ?_⟩) ⟨s0, s1, s2, s3⟩ ?_
      · rintro W ⟨y0, y1, y2, y3⟩
        go_simp
      try simp only [Act.put, List.setIfInBounds_toArray, List.set_cons_zero, List.set_cons_succ]
      refine wpAnyF_take (i := 7) (v := v) rfl (by kernel_rfl) (by kernel_rfl) (by kernel_rfl) (by kernel_rfl) (fun _ _ _ h => h) (Or.inl ⟨by rfl, ?_⟩) ⟨s0, s1, s2, s3⟩ ?_
      · rintro W ⟨y0, y1, y2, y3⟩
        go_simp
      try simp only [Act.put, List.setIfInBounds_toArray, List.set_cons_zero, List.set_cons_succ]
      refine wpAnyF_take (i := 8) (v := .pointer (some ⟨gr, 0, none⟩)) rfl (by kernel_rfl) (by kernel_rfl) (by kernel_rfl) (by kernel_rfl) (fun _ _ _ h => h) (Or.inl ⟨by rfl, ?_⟩) ⟨s0, s1, s2, s3⟩ ?_
      · rintro W ⟨y0, y1, y2, y3⟩
        go_simp
      try simp only [Act.put, List.setIfInBounds_toArray, List.set_cons_zero, List.set_cons_succ]
      refine wpAnyF_take (i := 9) (v := .pointer (some ⟨gr, 0, none⟩)) rfl (by kernel_rfl) (by kernel_rfl) (by kernel_rfl) (by kernel_rfl) (fun _ _ _ h => h) (Or.inl ⟨by rfl, ?_⟩) ⟨s0, s1, s2, s3⟩ ?_
      · rintro W ⟨y0, y1, y2, y3⟩
        go_simp
      try simp only [Act.put, List.setIfInBounds_toArray, List.set_cons_zero, List.set_cons_succ]
      refine wpAnyF_take (i := 10) (v := .pointer (some ⟨gr, 3, none⟩)) rfl (by kernel_rfl) (by kernel_rfl) (by kernel_rfl) (by kernel_rfl) (fun _ _ _ h => h) (Or.inl ⟨by rfl, ?_⟩) ⟨s0, s1, s2, s3⟩ ?_
      · rintro W ⟨y0, y1, y2, y3⟩
        go_simp
      try simp only [Act.put, List.setIfInBounds_toArray, List.set_cons_zero, List.set_cons_succ]
      refine wpAnyF_take (i := 11) (v := .slice (some ⟨gD, 0, none⟩) dn cD) rfl (by kernel_rfl) (by kernel_rfl) (by kernel_rfl) (by kernel_rfl) (fun _ _ _ h => h) (Or.inl ⟨by rfl, ?_⟩) ⟨s0, s1, s2, s3⟩ ?_
      · rintro W ⟨y0, y1, y2, y3⟩
        go_simp
      try simp only [Act.put, List.setIfInBounds_toArray, List.set_cons_zero, List.set_cons_succ]
      refine wpAnyF_take (i := 12) (v := .int .i64 j) rfl (by kernel_rfl) (by kernel_rfl) (by kernel_rfl) (by kernel_rfl) (fun _ _ _ h => h) (Or.inl ⟨by rfl, ?_⟩) ⟨s0, s1, s2, s3⟩ ?_
      · rintro W ⟨y0, y1, y2, y3⟩
        go_simp
      try simp only [Act.put, List.setIfInBounds_toArray, List.set_cons_zero, List.set_cons_succ]
      refine wpAnyF_take (i := 13) (v := .pointer (some ⟨gD, j, none⟩)) rfl (by kernel_rfl) (by kernel_rfl) (by kernel_rfl) (by kernel_rfl) (fun _ _ _ h => h) (Or.inl ⟨by rfl, ?_⟩) ⟨s0, s1, s2, s3⟩ ?_
      · rintro W ⟨y0, y1, y2, y3⟩
        go_simp
      try simp only [Act.put, List.setIfInBounds_toArray, List.set_cons_zero, List.set_cons_succ]
      refine wpAnyF_take (i := 14) (v := .int .i64 x) rfl (by kernel_rfl) (by kernel_rfl) (by kernel_rfl) (by kernel_rfl) (fun _ _ _ h => h) (Or.inl ⟨by rfl, ?_⟩) ⟨s0, s1, s2, s3⟩ ?_
      · rintro W ⟨y0, y1, y2, y3⟩
        go_simp
      try simp only [Act.put, List.setIfInBounds_toArray, List.set_cons_zero, List.set_cons_succ]
      have hwcb : Below wc.heap.size wc (wc.alloc (.cells #[.int .i64 x] 3)) := (Below.refl _ _).alloc (Nat.le_refl _) _
      have hszc : (wc.alloc (.cells #[.int .i64 x] 3)).heap.size = wc.heap.size + 1 := Array.size_push _
      have hqq : w.heap.size + 1 ≤ (wc.alloc (.cells #[.int .i64 x] 3)).heap.size := by rw [hszc, hsz1]; omega
      have hown0 := (pw_own_below V2.out W1Z.out).alloc (.cells #[.int .i64 x] 3)
      have HSZ1 := Lib.hid hsz1; clear hsz1 hszc
      refine wpAnyF_one (i := 15) rfl (by kernel_rfl) (fun K hK => ?_)
      go_simp
      refine hK _ _ (fun _ => ⟨pw_cell_below hwcb s0, pw_cell_below hwcb s1, pw_cell_below hwcb s2, pw_cell_below hwcb s3⟩) ?_
      clear hK K
      try simp only [Act.put, List.setIfInBounds_toArray, List.set_cons_zero, List.set_cons_succ]
      refine wpAnyF_one (i := 16) rfl (by kernel_rfl) (fun K hK => ?_)
      refine step_append_lies _ (by rfl) _ _ _ (by rfl) (w.heap.size + 1) 3 i0 (.int .i64 0) 1 8 Try.underlying22 hi0 hz0 hz1 hz2 rfl (by omega) v Lo.length (nums .i64 Lo) (by rfl) hown0 ⟨wc.heap.size, 0, none⟩ 1 1 [.int .i64 x] (by rfl) (by rfl) (World.news_of_block (cs := #[.int .i64 x]) (t := 3) (fr := (0, 0)) (heap_alloc_new wc _)) (by simp [Value.oneCell']) Nat.one_pos HLL.out HLB.out hqq (wc.heap.size + 1) (Array.size_push _) ?_
      intro gg cap w3 hown1 hgrow hat hlt1
      have z0 := hgrow.cell (pw_cell_below hwcb s0) n1'
      have z1 := hgrow.cell (pw_cell_below hwcb s1) n2'
      have z2 := hgrow.cell (pw_cell_below hwcb s2) n3'
      have z3 := hgrow.cell (pw_cell_below hwcb s3) n4'
      have zf := (hgrow.frozen_far ⟨w.heap.size, o, none⟩ (Nat.lt_of_lt_of_le (World.block_lt_of_cell? wc _ s0) hwcb.size) n1').trans ((World.frozen?_of_block (hwcb.block _ (World.block_lt_of_cell? wc _ s0))).trans hf0)
      refine hK _ _ (fun _ => ⟨z0, z1, z2, z3⟩) ?_
      clear hK K
      try simp only [Act.put, List.setIfInBounds_toArray, List.set_cons_zero, List.set_cons_succ]
      have HWCB := Lib.hid hwcb; clear hwcb
      have HGROW := Lib.hid hgrow; clear hgrow
      have HOWN1 := Lib.hid hown1; clear hown1
      have HAT := Lib.hid hat; clear hat
      clear s0 s1 s2 s3 hown0
      refine wpAnyF_one (i := 17) rfl (by kernel_rfl) (fun K hK => ?_)
      go_simp
      refine hK _ _ (fun _ => ⟨z0, z1, z2, z3⟩) ?_
      clear hK K
      try simp only [Act.put, List.setIfInBounds_toArray, List.set_cons_zero, List.set_cons_succ]
      refine wpAnyF_one (i := 18) rfl (by kernel_rfl) (fun K hK => ?_)
      go_simp
      refine hK _ _ (fun h => absurd rfl h) ?_
      clear hK K
      refine wpAnyF_done (by kernel_rfl) ?_ _
      have HROW : Hid (Rows (w3.setCell ⟨w.heap.size, o, none⟩ (.slice (some ⟨gg, 0, none⟩) (Lo.length + 1) cap)) w.heap.size (w.heap.size + 1) L2) := Lib.hid (by
        rw [HSU.out]
        refine V6.out (wc.alloc (.cells #[.int .i64 x] 3)) w3 _ x (W1Z.out.trans (HWCB.out.mono W1Z.out.size)) HGROW.out ?_ ?_
        · have h := HOWN1.out
          simpa [nums] using h
        · rcases HAT.out with h | h
          · exact .inl h
          · exact .inr ⟨gg, rfl, by have := HSZ1.out; omega⟩)
      have HBN : Hid (Below w.heap.size w (w3.setCell ⟨w.heap.size, o, none⟩ (.slice (some ⟨gg, 0, none⟩) (Lo.length + 1) cap))) := Lib.hid (by
        have hall := (hBx.out.trans (W1Z.out.mono hBx.out.size)).trans (HWCB.out.mono (Nat.le_trans hBx.out.size W1Z.out.size))
        exact (hall.grown HGROW.out (by omega) (fun k hk => by have := own_base V2.out k hk; omega)).setCell (Nat.le_refl _) _)
      go_wp2_with fail
      go_roundw
      case rel => exact ⟨j + 1, by omega, by go_num, Lib.hid (by rw [HL2.out]; exact HROW.out), HBN⟩
      case measure => simp [intOf]; omega
      -- ]]
    · have hlt2 : decide ((j : Int) < (gn : Int)) = false := by simp; omega
      obtain rfl : j = gn := by omega
      have HKX : Hid (KeptS (· = gN) w wx) := Lib.hid (KeptS.of_below hBx.out)
      have r0 : wx.cell? ⟨gr, 0, none⟩ = some (.pointer (some ⟨gp, 0, none⟩)) := (blk_cell (HRW.out wx HKX.out) 0).trans rfl
      have p0 : wx.cell? ⟨gp, 0, none⟩ = some (.int .i64 nn) := (HPW.out wx HKX.out).player.c0
      have hmk := make105 nn (by omega) wx
      have hch := own_made4 wx wx.heap.size nn (Nat.le_refl _) (by omega)
      have hxb : Below wx.heap.size wx (wx.alloc (.cells (madeCells #[.bool false] nn) 4)) := (Below.refl _ _).alloc (Nat.le_refl _) _
      have r5' : (wx.alloc (.cells (madeCells #[.bool false] nn) 4)).cell? ⟨gr, 5, none⟩ = some (.slice (some ⟨gN, 0, none⟩) nn cN) := pw_cell_below hxb ((blk_cell (HRW.out wx HKX.out) 5).trans rfl)
      have hszc : (wx.alloc (.cells (madeCells #[.bool false] nn) 4)).heap.size = wx.heap.size + 1 := Array.size_push _
      have HCL := Lib.hid (changedOf_len nn X nets)
      have HCH : Hid ((wx.alloc (.cells (madeCells #[.bool false] nn) 4)).ownsRow wx.heap.size 4 1 (.slice (some ⟨wx.heap.size, 0, none⟩) nn nn) nn (bools (fillB (changedOf nn X nets) 0))) := Lib.hid (by rw [fillB_zero, HCL.out]; exact hch)
      have HNX : Hid ((wx.alloc (.cells (madeCells #[.bool false] nn) 4)).ownsRow w0.heap.size 3 1 (.slice (some ⟨gN, 0, none⟩) nn cN) nn (nums .i64 (overL X nets 0))) := Lib.hid (by rw [overL_zero]; exact pw_own_below (pw_own_below HN.out hBx.out) hxb)
      have HK1 : Hid (KeptS (· = gN) w (wx.alloc (.cells (madeCells #[.bool false] nn) 4))) := Lib.hid (HKX.out.alloc _)
      have HR1 : Hid (∃ Ln, Rows (wx.alloc (.cells (madeCells #[.bool false] nn) 4)) w.heap.size (w.heap.size + 1) Ln ∧ Ln.length = nn ∧ ∀ m, 0 ≤ m → Ln.getD m [] = (rowsTo nn gs drv j).getD m []) := Lib.hid ⟨_, hRO.out.below hxb, rowsTo_len .., fun _ _ => rfl⟩
      have HSZ1 : Hid (wx.heap.size + 1 ≤ (wx.alloc (.cells (madeCells #[.bool false] nn) 4)).heap.size) := Lib.hid (by rw [hszc]; exact Nat.le_refl _)
      have HWX := Lib.hid hBx.out.size
      have HRS := Lib.hid (fun n => rowsTo_res (gv := drv) HGO.out n j (by rw [HGL.out]; exact Nat.le_refl _))
      have HRV := Lib.hid (rowsTo_ok (nn := nn) (gs := gs) HV.out j (by have h1 := HDN.out; have h2 := HND.out; omega))
      have HRH := Lib.hid (fun o => rowsTo_short nn gs drv o j)
      clear hch hxb hszc
      go_wp2_with fail
      clear hmk r0 p0 r5'
      generalize rowsTo nn gs drv j = L0 at HR1 HRS HRV HRH
      have HWD : Hid (w.heap.size < wx.heap.size) := Lib.hid (by obtain ⟨vs, _, _, h3, _⟩ := hRO.out; exact blk_lt h3)
      clear hRO hBx
      go_loopw [65] (fun i wr => ∃ n : Nat, n ≤ nn ∧ i = .int .i64 n ∧ Hid (KeptS (· = gN) w wr) ∧ Hid (∃ Ln, Rows wr w.heap.size (w.heap.size + 1) Ln ∧ Ln.length = nn ∧ ∀ m, n ≤ m → Ln.getD m [] = L0.getD m []) ∧ Hid (wr.ownsRow wx.heap.size 4 1 (.slice (some ⟨wx.heap.size, 0, none⟩) nn nn) nn (bools (fillB (changedOf nn X nets) n))) ∧ Hid (wr.ownsRow w0.heap.size 3 1 (.slice (some ⟨gN, 0, none⟩) nn cN) nn (nums .i64 (overL X nets n))) ∧ Hid (wx.heap.size + 1 ≤ wr.heap.size)) (fun i _ => nn - (intOf i).toNat)
      case atStart => exact ⟨0, Nat.zero_le _, rfl, HK1, HR1, HCH, HNX, HSZ1⟩
      case round =>
        obtain ⟨n, hn, rfl, hK, hR, hC, hN, hS⟩ := hrel
        clear HK1 HR1 HCH HNX HSZ1
        obtain ⟨wy, rfl⟩ : ∃ wy : World, wy = wr := ⟨_, rfl⟩
        by_cases hltn : n < nn
        · have hltn2 : decide ((n : Int) < (nn : Int)) = true := by simp; omega
          have r4 : wy.cell? ⟨gr, 4, none⟩ = some (.slice (some ⟨gO, 0, none⟩) nn cO) := (blk_cell (HRW.out wy hK.out) 4).trans rfl
          obtain ⟨so, _⟩ := own_getB (HOW.out wy hK.out) n hltn
          have hXn := HX.out n hltn
          obtain ⟨Ln, hRn, hLn, hLm⟩ := hR.out
          clear hR
          have hgp := blk_lt HP.out.1
          cases hb : outs.getD n false
          · -- not driven from outside
            rw [hb] at so hXn
            rw [if_neg (by simp)] at hXn
            have HRow : Hid (∃ L5, Rows wy w.heap.size (w.heap.size + 1) L5 ∧ L5.length = nn ∧ resF (L5.getD n []) = X.getD n 0 ∧ (L5.getD n []).all isVal = true ∧ ∀ m, n + 1 ≤ m → L5.getD m [] = L0.getD m []) := Lib.hid ⟨Ln, hRn, hLn, by rw [hLm n (Nat.le_refl _), HRS.out, hXn], by rw [hLm n (Nat.le_refl _)]; exact HRV.out n, fun m hm => hLm m (by omega)⟩
            have HKz := hK
            have HCz := hC
            have HNz := hN
            have HSz := hS
            obtain ⟨wz, hwz⟩ : ∃ wz : World, wz = wy := ⟨_, rfl⟩
            clear hRn hLm hLn hK hC hN hS hXn
            go_wp2_with fail
            rw [← hwz] at HRow HKz HCz HNz HSz
            clear r4 so
            rw [← hwz]
            clear hwz
            obtain ⟨L5, hRz, hL5, hres5, hall5, hL6⟩ := HRow.out
            clear HRow
            obtain ⟨RA, rc, t1, t2⟩ := hRz.reads n (by rw [hL5]; exact hltn)
            generalize L5.getD n [] = dl at *
            generalize hln : dl.length = ln at *
            have HL6 := Lib.hid hL6; clear hL6
            have HRZ := Lib.hid hRz; clear hRz
            have HL5 := Lib.hid hL5; clear hL5
            have HRES := Lib.hid hres5; clear hres5
            have HALL := Lib.hid hall5; clear hall5
            have HT2 := Lib.hid t2; clear t2 hln
            have s0 : wz.drew.cell? ⟨w.heap.size, n, none⟩ = some (.slice RA ln rc) := t1
            have s1 : wz.drew.cell? ⟨gr, 0, none⟩ = some (.pointer (some ⟨gp, 0, none⟩)) := (blk_cell (HRW.out wz HKz.out) 0).trans rfl
            have W2Z : Hid (Below wz.heap.size wz wz.drew) := Lib.hid (pw_below_drewN (n := 1) (Below.refl _ _))
            have hsz2 : wz.drew.heap.size = wz.heap.size := rfl
            clear t1
            try go_wp2_with fail
            refine wp_region_named 99 (fun w' => w'.cell? ⟨w.heap.size, n, none⟩ = some (.slice RA ln rc) ∧ w'.cell? ⟨gr, 0, none⟩ = some (.pointer (some ⟨gp, 0, none⟩))) (fun w' => (w'.cell? ⟨w.heap.size, n, none⟩ = some (.slice RA ln rc)) ∧ (w'.cell? ⟨gr, 0, none⟩ = some (.pointer (some ⟨gp, 0, none⟩))) ∧ (Hid (Below wz.heap.size wz w')) ∧ (w'.heap.size = wz.heap.size)) (by kernel_rfl) ⟨s0, s1, W2Z, hsz2⟩ ?_
            rintro wc ⟨s0, s1, W2Z, hsz2⟩
            refine wpAnyF_take (i := 0) (v := .pointer (some ⟨gr, 0, none⟩)) rfl (by kernel_rfl) (by kernel_rfl) (by kernel_rfl) (by kernel_rfl) (fun _ _ _ h => h) (Or.inl ⟨by rfl, ?_⟩) ⟨s0, s1⟩ ?_
            · rintro W ⟨y0, y1⟩
              go_simp
            try simp only [Act.put, List.setIfInBounds_toArray, List.set_cons_zero, List.set_cons_succ]
            refine wpAnyF_take (i := 1) (v := .pointer (some ⟨gr, 0, none⟩)) rfl (by kernel_rfl) (by kernel_rfl) (by kernel_rfl) (by kernel_rfl) (fun _ _ _ h => h) (Or.inl ⟨by rfl, ?_⟩) ⟨s0, s1⟩ ?_
            · rintro W ⟨y0, y1⟩
              go_simp
            try simp only [Act.put, List.setIfInBounds_toArray, List.set_cons_zero, List.set_cons_succ]
            refine wpAnyF_take (i := 2) (v := .pointer (some ⟨gr, 0, none⟩)) rfl (by kernel_rfl) (by kernel_rfl) (by kernel_rfl) (by kernel_rfl) (fun _ _ _ h => h) (Or.inl ⟨by rfl, ?_⟩) ⟨s0, s1⟩ ?_
            · rintro W ⟨y0, y1⟩
              go_simp
            try simp only [Act.put, List.setIfInBounds_toArray, List.set_cons_zero, List.set_cons_succ]
            refine wpAnyF_take (i := 3) (v := .pointer (some ⟨gp, 0, none⟩)) rfl (by kernel_rfl) (by kernel_rfl) (by kernel_rfl) (by kernel_rfl) (fun _ _ _ h => h) (Or.inl ⟨by rfl, ?_⟩) ⟨s0, s1⟩ ?_
            · rintro W ⟨y0, y1⟩
              go_simp
            try simp only [Act.put, List.setIfInBounds_toArray, List.set_cons_zero, List.set_cons_succ]
            refine wpAnyF_take (i := 4) (v := .pointer (some ⟨gp, 0, none⟩)) rfl (by kernel_rfl) (by kernel_rfl) (by kernel_rfl) (by kernel_rfl) (fun _ _ _ h => h) (Or.inl ⟨by rfl, ?_⟩) ⟨s0, s1⟩ ?_
            · rintro W ⟨y0, y1⟩
              go_simp
            try simp only [Act.put, List.setIfInBounds_toArray, List.set_cons_zero, List.set_cons_succ]
            refine wpAnyF_take (i := 5) (v := .pointer (some ⟨gp, 2, none⟩)) rfl (by kernel_rfl) (by kernel_rfl) (by kernel_rfl) (by kernel_rfl) (fun _ _ _ h => h) (Or.inl ⟨by rfl, ?_⟩) ⟨s0, s1⟩ ?_
            · rintro W ⟨y0, y1⟩
              go_simp
            try simp only [Act.put, List.setIfInBounds_toArray, List.set_cons_zero, List.set_cons_succ]
            refine wpAnyF_take (i := 6) (v := .slice (some ⟨w.heap.size, 0, none⟩) nn nn) rfl (by kernel_rfl) (by kernel_rfl) (by kernel_rfl) (by kernel_rfl) (fun _ _ _ h => h) (Or.inl ⟨by rfl, ?_⟩) ⟨s0, s1⟩ ?_
            · rintro W ⟨y0, y1⟩
              go_simp
            try simp only [Act.put, List.setIfInBounds_toArray, List.set_cons_zero, List.set_cons_succ]
            refine wpAnyF_take (i := 7) (v := .int .i64 n) rfl (by kernel_rfl) (by kernel_rfl) (by kernel_rfl) (by kernel_rfl) (fun _ _ _ h => h) (Or.inl ⟨by rfl, ?_⟩) ⟨s0, s1⟩ ?_
            · rintro W ⟨y0, y1⟩
              go_simp
            try simp only [Act.put, List.setIfInBounds_toArray, List.set_cons_zero, List.set_cons_succ]
            refine wpAnyF_take (i := 8) (v := .pointer (some ⟨w.heap.size, n, none⟩)) rfl (by kernel_rfl) (by kernel_rfl) (by kernel_rfl) (by kernel_rfl) (fun _ _ _ h => h) (Or.inl ⟨by rfl, ?_⟩) ⟨s0, s1⟩ ?_
            · rintro W ⟨y0, y1⟩
              go_simp
            try simp only [Act.put, List.setIfInBounds_toArray, List.set_cons_zero, List.set_cons_succ]
            refine wpAnyF_take (i := 9) (v := .slice RA ln rc) rfl (by kernel_rfl) (by kernel_rfl) (by kernel_rfl) (by kernel_rfl) (fun _ _ _ h => h) (Or.inl ⟨by rfl, ?_⟩) ⟨s0, s1⟩ ?_
            · rintro W ⟨y0, y1⟩
              go_simp
            try simp only [Act.put, List.setIfInBounds_toArray, List.set_cons_zero, List.set_cons_succ]
            have HKc : Hid (KeptS (· = gN) w wc) := Lib.hid (HKz.out.trans (T := fun _ => False) (KeptS.of_below W2Z.out) (fun _ _ h => h.elim))
            have HTAB := Lib.hid (HPW.out wc HKc.out).player.tab
            refine wpAnyF_one (i := 10) rfl (by kernel_rfl) (fun K hK => ?_)
            refine goes_ (f := 36) Try.func36 (by kernel_rfl) rfl #[.pointer (some ⟨gp, 2, none⟩), .slice RA ln rc] rfl rfl rfl (by simp [Act.eval]) ?_
            refine (resolved2_any gp RA ln rc dl wc HTAB.out (HT2.out.below W2Z.out) HALL.out).mono ?_
            rintro e wq ⟨rfl, rfl⟩
            refine ⟨_, rfl, ?_⟩
            refine hK _ _ (fun _ => ⟨s0, s1⟩) ?_
            clear hK K
            obtain ⟨xq, hxq⟩ : ∃ xq, X.getD n 0 = xq := ⟨_, rfl⟩
            have HXQ := Lib.hid hxq
            rw [HRES.out, hxq]
            clear hxq
            try simp only [Act.put, List.setIfInBounds_toArray, List.set_cons_zero, List.set_cons_succ]
            refine wpAnyF_one (i := 11) rfl (by kernel_rfl) (fun K hK => ?_)
            go_simp
            refine hK _ _ (fun _ => ⟨s0, s1⟩) ?_
            clear hK K
            try simp only [Act.put, List.setIfInBounds_toArray, List.set_cons_zero, List.set_cons_succ]
            refine wpAnyF_done (by kernel_rfl) ?_ _
            have HCc := Lib.hid (pw_own_below HCz.out W2Z.out)
            have HNc := Lib.hid (pw_own_below HNz.out W2Z.out)
            obtain ⟨cC, fC⟩ := own_getB HCc.out n hltn
            obtain ⟨cN0, fN0⟩ := own_get HNc.out n hltn
            rw [overL_at (by rw [HXL.out]; exact hn) (Nat.le_refl _)] at cN0
            have hchn := changedOf_at X nets hltn
            rw [HXQ.out] at hchn
            generalize nets.getD n 0 = nq at cN0 hchn
            have hwd2 := HWD.out
            have hwdx := HSz.out
            have hngC : gr ≠ wx.heap.size := by omega
            have hnNC : gN ≠ wx.heap.size := by omega
            have c5 : wc.cell? ⟨gr, 5, none⟩ = some (.slice (some ⟨gN, 0, none⟩) nn cN) := (blk_cell (HRW.out wc HKc.out) 5).trans rfl
            have HCp : Hid ((wc.setCell ⟨wx.heap.size, n, none⟩ (.bool (xq != nq))).ownsRow wx.heap.size 4 1 (.slice (some ⟨wx.heap.size, 0, none⟩) nn nn) nn (bools (fillB (changedOf nn X nets) (n + 1)))) := Lib.hid (by
              have h := own_putB HCc.out n ((changedOf nn X nets).getD n false)
              rw [fillB_set _ _ (by rw [HCL.out]; exact hltn), hchn] at h
              exact h)
            have HNp : Hid ((wc.setCell ⟨wx.heap.size, n, none⟩ (.bool (xq != nq))).ownsRow w0.heap.size 3 1 (.slice (some ⟨gN, 0, none⟩) nn cN) nn (nums .i64 (overL X nets n))) := Lib.hid (own_setCell HNc.out (by intro e; exact hnNC (Option.some.inj e).symm) _)
            have HNq : Hid (((wc.setCell ⟨wx.heap.size, n, none⟩ (.bool (xq != nq))).setCell ⟨gN, n, none⟩ (.int .i64 xq)).ownsRow w0.heap.size 3 1 (.slice (some ⟨gN, 0, none⟩) nn cN) nn (nums .i64 (overL X nets (n + 1)))) := Lib.hid (by
              have h := own_put HNp.out n (X.getD n 0)
              rw [overL_set (by rw [HXL.out, HNN.out]) (by rw [HXL.out]; exact hltn), HXQ.out] at h
              exact h)
            have HCq : Hid (((wc.setCell ⟨wx.heap.size, n, none⟩ (.bool (xq != nq))).setCell ⟨gN, n, none⟩ (.int .i64 xq)).ownsRow wx.heap.size 4 1 (.slice (some ⟨wx.heap.size, 0, none⟩) nn nn) nn (bools (fillB (changedOf nn X nets) (n + 1)))) := Lib.hid (own_setCell HCp.out (by intro e; exact hnNC (Option.some.inj e)) _)
            have HRq : Hid (∃ Lq, Rows ((wc.setCell ⟨wx.heap.size, n, none⟩ (.bool (xq != nq))).setCell ⟨gN, n, none⟩ (.int .i64 xq)) w.heap.size (w.heap.size + 1) Lq ∧ Lq.length = nn ∧ ∀ m, n + 1 ≤ m → Lq.getD m [] = L0.getD m []) := Lib.hid ⟨L5, ((HRZ.out.below W2Z.out).setCell (p := ⟨wx.heap.size, n, none⟩) (by show wx.heap.size ≠ w.heap.size; omega) (.inr (by
              rcases HCc.out.2 with ⟨e, _⟩ | ⟨g, cap', cur, e, _, h4, _⟩
              · cases e
              · have eg : wx.heap.size = g := by injection e with e1 _ _; injection e1 with e1; injection e1
                exact ⟨cur, 4, by show wc.heap[wx.heap.size]? = _; rw [eg]; exact h4, by decide⟩)) _).setCell (p := ⟨gN, n, none⟩) (by show gN ≠ w.heap.size; omega) (.inl (by show gN < w.heap.size + 1; omega)) _, HL5.out, HL6.out⟩
            have HKq : Hid (KeptS (· = gN) w ((wc.setCell ⟨wx.heap.size, n, none⟩ (.bool (xq != nq))).setCell ⟨gN, n, none⟩ (.int .i64 xq))) := Lib.hid ((HKc.out.put (p := ⟨wx.heap.size, n, none⟩) (fun h => by have h : wx.heap.size < w.heap.size := h; omega) _).put (p := ⟨gN, n, none⟩) (fun _ => rfl) _)
            have HSq : Hid (wx.heap.size + 1 ≤ ((wc.setCell ⟨wx.heap.size, n, none⟩ (.bool (xq != nq))).setCell ⟨gN, n, none⟩ (.int .i64 xq)).heap.size) := Lib.hid (by simp only [World.setCell]; simp; omega)
            obtain ⟨cN1, fN1⟩ := own_get HNp.out n hltn
            have c5' : (wc.setCell ⟨wx.heap.size, n, none⟩ (.bool (xq != nq))).cell? ⟨gr, 5, none⟩ = some (.slice (some ⟨gN, 0, none⟩) nn cN) := (blk_cell (blk_far (HRW.out wc HKc.out) (p := ⟨wx.heap.size, n, none⟩) hngC _) 5).trans rfl
            generalize (overL X nets n).getD n 0 = oq at *
            generalize (fillB (changedOf nn X nets) n).getD n false = bq at *
            clear hchn HNp HCp
            have HC5 := Lib.hid c5'; clear c5'
            go_wp2_with fail
            exact ⟨⟨n + 1, by omega, by go_num, HKq, HRq, HCq, HNq, HSq⟩, by simp [intOf]; omega⟩
          · -- driven from outside
            rw [hb] at so hXn
            rw [if_pos rfl] at hXn
            obtain ⟨sx, _⟩ := own_get (HDW.out wy hK.out) (j + n) (by have := HDN.out; omega)
            have hxv : isVal (drv.getD (j + n) 0) = true := all_getD HV.out (by have h1 := HDN.out; have h2 := HND.out; omega)
            generalize drv.getD (j + n) 0 = x at sx hXn hxv
            obtain ⟨v, v1, v2, v3, v4, v5, v6⟩ := hRn.at_ n (by rw [hLn]; exact hltn)
            have hlo := HRH.out n
            have e0 := hLm n (Nat.le_refl _)
            rw [e0] at v2 v6
            have hres := HRS.out n
            have hal := HRV.out n
            generalize L0.getD n [] = Lo at *
            have hlb : (Lo.length + 1) * 8 ≤ 140737488355328 := by omega
            have V6 := Lib.hid v6; clear v6
            have V2 := Lib.hid v2; clear v2
            have HLL := Lib.hid (show Lo.length + 1 ≤ maxLen by simp only [maxLen]; omega)
            have HLB := Lib.hid hlb; clear hlb
            have s0 : wy.drew.cell? ⟨w.heap.size, n, none⟩ = some v := v1
            have s1 : wy.drew.cell? ⟨gr, 3, none⟩ = some (.slice (some ⟨gD, 0, none⟩) dn cD) := (blk_cell (HRW.out wy hK.out) 3).trans rfl
            have s2 : wy.drew.cell? ⟨gr, 0, none⟩ = some (.pointer (some ⟨gp, 0, none⟩)) := (blk_cell (HRW.out wy hK.out) 0).trans rfl
            have s3 : wy.drew.cell? ⟨gp, 1, none⟩ = some (.slice GA j gc) := (HPW.out wy hK.out).player.c1
            have s4 : wy.drew.cell? ⟨gD, j + n, none⟩ = some (.int .i64 x) := sx
            have hsz1 : wy.drew.heap.size = wy.heap.size := rfl
            have hf0 : wy.drew.frozen? ⟨w.heap.size, n, none⟩ = false := v3
            have W1Z : Hid (Below wy.heap.size wy wy.drew) := Lib.hid (pw_below_drewN (n := 1) (Below.refl _ _))
            have n1' : some w.heap.size ≠ v.ownBlock := ne_of_lt_row V2.out (.inl (Nat.lt_succ_self _))
            have n2' : some gr ≠ v.ownBlock := ne_of_lt_row V2.out (.inl (by omega))
            have n3' : some gp ≠ v.ownBlock := ne_of_lt_row V2.out (.inl (by omega))
            have n4' : some gD ≠ v.ownBlock := ne_of_lt_row V2.out (.inl (by omega))
            have n5' : some gN ≠ v.ownBlock := ne_of_lt_row V2.out (.inl (by omega))
            have hsum : IntKind.i64.wrap ((j : Int) + (n : Int)) = (j : Int) + (n : Int) := IntWalk.i64_in _ (by omega)
            have hjn : (j : Int) + (n : Int) < (dn : Int) := by have := HDN.out; omega
            have hjn0 : (0 : Int) ≤ (j : Int) + (n : Int) := by omega
            have hsx := hK.out.size
            have hwd := HWD.out
            have hwyx := hS.out
            clear sx v1 v3 e0
            have HRE := Lib.hid hres; clear hres
            have HXN := Lib.hid hXn; clear hXn
            go_wp2_with fail
            refine wp_region_named 26 (fun w' => w'.cell? ⟨w.heap.size, n, none⟩ = some v ∧ w'.cell? ⟨gr, 3, none⟩ = some (.slice (some ⟨gD, 0, none⟩) dn cD) ∧ w'.cell? ⟨gr, 0, none⟩ = some (.pointer (some ⟨gp, 0, none⟩)) ∧ w'.cell? ⟨gp, 1, none⟩ = some (.slice GA j gc) ∧ w'.cell? ⟨gD, j + n, none⟩ = some (.int .i64 x)) (fun w' => (w'.cell? ⟨w.heap.size, n, none⟩ = some v) ∧ (w'.cell? ⟨gr, 3, none⟩ = some (.slice (some ⟨gD, 0, none⟩) dn cD)) ∧ (w'.cell? ⟨gr, 0, none⟩ = some (.pointer (some ⟨gp, 0, none⟩))) ∧ (w'.cell? ⟨gp, 1, none⟩ = some (.slice GA j gc)) ∧ (w'.cell? ⟨gD, j + n, none⟩ = some (.int .i64 x)) ∧ (Hid (Below wy.heap.size wy w')) ∧ (w'.heap.size = wy.heap.size) ∧ (w'.frozen? ⟨w.heap.size, n, none⟩ = false)) (by kernel_rfl) ⟨s0, s1, s2, s3, s4, W1Z, hsz1, hf0⟩ ?_
            rintro wc ⟨s0, s1, s2, s3, s4, W1Z, hsz1, hf0⟩
            refine wpAnyF_take (i := 0) (v := .slice (some ⟨w.heap.size, 0, none⟩) nn nn) rfl (by kernel_rfl) (by kernel_rfl) (by kernel_rfl) (by kernel_rfl) (fun _ _ _ h => h) (Or.inl ⟨by rfl, ?_⟩) ⟨s0, s1, s2, s3, s4⟩ ?_
            · rintro W ⟨y0, y1, y2, y3, y4⟩
              go_simp
            try simp only [Act.put, List.setIfInBounds_toArray, List.set_cons_zero, List.set_cons_succ]
            refine wpAnyF_take (i := 1) (v := .int .i64 n) rfl (by kernel_rfl) (by kernel_rfl) (by kernel_rfl) (by kernel_rfl) (fun _ _ _ h => h) (Or.inl ⟨by rfl, ?_⟩) ⟨s0, s1, s2, s3, s4⟩ ?_
            · rintro W ⟨y0, y1, y2, y3, y4⟩
              go_simp
            try simp only [Act.put, List.setIfInBounds_toArray, List.set_cons_zero, List.set_cons_succ]
            refine wpAnyF_take (i := 2) (v := .slice (some ⟨w.heap.size, 0, none⟩) nn nn) rfl (by kernel_rfl) (by kernel_rfl) (by kernel_rfl) (by kernel_rfl) (fun _ _ _ h => h) (Or.inl ⟨by rfl, ?_⟩) ⟨s0, s1, s2, s3, s4⟩ ?_
            · rintro W ⟨y0, y1, y2, y3, y4⟩
              go_simp
            try simp only [Act.put, List.setIfInBounds_toArray, List.set_cons_zero, List.set_cons_succ]
            refine wpAnyF_take (i := 3) (v := .int .i64 n) rfl (by kernel_rfl) (by kernel_rfl) (by kernel_rfl) (by kernel_rfl) (fun _ _ _ h => h) (Or.inl ⟨by rfl, ?_⟩) ⟨s0, s1, s2, s3, s4⟩ ?_
            · rintro W ⟨y0, y1, y2, y3, y4⟩
              go_simp
            try simp only [Act.put, List.setIfInBounds_toArray, List.set_cons_zero, List.set_cons_succ]
            refine wpAnyF_take (i := 4) (v := .pointer (some ⟨w.heap.size, n, none⟩)) rfl (by kernel_rfl) (by kernel_rfl) (by kernel_rfl) (by kernel_rfl) (fun _ _ _ h => h) (Or.inl ⟨by rfl, ?_⟩) ⟨s0, s1, s2, s3, s4⟩ ?_
            · rintro W ⟨y0, y1, y2, y3, y4⟩
              go_simp
            try simp only [Act.put, List.setIfInBounds_toArray, List.set_cons_zero, List.set_cons_succ]
            refine wpAnyF_take (i := 5) (v := v) rfl (by kernel_rfl) (by kernel_rfl) (by kernel_rfl) (by kernel_rfl) (fun _ _ _ h => h) (Or.inl ⟨by rfl, ?_⟩) ⟨s0, s1, s2, s3, s4⟩ ?_
            · rintro W ⟨y0, y1, y2, y3, y4⟩
              go_simp
            try simp only [Act.put, List.setIfInBounds_toArray, List.set_cons_zero, List.set_cons_succ]
            refine wpAnyF_take (i := 6) (v := .pointer (some ⟨gr, 0, none⟩)) rfl (by kernel_rfl) (by kernel_rfl) (by kernel_rfl) (by kernel_rfl) (fun _ _ _ h => h) (Or.inl ⟨by rfl, ?_⟩) ⟨s0, s1, s2, s3, s4⟩ ?_
            · rintro W ⟨y0, y1, y2, y3, y4⟩
              go_simp
            try simp only [Act.put, List.setIfInBounds_toArray, List.set_cons_zero, List.set_cons_succ]
            refine wpAnyF_take (i := 7) (v := .pointer (some ⟨gr, 0, none⟩)) rfl (by kernel_rfl) (by kernel_rfl) (by kernel_rfl) (by kernel_rfl) (fun _ _ _ h => h) (Or.inl ⟨by rfl, ?_⟩) ⟨s0, s1, s2, s3, s4⟩ ?_
            · rintro W ⟨y0, y1, y2, y3, y4⟩
              go_simp
            try simp only [Act.put, List.setIfInBounds_toArray, List.set_cons_zero, List.set_cons_succ]
            refine wpAnyF_take (i := 8) (v := .pointer (some ⟨gr, 3, none⟩)) rfl (by kernel_rfl) (by kernel_rfl) (by kernel_rfl) (by kernel_rfl) (fun _ _ _ h => h) (Or.inl ⟨by rfl, ?_⟩) ⟨s0, s1, s2, s3, s4⟩ ?_
            · rintro W ⟨y0, y1, y2, y3, y4⟩
              go_simp
            try simp only [Act.put, List.setIfInBounds_toArray, List.set_cons_zero, List.set_cons_succ]
            refine wpAnyF_take (i := 9) (v := .slice (some ⟨gD, 0, none⟩) dn cD) rfl (by kernel_rfl) (by kernel_rfl) (by kernel_rfl) (by kernel_rfl) (fun _ _ _ h => h) (Or.inl ⟨by rfl, ?_⟩) ⟨s0, s1, s2, s3, s4⟩ ?_
            · rintro W ⟨y0, y1, y2, y3, y4⟩
              go_simp
            try simp only [Act.put, List.setIfInBounds_toArray, List.set_cons_zero, List.set_cons_succ]
            refine wpAnyF_take (i := 10) (v := .pointer (some ⟨gr, 0, none⟩)) rfl (by kernel_rfl) (by kernel_rfl) (by kernel_rfl) (by kernel_rfl) (fun _ _ _ h => h) (Or.inl ⟨by rfl, ?_⟩) ⟨s0, s1, s2, s3, s4⟩ ?_
            · rintro W ⟨y0, y1, y2, y3, y4⟩
              go_simp
            try simp only [Act.put, List.setIfInBounds_toArray, List.set_cons_zero, List.set_cons_succ]
            refine wpAnyF_take (i := 11) (v := .pointer (some ⟨gr, 0, none⟩)) rfl (by kernel_rfl) (by kernel_rfl) (by kernel_rfl) (by kernel_rfl) (fun _ _ _ h => h) (Or.inl ⟨by rfl, ?_⟩) ⟨s0, s1, s2, s3, s4⟩ ?_
            · rintro W ⟨y0, y1, y2, y3, y4⟩
              go_simp
            try simp only [Act.put, List.setIfInBounds_toArray, List.set_cons_zero, List.set_cons_succ]
            refine wpAnyF_take (i := 12) (v := .pointer (some ⟨gr, 0, none⟩)) rfl (by kernel_rfl) (by kernel_rfl) (by kernel_rfl) (by kernel_rfl) (fun _ _ _ h => h) (Or.inl ⟨by rfl, ?_⟩) ⟨s0, s1, s2, s3, s4⟩ ?_
            · rintro W ⟨y0, y1, y2, y3, y4⟩
              go_simp
            try simp only [Act.put, List.setIfInBounds_toArray, List.set_cons_zero, List.set_cons_succ]
            refine wpAnyF_take (i := 13) (v := .pointer (some ⟨gp, 0, none⟩)) rfl (by kernel_rfl) (by kernel_rfl) (by kernel_rfl) (by kernel_rfl) (fun _ _ _ h => h) (Or.inl ⟨by rfl, ?_⟩) ⟨s0, s1, s2, s3, s4⟩ ?_
            · rintro W ⟨y0, y1, y2, y3, y4⟩
              go_simp
            try simp only [Act.put, List.setIfInBounds_toArray, List.set_cons_zero, List.set_cons_succ]
            refine wpAnyF_take (i := 14) (v := .pointer (some ⟨gp, 0, none⟩)) rfl (by kernel_rfl) (by kernel_rfl) (by kernel_rfl) (by kernel_rfl) (fun _ _ _ h => h) (Or.inl ⟨by rfl, ?_⟩) ⟨s0, s1, s2, s3, s4⟩ ?_
            · rintro W ⟨y0, y1, y2, y3, y4⟩
              go_simp
            try simp only [Act.put, List.setIfInBounds_toArray, List.set_cons_zero, List.set_cons_succ]
            refine wpAnyF_take (i := 15) (v := .pointer (some ⟨gp, 0, none⟩)) rfl (by kernel_rfl) (by kernel_rfl) (by kernel_rfl) (by kernel_rfl) (fun _ _ _ h => h) (Or.inl ⟨by rfl, ?_⟩) ⟨s0, s1, s2, s3, s4⟩ ?_
            · rintro W ⟨y0, y1, y2, y3, y4⟩
              go_simp
            try simp only [Act.put, List.setIfInBounds_toArray, List.set_cons_zero, List.set_cons_succ]
            refine wpAnyF_take (i := 16) (v := .pointer (some ⟨gp, 1, none⟩)) rfl (by kernel_rfl) (by kernel_rfl) (by kernel_rfl) (by kernel_rfl) (fun _ _ _ h => h) (Or.inl ⟨by rfl, ?_⟩) ⟨s0, s1, s2, s3, s4⟩ ?_
            · rintro W ⟨y0, y1, y2, y3, y4⟩
              go_simp
            try simp only [Act.put, List.setIfInBounds_toArray, List.set_cons_zero, List.set_cons_succ]
            refine wpAnyF_take (i := 17) (v := .slice GA j gc) rfl (by kernel_rfl) (by kernel_rfl) (by kernel_rfl) (by kernel_rfl) (fun _ _ _ h => h) (Or.inl ⟨by rfl, ?_⟩) ⟨s0, s1, s2, s3, s4⟩ ?_
            · rintro W ⟨y0, y1, y2, y3, y4⟩
              go_simp
            try simp only [Act.put, List.setIfInBounds_toArray, List.set_cons_zero, List.set_cons_succ]
            refine wpAnyF_take (i := 18) (v := .int .i64 j) rfl (by kernel_rfl) (by kernel_rfl) (by kernel_rfl) (by kernel_rfl) (fun _ _ _ h => h) (Or.inl ⟨by rfl, ?_⟩) ⟨s0, s1, s2, s3, s4⟩ ?_
            · rintro W ⟨y0, y1, y2, y3, y4⟩
              go_simp
            try simp only [Act.put, List.setIfInBounds_toArray, List.set_cons_zero, List.set_cons_succ]
            refine wpAnyF_take (i := 19) (v := .int .i64 n) rfl (by kernel_rfl) (by kernel_rfl) (by kernel_rfl) (by kernel_rfl) (fun _ _ _ h => h) (Or.inl ⟨by rfl, ?_⟩) ⟨s0, s1, s2, s3, s4⟩ ?_
            · rintro W ⟨y0, y1, y2, y3, y4⟩
              go_simp
            try simp only [Act.put, List.setIfInBounds_toArray, List.set_cons_zero, List.set_cons_succ]
            refine wpAnyF_take (i := 20) (v := .int .i64 ((j : Int) + (n : Int))) rfl (by kernel_rfl) (by kernel_rfl) (by kernel_rfl) (by kernel_rfl) (fun _ _ _ h => h) (Or.inl ⟨by rfl, ?_⟩) ⟨s0, s1, s2, s3, s4⟩ ?_
            · rintro W ⟨y0, y1, y2, y3, y4⟩
              go_simp
            try simp only [Act.put, List.setIfInBounds_toArray, List.set_cons_zero, List.set_cons_succ]
            refine wpAnyF_take (i := 21) (v := .pointer (some ⟨gD, j + n, none⟩)) rfl (by kernel_rfl) (by kernel_rfl) (by kernel_rfl) (by kernel_rfl) (fun _ _ _ h => h) (Or.inl ⟨by rfl, ?_⟩) ⟨s0, s1, s2, s3, s4⟩ ?_
            · rintro W ⟨y0, y1, y2, y3, y4⟩
              go_simp
            try simp only [Act.put, List.setIfInBounds_toArray, List.set_cons_zero, List.set_cons_succ]
            refine wpAnyF_take (i := 22) (v := .int .i64 x) rfl (by kernel_rfl) (by kernel_rfl) (by kernel_rfl) (by kernel_rfl) (fun _ _ _ h => h) (Or.inl ⟨by rfl, ?_⟩) ⟨s0, s1, s2, s3, s4⟩ ?_
            · rintro W ⟨y0, y1, y2, y3, y4⟩
              go_simp
            try simp only [Act.put, List.setIfInBounds_toArray, List.set_cons_zero, List.set_cons_succ]
            have hwcb : Below wc.heap.size wc (wc.alloc (.cells #[.int .i64 x] 3)) := (Below.refl _ _).alloc (Nat.le_refl _) _
            have hszc : (wc.alloc (.cells #[.int .i64 x] 3)).heap.size = wc.heap.size + 1 := Array.size_push _
            have hqq : w.heap.size + 1 ≤ (wc.alloc (.cells #[.int .i64 x] 3)).heap.size := by rw [hszc, hsz1]; omega
            have hown0 := (pw_own_below V2.out W1Z.out).alloc (.cells #[.int .i64 x] 3)
            have HSZ1 := Lib.hid hsz1; clear hsz1 hszc
            refine wpAnyF_one (i := 23) rfl (by kernel_rfl) (fun K hK => ?_)
            go_simp
            refine hK _ _ (fun _ => ⟨pw_cell_below hwcb s0, pw_cell_below hwcb s1, pw_cell_below hwcb s2, pw_cell_below hwcb s3, pw_cell_below hwcb s4⟩) ?_
            clear hK K
            try simp only [Act.put, List.setIfInBounds_toArray, List.set_cons_zero, List.set_cons_succ]
            refine wpAnyF_one (i := 24) rfl (by kernel_rfl) (fun K hK => ?_)
            refine step_append_lies _ (by rfl) _ _ _ (by rfl) (w.heap.size + 1) 3 i0 (.int .i64 0) 1 8 Try.underlying22 hi0 hz0 hz1 hz2 rfl (by omega) v Lo.length (nums .i64 Lo) (by rfl) hown0 ⟨wc.heap.size, 0, none⟩ 1 1 [.int .i64 x] (by rfl) (by rfl) (World.news_of_block (cs := #[.int .i64 x]) (t := 3) (fr := (0, 0)) (heap_alloc_new wc _)) (by simp [Value.oneCell']) Nat.one_pos HLL.out HLB.out hqq (wc.heap.size + 1) (Array.size_push _) ?_
            intro gg cap w3 hown1 hgrow hat hlt1
            have z0 := hgrow.cell (pw_cell_below hwcb s0) n1'
            have z1 := hgrow.cell (pw_cell_below hwcb s1) n2'
            have z2 := hgrow.cell (pw_cell_below hwcb s2) n2'
            have z3 := hgrow.cell (pw_cell_below hwcb s3) n3'
            have z4 := hgrow.cell (pw_cell_below hwcb s4) n4'
            have zf := (hgrow.frozen_far ⟨w.heap.size, n, none⟩ (Nat.lt_of_lt_of_le (World.block_lt_of_cell? wc _ s0) hwcb.size) n1').trans ((World.frozen?_of_block (hwcb.block _ (World.block_lt_of_cell? wc _ s0))).trans hf0)
            refine hK _ _ (fun _ => ⟨z0, z1, z2, z3, z4⟩) ?_
            clear hK K
            try simp only [Act.put, List.setIfInBounds_toArray, List.set_cons_zero, List.set_cons_succ]
            have HWCB := Lib.hid hwcb; clear hwcb
            have HGROW := Lib.hid hgrow; clear hgrow
            have HOWN1 := Lib.hid hown1; clear hown1
            have HAT := Lib.hid hat; clear hat
            clear s0 s1 s2 s3 s4 hown0
            refine wpAnyF_one (i := 25) rfl (by kernel_rfl) (fun K hK => ?_)
            go_simp
            refine hK _ _ (fun _ => ⟨z0, z1, z2, z3, z4⟩) ?_
            clear hK K
            try simp only [Act.put, List.setIfInBounds_toArray, List.set_cons_zero, List.set_cons_succ]
            refine wpAnyF_one (i := 26) rfl (by kernel_rfl) (fun K hK => ?_)
            go_simp
            refine hK _ _ (fun h => absurd rfl h) ?_
            clear hK K
            refine wpAnyF_done (by kernel_rfl) ?_ _
            obtain ⟨wz, hwz⟩ : ∃ wz : World, wz = (w3.setCell ⟨w.heap.size, n, none⟩ (.slice (some ⟨gg, 0, none⟩) (Lo.length + 1) cap)) := ⟨_, rfl⟩
            have HRow : Hid (∃ L5, Rows wz w.heap.size (w.heap.size + 1) L5 ∧ L5.length = nn ∧ resF (L5.getD n []) = X.getD n 0 ∧ (L5.getD n []).all isVal = true ∧ ∀ m, n + 1 ≤ m → L5.getD m [] = L0.getD m []) := Lib.hid (by
              refine ⟨Ln.set n (Lo ++ [x]), ?_, by rw [List.length_set]; exact hLn, ?_, ?_, fun m hm => by rw [getD_set_ne (by omega)]; exact hLm m (by omega)⟩
              · rw [hwz]
                refine V6.out (wc.alloc (.cells #[.int .i64 x] 3)) w3 _ x (W1Z.out.trans (HWCB.out.mono W1Z.out.size)) HGROW.out ?_ ?_
                · have h := HOWN1.out
                  simpa [nums] using h
                · rcases HAT.out with h | h
                  · exact .inl h
                  · exact .inr ⟨gg, rfl, by have := HSZ1.out; omega⟩
              · rw [getD_set_eq (by rw [hLn]; exact hltn), resF_snoc, HRE.out, HXN.out]
              · rw [getD_set_eq (by rw [hLn]; exact hltn), List.all_append, hal]; simp [hxv])
            have hWW := W1Z.out.trans (HWCB.out.mono W1Z.out.size)
            have HKz : Hid (KeptS (· = gN) w wz) := Lib.hid (by
              rw [hwz]
              have h1 := hK.out.trans (T := fun _ => False) (KeptS.of_below hWW) (fun _ _ h => h.elim)
              have h2 := h1.trans (T := fun i => w.heap.size ≤ i) (KeptS.grown HGROW.out (fun k hk _ => by have := own_base V2.out k hk; omega)) (fun i hi h => by omega)
              exact h2.put (p := ⟨w.heap.size, n, none⟩) (fun h => absurd h (Nat.lt_irrefl _)) _)
            have HCz : Hid (wz.ownsRow wx.heap.size 4 1 (.slice (some ⟨wx.heap.size, 0, none⟩) nn nn) nn (bools (fillB (changedOf nn X nets) n))) := Lib.hid (by
              rw [hwz]
              exact own_setCell (own_other (pw_own_below hC.out hWW) HGROW.out (own_type_ne hC.out V2.out (by decide))) (by intro e; have e2 : w.heap.size = wx.heap.size := Option.some.inj e; omega) _)
            have HNz : Hid (wz.ownsRow w0.heap.size 3 1 (.slice (some ⟨gN, 0, none⟩) nn cN) nn (nums .i64 (overL X nets n))) := Lib.hid (by
              rw [hwz]
              exact own_setCell (own_other (pw_own_below hN.out hWW) HGROW.out (.inr (fun e => n5' e))) (by intro e; have e2 : w.heap.size = gN := Option.some.inj e; omega) _)
            have HSz : Hid (wx.heap.size + 1 ≤ wz.heap.size) := Lib.hid (by
              rw [hwz]
              have h1 := hWW.size; have h2 := HGROW.out.size
              show _ ≤ (w3.setCell _ _).heap.size
              rw [show (w3.setCell ⟨w.heap.size, n, none⟩ (.slice (some ⟨gg, 0, none⟩) (Lo.length + 1) cap)).heap.size = w3.heap.size by simp [World.setCell]]
              omega)
            go_wp2_with fail
            rw [← hwz]
            clear hWW hwz hRn hLm hLn hK hC hN hS V6 V2 HLL HLB HGROW HOWN1 HAT HWCB W1Z HSZ1 hal hlo HRE HXN hf0 zf z0 z1 z2 z3 z4 n1' n2' n3' n4' n5' r4 so hsum
            obtain ⟨L5, hRz, hL5, hres5, hall5, hL6⟩ := HRow.out
            clear HRow
            obtain ⟨RA, rc, t1, t2⟩ := hRz.reads n (by rw [hL5]; exact hltn)
            generalize L5.getD n [] = dl at *
            generalize hln : dl.length = ln at *
            have HL6 := Lib.hid hL6; clear hL6
            have HRZ := Lib.hid hRz; clear hRz
            have HL5 := Lib.hid hL5; clear hL5
            have HRES := Lib.hid hres5; clear hres5
            have HALL := Lib.hid hall5; clear hall5
            have HT2 := Lib.hid t2; clear t2 hln
            have s0 : wz.drew.cell? ⟨w.heap.size, n, none⟩ = some (.slice RA ln rc) := t1
            have s1 : wz.drew.cell? ⟨gr, 0, none⟩ = some (.pointer (some ⟨gp, 0, none⟩)) := (blk_cell (HRW.out wz HKz.out) 0).trans rfl
            have W2Z : Hid (Below wz.heap.size wz wz.drew) := Lib.hid (pw_below_drewN (n := 1) (Below.refl _ _))
            have hsz2 : wz.drew.heap.size = wz.heap.size := rfl
            clear t1
            try go_wp2_with fail
            refine wp_region_named 99 (fun w' => w'.cell? ⟨w.heap.size, n, none⟩ = some (.slice RA ln rc) ∧ w'.cell? ⟨gr, 0, none⟩ = some (.pointer (some ⟨gp, 0, none⟩))) (fun w' => (w'.cell? ⟨w.heap.size, n, none⟩ = some (.slice RA ln rc)) ∧ (w'.cell? ⟨gr, 0, none⟩ = some (.pointer (some ⟨gp, 0, none⟩))) ∧ (Hid (Below wz.heap.size wz w')) ∧ (w'.heap.size = wz.heap.size)) (by kernel_rfl) ⟨s0, s1, W2Z, hsz2⟩ ?_
            rintro wc ⟨s0, s1, W2Z, hsz2⟩
            refine wpAnyF_take (i := 0) (v := .pointer (some ⟨gr, 0, none⟩)) rfl (by kernel_rfl) (by kernel_rfl) (by kernel_rfl) (by kernel_rfl) (fun _ _ _ h => h) (Or.inl ⟨by rfl, ?_⟩) ⟨s0, s1⟩ ?_
            · rintro W ⟨y0, y1⟩
              go_simp
            try simp only [Act.put, List.setIfInBounds_toArray, List.set_cons_zero, List.set_cons_succ]
            refine wpAnyF_take (i := 1) (v := .pointer (some ⟨gr, 0, none⟩)) rfl (by kernel_rfl) (by kernel_rfl) (by kernel_rfl) (by kernel_rfl) (fun _ _ _ h => h) (Or.inl ⟨by rfl, ?_⟩) ⟨s0, s1⟩ ?_
            · rintro W ⟨y0, y1⟩
              go_simp
            try simp only [Act.put, List.setIfInBounds_toArray, List.set_cons_zero, List.set_cons_succ]
            refine wpAnyF_take (i := 2) (v := .pointer (some ⟨gr, 0, none⟩)) rfl (by kernel_rfl) (by kernel_rfl) (by kernel_rfl) (by kernel_rfl) (fun _ _ _ h => h) (Or.inl ⟨by rfl, ?_⟩) ⟨s0, s1⟩ ?_
            · rintro W ⟨y0, y1⟩
              go_simp
            try simp only [Act.put, List.setIfInBounds_toArray, List.set_cons_zero, List.set_cons_succ]
            refine wpAnyF_take (i := 3) (v := .pointer (some ⟨gp, 0, none⟩)) rfl (by kernel_rfl) (by kernel_rfl) (by kernel_rfl) (by kernel_rfl) (fun _ _ _ h => h) (Or.inl ⟨by rfl, ?_⟩) ⟨s0, s1⟩ ?_
            · rintro W ⟨y0, y1⟩
              go_simp
            try simp only [Act.put, List.setIfInBounds_toArray, List.set_cons_zero, List.set_cons_succ]
            refine wpAnyF_take (i := 4) (v := .pointer (some ⟨gp, 0, none⟩)) rfl (by kernel_rfl) (by kernel_rfl) (by kernel_rfl) (by kernel_rfl) (fun _ _ _ h => h) (Or.inl ⟨by rfl, ?_⟩) ⟨s0, s1⟩ ?_
            · rintro W ⟨y0, y1⟩
              go_simp
            try simp only [Act.put, List.setIfInBounds_toArray, List.set_cons_zero, List.set_cons_succ]
            refine wpAnyF_take (i := 5) (v := .pointer (some ⟨gp, 2, none⟩)) rfl (by kernel_rfl) (by kernel_rfl) (by kernel_rfl) (by kernel_rfl) (fun _ _ _ h => h) (Or.inl ⟨by rfl, ?_⟩) ⟨s0, s1⟩ ?_
            · rintro W ⟨y0, y1⟩
              go_simp
            try simp only [Act.put, List.setIfInBounds_toArray, List.set_cons_zero, List.set_cons_succ]
            refine wpAnyF_take (i := 6) (v := .slice (some ⟨w.heap.size, 0, none⟩) nn nn) rfl (by kernel_rfl) (by kernel_rfl) (by kernel_rfl) (by kernel_rfl) (fun _ _ _ h => h) (Or.inl ⟨by rfl, ?_⟩) ⟨s0, s1⟩ ?_
            · rintro W ⟨y0, y1⟩
              go_simp
            try simp only [Act.put, List.setIfInBounds_toArray, List.set_cons_zero, List.set_cons_succ]
            refine wpAnyF_take (i := 7) (v := .int .i64 n) rfl (by kernel_rfl) (by kernel_rfl) (by kernel_rfl) (by kernel_rfl) (fun _ _ _ h => h) (Or.inl ⟨by rfl, ?_⟩) ⟨s0, s1⟩ ?_
            · rintro W ⟨y0, y1⟩
              go_simp
            try simp only [Act.put, List.setIfInBounds_toArray, List.set_cons_zero, List.set_cons_succ]
            refine wpAnyF_take (i := 8) (v := .pointer (some ⟨w.heap.size, n, none⟩)) rfl (by kernel_rfl) (by kernel_rfl) (by kernel_rfl) (by kernel_rfl) (fun _ _ _ h => h) (Or.inl ⟨by rfl, ?_⟩) ⟨s0, s1⟩ ?_
            · rintro W ⟨y0, y1⟩
              go_simp
            try simp only [Act.put, List.setIfInBounds_toArray, List.set_cons_zero, List.set_cons_succ]
            refine wpAnyF_take (i := 9) (v := .slice RA ln rc) rfl (by kernel_rfl) (by kernel_rfl) (by kernel_rfl) (by kernel_rfl) (fun _ _ _ h => h) (Or.inl ⟨by rfl, ?_⟩) ⟨s0, s1⟩ ?_
            · rintro W ⟨y0, y1⟩
              go_simp
            try simp only [Act.put, List.setIfInBounds_toArray, List.set_cons_zero, List.set_cons_succ]
            have HKc : Hid (KeptS (· = gN) w wc) := Lib.hid (HKz.out.trans (T := fun _ => False) (KeptS.of_below W2Z.out) (fun _ _ h => h.elim))
            have HTAB := Lib.hid (HPW.out wc HKc.out).player.tab
            refine wpAnyF_one (i := 10) rfl (by kernel_rfl) (fun K hK => ?_)
            refine goes_ (f := 36) Try.func36 (by kernel_rfl) rfl #[.pointer (some ⟨gp, 2, none⟩), .slice RA ln rc] rfl rfl rfl (by simp [Act.eval]) ?_
            refine (resolved2_any gp RA ln rc dl wc HTAB.out (HT2.out.below W2Z.out) HALL.out).mono ?_
            rintro e wq ⟨rfl, rfl⟩
            refine ⟨_, rfl, ?_⟩
            refine hK _ _ (fun _ => ⟨s0, s1⟩) ?_
            clear hK K
            obtain ⟨xq, hxq⟩ : ∃ xq, X.getD n 0 = xq := ⟨_, rfl⟩
            have HXQ := Lib.hid hxq
            rw [HRES.out, hxq]
            clear hxq
            try simp only [Act.put, List.setIfInBounds_toArray, List.set_cons_zero, List.set_cons_succ]
            refine wpAnyF_one (i := 11) rfl (by kernel_rfl) (fun K hK => ?_)
            go_simp
            refine hK _ _ (fun _ => ⟨s0, s1⟩) ?_
            clear hK K
            try simp only [Act.put, List.setIfInBounds_toArray, List.set_cons_zero, List.set_cons_succ]
            refine wpAnyF_done (by kernel_rfl) ?_ _
            have HCc := Lib.hid (pw_own_below HCz.out W2Z.out)
            have HNc := Lib.hid (pw_own_below HNz.out W2Z.out)
            obtain ⟨cC, fC⟩ := own_getB HCc.out n hltn
            obtain ⟨cN0, fN0⟩ := own_get HNc.out n hltn
            rw [overL_at (by rw [HXL.out]; exact hn) (Nat.le_refl _)] at cN0
            have hchn := changedOf_at X nets hltn
            rw [HXQ.out] at hchn
            generalize nets.getD n 0 = nq at cN0 hchn
            have hwd2 := HWD.out
            have hwdx := HSz.out
            have hngC : gr ≠ wx.heap.size := by omega
            have hnNC : gN ≠ wx.heap.size := by omega
            have c5 : wc.cell? ⟨gr, 5, none⟩ = some (.slice (some ⟨gN, 0, none⟩) nn cN) := (blk_cell (HRW.out wc HKc.out) 5).trans rfl
            have HCp : Hid ((wc.setCell ⟨wx.heap.size, n, none⟩ (.bool (xq != nq))).ownsRow wx.heap.size 4 1 (.slice (some ⟨wx.heap.size, 0, none⟩) nn nn) nn (bools (fillB (changedOf nn X nets) (n + 1)))) := Lib.hid (by
              have h := own_putB HCc.out n ((changedOf nn X nets).getD n false)
              rw [fillB_set _ _ (by rw [HCL.out]; exact hltn), hchn] at h
              exact h)
            have HNp : Hid ((wc.setCell ⟨wx.heap.size, n, none⟩ (.bool (xq != nq))).ownsRow w0.heap.size 3 1 (.slice (some ⟨gN, 0, none⟩) nn cN) nn (nums .i64 (overL X nets n))) := Lib.hid (own_setCell HNc.out (by intro e; exact hnNC (Option.some.inj e).symm) _)
            have HNq : Hid (((wc.setCell ⟨wx.heap.size, n, none⟩ (.bool (xq != nq))).setCell ⟨gN, n, none⟩ (.int .i64 xq)).ownsRow w0.heap.size 3 1 (.slice (some ⟨gN, 0, none⟩) nn cN) nn (nums .i64 (overL X nets (n + 1)))) := Lib.hid (by
              have h := own_put HNp.out n (X.getD n 0)
              rw [overL_set (by rw [HXL.out, HNN.out]) (by rw [HXL.out]; exact hltn), HXQ.out] at h
              exact h)
            have HCq : Hid (((wc.setCell ⟨wx.heap.size, n, none⟩ (.bool (xq != nq))).setCell ⟨gN, n, none⟩ (.int .i64 xq)).ownsRow wx.heap.size 4 1 (.slice (some ⟨wx.heap.size, 0, none⟩) nn nn) nn (bools (fillB (changedOf nn X nets) (n + 1)))) := Lib.hid (own_setCell HCp.out (by intro e; exact hnNC (Option.some.inj e)) _)
            have HRq : Hid (∃ Lq, Rows ((wc.setCell ⟨wx.heap.size, n, none⟩ (.bool (xq != nq))).setCell ⟨gN, n, none⟩ (.int .i64 xq)) w.heap.size (w.heap.size + 1) Lq ∧ Lq.length = nn ∧ ∀ m, n + 1 ≤ m → Lq.getD m [] = L0.getD m []) := Lib.hid ⟨L5, ((HRZ.out.below W2Z.out).setCell (p := ⟨wx.heap.size, n, none⟩) (by show wx.heap.size ≠ w.heap.size; omega) (.inr (by
              rcases HCc.out.2 with ⟨e, _⟩ | ⟨g, cap', cur, e, _, h4, _⟩
              · cases e
              · have eg : wx.heap.size = g := by injection e with e1 _ _; injection e1 with e1; injection e1
                exact ⟨cur, 4, by show wc.heap[wx.heap.size]? = _; rw [eg]; exact h4, by decide⟩)) _).setCell (p := ⟨gN, n, none⟩) (by show gN ≠ w.heap.size; omega) (.inl (by show gN < w.heap.size + 1; omega)) _, HL5.out, HL6.out⟩
            have HKq : Hid (KeptS (· = gN) w ((wc.setCell ⟨wx.heap.size, n, none⟩ (.bool (xq != nq))).setCell ⟨gN, n, none⟩ (.int .i64 xq))) := Lib.hid ((HKc.out.put (p := ⟨wx.heap.size, n, none⟩) (fun h => by have h : wx.heap.size < w.heap.size := h; omega) _).put (p := ⟨gN, n, none⟩) (fun _ => rfl) _)
            have HSq : Hid (wx.heap.size + 1 ≤ ((wc.setCell ⟨wx.heap.size, n, none⟩ (.bool (xq != nq))).setCell ⟨gN, n, none⟩ (.int .i64 xq)).heap.size) := Lib.hid (by simp only [World.setCell]; simp; omega)
            obtain ⟨cN1, fN1⟩ := own_get HNp.out n hltn
            have c5' : (wc.setCell ⟨wx.heap.size, n, none⟩ (.bool (xq != nq))).cell? ⟨gr, 5, none⟩ = some (.slice (some ⟨gN, 0, none⟩) nn cN) := (blk_cell (blk_far (HRW.out wc HKc.out) (p := ⟨wx.heap.size, n, none⟩) hngC _) 5).trans rfl
            generalize (overL X nets n).getD n 0 = oq at *
            generalize (fillB (changedOf nn X nets) n).getD n false = bq at *
            clear hchn HNp HCp
            have HC5 := Lib.hid c5'; clear c5'
            go_wp2_with fail
            exact ⟨⟨n + 1, by omega, by go_num, HKq, HRq, HCq, HNq, HSq⟩, by simp [intOf]; omega⟩
        · have hltn2 : decide ((n : Int) < (nn : Int)) = false := by simp; omega
          obtain rfl : n = nn := by omega
          have HF : Hid (wy.ownsRow wx.heap.size 4 1 (.slice (some ⟨wx.heap.size, 0, none⟩) n n) n (bools (changedOf n X nets))) := Lib.hid (by
            have h := hC.out
            have h2 := fillB_all (changedOf n X nets)
            rw [HCL.out] at h2
            rwa [h2] at h)
          have HF2 : Hid (wy.ownsRow w0.heap.size 3 1 (.slice (some ⟨gN, 0, none⟩) n cN) n (nums .i64 X)) := Lib.hid (by
            have h := hN.out
            have h2 := overL_all (xs := X) (ys := nets) (by rw [HXL.out, HNN.out])
            rw [HXL.out] at h2
            rwa [h2] at h)
          go_wp2_with fail
          go_ret
          exact ⟨wx.heap.size, rfl, own_mono HF.out HWX.out, HF2.out, hK.out⟩
end Go.Proofs.Ytobdhdehmkmjcaa
