/- The reference's adder is made. -/
import Derived.Test.YtobdhdehmkmjcaaA1
import Derived.Test.YtobdhdehmkmjcaaP7
namespace Go.Proofs.Ytobdhdehmkmjcaa
set_option linter.unusedVariables false
set_option linter.unusedSimpArgs false
open Go.RowKit Go.Proofs.YtobdhdehmkmjcaaW.PrintWords Go.Proofs.YtobdhdehmkmjcaaW.PrintLast

def flatD (ds : List DriveL) : List Value := ds.flatMap fun d => [.int .i64 d.net, .int .i64 d.v]
def GCells (W : World) (b : Nat) : List GateL → List Value → Prop
  | [], cs => cs = []
  | g :: gs, cs => ∃ vI rest, cs = .int .i64 g.kind :: vI :: .int .i64 g.out :: .int .i64 g.delay :: rest ∧ W.ownsRow b 3 1 vI g.ins.length (nums .i64 g.ins) ∧ GCells W b gs rest
theorem GCells.imp {W W' : World} {b : Nat} (h : ∀ v n xs, W.ownsRow b 3 1 v n xs → W'.ownsRow b 3 1 v n xs) : ∀ {gs : List GateL} {cs : List Value}, GCells W b gs cs → GCells W' b gs cs
  | [], _, h0 => h0
  | g :: gs, cs, ⟨vI, rest, e, h1, h2⟩ => ⟨vI, rest, e, h _ _ _ h1, GCells.imp h h2⟩
theorem GCells.append {W : World} {b : Nat} {hs : List GateL} {ds : List Value} (h : GCells W b hs ds) : ∀ {gs : List GateL} {cs : List Value}, GCells W b gs cs → GCells W b (gs ++ hs) (cs ++ ds)
  | [], _, h0 => by subst h0; exact h
  | g :: gs, cs, ⟨vI, rest, e, h1, h2⟩ => ⟨vI, rest ++ ds, by rw [e]; rfl, h1, GCells.append h h2⟩
theorem GCells.at_ {W : World} {b : Nat} : ∀ {gs : List GateL} {cs : List Value}, GCells W b gs cs → ∀ i, i < gs.length → ∃ vI, cs[i * 4]? = some (.int .i64 (gs.getD i zGate).kind) ∧ cs[i * 4 + 1]? = some vI ∧ cs[i * 4 + 2]? = some (.int .i64 (gs.getD i zGate).out) ∧ cs[i * 4 + 3]? = some (.int .i64 (gs.getD i zGate).delay) ∧ W.ownsRow b 3 1 vI (gs.getD i zGate).ins.length (nums .i64 (gs.getD i zGate).ins)
  | [], _, _, i, hi => by simp at hi
  | g :: gs, cs, ⟨vI, rest, e, h1, h2⟩, 0, _ => by subst e; exact ⟨vI, rfl, rfl, rfl, rfl, h1⟩
  | g :: gs, cs, ⟨vI, rest, e, h1, h2⟩, i + 1, hi => by
    subst e
    obtain ⟨v, e0, e1, e2, e3, e4⟩ := GCells.at_ h2 i (by simpa using hi)
    refine ⟨v, ?_, ?_, ?_, ?_, ?_⟩
    · rw [show (i + 1) * 4 = i * 4 + 4 by omega]; simpa using e0
    · rw [show (i + 1) * 4 + 1 = (i * 4 + 1) + 4 by omega]; simpa using e1
    · rw [show (i + 1) * 4 + 2 = (i * 4 + 2) + 4 by omega]; simpa using e2
    · rw [show (i + 1) * 4 + 3 = (i * 4 + 3) + 4 by omega]; simpa using e3
    · simpa using e4
def GRow (W : World) (b : Nat) (v : Value) (gs : List GateL) : Prop := ∃ cs, W.ownsRow b 88 4 v gs.length cs ∧ GCells W b gs cs
theorem GRow.below {W W' : World} {b : Nat} {v : Value} {gs : List GateL} (h : GRow W b v gs) (hb : Below W.heap.size W W') : GRow W' b v gs := by
  obtain ⟨cs, h1, h2⟩ := h
  exact ⟨cs, pw_own_below h1 hb, h2.imp fun _ _ _ h => pw_own_below h hb⟩
theorem GRow.setCell {W : World} {b : Nat} {v : Value} {gs : List GateL} (h : GRow W b v gs) {p : Addr} (hp : p.block < b) (u : Value) : GRow (W.setCell p u) b v gs := by
  obtain ⟨cs, h1, h2⟩ := h
  refine ⟨cs, own_setCell h1 (fun e => by have := own_base h1 _ e.symm; omega) u, h2.imp fun v' n xs h => own_setCell h (fun e => by have := own_base h _ e.symm; omega) u⟩
theorem own_cells {W : World} {b n size : Nat} {e : TypeId} {v : Value} {xs : List Value} (h : W.ownsRow b e size v n xs) (hn : 0 < n) : ∃ g c, v = .slice (some ⟨g, 0, none⟩) n c ∧ n ≤ c ∧ n ≤ maxLen ∧ ∀ j u, xs[j]? = some u → W.cell? ⟨g, j, none⟩ = some u := by
  rcases h.2 with ⟨rfl, h0⟩ | ⟨g, cap, cur, rfl, hg, hc, hn', hm, hs, ht⟩
  · omega
  · refine ⟨g, cap, rfl, hn', by omega, fun j u hj => ?_⟩
    rw [blk_cell hc]
    rw [← ht] at hj
    rw [List.getElem?_take] at hj
    split at hj
    · simpa using hj
    · cases hj
theorem own_le' {W : World} {b n c : Nat} {e : TypeId} {size : Nat} {A : Option Addr} {xs : List Value} (h : W.ownsRow b e size (.slice A n c) n xs) : n ≤ c := by
  rcases h.2 with ⟨e1, h0⟩ | ⟨g, cap, cur, e1, hg, hc, hn', _⟩
  · omega
  · injection e1 with _ _ e3
    omega
theorem GRow.reads {W : World} {b : Nat} {v : Value} {gs : List GateL} (h : GRow W b v gs) (hn : 0 < gs.length) : ∃ A c, v = .slice A gs.length c ∧ gs.length ≤ c ∧ RdGates W A gs.length gs := by
  obtain ⟨cs, h1, h2⟩ := h
  obtain ⟨g, c, rfl, hc, hm, hcell⟩ := own_cells h1 hn
  refine ⟨_, c, rfl, hc, rfl, by simp only [maxLen] at hm; omega, fun _ => ⟨_, rfl, fun i hi => ?_⟩⟩
  obtain ⟨vI, e0, e1, e2, e3, e4⟩ := h2.at_ i hi
  obtain ⟨AI, cI, rfl⟩ := own_slice e4
  have ea : (⟨g, 0, none⟩ : Addr).add (i * 4) = ⟨g, i * 4, none⟩ := by simp [Addr.add]; exact Eq.symm
  rw [ea]
  exact ⟨hcell _ _ e0, ⟨AI, cI, hcell _ _ e1, own_reads' e4, own_le' e4⟩, hcell _ _ e2, hcell _ _ e3⟩
theorem flatD_at : ∀ {ds : List DriveL} (i : Nat), i < ds.length → (flatD ds)[i * 2]? = some (.int .i64 (ds.getD i zDrive).net) ∧ (flatD ds)[i * 2 + 1]? = some (.int .i64 (ds.getD i zDrive).v)
  | [], i, hi => by simp at hi
  | d :: ds, 0, _ => ⟨rfl, rfl⟩
  | d :: ds, i + 1, hi => by
    obtain ⟨h1, h2⟩ := flatD_at (ds := ds) i (by simpa using hi)
    have e : flatD (d :: ds) = .int .i64 d.net :: .int .i64 d.v :: flatD ds := rfl
    rw [e]
    refine ⟨?_, ?_⟩
    · rw [show (i + 1) * 2 = i * 2 + 2 by omega]; simpa using h1
    · rw [show (i + 1) * 2 + 1 = (i * 2 + 1) + 2 by omega]; simpa using h2
theorem drow_reads {W : World} {b : Nat} {v : Value} {ds : List DriveL} (h : W.ownsRow b 85 2 v ds.length (flatD ds)) (hn : 0 < ds.length) : ∃ A c, v = .slice A ds.length c ∧ ds.length ≤ c ∧ RdDrives W A ds.length ds := by
  obtain ⟨g, c, rfl, hc, hm, hcell⟩ := own_cells h hn
  refine ⟨_, c, rfl, hc, rfl, by simp only [maxLen] at hm; omega, fun _ => ⟨_, rfl, fun i hi => ?_⟩⟩
  obtain ⟨e0, e1⟩ := flatD_at i hi
  have ea : (⟨g, 0, none⟩ : Addr).add (i * 2) = ⟨g, i * 2, none⟩ := by simp [Addr.add]; exact Eq.symm
  rw [ea]
  exact ⟨hcell _ _ e0, hcell _ _ e1⟩
def stG (n nx : Int) : List GateL := [⟨5, [n, n + 1], n + 3, 0⟩, ⟨5, [n + 3, n + 2], n + 4, 0⟩, ⟨3, [n, n + 1], n + 5, 0⟩, ⟨3, [n + 3, n + 2], n + 6, 0⟩, ⟨4, [n + 5, n + 6], nx, 0⟩]
def gsG : Nat → List GateL
  | 0 => []
  | k + 1 => gsG k ++ stG (7 * k) (if k = 4 then 37 else 7 * k + 9)
theorem gsG_eq : gsG 5 = gsA := by kernel_rfl
theorem gsG_len : ∀ k, (gsG k).length = 5 * k
  | 0 => rfl
  | k + 1 => by
    show (gsG k ++ stG _ _).length = _
    rw [List.length_append, gsG_len k]
    show 5 * k + 5 = 5 * (k + 1)
    omega
theorem dsG_len (weak : Bool) (a b c : Int) : ∀ k, (dsG weak a b c k).length = 2 * k + 1
  | 0 => rfl
  | k + 1 => by
    show (dsG weak a b c k ++ [_, _]).length = _
    rw [List.length_append, dsG_len weak a b c k]
    show 2 * k + 1 + 2 = 2 * (k + 1) + 1
    omega
theorem flatD_append (xs ys : List DriveL) : flatD (xs ++ ys) = flatD xs ++ flatD ys := by simp [flatD]
theorem info85 : (Try.prog.info? 85).map (fun i => (i.zero, i.size, i.bytes)) = some (some (.agg #[.int .i64 0, .int .i64 0]), 2, 16) := by kernel_rfl
theorem info88 : (Try.prog.info? 88).map (fun i => (i.zero, i.size, i.bytes)) = some (some (.agg #[.int .i64 0, .slice none 0 0, .int .i64 0, .int .i64 0]), 4, 48) := by kernel_rfl
theorem GRow.grown {W w1 : World} {b b' n : Nat} {sz : Nat} {v vd : Value} {gs : List GateL} {xs : List Value} (h : GRow W b v gs) (hd : W.ownsRow b' 85 sz vd n xs) (hg : W.grownBy w1 vd.ownBlock) : GRow w1 b v gs := by
  obtain ⟨cs, h1, h2⟩ := h
  exact ⟨cs, own_other h1 hg (own_type_ne h1 hd (by decide)), h2.imp fun _ _ _ h => own_other h hg (own_type_ne h hd (by decide))⟩
/-- The cells of one bit's gates, and the memory behind their making. -/
abbrev stCells (W : World) (n nx : Int) : List Value := [.int .i64 5, .slice (some ⟨W.heap.size, 0, none⟩) 2 2, .int .i64 (n + 3), .int .i64 0, .int .i64 5, .slice (some ⟨W.heap.size + 1, 0, none⟩) 2 2, .int .i64 (n + 4), .int .i64 0, .int .i64 3, .slice (some ⟨W.heap.size + 1 + 1, 0, none⟩) 2 2, .int .i64 (n + 5), .int .i64 0, .int .i64 3, .slice (some ⟨W.heap.size + 1 + 1 + 1, 0, none⟩) 2 2, .int .i64 (n + 6), .int .i64 0, .int .i64 4, .slice (some ⟨W.heap.size + 1 + 1 + 1 + 1, 0, none⟩) 2 2, .int .i64 nx, .int .i64 0]
abbrev stW (W : World) (n nx : Int) : World := (((((W.alloc (.cells #[.int .i64 n, .int .i64 (n + 1)] 3)).alloc (.cells #[.int .i64 (n + 3), .int .i64 (n + 2)] 3)).alloc (.cells #[.int .i64 n, .int .i64 (n + 1)] 3)).alloc (.cells #[.int .i64 (n + 3), .int .i64 (n + 2)] 3)).alloc (.cells #[.int .i64 (n + 5), .int .i64 (n + 6)] 3)).alloc (.cells #[.int .i64 5, .slice (some ⟨W.heap.size, 0, none⟩) 2 2, .int .i64 (n + 3), .int .i64 0, .int .i64 5, .slice (some ⟨W.heap.size + 1, 0, none⟩) 2 2, .int .i64 (n + 4), .int .i64 0, .int .i64 3, .slice (some ⟨W.heap.size + 1 + 1, 0, none⟩) 2 2, .int .i64 (n + 5), .int .i64 0, .int .i64 3, .slice (some ⟨W.heap.size + 1 + 1 + 1, 0, none⟩) 2 2, .int .i64 (n + 6), .int .i64 0, .int .i64 4, .slice (some ⟨W.heap.size + 1 + 1 + 1 + 1, 0, none⟩) 2 2, .int .i64 nx, .int .i64 0] 88)
theorem size_alloc (W : World) (o : Obj) : (W.alloc o).heap.size = W.heap.size + 1 := Array.size_push _
theorem lit2 (W : World) (b : Nat) (x y : Int) (hb : b ≤ W.heap.size) : (W.alloc (.cells #[.int .i64 x, .int .i64 y] 3)).ownsRow b 3 1 (.slice (some ⟨W.heap.size, 0, none⟩) 2 2) 2 (nums .i64 [x, y]) :=
  World.ownsRow_lit (base := b) (e := 3) (size := 1) W #[.int .i64 x, .int .i64 y] 2 hb (by simp [maxLen]) rfl
theorem stage_mem (W : World) (b : Nat) (n nx : Int) (hb : b ≤ W.heap.size) :
    (stW W n nx).heap.size = W.heap.size + 6 ∧ Below W.heap.size W (stW W n nx) ∧ GCells (stW W n nx) b (stG n nx) (stCells W n nx) ∧ (stW W n nx).heap[W.heap.size + 1 + 1 + 1 + 1 + 1]? = some (.cells (stCells W n nx).toArray 88 (0, 0)) := by
  have z1 : (W.alloc (.cells #[.int .i64 n, .int .i64 (n + 1)] 3)).heap.size = W.heap.size + 1 := by rw [size_alloc]
  have z2 : ((W.alloc (.cells #[.int .i64 n, .int .i64 (n + 1)] 3)).alloc (.cells #[.int .i64 (n + 3), .int .i64 (n + 2)] 3)).heap.size = W.heap.size + 1 + 1 := by rw [size_alloc, z1]
  have z3 : (((W.alloc (.cells #[.int .i64 n, .int .i64 (n + 1)] 3)).alloc (.cells #[.int .i64 (n + 3), .int .i64 (n + 2)] 3)).alloc (.cells #[.int .i64 n, .int .i64 (n + 1)] 3)).heap.size = W.heap.size + 1 + 1 + 1 := by rw [size_alloc, z2]
  have z4 : ((((W.alloc (.cells #[.int .i64 n, .int .i64 (n + 1)] 3)).alloc (.cells #[.int .i64 (n + 3), .int .i64 (n + 2)] 3)).alloc (.cells #[.int .i64 n, .int .i64 (n + 1)] 3)).alloc (.cells #[.int .i64 (n + 3), .int .i64 (n + 2)] 3)).heap.size = W.heap.size + 1 + 1 + 1 + 1 := by rw [size_alloc, z3]
  have z5 : (((((W.alloc (.cells #[.int .i64 n, .int .i64 (n + 1)] 3)).alloc (.cells #[.int .i64 (n + 3), .int .i64 (n + 2)] 3)).alloc (.cells #[.int .i64 n, .int .i64 (n + 1)] 3)).alloc (.cells #[.int .i64 (n + 3), .int .i64 (n + 2)] 3)).alloc (.cells #[.int .i64 (n + 5), .int .i64 (n + 6)] 3)).heap.size = W.heap.size + 1 + 1 + 1 + 1 + 1 := by rw [size_alloc, z4]
  refine ⟨?_, ?_, ?_, ?_⟩
  · show (World.alloc _ _).heap.size = _
    rw [size_alloc, z5]
  · exact ((((((Below.refl _ _).alloc (Nat.le_refl _) _).alloc (by rw [z1]; omega) _).alloc (by rw [z2]; omega) _).alloc (by rw [z3]; omega) _).alloc (by rw [z4]; omega) _).alloc (by rw [z5]; omega) _
  · refine ⟨_, _, rfl, ?_, _, _, rfl, ?_, _, _, rfl, ?_, _, _, rfl, ?_, _, _, rfl, ?_, rfl⟩
    · have h := lit2 W b (n) (n + 1) (by exact hb)
      exact (((((h).alloc _).alloc _).alloc _).alloc _).alloc _
    · have h := lit2 (W.alloc (.cells #[.int .i64 n, .int .i64 (n + 1)] 3)) b (n + 3) (n + 2) (by rw [z1]; omega)
      rw [z1] at h
      exact ((((h).alloc _).alloc _).alloc _).alloc _
    · have h := lit2 ((W.alloc (.cells #[.int .i64 n, .int .i64 (n + 1)] 3)).alloc (.cells #[.int .i64 (n + 3), .int .i64 (n + 2)] 3)) b (n) (n + 1) (by rw [z2]; omega)
      rw [z2] at h
      exact (((h).alloc _).alloc _).alloc _
    · have h := lit2 (((W.alloc (.cells #[.int .i64 n, .int .i64 (n + 1)] 3)).alloc (.cells #[.int .i64 (n + 3), .int .i64 (n + 2)] 3)).alloc (.cells #[.int .i64 n, .int .i64 (n + 1)] 3)) b (n + 3) (n + 2) (by rw [z3]; omega)
      rw [z3] at h
      exact ((h).alloc _).alloc _
    · have h := lit2 ((((W.alloc (.cells #[.int .i64 n, .int .i64 (n + 1)] 3)).alloc (.cells #[.int .i64 (n + 3), .int .i64 (n + 2)] 3)).alloc (.cells #[.int .i64 n, .int .i64 (n + 1)] 3)).alloc (.cells #[.int .i64 (n + 3), .int .i64 (n + 2)] 3)) b (n + 5) (n + 6) (by rw [z4]; omega)
      rw [z4] at h
      exact (h).alloc _
  · have h := blk_new (((((W.alloc (.cells #[.int .i64 n, .int .i64 (n + 1)] 3)).alloc (.cells #[.int .i64 (n + 3), .int .i64 (n + 2)] 3)).alloc (.cells #[.int .i64 n, .int .i64 (n + 1)] 3)).alloc (.cells #[.int .i64 (n + 3), .int .i64 (n + 2)] 3)).alloc (.cells #[.int .i64 (n + 5), .int .i64 (n + 6)] 3)) (.cells #[.int .i64 5, .slice (some ⟨W.heap.size, 0, none⟩) 2 2, .int .i64 (n + 3), .int .i64 0, .int .i64 5, .slice (some ⟨W.heap.size + 1, 0, none⟩) 2 2, .int .i64 (n + 4), .int .i64 0, .int .i64 3, .slice (some ⟨W.heap.size + 1 + 1, 0, none⟩) 2 2, .int .i64 (n + 5), .int .i64 0, .int .i64 3, .slice (some ⟨W.heap.size + 1 + 1 + 1, 0, none⟩) 2 2, .int .i64 (n + 6), .int .i64 0, .int .i64 4, .slice (some ⟨W.heap.size + 1 + 1 + 1 + 1, 0, none⟩) 2 2, .int .i64 nx, .int .i64 0] 88)
    rw [z5] at h
    exact h
end Go.Proofs.Ytobdhdehmkmjcaa
