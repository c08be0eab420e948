/- A player is made. -/
import Derived.Test.YtobdhdehmkmjcaaV
namespace Go.Proofs.Ytobdhdehmkmjcaa
open Go.RowKit Go.Proofs.YtobdhdehmkmjcaaW.PrintWords Go.Proofs.YtobdhdehmkmjcaaW.PrintLast

def tabA : Array Value := ((List.range 81).map tabV).toArray
theorem tabA_of {cur : Array Value} (h : TabTo 81 cur) : cur = tabA := by
  apply Array.ext_getElem?
  intro i
  by_cases hi : i < 81
  · rw [h.2 i hi]
    unfold tabA
    rw [List.getElem?_toArray, List.getElem?_map, List.getElem?_range hi]
    rfl
  · rw [Array.getElem?_eq_none (by rw [h.1]; omega), Array.getElem?_eq_none (by unfold tabA; rw [List.size_toArray, List.length_map, List.length_range]; omega)]
def playerCells (nets : Int) (A : Option Addr) (n c m : Nat) : Array Value := #[.int .i64 nets, .slice A n c] ++ tabA ++ #[.map (some m)]
theorem built_player (nets : Int) (A : Option Addr) (n c m : Nat) :
    Try.prog.built 125 [(0, .agg #[.int .i64 nets, .slice A n c]), (1, .agg tabA), (2, .map (some m))] = some (playerCells nets A n c m) := by
  kernel_rfl
theorem build_player (nets : Int) (A : Option Addr) (n c m : Nat) (W : World) :
    (Instr.build 125 #[(0, .agg #[.int .i64 nets, .slice A n c]), (1, .agg tabA), (2, .map (some m))]).run Try.prog W = .ok (.agg (playerCells nets A n c m)) W :=
  run_build W 125 _ _ (built_player nets A n c m)
theorem player_tab : ∀ a b : Fin 9, tabA[a.val * 9 + b.val]? = some (.int .i64 (meetF a.val b.val)) := by
  intro a b
  have h81 : a.val * 9 + b.val < 81 := by omega
  have : tabA[a.val * 9 + b.val]? = some (tabV (a.val * 9 + b.val)) := by
    unfold tabA
    rw [List.getElem?_toArray, List.getElem?_map, List.getElem?_range h81]
    rfl
  rw [this, tabV_of a.val b.val b.isLt]
theorem player_new (nets : Int) (A : Option Addr) (n c m : Nat) (W : World) (h : W.heap[m]? = some (.map gE6 6)) :
    Player (W.alloc (.cells (playerCells nets A n c m) 125)) W.heap.size m nets A n c := by
  have hs : tabA.size = 81 := by unfold tabA; rw [List.size_toArray, List.length_map, List.length_range]
  have p0 : (playerCells nets A n c m)[0]? = some (.int .i64 nets) := by
    unfold playerCells
    rw [Array.getElem?_append_left (by rw [Array.size_append, hs]; show 0 < 2 + 81; omega), Array.getElem?_append_left (by show 0 < 2; omega)]
    rfl
  have p1 : (playerCells nets A n c m)[1]? = some (.slice A n c) := by
    unfold playerCells
    rw [Array.getElem?_append_left (by rw [Array.size_append, hs]; show 1 < 2 + 81; omega), Array.getElem?_append_left (by show 1 < 2; omega)]
    rfl
  refine ⟨(blk_cell (blk_new W _) 0).trans p0, (blk_cell (blk_new W _) 1).trans p1, ?_, (blk_cell (blk_new W _) 83).trans ?_, blk_alloc h _⟩
  · intro a b ha hb
    rw [blk_cell (blk_new W _)]
    have := player_tab ⟨a.toNat, by omega⟩ ⟨b.toNat, by omega⟩
    have e1 : ((a.toNat : Nat) : Int) = a := Int.toNat_of_nonneg ha.1
    have e2 : ((b.toNat : Nat) : Int) = b := Int.toNat_of_nonneg hb.1
    simp only [e1, e2] at this
    unfold playerCells
    rw [Array.getElem?_append_left (by rw [Array.size_append, hs]; show _ < 2 + 81; omega), Array.getElem?_append_right (by show 2 ≤ _; omega)]
    show tabA[2 + a.toNat * 9 + b.toNat - 2]? = _
    rw [show 2 + a.toNat * 9 + b.toNat - 2 = a.toNat * 9 + b.toNat by omega]
    exact this
  · unfold playerCells
    rw [Array.getElem?_append_right (by rw [Array.size_append, hs]; show 2 + 81 ≤ 83; omega), Array.size_append, hs]
    rfl

def preCells (nets : Int) (A : Option Addr) (n c : Nat) : Array Value := #[.int .i64 nets, .slice A n c] ++ tabA ++ #[.map none]
theorem pre_fold (nets : Int) (A : Option Addr) (n c : Nat) :
    Array.foldl (fun cs x => cs.setIfInBounds (2 + x.snd) x.fst) ((Try.zeroCells125.setIfInBounds 0 (Value.int IntKind.i64 nets)).setIfInBounds 1 (Value.slice A n c)) tabA.zipIdx 0 81 = preCells nets A n c := by
  kernel_rfl
theorem pre_set (nets : Int) (A : Option Addr) (n c m : Nat) : (preCells nets A n c).setIfInBounds 83 (.map (some m)) = playerCells nets A n c m := by kernel_rfl
theorem pre_size (nets : Int) (A : Option Addr) (n c : Nat) : (preCells nets A n c).size = 84 := by kernel_rfl
theorem tabA_size : tabA.size = 81 := by kernel_rfl

set_option maxHeartbeats 1000000 in
set_option maxRecDepth 100000 in
theorem made_any (nets : Int) (A : Option Addr) (n c : Nat) (w : World) :
    Calls Try.prog 52 #[.agg #[.int .i64 nets, .slice A n c]] w fun e w' => ∃ g mb, e = .returned (.pointer (some ⟨g, 0, none⟩)) ∧ Player w' g mb nets A n c ∧ w.heap.size ≤ g ∧ Below w.heap.size w w' := by
  have hB : Below w.heap.size w (w.alloc (.cells #[.int .i64 nets, .slice A n c] 39)) := (Below.refl _ _).alloc (Nat.le_refl _) _
  have hb0 : (w.alloc (.cells #[.int .i64 nets, .slice A n c] 39)).drew.heap[w.heap.size]? = some (.cells #[.int .i64 nets, .slice A n c] 39 (0, 0)) := blk_new w _
  have c0 : (w.alloc (.cells #[.int .i64 nets, .slice A n c] 39)).drew.cell? ⟨w.heap.size, 0, none⟩ = some (.int .i64 nets) := (blk_cell hb0 0).trans rfl
  have c1 : (w.alloc (.cells #[.int .i64 nets, .slice A n c] 39)).drew.cell? ⟨w.heap.size, 1, none⟩ = some (.slice A n c) := (blk_cell hb0 1).trans rfl
  obtain ⟨T, hT⟩ : ∃ T : Array Value, tabA = T := ⟨_, rfl⟩
  obtain ⟨pc, hpc⟩ : ∃ pc : Nat → Array Value, playerCells nets A n c = pc := ⟨_, rfl⟩
  obtain ⟨X, hX⟩ : ∃ X : Array Value, preCells nets A n c = X := ⟨_, rfl⟩
  have hX1 := pre_fold nets A n c
  have hX2 := pre_size nets A n c
  have hX3 := pre_set nets A n c
  have hX4 := tabA_size
  rw [hX, hT] at hX1
  rw [hX] at hX2 hX3
  rw [hpc] at hX3
  rw [hT] at hX4
  have hpl : ∀ (m : Nat) (W : World) (_ : W.heap[m]? = some (.map gE6 6)), Player (W.alloc (.cells (pc m) 125)) W.heap.size m nets A n c := by
    rw [← hpc]; exact player_new nets A n c
  have htab : ∀ cur, TabTo 81 cur → cur = T := fun cur h => (tabA_of h).trans hT
  have HPLN := Lib.hid hpl; clear hpl
  have HTAB := Lib.hid htab; clear htab
  clear hT hpc hX
  have HB := Lib.hid (pw_below_drewN hB 1 : Below w.heap.size w (w.alloc (.cells #[.int .i64 nets, .slice A n c] 39)).drew); clear hB
  have HB0 := Lib.hid hb0; clear hb0
  go_enter Try.func52, Try.ntmps52
  go_wp2
  go_region_law (first
    | (refine goes_ (f := 35) Try.func35 (by kernel_rfl) rfl #[] rfl rfl rfl (by simp) ?_; refine (table_any _).mono ?_; rintro e w1 ⟨⟨cur, rfl, hcur⟩, hb1⟩; refine ⟨_, rfl, ?_⟩; obtain rfl := HTAB.out _ hcur; have hb2 := blk_below HB0.out hb1; have c10 : w1.cell? ⟨w.heap.size, 0, none⟩ = some (.int .i64 nets) := (blk_cell hb2 0).trans rfl; have c11 : w1.cell? ⟨w.heap.size, 1, none⟩ = some (.slice A n c) := (blk_cell hb2 1).trans rfl; have hb3 := blk_alloc hb2 (.map gE6 6); have c20 : (w1.alloc (.map gE6 6)).cell? ⟨w.heap.size, 0, none⟩ = some (.int .i64 nets) := (blk_cell hb3 0).trans rfl; have c21 : (w1.alloc (.map gE6 6)).cell? ⟨w.heap.size, 1, none⟩ = some (.slice A n c) := (blk_cell hb3 1).trans rfl; have HBB := Lib.hid (HB.out.trans (hb1.mono HB.out.size)); clear hb1 hb2 hb3)
    | (refine goes_ (f := 40) Try.func40 (by kernel_rfl) rfl #[] rfl rfl rfl (by simp) ?_; refine (gates_any _).mono ?_; rintro e w2 ⟨rfl, rfl⟩; refine ⟨_, rfl, ?_⟩; have HPL : Hid (Player ((w1.alloc (.map gE6 6)).alloc (.cells (pc w1.heap.size) 125)) (w1.heap.size + 1) w1.heap.size nets A n c) := Lib.hid (by have h := HPLN.out w1.heap.size (w1.alloc (.map gE6 6)) (blk_new w1 _); rwa [show (w1.alloc (.map gE6 6)).heap.size = w1.heap.size + 1 from Array.size_push _] at h)))
  all_goals (go_wp2_with fail; go_ret; exact ⟨_, _, rfl, HPL.out, Nat.le_trans HBB.out.size (Nat.le_succ _), ((HBB.out.alloc HBB.out.size _).alloc (by have := HBB.out.size; simp; omega) _)⟩)
end Go.Proofs.Ytobdhdehmkmjcaa
