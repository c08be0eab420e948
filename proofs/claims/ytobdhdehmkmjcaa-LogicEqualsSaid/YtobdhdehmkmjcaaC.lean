/- The table of all resolutions. -/
import Derived.Test.YtobdhdehmkmjcaaB
namespace Go.Proofs.Ytobdhdehmkmjcaa
open Go.RowKit Go.Proofs.YtobdhdehmkmjcaaW.PrintWords

def tabV (j : Nat) : Value := .int .i64 (meetF (j / 9 : Nat) (j % 9 : Nat))
def TabTo (k : Nat) (cur : Array Value) : Prop := cur.size = 81 ∧ ∀ j, j < k → cur[j]? = some (tabV j)
theorem TabTo.put {k : Nat} {cur : Array Value} (h : TabTo k cur) (hk : k < 81) : TabTo (k + 1) (cur.setIfInBounds k (tabV k)) := by
  refine ⟨by simp [h.1], fun j hj => ?_⟩
  by_cases e : k = j
  · subst e
    simp [h.1, hk]
  · rw [Array.getElem?_setIfInBounds_ne e]
    exact h.2 j (by omega)
theorem TabTo.one {cur : Array Value} (h : TabTo 81 cur) : cur.all (·.oneCell') = true := by
  rw [Array.all_eq_true]
  intro i hi
  have h2 := h.2 i (by rw [← h.1]; exact hi)
  rw [Array.getElem?_eq_getElem hi] at h2
  rw [Option.some.inj h2]
  rfl
theorem size62 : (Try.prog.info? 62).map (·.size) = some 81 := by kernel_rfl
theorem tabV_of (a b : Nat) (hb : b < 9) : Value.int .i64 (meetF a b) = tabV (a * 9 + b) := by
  unfold tabV
  rw [show (a * 9 + b) / 9 = a by omega, show (a * 9 + b) % 9 = b by omega]
/-- The blocks of the two arrays. -/
def TabW (w wr : World) (k : Nat) : Prop := Below w.heap.size w wr ∧ wr.heap[w.heap.size]? = some (.cells Try.zeroCells62 62 (0, 0)) ∧ ∃ cur, wr.heap[w.heap.size + 1]? = some (.cells cur 62 (0, 0)) ∧ TabTo k cur

set_option maxHeartbeats 400000 in
theorem table_any (w : World) :
    Calls Try.prog 35 #[] w fun e w' => (∃ cur, e = .returned (.agg cur) ∧ TabTo 81 cur) ∧ Below w.heap.size w w' := by
  have hT : TabW w ((w.alloc (Obj.cells Try.zeroCells62 62)).alloc (Obj.cells Try.zeroCells62 62)) 0 := by
    refine ⟨((Below.refl _ _).alloc (Nat.le_refl _) _).alloc (by simp) _, blk_alloc (blk_new _ _) _, Try.zeroCells62, by simpa using blk_new (w.alloc (Obj.cells Try.zeroCells62 62)) _, by kernel_rfl, fun j hj => absurd hj (by omega)⟩
  have HT := Lib.hid hT; clear hT
  go_enter Try.func35, Try.ntmps35
  go_wp2
  go_loopw [4] (fun i wr => ∃ a : Nat, a ≤ 9 ∧ i = .int .i64 a ∧ Hid (TabW w wr (a * 9))) (fun i _ => 9 - (intOf i).toNat)
  case atStart => exact ⟨0, by omega, rfl, HT.out⟩
  case round =>
    obtain ⟨a, ha, rfl, hA⟩ := hrel
    clear HT
    by_cases hlt : a < 9
    · have hd : decide ((a : Int) < 9) = true := by simp; omega
      go_wp2
      obtain ⟨wo, rfl⟩ : ∃ wo : World, wo = wr := ⟨_, rfl⟩
      go_loopw [7] (fun i wr => ∃ b : Nat, b ≤ 9 ∧ i = .int .i64 b ∧ Hid (TabW w wr (a * 9 + b))) (fun i _ => 9 - (intOf i).toNat)
      case atStart => exact ⟨0, by omega, rfl, hA.out⟩
      case round =>
        obtain ⟨b, hb, rfl, hB⟩ := hrel
        by_cases hlt2 : b < 9
        · obtain ⟨h1, h2, cur, h3, h4⟩ := hB.out
          clear hB hA
          have hlt80 : a * 9 + b < 81 := by omega
          have hd2 : decide ((b : Int) < 9) = true := by simp; omega
          have hcell : cur[a * 9 + b]? = some (cur[a * 9 + b]'(by rw [h4.1]; exact hlt80)) := by simp [h4.1, hlt80]
          generalize cur[a * 9 + b]'(by rw [h4.1]; exact hlt80) = old at hcell
          have hF : Hid (∀ W1, Below wr.drew.heap.size wr.drew W1 → W1.cell? ⟨w.heap.size + 1, a * 9 + b, none⟩ = some old ∧ W1.frozen? ⟨w.heap.size + 1, a * 9 + b, none⟩ = false ∧ TabW w (W1.setCell ⟨w.heap.size + 1, a * 9 + b, none⟩ (.int .i64 (meetF a b))) (a * 9 + b + 1)) := by
            intro W1 hb
            have hc1 := blk_below (w := wr.drew) h3 hb
            have hz1 := blk_below (w := wr.drew) h2 hb
            refine ⟨(blk_cell hc1 _).trans hcell, blk_frozen hc1 _, ?_, ?_, ?_⟩
            · refine Below.setCell ?_ (by simp) _
              exact h1.trans ((Below.drew (Below.refl _ _)).trans (hb.mono h1.size))
            · exact blk_far hz1 (by simp) _
            · exact ⟨_, blk_set hc1 _ _, by rw [tabV_of a b hlt2]; exact h4.put hlt80⟩
          clear h1 h2 h3 h4 hcell cur
          go_wp2
          go_region_with (go_at_call 69; refine (meet_any _ _ _).mono ?_; rintro e w1 ⟨rfl, hb1⟩; obtain ⟨g1, g2, g3⟩ := hF.out w1 hb1; have G3 := Lib.hid g3; clear g3 hb1)
          all_goals
            go_wp2
            go_roundw
            case rel => exact ⟨b + 1, by omega, by go_num, G3.out⟩
            case measure => simp [intOf]; omega
        · obtain rfl : b = 9 := by omega
          have hB' := Lib.hid hB; clear hB
          go_wp2
          go_roundw
          case rel => exact ⟨a + 1, by omega, by go_num, by have := hB'.out.out; rwa [show (a + 1) * 9 = a * 9 + 9 by omega]⟩
          case measure => simp [intOf]; omega
    · obtain rfl : a = 9 := by omega
      obtain ⟨h1, h2, cur, h3, h4⟩ := hA.out
      clear hA
      have hs1 : (Try.prog.info? 62).map (·.size) = some cur.size := by rw [h4.1]; exact size62
      have hs0 : Try.zeroCells62.size = cur.size := by rw [h4.1]; kernel_rfl
      have h1c : cur.all (·.oneCell') = true := h4.one
      have H4 := Lib.hid h4; clear h4
      have H3 := Lib.hid h3; clear h3
      have H2 := Lib.hid h2; clear h2
      have H1 := Lib.hid h1; clear h1
      have HS1 := Lib.hid hs1; clear hs1
      have HS0 := Lib.hid hs0; clear hs0
      have H1c := Lib.hid h1c; clear h1c
      go_wp2_with (first | (refine wpList_load_row rfl 62 _ rfl (w.heap.size + 1) rfl 62 cur (0, 0) _ H3.out Try.underlying62 rfl HS1.out ?_) | (refine wpList_store_row rfl 62 _ _ rfl w.heap.size cur rfl rfl 62 Try.zeroCells62 H2.out HS1.out HS0.out H1c.out ?_))
      refine bodyPost_ret (v := .agg cur) (results_cell_row rfl _ _ w.heap.size 62 cur (0, 0) _ rfl (setRow_heap _ _ Try.zeroCells62 _ _ _ H2.out) Try.underlying62 rfl HS1.out) rfl ⟨⟨cur, rfl, H4.out⟩, ?_⟩
      exact H1.out.trans ⟨rfl, rfl, rfl, by simp, fun k hk => setRow_other _ _ _ _ (by omega)⟩
end Go.Proofs.Ytobdhdehmkmjcaa
