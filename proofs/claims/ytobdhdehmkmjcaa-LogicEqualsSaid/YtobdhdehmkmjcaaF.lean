/- The map of the gates, and Gate. -/
import Derived.Test.YtobdhdehmkmjcaaE
import Derived.MapKept
namespace Go.Proofs.Ytobdhdehmkmjcaa
open Go.RowKit Go.Proofs.YtobdhdehmkmjcaaW.PrintWords

section
variable {P : Program}
/-- A new key goes into a map of ints whose block stands in the world. -/
theorem run_insert_int (w : World) (t kt et : TypeId) (hu : P.underlying t = some (.map kt et)) (hk : P.underlying kt = some (.int .i64)) (g : Nat) (es : Array MapEntry) (c : Nat) (k : Int) (v : Value)
    (hb : w.heap[g]? = some (.map es c)) (hf : Instr.findNow (.int .i64) (.int .i64 k) es.toList 0 = some none) :
    (Instr.mapUpdate t (.map (some g)) (.int .i64 k) v).run P w = .ok () { w with heap := w.heap.setIfInBounds g (.map (es.push { key := .int .i64 k, val := v, born := c }) (c + 1)) } := by
  simp [Instr.mapUpdate, run_underlying hu, MapKept.run_getObj_map hb, MapKept.run_checkKey (n := 9999) hk (show MapKept.IsKey (.int .i64) (.int .i64 k) from rfl), MapKept.run_findKey hk hf, MapKept.run_setObj_map _ hb, Result.andThen]
theorem run_lookup_int (w : World) (t kt et : TypeId) (hu : P.underlying t = some (.map kt et)) (hk : P.underlying kt = some (.int .i64)) (g : Nat) (es : Array MapEntry) (c : Nat) (k : Int) (i : Nat) (v : Value)
    (hb : w.heap[g]? = some (.map es c)) (hf : Instr.findNow (.int .i64) (.int .i64 k) es.toList 0 = some (some (i, v))) :
    (Instr.lookup t (.map (some g)) (.int .i64 k) false).run P w = .ok v w := by
  simp [Instr.lookup, run_underlying hu, MapKept.run_getObj_map hb, MapKept.run_checkKey (n := 9999) hk (show MapKept.IsKey (.int .i64) (.int .i64 k) from rfl), MapKept.run_findKey hk hf, Result.andThen]
end

def fnV (f : Nat) : Value := .func (.func f) #[] #[]
def gE0 : Array MapEntry := #[]
def gE1 : Array MapEntry := gE0.push ⟨.int .i64 1, fnV 71, 0⟩
def gE2 : Array MapEntry := gE1.push ⟨.int .i64 2, fnV 72, 1⟩
def gE3 : Array MapEntry := gE2.push ⟨.int .i64 3, fnV 73, 2⟩
def gE4 : Array MapEntry := gE3.push ⟨.int .i64 4, fnV 74, 3⟩
def gE5 : Array MapEntry := gE4.push ⟨.int .i64 5, fnV 75, 4⟩
def gE6 : Array MapEntry := gE5.push ⟨.int .i64 6, fnV 76, 5⟩
theorem setNew (w : World) (a b : Obj) : ({ (w.alloc a) with heap := (w.alloc a).heap.setIfInBounds w.heap.size b } : World) = w.alloc b := by
  have : (w.alloc a).heap.setIfInBounds w.heap.size b = (w.alloc b).heap := by
    show (w.heap.push a).setIfInBounds w.heap.size b = w.heap.push b
    apply Array.ext_getElem?
    intro i
    simp only [Array.getElem?_setIfInBounds, Array.getElem?_push, Array.size_push]
    by_cases h : w.heap.size = i
    · subst h; simp
    · rw [if_neg h]
      have : i ≠ w.heap.size := fun e => h e.symm
      simp [this]
  rw [this]
  rfl
theorem insStep (w : World) (es : Array MapEntry) (c : Nat) (k : Int) (f : Nat) (hf : Instr.findNow (.int .i64) (.int .i64 k) es.toList 0 = some none) :
    (Instr.mapUpdate 68 (.map (some w.heap.size)) (.int .i64 k) (.func (.func f) #[] #[])).run Try.prog (w.alloc (.map es c)) = .ok () (w.alloc (.map (es.push ⟨.int .i64 k, fnV f, c⟩) (c + 1))) := by
  rw [run_insert_int _ 68 3 67 Try.underlying68 Try.underlying3 w.heap.size es c k _ (blk_new _ _) hf, setNew]
  rfl

set_option maxHeartbeats 400000 in
theorem gates_any (w : World) :
    Calls Try.prog 40 #[] w fun e w' => e = .returned (.map (some w.heap.size)) ∧ w.alloc (.map gE6 6) = w' := by
  have h0 : (Instr.makeMap 68 none).run Try.prog w = .ok (.map (some w.heap.size)) (w.alloc (.map gE0 0)) := by simp [Instr.makeMap, Result.andThen]; rfl
  have h1 : (Instr.mapUpdate 68 (.map (some w.heap.size)) (.int .i64 1) (.func (.func 71) #[] #[])).run Try.prog (w.alloc (.map gE0 0)) = .ok () (w.alloc (.map gE1 1)) := insStep w gE0 0 1 71 (by kernel_rfl)
  have h2 : (Instr.mapUpdate 68 (.map (some w.heap.size)) (.int .i64 2) (.func (.func 72) #[] #[])).run Try.prog (w.alloc (.map gE1 1)) = .ok () (w.alloc (.map gE2 2)) := insStep w gE1 1 2 72 (by kernel_rfl)
  have h3 : (Instr.mapUpdate 68 (.map (some w.heap.size)) (.int .i64 3) (.func (.func 73) #[] #[])).run Try.prog (w.alloc (.map gE2 2)) = .ok () (w.alloc (.map gE3 3)) := insStep w gE2 2 3 73 (by kernel_rfl)
  have h4 : (Instr.mapUpdate 68 (.map (some w.heap.size)) (.int .i64 4) (.func (.func 74) #[] #[])).run Try.prog (w.alloc (.map gE3 3)) = .ok () (w.alloc (.map gE4 4)) := insStep w gE3 3 4 74 (by kernel_rfl)
  have h5 : (Instr.mapUpdate 68 (.map (some w.heap.size)) (.int .i64 5) (.func (.func 75) #[] #[])).run Try.prog (w.alloc (.map gE4 4)) = .ok () (w.alloc (.map gE5 5)) := insStep w gE4 4 5 75 (by kernel_rfl)
  have h6 : (Instr.mapUpdate 68 (.map (some w.heap.size)) (.int .i64 6) (.func (.func 76) #[] #[])).run Try.prog (w.alloc (.map gE5 5)) = .ok () (w.alloc (.map gE6 6)) := insStep w gE5 5 6 76 (by kernel_rfl)
  go_enter Try.func40, Try.ntmps40
  go_wp2
  go_ret
  exact ⟨rfl, rfl⟩

theorem gate_look (w : World) (k : Int) (i : Nat) (hf : Instr.findNow (.int .i64) (.int .i64 k) gE6.toList 0 = some (some (i, .func (.func (71 + i)) #[] #[]))) :
    (Instr.lookup 68 (.map (some w.heap.size)) (.int .i64 k) false).run Try.prog (w.alloc (.map gE6 6)) = .ok (.func (.func (71 + i)) #[] #[]) (w.alloc (.map gE6 6)) :=
  run_lookup_int _ 68 3 67 Try.underlying68 Try.underlying3 _ gE6 6 k i _ (blk_new _ _) hf

def gateVal (k : Int) (xs : List Int) : Int :=
  if k = 1 then notF (to01 (xs.getD 0 0)) else if k = 2 then xs.getD 0 0 else if k = 3 then andF (to01 (xs.getD 0 0)) (to01 (xs.getD 1 0))
  else if k = 4 then orF (to01 (xs.getD 0 0)) (to01 (xs.getD 1 0)) else if k = 5 then xorF (to01 (xs.getD 0 0)) (to01 (xs.getD 1 0)) else triF (to01 (xs.getD 0 0)) (to01 (xs.getD 1 0))
def gateF (k : Int) (xs : List Int) : Int × Int := if valuesF xs = 0 then (if k = 0 ∨ (xs.length : Int) ≠ inputsF k then (0, 1) else (gateVal k xs, 0)) else (0, valuesF xs)

set_option maxHeartbeats 400000 in
theorem gate_bad (k : Int) (A : Option Addr) (n c : Nat) (xs : List Int) (w : World) (hr : ReadsInt w .i64 A n xs) (h : valuesF xs ≠ 0) :
    Calls Try.prog 13 #[.int .i64 k, .slice A n c] w fun e w' => e = .returned (.tuple #[.int .i64 (gateF k xs).1, .int .i64 (gateF k xs).2]) ∧ Below w.heap.size w w' := by
  have HR : Hid (gateF k xs = (0, valuesF xs)) := if_neg h
  rw [HR.out]
  have h1 : (valuesF xs == 0) = false := by simpa using h
  have h2 : (valuesF xs != 0) = true := by simpa using h
  go_enter Try.func13, Try.ntmps13
  go_wp2_with (go_at_call 34; refine (values_any _ _ _ _ _ hr).mono ?_; rintro e w' ⟨rfl, rfl⟩)
  go_ret2
  exact ⟨rfl, Below.refl _ _⟩
set_option maxHeartbeats 400000 in
theorem gate_not (k : Int) (A : Option Addr) (n c : Nat) (xs : List Int) (w : World) (hr : ReadsInt w .i64 A n xs) (h : valuesF xs = 0) (hk : k = 0 ∨ (n : Int) ≠ inputsF k) :
    Calls Try.prog 13 #[.int .i64 k, .slice A n c] w fun e w' => e = .returned (.tuple #[.int .i64 (gateF k xs).1, .int .i64 (gateF k xs).2]) ∧ Below w.heap.size w w' := by
  have HR : Hid (gateF k xs = (0, 1)) := Lib.hid (by unfold gateF; rw [if_pos h, if_pos (by rw [hr.1]; exact hk)])
  rw [HR.out]
  have H0 := Lib.hid h; clear h
  have hm := hr.2.1
  by_cases h0 : k = 0
  · subst h0
    clear hk
    go_enter Try.func13, Try.ntmps13
    go_wp2_with (go_at_call 34; refine (values_any _ _ _ _ _ hr).mono ?_; rintro e w' ⟨rfl, rfl⟩; rw [H0.out])
    go_ret2
    exact ⟨rfl, Below.refl _ _⟩
  · replace hk := hk.resolve_left h0
    have hb : (k == 0) = false := by simpa using h0
    generalize hi : inputsF k = q at *
    have HI := Lib.hid hi; clear hi
    have hq : ((n : Int) != q) = true := by simpa using hk
    go_enter Try.func13, Try.ntmps13
    go_wp2_with (first | (go_at_call 34; refine (values_any _ _ _ _ _ hr).mono ?_; rintro e w' ⟨rfl, rfl⟩; rw [H0.out]) | (go_at_call 39; refine (inputs_any _ _).mono ?_; rintro e w' ⟨rfl, rfl⟩; rw [HI.out]))
    go_ret2
    exact ⟨rfl, Below.refl _ _⟩
theorem inputs_kind {k : Int} {n : Nat} (h0 : k ≠ 0) (h : (n : Int) = inputsF k) : (k = 1 ∧ n = 1) ∨ (k = 2 ∧ n = 1) ∨ (k = 3 ∧ n = 2) ∨ (k = 4 ∧ n = 2) ∨ (k = 5 ∧ n = 2) ∨ (k = 6 ∧ n = 2) := by
  unfold inputsF at h
  split at h
  · omega
  · split at h <;> omega
set_option maxHeartbeats 400000 in
theorem gate_good (k : Int) (A : Option Addr) (n c : Nat) (xs : List Int) (w : World) (hr : ReadsInt w .i64 A n xs) (h : valuesF xs = 0) (h0 : k ≠ 0) (hk : (n : Int) = inputsF k) :
    Calls Try.prog 13 #[.int .i64 k, .slice A n c] w fun e w' => e = .returned (.tuple #[.int .i64 (gateF k xs).1, .int .i64 (gateF k xs).2]) ∧ Below w.heap.size w w' := by
  have HR : Hid (gateF k xs = (gateVal k xs, 0)) := Lib.hid (by unfold gateF; rw [if_pos h, if_neg (by rw [hr.1]; omega)])
  rw [HR.out]
  clear HR
  have H0 := Lib.hid h; clear h
  have hm := hr.2.1
  have hB : Below w.heap.size w (w.alloc (.map gE6 6)) := (Below.refl _ _).alloc (Nat.le_refl _) _
  have hr2 := hr.below hB
  have HB := Lib.hid hB; clear hB
  rcases inputs_kind h0 hk with ⟨rfl, rfl⟩ | ⟨rfl, rfl⟩ | ⟨rfl, rfl⟩ | ⟨rfl, rfl⟩ | ⟨rfl, rfl⟩ | ⟨rfl, rfl⟩
  · have HI := Lib.hid hk; clear hk h0
    have HL := Lib.hid (gate_look w 1 0 (by kernel_rfl))
    go_enter Try.func13, Try.ntmps13
    go_wp2_with (first | (go_at_call 34; refine (values_any _ _ _ _ _ hr).mono ?_; rintro e w' ⟨rfl, rfl⟩; rw [H0.out]) | (go_at_call 39; refine (inputs_any _ _).mono ?_; rintro e w' ⟨rfl, rfl⟩; rw [← HI.out]) | (go_at_call 40; refine (gates_any _).mono ?_; rintro e w' ⟨rfl, rfl⟩; have hl := HL.out) | (go_at_call 71; refine (not_any _ _ _ _ _ hr2 (by omega)).mono ?_; rintro e w1 ⟨rfl, hb1⟩))
    go_ret2
    exact ⟨rfl, HB.out.trans (hb1.mono HB.out.size)⟩
  · have HI := Lib.hid hk; clear hk h0
    have HL := Lib.hid (gate_look w 2 1 (by kernel_rfl))
    go_enter Try.func13, Try.ntmps13
    go_wp2_with (first | (go_at_call 34; refine (values_any _ _ _ _ _ hr).mono ?_; rintro e w' ⟨rfl, rfl⟩; rw [H0.out]) | (go_at_call 39; refine (inputs_any _ _).mono ?_; rintro e w' ⟨rfl, rfl⟩; rw [← HI.out]) | (go_at_call 40; refine (gates_any _).mono ?_; rintro e w' ⟨rfl, rfl⟩; have hl := HL.out) | (go_at_call 72; refine (buf_any _ _ _ _ _ hr2 (by omega)).mono ?_; rintro e w1 ⟨rfl, hb1⟩))
    go_ret2
    exact ⟨rfl, HB.out.trans (hb1.mono HB.out.size)⟩
  · have HI := Lib.hid hk; clear hk h0
    have HL := Lib.hid (gate_look w 3 2 (by kernel_rfl))
    go_enter Try.func13, Try.ntmps13
    go_wp2_with (first | (go_at_call 34; refine (values_any _ _ _ _ _ hr).mono ?_; rintro e w' ⟨rfl, rfl⟩; rw [H0.out]) | (go_at_call 39; refine (inputs_any _ _).mono ?_; rintro e w' ⟨rfl, rfl⟩; rw [← HI.out]) | (go_at_call 40; refine (gates_any _).mono ?_; rintro e w' ⟨rfl, rfl⟩; have hl := HL.out) | (go_at_call 73; refine (and_any _ _ _ _ _ hr2 (by omega)).mono ?_; rintro e w1 ⟨rfl, hb1⟩))
    go_ret2
    exact ⟨rfl, HB.out.trans (hb1.mono HB.out.size)⟩
  · have HI := Lib.hid hk; clear hk h0
    have HL := Lib.hid (gate_look w 4 3 (by kernel_rfl))
    go_enter Try.func13, Try.ntmps13
    go_wp2_with (first | (go_at_call 34; refine (values_any _ _ _ _ _ hr).mono ?_; rintro e w' ⟨rfl, rfl⟩; rw [H0.out]) | (go_at_call 39; refine (inputs_any _ _).mono ?_; rintro e w' ⟨rfl, rfl⟩; rw [← HI.out]) | (go_at_call 40; refine (gates_any _).mono ?_; rintro e w' ⟨rfl, rfl⟩; have hl := HL.out) | (go_at_call 74; refine (or_any _ _ _ _ _ hr2 (by omega)).mono ?_; rintro e w1 ⟨rfl, hb1⟩))
    go_ret2
    exact ⟨rfl, HB.out.trans (hb1.mono HB.out.size)⟩
  · have HI := Lib.hid hk; clear hk h0
    have HL := Lib.hid (gate_look w 5 4 (by kernel_rfl))
    go_enter Try.func13, Try.ntmps13
    go_wp2_with (first | (go_at_call 34; refine (values_any _ _ _ _ _ hr).mono ?_; rintro e w' ⟨rfl, rfl⟩; rw [H0.out]) | (go_at_call 39; refine (inputs_any _ _).mono ?_; rintro e w' ⟨rfl, rfl⟩; rw [← HI.out]) | (go_at_call 40; refine (gates_any _).mono ?_; rintro e w' ⟨rfl, rfl⟩; have hl := HL.out) | (go_at_call 75; refine (xor_any _ _ _ _ _ hr2 (by omega)).mono ?_; rintro e w1 ⟨rfl, hb1⟩))
    go_ret2
    exact ⟨rfl, HB.out.trans (hb1.mono HB.out.size)⟩
  · have HI := Lib.hid hk; clear hk h0
    have HL := Lib.hid (gate_look w 6 5 (by kernel_rfl))
    go_enter Try.func13, Try.ntmps13
    go_wp2_with (first | (go_at_call 34; refine (values_any _ _ _ _ _ hr).mono ?_; rintro e w' ⟨rfl, rfl⟩; rw [H0.out]) | (go_at_call 39; refine (inputs_any _ _).mono ?_; rintro e w' ⟨rfl, rfl⟩; rw [← HI.out]) | (go_at_call 40; refine (gates_any _).mono ?_; rintro e w' ⟨rfl, rfl⟩; have hl := HL.out) | (go_at_call 76; refine (tri_any _ _ _ _ _ hr2 (by omega)).mono ?_; rintro e w1 ⟨rfl, hb1⟩))
    go_ret2
    exact ⟨rfl, HB.out.trans (hb1.mono HB.out.size)⟩

theorem gate_any (k : Int) (A : Option Addr) (n c : Nat) (xs : List Int) (w : World) (hr : ReadsInt w .i64 A n xs) :
    Calls Try.prog 13 #[.int .i64 k, .slice A n c] w fun e w' => e = .returned (.tuple #[.int .i64 (gateF k xs).1, .int .i64 (gateF k xs).2]) ∧ Below w.heap.size w w' := by
  by_cases h : valuesF xs = 0
  · by_cases hk : k = 0 ∨ (n : Int) ≠ inputsF k
    · exact gate_not k A n c xs w hr h hk
    · exact gate_good k A n c xs w hr h (fun e => hk (.inl e)) (Classical.not_not.1 fun e => hk (.inr e))
  · exact gate_bad k A n c xs w hr h
end Go.Proofs.Ytobdhdehmkmjcaa
