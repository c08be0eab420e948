/- Words and walks for the row RowRatField, put together: RU, LX1, LX2, LX3. -/
import Derived.Test.YthhgjloephkpaaaFi1
import Derived.Deep.RegionHeld3
import Derived.Laws.CopyRow
namespace Go.Proofs.Ythhgjloephkpaaa
set_option linter.unusedVariables false
set_option linter.unusedSimpArgs false
open Go Go.RowKit Go.Proofs.YthhgjloephkpaaaW.PrintWords Go.Proofs.YthhgjloephkpaaaW.PrintLast

/-- A value that is no word. -/
def noW : Value → Bool
  | .int .u32 _ => false
  | _ => true
/-- Blocks that hold a word stay as they are. -/
def U (w w' : World) : Prop := ∀ (k : Nat) (cs : Array Value) (t : TypeId) (fr : Nat × Nat), w.heap[k]? = some (.cells cs t fr) → cs.toList.all noW = false → w'.heap[k]? = some (.cells cs t fr)
theorem U.refl (w : World) : U w w := fun _ _ _ _ h _ => h
theorem U.trans {a b c : World} (h : U a b) (k : U b c) : U a c := fun i cs t fr e n => k i cs t fr (h i cs t fr e n) n
theorem U.of_below {w w' : World} (h : Below w.heap.size w w') : U w w' := fun k cs t fr e _ => by
  have hk : k < w.heap.size := by
    rcases Nat.lt_or_ge k w.heap.size with h1 | h1
    · exact h1
    · rw [Array.getElem?_eq_none h1] at e; cases e
  rw [h.block k hk]; exact e
theorem Wds.u {w w' : World} {A : Option Addr} {n c : Nat} {l : List Nat} (h : Wds w A n c l) (hu : U w w') : Wds w' A n c l := by
  refine ⟨⟨h.1.1, h.1.2.1, fun h0 => ?_⟩, h.2⟩
  obtain ⟨ad, rfl, hc⟩ := h.1.2.2 h0
  refine ⟨ad, rfl, fun j hj => ?_⟩
  have h1 := hc j hj
  rw [← h1]
  unfold World.cell? at h1 ⊢
  cases hb : w.heap[(ad.add j).block]? with
  | none => rw [hb] at h1; cases h1
  | some o =>
    cases o with
    | cells cs t fr =>
      rw [hb] at h1
      have hn : cs.toList.all noW = false := by
        simp only at h1
        split at h1
        · cases h1
        · rw [List.all_eq_false]
          refine ⟨_, List.mem_of_getElem? (by rw [Array.getElem?_toList]; exact h1), by simp [noW]⟩
      rw [hu _ _ _ _ hb hn]
    | _ => rw [hb] at h1; cases h1
theorem Wh.u {w w' : World} {v : Value} {z : Int} (h : Wh w v z) (hu : U w w') : Wh w' v z := by
  obtain ⟨A, n, c, e, h2⟩ := h
  exact ⟨A, n, c, e, h2.u hu⟩

/-- A box: its block, its cells, its type. -/
structure Bx where
  g : Nat
  cs : Array Value
  t : TypeId
/-- The world w behind w0: what lay there stays; the boxes stand. -/
structure St (w0 w : World) (L : List Bx) : Prop where
  bl : Below w0.heap.size w0 w
  ge : ∀ e ∈ L, w0.heap.size ≤ e.g
  at_ : ∀ e ∈ L, w.heap[e.g]? = some (.cells e.cs e.t (0, 0))
  nd : (L.map Bx.g).Nodup
theorem St.start (w : World) : St w w [] := ⟨Below.refl _ _, fun _ h => (by cases h), fun _ h => (by cases h), List.nodup_nil⟩
theorem St.lt {w0 w : World} {L : List Bx} (h : St w0 w L) (e : Bx) (he : e ∈ L) : e.g < w.heap.size := by
  have := h.at_ e he
  rcases Nat.lt_or_ge e.g w.heap.size with h1 | h1
  · exact h1
  · rw [Array.getElem?_eq_none h1] at this; cases this
theorem St.off {w0 w : World} {L : List Bx} (h : St w0 w L) (k : Nat) : St w0 w (L.drop k) :=
  ⟨h.bl, fun e he => h.ge e (List.mem_of_mem_drop he), fun e he => h.at_ e (List.mem_of_mem_drop he), by rw [List.map_drop]; exact h.nd.sublist (List.drop_sublist _ _)⟩
theorem St.below {w0 w w' : World} {L : List Bx} (h : St w0 w L) (hb : Below w.heap.size w w') : St w0 w' L :=
  ⟨h.bl.trans (hb.mono h.bl.size), h.ge, fun e he => by rw [hb.block _ (h.lt e he)]; exact h.at_ e he, h.nd⟩
theorem St.drew {w0 w : World} {L : List Bx} (h : St w0 w L) : St w0 w.drew L := ⟨h.bl.drew, h.ge, h.at_, h.nd⟩
theorem U.drew (w : World) : U w w.drew := fun _ _ _ _ h _ => h
theorem St.box {w0 w : World} {L : List Bx} (h : St w0 w L) (cs : Array Value) (t : TypeId) : St w0 (w.alloc (.cells cs t)) (⟨w.heap.size, cs, t⟩ :: L) := by
  refine ⟨h.bl.alloc h.bl.size _, ?_, ?_, ?_⟩
  · intro e he
    rcases List.mem_cons.1 he with e1 | e1
    · subst e1; exact h.bl.size
    · exact h.ge e e1
  · intro e he
    rcases List.mem_cons.1 he with e1 | e1
    · subst e1; exact Array.getElem?_push_size
    · rw [Below.heap_alloc _ _ _ (h.lt e e1)]; exact h.at_ e e1
  · rw [List.map_cons, List.nodup_cons]
    refine ⟨fun hm => ?_, h.nd⟩
    obtain ⟨e, he, hg⟩ := List.mem_map.1 hm
    have := h.lt e he
    have h2 : e.g = w.heap.size := hg
    omega
theorem U.box (w : World) (o : Obj) : U w (w.alloc o) := U.of_below ((Below.refl _ _).alloc (Nat.le_refl _) o)
theorem St.put {w0 w : World} {L : List Bx} (h : St w0 w L) (i : Nat) (e : Bx) (hi : L[i]? = some e) (cs : Array Value) : St w0 (w.setRow e.g cs) (L.set i ⟨e.g, cs, e.t⟩) := by
  have hmem : e ∈ L := List.mem_of_getElem? hi
  have hil : i < L.length := by
    rcases Nat.lt_or_ge i L.length with h1 | h1
    · exact h1
    · rw [List.getElem?_eq_none h1] at hi; cases hi
  have hother : ∀ k, k ≠ e.g → (w.setRow e.g cs).heap[k]? = w.heap[k]? := fun k hk => by
    unfold World.setRow
    simp only [Array.getElem?_modify]
    rw [if_neg (fun e1 => hk e1.symm)]
  have hself : (w.setRow e.g cs).heap[e.g]? = some (.cells cs e.t (0, 0)) := setRow_heap w e.g e.cs cs e.t (0, 0) (h.at_ e hmem)
  have hmap : (L.set i ⟨e.g, cs, e.t⟩).map Bx.g = L.map Bx.g := by
    rw [List.map_set]
    apply List.ext_getElem?
    intro k
    rw [List.getElem?_set]
    split
    · rename_i hk; subst hk; simp [hil, hi]
      have := hi
      rw [List.getElem?_eq_getElem hil] at this
      injection this with this
      rw [this]
    · rfl
  refine ⟨⟨h.bl.os, h.bl.tape, h.bl.output, ?_, ?_⟩, ?_, ?_, ?_⟩
  · have : (w.setRow e.g cs).heap.size = w.heap.size := by simp [World.setRow]
    rw [this]; exact h.bl.size
  · intro k hk
    rw [hother k (by have := h.ge e hmem; omega)]
    exact h.bl.block k hk
  · intro x hx
    rcases List.mem_or_eq_of_mem_set hx with h1 | h1
    · exact h.ge x h1
    · subst h1; exact h.ge e hmem
  · intro x hx
    obtain ⟨k, hk⟩ := List.mem_iff_getElem?.1 hx
    rw [List.getElem?_set] at hk
    by_cases hik : i = k
    · rw [if_pos hik, if_pos (by omega)] at hk
      injection hk with hk
      subst hk
      exact hself
    · rw [if_neg hik] at hk
      have hx2 : x ∈ L := List.mem_of_getElem? hk
      have hne : x.g ≠ e.g := fun he => by
        have h1 : (L.map Bx.g)[k]? = some x.g := by rw [List.getElem?_map, hk]; rfl
        have h2 : (L.map Bx.g)[i]? = some e.g := by rw [List.getElem?_map, hi]; rfl
        have hkl : k < L.length := by
          rcases Nat.lt_or_ge k L.length with h1 | h1
          · exact h1
          · rw [List.getElem?_eq_none h1] at hk; cases hk
        have := (List.getElem?_inj (by simpa using hil) h.nd).1 (h2.trans (by rw [h1, he]))
        exact hik this
      rw [hother _ hne]
      exact h.at_ x hx2
  · rw [hmap]; exact h.nd
theorem U.put {w0 w : World} {L : List Bx} (h : St w0 w L) (i : Nat) (e : Bx) (hi : L[i]? = some e) (hno : e.cs.toList.all noW = true) (cs : Array Value) : U w (w.setRow e.g cs) := fun k cs' t fr hk hn => by
  have hmem : e ∈ L := List.mem_of_getElem? hi
  have hne : k ≠ e.g := fun he => by
    subst he
    rw [h.at_ e hmem] at hk
    injection hk with hk
    injection hk with hk
    subst hk
    rw [hno] at hn
    cases hn
  unfold World.setRow
  simp only [Array.getElem?_modify]
  rw [if_neg (fun e1 => hne e1.symm)]
  exact hk

section
variable {P : Program} {ops : Array Oper} {Q : Exit → Act → World → Prop} {md : Region.Mode} {S : World → Prop} {f : Nat → Bool}

/-- Whatever order is picked from here on; S holds behind every operation that is not of the tail f. -/
def wpAnyT (P : Program) (md : Region.Mode) (ops : Array Oper) (Q : Exit → Act → World → Prop) (S : World → Prop) (f : Nat → Bool) : Nat → Array Bool → Act → World → Prop
  | 0, listed, a, w => Region.ready md ops listed = [] ∧ Q .normal a w
  | fuel + 1, listed, a, w =>
    (Region.ready md ops listed = [] → Q .normal a w) ∧
    ∀ i ∈ Region.ready md ops listed, wpOp P ops Q i (fun a' w' => (f i = false → S w') ∧ wpAnyT P md ops Q S f fuel (listed.setIfInBounds i true) a' w') a w

theorem wpAny_of_tailT : ∀ (fuel : Nat) (listed : Array Bool) (a : Act) (w : World), wpAnyT P md ops Q S f fuel listed a w → wpAny P md ops Q fuel listed a w
  | 0, _, _, _, h => h
  | fuel + 1, _, _, _, h => ⟨h.1, fun i hi => wpOp_mono (fun a' w' h' => wpAny_of_tailT fuel _ a' w' h'.2) (h.2 i hi)⟩

/-- Whatever is listed, what it waits for is listed. -/
def ShutT (md : Region.Mode) (ops : Array Oper) (listed : Array Bool) : Prop := ∀ k ok, ops[k]? = some ok → listed.getD k false = true → ∀ e ∈ ok.after, Region.binds md e = true → listed.getD e.on false = true
def shutT (md : Region.Mode) (ops : Array Oper) (listed : Array Bool) : Bool := (List.range ops.size).all fun k => !listed.getD k false || match ops[k]? with
  | none => true
  | some o => o.after.toList.all fun e => !Region.binds md e || listed.getD e.on false
theorem shutT_spec {listed : Array Bool} (h : shutT md ops listed = true) : ShutT md ops listed := fun k ok hk hl e he hb => by
  unfold shutT at h
  rw [List.all_eq_true] at h
  have hks : k < ops.size := by
    rcases Nat.lt_or_ge k ops.size with h1 | h1
    · exact h1
    · rw [Array.getElem?_eq_none h1] at hk; cases hk
  have h2 := h k (List.mem_range.2 hks)
  rw [hl, hk] at h2
  simp only [Bool.not_true, Bool.false_or, List.all_eq_true] at h2
  have h3 := h2 e (by simpa using he)
  rw [hb] at h3
  simpa using h3
theorem ShutT.step {listed : Array Bool} {j : Nat} (h : ShutT md ops listed) (hj : j ∈ Region.ready md ops listed) : ShutT md ops (listed.setIfInBounds j true) := fun k ok hk hl e he hb => by
  by_cases hjk : j = k
  · subst hjk
    obtain ⟨_, o, ho, hall⟩ := mem_ready.1 hj
    rw [hk] at ho
    injection ho with ho
    subst ho
    exact getD_set_true (hall e he hb)
  · rw [getD_set_ne false hjk] at hl
    exact getD_set_true (h k ok hk hl e he hb)
/-- j waits for i, straight or by way of others. -/
def needsT (md : Region.Mode) (ops : Array Oper) (i : Nat) : Nat → Nat → Bool
  | 0, _ => false
  | n + 1, j => match ops[j]? with
    | none => false
    | some o => o.after.toList.any fun e => Region.binds md e && (e.on == i || needsT md ops i n e.on)
theorem needsT_listed {i : Nat} {listed : Array Bool} (h : ShutT md ops listed) : ∀ (n j : Nat) (o : Oper), ops[j]? = some o → (∀ e ∈ o.after, Region.binds md e = true → listed.getD e.on false = true) → needsT md ops i n j = true → listed.getD i false = true
  | 0, _, _, _, _, hn => by cases hn
  | n + 1, j, o, ho, hall, hn => by
    unfold needsT at hn
    rw [ho] at hn
    simp only [List.any_eq_true, Bool.and_eq_true, Bool.or_eq_true, beq_iff_eq] at hn
    obtain ⟨e, he, hb, h1⟩ := hn
    have he' : e ∈ o.after := by simpa using he
    have hl := hall e he' hb
    rcases h1 with h1 | h1
    · rw [← h1]; exact hl
    · cases hk : ops[e.on]? with
      | none =>
        cases n with
        | zero => cases h1
        | succ n => unfold needsT at h1; rw [hk] at h1; cases h1
      | some ok => exact needsT_listed h n e.on ok hk (fun e2 he2 hb2 => h e.on ok hk hl e2 he2 hb2) h1
theorem wpAnyT_first {i : Nat} {oi : Oper} {v : Value} (hi : ops[i]? = some oi) (hsel : ∀ (j : Nat) (o : Oper) cs b, ops[j]? = some o → o.op ≠ .select cs b)
    (hQ : ∀ c a w, Q (.panic c) (a.put oi.dst v) w → Q (.panic c) a w) (hif : f i = false) (hwait : ∀ j of, f j = true → ops[j]? = some of → needsT md ops i ops.size j = true) :
    ∀ (fuel : Nat) (listed : Array Bool) (a : Act) (w : World), ShutT md ops listed →
      (∀ j oj, ops[j]? = some oj → j ≠ i → listed.getD j true = false → (∀ e ∈ oj.after, Region.binds md e = true → e.on ≠ i) → oi.apart ops oj = true) →
      i ∈ Region.ready md ops listed → YieldsIf P ops S oi v a → S w →
      wpAnyT P md ops Q S f fuel (listed.setIfInBounds i true) (a.put oi.dst v) w → wpAnyT P md ops Q S f (fuel + 1) listed a w := by
  intro fuel
  induction fuel with
  | zero =>
    intro listed a w _ _ hr hy hS H
    refine ⟨fun h => (by rw [h] at hr; cases hr), fun j hj => ?_⟩
    by_cases hji : j = i
    · subst hji; exact hy.wpOp hi hS ⟨fun _ => hS, H⟩
    · have := ready_mono hj hji
      rw [H.1] at this
      cases this
  | succ fuel ih =>
    intro listed a w hsh hfree hr hy hS H
    refine ⟨fun h => (by rw [h] at hr; cases hr), fun j hj => ?_⟩
    by_cases hji : j = i
    · subst hji; exact hy.wpOp hi hS ⟨fun _ => hS, H⟩
    · have h1 := H.2 j (ready_mono hj hji)
      obtain ⟨hjun, oj, hoj, hall⟩ := mem_ready.1 hj
      have hi0 : ¬ listed.getD i false = true := fun h1 => by
        have h0 := (mem_ready.1 hr).1
        rcases Nat.lt_or_ge i listed.size with h' | h'
        · simp [h'] at h0 h1; rw [h0] at h1; cases h1
        · simp [Array.getElem?_eq_none h'] at h1
      have hnot : ∀ e ∈ oj.after, Region.binds md e = true → e.on ≠ i := fun e he hb heq => hi0 (heq ▸ hall e he hb)
      have hjf : f j = false := by
        cases hfj : f j with
        | false => rfl
        | true => exact absurd (needsT_listed hsh _ j oj hoj hall (hwait j oj hfj hoj)) hi0
      have h2 := wpOp_putIf hoj (hfree j oj hoj hji hjun hnot) (fun cs b => hsel i oi cs b hi) (fun cs b => hsel j oj cs b hoj) hQ hy h1
      have hfree' : ∀ k ok, ops[k]? = some ok → k ≠ i → (listed.setIfInBounds j true).getD k true = false →
          (∀ e ∈ ok.after, Region.binds md e = true → e.on ≠ i) → oi.apart ops ok = true := fun k ok hk hki hun hno => by
        refine hfree k ok hk hki ?_ hno
        by_cases hjk : j = k
        · subst hjk; exact hjun
        · rw [Go.getD_set_ne true hjk] at hun; exact hun
      refine wpOp_mono (fun a' w' h3 => ⟨h3.2.1, ih (listed.setIfInBounds j true) a' w' (hsh.step hj) hfree' (ready_mono hr (Ne.symm hji)) h3.1 (h3.2.1 hjf) ?_⟩) h2
      rw [Array.setIfInBounds_comm _ _ hji]
      exact h3.2.2

/-- The tail waits for number i. -/
def waitsT (md : Region.Mode) (ops : Array Oper) (f : Nat → Bool) (i : Nat) : Bool :=
  !f i && (List.range ops.size).all fun j => !f j || needsT md ops i ops.size j
theorem waitsT_spec {i : Nat} (h : waitsT md ops f i = true) : f i = false ∧ ∀ j of, f j = true → ops[j]? = some of → needsT md ops i ops.size j = true := by
  unfold waitsT at h
  simp only [Bool.and_eq_true, Bool.not_eq_true', List.all_eq_true, List.mem_range] at h
  refine ⟨h.1, fun j of hfj hof => ?_⟩
  have hj : j < ops.size := by
    rcases Nat.lt_or_ge j ops.size with h1 | h1
    · exact h1
    · rw [Array.getElem?_eq_none h1] at hof; cases hof
  have h2 := h.2 j hj
  rw [hfj] at h2
  simpa using h2
theorem anyT_take {i : Nat} {oi : Oper} (v : Value) {fuel : Nat} {listed : Array Bool} {a : Act} {w : World} (hi : ops.toList[i]? = some oi)
    (hs : Region.noSelect ops = true) (hf : Region.free md ops listed i = true) (hr : (Region.ready md ops listed).contains i = true) (hw : (waitsT md ops f i && shutT md ops listed) = true)
    (hQ : ∀ c a w, Q (.panic c) (a.put oi.dst v) w → Q (.panic c) a w) (hwd : Region.wanted oi (yielded ops a.tmps) = true) (hy : ∀ w, S w → (execOp a.eval oi).run P w = .ok (.value v) w) (hS : S w)
    (h : wpAnyT P md ops Q S f fuel (listed.setIfInBounds i true) (a.put oi.dst v) w) : wpAnyT P md ops Q S f (fuel + 1) listed a w :=
  wpAnyT_first (by rw [← Array.getElem?_toList]; exact hi) (Region.noSelect_spec hs) hQ (waitsT_spec (Bool.and_eq_true_iff.1 hw).1).1 (waitsT_spec (Bool.and_eq_true_iff.1 hw).1).2 fuel listed a w (shutT_spec (Bool.and_eq_true_iff.1 hw).2) (Region.free_spec (by rw [← Array.getElem?_toList]; exact hi) hf) (by simpa using hr) (Or.inl ⟨hwd, hy⟩) hS h
theorem anyT_all {rs : List Nat} {fuel : Nat} {listed : Array Bool} {a : Act} {w : World} (hr : Region.ready md ops listed = rs) (hne : rs ≠ [])
    (h : ∀ i ∈ rs, wpOp P ops Q i (fun a' w' => (f i = false → S w') ∧ wpAnyT P md ops Q S f fuel (listed.setIfInBounds i true) a' w') a w) : wpAnyT P md ops Q S f (fuel + 1) listed a w :=
  ⟨fun h0 => absurd (hr ▸ h0) hne, hr ▸ h⟩
theorem anyT_one {i : Nat} {o : Oper} {fuel : Nat} {listed : Array Bool} {a : Act} {w : World} (hi : ops.toList[i]? = some o) (hr : Region.ready md ops listed = [i])
    (hwd : Region.wanted o (yielded ops a.tmps) = true)
    (h : ∀ K' : Act → World → Prop, (∀ a w, (f i = false → S w) → wpAnyT P md ops Q S f fuel (listed.setIfInBounds i true) a w → K' a w) → Oper.wp P o a w K' Q) : wpAnyT P md ops Q S f (fuel + 1) listed a w :=
  anyT_all hr (by simp) (fun j hj => by
    obtain rfl : j = i := by simpa using hj
    exact wpOp_step (by rw [← Array.getElem?_toList]; exact hi) (fun K' hK => by rw [if_pos hwd]; exact h K' (fun a w hS hW => hK a w ⟨hS, hW⟩)))
theorem opT {i : Nat} {o : Oper} {fi : Bool} {X : Act → World → Prop} {a : Act} {w : World} (hi : ops.toList[i]? = some o) (hwd : Region.wanted o (yielded ops a.tmps) = true)
    (h : ∀ K' : Act → World → Prop, (∀ a w, (fi = false → S w) → X a w → K' a w) → Oper.wp P o a w K' Q) :
    wpOp P ops Q i (fun a' w' => (fi = false → S w') ∧ X a' w') a w :=
  wpOp_step (by rw [← Array.getElem?_toList]; exact hi) (fun K' hK => by rw [if_pos hwd]; exact h K' (fun a w hS hW => hK a w ⟨hS, hW⟩))
theorem anyT_done {listed : Array Bool} {a : Act} {w : World} (hr : Region.ready md ops listed = []) (h : Q .normal a w) :
    ∀ fuel, wpAnyT P md ops Q S f fuel listed a w
  | 0 => ⟨hr, h⟩
  | _ + 1 => ⟨fun _ => h, by rw [hr]; simp⟩
/-- The boxes stand. -/
def Has (L : List Bx) (w : World) : Prop := ∀ e ∈ L, w.heap[e.g]? = some (.cells e.cs e.t (0, 0))
theorem St.has {w0 w : World} {L : List Bx} (h : St w0 w L) : Has L w := h.at_
theorem Has.tail {e : Bx} {L : List Bx} {w : World} (h : Has (e :: L) w) : Has L w := fun x hx => h x (List.mem_cons_of_mem _ hx)
theorem region_drawn (n : Nat) (f : Nat → Bool) {L : List Bx} {w0 : World} {id : Nat} {a : Act} {w : World} (hm : P.follows .mixedOrders = true) (hn : ops.toList.length = n) (hs : St w0 w L)
    (h : ∀ wc, St w0 wc L → U w wc → wpAnyT P .any ops Q (Has L) f n (Array.replicate n false) a wc) : (Code.region id ops true).wp P Q a w :=
  wp_region_any hm (by rw [show ops.size = n from hn]; exact wpAny_of_tailT _ _ _ _ (h w.drew hs.drew (U.drew w)))
end

section
variable {P : Program} {Q : Exit → Act → World → Prop} {o : Oper} {a : Act} {w w0 : World} {K : Act → World → Prop} {L : List Bx}
theorem o_val (v : Value) (hr : (execOp a.eval o).run P w = .ok (.value v) w) (h : K (a.put o.dst v) w) : o.wp P a w K Q := by
  unfold Oper.wp; rw [hr]; exact h
theorem run_load1 {ty : TypeId} {x : Operand} {g off : Nat} {cs : Array Value} {t : TypeId} (v : Value) (ho : o.op = .load ty x) (hx : a.eval x = .pointer (some ⟨g, off, none⟩)) (hb : w.heap[g]? = some (.cells cs t (0, 0))) (hv : cs[off]? = some v)
    (hg : (isAgg ty).run P w = .ok false w) : (execOp a.eval o).run P w = .ok (.value v) w := by
  have hc : w.cell? ⟨g, off, none⟩ = some v := by rw [cell_of_row w g off cs t (0, 0) hb, hv]
  unfold execOp
  simp only [ho, hx, Instr.loadAt, Instr.sureAddr, Sem.run_bind, Sem.run_pure, Result.andThen_ok, loadVar, hg, Bool.false_eq_true, if_false, run_load, hc]
theorem run_loadW {ty : TypeId} {x : Operand} {p : Addr} (v : Value) (ho : o.op = .load ty x) (hx : a.eval x = .pointer (some p)) (hc : w.cell? p = some v) (hg : (isAgg ty).run P w = .ok false w) : (execOp a.eval o).run P w = .ok (.value v) w := by
  unfold execOp
  simp only [ho, hx, Instr.loadAt, Instr.sureAddr, Sem.run_bind, Sem.run_pure, Result.andThen_ok, loadVar, hg, Bool.false_eq_true, if_false, run_load, hc]
theorem run_loadA {ty : TypeId} {x : Operand} {g off : Nat} {cs : Array Value} {t : TypeId} (vs : List Value) (ho : o.op = .load ty x) (hx : a.eval x = .pointer (some ⟨g, off, none⟩)) (hb : w.heap[g]? = some (.cells cs t (0, 0))) (hv : (cs.toList.drop off).take vs.length = vs)
    (hg : (isAgg ty).run P w = .ok true w) (hz : (sizeOf ty).run P w = .ok vs.length w) : (execOp a.eval o).run P w = .ok (.value (.agg vs.toArray)) w := by
  have hl : (loadCells ⟨g, off, none⟩ vs.length).run P w = .ok vs.toArray w :=
    run_loadCells_list (P := P) w ⟨g, off, none⟩ vs (fun j v hj => by
      have hadd : (⟨g, off, none⟩ : Addr).add j = ⟨g, off + j, none⟩ := by unfold Addr.add; split <;> simp_all
      rw [hadd, cell_of_row w g _ cs t (0, 0) hb]
      rw [← hv, List.getElem?_take, List.getElem?_drop] at hj
      split at hj
      · simpa using hj
      · cases hj)
  unfold execOp
  simp only [ho, hx, Instr.loadAt, Instr.sureAddr, Sem.run_bind, Sem.run_pure, Result.andThen_ok, loadVar, hg, if_true, hz, hl]
theorem o_box {ty : TypeId} {x : Operand} (cs : Array Value) (ho : o.op = .box ty x) (hc : (a.eval x).cells = cs) (hn : cs.toList.all noW = true) (hs : St w0 w L)
    (h : ∀ g w', St w0 w' (⟨g, cs, ty⟩ :: L) → U w w' → K (a.put o.dst (.pointer (some ⟨g, 0, none⟩))) w') : o.wp P a w K Q := by
  unfold Oper.wp execOp
  simp only [ho, Instr.box, newVar, newRow, Sem.run_bind, Sem.run_pure, Result.andThen_ok, run_newObj, hc]
  exact h w.heap.size (w.alloc (.cells cs ty)) (hs.box cs ty) (U.box w _)
theorem o_alloc {ty : TypeId} (cs : Array Value) (z : Value) (ho : o.op = .alloc ty) (hz : (zeroValue ty).run P w = .ok z w) (hc : z.cells = cs) (hn : cs.toList.all noW = true) (hs : St w0 w L)
    (h : ∀ g w', St w0 w' (⟨g, cs, ty⟩ :: L) → U w w' → K (a.put o.dst (.pointer (some ⟨g, 0, none⟩))) w') : o.wp P a w K Q := by
  unfold Oper.wp execOp
  simp only [ho, Instr.alloc, newVar, newRow, Sem.run_bind, Sem.run_pure, Result.andThen_ok, run_newObj, hz, hc]
  exact h w.heap.size (w.alloc (.cells cs ty)) (hs.box cs ty) (U.box w _)
theorem o_store {ty : TypeId} {x y : Operand} {g off : Nat} (i : Nat) {cs : Array Value} {t : TypeId} (vs : List Value) (new : Array Value) (L' : List Bx) (ho : o.op = .store ty x y) (hx : a.eval x = .pointer (some ⟨g, off, none⟩)) (hy : (a.eval y).cells = vs.toArray) (hs : St w0 w L)
    (hi : L[i]? = some ⟨g, cs, t⟩) (hz : (sizeOf ty).run P w = .ok vs.length w) (hb : off + vs.length ≤ cs.size) (h1 : ∀ v ∈ vs, v.oneCell' = true)
    (hnew : (cs.toList.take off ++ vs ++ cs.toList.drop (off + vs.length)).toArray = new) (hno : cs.toList.all noW = true) (hL : L.set i ⟨g, new, t⟩ = L')
    (h : ∀ w', St w0 w' L' → U w w' → K (a.put o.dst undef) w') : o.wp P a w K Q := by
  have hr := run_storeCells_at (P := P) g off t vs 0 cs w (hs.at_ _ (List.mem_of_getElem? hi)) (by omega) h1
  simp only [Nat.add_zero, hnew] at hr
  unfold Oper.wp execOp
  simp only [ho, hx, Instr.storeAt, Instr.sureAddr, Sem.run_bind, Sem.run_pure, Result.andThen_ok, storeVar, hy, List.size_toArray, hz, ne_eq, not_true_eq_false, if_false, hr]
  subst hL
  exact h _ (hs.put i _ hi new) (U.put hs i _ hi hno new)
theorem o_call (f : FuncId) (fn : Func) {ars : Array Operand} {ts : Array TypeId} (args : Array Value) {F : Value → World → Prop} (hf : P.funcs[f]? = some fn) (hname : (fn.name == "runtime.NumGoroutine") = false) (hb : fn.body.isSome = true)
    (hop : o.op = .call { callee := .value (.func f), args := ars, argTypes := ts }) (hargs : ars.toList.map a.eval = args.toList) (hs : St w0 w L)
    (hc : Calls P f args w fun e w' => (∃ v, e = .returned v ∧ F v w') ∧ Below w.heap.size w w')
    (h : ∀ v w', F v w' → St w0 w' L → U w w' → K (a.put o.dst v) w') : o.wp P a w K Q := by
  have he := enters_ hf hname hb args w
  have hargs' : ars.map a.eval = args := by
    apply Array.ext'
    rw [Array.toList_map, hargs]
  have hrun : (execOp a.eval o).run P w = .ok (.enter f args) w := by
    unfold execOp
    simp [hop, resolve, Deferred.ofValue, invoke, Act.eval, hargs', he]
  unfold Oper.wp
  rw [hrun, Oper.upon_enter]
  refine hc.mono fun e w'' hh => ?_
  obtain ⟨⟨v, rfl, hF⟩, hB⟩ := hh
  exact h v w'' hF (hs.below hB) (U.of_below hB)
end

section
variable {P : Program} {ops : Array Oper} {Q : Exit → Act → World → Prop} {a : Act} {w : World} {rest : List Oper} {o : Oper}
theorem wpList_on (hw : Region.wanted o (yielded ops a.tmps) = true) (h : ∀ K : Act → World → Prop, (∀ a w, wpList P ops Q rest a w → K a w) → o.wp P a w K Q) : wpList P ops Q (o :: rest) a w :=
  wpList_step fun K hK => by rw [if_pos hw]; exact h K hK
theorem wpList_off (hw : Region.wanted o (yielded ops a.tmps) = false) (h : wpList P ops Q rest (a.put o.dst undef) w) : wpList P ops Q (o :: rest) a w :=
  wpList_step fun K hK => by rw [if_neg (by rw [hw]; exact Bool.false_ne_true)]; exact hK _ _ h
theorem cond_true {c : Operand} {x y : Code} (hc : a.eval c = .bool true) (h : x.wp P Q a w) : (Code.cond c x y).wp P Q a w :=
  wp_cond_split hc (fun _ => h) (fun h => by cases h)
theorem cond_false {c : Operand} {x y : Code} (hc : a.eval c = .bool false) (h : y.wp P Q a w) : (Code.cond c x y).wp P Q a w :=
  wp_cond_split hc (fun h => by cases h) (fun _ => h)
end
theorem ag36 (w : World) : (isAgg 36).run Try.prog w = .ok false w := by kernel_rfl
theorem ag4 (w : World) : (isAgg 4).run Try.prog w = .ok false w := by kernel_rfl
theorem ag2 (w : World) : (isAgg 2).run Try.prog w = .ok false w := by kernel_rfl
theorem ag100 (w : World) : (isAgg 100).run Try.prog w = .ok false w := by kernel_rfl
theorem ag23 (w : World) : (isAgg 23).run Try.prog w = .ok true w := by kernel_rfl
theorem ag60 (w : World) : (isAgg 60).run Try.prog w = .ok true w := by kernel_rfl
theorem sz100 (w : World) : (sizeOf 100).run Try.prog w = .ok 1 w := by kernel_rfl
theorem sz23 (w : World) : (sizeOf 23).run Try.prog w = .ok 2 w := by kernel_rfl
theorem sz60 (w : World) : (sizeOf 60).run Try.prog w = .ok 3 w := by kernel_rfl
theorem sz62 (w : World) : (sizeOf 62).run Try.prog w = .ok 6 w := by kernel_rfl
theorem zv60 (w : World) : (zeroValue 60).run Try.prog w = .ok (.agg #[Value.int .i64 0, Value.slice none 0 0, Value.bool false]) w := by kernel_rfl
theorem zv62 (w : World) : (zeroValue 62).run Try.prog w = .ok (.agg #[Value.int .i64 0, Value.slice none 0 0, Value.bool false, Value.int .i64 0, Value.slice none 0 0, Value.bool false]) w := by kernel_rfl
theorem ret60 {fn : Func} {p : Tmp} (h : fn.results = #[.cell p 60]) (tmps : Array Value) {w : World} {g : Nat} {t : TypeId} {cs : Array Value} (hz : cs.size = 3) (hp : tmps.getD p undef = .pointer (some ⟨g, 0, none⟩)) (hg : w.heap[g]? = some (.cells cs t (0, 0))) :
    (results fn tmps).run Try.prog w = .ok (.agg cs) w :=
  results_cell_row h tmps w g t cs (0, 0) _ hp hg Try.underlying60 rfl (by rw [hz]; kernel_rfl)
theorem ret62 {fn : Func} {p : Tmp} (h : fn.results = #[.cell p 62]) (tmps : Array Value) {w : World} {g : Nat} {t : TypeId} {cs : Array Value} (hz : cs.size = 6) (hp : tmps.getD p undef = .pointer (some ⟨g, 0, none⟩)) (hg : w.heap[g]? = some (.cells cs t (0, 0))) :
    (results fn tmps).run Try.prog w = .ok (.agg cs) w :=
  results_cell_row h tmps w g t cs (0, 0) _ hp hg Try.underlying62 rfl (by rw [hz]; kernel_rfl)
section
variable {o : Oper} {a : Act} {w : World}
theorem run_bin {P : Program} {op : BinOp} {t u : TypeId} {x y : Operand} (vx vy v : Value) (ho : o.op = .binOp op t x y u) (hx : a.eval x = vx) (hy : a.eval y = vy) (hr : (do eqGuard op t x y vx vy; binOp op t vx vy : Sem Value).run P w = .ok v w) : (execOp a.eval o).run P w = .ok (.value v) w := by
  unfold execOp
  simp only [ho, hx, hy]
  rw [Sem.run_bind, hr]
  rfl
theorem run_not {P : Program} {t : TypeId} {x : Operand} (b : Bool) (ho : o.op = .unOp .not t x) (hx : a.eval x = .bool b) : (execOp a.eval o).run P w = .ok (.value (.bool (!b))) w := by
  unfold execOp
  simp only [ho, hx]
  rfl
theorem run_neg {P : Program} {t : TypeId} {k : IntKind} {x : Operand} (z : Int) (ho : o.op = .unOp .neg t x) (hx : a.eval x = .int k z) : (execOp a.eval o).run P w = .ok (.value (.int k (k.wrap (-z)))) w := by
  have h : (Op.unary .neg (.int k z)).run P w = .ok (.int k (k.wrap (-z))) w := by simp [go_sem]
  unfold execOp
  simp only [ho, hx]
  rw [Sem.run_bind, h]
  rfl
theorem run_len36 {ρ : Operand → Value} {x : Operand} {A : Option Addr} {n m : Nat} (ho : o.op = .call { callee := .builtin .len, args := #[x], argTypes := #[36] }) (hx : ρ x = .slice A n m) : (execOp ρ o).run Try.prog w = .ok (.value (.int .i64 (n : Int))) w := by
  simp [execOp, ho, hx, go_sem]
theorem run_len54 {ρ : Operand → Value} {x : Operand} {A : Option Addr} {n m : Nat} (ho : o.op = .call { callee := .builtin .len, args := #[x], argTypes := #[54] }) (hx : ρ x = .slice A n m) : (execOp ρ o).run Try.prog w = .ok (.value (.int .i64 (n : Int))) w := by
  simp [execOp, ho, hx, go_sem]
end
set_option maxRecDepth 100000
section
variable {o : Oper} {a : Act} {w : World}
theorem bin_eql_4 (x y : Operand) (b c : Bool) : (do eqGuard .eql 4 x y (.bool b) (.bool c); binOp .eql 4 (.bool b) (.bool c) : Sem Value).run Try.prog w = .ok (.bool (b == c)) w := by rfl
theorem bin_neq_4 (x y : Operand) (b c : Bool) : (do eqGuard .neq 4 x y (.bool b) (.bool c); binOp .neq 4 (.bool b) (.bool c) : Sem Value).run Try.prog w = .ok (.bool (b != c)) w := by rfl
theorem bin_eql_3 (x y : Operand) (b c : Int) : (do eqGuard .eql 3 x y (.int .i64 b) (.int .i64 c); binOp .eql 3 (.int .i64 b) (.int .i64 c) : Sem Value).run Try.prog w = .ok (.bool (b == c)) w := by rfl
theorem bin_neq_3 (x y : Operand) (b c : Int) : (do eqGuard .neq 3 x y (.int .i64 b) (.int .i64 c); binOp .neq 3 (.int .i64 b) (.int .i64 c) : Sem Value).run Try.prog w = .ok (.bool (b != c)) w := by rfl
theorem bin_gtr_3 (x y : Operand) (b c : Int) : (do eqGuard .gtr 3 x y (.int .i64 b) (.int .i64 c); binOp .gtr 3 (.int .i64 b) (.int .i64 c) : Sem Value).run Try.prog w = .ok (.bool (decide (c < b))) w := by rfl
theorem bin_geq_3 (x y : Operand) (b c : Int) : (do eqGuard .geq 3 x y (.int .i64 b) (.int .i64 c); binOp .geq 3 (.int .i64 b) (.int .i64 c) : Sem Value).run Try.prog w = .ok (.bool (decide (c ≤ b))) w := by rfl
theorem bin_lss_3 (x y : Operand) (b c : Int) : (do eqGuard .lss 3 x y (.int .i64 b) (.int .i64 c); binOp .lss 3 (.int .i64 b) (.int .i64 c) : Sem Value).run Try.prog w = .ok (.bool (decide (b < c))) w := by rfl
theorem bin_leq_3 (x y : Operand) (b c : Int) : (do eqGuard .leq 3 x y (.int .i64 b) (.int .i64 c); binOp .leq 3 (.int .i64 b) (.int .i64 c) : Sem Value).run Try.prog w = .ok (.bool (decide (b ≤ c))) w := by rfl
theorem bin_add_3 (x y : Operand) (b c : Int) : (do eqGuard .add 3 x y (.int .i64 b) (.int .i64 c); binOp .add 3 (.int .i64 b) (.int .i64 c) : Sem Value).run Try.prog w = .ok (.int .i64 (IntKind.i64.wrap (b + c))) w := by rfl
theorem bin_sub_3 (x y : Operand) (b c : Int) : (do eqGuard .sub 3 x y (.int .i64 b) (.int .i64 c); binOp .sub 3 (.int .i64 b) (.int .i64 c) : Sem Value).run Try.prog w = .ok (.int .i64 (IntKind.i64.wrap (b - c))) w := by rfl
theorem bin_eql_2 (x y : Operand) (b c : Int) : (do eqGuard .eql 2 x y (.int .i64 b) (.int .i64 c); binOp .eql 2 (.int .i64 b) (.int .i64 c) : Sem Value).run Try.prog w = .ok (.bool (b == c)) w := by rfl
theorem bin_neq_2 (x y : Operand) (b c : Int) : (do eqGuard .neq 2 x y (.int .i64 b) (.int .i64 c); binOp .neq 2 (.int .i64 b) (.int .i64 c) : Sem Value).run Try.prog w = .ok (.bool (b != c)) w := by rfl
theorem bin_gtr_2 (x y : Operand) (b c : Int) : (do eqGuard .gtr 2 x y (.int .i64 b) (.int .i64 c); binOp .gtr 2 (.int .i64 b) (.int .i64 c) : Sem Value).run Try.prog w = .ok (.bool (decide (c < b))) w := by rfl
theorem bin_lss_2 (x y : Operand) (b c : Int) : (do eqGuard .lss 2 x y (.int .i64 b) (.int .i64 c); binOp .lss 2 (.int .i64 b) (.int .i64 c) : Sem Value).run Try.prog w = .ok (.bool (decide (b < c))) w := by rfl
theorem bin_add_2 (x y : Operand) (b c : Int) : (do eqGuard .add 2 x y (.int .i64 b) (.int .i64 c); binOp .add 2 (.int .i64 b) (.int .i64 c) : Sem Value).run Try.prog w = .ok (.int .i64 (IntKind.i64.wrap (b + c))) w := by rfl
theorem bin_sub_2 (x y : Operand) (b c : Int) : (do eqGuard .sub 2 x y (.int .i64 b) (.int .i64 c); binOp .sub 2 (.int .i64 b) (.int .i64 c) : Sem Value).run Try.prog w = .ok (.int .i64 (IntKind.i64.wrap (b - c))) w := by rfl
theorem bin_eql_100 (x y : Operand) (b c : Int) : (do eqGuard .eql 100 x y (.int .u32 b) (.int .u32 c); binOp .eql 100 (.int .u32 b) (.int .u32 c) : Sem Value).run Try.prog w = .ok (.bool (b == c)) w := by rfl
theorem bin_geq_100 (x y : Operand) (b c : Int) : (do eqGuard .geq 100 x y (.int .u32 b) (.int .u32 c); binOp .geq 100 (.int .u32 b) (.int .u32 c) : Sem Value).run Try.prog w = .ok (.bool (decide (c ≤ b))) w := by rfl
theorem bin_add_100 (x y : Operand) (b c : Int) : (do eqGuard .add 100 x y (.int .u32 b) (.int .u32 c); binOp .add 100 (.int .u32 b) (.int .u32 c) : Sem Value).run Try.prog w = .ok (.int .u32 (IntKind.u32.wrap (b + c))) w := by rfl
theorem bin_eql_104 (x y : Operand) (b c : Int) : (do eqGuard .eql 104 x y (.int .u64 b) (.int .u64 c); binOp .eql 104 (.int .u64 b) (.int .u64 c) : Sem Value).run Try.prog w = .ok (.bool (b == c)) w := by rfl
theorem bin_gtr_104 (x y : Operand) (b c : Int) : (do eqGuard .gtr 104 x y (.int .u64 b) (.int .u64 c); binOp .gtr 104 (.int .u64 b) (.int .u64 c) : Sem Value).run Try.prog w = .ok (.bool (decide (c < b))) w := by rfl
theorem bin_geq_104 (x y : Operand) (b c : Int) : (do eqGuard .geq 104 x y (.int .u64 b) (.int .u64 c); binOp .geq 104 (.int .u64 b) (.int .u64 c) : Sem Value).run Try.prog w = .ok (.bool (decide (c ≤ b))) w := by rfl
theorem bin_lss_104 (x y : Operand) (b c : Int) : (do eqGuard .lss 104 x y (.int .u64 b) (.int .u64 c); binOp .lss 104 (.int .u64 b) (.int .u64 c) : Sem Value).run Try.prog w = .ok (.bool (decide (b < c))) w := by rfl
theorem bin_add_104 (x y : Operand) (b c : Int) : (do eqGuard .add 104 x y (.int .u64 b) (.int .u64 c); binOp .add 104 (.int .u64 b) (.int .u64 c) : Sem Value).run Try.prog w = .ok (.int .u64 (IntKind.u64.wrap (b + c))) w := by rfl
theorem bin_sub_104 (x y : Operand) (b c : Int) : (do eqGuard .sub 104 x y (.int .u64 b) (.int .u64 c); binOp .sub 104 (.int .u64 b) (.int .u64 c) : Sem Value).run Try.prog w = .ok (.int .u64 (IntKind.u64.wrap (b - c))) w := by rfl
theorem bin_mul_104 (x y : Operand) (b c : Int) : (do eqGuard .mul 104 x y (.int .u64 b) (.int .u64 c); binOp .mul 104 (.int .u64 b) (.int .u64 c) : Sem Value).run Try.prog w = .ok (.int .u64 (IntKind.u64.wrap (b * c))) w := by rfl
theorem bin_eql_36n (x y : Operand) (n m : Nat) : (do eqGuard .eql 36 x y (.slice none n m) (.slice none 0 0); binOp .eql 36 (.slice none n m) (.slice none 0 0) : Sem Value).run Try.prog w = .ok (.bool true) w := by rfl
theorem bin_eql_36s (x y : Operand) (ad : Addr) (n m : Nat) : (do eqGuard .eql 36 x y (.slice (some ad) n m) (.slice none 0 0); binOp .eql 36 (.slice (some ad) n m) (.slice none 0 0) : Sem Value).run Try.prog w = .ok (.bool false) w := by rfl
theorem bin_neq_36n (x y : Operand) (n m : Nat) : (do eqGuard .neq 36 x y (.slice none n m) (.slice none 0 0); binOp .neq 36 (.slice none n m) (.slice none 0 0) : Sem Value).run Try.prog w = .ok (.bool false) w := by rfl
theorem bin_neq_36s (x y : Operand) (ad : Addr) (n m : Nat) : (do eqGuard .neq 36 x y (.slice (some ad) n m) (.slice none 0 0); binOp .neq 36 (.slice (some ad) n m) (.slice none 0 0) : Sem Value).run Try.prog w = .ok (.bool true) w := by rfl
end
end Go.Proofs.Ythhgjloephkpaaa
namespace Go.Proofs.Ythhgjloephkpaaa.Lx
set_option linter.unusedVariables false
set_option linter.unusedSimpArgs false
open Go Go.RowKit Go.Proofs.Ythhgjloephkpaaa Go.Proofs.YthhgjloephkpaaaW.PrintWords Go.Proofs.YthhgjloephkpaaaW.PrintLast

def look {β : Type _} : List (Nat × β) → Nat → Option β
  | [], _ => none
  | p :: l, n => match Nat.beq p.1 n with
    | true => some p.2
    | false => look l n

/-- A world, and which of its blocks are frozen. -/
structure Kst where
  w : World
  fz : Nat → Prop
  lt : ∀ g, fz g → g < w.heap.size
/-- A later one. -/
structure Le (s t : Kst) : Prop where
  u : U s.w t.w
  keep : ∀ g, s.fz g → t.fz g ∧ t.w.heap[g]? = s.w.heap[g]?
  size : s.w.heap.size ≤ t.w.heap.size
  new : ∀ g, t.fz g → s.fz g ∨ s.w.heap.size ≤ g
theorem Le.refl (s : Kst) : Le s s := ⟨U.refl _, fun _ h => ⟨h, rfl⟩, Nat.le_refl _, fun _ h => .inl h⟩
theorem Le.trans {a b c : Kst} (h : Le a b) (k : Le b c) : Le a c :=
  ⟨h.u.trans k.u, fun g hg => ⟨(k.keep g (h.keep g hg).1).1, by rw [(k.keep g (h.keep g hg).1).2, (h.keep g hg).2]⟩, Nat.le_trans h.size k.size,
    fun g hg => (k.new g hg).elim (h.new g) (fun h1 => .inr (Nat.le_trans h.size h1))⟩
/-- An abstract kind: how cells stand for a thing. -/
structure Rel (α : Type) where
  n : Nat
  R : Kst → List Value → α → Prop
  up : ∀ s t cs x, Le s t → R s cs x → R t cs x
  len : ∀ s cs x, R s cs x → cs.length = n
  ok : ∀ s cs x, R s cs x → ∀ c ∈ cs, c.oneCell' = true ∧ noW c = true
/-- A cell or some: a value, a pointer into a box of the function's own, an abstract thing. -/
inductive SV : Type 1
  | val (v : Value)
  | ptr (b o : Nat)
  | abs {α : Type} (R : Rel α) (x : α)
def SV.width : SV → Nat
  | .abs R _ => R.n
  | _ => 1
/-- The boxes it names are all p. -/
def SV.nm (p : Nat → Bool) : SV → Bool
  | .ptr b _ => p b
  | _ => true
def SV.Rep (γ : Nat → Nat) (s : Kst) : SV → List Value → Prop
  | .val v, cs => cs = [v] ∧ v.oneCell' = true
  | .ptr b o, cs => cs = [.pointer (some ⟨γ b, o, none⟩)]
  | .abs R x, cs => R.R s cs x
def RepL (γ : Nat → Nat) (s : Kst) : List SV → List Value → Prop
  | [], cs => cs = []
  | c :: l, cs => ∃ a b, cs = a ++ b ∧ c.Rep γ s a ∧ RepL γ s l b
theorem SV.Rep.up {γ : Nat → Nat} {s t : Kst} {c : SV} {cs : List Value} (h : Le s t) (k : c.Rep γ s cs) : c.Rep γ t cs := by
  cases c with
  | val v => exact k
  | ptr b o => exact k
  | abs R x => exact R.up _ _ _ _ h k
theorem SV.Rep.len {γ : Nat → Nat} {s : Kst} {c : SV} {cs : List Value} (k : c.Rep γ s cs) : cs.length = c.width := by
  cases c with
  | val v => rw [k.1]; rfl
  | ptr b o => rw [show cs = _ from k]; rfl
  | abs R x => exact R.len _ _ _ k
theorem SV.Rep.one {γ : Nat → Nat} {s : Kst} {c : SV} {cs : List Value} (k : c.Rep γ s cs) : ∀ v ∈ cs, v.oneCell' = true := by
  cases c with
  | val v => rw [k.1]; intro x hx; rw [List.mem_singleton.1 hx]; exact k.2
  | ptr b o => rw [show cs = _ from k]; intro x hx; rw [List.mem_singleton.1 hx]; rfl
  | abs R x => exact fun v hv => (R.ok _ _ _ k v hv).1
def SV.noW : SV → Bool
  | .val v => Go.Proofs.Ythhgjloephkpaaa.noW v
  | _ => true
theorem SV.Rep.now {γ : Nat → Nat} {s : Kst} {c : SV} {cs : List Value} (k : c.Rep γ s cs) (h : c.noW = true) : ∀ v ∈ cs, Go.Proofs.Ythhgjloephkpaaa.noW v = true := by
  cases c with
  | val v => rw [k.1]; intro x hx; rw [List.mem_singleton.1 hx]; exact h
  | ptr b o => rw [show cs = _ from k]; intro x hx; rw [List.mem_singleton.1 hx]; rfl
  | abs R x => exact fun v hv => (R.ok _ _ _ k v hv).2
section
variable {γ : Nat → Nat} {s t : Kst}
theorem RepL.up (h : Le s t) : ∀ {l : List SV} {cs : List Value}, RepL γ s l cs → RepL γ t l cs
  | [], _, k => k
  | _ :: _, _, ⟨a, b, e, k1, k2⟩ => ⟨a, b, e, k1.up h, k2.up h⟩
theorem RepL.one : ∀ {l : List SV} {cs : List Value}, RepL γ s l cs → ∀ v ∈ cs, v.oneCell' = true
  | [], _, k => by rw [show _ = [] from k]; intro v hv; cases hv
  | _ :: _, _, ⟨a, b, e, k1, k2⟩ => by
    subst e
    intro v hv
    rcases List.mem_append.1 hv with h | h
    · exact k1.one v h
    · exact k2.one v h
theorem RepL.now : ∀ {l : List SV} {cs : List Value}, RepL γ s l cs → l.all SV.noW = true → ∀ v ∈ cs, noW v = true
  | [], _, k, _ => by rw [show _ = [] from k]; intro v hv; cases hv
  | c :: l, _, ⟨a, b, e, k1, k2⟩, h => by
    subst e
    rw [List.all_cons, Bool.and_eq_true] at h
    intro v hv
    rcases List.mem_append.1 hv with h1 | h1
    · exact k1.now h.1 v h1
    · exact k2.now h.2 v h1
def widthL : List SV → Nat
  | [] => 0
  | c :: l => c.width + widthL l
theorem RepL.len : ∀ {l : List SV} {cs : List Value}, RepL γ s l cs → cs.length = widthL l
  | [], _, k => by rw [show _ = [] from k]; rfl
  | _ :: _, _, ⟨a, b, e, k1, k2⟩ => by subst e; rw [List.length_append, k1.len, k2.len]; rfl
theorem RepL.append : ∀ {l m : List SV} {cs ds : List Value}, RepL γ s l cs → RepL γ s m ds → RepL γ s (l ++ m) (cs ++ ds)
  | [], _, _, _, k, k' => by rw [show _ = [] from k]; exact k'
  | _ :: _, _, _, _, ⟨a, b, e, k1, k2⟩, k' => by subst e; exact ⟨a, _, List.append_assoc .., k1, k2.append k'⟩
/-- The first of them that fill n cells, and the others. -/
def cutW : Nat → List SV → Option (List SV × List SV)
  | 0, l => some ([], l)
  | _ + 1, [] => none
  | n + 1, c :: l => match Nat.ble c.width (n + 1) with
    | true => match cutW (n + 1 - c.width) l with
      | some (a, b) => some (c :: a, b)
      | none => none
    | false => none
theorem cutW_spec : ∀ (n : Nat) (l : List SV) {a b : List SV} {cs : List Value}, cutW n l = some (a, b) → RepL γ s l cs → RepL γ s a (cs.take n) ∧ RepL γ s b (cs.drop n) ∧ n ≤ cs.length
  | 0, l, a, b, cs, h, k => by
    unfold cutW at h
    injection h with h; injection h with h1 h2
    subst h1 h2
    exact ⟨rfl, k, Nat.zero_le _⟩
  | n + 1, [], a, b, cs, h, k => by unfold cutW at h; cases h
  | n + 1, c :: l, a, b, cs, h, k => by
    unfold cutW at h
    split at h
    · rename_i hw
      split at h
      · rename_i a' b' h1
        injection h with h; injection h with h2 h3
        subst h2 h3
        obtain ⟨x, y, e, k1, k2⟩ := k
        have hx := k1.len
        have hle := Nat.le_of_ble_eq_true hw
        obtain ⟨i1, i2, i3⟩ := cutW_spec (n + 1 - c.width) l h1 k2
        subst e
        refine ⟨⟨x, y.take (n + 1 - c.width), ?_, k1, i1⟩, ?_, ?_⟩
        · rw [List.take_append, ← hx, List.take_of_length_le (by omega)]
        · rw [List.drop_append, List.drop_of_length_le (by omega), List.nil_append, hx]; exact i2
        · rw [List.length_append]; omega
      · cases h
    · cases h
end
/-- A value: one cell, or an aggregate. -/
structure UV : Type 1 where
  ag : Bool
  l : List SV
def UV.Rep (γ : Nat → Nat) (s : Kst) (u : UV) (v : Value) : Prop :=
  match u.ag with
  | true => ∃ cs : List Value, v = .agg cs.toArray ∧ RepL γ s u.l cs
  | false => v.oneCell' = true ∧ RepL γ s u.l [v]
inductive TV : Type 1
  | u (x : UV)
  | tup (l : List UV)
def RepT (γ : Nat → Nat) (s : Kst) : List UV → List Value → Prop
  | [], vs => vs = []
  | c :: l, vs => ∃ a b, vs = a :: b ∧ c.Rep γ s a ∧ RepT γ s l b
def TV.Rep (γ : Nat → Nat) (s : Kst) : TV → Value → Prop
  | .u x, v => x.Rep γ s v
  | .tup l, v => ∃ vs : List Value, v = .tuple vs.toArray ∧ RepT γ s l vs
section
variable {γ : Nat → Nat} {s t : Kst}
theorem UV.Rep.up (h : Le s t) {u : UV} {v : Value} (k : u.Rep γ s v) : u.Rep γ t v := by
  obtain ⟨ag, l⟩ := u
  cases ag
  · exact ⟨k.1, k.2.up h⟩
  · obtain ⟨cs, e, k⟩ := k; exact ⟨cs, e, k.up h⟩
theorem RepT.up (h : Le s t) : ∀ {l : List UV} {vs : List Value}, RepT γ s l vs → RepT γ t l vs
  | [], _, k => k
  | _ :: _, _, ⟨a, b, e, k1, k2⟩ => ⟨a, b, e, k1.up h, k2.up h⟩
theorem TV.Rep.up (h : Le s t) {u : TV} {v : Value} (k : u.Rep γ s v) : u.Rep γ t v := by
  cases u with
  | u x => exact UV.Rep.up h k
  | tup l => obtain ⟨vs, e, k⟩ := k; exact ⟨vs, e, k.up h⟩
theorem UV.Rep.cells {u : UV} {v : Value} (k : u.Rep γ s v) : RepL γ s u.l v.cells.toList := by
  obtain ⟨ag, l⟩ := u
  cases ag
  · obtain ⟨k1, k2⟩ := k
    have : v.cells = #[v] := by cases v <;> first | rfl | (simp [Value.oneCell'] at k1)
    rw [this]; exact k2
  · obtain ⟨cs, e, k⟩ := k; subst e; exact k
end
def UV.nm (p : Nat → Bool) (u : UV) : Bool := u.l.all (SV.nm p)
def TV.nm (p : Nat → Bool) : TV → Bool
  | .u x => x.nm p
  | .tup l => l.all (UV.nm p)
section
variable {γ δ : Nat → Nat} {s : Kst} {p : Nat → Bool}
theorem SV.Rep.ren (h : ∀ b, p b = true → δ b = γ b) {c : SV} {cs : List Value} (k : c.Rep γ s cs) (hb : c.nm p = true) : c.Rep δ s cs := by
  cases c with
  | val v => exact k
  | ptr b o =>
    rw [show cs = _ from k]
    show _ = _
    rw [h b hb]
  | abs R x => exact k
theorem RepL.ren (h : ∀ b, p b = true → δ b = γ b) : ∀ {l : List SV} {cs : List Value}, RepL γ s l cs → l.all (SV.nm p) = true → RepL δ s l cs
  | [], _, k, _ => k
  | _ :: _, _, ⟨a, b, e, k1, k2⟩, hb => by
    rw [List.all_cons, Bool.and_eq_true] at hb
    exact ⟨a, b, e, k1.ren h hb.1, k2.ren h hb.2⟩
theorem UV.Rep.ren (h : ∀ b, p b = true → δ b = γ b) {u : UV} {v : Value} (k : u.Rep γ s v) (hb : u.nm p = true) : u.Rep δ s v := by
  obtain ⟨ag, l⟩ := u
  cases ag
  · exact ⟨k.1, k.2.ren h hb⟩
  · obtain ⟨cs, e, k⟩ := k; exact ⟨cs, e, k.ren h hb⟩
theorem RepT.ren (h : ∀ b, p b = true → δ b = γ b) : ∀ {l : List UV} {vs : List Value}, RepT γ s l vs → l.all (UV.nm p) = true → RepT δ s l vs
  | [], _, k, _ => k
  | _ :: _, _, ⟨a, b, e, k1, k2⟩, hb => by
    rw [List.all_cons, Bool.and_eq_true] at hb
    exact ⟨a, b, e, k1.ren h hb.1, k2.ren h hb.2⟩
theorem TV.Rep.ren (h : ∀ b, p b = true → δ b = γ b) {u : TV} {v : Value} (k : u.Rep γ s v) (hb : u.nm p = true) : u.Rep δ s v := by
  cases u with
  | u x => exact UV.Rep.ren h k hb
  | tup l => obtain ⟨vs, e, k⟩ := k; exact ⟨vs, e, k.ren h hb⟩
end
/-- A state: slots and boxes (newest first), and the next box's name. -/
structure SS : Type 1 where
  tm : List (Nat × TV)
  bx : List (Nat × TypeId × List SV)
  nx : Nat
  n : Nat
def BoxAt (n0 : Nat) (γ : Nat → Nat) (s : Kst) (b : Nat) (ty : TypeId) (l : List SV) : Prop :=
  ∃ cs : List Value, RepL γ s l cs ∧ s.w.heap[γ b]? = some (.cells cs.toArray ty (0, 0)) ∧ (∀ v ∈ cs, noW v = true) ∧ n0 ≤ γ b ∧ ¬ s.fz (γ b)
structure Sat (n0 : Nat) (γ : Nat → Nat) (s : Kst) (a : Act) (S : SS) : Prop where
  df : a.defers = []
  sz : a.tmps.size = S.n
  tm : ∀ k v, look S.tm k = some v → v.Rep γ s (a.tmps.getD k undef)
  bx : ∀ b ty l, look S.bx b = some (ty, l) → BoxAt n0 γ s b ty l
  inj : ∀ b b', (look S.bx b).isSome = true → (look S.bx b').isSome = true → γ b = γ b' → b = b'
/-- The names it bears are below its next one. -/
structure Wf (S : SS) : Prop where
  nx : ∀ b, (look S.bx b).isSome = true → b < S.nx
  nt : ∀ k v, look S.tm k = some v → v.nm (fun b => Nat.blt b S.nx) = true
  nb : ∀ b ty l, look S.bx b = some (ty, l) → l.all (SV.nm fun b => Nat.blt b S.nx) = true
end Go.Proofs.Ythhgjloephkpaaa.Lx
namespace Go.Proofs.Ythhgjloephkpaaa.Lx
set_option linter.unusedVariables false
set_option linter.unusedSimpArgs false
open Go Go.RowKit Go.Proofs.Ythhgjloephkpaaa Go.Proofs.YthhgjloephkpaaaW.PrintWords Go.Proofs.YthhgjloephkpaaaW.PrintLast

/-- A value that no world has a part in. -/
def pureVal {α : Type} (P : Program) : Sem α → Option α
  | .pure a => some a
  | .program k => pureVal P (k P)
  | .mark _ k => pureVal P k
  | _ => none
theorem pureVal_run {α : Type} {P : Program} : ∀ {m : Sem α} {a : α}, pureVal P m = some a → ∀ w, m.run P w = .ok a w
  | .pure a, b, h, w => by unfold pureVal at h; injection h with h; subst h; rfl
  | .program k, b, h, w => by unfold pureVal at h; exact pureVal_run h w
  | .mark m k, b, h, w => by unfold pureVal at h; exact pureVal_run h w
  | .load _ _ _, _, h, _ => by unfold pureVal at h; cases h
  | .store _ _ _ _, _, h, _ => by unfold pureVal at h; cases h
  | .new _ _, _, h, _ => by unfold pureVal at h; cases h
  | .shape _ _, _, h, _ => by unfold pureVal at h; cases h
  | .freeze _ _ _, _, h, _ => by unfold pureVal at h; cases h
  | .frozen _ _, _, h, _ => by unfold pureVal at h; cases h
  | .getObj _ _, _, h, _ => by unfold pureVal at h; cases h
  | .setObj _ _ _, _, h, _ => by unfold pureVal at h; cases h
  | .choose _ _, _, h, _ => by unfold pureVal at h; cases h
  | .sys _ _, _, h, _ => by unfold pureVal at h; cases h
  | .halt _, _, h, _ => by unfold pureVal at h; cases h

def opT (S : SS) : Operand → Option TV
  | .tmp k => look S.tm k
  | .const v => match v.oneCell' with
    | true => some (.u ⟨false, [.val v]⟩)
    | false => none
  | .func f => some (.u ⟨false, [.val (.func (.func f) #[] #[])]⟩)
  | .global _ => none
def valsOf : List SV → Option (List Value)
  | [] => some []
  | .val v :: l => match valsOf l with
    | some r => some (v :: r)
    | none => none
  | _ :: _ => none
def UV.sc (u : UV) : Option Value := match u.ag, valsOf u.l with
  | true, some vs => some (.agg vs.toArray)
  | false, some [v] => some v
  | _, _ => none
def scT : List UV → Option (List Value)
  | [] => some []
  | u :: l => match u.sc, scT l with
    | some v, some r => some (v :: r)
    | _, _ => none
def TV.sc : TV → Option Value
  | .u x => x.sc
  | .tup l => match scT l with
    | some vs => some (.tuple vs.toArray)
    | none => none
def scO (S : SS) (x : Operand) : Option Value := match opT S x with
  | some t => t.sc
  | none => none
def ofV : Value → Option TV
  | .agg cs => match cs.toList.all Value.oneCell' with
    | true => some (.u ⟨true, cs.toList.map .val⟩)
    | false => none
  | .tuple _ => none
  | v => some (.u ⟨false, [.val v]⟩)
inductive Eff : Type 1
  | pure (v : TV)
  | alloc (ty : TypeId) (l : List SV)
  | store (b : Nat) (ty : TypeId) (l : List SV)
  | call (f : FuncId) (args : List TV)
def fieldOf (P : Program) (ty : TypeId) (f : Nat) : Option (Nat × Nat × Bool) := match P.underlying ty with
  | some (.struct fs) => match fs[f]? with
    | some x => match pureVal P (sizeOf x.type), pureVal P (isAgg x.type) with
      | some (n + 1), some g => some (x.offset, n + 1, g)
      | _, _ => none
    | none => none
  | _ => none
def fillL (place : Nat → Option (Nat × Nat)) : List SV → List (Nat × UV) → Option (List SV)
  | l, [] => some l
  | l, (i, u) :: rest => match place i with
    | some (off, n) => match cutW off l with
      | some (p, r) => match cutW n r with
        | some (_, q) => match Nat.beq (widthL u.l) n with
          | true => fillL place (p ++ u.l ++ q) rest
          | false => none
        | none => none
      | none => none
    | none => none
def partsT (S : SS) : List (Nat × Operand) → Option (List (Nat × UV))
  | [] => some []
  | (i, x) :: l => match opT S x, partsT S l with
    | some (.u u), some r => some ((i, u) :: r)
    | _, _ => none
def argsT (S : SS) : List Operand → Option (List TV)
  | [] => some []
  | x :: l => match opT S x, argsT S l with
    | some t, some r => some (t :: r)
    | _, _ => none
def cw (g : Bool) (n : Nat) : Nat := match g with
  | true => n
  | false => 1
def placesL (P : Program) : List Field → Option (List (Nat × Nat))
  | [] => some []
  | f :: l => match pureVal P (sizeOf f.type), placesL P l with
    | some n, some r => some ((f.offset, n) :: r)
    | _, _ => none
def evalSc (P : Program) (S : SS) (o : Oper) : Option (Option Nat × Eff) :=
  match o.op.operands.toList.all (fun x => (scO S x).isSome) with
  | true => match pureVal P (execOp (fun x => (scO S x).getD undef) o) with
    | some (.value v) => match ofV v with
      | some t => some (none, .pure t)
      | none => none
    | _ => none
  | false => none
def evalOp (P : Program) (S : SS) (o : Oper) : Option (Option Nat × Eff) :=
  match o.op with
  | .move x | .assign x => match opT S x with
    | some t => some (none, .pure t)
    | none => none
  | .pick c x y => match scO S c with
    | some (.bool true) => match opT S x with
      | some t => some (none, .pure t)
      | none => none
    | some (.bool false) => match opT S y with
      | some t => some (none, .pure t)
      | none => none
    | _ => none
  | .alloc ty => match pureVal P (zeroValue ty) with
    | some z => match z.cells.toList.all (fun v => v.oneCell' && noW v) with
      | true => some (none, .alloc ty (z.cells.toList.map .val))
      | false => none
    | none => none
  | .box ty x => match opT S x with
    | some (.u u) => match u.l.all SV.noW with
      | true => some (none, .alloc ty u.l)
      | false => none
    | _ => none
  | .load ty x => match opT S x with
    | some (.u ⟨false, [.ptr b off]⟩) => match look S.bx b, pureVal P (isAgg ty), pureVal P (sizeOf ty) with
      | some (_, l), some g, some n => match cutW off l with
        | some (_, r) => match cutW (cw g n) r with
          | some (m, _) => some (some b, .pure (.u ⟨g, m⟩))
          | none => none
        | none => none
      | _, _, _ => none
    | _ => none
  | .store ty x y => match opT S x, opT S y with
    | some (.u ⟨false, [.ptr b off]⟩), some (.u u) => match look S.bx b, pureVal P (sizeOf ty), u.l.all SV.noW with
      | some (t, l), some n, true => match cutW off l with
        | some (p, r) => match cutW n r with
          | some (_, q) => match Nat.beq (widthL u.l) n, o.dst with
            | true, none => some (some b, .store b t (p ++ u.l ++ q))
            | _, _ => none
          | none => none
        | none => none
      | _, _, _ => none
    | _, _ => none
  | .fieldAddr ty x f => match opT S x with
    | some (.u ⟨false, [.ptr b off]⟩) => match fieldOf P ty f with
      | some (fo, _, _) => some (none, .pure (.u ⟨false, [.ptr b (off + fo)]⟩))
      | none => none
    | _ => none
  | .field ty x f => match opT S x with
    | some (.u ⟨true, l⟩) => match fieldOf P ty f with
      | some (fo, n, g) => match cutW fo l with
        | some (_, r) => match cutW (cw g n) r with
          | some (m, _) => some (none, .pure (.u ⟨g, m⟩))
          | none => none
        | none => none
      | none => none
    | _ => none
  | .build ty ps => match P.underlying ty with
    | some (.struct fs) => match pureVal P (zeroValue ty), placesL P fs.toList, partsT S ps.toList with
      | some z, some places, some us => match z.cells.toList.all Value.oneCell' with
        | true => match fillL (places[·]?) (z.cells.toList.map .val) us with
          | some l => some (none, .pure (.u ⟨true, l⟩))
          | none => none
        | false => none
      | _, _, _ => none
    | _ => none
  | .extract x i => match opT S x with
    | some (.tup l) => match l[i]? with
      | some u => some (none, .pure (.u u))
      | none => none
    | _ => none
  | .call { callee := .value f, args, .. } => match scO S f, argsT S args.toList with
    | some (.func (.func g) fi cap), some ts => match fi.toList, cap.toList with
      | [], [] => some (none, .call g ts)
      | _, _ => none
    | _, _ => none
  | _ => evalSc P S o
end Go.Proofs.Ythhgjloephkpaaa.Lx
namespace Go.Proofs.Ythhgjloephkpaaa.Lx
set_option linter.unusedVariables false
set_option linter.unusedSimpArgs false
open Go Go.RowKit Go.Proofs.Ythhgjloephkpaaa Go.Proofs.YthhgjloephkpaaaW.PrintWords Go.Proofs.YthhgjloephkpaaaW.PrintLast

def RepAll (γ : Nat → Nat) (s : Kst) : List TV → List Value → Prop
  | [], vs => vs = []
  | t :: l, vs => ∃ a b, vs = a :: b ∧ t.Rep γ s a ∧ RepAll γ s l b
theorem RepAll.up {γ : Nat → Nat} {s t : Kst} (h : Le s t) : ∀ {l : List TV} {vs : List Value}, RepAll γ s l vs → RepAll γ t l vs
  | [], _, k => k
  | _ :: _, _, ⟨a, b, e, k1, k2⟩ => ⟨a, b, e, k1.up h, k2.up h⟩
def OpOk (P : Program) (o : Oper) (γ : Nat → Nat) (s : Kst) (a : Act) : Eff → Prop
  | .pure v => ∃ x, (execOp a.eval o).run P s.w = .ok (.value x) s.w ∧ v.Rep γ s x
  | .alloc ty l => ∃ cs : List Value, (execOp a.eval o).run P s.w = .ok (.value (.pointer (some ⟨s.w.heap.size, 0, none⟩))) (s.w.alloc (.cells cs.toArray ty)) ∧ RepL γ s l cs ∧ ∀ v ∈ cs, noW v = true
  | .store b ty l => ∃ cs : List Value, (execOp a.eval o).run P s.w = .ok .skip (s.w.setRow (γ b) cs.toArray) ∧ RepL γ s l cs ∧ (∀ v ∈ cs, noW v = true) ∧ o.dst = none
  | .call f args => ∃ vs : List Value, (execOp a.eval o).run P s.w = (callFunc f vs.toArray).run P s.w ∧ RepAll γ s args vs
section
variable {P : Program} {γ : Nat → Nat} {s : Kst} {a : Act} {S : SS}
theorem valsOf_rep : ∀ {l : List SV} {vs cs : List Value}, valsOf l = some vs → RepL γ s l cs → cs = vs
  | [], vs, cs, h, k => by unfold valsOf at h; injection h with h; subst h; exact k
  | .val v :: l, vs, cs, h, ⟨x, y, e, k1, k2⟩ => by
    unfold valsOf at h
    split at h
    · rename_i r hr
      injection h with h; subst h
      rw [e, k1.1, valsOf_rep hr k2]; rfl
    · cases h
  | .ptr _ _ :: _, _, _, h, _ => by unfold valsOf at h; cases h
  | .abs _ _ :: _, _, _, h, _ => by unfold valsOf at h; cases h
theorem uvsc_rep {u : UV} {v x : Value} (h : u.sc = some v) (k : u.Rep γ s x) : x = v := by
  obtain ⟨ag, l⟩ := u
  unfold UV.sc at h
  simp only at h
  split at h
  · rename_i vs h1 h2
    injection h with h; subst h
    obtain ⟨cs, e, k⟩ := k
    rw [e, valsOf_rep h2 k]
  · rename_i v' h1 h2
    injection h with h; subst h
    have := valsOf_rep h2 k.2
    simpa using this
  · cases h
theorem scT_rep : ∀ {l : List UV} {vs xs : List Value}, scT l = some vs → RepT γ s l xs → xs = vs
  | [], vs, xs, h, k => by unfold scT at h; injection h with h; subst h; exact k
  | u :: l, vs, xs, h, ⟨x, y, e, k1, k2⟩ => by
    unfold scT at h
    split at h
    · rename_i v r h1 h2
      injection h with h; subst h
      rw [e, uvsc_rep h1 k1, scT_rep h2 k2]
    · cases h
theorem sc_rep {t : TV} {v x : Value} (h : t.sc = some v) (k : t.Rep γ s x) : x = v := by
  cases t with
  | u y => exact uvsc_rep h k
  | tup l =>
    unfold TV.sc at h
    simp only at h
    split at h
    · rename_i vs h1
      injection h with h; subst h
      obtain ⟨xs, e, k⟩ := k
      rw [e, scT_rep h1 k]
    · cases h
theorem repL_vals : ∀ {vs : List Value}, (vs.all Value.oneCell' = true) → RepL γ s (vs.map .val) vs
  | [], _ => rfl
  | v :: vs, h => by
    rw [List.all_cons, Bool.and_eq_true] at h
    exact ⟨[v], vs, rfl, ⟨rfl, h.1⟩, repL_vals h.2⟩
theorem repU_val {v : Value} (h : v.oneCell' = true) : (TV.u ⟨false, [.val v]⟩).Rep γ s v := ⟨h, [v], [], rfl, ⟨rfl, h⟩, rfl⟩
theorem ofV_rep {v : Value} {t : TV} (h : ofV v = some t) : t.Rep γ s v := by
  unfold ofV at h
  split at h
  · rename_i cs
    split at h
    · rename_i ha
      injection h with h; subst h
      exact ⟨cs.toList, by simp, repL_vals ha⟩
    · cases h
  · cases h
  · rename_i h1 h2
    injection h with h; subst h
    refine repU_val ?_
    cases v <;> first | rfl | (exact absurd rfl (h1 _)) | (exact absurd rfl (h2 _))
/-- The operands are what the state says. -/
def OpsSat (γ : Nat → Nat) (s : Kst) (a : Act) (S : SS) (o : Oper) : Prop := ∀ x ∈ o.op.operands, ∀ t, opT S x = some t → t.Rep γ s (a.eval x)
theorem scO_eval {o : Oper} (h : OpsSat γ s a S o) {x : Operand} (hx : x ∈ o.op.operands) {v : Value} (hv : scO S x = some v) : a.eval x = v := by
  unfold scO at hv
  split at hv
  · rename_i t ht
    exact sc_rep hv (h x hx t ht)
  · cases hv
theorem evalSc_ok {o : Oper} {rb : Option Nat} {e : Eff} (hsel : ∀ cs b, o.op ≠ .select cs b) (h : OpsSat γ s a S o) (he : evalSc P S o = some (rb, e)) : OpOk P o γ s a e := by
  unfold evalSc at he
  split at he
  · rename_i hall
    split at he
    · rename_i v hv
      split at he
      · rename_i t ht
        injection he with he; injection he with h1 h2; subst h1 h2
        refine ⟨v, ?_, ofV_rep ht⟩
        have hc : execOp a.eval o = execOp (fun x => (scO S x).getD undef) o := execOp_congr o hsel fun x hx => by
          rw [List.all_eq_true] at hall
          obtain ⟨v', hv'⟩ := Option.isSome_iff_exists.1 (hall x (by simpa using hx))
          rw [scO_eval h hx hv', hv']; rfl
        rw [hc]
        exact pureVal_run hv s.w
      · cases he
    · cases he
  · cases he
theorem fieldOf_spec {ty : TypeId} {f fo n : Nat} {g : Bool} (h : fieldOf P ty f = some (fo, n, g)) :
    ∃ fs x, P.underlying ty = some (.struct fs) ∧ fs[f]? = some x ∧ x.offset = fo ∧ (∀ w, (sizeOf x.type).run P w = .ok n w) ∧ (∀ w, (isAgg x.type).run P w = .ok g w) ∧ n ≠ 0 := by
  unfold fieldOf at h
  split at h
  · rename_i fs hu
    split at h
    · rename_i x hx
      split at h
      · rename_i n' g' h1 h2
        injection h with h; injection h with e1 h; injection h with e2 e3; subst e1 e2 e3
        exact ⟨fs, x, hu, hx, rfl, pureVal_run h1, pureVal_run h2, by omega⟩
      · cases h
    · cases h
  · cases h
theorem run_underlying' {ty : TypeId} {d : TypeDesc} (h : P.underlying ty = some d) (w : World) : (underlying ty).run P w = .ok d w := by
  simp [underlying, h, go_sem]
theorem ptr_rep {b off : Nat} {x : Value} (k : (TV.u ⟨false, [.ptr b off]⟩).Rep γ s x) : x = .pointer (some ⟨γ b, off, none⟩) := by
  obtain ⟨_, y, z, e, k1, k2⟩ := k
  rw [show y = _ from k1, show z = _ from k2] at e
  simpa using e
theorem repU_ptr {b off : Nat} : (TV.u ⟨false, [.ptr b off]⟩).Rep γ s (.pointer (some ⟨γ b, off, none⟩)) := ⟨rfl, [_], [], rfl, rfl, rfl⟩
theorem fill_foldl (off : Nat) : ∀ (vs : List Value) (k : Nat) (cs : Array Value), off + k + vs.length ≤ cs.size →
    ((vs.zipIdx k).foldl (fun cs (p : Value × Nat) => cs.setIfInBounds (off + p.2) p.1) cs).toList = cs.toList.take (off + k) ++ vs ++ cs.toList.drop (off + k + vs.length)
  | [], k, cs, h => by simp
  | v :: vs, k, cs, h => by
    rw [List.length_cons] at h
    rw [List.zipIdx_cons, List.foldl_cons, fill_foldl off vs (k + 1) _ (by simp; omega)]
    simp only [Array.toList_setIfInBounds, List.length_cons]
    have hl : off + k < cs.toList.length := by rw [Array.length_toList]; omega
    rw [List.take_set, List.drop_set_of_lt (by omega), show off + (k + 1) = off + k + 1 from by omega, List.take_succ_eq_append_getElem hl]
    rw [List.set_append_right _ _ (by simp; omega)]
    simp only [List.length_take, show off + k - min (off + k) cs.toList.length = 0 from by omega, List.set_cons_zero, List.append_assoc, List.cons_append, List.nil_append]
    rw [show off + k + 1 + vs.length = off + k + (vs.length + 1) from by omega]
def Parts (γ : Nat → Nat) (s : Kst) : List (Nat × UV) → List (Nat × Value) → Prop
  | [], vs => vs = []
  | u :: us, vs => ∃ v r, vs = v :: r ∧ u.1 = v.1 ∧ u.2.Rep γ s v.2 ∧ Parts γ s us r
theorem fillL_ok (place : Nat → Option (Nat × Nat)) : ∀ (us : List (Nat × UV)) (vs : List (Nat × Value)) {l l' : List SV} {cs : List Value}, fillL place l us = some l' → RepL γ s l cs →
    Parts γ s us vs → ∃ cs', Instr.fill place cs.toArray vs = some cs'.toArray ∧ RepL γ s l' cs'
  | [], vs, l, l', cs, h, k, hf => by
    rw [show vs = [] from hf]
    unfold fillL at h; injection h with h; subst h
    exact ⟨cs, rfl, k⟩
  | (i, u) :: us, _, l, l', cs, h, k, hf => by
      obtain ⟨⟨j, v⟩, vs, rfl, e1, ku, hf⟩ := hf
      have e1 : i = j := e1
      have ku : u.Rep γ s v := ku
      subst e1
      unfold fillL at h
      split at h
      · rename_i off n hp
        split at h
        · rename_i p r hc1
          split at h
          · rename_i p' q hc2
            split at h
            · rename_i hw
              have hw' := Nat.eq_of_beq_eq_true hw
              obtain ⟨a1, a2, a3⟩ := cutW_spec _ _ hc1 k
              obtain ⟨b1, b2, b3⟩ := cutW_spec _ _ hc2 a2
              have hcell := ku.cells
              have hlen := hcell.len
              rw [Array.length_toList, hw'] at hlen
              rw [List.length_drop] at b3
              have hk : RepL γ s (p ++ u.l ++ q) (cs.take off ++ v.cells.toList ++ (cs.drop off).drop n) := (a1.append hcell).append b2
              have hz : (v.cells.zipIdx.foldl (fun cs (p : Value × Nat) => cs.setIfInBounds (off + p.2) p.1) cs.toArray) = (cs.take off ++ v.cells.toList ++ (cs.drop off).drop n).toArray := by
                apply Array.ext'
                rw [← Array.foldl_toList, Array.toList_zipIdx, fill_foldl off v.cells.toList 0 cs.toArray (by rw [Array.length_toList, hlen]; simp; omega)]
                simp [hlen]
              obtain ⟨cs', e, kk⟩ := fillL_ok place us vs h hk hf
              refine ⟨cs', ?_, kk⟩
              unfold Instr.fill
              simp only [hp]
              rw [if_neg (by rw [hlen]; simp; omega)]
              rw [← e]
              congr 1
            · cases h
          · cases h
        · cases h
      · cases h
end
end Go.Proofs.Ythhgjloephkpaaa.Lx
