/- Words and walks for the row RowRatLeast, put together: WLast, RA, RB, RC, RE, RF, RG. -/
import Derived.OrdersHeld
import Derived.Deep.RegionHeld3
import Derived.Laws.BitsLemmas
import Derived.RowKit
import Derived.Test.YthhgjloephkpaaaLe1
import Derived.Test.YthhgjloephkpaaaProg
import Derived.Test.YthhgjloephkpaaaLeWWords
import Derived.WalkKit
import Derived.WalkSpells
import Derived.WalkLawsBesides
import Derived.Lib.Hide
import Derived.StillTailTactics
namespace Go.Proofs.YthhgjloephkpaaaW.PrintLast

section
variable {P : Program} {ops : Array Oper} {Q : Exit → Act → World → Prop} {md : Region.Mode} {S : World → Prop} {ds : List Nat}

/-- Operation d waits for operation i, by a chain of at most 'fuel' edges. -/
def Region.reachB (md : Region.Mode) (ops : Array Oper) (i : Nat) : Nat → Nat → Bool
  | 0, _ => false
  | fuel + 1, d => match ops[d]? with
    | some o => o.after.any fun e => Region.binds md e && (e.on == i || Region.reachB md ops i fuel e.on)
    | none => false

/-- What is listed is closed under the edges. -/
def Region.closedB (md : Region.Mode) (ops : Array Oper) (listed : Array Bool) : Bool :=
  (List.range ops.size).all fun j => !listed.getD j false || match ops[j]? with
    | some o => o.after.all fun e => !Region.binds md e || listed.getD e.on false
    | none => true

/-- Each of ds that has not come up yet waits for number i. -/
def Region.lastB (md : Region.Mode) (ops : Array Oper) (listed : Array Bool) (ds : List Nat) (i : Nat) : Bool :=
  ds.all fun d => listed.getD d true || Region.reachB md ops i ops.size d

def ListedClosed (md : Region.Mode) (ops : Array Oper) (listed : Array Bool) : Prop :=
  ∀ j oj, ops[j]? = some oj → listed.getD j false = true → ∀ e ∈ oj.after, Region.binds md e = true → listed.getD e.on false = true

theorem Region.closedB_spec {listed : Array Bool} (h : Region.closedB md ops listed = true) : ListedClosed md ops listed := by
  intro j oj hj hl e he hb
  have hlt : j < ops.size := (Array.getElem?_eq_some_iff.1 hj).1
  have h1 := List.all_eq_true.1 h j (List.mem_range.2 hlt)
  simp only [hl, hj, Bool.not_true, Bool.false_or] at h1
  have h2 := Array.all_eq_true_iff_forall_mem.1 h1 e he
  simpa [hb] using h2

theorem ListedClosed.set {listed : Array Bool} {i : Nat} (h : ListedClosed md ops listed) (hi : i ∈ Region.ready md ops listed) : ListedClosed md ops (listed.setIfInBounds i true) := by
  obtain ⟨_, oi, hoi, hall⟩ := mem_ready.1 hi
  intro j oj hj hl e he hb
  by_cases hij : i = j
  · subst hij
    have : oj = oi := Option.some.inj (hj.symm.trans hoi)
    subst this
    exact getD_set_true (hall e he hb)
  · rw [getD_set_ne false hij] at hl
    exact getD_set_true (h j oj hj hl e he hb)

theorem Region.reach_listed {listed : Array Bool} {i : Nat} (hc : ListedClosed md ops listed) : ∀ (fuel d : Nat), Region.reachB md ops i fuel d = true → listed.getD d false = true → listed.getD i false = true
  | 0, _, h, _ => by simp [Region.reachB] at h
  | fuel + 1, d, h, hl => by
    unfold Region.reachB at h
    cases ho : ops[d]? with
    | none => rw [ho] at h; simp at h
    | some o =>
      rw [ho] at h
      obtain ⟨e, he, h1⟩ := Array.any_eq_true'.1 h
      simp only [Bool.and_eq_true, Bool.or_eq_true, beq_iff_eq] at h1
      have hle := hc d o ho hl e he h1.1
      rcases h1.2 with h2 | h2
      · rw [← h2]; exact hle
      · exact Region.reach_listed hc fuel e.on h2 hle

/-- What waits for i cannot come up before i is listed. -/
theorem Region.reach_not_ready {listed : Array Bool} {i d fuel : Nat} (hc : ListedClosed md ops listed) (hr : Region.reachB md ops i fuel d = true) (hun : listed.getD i true = false) : d ∉ Region.ready md ops listed := by
  intro hd
  obtain ⟨_, o, ho, hall⟩ := mem_ready.1 hd
  have hi : listed.getD i false = true := by
    cases fuel with
    | zero => simp [Region.reachB] at hr
    | succ n =>
      unfold Region.reachB at hr
      rw [ho] at hr
      obtain ⟨e, he, h1⟩ := Array.any_eq_true'.1 hr
      simp only [Bool.and_eq_true, Bool.or_eq_true, beq_iff_eq] at h1
      have hle := hall e he h1.1
      rcases h1.2 with h2 | h2
      · rw [← h2]; exact hle
      · exact Region.reach_listed hc n e.on h2 hle
  rcases Nat.lt_or_ge i listed.size with h' | h'
  · simp [h'] at hun hi
    rw [hun] at hi
    cases hi
  · simp [Array.getElem?_eq_none h'] at hun

/-- Whatever order is picked from here on, AND 'S' HOLDS BEHIND EVERY OPERATION THAT IS CARRIED OUT, those of ds apart. -/
def wpAnyLast (P : Program) (md : Region.Mode) (ops : Array Oper) (Q : Exit → Act → World → Prop) (S : World → Prop) (ds : List Nat) : Nat → Array Bool → Act → World → Prop
  | 0, listed, a, w => Region.ready md ops listed = [] ∧ Q .normal a w
  | fuel + 1, listed, a, w =>
    (Region.ready md ops listed = [] → Q .normal a w) ∧
    ∀ i ∈ Region.ready md ops listed, wpOp P ops Q i (fun a' w' => (i ∉ ds → S w → S w') ∧ wpAnyLast P md ops Q S ds fuel (listed.setIfInBounds i true) a' w') a w

theorem wpAnyLast_first {i : Nat} {oi : Oper} {v : Value} (hi : ops[i]? = some oi) (hsel : ∀ (j : Nat) (o : Oper) cs b, ops[j]? = some o → o.op ≠ .select cs b)
    (hQ : ∀ c a w, Q (.panic c) (a.put oi.dst v) w → Q (.panic c) a w) (n : Nat) :
    ∀ (fuel : Nat) (listed : Array Bool) (a : Act) (w : World),
      (∀ j oj, ops[j]? = some oj → j ≠ i → listed.getD j true = false → (∀ e ∈ oj.after, Region.binds md e = true → e.on ≠ i) → oi.apart ops oj = true) →
      ListedClosed md ops listed → (∀ d ∈ ds, listed.getD d true = false → Region.reachB md ops i n d = true) →
      i ∈ Region.ready md ops listed → YieldsIf P ops S oi v a → S w →
      wpAnyLast P md ops Q S ds fuel (listed.setIfInBounds i true) (a.put oi.dst v) w → wpAnyLast P md ops Q S ds (fuel + 1) listed a w := by
  intro fuel
  induction fuel with
  | zero =>
    intro listed a w _ _ _ hr hy hS H
    refine ⟨fun h => (by rw [h] at hr; cases hr), fun j hj => ?_⟩
    by_cases hji : j = i
    · subst hji; exact hy.wpOp hi hS ⟨fun _ h => h, H⟩
    · have := ready_mono hj hji
      rw [H.1] at this
      cases this
  | succ fuel ih =>
    intro listed a w hfree hc hd hr hy hS H
    refine ⟨fun h => (by rw [h] at hr; cases hr), fun j hj => ?_⟩
    by_cases hji : j = i
    · subst hji; exact hy.wpOp hi hS ⟨fun _ h => h, H⟩
    · have h1 := H.2 j (ready_mono hj hji)
      obtain ⟨hjun, oj, hoj, hall⟩ := mem_ready.1 hj
      have hiun := (mem_ready.1 hr).1
      have hnot : ∀ e ∈ oj.after, Region.binds md e = true → e.on ≠ i := fun e he hb heq => by
        have h1 := hall e he hb
        rw [heq] at h1
        rcases Nat.lt_or_ge i listed.size with h' | h'
        · simp [h'] at hiun h1; rw [hiun] at h1; cases h1
        · simp [Array.getElem?_eq_none h'] at h1
      have hjd : j ∉ ds := fun hm => Region.reach_not_ready hc (hd j hm hjun) hiun hj
      have h2 := wpOp_putIf hoj (hfree j oj hoj hji hjun hnot) (fun cs b => hsel i oi cs b hi) (fun cs b => hsel j oj cs b hoj) hQ hy h1
      have hfree' : ∀ k ok, ops[k]? = some ok → k ≠ i → (listed.setIfInBounds j true).getD k true = false →
          (∀ e ∈ ok.after, Region.binds md e = true → e.on ≠ i) → oi.apart ops ok = true := fun k ok hk hki hun hno => by
        refine hfree k ok hk hki ?_ hno
        by_cases hjk : j = k
        · subst hjk; exact hjun
        · rw [getD_set_ne true hjk] at hun; exact hun
      have hd' : ∀ d ∈ ds, (listed.setIfInBounds j true).getD d true = false → Region.reachB md ops i n d = true := fun d hm hun => by
        refine hd d hm ?_
        by_cases hjk : j = d
        · subst hjk; exact hjun
        · rw [getD_set_ne true hjk] at hun; exact hun
      refine wpOp_mono (fun a' w' h3 => ⟨h3.2.1, ih (listed.setIfInBounds j true) a' w' hfree' (hc.set hj) hd' (ready_mono hr (Ne.symm hji)) h3.1 (h3.2.1 hjd hS) ?_⟩) h2
      rw [Array.setIfInBounds_comm _ _ hji]
      exact h3.2.2

/-- Take number 'i' first. -/
theorem wpAnyLast_take {i : Nat} {oi : Oper} {v : Value} {fuel : Nat} {listed : Array Bool} {a : Act} {w : World} (hi : ops[i]? = some oi)
    (hs : Region.noSelect ops = true) (hf : Region.free md ops listed i = true) (hr : (Region.ready md ops listed).contains i = true)
    (hc : Region.closedB md ops listed = true) (hl : Region.lastB md ops listed ds i = true)
    (hQ : ∀ c a w, Q (.panic c) (a.put oi.dst v) w → Q (.panic c) a w) (hy : YieldsIf P ops S oi v a) (hS : S w)
    (h : wpAnyLast P md ops Q S ds fuel (listed.setIfInBounds i true) (a.put oi.dst v) w) : wpAnyLast P md ops Q S ds (fuel + 1) listed a w :=
  wpAnyLast_first hi (Region.noSelect_spec hs) hQ ops.size fuel listed a w (Region.free_spec hi hf) (Region.closedB_spec hc)
    (fun d hm hun => by have := List.all_eq_true.1 hl d hm; rw [hun] at this; simpa using this) (by simpa using hr) hy hS h

end

section
variable {P : Program} {ops : Array Oper} {Q : Exit → Act → World → Prop} {md : Region.Mode} {S : World → Prop} {ds : List Nat}

def AllReadyL (P : Program) (md : Region.Mode) (ops : Array Oper) (Q : Exit → Act → World → Prop) (S : World → Prop) (ds : List Nat) (fuel : Nat) (listed : Array Bool) (a : Act) (w : World) (rs : List Nat) : Prop :=
  ∀ i ∈ rs, wpOp P ops Q i (fun a' w' => (i ∉ ds → S w → S w') ∧ wpAnyLast P md ops Q S ds fuel (listed.setIfInBounds i true) a' w') a w
theorem AllReadyL.nil {fuel : Nat} {listed : Array Bool} {a : Act} {w : World} : AllReadyL P md ops Q S ds fuel listed a w [] := fun _ h => by cases h
theorem AllReadyL.cons {fuel : Nat} {listed : Array Bool} {a : Act} {w : World} {i : Nat} {o : Oper} {rs : List Nat} (ho : ops[i]? = some o) (hd : i ∉ ds)
    (h : ∀ K' : Act → World → Prop, Shut (∀ a w, S w → (S w → wpAnyLast P md ops Q S ds fuel (listed.setIfInBounds i true) a w) → K' a w) → if Region.wanted o (yielded ops a.tmps) = true then Oper.wp P o a w K' Q else K' (a.put o.dst undef) w)
    (hs : AllReadyL P md ops Q S ds fuel listed a w rs) : AllReadyL P md ops Q S ds fuel listed a w (i :: rs) := fun j hj => by
  rcases List.mem_cons.1 hj with rfl | hj
  · exact wpOp_step ho (fun K' hK => h K' (fun a w hS hW => hK a w ⟨fun _ _ => hS, hW hS⟩))
  · exact hs j hj
def takeB (md : Region.Mode) (ops : Array Oper) (ds : List Nat) (l l' : Array Bool) (i : Nat) : Bool :=
  Region.noSelect ops && Region.free md ops l i && (Region.ready md ops l).contains i && Region.closedB md ops l && Region.lastB md ops l ds i && (l.setIfInBounds i true == l')
theorem take_ {i : Nat} {N : Option Tmp} {oi : Oper} {v : Value} {fuel : Nat} {l : Array Bool} {a : Act} {w : World} (l' : Array Bool) (hi : ops[i]? = some oi) (hN : oi.dst = N) (hc : takeB md ops ds l l' i = true)
    (hQ : ∀ c a w, Q (.panic c) (a.put oi.dst v) w → Q (.panic c) a w) (hy : YieldsIf P ops S oi v a) (hS : S w) {a' : Act} (ha : a.put N v = a')
    (h : wpAnyLast P md ops Q S ds fuel l' a' w) : wpAnyLast P md ops Q S ds (fuel + 1) l a w := by
  subst ha
  subst hN
  simp only [takeB, Bool.and_eq_true, beq_iff_eq] at hc
  obtain ⟨⟨⟨⟨⟨h1, h2⟩, h3⟩, h4⟩, h5⟩, h6⟩ := hc
  subst h6
  exact wpAnyLast_take hi h1 h2 h3 h4 h5 hQ hy hS h
/-! ### Several operations that write or call may come up: each order is walked, what follows is shown once (join_) -/
theorem enters_ {f : FuncId} {fn : Func} (hf : P.funcs[f]? = some fn) (hname : (fn.name == "runtime.NumGoroutine") = false) (hb : fn.body.isSome = true) (args : Array Value) (w : World) : (callFunc f args).run P w = .ok (.enter f args) w := by
  have h1 : fn.name ≠ "runtime.NumGoroutine" := by simpa using hname
  obtain ⟨c, hc⟩ := Option.isSome_iff_exists.1 hb
  simp [callFunc, hf, h1, hc]
end
end Go.Proofs.YthhgjloephkpaaaW.PrintLast
namespace Go.Proofs.Ythhgjloephkpaaa
set_option linter.unusedVariables false
set_option linter.unusedSimpArgs false
open Go Go.RowKit Go.Proofs.YthhgjloephkpaaaW.PrintWords Go.Proofs.YthhgjloephkpaaaW.PrintLast

theorem ret_int {k : IntKind} {a b : Int} (h : a = b) : Ending.returned (.int k a) = .returned (.int k b) := by rw [h]
theorem rdN {w : World} {k : IntKind} {A : Option Addr} {n : Nat} {xs : List Int} (h : ReadsInt w k A n xs) (i : Nat) (hi : i < n) : ∃ ad, A = some ad ∧ w.cell? (ad.add i) = some (.int k (xs.getD i 0)) := by
  obtain ⟨ad, e, hc⟩ := h.at_ i (by omega) (by omega)
  refine ⟨ad, e, ?_⟩
  rw [Int.toNat_natCast] at hc
  rw [hc]
  unfold rd
  simp
/-- Words as ints. -/
def us (l : List Nat) : List Int := l.map Int.ofNat
theorem us_len (l : List Nat) : (us l).length = l.length := List.length_map ..
theorem us_at (l : List Nat) (i : Nat) : (us l).getD i 0 = (l.getD i 0 : Nat) := by
  unfold us
  rw [List.getD_eq_getElem?_getD, List.getD_eq_getElem?_getD, List.getElem?_map]
  cases l[i]? <;> rfl
theorem us_take (l : List Nat) (k : Nat) : (us l).take k = us (l.take k) := (List.map_take ..).symm
theorem us_append (l m : List Nat) : us (l ++ m) = us l ++ us m := List.map_append ..
/-- A slice that holds words. -/
def Wds (w : World) (A : Option Addr) (n c : Nat) (l : List Nat) : Prop := ReadsInt w .u32 A n (us l) ∧ n ≤ c
theorem Wds.len {w : World} {A : Option Addr} {n c : Nat} {l : List Nat} (h : Wds w A n c l) : l.length = n := by rw [← h.1.1, us_len]
theorem Wds.at_ {w : World} {A : Option Addr} {n c : Nat} {l : List Nat} (h : Wds w A n c l) (i : Nat) (hi : i < n) : ∃ ad, A = some ad ∧ w.cell? (ad.add i) = some (.int .u32 (l.getD i 0 : Nat)) := by
  obtain ⟨ad, e, hc⟩ := rdN h.1 i hi
  exact ⟨ad, e, by rw [hc, us_at]⟩
theorem Wds.below {w w1 : World} {A : Option Addr} {n c : Nat} {l : List Nat} (h : Wds w A n c l) (hb : Below w.heap.size w w1) : Wds w1 A n c l := ⟨h.1.below hb, h.2⟩
theorem Wds.take_ {w : World} {A : Option Addr} {n c : Nat} {l : List Nat} (h : Wds w A n c l) (k : Nat) (hk : k ≤ n) : Wds w A k c (l.take k) :=
  ⟨by rw [← us_take]; exact h.1.take_ k hk, Nat.le_trans hk h.2⟩
theorem Wds.mx {w : World} {A : Option Addr} {n c : Nat} {l : List Nat} (h : Wds w A n c l) : n ≤ 9223372036854775807 := h.1.2.1
theorem Wds.drewN {w : World} {A : Option Addr} {n c : Nat} {l : List Nat} (h : Wds w A n c l) (q : Nat) : Wds (w.drewN q) A n c l := h

/-- What trim leaves. -/
theorem trim_end {l : List Nat} (hd : Dig l) {m : Nat} (hm : m ≤ l.length) (hv : val (l.take m) = val l) (h : m = 0 ∨ l.getD (m - 1) 0 ≠ 0) : l.take m = dg (val l) := by
  rw [← hv]
  apply Norm.eq_dg
  refine ⟨hd.take m, fun x hx => ?_⟩
  rcases h with h | h
  · subst h; simp at hx
  · by_cases hm0 : m = 0
    · subst hm0; simp at hx
    · rw [List.getLast?_eq_getElem?, List.length_take, Nat.min_eq_left hm, List.getElem?_take_of_lt (by omega)] at hx
      rw [List.getD_eq_getElem?_getD, hx] at h
      exact h
theorem trim_step {l : List Nat} {m : Nat} (hm : m + 1 ≤ l.length) (hv : val (l.take (m + 1)) = val l) (h : l.getD m 0 = 0) : val (l.take m) = val l := by
  rw [← hv, List.take_add_one, val_append]
  rw [List.getD_eq_getElem?_getD] at h
  cases hx : l[m]? with
  | none => simp [val]
  | some x => rw [hx] at h; simp at h; subst h; simp [val]

set_option maxHeartbeats 1000000 in
theorem trim_any (A : Option Addr) (n c : Nat) (l : List Nat) (hd : Dig l) (w : World) (h : Wds w A n c l) :
    Calls Try.prog 107 #[.slice A n c] w fun e w' => (∃ m, e = .returned (.slice A m c) ∧ Wds w A m c (dg (val l))) ∧ w' = w := by
  have hmx := h.mx
  have hnc := h.2
  have H := Lib.hid h
  have HL := Lib.hid h.len
  have HD := Lib.hid hd
  clear h hd
  go_enter Try.func107, Try.ntmps107
  go_wp2
  go_loop [0] (fun v => ∃ m : Nat, m ≤ n ∧ v = .slice A m c ∧ Hid (val (l.take m) = val l)) (fun v => match v with | .slice _ m _ => m | _ => 0)
  case atStart => exact ⟨n, Nat.le_refl _, rfl, Lib.hid (by rw [List.take_of_length_le (Nat.le_of_eq HL.out)])⟩
  case round =>
    obtain ⟨m, hm, rfl, hV⟩ := hrel
    by_cases h0 : m = 0
    · subst h0
      have HE := Lib.hid (trim_end HD.out (by omega : 0 ≤ l.length) hV.out (.inl rfl))
      go_wp2
      go_ret
      exact ⟨⟨0, rfl, by rw [← HE.out]; exact H.out.take_ 0 (Nat.zero_le _)⟩, rfl⟩
    · obtain ⟨k, rfl⟩ : ∃ k, m = k + 1 := ⟨m - 1, by omega⟩
      have hgt : decide ((0 : Int) < ((k + 1 : Nat) : Int)) = true := by simp
      obtain ⟨ad, rfl, hc⟩ := H.out.at_ k (by omega)
      have hk1 : ((k + 1 : Nat) : Int) - 1 = (k : Int) := by omega
      by_cases hx : l.getD k 0 = 0
      · have HV := Lib.hid (trim_step (by rw [HL.out]; exact hm) hV.out hx)
        rw [hx] at hc
        clear hx h0
        go_wp2
        go_round
        case rel => exact ⟨k, by omega, by go_num, HV⟩
        case measure => simp
      · have HE := Lib.hid (trim_end HD.out (by rw [HL.out]; exact hm) hV.out (.inr (by simpa using hx)))
        have hx2 : (((l.getD k 0 : Nat) : Int) == 0) = false := by rw [beq_eq_false_iff_ne]; omega
        generalize ((l.getD k 0 : Nat) : Int) = x at *
        clear hx h0
        go_wp2
        go_ret
        exact ⟨⟨k + 1, rfl, by rw [← HE.out]; exact H.out.take_ (k + 1) hm⟩, rfl⟩
end Go.Proofs.Ythhgjloephkpaaa
namespace Go.Proofs.Ythhgjloephkpaaa
set_option linter.unusedVariables false
set_option linter.unusedSimpArgs false
open Go Go.RowKit Go.Proofs.YthhgjloephkpaaaW.PrintWords Go.Proofs.YthhgjloephkpaaaW.PrintLast

def cmpN (x y : Nat) : Int := if x < y then -1 else if x = y then 0 else 1
theorem cmpN_lt {x y : Nat} (h : x < y) : cmpN x y = -1 := if_pos h
theorem cmpN_eq {x y : Nat} (h : x = y) : cmpN x y = 0 := by unfold cmpN; rw [if_neg (by omega), if_pos h]
theorem cmpN_gt {x y : Nat} (h : y < x) : cmpN x y = 1 := by unfold cmpN; rw [if_neg (by omega), if_neg (by omega)]
theorem dg_len_lt {x y : Nat} (h : (dg x).length < (dg y).length) : x < y := by
  rcases Nat.lt_or_ge x y with h1 | h1
  · exact h1
  · have := dg_len_mono h1; omega
theorem dg_inj {x y : Nat} (h : dg x = dg y) : x = y := by rw [← val_dg x, h, val_dg]
theorem drop_step {l : List Nat} {k : Nat} (h : k < l.length) : l.drop k = l.getD k 0 :: l.drop (k + 1) := by
  rw [List.drop_eq_getElem_cons h, List.getD_eq_getElem?_getD, List.getElem?_eq_getElem h]; rfl
theorem val_split (l : List Nat) (k : Nat) (h : k ≤ l.length) : val l = val (l.take k) + BW ^ k * val (l.drop k) := by
  conv => lhs; rw [← List.take_append_drop k l, val_append]
  rw [List.length_take, Nat.min_eq_left h]
theorem val_lt_of {l m : List Nat} {k : Nat} (hl : Dig l) (hm : Dig m) (hk : k < l.length) (hk2 : k < m.length) (he : l.drop (k + 1) = m.drop (k + 1)) (h : l.getD k 0 < m.getD k 0) : val l < val m := by
  rw [val_split l k (Nat.le_of_lt hk), val_split m k (Nat.le_of_lt hk2), drop_step hk, drop_step hk2, he, val_cons, val_cons]
  have h1 := val_lt (hl.take k)
  rw [List.length_take, Nat.min_eq_left (Nat.le_of_lt hk)] at h1
  have h2 : BW ^ k * (l.getD k 0 + 1 + BW * val (m.drop (k + 1))) ≤ BW ^ k * (m.getD k 0 + BW * val (m.drop (k + 1))) := Nat.mul_le_mul_left _ (by omega)
  rw [show l.getD k 0 + 1 + BW * val (m.drop (k + 1)) = (l.getD k 0 + BW * val (m.drop (k + 1))) + 1 by omega, Nat.mul_add, Nat.mul_one] at h2
  omega
theorem dg_lt_of {x y k : Nat} (hk : k < (dg x).length) (hl : (dg x).length = (dg y).length) (he : (dg x).drop (k + 1) = (dg y).drop (k + 1)) (h : (dg x).getD k 0 < (dg y).getD k 0) : x < y := by
  have := val_lt_of (dg_dig x) (dg_dig y) hk (by omega) he h
  rwa [val_dg, val_dg] at this

set_option maxHeartbeats 1000000 in
theorem order_any (A B : Option Addr) (n c m d x y : Nat) (w : World) (hx : Wds w A n c (dg x)) (hy : Wds w B m d (dg y)) :
    Calls Try.prog 110 #[.slice A n c, .slice B m d] w fun e w' => e = .returned (.int .i64 (cmpN x y)) ∧ ∃ q, w' = w.drewN q := by
  have hmx := hx.mx
  have hmy := hy.mx
  have HX := Lib.hid hx
  have HY := Lib.hid hy
  have HLX := Lib.hid hx.len
  have HLY := Lib.hid hy.len
  clear hx hy
  by_cases h1 : n < m
  · have HE := Lib.hid (cmpN_lt (x := x) (y := y) (dg_len_lt (by rw [HLX.out, HLY.out]; exact h1)))
    go_enter Try.func110, Try.ntmps110
    go_wp2
    go_ret
    exact ⟨ret_int HE.out.symm, 0, rfl⟩
  by_cases h2 : m < n
  · have HE := Lib.hid (cmpN_gt (x := x) (y := y) (dg_len_lt (by rw [HLX.out, HLY.out]; exact h2)))
    go_enter Try.func110, Try.ntmps110
    go_wp2
    go_ret
    exact ⟨ret_int HE.out.symm, 0, rfl⟩
  obtain rfl : n = m := by omega
  have HD0 : Hid ((dg x).drop n = (dg y).drop n) := Lib.hid (by rw [List.drop_of_length_le (by rw [HLX.out]; exact Nat.le_refl _), List.drop_of_length_le (by rw [HLY.out]; exact Nat.le_refl _)])
  go_enter Try.func110, Try.ntmps110
  go_wp2
  go_loopw [5] (fun i wr => ∃ k : Nat, k ≤ n ∧ i = .int .i64 ((k : Int) - 1) ∧ Hid ((dg x).drop k = (dg y).drop k) ∧ ∃ q, wr = w.drewN q) (fun i _ => (intOf i + 1).toNat)
  case atStart => exact ⟨n, Nat.le_refl _, rfl, HD0, 0, rfl⟩
  case round =>
    obtain ⟨k, hk, rfl, hD, q, rfl⟩ := hrel
    by_cases h0 : k = 0
    · subst h0
      have HE := Lib.hid (cmpN_eq (dg_inj (by simpa using hD.out)))
      go_wp2
      go_ret
      exact ⟨ret_int HE.out.symm, q, rfl⟩
    · obtain ⟨j, rfl⟩ : ∃ j, k = j + 1 := ⟨k - 1, by omega⟩
      obtain ⟨j2, hj2⟩ : ∃ j2 : Int, j2 = ((j + 1 : Nat) : Int) - 1 := ⟨_, rfl⟩
      have hj3 : j2 = (j : Int) := by omega
      subst hj3
      rw [← hj2]
      clear hj2
      obtain ⟨ad, rfl, hc⟩ := HX.out.at_ j (by omega)
      obtain ⟨bd, rfl, hd⟩ := HY.out.at_ j (by omega)
      have hge : (0 : Int) ≤ (j : Int) := by omega
      have hlt : (j : Int) < (n : Int) := by omega
      have hjx : j < (dg x).length := by rw [HLX.out]; omega
      have hjy : j < (dg y).length := by rw [HLY.out]; omega
      have HJX := Lib.hid hjx
      have HJY := Lib.hid hjy
      clear hjx hjy
      by_cases b0 : (dg x).getD j 0 < (dg y).getD j 0
      · have HE := Lib.hid (cmpN_lt (dg_lt_of HJX.out (HLX.out.trans HLY.out.symm) hD.out b0))
        have bb0 : decide ((((dg x).getD j 0 : Nat) : Int) < (((dg y).getD j 0 : Nat) : Int)) = true := by rw [decide_eq_true_eq]; omega
        clear b0
        generalize (((dg x).getD j 0 : Nat) : Int) = xv at *
        generalize (((dg y).getD j 0 : Nat) : Int) = yv at *
        go_wp2
        go_quiet (fail)
        go_wp2
        go_ret
        exact ⟨ret_int HE.out.symm, _, by first | rfl | (repeat rw [World.drewN_drewN])⟩
      by_cases b1 : (dg y).getD j 0 < (dg x).getD j 0
      · have HE := Lib.hid (cmpN_gt (dg_lt_of HJY.out (HLY.out.trans HLX.out.symm) hD.out.symm b1))
        have bb0 : decide ((((dg x).getD j 0 : Nat) : Int) < (((dg y).getD j 0 : Nat) : Int)) = false := by rw [decide_eq_false_iff_not]; omega
        have bb1 : decide ((((dg y).getD j 0 : Nat) : Int) < (((dg x).getD j 0 : Nat) : Int)) = true := by rw [decide_eq_true_eq]; omega
        clear b0 b1
        generalize (((dg x).getD j 0 : Nat) : Int) = xv at *
        generalize (((dg y).getD j 0 : Nat) : Int) = yv at *
        go_wp2
        go_quiet (fail)
        go_wp2
        go_quiet (fail)
        go_wp2
        go_ret
        exact ⟨ret_int HE.out.symm, _, by first | rfl | (repeat rw [World.drewN_drewN])⟩
      have be : (dg x).getD j 0 = (dg y).getD j 0 := by omega
      have HD2 : Hid ((dg x).drop j = (dg y).drop j) := Lib.hid (by rw [drop_step HJX.out, drop_step HJY.out, be, hD.out])
      rw [be] at hc
      clear b0 b1 be
      generalize (((dg y).getD j 0 : Nat) : Int) = yv at *
      go_wp2
      go_quiet (fail)
      go_wp2
      go_quiet (fail)
      go_wp2
      go_roundw
      case rel => exact ⟨j, by omega, by go_num, HD2, _, by first | rfl | (repeat rw [World.drewN_drewN])⟩
      case measure => simp [intOf]

set_option maxHeartbeats 1000000 in
theorem cmpWords_any (A B : Option Addr) (n c m d x y : Nat) (w : World) (hx : Wds w A n c (dg x)) (hy : Wds w B m d (dg y)) :
    Calls Try.prog 114 #[.slice A n c, .slice B m d] w fun e w' => e = .returned (.int .i64 (cmpN x y)) ∧ ∃ q, w' = w.drewN q := by
  have hmx := hx.mx
  have hmy := hy.mx
  have HX := Lib.hid hx
  have HY := Lib.hid hy
  have HLX := Lib.hid hx.len
  have HLY := Lib.hid hy.len
  clear hx hy
  by_cases h1 : n < m
  · have HE := Lib.hid (cmpN_lt (x := x) (y := y) (dg_len_lt (by rw [HLX.out, HLY.out]; exact h1)))
    go_enter Try.func114, Try.ntmps114
    go_wp2
    go_ret
    exact ⟨ret_int HE.out.symm, 0, rfl⟩
  by_cases h2 : m < n
  · have HE := Lib.hid (cmpN_gt (x := x) (y := y) (dg_len_lt (by rw [HLX.out, HLY.out]; exact h2)))
    go_enter Try.func114, Try.ntmps114
    go_wp2
    go_ret
    exact ⟨ret_int HE.out.symm, 0, rfl⟩
  obtain rfl : n = m := by omega
  have HD0 : Hid ((dg x).drop n = (dg y).drop n) := Lib.hid (by rw [List.drop_of_length_le (by rw [HLX.out]; exact Nat.le_refl _), List.drop_of_length_le (by rw [HLY.out]; exact Nat.le_refl _)])
  go_enter Try.func114, Try.ntmps114
  go_wp2
  go_loopw [5] (fun i wr => ∃ k : Nat, k ≤ n ∧ i = .int .i64 ((k : Int) - 1) ∧ Hid ((dg x).drop k = (dg y).drop k) ∧ ∃ q, wr = w.drewN q) (fun i _ => (intOf i + 1).toNat)
  case atStart => exact ⟨n, Nat.le_refl _, rfl, HD0, 0, rfl⟩
  case round =>
    obtain ⟨k, hk, rfl, hD, q, rfl⟩ := hrel
    by_cases h0 : k = 0
    · subst h0
      have HE := Lib.hid (cmpN_eq (dg_inj (by simpa using hD.out)))
      go_wp2
      go_ret
      exact ⟨ret_int HE.out.symm, q, rfl⟩
    · obtain ⟨j, rfl⟩ : ∃ j, k = j + 1 := ⟨k - 1, by omega⟩
      obtain ⟨j2, hj2⟩ : ∃ j2 : Int, j2 = ((j + 1 : Nat) : Int) - 1 := ⟨_, rfl⟩
      have hj3 : j2 = (j : Int) := by omega
      subst hj3
      rw [← hj2]
      clear hj2
      obtain ⟨ad, rfl, hc⟩ := HX.out.at_ j (by omega)
      obtain ⟨bd, rfl, hd⟩ := HY.out.at_ j (by omega)
      have hge : (0 : Int) ≤ (j : Int) := by omega
      have hlt : (j : Int) < (n : Int) := by omega
      have hjx : j < (dg x).length := by rw [HLX.out]; omega
      have hjy : j < (dg y).length := by rw [HLY.out]; omega
      have HJX := Lib.hid hjx
      have HJY := Lib.hid hjy
      clear hjx hjy
      by_cases b0 : (dg x).getD j 0 < (dg y).getD j 0
      · have HE := Lib.hid (cmpN_lt (dg_lt_of HJX.out (HLX.out.trans HLY.out.symm) hD.out b0))
        have bb0 : decide ((((dg x).getD j 0 : Nat) : Int) < (((dg y).getD j 0 : Nat) : Int)) = true := by rw [decide_eq_true_eq]; omega
        have bb1 : ((((dg x).getD j 0 : Nat) : Int) != (((dg y).getD j 0 : Nat) : Int)) = true := by rw [bne_iff_ne]; omega
        clear b0
        generalize (((dg x).getD j 0 : Nat) : Int) = xv at *
        generalize (((dg y).getD j 0 : Nat) : Int) = yv at *
        go_wp2
        go_quiet (fail)
        go_wp2
        go_quiet (fail)
        go_wp2
        go_ret
        exact ⟨ret_int HE.out.symm, _, by first | rfl | (repeat rw [World.drewN_drewN])⟩
      by_cases b1 : (dg y).getD j 0 < (dg x).getD j 0
      · have HE := Lib.hid (cmpN_gt (dg_lt_of HJY.out (HLY.out.trans HLX.out.symm) hD.out.symm b1))
        have bb0 : decide ((((dg x).getD j 0 : Nat) : Int) < (((dg y).getD j 0 : Nat) : Int)) = false := by rw [decide_eq_false_iff_not]; omega
        have bb1 : ((((dg x).getD j 0 : Nat) : Int) != (((dg y).getD j 0 : Nat) : Int)) = true := by rw [bne_iff_ne]; omega
        clear b0 b1
        generalize (((dg x).getD j 0 : Nat) : Int) = xv at *
        generalize (((dg y).getD j 0 : Nat) : Int) = yv at *
        go_wp2
        go_quiet (fail)
        go_wp2
        go_quiet (fail)
        go_wp2
        go_ret
        exact ⟨ret_int HE.out.symm, _, by first | rfl | (repeat rw [World.drewN_drewN])⟩
      have be : (dg x).getD j 0 = (dg y).getD j 0 := by omega
      have HD2 : Hid ((dg x).drop j = (dg y).drop j) := Lib.hid (by rw [drop_step HJX.out, drop_step HJY.out, be, hD.out])
      rw [be] at hc
      clear b0 b1 be
      generalize (((dg y).getD j 0 : Nat) : Int) = yv at *
      go_wp2
      go_quiet (fail)
      go_wp2
      go_roundw
      case rel => exact ⟨j, by omega, by go_num, HD2, _, by first | rfl | (repeat rw [World.drewN_drewN])⟩
      case measure => simp [intOf]
end Go.Proofs.Ythhgjloephkpaaa
namespace Go.Proofs.Ythhgjloephkpaaa
set_option linter.unusedVariables false
set_option linter.unusedSimpArgs false
open Go Go.RowKit Go.Proofs.YthhgjloephkpaaaW.PrintWords Go.Proofs.YthhgjloephkpaaaW.PrintLast

theorem info100 : (Try.prog.info? 100).map (fun i => (i.zero, i.size, i.bytes)) = some (some (.int .u32 0), 1, 4) := by kernel_rfl
theorem make36c (m : Nat) (hm : m ≤ 10000000000) (W : World) : (Instr.makeSlice 36 (.int .i64 0) (.int .i64 (m : Int))).run Try.prog W = .ok (.slice (some ⟨W.heap.size, 0, none⟩) 0 m) (W.alloc (.cells (madeCells #[.int .u32 0] m) 100)) := by
  obtain ⟨i, hi, hzz⟩ := Option.map_eq_some_iff.1 info100
  simp only [Prod.mk.injEq] at hzz
  obtain ⟨hz, hs, hb⟩ := hzz
  have h := run_make (P := Try.prog) W 36 100 i (.int .u32 0) Try.underlying36 hi hz .i64 .i64 0 (m : Int) (Int.le_refl _) (by omega) (by rw [hb]; omega) (by omega)
  rw [hs] at h
  simpa [Value.cells] using h
theorem make36 (m : Nat) (hm : m ≤ 10000000000) (W : World) : (Instr.makeSlice 36 (.int .i64 (m : Int)) (.int .i64 (m : Int))).run Try.prog W = .ok (.slice (some ⟨W.heap.size, 0, none⟩) m m) (W.alloc (.cells (madeCells #[.int .u32 0] m) 100)) :=
  print_make 36 100 .u32 4 Try.underlying36 info100 (by decide) m (by omega) W
theorem own_room (W : World) (base m : Nat) (hb : base ≤ W.heap.size) (hm : m ≤ 9223372036854775807) : (W.alloc (.cells (madeCells #[.int .u32 0] m) 100)).ownsRow base 100 1 (.slice (some ⟨W.heap.size, 0, none⟩) 0 m) 0 (nums .u32 (us [])) :=
  World.ownsRow_made W _ m hb (by simpa [maxLen] using hm) (by rw [size_madeCells, Nat.mul_one])
theorem max_nat (ats : Array TypeId) (ty : TypeId) (a b : Nat) : Builtin.max_ ats ty #[.int .i64 (a : Int), .int .i64 (b : Int)] = pure (.int .i64 ((Nat.max a b : Nat) : Int)) := by
  simp only [Builtin.max_, List.foldlM_cons, List.foldlM_nil, Builtin.max2, gt_iff_lt]
  by_cases h : (a : Int) < (b : Int)
  · rw [if_pos h]; rw [show Nat.max a b = b from Nat.max_eq_right (by omega)]; rfl
  · rw [if_neg h]; rw [show Nat.max a b = a from Nat.max_eq_left (by omega)]; rfl
attribute [local go_sem] max_nat
theorem plus_step {ls X Y : List Nat} {k cv : Nat} (hl : ls.length = k) (hd : Dig ls) (hv : val ls + BW ^ k * cv = val (X.take k) + val (Y.take k)) :
    (ls ++ [(cv + X.getD k 0 + Y.getD k 0) % BW]).length = k + 1 ∧ Dig (ls ++ [(cv + X.getD k 0 + Y.getD k 0) % BW]) ∧ val (ls ++ [(cv + X.getD k 0 + Y.getD k 0) % BW]) + BW ^ (k + 1) * ((cv + X.getD k 0 + Y.getD k 0) / BW) = val (X.take (k + 1)) + val (Y.take (k + 1)) := by
  refine ⟨by simp [hl], hd.snoc (Nat.mod_lt _ BW_pos), ?_⟩
  rw [val_snoc, val_take_step, val_take_step, hl, Nat.pow_succ, Nat.mul_assoc, Nat.add_assoc, ← Nat.mul_add, Nat.mod_add_div, Nat.mul_add, Nat.mul_add]
  omega
theorem own_wds {W : World} {b k : Nat} {v : Value} {ls : List Nat} (h : W.ownsRow b 100 1 v k (nums .u32 (us ls))) : ∃ A n c, v = .slice A n c ∧ Wds W A n c ls := by
  obtain ⟨A, c, rfl, h2⟩ := own_reads h
  exact ⟨A, _, c, rfl, h2, own_le h⟩
theorem wrap64 {a : Nat} (h : a < 18446744073709551616) : IntKind.u64.wrap (a : Int) = (a : Int) := by
  simp only [IntKind.wrap, IntKind.signed, IntKind.bits]
  have : (a : Int) % 2 ^ 64 = (a : Int) := by omega
  simpa using this
set_option maxRecDepth 100000 in
set_option maxHeartbeats 1000000 in
theorem plus_any (A B : Option Addr) (n c m d x y : Nat) (w : World) (hx : Wds w A n c (dg x)) (hy : Wds w B m d (dg y)) (hn : n ≤ 1000000000) (hm : m ≤ 1000000000) :
    Calls Try.prog 121 #[.slice A n c, .slice B m d] w fun e w' => (∃ R r k, e = .returned (.slice R r k) ∧ Wds w' R r k (dg (x + y))) ∧ Below w.heap.size w w' := by
  have HX := Lib.hid hx
  have HY := Lib.hid hy
  clear hx hy
  obtain ⟨M, hM⟩ : ∃ M : Nat, Nat.max n m = M := ⟨_, rfl⟩
  have hMn : n ≤ M := hM ▸ Nat.le_max_left n m
  have hMm : m ≤ M := hM ▸ Nat.le_max_right n m
  have hMK : M ≤ 1000000000 := hM ▸ Nat.max_le.2 ⟨hn, hm⟩
  obtain ⟨K, hK⟩ : ∃ K : Int, (M : Int) + 1 = K := ⟨_, rfl⟩
  obtain ⟨K, rfl⟩ := Int.eq_ofNat_of_zero_le (show 0 ≤ K by omega)
  have HM : Hid (K = M + 1) := Lib.hid (by omega)
  have hmk := make36c K (by have := HM.out; omega)
  go_enter Try.func121, Try.ntmps121
  go_wp2
  go_loopw [5, 6, 7] (fun o cv i wr => ∃ (k : Nat) (ls : List Nat) (c : Nat), k ≤ M ∧ i = .int .i64 k ∧ cv = .int .u64 c ∧ c ≤ 1 ∧ Hid (ls.length = k ∧ Dig ls ∧ val ls + BW ^ k * c = val ((dg x).take k) + val ((dg y).take k)) ∧ Hid (Below w.heap.size w wr) ∧ Hid (wr.ownsRow w.heap.size 100 1 o (us ls).length (nums .u32 (us ls)))) (fun _ _ i _ => M - (intOf i).toNat)
  case atStart => exact ⟨0, [], 0, Nat.zero_le _, rfl, rfl, by omega, Lib.hid ⟨rfl, Dig.nil, by simp [val]⟩, Lib.hid ((Below.refl _ _).alloc (Nat.le_refl _) _), Lib.hid (own_room w _ K (Nat.le_refl _) (by have := HM.out; omega))⟩
  case round =>
    obtain ⟨k, ls, cv, hk, rfl, rfl, hcv, hI, hB, hO⟩ := hrel
    by_cases h1 : k < n
    · by_cases h2 : k < m
      · obtain ⟨ad, rfl, hc⟩ := (HX.out.below hB.out).at_ k h1
        obtain ⟨bd, rfl, hd⟩ := (HY.out.below hB.out).at_ k h2
        have hlt1 : decide ((k : Int) < (n : Int)) = true := by simp; omega
        have hlt2 : decide ((k : Int) < (m : Int)) = true := by simp; omega
        have ha : (dg x).getD k 0 < 4294967296 := (dg_dig x).at_ k
        have hb : (dg y).getD k 0 < 4294967296 := (dg_dig y).at_ k
        have HST := Lib.hid (plus_step (X := dg x) (Y := dg y) hI.out.1 hI.out.2.1 hI.out.2.2)
        generalize (dg x).getD k 0 = a at *
        have hwa : IntKind.u64.wrap (a : Int) = (a : Int) := wrap64 (by omega)
        generalize (dg y).getD k 0 = b at *
        have hwb : IntKind.u64.wrap (b : Int) = (b : Int) := wrap64 (by omega)
        obtain ⟨s1, hs1⟩ : ∃ s1, s1 = cv + a := ⟨_, rfl⟩
        have hw1 : IntKind.u64.wrap ((cv : Int) + (a : Int)) = (s1 : Int) := by rw [← Int.natCast_add, wrap64 (by omega), hs1]
        obtain ⟨s2, hs2⟩ : ∃ s2, s2 = s1 + b := ⟨_, rfl⟩
        have hw2 : IntKind.u64.wrap ((s1 : Int) + (b : Int)) = (s2 : Int) := by rw [← Int.natCast_add, wrap64 (by omega), hs2]
        have hS : cv + a + b = s2 := by omega
        rw [hS] at HST
        have hq1 : s2 / BW ≤ 1 := by rw [BW_eq]; omega
        clear hs1
        clear hs2
        clear hS ha hb
        have hlo : (s2 : Int) % 4294967296 = ((s2 % BW : Nat) : Int) := rfl
        have hdv : (s2 : Int) / 4294967296 = ((s2 / BW : Nat) : Int) := rfl
        generalize s2 % BW = lo at *
        generalize s2 / BW = dv at *
        go_wp2_with (at_builtin; go_must (refine print_append_num w.heap.size rfl (.tmp 49) (.tmp 52) 36 100 .u32 4 rfl Try.underlying36 info100 (by decide) _ (us ls) lo rfl rfl hO.out hB.out hB.out.size (by rw [us_len, hI.out.1]; omega) ?_); intro v1 w1 h1 h2 _ _; have HO1 := Lib.hid h1; clear h1; have HB1 := Lib.hid h2; clear h2)
        go_roundw
        case rel => exact ⟨k + 1, ls ++ [lo], dv, by omega, by go_num, rfl, hq1, HST, HB1, by rw [us_append]; exact HO1⟩
        case measure => simp [intOf]; omega
      · obtain ⟨ad, rfl, hc⟩ := (HX.out.below hB.out).at_ k h1
        have hlt1 : decide ((k : Int) < (n : Int)) = true := by simp; omega
        have hlt2 : decide ((k : Int) < (m : Int)) = false := by simp; omega
        have ha : (dg x).getD k 0 < 4294967296 := (dg_dig x).at_ k
        have hb : (dg y).getD k 0 < 4294967296 := (dg_dig y).at_ k
        have HST := Lib.hid (plus_step (X := dg x) (Y := dg y) hI.out.1 hI.out.2.1 hI.out.2.2)
        rw [getD_ge (show (dg y).length ≤ k by rw [HY.out.len]; omega)] at HST hb
        generalize (dg x).getD k 0 = a at *
        have hwa : IntKind.u64.wrap (a : Int) = (a : Int) := wrap64 (by omega)
        obtain ⟨s1, hs1⟩ : ∃ s1, s1 = cv + a := ⟨_, rfl⟩
        have hw1 : IntKind.u64.wrap ((cv : Int) + (a : Int)) = (s1 : Int) := by rw [← Int.natCast_add, wrap64 (by omega), hs1]
        obtain ⟨s2, hs2⟩ : ∃ s2, s2 = s1 := ⟨_, rfl⟩
        have hS : cv + a + 0 = s2 := by omega
        rw [hS] at HST
        have hq1 : s2 / BW ≤ 1 := by rw [BW_eq]; omega
        subst hs2
        clear hs1
        clear hS ha hb
        have hlo : (s2 : Int) % 4294967296 = ((s2 % BW : Nat) : Int) := rfl
        have hdv : (s2 : Int) / 4294967296 = ((s2 / BW : Nat) : Int) := rfl
        generalize s2 % BW = lo at *
        generalize s2 / BW = dv at *
        go_wp2_with (at_builtin; go_must (refine print_append_num w.heap.size rfl (.tmp 49) (.tmp 52) 36 100 .u32 4 rfl Try.underlying36 info100 (by decide) _ (us ls) lo rfl rfl hO.out hB.out hB.out.size (by rw [us_len, hI.out.1]; omega) ?_); intro v1 w1 h1 h2 _ _; have HO1 := Lib.hid h1; clear h1; have HB1 := Lib.hid h2; clear h2)
        go_roundw
        case rel => exact ⟨k + 1, ls ++ [lo], dv, by omega, by go_num, rfl, hq1, HST, HB1, by rw [us_append]; exact HO1⟩
        case measure => simp [intOf]; omega
    · by_cases h2 : k < m
      · obtain ⟨bd, rfl, hd⟩ := (HY.out.below hB.out).at_ k h2
        have hlt1 : decide ((k : Int) < (n : Int)) = false := by simp; omega
        have hlt2 : decide ((k : Int) < (m : Int)) = true := by simp; omega
        have ha : (dg x).getD k 0 < 4294967296 := (dg_dig x).at_ k
        have hb : (dg y).getD k 0 < 4294967296 := (dg_dig y).at_ k
        have HST := Lib.hid (plus_step (X := dg x) (Y := dg y) hI.out.1 hI.out.2.1 hI.out.2.2)
        rw [getD_ge (show (dg x).length ≤ k by rw [HX.out.len]; omega)] at HST ha
        generalize (dg y).getD k 0 = b at *
        have hwb : IntKind.u64.wrap (b : Int) = (b : Int) := wrap64 (by omega)
        obtain ⟨s1, hs1⟩ : ∃ s1, s1 = cv := ⟨_, rfl⟩
        obtain ⟨s2, hs2⟩ : ∃ s2, s2 = s1 + b := ⟨_, rfl⟩
        have hw2 : IntKind.u64.wrap ((s1 : Int) + (b : Int)) = (s2 : Int) := by rw [← Int.natCast_add, wrap64 (by omega), hs2]
        have hS : cv + 0 + b = s2 := by omega
        rw [hS] at HST
        have hq1 : s2 / BW ≤ 1 := by rw [BW_eq]; omega
        subst hs1
        clear hs2
        clear hS ha hb
        have hlo : (s2 : Int) % 4294967296 = ((s2 % BW : Nat) : Int) := rfl
        have hdv : (s2 : Int) / 4294967296 = ((s2 / BW : Nat) : Int) := rfl
        generalize s2 % BW = lo at *
        generalize s2 / BW = dv at *
        go_wp2_with (at_builtin; go_must (refine print_append_num w.heap.size rfl (.tmp 49) (.tmp 52) 36 100 .u32 4 rfl Try.underlying36 info100 (by decide) _ (us ls) lo rfl rfl hO.out hB.out hB.out.size (by rw [us_len, hI.out.1]; omega) ?_); intro v1 w1 h1 h2 _ _; have HO1 := Lib.hid h1; clear h1; have HB1 := Lib.hid h2; clear h2)
        go_roundw
        case rel => exact ⟨k + 1, ls ++ [lo], dv, by omega, by go_num, rfl, hq1, HST, HB1, by rw [us_append]; exact HO1⟩
        case measure => simp [intOf]; omega
      · have hlt1 : decide ((k : Int) < (n : Int)) = false := by simp; omega
        have hlt2 : decide ((k : Int) < (m : Int)) = false := by simp; omega
        have hlo : (cv : Int) % 4294967296 = (cv : Int) := by omega
        have HV : Hid (val (ls ++ [cv]) = x + y) := Lib.hid (by
          rw [val_snoc, hI.out.1, hI.out.2.2, val_take_le (by rw [HX.out.len]; omega), val_take_le (by rw [HY.out.len]; omega), val_dg, val_dg])
        have HD : Hid (Dig (ls ++ [cv])) := Lib.hid (hI.out.2.1.snoc (by rw [BW_eq]; omega))
        go_wp2_with (first
          | (at_builtin; go_must (refine print_append_num w.heap.size rfl (.tmp 56) (.tmp 59) 36 100 .u32 4 rfl Try.underlying36 info100 (by decide) _ (us ls) cv rfl rfl hO.out hB.out hB.out.size (by rw [us_len, hI.out.1]; omega) ?_); intro v1 w1 h1 h2 _ _; obtain ⟨A1, n1, c1, rfl, h3⟩ := own_wds (ls := ls ++ [cv]) (by rw [us_append]; exact h1); have HW1 := Lib.hid h3; clear h1 h3; have HB1 := Lib.hid h2; clear h2)
          | (go_at_call 107; refine (trim_any _ _ _ _ HD.out _ HW1.out).mono ?_; rintro e w' ⟨⟨r, rfl, h4⟩, rfl⟩; rw [HV.out] at h4; have HR := Lib.hid h4; clear h4))
        go_ret
        exact ⟨⟨_, _, _, rfl, HR.out⟩, HB1.out⟩
end Go.Proofs.Ythhgjloephkpaaa
namespace Go.Proofs.Ythhgjloephkpaaa
set_option linter.unusedVariables false
set_option linter.unusedSimpArgs false
open Go Go.RowKit Go.Proofs.YthhgjloephkpaaaW.PrintWords Go.Proofs.YthhgjloephkpaaaW.PrintLast

theorem wrap64i (z : Int) : IntKind.u64.wrap z = z % 18446744073709551616 := by
  simp only [IntKind.wrap, IntKind.signed, IntKind.bits]
  rfl
theorem less_step {ls X Y : List Nat} {k cv : Nat} (hl : ls.length = k) (hd : Dig ls) (hv : val ls + val (Y.take k) = val (X.take k) + BW ^ k * cv) {lo cv' : Nat} (hlo : lo < BW) (h : X.getD k 0 + BW * cv' = lo + Y.getD k 0 + cv) :
    (ls ++ [lo]).length = k + 1 ∧ Dig (ls ++ [lo]) ∧ val (ls ++ [lo]) + val (Y.take (k + 1)) = val (X.take (k + 1)) + BW ^ (k + 1) * cv' := by
  refine ⟨by simp [hl], hd.snoc hlo, ?_⟩
  rw [val_snoc, val_take_step, val_take_step, hl, Nat.pow_succ, Nat.mul_assoc]
  have h2 := congrArg (BW ^ k * ·) h
  simp only [Nat.mul_add] at h2
  omega
theorem less_end {ls : List Nat} {x y n cv : Nat} (hl : ls.length = n) (hd : Dig ls) (hv : val ls + y = x + BW ^ n * cv) (hyx : y ≤ x) : val ls = x - y := by
  have h1 := val_lt hd
  rw [hl] at h1
  cases cv with
  | zero => omega
  | succ c => rw [Nat.mul_succ] at hv; have := Nat.zero_le (BW ^ n * c); omega

set_option maxRecDepth 100000 in
set_option maxHeartbeats 1000000 in
theorem less_any (A B : Option Addr) (n c m d x y : Nat) (w : World) (hx : Wds w A n c (dg x)) (hy : Wds w B m d (dg y)) (hn : n ≤ 1000000000) (hyx : y ≤ x) :
    Calls Try.prog 122 #[.slice A n c, .slice B m d] w fun e w' => (∃ R r k, e = .returned (.slice R r k) ∧ Wds w' R r k (dg (x - y))) ∧ Below w.heap.size w w' := by
  have HX := Lib.hid hx
  have HY := Lib.hid hy
  have hmn : m ≤ n := by rw [← hx.len, ← hy.len]; exact dg_len_mono hyx
  clear hx hy
  have HYX := Lib.hid hyx
  clear hyx
  have hmk := make36c n (by omega)
  go_enter Try.func122, Try.ntmps122
  go_wp2
  go_loopw [5, 6, 7] (fun o cv i wr => ∃ (k : Nat) (ls : List Nat) (c : Nat), k ≤ n ∧ i = .int .i64 k ∧ cv = .int .u64 c ∧ c ≤ 1 ∧ Hid (ls.length = k ∧ Dig ls ∧ val ls + val ((dg y).take k) = val ((dg x).take k) + BW ^ k * c) ∧ Hid (Below w.heap.size w wr) ∧ Hid (wr.ownsRow w.heap.size 100 1 o (us ls).length (nums .u32 (us ls)))) (fun _ _ i _ => n - (intOf i).toNat)
  case atStart => exact ⟨0, [], 0, Nat.zero_le _, rfl, rfl, by omega, Lib.hid ⟨rfl, Dig.nil, by simp [val]⟩, Lib.hid ((Below.refl _ _).alloc (Nat.le_refl _) _), Lib.hid (own_room w _ n (Nat.le_refl _) (by omega))⟩
  case round =>
    obtain ⟨k, ls, cv, hk, rfl, rfl, hcv, hI, hB, hO⟩ := hrel
    by_cases h1 : k < n
    · obtain ⟨ad, rfl, hc⟩ := (HX.out.below hB.out).at_ k h1
      by_cases h2 : k < m
      · obtain ⟨bd, rfl, hd⟩ := (HY.out.below hB.out).at_ k h2
        have hlt1 : decide ((k : Int) < (n : Int)) = true := by simp; omega
        have hlt2 : decide ((k : Int) < (m : Int)) = true := by simp; omega
        have ha : (dg x).getD k 0 < 4294967296 := (dg_dig x).at_ k
        have hb : (dg y).getD k 0 < 4294967296 := (dg_dig y).at_ k
        have hst := fun (lo cv' : Nat) => less_step (lo := lo) (cv' := cv') (X := dg x) (Y := dg y) hI.out.1 hI.out.2.1 hI.out.2.2
        generalize (dg x).getD k 0 = a at *
        generalize (dg y).getD k 0 = b at *
        have hwa : IntKind.u64.wrap (a : Int) = (a : Int) := wrap64 (by omega)
        have hwb : IntKind.u64.wrap (b : Int) = (b : Int) := wrap64 (by omega)
        obtain ⟨s1, hs1⟩ : ∃ s1, s1 = (a + (18446744073709551616 - cv)) % 18446744073709551616 := ⟨_, rfl⟩
        have hw1 : IntKind.u64.wrap ((a : Int) - (cv : Int)) = (s1 : Int) := by rw [wrap64i]; omega
        obtain ⟨s2, hs2⟩ : ∃ s2, s2 = (s1 + (18446744073709551616 - b)) % 18446744073709551616 := ⟨_, rfl⟩
        have hw2 : IntKind.u64.wrap ((s1 : Int) - (b : Int)) = (s2 : Int) := by rw [wrap64i]; omega
        have hlo : (s2 : Int) % 4294967296 = ((s2 % BW : Nat) : Int) := rfl
        have hdv : (s2 : Int) / 9223372036854775808 = ((s2 / 9223372036854775808 : Nat) : Int) := rfl
        have hq1 : s2 / 9223372036854775808 ≤ 1 := by omega
        have HST := Lib.hid (hst (s2 % BW) (s2 / 9223372036854775808) (Nat.mod_lt _ BW_pos) (by rw [BW_eq]; omega))
        clear hst hs1 ha hb hs2
        generalize s2 % BW = lo at *
        generalize s2 / 9223372036854775808 = dv at *
        go_wp2_with (at_builtin; go_must (refine print_append_num w.heap.size rfl (.tmp 36) (.tmp 39) 36 100 .u32 4 rfl Try.underlying36 info100 (by decide) _ (us ls) lo rfl rfl hO.out hB.out hB.out.size (by rw [us_len, hI.out.1]; omega) ?_); intro v1 w1 h1 h2 _ _; have HO1 := Lib.hid h1; clear h1; have HB1 := Lib.hid h2; clear h2)
        go_roundw
        case rel => exact ⟨k + 1, ls ++ [lo], dv, by omega, by go_num, rfl, hq1, HST, HB1, by rw [us_append]; exact HO1⟩
        case measure => simp [intOf]; omega
      · have hlt1 : decide ((k : Int) < (n : Int)) = true := by simp; omega
        have hlt2 : decide ((k : Int) < (m : Int)) = false := by simp; omega
        have ha : (dg x).getD k 0 < 4294967296 := (dg_dig x).at_ k
        have hb : (dg y).getD k 0 < 4294967296 := (dg_dig y).at_ k
        have hst := fun (lo cv' : Nat) => less_step (lo := lo) (cv' := cv') (X := dg x) (Y := dg y) hI.out.1 hI.out.2.1 hI.out.2.2
        rw [getD_ge (show (dg y).length ≤ k by rw [HY.out.len]; omega)] at hst hb
        generalize (dg x).getD k 0 = a at *
        have hwa : IntKind.u64.wrap (a : Int) = (a : Int) := wrap64 (by omega)
        obtain ⟨s1, hs1⟩ : ∃ s1, s1 = (a + (18446744073709551616 - cv)) % 18446744073709551616 := ⟨_, rfl⟩
        have hw1 : IntKind.u64.wrap ((a : Int) - (cv : Int)) = (s1 : Int) := by rw [wrap64i]; omega
        have hlo : (s1 : Int) % 4294967296 = ((s1 % BW : Nat) : Int) := rfl
        have hdv : (s1 : Int) / 9223372036854775808 = ((s1 / 9223372036854775808 : Nat) : Int) := rfl
        have hq1 : s1 / 9223372036854775808 ≤ 1 := by omega
        have HST := Lib.hid (hst (s1 % BW) (s1 / 9223372036854775808) (Nat.mod_lt _ BW_pos) (by rw [BW_eq]; omega))
        clear hst hs1 ha hb
        generalize s1 % BW = lo at *
        generalize s1 / 9223372036854775808 = dv at *
        go_wp2_with (at_builtin; go_must (refine print_append_num w.heap.size rfl (.tmp 36) (.tmp 39) 36 100 .u32 4 rfl Try.underlying36 info100 (by decide) _ (us ls) lo rfl rfl hO.out hB.out hB.out.size (by rw [us_len, hI.out.1]; omega) ?_); intro v1 w1 h1 h2 _ _; have HO1 := Lib.hid h1; clear h1; have HB1 := Lib.hid h2; clear h2)
        go_roundw
        case rel => exact ⟨k + 1, ls ++ [lo], dv, by omega, by go_num, rfl, hq1, HST, HB1, by rw [us_append]; exact HO1⟩
        case measure => simp [intOf]; omega
    · obtain rfl : k = n := by omega
      have hlt1 : decide ((k : Int) < (k : Int)) = false := by simp
      have HV : Hid (val ls = x - y) := Lib.hid (less_end hI.out.1 hI.out.2.1 (by
        have h := hI.out.2.2
        rwa [val_take_le (by rw [HY.out.len]; omega), val_take_le (by rw [HX.out.len]; omega), val_dg, val_dg] at h) HYX.out)
      obtain ⟨A1, n1, c1, rfl, h3⟩ := own_wds hO.out
      have HW1 := Lib.hid h3
      clear h3
      go_wp2_with (go_at_call 107; refine (trim_any _ _ _ _ hI.out.2.1 _ HW1.out).mono ?_; rintro e w' ⟨⟨r, rfl, h4⟩, rfl⟩; rw [HV.out] at h4; have HR := Lib.hid h4; clear h4)
      go_ret
      exact ⟨⟨_, _, _, rfl, HR.out⟩, hB.out⟩

set_option maxRecDepth 100000 in
set_option maxHeartbeats 1000000 in
theorem subWords_any (A B : Option Addr) (n c m d x y : Nat) (w : World) (hx : Wds w A n c (dg x)) (hy : Wds w B m d (dg y)) (hn : n ≤ 1000000000) (hyx : y ≤ x) :
    Calls Try.prog 115 #[.slice A n c, .slice B m d] w fun e w' => (∃ R r k ls, e = .returned (.slice R r k) ∧ Wds w' R r k ls ∧ Dig ls ∧ val ls = x - y) ∧ Below w.heap.size w w' := by
  have HX := Lib.hid hx
  have HY := Lib.hid hy
  have hmn : m ≤ n := by rw [← hx.len, ← hy.len]; exact dg_len_mono hyx
  clear hx hy
  have HYX := Lib.hid hyx
  clear hyx
  have hmk := make36c n (by omega)
  go_enter Try.func115, Try.ntmps115
  go_wp2
  go_loopw [5, 6, 14] (fun o cv i wr => ∃ (k : Nat) (ls : List Nat) (c : Nat), k ≤ n ∧ i = .int .i64 k ∧ cv = .int .i64 c ∧ c ≤ 1 ∧ Hid (ls.length = k ∧ Dig ls ∧ val ls + val ((dg y).take k) = val ((dg x).take k) + BW ^ k * c) ∧ Hid (Below w.heap.size w wr) ∧ Hid (wr.ownsRow w.heap.size 100 1 o (us ls).length (nums .u32 (us ls)))) (fun _ _ i _ => n - (intOf i).toNat)
  case atStart => exact ⟨0, [], 0, Nat.zero_le _, rfl, rfl, by omega, Lib.hid ⟨rfl, Dig.nil, by simp [val]⟩, Lib.hid ((Below.refl _ _).alloc (Nat.le_refl _) _), Lib.hid (own_room w _ n (Nat.le_refl _) (by omega))⟩
  case round =>
    obtain ⟨k, ls, cv, hk, rfl, rfl, hcv, hI, hB, hO⟩ := hrel
    by_cases h1 : k < n
    · obtain ⟨ad, rfl, hc⟩ := (HX.out.below hB.out).at_ k h1
      by_cases h2 : k < m
      · obtain ⟨bd, rfl, hd⟩ := (HY.out.below hB.out).at_ k h2
        have hlt1 : decide ((k : Int) < (n : Int)) = true := by simp; omega
        have hlt2 : decide ((k : Int) < (m : Int)) = true := by simp; omega
        have ha : (dg x).getD k 0 < 4294967296 := (dg_dig x).at_ k
        have hb : (dg y).getD k 0 < 4294967296 := (dg_dig y).at_ k
        have hst := fun (lo cv' : Nat) => less_step (lo := lo) (cv' := cv') (X := dg x) (Y := dg y) hI.out.1 hI.out.2.1 hI.out.2.2
        generalize (dg x).getD k 0 = a at *
        generalize (dg y).getD k 0 = b at *
        by_cases hneg : (a : Int) - (cv : Int) - (b : Int) < 0
        · have hng : decide ((a : Int) - (cv : Int) - (b : Int) < 0) = true := by simp; omega
          obtain ⟨lo, hlo3⟩ : ∃ lo : Nat, (lo : Int) = (a : Int) - (cv : Int) - (b : Int) + 4294967296 := ⟨((a : Int) - (cv : Int) - (b : Int) + 4294967296).toNat, by omega⟩
          have hlo : ((a : Int) - (cv : Int) - (b : Int)) % 4294967296 = (lo : Int) := by omega
          have hlo2 : ((a : Int) - (cv : Int) - (b : Int) + 4294967296) % 4294967296 = (lo : Int) := by omega
          have HST := Lib.hid (hst lo 1 (by rw [BW_eq]; omega) (by rw [BW_eq]; omega))
          clear hst hlo3 hneg
          go_wp2_with (at_builtin; go_must (refine print_append_num w.heap.size rfl (.tmp 39) (.tmp 42) 36 100 .u32 4 rfl Try.underlying36 info100 (by decide) _ (us ls) lo rfl rfl hO.out hB.out hB.out.size (by rw [us_len, hI.out.1]; omega) ?_); intro v1 w1 h1 h2 _ _; have HO1 := Lib.hid h1; clear h1; have HB1 := Lib.hid h2; clear h2)
          go_roundw
          case rel => exact ⟨k + 1, ls ++ [lo], 1, by omega, by go_num, rfl, by omega, HST, HB1, by rw [us_append]; exact HO1⟩
          case measure => simp [intOf]; omega
        · have hng : decide ((a : Int) - (cv : Int) - (b : Int) < 0) = false := by simp; omega
          obtain ⟨lo, hlo3⟩ : ∃ lo : Nat, (lo : Int) = (a : Int) - (cv : Int) - (b : Int) := ⟨((a : Int) - (cv : Int) - (b : Int)).toNat, by omega⟩
          have hlo : ((a : Int) - (cv : Int) - (b : Int)) % 4294967296 = (lo : Int) := by omega
          have HST := Lib.hid (hst lo 0 (by rw [BW_eq]; omega) (by rw [BW_eq]; omega))
          clear hst hlo3 hneg
          go_wp2_with (at_builtin; go_must (refine print_append_num w.heap.size rfl (.tmp 39) (.tmp 42) 36 100 .u32 4 rfl Try.underlying36 info100 (by decide) _ (us ls) lo rfl rfl hO.out hB.out hB.out.size (by rw [us_len, hI.out.1]; omega) ?_); intro v1 w1 h1 h2 _ _; have HO1 := Lib.hid h1; clear h1; have HB1 := Lib.hid h2; clear h2)
          go_roundw
          case rel => exact ⟨k + 1, ls ++ [lo], 0, by omega, by go_num, rfl, by omega, HST, HB1, by rw [us_append]; exact HO1⟩
          case measure => simp [intOf]; omega
      · have hlt1 : decide ((k : Int) < (n : Int)) = true := by simp; omega
        have hlt2 : decide ((k : Int) < (m : Int)) = false := by simp; omega
        have ha : (dg x).getD k 0 < 4294967296 := (dg_dig x).at_ k
        have hb : (dg y).getD k 0 < 4294967296 := (dg_dig y).at_ k
        have hst := fun (lo cv' : Nat) => less_step (lo := lo) (cv' := cv') (X := dg x) (Y := dg y) hI.out.1 hI.out.2.1 hI.out.2.2
        rw [getD_ge (show (dg y).length ≤ k by rw [HY.out.len]; omega)] at hst hb
        generalize (dg x).getD k 0 = a at *
        by_cases hneg : (a : Int) - (cv : Int) < 0
        · have hng : decide ((a : Int) - (cv : Int) < 0) = true := by simp; omega
          obtain ⟨lo, hlo3⟩ : ∃ lo : Nat, (lo : Int) = (a : Int) - (cv : Int) + 4294967296 := ⟨((a : Int) - (cv : Int) + 4294967296).toNat, by omega⟩
          have hlo : ((a : Int) - (cv : Int)) % 4294967296 = (lo : Int) := by omega
          have hlo2 : ((a : Int) - (cv : Int) + 4294967296) % 4294967296 = (lo : Int) := by omega
          have HST := Lib.hid (hst lo 1 (by rw [BW_eq]; omega) (by rw [BW_eq]; omega))
          clear hst hlo3 hneg
          go_wp2_with (at_builtin; go_must (refine print_append_num w.heap.size rfl (.tmp 39) (.tmp 42) 36 100 .u32 4 rfl Try.underlying36 info100 (by decide) _ (us ls) lo rfl rfl hO.out hB.out hB.out.size (by rw [us_len, hI.out.1]; omega) ?_); intro v1 w1 h1 h2 _ _; have HO1 := Lib.hid h1; clear h1; have HB1 := Lib.hid h2; clear h2)
          go_roundw
          case rel => exact ⟨k + 1, ls ++ [lo], 1, by omega, by go_num, rfl, by omega, HST, HB1, by rw [us_append]; exact HO1⟩
          case measure => simp [intOf]; omega
        · have hng : decide ((a : Int) - (cv : Int) < 0) = false := by simp; omega
          obtain ⟨lo, hlo3⟩ : ∃ lo : Nat, (lo : Int) = (a : Int) - (cv : Int) := ⟨((a : Int) - (cv : Int)).toNat, by omega⟩
          have hlo : ((a : Int) - (cv : Int)) % 4294967296 = (lo : Int) := by omega
          have HST := Lib.hid (hst lo 0 (by rw [BW_eq]; omega) (by rw [BW_eq]; omega))
          clear hst hlo3 hneg
          go_wp2_with (at_builtin; go_must (refine print_append_num w.heap.size rfl (.tmp 39) (.tmp 42) 36 100 .u32 4 rfl Try.underlying36 info100 (by decide) _ (us ls) lo rfl rfl hO.out hB.out hB.out.size (by rw [us_len, hI.out.1]; omega) ?_); intro v1 w1 h1 h2 _ _; have HO1 := Lib.hid h1; clear h1; have HB1 := Lib.hid h2; clear h2)
          go_roundw
          case rel => exact ⟨k + 1, ls ++ [lo], 0, by omega, by go_num, rfl, by omega, HST, HB1, by rw [us_append]; exact HO1⟩
          case measure => simp [intOf]; omega
    · obtain rfl : k = n := by omega
      have hlt1 : decide ((k : Int) < (k : Int)) = false := by simp
      have HV : Hid (val ls = x - y) := Lib.hid (less_end hI.out.1 hI.out.2.1 (by
        have h := hI.out.2.2
        rwa [val_take_le (by rw [HY.out.len]; omega), val_take_le (by rw [HX.out.len]; omega), val_dg, val_dg] at h) HYX.out)
      obtain ⟨A1, n1, c1, rfl, h3⟩ := own_wds hO.out
      have HW1 := Lib.hid h3
      clear h3
      go_wp2
      go_ret
      exact ⟨⟨_, _, _, _, rfl, HW1.out, hI.out.2.1, HV.out⟩, hB.out⟩
end Go.Proofs.Ythhgjloephkpaaa
namespace Go.Proofs.Ythhgjloephkpaaa
set_option linter.unusedVariables false
set_option linter.unusedSimpArgs false
open Go Go.RowKit Go.Proofs.YthhgjloephkpaaaW.PrintWords Go.Proofs.YthhgjloephkpaaaW.PrintLast

theorem own_get {W : World} {base g n cap : Nat} {e : TypeId} {k : IntKind} {xs : List Int} (h : W.ownsRow base e 1 (.slice (some ⟨g, 0, none⟩) n cap) n (nums k xs)) (i : Nat) (hi : i < n) : W.cell? ⟨g, i, none⟩ = some (.int k (xs.getD i 0)) ∧ W.frozen? ⟨g, i, none⟩ = false :=
  own_at h (i : Int) (by omega) (by omega)
theorem own_put {W : World} {base g n cap : Nat} {e : TypeId} {k : IntKind} {xs : List Int} (h : W.ownsRow base e 1 (.slice (some ⟨g, 0, none⟩) n cap) n (nums k xs)) (i : Nat) (x : Int) : (W.setCell ⟨g, i, none⟩ (.int k x)).ownsRow base e 1 (.slice (some ⟨g, 0, none⟩) n cap) n (nums k (xs.set i x)) ∧ W.grownBy (W.setCell ⟨g, i, none⟩ (.int k x)) (some g) :=
  own_store h (i : Int) x
/-- A row of one's own that holds words. -/
def Buf (b : Nat) (W : World) (g L : Nat) (ls : List Nat) : Prop := W.ownsRow b 100 1 (.slice (some ⟨g, 0, none⟩) L L) L (nums .u32 (us ls))
theorem us_set (l : List Nat) (i x : Nat) : us (l.set i x) = (us l).set i (x : Int) := List.map_set ..
theorem Buf.wds {b g L : Nat} {W : World} {ls : List Nat} (h : Buf b W g L ls) : Wds W (some ⟨g, 0, none⟩) L L ls := by
  obtain ⟨A, n, c, e, h2⟩ := own_wds h
  injection e with e1 e2 e3
  subst e1 e2 e3
  exact h2
theorem Buf.get {b g L : Nat} {W : World} {ls : List Nat} (h : Buf b W g L ls) (i : Nat) (hi : i < L) : W.cell? ⟨g, i, none⟩ = some (.int .u32 (ls.getD i 0 : Nat)) ∧ W.frozen? ⟨g, i, none⟩ = false := by
  have := own_get h i hi
  rwa [us_at] at this
theorem Buf.put {b g L : Nat} {W : World} {ls : List Nat} (h : Buf b W g L ls) (i x : Nat) : Buf b (W.setCell ⟨g, i, none⟩ (.int .u32 (x : Int))) g L (ls.set i x) := by
  have := (own_put h i (x : Int)).1
  rwa [← us_set] at this
theorem Buf.le {b g L : Nat} {W : World} {ls : List Nat} (h : Buf b W g L ls) : b ≤ g := own_base h g rfl
theorem Buf.put_below {b g L : Nat} {w W : World} {ls : List Nat} (h : Buf b W g L ls) (hB : Below b w W) (hs : b ≤ W.heap.size) (i x : Nat) : Below b w (W.setCell ⟨g, i, none⟩ (.int .u32 (x : Int))) :=
  hB.grown (own_put h i (x : Int)).2 hs (fun q hq => by injection hq with hq; subst hq; exact h.le)
theorem Buf.drewN {b g L : Nat} {W : World} {ls : List Nat} (h : Buf b W g L ls) (q : Nat) : Buf b (W.drewN q) g L ls := h
theorem us_repl (n : Nat) : us (List.replicate n 0) = List.replicate n 0 := by simp [us]
theorem buf_new (W : World) (b L : Nat) (hb : b ≤ W.heap.size) (hm : L ≤ 9223372036854775807) : Buf b (W.alloc (.cells (madeCells #[.int .u32 0] L) 100)) W.heap.size L (List.replicate L 0) := by
  unfold Buf
  rw [us_repl]
  exact own_made W b 100 .u32 L hb hm
theorem repl_dig (n : Nat) : Dig (List.replicate n 0) := fun x h => by rw [List.eq_of_mem_replicate h]; exact BW_pos
theorem repl_val : ∀ n : Nat, val (List.replicate n 0) = 0
  | 0 => rfl
  | n + 1 => by rw [List.replicate_succ, val_cons, repl_val n]; simp
theorem repl_at (n j : Nat) : (List.replicate n 0).getD j 0 = 0 := by
  rw [List.getD_eq_getElem?_getD, List.getElem?_replicate]
  split <;> rfl
theorem getD_set {l : List Nat} {p v j : Nat} : (l.set p v).getD j 0 = if p = j ∧ p < l.length then v else l.getD j 0 := by
  rw [List.getD_eq_getElem?_getD, List.getD_eq_getElem?_getD, List.getElem?_set]
  by_cases h : p = j
  · subst h
    by_cases h2 : p < l.length
    · simp [h2]
    · simp [h2]
  · simp [h]
theorem val_set : ∀ {l : List Nat} {p : Nat} (v : Nat), p < l.length → val (l.set p v) + BW ^ p * l.getD p 0 = val l + BW ^ p * v
  | x :: xs, 0, v, _ => by simp [val_cons]; omega
  | x :: xs, p + 1, v, h => by
    have := val_set (l := xs) (p := p) v (by simpa using h)
    rw [List.set_cons_succ, val_cons, val_cons, List.getD_cons_succ, Nat.pow_succ, Nat.mul_comm _ BW, Nat.mul_assoc, Nat.mul_assoc]
    have h2 := congrArg (BW * ·) this
    simp only [Nat.mul_add] at h2
    omega
/-- One step of the inner loop of a product. -/
theorem times_step {ls : List Nat} {b base p a cv V0 yk bk : Nat} (hd : Dig ls) (hp : p < ls.length) (ha : a < BW) (hbk : bk < BW) (hc : cv < BW) (hb : base + b = p)
    (hv : val ls + BW ^ p * cv = V0 + a * BW ^ base * yk) :
    Dig (ls.set p ((cv + (a * bk + ls.getD p 0)) % BW)) ∧ (cv + (a * bk + ls.getD p 0)) / BW < BW ∧ cv + (a * bk + ls.getD p 0) < 18446744073709551616 ∧ a * bk < 18446744073709551616 ∧ a * bk + ls.getD p 0 < 18446744073709551616 ∧
      val (ls.set p ((cv + (a * bk + ls.getD p 0)) % BW)) + BW ^ (p + 1) * ((cv + (a * bk + ls.getD p 0)) / BW) = V0 + a * BW ^ base * (yk + BW ^ b * bk) := by
  have h1 : a * bk ≤ (BW - 1) * (BW - 1) := Nat.mul_le_mul (by omega) (by omega)
  have h2 := hd.at_ p
  rw [show (BW - 1) * (BW - 1) = 18446744065119617025 from rfl] at h1
  rw [BW_eq] at ha hbk hc h2
  have h3 : cv + (a * bk + ls.getD p 0) < 18446744073709551616 := by omega
  refine ⟨hd.set p (Nat.mod_lt _ BW_pos), by rw [BW_eq]; omega, h3, by omega, by omega, ?_⟩
  have h4 := val_set (l := ls) (p := p) ((cv + (a * bk + ls.getD p 0)) % BW) hp
  generalize hS : cv + (a * bk + ls.getD p 0) = S at *
  have h5 : BW ^ (p + 1) * (S / BW) + BW ^ p * (S % BW) = BW ^ p * S := by
    rw [Nat.pow_succ, Nat.mul_assoc, ← Nat.mul_add, Nat.div_add_mod]
  have h6 : BW ^ p * S = BW ^ p * cv + (BW ^ p * (a * bk) + BW ^ p * ls.getD p 0) := by rw [← hS, Nat.mul_add, Nat.mul_add]
  have h7 : a * BW ^ base * (yk + BW ^ b * bk) = a * BW ^ base * yk + BW ^ p * (a * bk) := by
    rw [Nat.mul_add]
    congr 1
    rw [← hb, Nat.pow_add, Nat.mul_comm a, Nat.mul_assoc, Nat.mul_assoc]
    congr 1
    rw [← Nat.mul_assoc, Nat.mul_comm a, Nat.mul_assoc]
  omega
theorem times_row {ls X : List Nat} {i m p y cv V0 : Nat} (hd : Dig ls) (hp : p < ls.length) (hip : i + m = p) (hc : cv < BW) (h0 : ls.getD p 0 = 0) (hV0 : V0 = val (X.take i) * y)
    (hv : val ls + BW ^ p * cv = V0 + X.getD i 0 * BW ^ i * y) : Dig (ls.set p cv) ∧ val (ls.set p cv) = val (X.take (i + 1)) * y := by
  refine ⟨hd.set p hc, ?_⟩
  have h4 := val_set (l := ls) (p := p) cv hp
  rw [h0] at h4
  rw [val_take_step, Nat.add_mul, ← hV0, Nat.mul_comm (BW ^ i)]
  omega
end Go.Proofs.Ythhgjloephkpaaa
namespace Go.Proofs.Ythhgjloephkpaaa
set_option linter.unusedVariables false
set_option linter.unusedSimpArgs false
open Go Go.RowKit Go.Proofs.YthhgjloephkpaaaW.PrintWords Go.Proofs.YthhgjloephkpaaaW.PrintLast

set_option maxRecDepth 100000 in
set_option maxHeartbeats 2000000 in
theorem times_any (A B : Option Addr) (n c m d x y : Nat) (w : World) (hx : Wds w A n c (dg x)) (hy : Wds w B m d (dg y)) (hn : n ≤ 1000000000) (hm : m ≤ 1000000000) :
    Calls Try.prog 108 #[.slice A n c, .slice B m d] w fun e w' => (∃ R r k, e = .returned (.slice R r k) ∧ Wds w' R r k (dg (x * y))) ∧ Below w.heap.size w w' := by
  have HX := Lib.hid hx
  have HY := Lib.hid hy
  clear hx hy
  obtain ⟨L, hL⟩ : ∃ L : Int, (n : Int) + (m : Int) = L := ⟨_, rfl⟩
  obtain ⟨L, rfl⟩ := Int.eq_ofNat_of_zero_le (show 0 ≤ L by omega)
  have HL : Hid (n + m = L) := Lib.hid (by omega)
  have hmk := make36 L (by have := HL.out; omega)
  have HLm : Hid (L ≤ 2000000000) := Lib.hid (by omega)
  have hLm : L ≤ 2000000000 := HLm.out
  go_enter Try.func108, Try.ntmps108
  go_wp2
  go_loopw [6] (fun v wr => ∃ (i : Nat) (ls : List Nat), i ≤ n ∧ v = .int .i64 i ∧ Hid (ls.length = L ∧ Dig ls ∧ val ls = val ((dg x).take i) * y ∧ ∀ j, i + m ≤ j → ls.getD j 0 = 0) ∧ Hid (Below w.heap.size w wr) ∧ Hid (Buf w.heap.size wr w.heap.size L ls)) (fun v _ => n - (intOf v).toNat)
  case atStart => exact ⟨0, List.replicate L 0, Nat.zero_le _, rfl, Lib.hid ⟨by simp, repl_dig L, by rw [repl_val]; simp [val], fun j _ => repl_at L j⟩, Lib.hid ((Below.refl _ _).alloc (Nat.le_refl _) _), Lib.hid (buf_new w _ L (Nat.le_refl _) (by have := HLm.out; omega))⟩
  case round =>
    obtain ⟨i, ls, hi, rfl, hI, hB, hO⟩ := hrel
    by_cases h1 : i < n
    · have hlt1 : decide ((i : Int) < (n : Int)) = true := by simp; omega
      obtain ⟨V0, hV0⟩ : ∃ V0, val ls = V0 := ⟨_, rfl⟩
      have HV0 : Hid (V0 = val ((dg x).take i) * y) := Lib.hid (by rw [← hV0]; exact hI.out.2.2.1)
      obtain ⟨xi, hxi⟩ : ∃ xi, (dg x).getD i 0 = xi := ⟨_, rfl⟩
      have HXI := Lib.hid hxi
      have HXW : Hid (xi < BW) := Lib.hid (by rw [← hxi]; exact (dg_dig x).at_ i)
      have HINI : Hid (ls.length = L ∧ Dig ls ∧ val ls + BW ^ (i + 0) * 0 = V0 + xi * BW ^ i * val ((dg y).take 0) ∧ ∀ j, i + m ≤ j → ls.getD j 0 = 0) := Lib.hid ⟨hI.out.1, hI.out.2.1, by rw [hV0]; simp [val], hI.out.2.2.2⟩
      clear hV0 hxi
      go_wp2_with fail
      go_loopw [7, 8] (fun cv v wr => ∃ (k : Nat) (ls : List Nat) (c : Nat), k ≤ m ∧ v = .int .i64 k ∧ cv = .int .u64 c ∧ Hid (c < BW) ∧ Hid (ls.length = L ∧ Dig ls ∧ val ls + BW ^ (i + k) * c = V0 + xi * BW ^ i * val ((dg y).take k) ∧ ∀ j, i + m ≤ j → ls.getD j 0 = 0) ∧ Hid (Below w.heap.size w wr) ∧ Hid (Buf w.heap.size wr w.heap.size L ls)) (fun _ v _ => m - (intOf v).toNat)
      case atStart => exact ⟨0, ls, 0, Nat.zero_le _, rfl, rfl, Lib.hid BW_pos, HINI, hB, hO⟩
      case round =>
        clear hB hO hI HINI
        obtain ⟨k, ls, cv, hk, rfl, rfl, hcv, hI, hB, hO⟩ := hrel
        by_cases h2 : k < m
        · have hlt2 : decide ((k : Int) < (m : Int)) = true := by simp; omega
          obtain ⟨ad, rfl, hc⟩ := (HX.out.below hB.out).at_ i h1
          obtain ⟨bd, rfl, hd⟩ := (HY.out.below hB.out).at_ k h2
          obtain ⟨p, hp⟩ : ∃ p : Nat, (i : Int) + (k : Int) = (p : Int) := ⟨i + k, by omega⟩
          have hpL : p < L := by have := HL.out; omega
          have HP : Hid (i + k = p) := Lib.hid (by omega)
          have hpL2 : (p : Int) < (L : Int) := by omega
          obtain ⟨ho, hfr⟩ := hO.out.get p hpL
          have HST := Lib.hid (times_step (ls := ls) (b := k) (base := i) (p := p) (a := xi) (cv := cv) (V0 := V0) (yk := val ((dg y).take k)) (bk := (dg y).getD k 0) hI.out.2.1 (by rw [hI.out.1]; exact hpL) HXW.out ((dg_dig y).at_ k) hcv.out HP.out (by rw [← HP.out]; exact hI.out.2.2.1))
          rw [HXI.out] at hc
          have HYK := Lib.hid (val_take_step (dg y) k)
          have hb : (dg y).getD k 0 < 4294967296 := (dg_dig y).at_ k
          have hx4 : xi < 4294967296 := HXW.out
          have hov : ls.getD p 0 < 4294967296 := hI.out.2.1.at_ p
          have HZ : Hid (∀ v j, i + m ≤ j → (ls.set p v).getD j 0 = 0) := Lib.hid (fun v j hj => by
            rw [getD_set, if_neg (by have := HP.out; omega)]; exact hI.out.2.2.2 j hj)
          have HLs : Hid (∀ v, (ls.set p v).length = L) := Lib.hid (fun v => by rw [List.length_set]; exact hI.out.1)
          have HOP : Hid (∀ q v, Buf w.heap.size ((wr.drewN q).setCell ⟨w.heap.size, p, none⟩ (.int .u32 ((v : Nat) : Int))) w.heap.size L (ls.set p v)) := Lib.hid (fun q v => (hO.out.drewN q).put p v)
          have HBP : Hid (∀ q (v : Nat), Below w.heap.size w ((wr.drewN q).setCell ⟨w.heap.size, p, none⟩ (.int .u32 (v : Int)))) := Lib.hid (fun q v => (hO.out.drewN q).put_below (pw_below_drewN hB.out q) hB.out.size p v)
          generalize (dg y).getD k 0 = b at *
          generalize ls.getD p 0 = ov at *
          have hwx : IntKind.u64.wrap (xi : Int) = (xi : Int) := wrap64 (by omega)
          have hwb : IntKind.u64.wrap (b : Int) = (b : Int) := wrap64 (by omega)
          have hwo : IntKind.u64.wrap (ov : Int) = (ov : Int) := wrap64 (by omega)
          obtain ⟨pr, hpr⟩ : ∃ pr, xi * b = pr := ⟨_, rfl⟩
          rw [hpr] at HST
          obtain ⟨s1, hs1⟩ : ∃ s1, pr + ov = s1 := ⟨_, rfl⟩
          rw [hs1] at HST
          obtain ⟨s2, hs2⟩ : ∃ s2, cv + s1 = s2 := ⟨_, rfl⟩
          rw [hs2] at HST
          have hwp : IntKind.u64.wrap ((xi : Int) * (b : Int)) = (pr : Int) := by rw [← Int.natCast_mul, hpr]; exact wrap64 HST.out.2.2.2.1
          have hw1 : IntKind.u64.wrap ((pr : Int) + (ov : Int)) = (s1 : Int) := by rw [← Int.natCast_add, hs1]; exact wrap64 HST.out.2.2.2.2.1
          have hw2 : IntKind.u64.wrap ((cv : Int) + (s1 : Int)) = (s2 : Int) := by rw [← Int.natCast_add, hs2]; exact wrap64 HST.out.2.2.1
          have HPR := Lib.hid hpr
          clear hpr hs1 hs2 hx4 hov hb
          have hlo : (s2 : Int) % 4294967296 = ((s2 % BW : Nat) : Int) := rfl
          have hdv : (s2 : Int) / 4294967296 = ((s2 / BW : Nat) : Int) := rfl
          generalize s2 % BW = lo at *
          generalize s2 / BW = dv at *
          go_wp2
          go_quiet (fail)
          go_wp2
          go_roundw
          case rel => exact ⟨k + 1, ls.set p lo, dv, by omega, by go_num, rfl, Lib.hid HST.out.2.1, Lib.hid ⟨HLs.out _, HST.out.1, by rw [HYK.out, ← Nat.add_assoc, HP.out]; exact HST.out.2.2.2.2.2, HZ.out _⟩, Lib.hid (HBP.out _ _), Lib.hid (HOP.out _ _)⟩
          case measure => simp [intOf]; omega
        · obtain rfl : k = m := by omega
          have hlt2 : decide ((k : Int) < (k : Int)) = false := by simp
          obtain ⟨p, hp⟩ : ∃ p : Nat, (i : Int) + (k : Int) = (p : Int) := ⟨i + k, by omega⟩
          have hpL : p < L := by have := HL.out; omega
          have HP : Hid (i + k = p) := Lib.hid (by omega)
          have hpL2 : (p : Int) < (L : Int) := by omega
          obtain ⟨ho, hfr⟩ := hO.out.get p hpL
          have hV : val ls + BW ^ p * cv = V0 + (dg x).getD i 0 * BW ^ i * y := by
            have h := hI.out.2.2.1
            rwa [val_take_le (by rw [HY.out.len]; exact Nat.le_refl _), val_dg, HP.out, ← HXI.out] at h
          have HROW := Lib.hid (times_row hI.out.2.1 (by rw [hI.out.1]; exact hpL) HP.out hcv.out (hI.out.2.2.2 p (by have := HP.out; omega)) HV0.out hV)
          clear hV
          have HZ : Hid (∀ v j, i + 1 + k ≤ j → (ls.set p v).getD j 0 = 0) := Lib.hid (fun v j hj => by
            rw [getD_set, if_neg (by have := HP.out; omega)]; exact hI.out.2.2.2 j (by omega))
          have HLs : Hid (∀ v, (ls.set p v).length = L) := Lib.hid (fun v => by rw [List.length_set]; exact hI.out.1)
          have HOP : Hid (∀ v, Buf w.heap.size (wr.setCell ⟨w.heap.size, p, none⟩ (.int .u32 ((v : Nat) : Int))) w.heap.size L (ls.set p v)) := Lib.hid (fun v => hO.out.put p v)
          have HBP : Hid (∀ (v : Nat), Below w.heap.size w (wr.setCell ⟨w.heap.size, p, none⟩ (.int .u32 (v : Int)))) := Lib.hid (fun v => hO.out.put_below hB.out hB.out.size p v)
          have hlo : (cv : Int) % 4294967296 = (cv : Int) := by have : cv < 4294967296 := hcv.out; omega
          go_wp2_with fail
          go_roundw
          case rel => exact ⟨i + 1, ls.set p cv, by omega, by go_num, Lib.hid ⟨HLs.out _, HROW.out.1, HROW.out.2, HZ.out _⟩, Lib.hid (HBP.out _), Lib.hid (HOP.out _)⟩
          case measure => simp [intOf]; omega
    · obtain rfl : i = n := by omega
      have hlt1 : decide ((i : Int) < (i : Int)) = false := by simp
      have HV : Hid (val ls = x * y) := Lib.hid (by rw [hI.out.2.2.1, val_take_le (by rw [HX.out.len]; exact Nat.le_refl _), val_dg])
      have HW1 := Lib.hid hO.out.wds
      go_wp2_with (go_at_call 107; refine (trim_any _ _ _ _ hI.out.2.1 _ HW1.out).mono ?_; rintro e w' ⟨⟨r, rfl, h4⟩, rfl⟩; rw [HV.out] at h4; have HR := Lib.hid h4; clear h4)
      go_ret
      exact ⟨⟨_, _, _, rfl, HR.out⟩, hB.out⟩
end Go.Proofs.Ythhgjloephkpaaa
