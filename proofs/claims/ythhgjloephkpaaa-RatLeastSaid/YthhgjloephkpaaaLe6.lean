/- Words and walks for the row RowRatLeast, put together: LX7, LX8, LX9, RL, RUX. -/
import Derived.Test.YthhgjloephkpaaaLe5
import Derived.Test.YthhgjloephkpaaaLe4
namespace Go.Proofs.Ythhgjloephkpaaa.Lx
set_option linter.unusedVariables false
set_option linter.unusedSimpArgs false
open Go Go.RowKit Go.Proofs.Ythhgjloephkpaaa Go.Proofs.YthhgjloephkpaaaW.PrintWords Go.Proofs.YthhgjloephkpaaaW.PrintLast

def Ev.nm (p : Nat → Bool) : Ev → Bool
  | .val v => v.nm p
  | .box nm ty l => l.all (SV.nm p)
  | .sto b ty l => l.all (SV.nm p)
def evNm (S : SS) : Ev → Bool
  | .val v => v.nm fun b => Nat.blt b S.nx
  | .box nm ty l => Nat.beq nm S.nx && okNm S l
  | .sto b ty l => okNm S l
def opHint (d : Nat) : Tr → Option (TV × Tr)
  | .op d' v k => match Nat.beq d d' with
    | true => some (v, k)
    | false => none
  | _ => none
def step1 (P : Program) (ops : Array Oper) (o : Oper) (T : Tr) (S : SS) (K : Tr → It → Prop) : Prop :=
  match wantedS ops S o, okDst S o with
  | some false, true => K T ⟨o, false, none, .val (.tup [])⟩
  | some true, true => match opHint (o.dst.getD 1000000) T with
    | some (v, k) => OpGives P S o v ∧ hint (o.dst.getD 1000000) k v fun T' v' => K T' ⟨o, true, none, .val v'⟩
    | none => match evalOp P S o with
    | some (rb, .pure v) => hint (o.dst.getD 1000000) T v fun T' v' => K T' ⟨o, true, rb, .val v'⟩
    | some (rb, .alloc ty l) => match o.dst with
      | some _ => K T ⟨o, true, rb, .box S.nx ty l⟩
      | none => False
    | some (rb, .store b ty l) => K T ⟨o, true, rb, .sto b ty l⟩
    | some (rb, .call f args) => match T with
      | .res d r k => match Nat.beq d (o.dst.getD 1000000) with
        | true => Spec P f args r ∧ hint d k r fun T' v' => K T' ⟨o, true, rb, .val v'⟩
        | false => False
      | _ => False
    | none => False
  | _, _ => False
def runR (P : Program) (ops : Array Oper) : List Oper → Tr → SS → List It → (Tr → SS → List It → Prop) → Prop
  | [], T, S, its, K => K T S its
  | o :: l, T, S, its, K => step1 P ops o T S fun T' it => match evNm S it.ev with
    | true => runR P ops l T' (S.app o.dst it.ev) (it :: its) K
    | false => False
def Chain (P : Program) (ops : Array Oper) : SS → List It → SS → Prop
  | S, [], S' => S = S'
  | S, it :: l, S' => ItOk P ops S it ∧ evNm S it.ev = true ∧ Chain P ops (S.app it.o.dst it.ev) l S'
section
variable {P : Program} {ops : Array Oper} {w0 : World} {s0 : Kst} {Q : Exit → Act → World → Prop}
theorem step1_sound {o : Oper} {T : Tr} {S : SS} {K : Tr → It → Prop} (h : step1 P ops o T S K) : ∃ T' it, it.o = o ∧ ItOk P ops S it ∧ K T' it := by
  unfold step1 at h
  split at h
  · rename_i hw hd
    exact ⟨T, _, rfl, ⟨hd, hw, fun _ => ⟨rfl, rfl⟩, fun h => by cases h⟩, h⟩
  · rename_i hw hd
    split at h
    · rename_i v k _
      obtain ⟨T', v', h1, h2⟩ := hint_sound h.2
      exact ⟨T', _, rfl, ⟨hd, hw, (fun h => Bool.noConfusion h), fun _ => .inl ⟨rfl, v, v', h.1, h1, rfl⟩⟩, h2⟩
    split at h
    · rename_i rb v he
      obtain ⟨T', v', h1, h2⟩ := hint_sound h
      exact ⟨T', _, rfl, ⟨hd, hw, (fun h => Bool.noConfusion h), fun _ => .inr ⟨.pure v, he, v', h1, rfl⟩⟩, h2⟩
    · rename_i rb ty l he
      split at h
      · rename_i d hdd
        exact ⟨T, _, rfl, ⟨hd, hw, (fun h => Bool.noConfusion h), fun _ => .inr ⟨.alloc ty l, he, by rw [hdd]; rfl, _, rfl⟩⟩, h⟩
      · cases h
    · rename_i rb b ty l he
      exact ⟨T, _, rfl, ⟨hd, hw, (fun h => Bool.noConfusion h), fun _ => .inr ⟨.store b ty l, he, rfl⟩⟩, h⟩
    · rename_i rb f args he
      split at h
      · rename_i d r k _
        split at h
        · obtain ⟨T', v', h1, h2⟩ := hint_sound h.2
          exact ⟨T', _, rfl, ⟨hd, hw, (fun h => Bool.noConfusion h), fun _ => .inr ⟨.call f args, he, r, v', h.1, h1, rfl⟩⟩, h2⟩
        · cases h
      · cases h
    · cases h
  · cases h
theorem runR_sound : ∀ {l : List Oper} {T : Tr} {S : SS} {its : List It} {K : Tr → SS → List It → Prop}, runR P ops l T S its K →
    ∃ T' S' js, js.map It.o = l ∧ Chain P ops S js S' ∧ K T' S' (js.reverse ++ its)
  | [], T, S, its, K, h => ⟨T, S, [], rfl, rfl, h⟩
  | o :: l, T, S, its, K, h => by
    obtain ⟨T1, it, e, h1, h2⟩ := step1_sound h
    split at h2
    · rename_i hn
      obtain ⟨T', S', js, e2, h3, h4⟩ := runR_sound h2
      refine ⟨T', S', it :: js, by rw [List.map_cons, e, e2], ⟨h1, hn, by rw [e]; exact h3⟩, ?_⟩
      rw [List.reverse_cons, List.append_assoc]
      exact h4
    · cases h2
theorem blt_lt {a b : Nat} (h : Nat.blt a b = true) : a < b := Nat.le_of_ble_eq_true h
theorem lt_blt {a b : Nat} (h : a < b) : Nat.blt a b = true := Nat.ble_eq_true_of_le h
theorem Wf.app {S : SS} {d : Option Nat} {e : Ev} (h : Wf S) (hn : evNm S e = true) (hb : ∀ b ty l, e = .sto b ty l → (look S.bx b).isSome = true) : Wf (S.app d e) := by
  cases e with
  | val v =>
    cases d with
    | none => exact h
    | some d =>
      refine ⟨h.nx, fun k u hu => ?_, h.nb⟩
      by_cases hk : d = k
      · rw [show look (S.app (some d) (.val v)).tm k = _ from look_here hk] at hu
        injection hu with hu; subst hu; exact hn
      · exact h.nt k u (by rw [← show look (S.app (some d) (.val v)).tm k = _ from look_off hk]; exact hu)
  | box nm ty l =>
    cases d with
    | none => exact h
    | some d =>
      rw [evNm, Bool.and_eq_true] at hn
      have e : nm = S.nx := Nat.eq_of_beq_eq_true hn.1
      subst e
      have up : ∀ b, Nat.blt b S.nx = true → Nat.blt b (S.nx + 1) = true := fun b hb => lt_blt (by have := blt_lt hb; omega)
      refine ⟨fun b hb => ?_, fun k u hu => ?_, fun b t l' hl' => ?_⟩
      · show b < S.nx + 1
        by_cases e : S.nx = b
        · omega
        · have := h.nx b (by rw [← show look (S.app (some d) (.box S.nx ty l)).bx b = _ from look_off e]; exact hb)
          omega
      · show u.nm (fun b => Nat.blt b (S.nx + 1)) = true
        by_cases hk : d = k
        · rw [show look (S.app (some d) (.box S.nx ty l)).tm k = _ from look_here hk] at hu
          injection hu with hu; subst hu
          show ([SV.ptr S.nx 0].all _) = true
          simp [SV.nm, Nat.blt]
        · exact TV.nm_le up (h.nt k u (by rw [← show look (S.app (some d) (.box S.nx ty l)).tm k = _ from look_off hk]; exact hu))
      · show l'.all (SV.nm fun b => Nat.blt b (S.nx + 1)) = true
        by_cases e : S.nx = b
        · rw [show look (S.app (some d) (.box S.nx ty l)).bx b = _ from look_here e] at hl'
          injection hl' with hl'; injection hl' with e1 e2; subst e1 e2
          exact SVs.nm_le up hn.2
        · exact SVs.nm_le up (h.nb b t l' (by rw [← show look (S.app (some d) (.box S.nx ty l)).bx b = _ from look_off e]; exact hl'))
  | sto b ty l =>
    have hlk : ∀ k, look (S.app d (.sto b ty l)).bx k = if b = k then some (ty, l) else look S.bx k := fun k => by
      by_cases e : b = k
      · rw [if_pos e]; exact look_here e
      · rw [if_neg e]; exact look_off e
    refine ⟨fun k hk => ?_, h.nt, fun k t l' hl' => ?_⟩
    · rw [hlk] at hk
      by_cases e : b = k
      · rw [← e]; exact h.nx b (hb b ty l rfl)
      · rw [if_neg e] at hk; exact h.nx k hk
    · rw [hlk] at hl'
      by_cases e : b = k
      · rw [if_pos e] at hl'
        injection hl' with hl'; injection hl' with e1 e2; subst e1 e2
        exact hn
      · rw [if_neg e] at hl'; exact h.nb k t l' hl'
theorem ItOk.sto {S : SS} {it : It} (h : ItOk P ops S it) : ∀ b ty l, it.ev = .sto b ty l → (look S.bx b).isSome = true ∧ it.rb = some b := fun b ty l e => by
  cases hon : it.on with
  | false => rw [(h.off hon).1] at e; cases e
  | true =>
    rcases h.act hon with ⟨_, v, u, _, _, e'⟩ | ⟨ef, he, hm⟩
    · rw [e'] at e; cases e
    cases ef with
    | pure v => obtain ⟨u, _, e'⟩ := hm; rw [e'] at e; cases e
    | alloc t l' => obtain ⟨_, nm, e'⟩ := hm; rw [e'] at e; cases e
    | store b' t l' =>
      rw [show it.ev = _ from hm] at e
      injection e with e1 e2 e3; subst e1 e2 e3
      obtain ⟨h1, l0, h2⟩ := evalOp_rb he rfl
      exact ⟨by rw [h2]; rfl, h1⟩
    | call f args => obtain ⟨r, u, _, _, e'⟩ := hm; rw [e'] at e; cases e
theorem Chain.wf : ∀ {js : List It} {S S' : SS}, Wf S → Chain P ops S js S' → Wf S'
  | [], S, S', h, c => by rw [← show S = S' from c]; exact h
  | it :: js, S, S', h, ⟨h1, h2, h3⟩ => Chain.wf (h.app h2 fun b ty l e => (h1.sto b ty l e).1) h3
theorem Wf.fresh {S : SS} (h : Wf S) : Fresh S S.nx := by
  have up : ∀ b, Nat.blt b S.nx = true → (!Nat.beq b S.nx) = true := fun b hb => by
    have := blt_lt hb
    cases e : Nat.beq b S.nx with
    | false => rfl
    | true => have := Nat.eq_of_beq_eq_true e; omega
  refine ⟨?_, fun k v hv => TV.nm_le up (h.nt k v hv), fun b ty l hl => SVs.nm_le up (h.nb b ty l hl)⟩
  cases e : look S.bx S.nx with
  | none => rfl
  | some x => have := h.nx S.nx (by rw [e]; rfl); omega
theorem box_fresh {S : SS} {it : It} (hw : Wf S) (hn : evNm S it.ev = true) : ∀ nm ty l, it.ev = .box nm ty l → Fresh S nm ∧ l.all (SV.nm fun b => !Nat.beq b nm) = true := fun nm ty l e => by
  rw [e, evNm, Bool.and_eq_true] at hn
  have e' : nm = S.nx := Nat.eq_of_beq_eq_true hn.1
  subst e'
  refine ⟨hw.fresh, SVs.nm_le (fun b hb => ?_) hn.2⟩
  have := blt_lt hb
  cases e : Nat.beq b S.nx with
  | false => rfl
  | true => have := Nat.eq_of_beq_eq_true e; omega
theorem chain_list : ∀ {js : List It} {S S' : SS} {a : Act} {w : World}, Chain P ops S js S' → Wf S → Ok w0 s0 S a w → (∀ a w, Ok w0 s0 S' a w → Q .normal a w) → wpList P ops Q (js.map It.o) a w
  | [], S, S', a, w, c, hw, hk, hq => hq a w (by rw [← show S = S' from c]; exact hk)
  | it :: js, S, S', a, w, ⟨h1, h2, h3⟩, hw, hk, hq => by
    have h := item_wp (Q := Q) h1 (Agr.refl ops it S) (box_fresh hw h2) hk
    have hw' := hw.app (d := it.o.dst) h2 fun b ty l e => (h1.sto b ty l e).1
    show wpList P ops Q (it.o :: js.map It.o) a w
    unfold wpList
    split at h
    · rename_i hwd
      rw [if_pos hwd]
      exact .inl (Oper.wp_mono (fun a w ha => chain_list h3 hw' ha hq) h)
    · rename_i hwd
      rw [if_neg hwd]
      exact chain_list h3 hw' h hq
end
end Go.Proofs.Ythhgjloephkpaaa.Lx
namespace Go.Proofs.Ythhgjloephkpaaa.Lx
set_option linter.unusedVariables false
set_option linter.unusedSimpArgs false
open Go Go.RowKit Go.Proofs.Ythhgjloephkpaaa Go.Proofs.YthhgjloephkpaaaW.PrintWords Go.Proofs.YthhgjloephkpaaaW.PrintLast

def tmv (it : It) (k : Nat) : Option TV := match it.o.dst, it.ev with
  | some d, .val v => if d = k then some v else none
  | some d, .box nm _ _ => if d = k then some (.u ⟨false, [.ptr nm 0]⟩) else none
  | _, _ => none
def bxv (it : It) (b : Nat) : Option (TypeId × List SV) := match it.o.dst, it.ev with
  | some _, .box nm ty l => if nm = b then some (ty, l) else none
  | _, .sto c ty l => if c = b then some (ty, l) else none
  | _, _ => none
def SS.at (S : SS) (it : It) : SS := S.app it.o.dst it.ev
theorem look_tm (S : SS) (it : It) (k : Nat) : look (S.at it).tm k = (tmv it k).or (look S.tm k) := by
  unfold SS.at tmv SS.app
  cases it.ev with
  | val v =>
    cases it.o.dst with
    | none => rfl
    | some d =>
      by_cases h : d = k
      · simp only [if_pos h, Option.some_or]; exact look_here h
      · simp only [if_neg h, Option.none_or]; exact look_off h
  | box nm ty l =>
    cases it.o.dst with
    | none => rfl
    | some d =>
      by_cases h : d = k
      · simp only [if_pos h, Option.some_or]; exact look_here h
      · simp only [if_neg h, Option.none_or]; exact look_off h
  | sto b ty l => cases it.o.dst <;> rfl
theorem look_bx (S : SS) (it : It) (b : Nat) : look (S.at it).bx b = (bxv it b).or (look S.bx b) := by
  unfold SS.at bxv SS.app
  cases it.ev with
  | val v => cases it.o.dst <;> rfl
  | box nm ty l =>
    cases it.o.dst with
    | none => rfl
    | some d =>
      by_cases h : nm = b
      · simp only [if_pos h, Option.some_or]; exact look_here h
      · simp only [if_neg h, Option.none_or]; exact look_off h
  | sto c ty l =>
    have : look (S.sto c ty l).bx b = (if c = b then some (ty, l) else none : Option (TypeId × List SV)).or (look S.bx b) := by
      by_cases h : c = b
      · simp only [if_pos h, Option.some_or]; exact look_here h
      · simp only [if_neg h, Option.none_or]; exact look_off h
    cases it.o.dst <;> exact this
theorem at_n (S : SS) (it : It) : (S.at it).n = S.n := by
  unfold SS.at SS.app
  cases it.ev <;> cases it.o.dst <;> rfl
/-- The state behind those of the items that L lists. -/
def part (L : Nat → Bool) : Nat → List It → SS → SS
  | _, [], S => S
  | i, it :: l, S => part L (i + 1) l (match L i with
    | true => S.at it
    | false => S)
theorem part_tm {L M : Nat → Bool} {k : Nat} : ∀ {js : List It} {i : Nat} {S S' : SS}, (∀ j it, js[j]? = some it → tmv it k ≠ none → L (i + j) = M (i + j)) → look S.tm k = look S'.tm k → look (part L i js S).tm k = look (part M i js S').tm k
  | [], i, S, S', h, e => e
  | it :: js, i, S, S', h, e => by
    unfold part
    refine part_tm (fun j x hx hk => ?_) ?_
    · have := h (j + 1) x (by simpa using hx) hk
      rw [show i + 1 + j = i + (j + 1) from by omega]; exact this
    · by_cases hk : tmv it k = none
      · have e1 : ∀ (b : Bool) (T : SS), look (match b with | true => T.at it | false => T).tm k = look T.tm k := fun b T => by
          cases b
          · rfl
          · show look (T.at it).tm k = _; rw [look_tm, hk]; rfl
        rw [e1, e1, e]
      · have h0 := h 0 it rfl hk
        rw [Nat.add_zero] at h0
        rw [h0]
        cases M i
        · exact e
        · show look (S.at it).tm k = look (S'.at it).tm k
          rw [look_tm, look_tm, e]
theorem part_bx {L M : Nat → Bool} {k : Nat} : ∀ {js : List It} {i : Nat} {S S' : SS}, (∀ j it, js[j]? = some it → bxv it k ≠ none → L (i + j) = M (i + j)) → look S.bx k = look S'.bx k → look (part L i js S).bx k = look (part M i js S').bx k
  | [], i, S, S', h, e => e
  | it :: js, i, S, S', h, e => by
    unfold part
    refine part_bx (fun j x hx hk => ?_) ?_
    · have := h (j + 1) x (by simpa using hx) hk
      rw [show i + 1 + j = i + (j + 1) from by omega]; exact this
    · by_cases hk : bxv it k = none
      · have e1 : ∀ (b : Bool) (T : SS), look (match b with | true => T.at it | false => T).bx k = look T.bx k := fun b T => by
          cases b
          · rfl
          · show look (T.at it).bx k = _; rw [look_bx, hk]; rfl
        rw [e1, e1, e]
      · have h0 := h 0 it rfl hk
        rw [Nat.add_zero] at h0
        rw [h0]
        cases M i
        · exact e
        · show look (S.at it).bx k = look (S'.at it).bx k
          rw [look_bx, look_bx, e]
theorem part_n {L : Nat → Bool} : ∀ {js : List It} {i : Nat} {S : SS}, (part L i js S).n = S.n
  | [], i, S => rfl
  | it :: js, i, S => by
    unfold part
    rw [part_n]
    cases L i
    · rfl
    · exact at_n S it
theorem part_none {L : Nat → Bool} : ∀ {js : List It} {i : Nat} {S : SS}, (∀ j, L (i + j) = false) → part L i js S = S
  | [], i, S, h => rfl
  | it :: js, i, S, h => by
    unfold part
    have h0 := h 0
    rw [Nat.add_zero] at h0
    rw [h0]
    exact part_none fun j => by rw [show i + 1 + j = i + (j + 1) from by omega]; exact h (j + 1)
/-- The item at i in L writes k, and none behind it in L does. -/
theorem part_tm_last {L : Nat → Bool} {k : Nat} {v : TV} : ∀ {js : List It} {i n : Nat} {S : SS} {it : It}, js[n]? = some it → L (i + n) = true → tmv it k = some v → (∀ j x, n < j → js[j]? = some x → tmv x k ≠ none → L (i + j) = false) →
    look (part L i js S).tm k = some v
  | [], i, n, S, it, h, _, _, _ => by simp at h
  | x :: js, i, 0, S, it, h, hl, hv, ho => by
    simp at h; subst h
    unfold part
    rw [Nat.add_zero] at hl
    rw [hl]
    have e : look (part L (i + 1) js (S.at x)).tm k = look (part (fun _ => false) (i + 1) js (S.at x)).tm k := part_tm (fun j y hy hk => by
      have := ho (j + 1) y (by omega) (by simpa using hy) hk
      rw [show i + 1 + j = i + (j + 1) from by omega]; exact this) rfl
    show look (part L (i + 1) js (S.at x)).tm k = _
    rw [e, part_none fun _ => rfl, look_tm, hv]; rfl
  | x :: js, i, n + 1, S, it, h, hl, hv, ho => by
    unfold part
    exact part_tm_last (it := it) (n := n) (by simpa using h) (by rw [show i + 1 + n = i + (n + 1) from by omega]; exact hl) hv fun j y hj hy hk => by
      have := ho (j + 1) y (by omega) (by simpa using hy) hk
      rw [show i + 1 + j = i + (j + 1) from by omega]; exact this
theorem part_bx_last {L : Nat → Bool} {k : Nat} {v : TypeId × List SV} : ∀ {js : List It} {i n : Nat} {S : SS} {it : It}, js[n]? = some it → L (i + n) = true → bxv it k = some v → (∀ j x, n < j → js[j]? = some x → bxv x k ≠ none → L (i + j) = false) →
    look (part L i js S).bx k = some v
  | [], i, n, S, it, h, _, _, _ => by simp at h
  | x :: js, i, 0, S, it, h, hl, hv, ho => by
    simp at h; subst h
    unfold part
    rw [Nat.add_zero] at hl
    rw [hl]
    have e : look (part L (i + 1) js (S.at x)).bx k = look (part (fun _ => false) (i + 1) js (S.at x)).bx k := part_bx (fun j y hy hk => by
      have := ho (j + 1) y (by omega) (by simpa using hy) hk
      rw [show i + 1 + j = i + (j + 1) from by omega]; exact this) rfl
    show look (part L (i + 1) js (S.at x)).bx k = _
    rw [e, part_none fun _ => rfl, look_bx, hv]; rfl
  | x :: js, i, n + 1, S, it, h, hl, hv, ho => by
    unfold part
    exact part_bx_last (it := it) (n := n) (by simpa using h) (by rw [show i + 1 + n = i + (n + 1) from by omega]; exact hl) hv fun j y hj hy hk => by
      have := ho (j + 1) y (by omega) (by simpa using hy) hk
      rw [show i + 1 + j = i + (j + 1) from by omega]; exact this
/-- Whatever a part holds, an item wrote, or it was there. -/
theorem part_src_tm {L : Nat → Bool} {k : Nat} {v : TV} : ∀ {js : List It} {i : Nat} {S : SS}, look (part L i js S).tm k = some v → look S.tm k = some v ∨ ∃ j it, js[j]? = some it ∧ L (i + j) = true ∧ tmv it k = some v
  | [], i, S, h => .inl h
  | it :: js, i, S, h => by
    unfold part at h
    rcases part_src_tm h with h1 | ⟨j, x, hx, hl, hv⟩
    · cases hi : L i with
      | false => rw [hi] at h1; exact .inl h1
      | true =>
        rw [hi] at h1
        have h1 : look (S.at it).tm k = some v := h1
        rw [look_tm] at h1
        cases ht : tmv it k with
        | none => rw [ht] at h1; exact .inl h1
        | some u => rw [ht] at h1; exact .inr ⟨0, it, rfl, by simpa using hi, by rw [ht]; simpa using h1⟩
    · exact .inr ⟨j + 1, x, by simpa using hx, by rw [show i + (j + 1) = i + 1 + j from by omega]; exact hl, hv⟩
theorem part_src_bx {L : Nat → Bool} {k : Nat} {v : TypeId × List SV} : ∀ {js : List It} {i : Nat} {S : SS}, look (part L i js S).bx k = some v → look S.bx k = some v ∨ ∃ j it, js[j]? = some it ∧ L (i + j) = true ∧ bxv it k = some v
  | [], i, S, h => .inl h
  | it :: js, i, S, h => by
    unfold part at h
    rcases part_src_bx h with h1 | ⟨j, x, hx, hl, hv⟩
    · cases hi : L i with
      | false => rw [hi] at h1; exact .inl h1
      | true =>
        rw [hi] at h1
        have h1 : look (S.at it).bx k = some v := h1
        rw [look_bx] at h1
        cases ht : bxv it k with
        | none => rw [ht] at h1; exact .inl h1
        | some u => rw [ht] at h1; exact .inr ⟨0, it, rfl, by simpa using hi, by rw [ht]; simpa using h1⟩
    · exact .inr ⟨j + 1, x, by simpa using hx, by rw [show i + (j + 1) = i + 1 + j from by omega]; exact hl, hv⟩
section
variable {P : Program} {ops : Array Oper} {w0 : World} {s0 : Kst} {Q : Exit → Act → World → Prop}
theorem Ok.congr {S S' : SS} {a : Act} {w : World} (h : Ok w0 s0 S a w) (ht : ∀ k, look S'.tm k = look S.tm k) (hb : ∀ b, look S'.bx b = look S.bx b) (hn : S'.n = S.n) : Ok w0 s0 S' a w := by
  obtain ⟨γ, s, e, hs, h1, h2⟩ := h
  exact ⟨γ, s, e, ⟨hs.df, by rw [hn]; exact hs.sz, fun k v hv => hs.tm k v (by rw [← ht]; exact hv), fun b ty l hl => hs.bx b ty l (by rw [← hb]; exact hl),
    fun b b' h h' => hs.inj b b' (by rw [← hb]; exact h) (by rw [← hb]; exact h')⟩, h1, h2⟩
theorem chain_at : ∀ {js : List It} {S S' : SS} {i off : Nat} {it : It}, Chain P ops S js S' → Wf S → js[i]? = some it →
    ∃ Si, ItOk P ops Si it ∧ evNm Si it.ev = true ∧ Wf Si ∧ Si = part (fun j => Nat.blt j (off + i)) off js S
  | [], S, S', i, off, it, c, hw, h => by simp at h
  | x :: js, S, S', 0, off, it, ⟨h1, h2, h3⟩, hw, h => by
    simp at h; subst h
    refine ⟨S, h1, h2, hw, (part_none fun j => ?_).symm⟩
    cases e : Nat.blt (off + j) (off + 0) with
    | false => rfl
    | true => have := blt_lt e; omega
  | x :: js, S, S', i + 1, off, it, ⟨h1, h2, h3⟩, hw, h => by
    obtain ⟨Si, k1, k2, k3, k4⟩ := chain_at (off := off + 1) h3 (hw.app h2 fun b ty l e => (h1.sto b ty l e).1) (by simpa using h)
    refine ⟨Si, k1, k2, k3, ?_⟩
    rw [k4]
    conv => rhs; unfold part
    rw [show Nat.blt off (off + (i + 1)) = true from lt_blt (by omega)]
    rw [show off + 1 + i = off + (i + 1) from by omega]
    rfl
theorem chain_end : ∀ {js : List It} {S S' : SS} {off : Nat}, Chain P ops S js S' → part (fun _ => true) off js S = S'
  | [], S, S', off, c => c
  | x :: js, S, S', off, ⟨h1, h2, h3⟩ => by
    unfold part
    exact chain_end h3
end
end Go.Proofs.Ythhgjloephkpaaa.Lx
namespace Go.Proofs.Ythhgjloephkpaaa.Lx
set_option linter.unusedVariables false
set_option linter.unusedSimpArgs false
open Go Go.RowKit Go.Proofs.Ythhgjloephkpaaa Go.Proofs.YthhgjloephkpaaaW.PrintWords Go.Proofs.YthhgjloephkpaaaW.PrintLast

def memN (n : Nat) : List Nat → Bool
  | [] => false
  | m :: l => Nat.beq m n || memN n l
theorem memN_spec {n : Nat} : ∀ {l : List Nat}, n ∈ l → memN n l = true
  | m :: l, h => by
    unfold memN
    rw [Bool.or_eq_true]
    rcases List.mem_cons.1 h with e | e
    · subst e; exact .inl (Nat.beq_refl _)
    · exact .inr (memN_spec e)
def isN (o : Option Nat) (n : Nat) : Bool := match o with
  | some m => Nat.beq m n
  | none => false
theorem isN_spec {o : Option Nat} {n : Nat} (h : o = some n) : isN o n = true := by subst h; exact Nat.beq_refl _
def wT (it : It) : Option Nat := match it.ev with
  | .sto _ _ _ => none
  | _ => it.o.dst
def wB (it : It) : Option Nat := match it.ev with
  | .box nm _ _ => some nm
  | .sto b _ _ => some b
  | .val _ => none
theorem wT_spec {it : It} {k : Nat} (h : tmv it k ≠ none) : wT it = some k := by
  unfold tmv at h
  unfold wT
  split at h
  · rename_i d v h1 h2
    rw [h2]
    by_cases e : d = k
    · subst e; exact h1
    · rw [if_neg e] at h; exact absurd rfl h
  · rename_i d nm ty l h1 h2
    rw [h2]
    by_cases e : d = k
    · subst e; exact h1
    · rw [if_neg e] at h; exact absurd rfl h
  · exact absurd rfl h
theorem wB_spec {it : It} {k : Nat} (h : bxv it k ≠ none) : wB it = some k := by
  unfold bxv at h
  unfold wB
  split at h
  · rename_i nm ty l h1 h2
    rw [h2]
    by_cases e : nm = k
    · subst e; rfl
    · rw [if_neg e] at h; exact absurd rfl h
  · rename_i b ty l h2
    rw [h2]
    by_cases e : b = k
    · subst e; rfl
    · rw [if_neg e] at h; exact absurd rfl h
  · exact absurd rfl h
def notN (b : Nat) : Nat → Bool := fun c => !Nat.beq c b
/-- The item x, ahead of y in the text, has a part in what y looks at or leaves, or y in what x does. -/
def confl (ops : Array Oper) (x y : It) : Bool :=
  (match wT x with
  | some d => memN d (y.o.looksAt ops) || isN (wT y) d
  | none => false) ||
  ((match wT y with
  | some d => memN d (x.o.looksAt ops)
  | none => false) ||
  ((match wB x with
  | some b => isN y.rb b || (isN (wB y) b || !y.ev.nm (notN b))
  | none => false) ||
  (match wB y with
  | some b => isN x.rb b
  | none => false)))
def pairOk (ops : Array Oper) (i j : Nat) (x y : It) : Bool :=
  (!confl ops x y || needsT .any ops i ops.size j) && (match y.ev with
  | .box b _ _ => x.ev.nm (notN b) && !isN (wB x) b
  | _ => true)
def indY (ops : Array Oper) (i : Nat) (x : It) : Nat → List It → Bool
  | _, [] => true
  | j, y :: l => pairOk ops i j x y && indY ops i x (j + 1) l
def indR (ops : Array Oper) : Nat → List It → Bool
  | _, [] => true
  | i, x :: l => x.o.after.toList.all (fun e => !Region.binds .any e || Nat.blt e.on i) && (indY ops i x (i + 1) l && indR ops (i + 1) l)
theorem indY_spec {ops : Array Oper} {i : Nat} {x : It} : ∀ {l : List It} {j k : Nat} {y : It}, indY ops i x j l = true → l[k]? = some y → pairOk ops i (j + k) x y = true
  | [], j, k, y, h, e => by simp at e
  | z :: l, j, k, y, h, e => by
    unfold indY at h
    rw [Bool.and_eq_true] at h
    cases k with
    | zero => simp at e; subst e; exact h.1
    | succ k =>
      have := indY_spec (k := k) h.2 (by simpa using e)
      rw [show j + (k + 1) = j + 1 + k from by omega]; exact this
theorem indR_spec {ops : Array Oper} : ∀ {l : List It} {i k : Nat} {x : It}, indR ops i l = true → l[k]? = some x →
    (∀ e ∈ x.o.after, Region.binds .any e = true → e.on < i + k) ∧ ∀ m y, k < m → l[m]? = some y → pairOk ops (i + k) (i + m) x y = true
  | [], i, k, x, h, e => by simp at e
  | z :: l, i, k, x, h, e => by
    unfold indR at h
    rw [Bool.and_eq_true, Bool.and_eq_true] at h
    cases k with
    | zero =>
      simp at e; subst e
      refine ⟨fun e he hb => ?_, fun m y hm hy => ?_⟩
      · have h1 := List.all_eq_true.1 h.1 e (by simpa using he)
        rw [hb] at h1
        have := blt_lt (by simpa using h1)
        omega
      · obtain ⟨m, rfl⟩ : ∃ n, m = n + 1 := ⟨m - 1, by omega⟩
        have := indY_spec (k := m) h.2.1 (by simpa using hy)
        rw [show i + (m + 1) = i + 1 + m from by omega]; exact this
    | succ k =>
      obtain ⟨h1, h2⟩ := indR_spec (k := k) h.2.2 (by simpa using e)
      refine ⟨fun e he hb => by have := h1 e he hb; omega, fun m y hm hy => ?_⟩
      obtain ⟨m, rfl⟩ : ∃ n, m = n + 1 := ⟨m - 1, by omega⟩
      have := h2 m y (by omega) (by simpa using hy)
      rw [show i + (m + 1) = i + 1 + m from by omega, show i + (k + 1) = i + 1 + k from by omega]; exact this
theorem unl_less {p q : Nat → Bool} {i : Nat} : ∀ {l : List Nat}, l.Nodup → i ∈ l → p i = true → q i = false → (∀ j, j ≠ i → q j = p j) → (l.filter q).length + 1 = (l.filter p).length
  | x :: l, hn, hi, hp, hq, h => by
    rw [List.nodup_cons] at hn
    rw [List.filter_cons, List.filter_cons]
    rcases List.mem_cons.1 hi with e | e
    · subst e
      rw [hp, hq]
      have : l.filter q = l.filter p := List.filter_congr fun j hj => h j fun e => hn.1 (e ▸ hj)
      simp [this]
    · have hxi : x ≠ i := fun e1 => hn.1 (e1 ▸ e)
      rw [h x hxi]
      have ih := unl_less hn.2 e hp hq h
      split
      · simp; omega
      · exact ih
section
variable {P : Program} {ops : Array Oper} {w0 : World} {s0 : Kst} {Q : Exit → Act → World → Prop} {S0 S' : SS} {its : List It}
theorem bor {a b : Bool} (h : (a || b) = false) : a = false ∧ b = false := by cases a <;> cases b <;> simp_all
/-- What does not depend on each other. -/
structure Apart (ops : Array Oper) (x y : It) : Prop where
  wr : ∀ k, tmv x k ≠ none → k ∉ y.o.looksAt ops
  ww : ∀ k, tmv x k ≠ none → tmv y k = none
  rw : ∀ k, tmv y k ≠ none → k ∉ x.o.looksAt ops
  br : ∀ b, bxv x b ≠ none → y.rb ≠ some b
  bw : ∀ b, bxv x b ≠ none → bxv y b = none
  rb : ∀ b, bxv y b ≠ none → x.rb ≠ some b
  nm : ∀ b, wB x = some b → y.ev.nm (notN b) = true
theorem confl_spec {x y : It} (h : confl ops x y = false) : Apart ops x y := by
  unfold confl at h
  obtain ⟨h1, h⟩ := bor h
  obtain ⟨h2, h⟩ := bor h
  obtain ⟨h3, h4⟩ := bor h
  refine ⟨fun k hk hm => ?_, fun k hk => ?_, fun k hk hm => ?_, fun b hb hm => ?_, fun b hb => ?_, fun b hb hm => ?_, fun b hb => ?_⟩
  · rw [wT_spec hk] at h1
    simp only at h1
    have := (bor h1).1
    rw [memN_spec hm] at this; cases this
  · rw [wT_spec hk] at h1
    simp only at h1
    cases e : tmv y k with
    | none => rfl
    | some v =>
      have := (bor h1).2
      rw [isN_spec (wT_spec (by rw [e]; simp))] at this; cases this
  · rw [wT_spec hk] at h2
    simp only at h2
    rw [memN_spec hm] at h2; cases h2
  · rw [wB_spec hb] at h3
    simp only at h3
    have := (bor h3).1
    rw [isN_spec hm] at this; cases this
  · rw [wB_spec hb] at h3
    simp only at h3
    cases e : bxv y b with
    | none => rfl
    | some v =>
      have := (bor (bor h3).2).1
      rw [isN_spec (wB_spec (by rw [e]; simp))] at this; cases this
  · rw [wB_spec hb] at h4
    simp only at h4
    rw [isN_spec hm] at h4; cases h4
  · rw [hb] at h3
    simp only at h3
    have := (bor (bor h3).2).2
    simpa using this
theorem box_bxv {it : It} {nm : Nat} {ty : TypeId} {l : List SV} {S : SS} (h : ItOk P ops S it) (e : it.ev = .box nm ty l) : bxv it nm = some (ty, l) := by
  cases hon : it.on with
  | false => rw [(h.off hon).1] at e; cases e
  | true =>
    rcases h.act hon with ⟨_, v, u, _, _, e'⟩ | ⟨ef, he, hm⟩
    · rw [e'] at e; cases e
    cases ef with
    | pure v => obtain ⟨u, _, e'⟩ := hm; rw [e'] at e; cases e
    | store b' t l' => rw [show it.ev = _ from hm] at e; cases e
    | call f args => obtain ⟨r, u, _, _, e'⟩ := hm; rw [e'] at e; cases e
    | alloc t l' =>
      obtain ⟨hs, _⟩ := hm
      obtain ⟨d, hd⟩ := Option.isSome_iff_exists.1 hs
      unfold bxv
      rw [hd, e]
      simp
theorem nm_of_tmv {it : It} {k : Nat} {v : TV} {p : Nat → Bool} (h : tmv it k = some v) (hp : it.ev.nm p = true) (hb : ∀ b, wB it = some b → p b = true) : v.nm p = true := by
  unfold tmv at h
  split at h
  · rename_i d u h1 h2
    by_cases e : d = k
    · rw [if_pos e] at h; injection h with h; subst h
      rw [h2] at hp; exact hp
    · rw [if_neg e] at h; cases h
  · rename_i d nm ty l h1 h2
    by_cases e : d = k
    · rw [if_pos e] at h; injection h with h; subst h
      have := hb nm (by unfold wB; rw [h2])
      show [SV.ptr nm 0].all (SV.nm p) = true
      simp [SV.nm, this]
    · rw [if_neg e] at h; cases h
  · cases h
theorem nm_of_bxv {it : It} {k : Nat} {ty : TypeId} {l : List SV} {p : Nat → Bool} (h : bxv it k = some (ty, l)) (hp : it.ev.nm p = true) : l.all (SV.nm p) = true := by
  unfold bxv at h
  split at h
  · rename_i nm t l' h1 h2
    by_cases e : nm = k
    · rw [if_pos e] at h; injection h with h; injection h with e1 e2; subst e1 e2
      rw [h2] at hp; exact hp
    · rw [if_neg e] at h; cases h
  · rename_i c t l' h2
    by_cases e : c = k
    · rw [if_pos e] at h; injection h with h; injection h with e1 e2; subst e1 e2
      rw [h2] at hp; exact hp
    · rw [if_neg e] at h; cases h
  · cases h
theorem any_go (hind : indR ops 0 its = true) (hch : Chain P ops S0 its S') (hwf : Wf S0) (hops : its.map It.o = ops.toList) (hq : ∀ a w, Ok w0 s0 S' a w → Q .normal a w) :
    ∀ (fuel : Nat) (listed : Array Bool) (a : Act) (w : World), listed.size = ops.size → ShutT .any ops listed → ((List.range ops.size).filter fun i => !listed.getD i false).length = fuel →
      Ok w0 s0 (part (fun i => listed.getD i false) 0 its S0) a w → wpAny P .any ops Q fuel listed a w := by
  have hit : ∀ (i : Nat) (o : Oper), ops[i]? = some o → ∃ it : It, its[i]? = some it ∧ it.o = o := fun i o h => by
    have h1 : (its.map It.o)[i]? = some o := by rw [hops]; simpa using h
    rw [List.getElem?_map] at h1
    cases e : its[i]? with
    | none => rw [e] at h1; cases h1
    | some it => rw [e] at h1; exact ⟨it, rfl, by simpa using h1⟩
  have hio : ∀ (i : Nat) (it : It), its[i]? = some it → ops[i]? = some it.o := fun i it h => by
    have h1 : (its.map It.o)[i]? = some it.o := by rw [List.getElem?_map, h]; rfl
    rw [hops] at h1
    simpa using h1
  have hall : ∀ (listed : Array Bool) (a : Act) (w : World), listed.size = ops.size → (∀ i : Nat, i < ops.size → listed.getD i false = true) → Ok w0 s0 (part (fun i => listed.getD i false) 0 its S0) a w → Q .normal a w := fun listed a w hz hl hk => by
    refine hq a w (hk.congr (fun k => ?_) (fun b => ?_) ?_)
    · rw [← chain_end (off := 0) hch]
      exact part_tm (fun j it hj _ => by
        have := (Array.getElem?_eq_some_iff.1 (hio j it hj)).1
        simp [hl j this]) rfl
    · rw [← chain_end (off := 0) hch]
      exact part_bx (fun j it hj _ => by
        have := (Array.getElem?_eq_some_iff.1 (hio j it hj)).1
        simp [hl j this]) rfl
    · rw [← chain_end (off := 0) hch, part_n, part_n]
  have hgd : ∀ (listed : Array Bool) (i : Nat), listed.size = ops.size → i < ops.size → listed.getD i true = listed.getD i false := fun listed i hz hi => by
    have : i < listed.size := by omega
    simp [this]
  intro fuel
  induction fuel with
  | zero =>
    intro listed a w hz hsh hf hk
    have hl : ∀ i, i < ops.size → listed.getD i false = true := fun i hi => by
      cases e : listed.getD i false with
      | true => rfl
      | false =>
        have : i ∈ (List.range ops.size).filter fun i => !listed.getD i false := List.mem_filter.2 ⟨List.mem_range.2 hi, by rw [e]; rfl⟩
        rw [List.length_eq_zero_iff.1 hf] at this
        cases this
    refine ⟨?_, hall listed a w hz hl hk⟩
    apply List.eq_nil_iff_forall_not_mem.2
    intro j hj
    obtain ⟨h1, o, h2, _⟩ := mem_ready.1 hj
    have hjs := (Array.getElem?_eq_some_iff.1 h2).1
    rw [hgd listed j hz hjs, hl j hjs] at h1
    cases h1
  | succ fuel ih =>
    intro listed a w hz hsh hf hk
    refine ⟨fun hr => ?_, fun i hi => ?_⟩
    · refine hall listed a w hz (fun i => ?_) hk
      induction i using Nat.strongRecOn with
      | _ i ihi =>
        intro hlt
        cases e : listed.getD i false with
        | true => rfl
        | false =>
          exfalso
          obtain ⟨o, ho⟩ : ∃ o, ops[i]? = some o := ⟨ops[i], Array.getElem?_eq_getElem hlt⟩
          obtain ⟨it, h1, h2⟩ := hit i o ho
          have h3 := (indR_spec hind h1).1
          have : i ∈ Region.ready .any ops listed := mem_ready.2 ⟨by rw [hgd listed i hz hlt]; exact e, o, ho, fun e' he' hb => by
            have hlt' := h3 e' (by rw [h2]; exact he') hb
            rw [Nat.zero_add] at hlt'
            exact ihi e'.on hlt' (by omega)⟩
          rw [hr] at this
          cases this
    · obtain ⟨hun, o, ho, hafter⟩ := mem_ready.1 hi
      have his := (Array.getElem?_eq_some_iff.1 ho).1
      rw [hgd listed i hz his] at hun
      obtain ⟨it, hi1, hi2⟩ := hit i o ho
      subst hi2
      -- what is ahead and has a part in it is listed; what is behind is not
      have hahead : ∀ j x, its[j]? = some x → j < i → listed.getD j false = false → Apart ops x it := fun j x hx hj hl => by
        have hp := (indR_spec hind hx).2 i it hj hi1
        rw [Nat.zero_add, Nat.zero_add] at hp
        unfold pairOk at hp
        rw [Bool.and_eq_true, Bool.or_eq_true] at hp
        rcases hp.1 with h | h
        · exact confl_spec (by simpa using h)
        · have := needsT_listed hsh _ i it.o ho hafter h
          rw [hl] at this; cases this
      have hbehind : ∀ j x, its[j]? = some x → i < j → listed.getD j false = true → Apart ops it x := fun j x hx hj hl => by
        have hp := (indR_spec hind hi1).2 j x hj hx
        rw [Nat.zero_add, Nat.zero_add] at hp
        unfold pairOk at hp
        rw [Bool.and_eq_true, Bool.or_eq_true] at hp
        rcases hp.1 with h | h
        · exact confl_spec (by simpa using h)
        · have hoj := hio j x hx
          have := needsT_listed hsh _ j x.o hoj (fun e he hb => hsh j x.o hoj hl e he hb) h
          rw [hun] at this; cases this
      have hnew : ∀ nm ty l, it.ev = .box nm ty l → ∀ j x, its[j]? = some x → j < i → x.ev.nm (notN nm) = true ∧ wB x ≠ some nm := fun nm ty l hev j x hx hj => by
        have hp := (indR_spec hind hx).2 i it hj hi1
        unfold pairOk at hp
        rw [hev] at hp
        simp only [Bool.and_eq_true] at hp
        refine ⟨hp.2.1, fun e => ?_⟩
        have := hp.2.2
        rw [isN_spec e] at this; cases this
      obtain ⟨Si, hok, hnm, hwi, hSi⟩ := chain_at (off := 0) hch hwf hi1
      rw [Nat.zero_add] at hSi
      have hagr : Agr ops it Si (part (fun i => listed.getD i false) 0 its S0) := by
        refine ⟨fun k hk' t ht => ?_, fun b hb => ?_, ?_⟩
        · rw [← ht, hSi]
          refine part_tm (fun j x hx hxk => ?_) rfl
          rw [Nat.zero_add]
          rcases Nat.lt_trichotomy j i with h | h | h
          · rw [lt_blt h]
            cases e : listed.getD j false with
            | true => rfl
            | false => exact absurd hk' ((hahead j x hx h e).wr k hxk)
          · subst h
            rw [hun]
            cases e : Nat.blt j j with
            | false => rfl
            | true => have := blt_lt e; omega
          · have : Nat.blt j i = false := by
              cases e : Nat.blt j i with
              | false => rfl
              | true => have := blt_lt e; omega
            rw [this]
            cases e : listed.getD j false with
            | false => rfl
            | true => exact absurd hk' ((hbehind j x hx h e).rw k hxk)
        · rw [hSi]
          refine part_bx (fun j x hx hxk => ?_) rfl
          rw [Nat.zero_add]
          rcases Nat.lt_trichotomy j i with h | h | h
          · rw [lt_blt h]
            cases e : listed.getD j false with
            | true => rfl
            | false => exact absurd hb ((hahead j x hx h e).br b hxk)
          · subst h
            rw [hun]
            cases e : Nat.blt j j with
            | false => rfl
            | true => have := blt_lt e; omega
          · have : Nat.blt j i = false := by
              cases e : Nat.blt j i with
              | false => rfl
              | true => have := blt_lt e; omega
            rw [this]
            cases e : listed.getD j false with
            | false => rfl
            | true => exact absurd hb ((hbehind j x hx h e).rb b hxk)
        · rw [hSi, part_n, part_n]
      have hfr : ∀ nm ty l, it.ev = .box nm ty l → Fresh (part (fun i => listed.getD i false) 0 its S0) nm ∧ l.all (SV.nm fun b => !Nat.beq b nm) = true := fun nm ty l hev => by
        have hbx := box_bxv hok hev
        have hwB : wB it = some nm := wB_spec (by rw [hbx]; simp)
        obtain ⟨hfi, hli⟩ := box_fresh hwi hnm nm ty l hev
        have hS0 : S0.nx ≤ nm := by
          have hmono : ∀ (js : List It) (S S' : SS), Chain P ops S js S' → ∀ (M : Nat → Bool) (i : Nat), (∀ j, M (i + j) = false → M (i + (j + 1)) = false) → S.nx ≤ (part M i js S).nx := by
            intro js
            induction js with
            | nil => intro S S' _ M i _; exact Nat.le_refl _
            | cons x js ihj =>
              intro S S' c M i hM
              obtain ⟨c1, c2, c3⟩ := c
              unfold part
              cases e : M i with
              | true =>
                have h1 : S.nx ≤ (S.at x).nx := by
                  unfold SS.at SS.app
                  cases ev : x.ev with
                  | val v => cases x.o.dst <;> exact Nat.le_refl _
                  | sto b t l => exact Nat.le_refl _
                  | box n t l =>
                    rw [ev, evNm, Bool.and_eq_true] at c2
                    have := Nat.eq_of_beq_eq_true c2.1
                    cases x.o.dst with
                    | none => exact Nat.le_refl _
                    | some d => show S.nx ≤ n + 1; omega
                exact Nat.le_trans h1 (ihj _ _ c3 M (i + 1) (fun j hj => by
                  have := hM (j + 1) (by rw [show i + (j + 1) = i + 1 + j from by omega]; exact hj)
                  rw [show i + 1 + (j + 1) = i + (j + 1 + 1) from by omega]; exact this))
              | false =>
                have hf0 : ∀ j, M (i + j) = false := fun j => by
                  induction j with
                  | zero => exact e
                  | succ j ihj' => exact hM j ihj'
                rw [part_none fun j => by rw [show i + 1 + j = i + (j + 1) from by omega]; exact hf0 (j + 1)]
                exact Nat.le_refl _
          have h1 := hmono its S0 S' hch (fun j => Nat.blt j i) 0 (fun j hj => by
            rw [Nat.zero_add] at hj ⊢
            cases e : Nat.blt (j + 1) i with
            | false => rfl
            | true =>
              have := blt_lt e
              rw [lt_blt (by omega)] at hj; cases hj)
          rw [← hSi] at h1
          rw [hev, evNm, Bool.and_eq_true] at hnm
          have := Nat.eq_of_beq_eq_true hnm.1
          omega
        have up : ∀ b, Nat.blt b S0.nx = true → (!Nat.beq b nm) = true := fun b hb => by
          have := blt_lt hb
          cases e : Nat.beq b nm with
          | false => rfl
          | true => have := Nat.eq_of_beq_eq_true e; omega
        have hitem : ∀ j x, its[j]? = some x → listed.getD j false = true → x.ev.nm (notN nm) = true ∧ wB x ≠ some nm := fun j x hx hl => by
          rcases Nat.lt_trichotomy j i with h | h | h
          · exact hnew nm ty l hev j x hx h
          · subst h; rw [hun] at hl; cases hl
          · refine ⟨(hbehind j x hx h hl).nm nm hwB, fun e => ?_⟩
            obtain ⟨Sj, hokj, hnmj, hwj, hSj⟩ := chain_at (off := 0) hch hwf hx
            have hb := (hbehind j x hx h hl).bw nm (by rw [hbx]; simp)
            cases ev : x.ev with
            | val v => unfold wB at e; rw [ev] at e; cases e
            | box n t l' =>
              unfold wB at e; rw [ev] at e; injection e with e; subst e
              rw [box_bxv hokj ev] at hb; cases hb
            | sto b t l' =>
              unfold wB at e; rw [ev] at e; injection e with e; subst e
              unfold bxv at hb
              rw [ev] at hb
              cases hd : x.o.dst <;> (rw [hd] at hb; simp at hb)
        have hwBn : ∀ x, wB x ≠ some nm → ∀ b, wB x = some b → notN nm b = true := fun x hx b hb => by
          unfold notN
          cases e : Nat.beq b nm with
          | false => rfl
          | true => have := Nat.eq_of_beq_eq_true e; subst this; exact absurd hb hx
        refine ⟨⟨?_, fun k v hv => ?_, fun b t l' hl' => ?_⟩, hli⟩
        · cases e : look (part (fun i => listed.getD i false) 0 its S0).bx nm with
          | none => rfl
          | some v =>
            exfalso
            rcases part_src_bx e with h | ⟨j, x, hx, hl, hv⟩
            · have := hwf.nx nm (by rw [h]; rfl)
              omega
            · exact (hitem j x hx (by simpa using hl)).2 (wB_spec (by rw [hv]; simp))
        · rcases part_src_tm hv with h | ⟨j, x, hx, hl, hv'⟩
          · exact TV.nm_le up (hwf.nt k v h)
          · obtain ⟨h1, h2⟩ := hitem j x hx (by simpa using hl)
            exact nm_of_tmv hv' h1 (hwBn x h2)
        · rcases part_src_bx hl' with h | ⟨j, x, hx, hl, hv'⟩
          · exact SVs.nm_le up (hwf.nb b t l' h)
          · exact nm_of_bxv hv' (hitem j x hx (by simpa using hl)).1
      have hw := item_wp (Q := Q) hok hagr hfr hk
      -- the state behind it is the part with it
      have hstep : ∀ a w, Ok w0 s0 ((part (fun i => listed.getD i false) 0 its S0).app it.o.dst it.ev) a w → wpAny P .any ops Q fuel (listed.setIfInBounds i true) a w := fun a w hk' => by
        have hset : ∀ j, j ≠ i → (listed.setIfInBounds i true).getD j false = listed.getD j false := fun j hj => by
          simp [Array.getElem?_setIfInBounds_ne (Ne.symm hj)]
        have hseti : (listed.setIfInBounds i true).getD i false = true := by
          have : i < listed.size := by omega
          simp [this]
        refine ih _ a w (by simp [hz]) (hsh.step hi) ?_ (hk'.congr (fun k => ?_) (fun b => ?_) ?_)
        · have := unl_less (p := fun i => !listed.getD i false) (q := fun j => !(listed.setIfInBounds i true).getD j false) (i := i) (l := List.range ops.size) List.nodup_range (List.mem_range.2 his) (by rw [hun]; rfl) (by rw [hseti]; rfl) (fun j hj => by rw [hset j hj])
          omega
        · show _ = look (SS.at _ it).tm k
          rw [look_tm]
          cases ht : tmv it k with
          | none =>
            refine part_tm (fun j x hx hxk => ?_) rfl
            rw [Nat.zero_add]
            by_cases e : j = i
            · subst e; rw [hi1] at hx; injection hx with hx; subst hx; exact absurd ht hxk
            · exact hset j e
          | some v =>
            refine part_tm_last hi1 (by rw [Nat.zero_add]; exact hseti) ht (fun j x hj hx hxk => ?_)
            rw [Nat.zero_add, hset j (by omega)]
            cases e : listed.getD j false with
            | false => rfl
            | true => exact absurd ((hbehind j x hx hj e).ww k (by rw [ht]; simp)) hxk
        · show _ = look (SS.at _ it).bx b
          rw [look_bx]
          cases ht : bxv it b with
          | none =>
            refine part_bx (fun j x hx hxk => ?_) rfl
            rw [Nat.zero_add]
            by_cases e : j = i
            · subst e; rw [hi1] at hx; injection hx with hx; subst hx; exact absurd ht hxk
            · exact hset j e
          | some v =>
            refine part_bx_last hi1 (by rw [Nat.zero_add]; exact hseti) ht (fun j x hj hx hxk => ?_)
            rw [Nat.zero_add, hset j (by omega)]
            cases e : listed.getD j false with
            | false => rfl
            | true => exact absurd ((hbehind j x hx hj e).bw b (by rw [ht]; simp)) hxk
        · show _ = (SS.at _ it).n
          rw [at_n, part_n, part_n]
      unfold wpOp
      rw [ho]
      simp only
      split at hw
      · rename_i hwd
        rw [if_pos hwd]
        exact .inl (Oper.wp_mono hstep hw)
      · rename_i hwd
        rw [if_neg hwd]
        exact hstep _ _ hw
end
end Go.Proofs.Ythhgjloephkpaaa.Lx
namespace Go.Proofs.Ythhgjloephkpaaa
set_option linter.unusedVariables false
set_option linter.unusedSimpArgs false
open Go Go.RowKit Go.Proofs.YthhgjloephkpaaaW.PrintWords Go.Proofs.YthhgjloephkpaaaW.PrintLast
/-- How many words an amount, an integer has at most. -/
def FitN (k : Nat) (x : Nat) : Prop := (dg x).length ≤ k
def Fit (k : Nat) (z : Int) : Prop := FitN k z.natAbs
theorem FitN.mono {k m : Nat} {z : Nat} (h : FitN k z) (hm : k ≤ m) : FitN m z := Nat.le_trans h hm
theorem Fit.mono {k m : Nat} {z : Int} (h : Fit k z) (hm : k ≤ m) : Fit m z := Nat.le_trans h hm
theorem FitN.lt {k x : Nat} (h : FitN k x) : x < BW ^ k := Nat.lt_of_lt_of_le (dg_lt x) (Nat.pow_le_pow_right BW_pos h)
theorem FitN.of {k x : Nat} (h : x < BW ^ k) : FitN k x := dg_len_le h
theorem FitN.le {k x y : Nat} (h : FitN k y) (hx : x ≤ y) : FitN k x := Nat.le_trans (dg_len_mono hx) h
theorem FitN.add {k x y : Nat} (h : FitN k x) (h2 : FitN k y) : FitN (k + 1) (x + y) := FitN.of (by
  have a := h.lt; have b := h2.lt
  rw [Nat.pow_succ]
  have : BW ^ k * 2 ≤ BW ^ k * BW := Nat.mul_le_mul_left _ (by decide)
  omega)
theorem FitN.mul {k m x y : Nat} (h : FitN k x) (h2 : FitN m y) : FitN (k + m) (x * y) := FitN.of (by
  rw [Nat.pow_add]; exact Nat.mul_lt_mul'' h.lt h2.lt)
theorem FitN.sub {k x y : Nat} (h : FitN k x) : FitN k (x - y) := h.le (Nat.sub_le _ _)
theorem FitN.div {k x y : Nat} (h : FitN k x) : FitN k (x / y) := h.le (Nat.div_le_self _ _)
theorem FitN.mod {k m x y : Nat} (h : FitN k x) : FitN k (x % y) := h.le (Nat.mod_le _ _)
theorem Fit.sgn {k x : Nat} {b : Bool} (h : FitN k x) : Fit k (if b = true then -(x : Int) else (x : Int)) := by
  unfold Fit; cases b <;> simpa using h
theorem Fit.neg {k : Nat} {x : Int} (h : Fit k x) : Fit k (-x) := by unfold Fit at *; rwa [Int.natAbs_neg]
theorem Fit.mul {k m : Nat} {x y : Int} (h : Fit k x) (h2 : Fit m y) : Fit (k + m) (x * y) := by unfold Fit at *; rw [Int.natAbs_mul]; exact FitN.mul h h2
theorem Fit.add {k : Nat} {x y : Int} (h : Fit k x) (h2 : Fit k y) : Fit (k + 1) (x + y) := by
  unfold Fit at *; exact (FitN.add h h2).le (Int.natAbs_add_le x y)
theorem Fit.sub {k : Nat} {x y : Int} (h : Fit k x) (h2 : Fit k y) : Fit (k + 1) (x - y) := by rw [Int.sub_eq_add_neg]; exact h.add h2.neg
theorem Fit.int64 {z : Int} (h1 : -9223372036854775808 ≤ z) (h2 : z ≤ 9223372036854775808) : Fit 2 z := FitN.of (by
  rw [show BW ^ 2 = 18446744073709551616 from by decide]; omega)
theorem Fit.le {k : Nat} {x y : Int} (h : Fit k y) (hx : x.natAbs ≤ y.natAbs) : Fit k x := FitN.le h hx
theorem neg_eq (x : Int) : (if (!(decide (x < 0))) = true then -(((x).natAbs : Nat) : Int) else (((x).natAbs : Nat) : Int)) = -x := by
  by_cases h : x < 0 <;> simp [h] <;> omega
theorem mul_eq (x y : Int) : (if ((decide (x < 0)) != (decide (y < 0))) = true then -(((x.natAbs * y.natAbs : Nat)) : Int) else (((x.natAbs * y.natAbs : Nat)) : Int)) = x * y := by
  rw [← Int.natAbs_mul]
  by_cases h : x < 0 <;> by_cases k : y < 0
  · have := Int.mul_pos_of_neg_of_neg h k; simp [h, k]; omega
  · have := Int.mul_nonpos_of_nonpos_of_nonneg (Int.le_of_lt h) (by omega : 0 ≤ y); simp [h, k]; omega
  · have := Int.mul_nonpos_of_nonneg_of_nonpos (by omega : 0 ≤ x) (Int.le_of_lt k); simp [h, k]; omega
  · have := Int.mul_nonneg (by omega : 0 ≤ x) (by omega : 0 ≤ y); simp [h, k]; omega
/-- What a function says that answers with an integer of the reference, with an amount. -/
def RetW (w : World) (z : Int) (e : Ending) (w' : World) : Prop := (∃ v, e = .returned v ∧ Wh w' v z) ∧ Below w.heap.size w w'
def Sl (w : World) (v : Value) (x : Nat) : Prop := ∃ A n c, v = .slice A n c ∧ Wds w A n c (dg x)
def RetS (w : World) (x : Nat) (e : Ending) (w' : World) : Prop := (∃ v, e = .returned v ∧ Sl w' v x) ∧ Below w.heap.size w w'
def RetI (w : World) (z : Int) (e : Ending) (w' : World) : Prop := (∃ v, e = .returned v ∧ v = .int .i64 z) ∧ Below w.heap.size w w'
def RetB (w : World) (p : Prop) [Decidable p] (e : Ending) (w' : World) : Prop := (∃ v, e = .returned v ∧ v = .bool (decide p)) ∧ Below w.heap.size w w'
theorem times_c {A B : Option Addr} {n c m d x y : Nat} {w : World} (hx : Wds w A n c (dg x)) (hy : Wds w B m d (dg y)) (fx : FitN 100000000 x) (fy : FitN 100000000 y) :
    Calls Try.prog 108 #[.slice A n c, .slice B m d] w (RetS w (x * y)) :=
  (times_any A B n c m d x y w hx hy (by rw [← hx.len]; exact Nat.le_trans fx (by decide)) (by rw [← hy.len]; exact Nat.le_trans fy (by decide))).mono fun e w' ⟨⟨R, r, k, he, h⟩, hb⟩ => ⟨⟨_, he, _, _, _, rfl, h⟩, hb⟩
theorem plus_c {A B : Option Addr} {n c m d x y : Nat} {w : World} (hx : Wds w A n c (dg x)) (hy : Wds w B m d (dg y)) (fx : FitN 100000000 x) (fy : FitN 100000000 y) :
    Calls Try.prog 121 #[.slice A n c, .slice B m d] w (RetS w (x + y)) :=
  (plus_any A B n c m d x y w hx hy (by rw [← hx.len]; exact Nat.le_trans fx (by decide)) (by rw [← hy.len]; exact Nat.le_trans fy (by decide))).mono fun e w' ⟨⟨R, r, k, he, h⟩, hb⟩ => ⟨⟨_, he, _, _, _, rfl, h⟩, hb⟩
theorem less_c {A B : Option Addr} {n c m d x y : Nat} {w : World} (hx : Wds w A n c (dg x)) (hy : Wds w B m d (dg y)) (fx : FitN 100000000 x) (hyx : y ≤ x) :
    Calls Try.prog 122 #[.slice A n c, .slice B m d] w (RetS w (x - y)) :=
  (less_any A B n c m d x y w hx hy (by rw [← hx.len]; exact Nat.le_trans fx (by decide)) hyx).mono fun e w' ⟨⟨R, r, k, he, h⟩, hb⟩ => ⟨⟨_, he, _, _, _, rfl, h⟩, hb⟩
theorem below_drewN (w : World) (q : Nat) : Below w.heap.size w (w.drewN q) := pw_below_drewN (Below.refl _ _) q
theorem order_c {A B : Option Addr} {n c m d x y : Nat} {w : World} (hx : Wds w A n c (dg x)) (hy : Wds w B m d (dg y)) :
    Calls Try.prog 110 #[.slice A n c, .slice B m d] w (RetI w (cmpN x y)) :=
  (order_any A B n c m d x y w hx hy).mono fun e w' ⟨he, q, hq⟩ => ⟨⟨_, he, rfl⟩, by subst hq; exact below_drewN w q⟩
theorem cmpWords_c {A B : Option Addr} {n c m d x y : Nat} {w : World} (hx : Wds w A n c (dg x)) (hy : Wds w B m d (dg y)) :
    Calls Try.prog 114 #[.slice A n c, .slice B m d] w (RetI w (cmpN x y)) :=
  (cmpWords_any A B n c m d x y w hx hy).mono fun e w' ⟨he, q, hq⟩ => ⟨⟨_, he, rfl⟩, by subst hq; exact below_drewN w q⟩

theorem dg_len_pos {x : Nat} : decide ((0 : Int) < ((dg x).length : Nat)) = decide (0 < x) := by
  by_cases h : x = 0
  · subst h; simp [dg_zero]
  · have : dg x ≠ [] := fun e => h (dg_ne_nil.1 e)
    have h2 : 0 < (dg x).length := List.length_pos_iff.2 this
    simp; omega
set_option maxRecDepth 100000 in
set_option maxHeartbeats 1000000 in
theorem signed_any (A : Option Addr) (n c x : Nat) (b : Bool) (w : World) (h : Wds w A n c (dg x)) :
    Calls Try.prog 106 #[.slice A n c, .bool b] w (RetW w (if b = true then -(x : Int) else (x : Int))) := by
  have HL := h.len
  have HP : decide ((0 : Int) < (n : Int)) = decide (0 < x) := by rw [← HL, dg_len_pos]
  cases b
  · have H := Lib.hid h
    clear h HL HP
    go_enter Try.func106, Try.ntmps106
    go_wp2
    go_returns
    exact ⟨⟨_, rfl, A, n, c, by rw [show decide ((x : Int) < 0) = false from decide_eq_false (by omega)], H.out.below ((Below.refl _ _).alloc (Nat.le_refl _) _)⟩, (Below.refl _ _).alloc (Nat.le_refl _) _⟩
  · have e1 : decide ((-(x : Int)) < 0) = decide ((0 : Int) < (n : Int)) := by rw [HP]; exact decide_eq_decide.2 (by omega)
    have e2 : (-(x : Int)).natAbs = x := by omega
    have H : Hid (∀ w', Below w.heap.size w w' → Wh w' (.agg #[.slice A n c, .bool (decide (0 < n))]) (-(x : Int))) := Lib.hid fun w' hb => ⟨A, n, c, by rw [e1, show decide ((0 : Int) < (n : Int)) = decide (0 < n) from decide_eq_decide.2 (by omega)], by rw [e2]; exact h.below hb⟩
    clear h HL HP e1 e2
    go_enter Try.func106, Try.ntmps106
    go_wp2
    go_returns
    exact ⟨⟨_, rfl, H.out _ ((Below.refl _ _).alloc (Nat.le_refl _) _)⟩, (Below.refl _ _).alloc (Nat.le_refl _) _⟩
set_option maxRecDepth 100000 in
set_option maxHeartbeats 1000000 in
theorem isNought_any {v : Value} {z : Int} {w : World} (h : Wh w v z) : Calls Try.prog 98 #[v] w (RetB w (z = 0)) := by
  obtain ⟨A, n, c, rfl, h2⟩ := h
  have HP : Hid (((n : Int) == 0) = decide (z = 0)) := Lib.hid (by
    rw [← h2.len]
    by_cases hz : z = 0
    · subst hz; simp [dg_zero]
    · have : dg z.natAbs ≠ [] := fun e => hz (by have := dg_ne_nil.1 e; omega)
      have h3 : 0 < (dg z.natAbs).length := List.length_pos_iff.2 this
      simp [hz]; omega)
  clear h2
  go_enter Try.func98, Try.ntmps98
  go_wp2
  go_ret
  exact ⟨⟨_, rfl, by rw [← HP.out]; rfl⟩, by go_grown⟩
theorem dg_one : dg 1 = [1] := by rw [dg_pos (by decide)]; rw [show 1 / BW = 0 from rfl, dg_zero]; rfl
theorem dg_is_one {x : Nat} {n : Nat} (hn : (dg x).length = n) (h1 : n = 1) : ((dg x).getD 0 0 = 1) ↔ x = 1 := by
  constructor
  · intro h
    have hv := val_dg x
    cases hd : dg x with
    | nil => rw [hd] at hn; simp at hn; omega
    | cons a l =>
      cases l with
      | nil => rw [hd] at h hv; simp at h; rw [h] at hv; rw [← hv]; rfl
      | cons b l => rw [hd] at hn; simp at hn; omega
  · rintro rfl; rw [dg_one]; rfl
theorem lit_one (W : World) : Wds (W.alloc (.cells #[.int .u32 1] 100)) (some ⟨W.heap.size, 0, none⟩) 1 1 (dg 1) := by
  have h := lit_wds W [1] (by simp)
  rw [dg_one]
  simpa [us, nums] using h
set_option maxRecDepth 100000 in
theorem run_one (ρ : Operand → Value) (o : Oper) (w : World) (ho : o.op = .buildSlice 36 1 #[(0, .const (.int .u32 1))]) (hc : ρ (.const (.int .u32 1)) = .int .u32 1) : (execOp ρ o).run Try.prog w = .ok (.value (.slice (some ⟨w.heap.size, 0, none⟩) 1 1)) (w.alloc (.cells #[.int .u32 1] 100)) := by
  unfold execOp
  simp only [ho, List.map_toArray, List.map_cons, List.map_nil, hc]
  first | kernel_rfl | simp [go_sem]
set_option maxRecDepth 100000 in
theorem o_one {Q : Exit → Act → World → Prop} {o : Oper} {a : Act} {w w0 : World} {K : Act → World → Prop} {L : List Bx} (ho : o.op = .buildSlice 36 1 #[(0, .const (.int .u32 1))]) (hs : St w0 w L)
    (h : ∀ A w', Wds w' A 1 1 (dg 1) → St w0 w' L → U w w' → K (a.put o.dst (.slice A 1 1)) w') : o.wp Try.prog a w K Q := by
  have hr := run_one a.eval o w ho rfl
  unfold Oper.wp
  rw [hr]
  have hb : Below w.heap.size w (w.alloc (.cells #[.int .u32 1] 100)) := (Below.refl _ _).alloc (Nat.le_refl _) _
  exact h _ _ (lit_one w) (hs.below hb) (U.of_below hb)
theorem FitN_one : FitN 1 1 := by unfold FitN; rw [dg_one]; simp
theorem cmpN_le {x y : Nat} (h : y ≤ x) : decide ((0 : Int) ≤ cmpN x y) = true := by
  unfold cmpN; split
  · omega
  · split <;> simp
theorem cmpN_nle {x y : Nat} (h : ¬ y ≤ x) : decide ((0 : Int) ≤ cmpN x y) = false := by
  rw [cmpN_lt (by omega)]; rfl
theorem add_same {x y : Int} {s t : Bool} (h : decide (x < 0) = s) (k : decide (y < 0) = t) (e : s = t) : (if s = true then -(((x.natAbs + y.natAbs : Nat)) : Int) else (((x.natAbs + y.natAbs : Nat)) : Int)) = x + y := by
  subst e; cases s
  · have := of_decide_eq_false h; have := of_decide_eq_false k; simp; omega
  · have := of_decide_eq_true h; have := of_decide_eq_true k; simp; omega
theorem add_less {x y : Int} {s t : Bool} (h : decide (x < 0) = s) (k : decide (y < 0) = t) (e : ¬ s = t) (hl : y.natAbs ≤ x.natAbs) : (if s = true then -(((x.natAbs - y.natAbs : Nat)) : Int) else (((x.natAbs - y.natAbs : Nat)) : Int)) = x + y := by
  cases s <;> cases t
  · exact absurd rfl e
  · have := of_decide_eq_false h; have := of_decide_eq_true k; simp; omega
  · have := of_decide_eq_true h; have := of_decide_eq_false k; simp; omega
  · exact absurd rfl e
theorem add_less' {x y : Int} {s t : Bool} (h : decide (x < 0) = s) (k : decide (y < 0) = t) (e : ¬ s = t) (hl : ¬ y.natAbs ≤ x.natAbs) : (if t = true then -(((y.natAbs - x.natAbs : Nat)) : Int) else (((y.natAbs - x.natAbs : Nat)) : Int)) = x + y := by
  rw [add_less k h (fun h => e h.symm) (by omega)]; omega
theorem wh_one {w : World} {A : Option Addr} (h : Wds w A 1 1 (dg 1)) : Wh w (.agg #[.slice A 1 1, .bool false]) 1 := ⟨A, 1, 1, rfl, h⟩
theorem cmp_diff {x y : Int} {s t : Bool} (h : decide (x < 0) = s) (k : decide (y < 0) = t) (e : ¬ s = t) : cmpZ x y = if s = true then -1 else 1 := by
  unfold cmpZ
  cases s <;> cases t
  · exact absurd rfl e
  · have := of_decide_eq_false h; have := of_decide_eq_true k; rw [if_neg (by omega), if_neg (by omega)]; rfl
  · have := of_decide_eq_true h; have := of_decide_eq_false k; rw [if_pos (by omega)]; rfl
  · exact absurd rfl e
theorem cmp_pos {x y : Int} (h : ¬ x < 0) (k : ¬ y < 0) : cmpN x.natAbs y.natAbs = cmpZ x y := by
  unfold cmpN cmpZ
  by_cases h1 : x < y
  · rw [if_pos h1, if_pos (by omega)]
  · by_cases h2 : x = y
    · rw [if_neg h1, if_neg (by omega), if_pos (by omega), if_pos h2]
    · rw [if_neg h1, if_neg (by omega), if_neg (by omega), if_neg h2]
theorem cmp_neg {x y : Int} (h : x < 0) (k : y < 0) : IntKind.i64.wrap (-(cmpN x.natAbs y.natAbs)) = cmpZ x y := by
  unfold cmpN cmpZ
  by_cases h1 : x < y
  · rw [if_pos h1, if_neg (by omega), if_neg (by omega)]; rfl
  · by_cases h2 : x = y
    · rw [if_neg h1, if_neg (by omega), if_pos (by omega), if_pos h2]; rfl
    · rw [if_neg h1, if_pos (by omega), if_neg h2]; rfl
end Go.Proofs.Ythhgjloephkpaaa
namespace Go.Proofs.Ythhgjloephkpaaa
set_option linter.unusedVariables false
set_option linter.unusedSimpArgs false
open Go Go.RowKit Go.Proofs.YthhgjloephkpaaaW.PrintWords Go.Proofs.YthhgjloephkpaaaW.PrintLast
theorem pz {ts : Array Value} {df : List Deferred} {v : Value} : (Act.mk ts df).put none v = ⟨ts, df⟩ := rfl
theorem pb {α : Type} {l : List α} {i : Nat} {x : α} : l.toArray.setIfInBounds i x = (l.set i x).toArray := List.setIfInBounds_toArray ..
section
variable {P : Program} {ops : Array Oper} {rest : List Oper} {Q : Exit → Act → World → Prop} {o : Oper} {a : Act} {w w0 : World} {K : Act → World → Prop} {L : List Bx}
/-- What a step that may be taken first has to meet. -/
def tkOk (md : Region.Mode) (ops : Array Oper) (f : Nat → Bool) (listed : Array Bool) (i : Nat) : Bool :=
  Region.noSelect ops && (Region.free md ops listed i && ((Region.ready md ops listed).contains i && (waitsT md ops f i && shutT md ops listed)))
end
theorem MI {α : Type} {L : List α} {i : Nat} {e : α} (h : L[i]? = some e) : e ∈ L := List.mem_of_getElem? h
theorem PA : (∀ {ts : Array Value} {df : List Deferred} {i : Nat} {v : Value}, (Act.mk ts df).put (some i) v = ⟨ts.setIfInBounds i v, df⟩) ∧ (∀ {ts : Array Value} {df : List Deferred} {v : Value}, (Act.mk ts df).put none v = ⟨ts, df⟩) ∧ (∀ {α : Type} {l : List α} {i : Nat} {x : α}, l.toArray.setIfInBounds i x = (l.set i x).toArray) ∧ (∀ {α : Type} {l : List α} {x y : α}, (x :: l).set 0 y = y :: l) ∧ (∀ {α : Type} {l : List α} {n : Nat} {x y : α}, (x :: l).set (n + 1) y = x :: l.set n y) := ⟨rfl, rfl, List.setIfInBounds_toArray .., rfl, rfl⟩
section
variable {P : Program} {ops : Array Oper} {rest : List Oper} {Q : Exit → Act → World → Prop} {o : Oper} {a : Act} {w w0 : World} {K : Act → World → Prop} {L : List Bx}
theorem PV (v : Value) (hr : (execOp a.eval o).run P w = .ok (.value v) w) (hg : o.guard = none) (h : wpList P ops Q rest (a.put o.dst v) w) : wpList P ops Q (o :: rest) a w :=
  wpList_plain hg fun K hK => o_val v hr (hK _ _ h)
theorem CT {x : Operand → Value} {v v' : Value} (hr : (execOp x o).run P w = .ok (.value v) w) (h : v = v') : (execOp x o).run P w = .ok (.value v') w := h ▸ hr
theorem TK {md : Region.Mode} {S : World → Prop} {f : Nat → Bool} {i : Nat} {oi : Oper} (v : Value) {fuel : Nat} {listed : Array Bool} (hi : ops.toList[i]? = some oi) (hc : tkOk md ops f listed i = true)
    (hQ : ∀ c a w, Q (.panic c) (a.put oi.dst v) w → Q (.panic c) a w) (hwd : Region.wanted oi (yielded ops a.tmps) = true) (hy : ∀ w, S w → (execOp a.eval oi).run P w = .ok (.value v) w) (hS : S w)
    (h : wpAnyT P md ops Q S f fuel (listed.setIfInBounds i true) (a.put oi.dst v) w) : wpAnyT P md ops Q S f (fuel + 1) listed a w :=
  have h1 := Bool.and_eq_true_iff.1 hc
  have h2 := Bool.and_eq_true_iff.1 h1.2
  have h3 := Bool.and_eq_true_iff.1 h2.2
  anyT_take v hi h1.1 h2.1 h3.1 h3.2 hQ hwd hy hS h
end
@[reducible] def GD (l : List Value) (i : Nat) : Value := l.getD i undef
@[reducible] def gd (l : List Value) (i : Nat) : Value := l.getD i undef
@[reducible] def O : Value := undef
@[reducible] def I (x : Int) : Value := .int .i64 x
@[reducible] def J (x : Int) : Value := .int .u64 x
@[reducible] def E (a : Option Addr) (n c : Nat) : Value := .slice a n c
@[reducible] def T (b : Bool) : Value := .bool b
@[reducible] def PT (g k : Nat) : Value := .pointer (some ⟨g, k, none⟩)
@[reducible] def Z3 (i : Int) (a : Option Addr) (n c : Nat) (s : Bool) : Array Value := #[.int .i64 i, .slice a n c, .bool s]
@[reducible] def Z6c (i : Int) (a : Option Addr) (n c : Nat) (s : Bool) (j : Int) (b : Option Addr) (m d : Nat) (t : Bool) : Array Value := #[.int .i64 i, .slice a n c, .bool s, .int .i64 j, .slice b m d, .bool t]
@[reducible] def W2 (a : Option Addr) (n c : Nat) (s : Bool) : Array Value := #[.slice a n c, .bool s]
@[reducible] def AZ (i : Int) (a : Option Addr) (n c : Nat) (s : Bool) : Value := .agg #[.int .i64 i, .slice a n c, .bool s]
@[reducible] def AQ (i : Int) (a : Option Addr) (n c : Nat) (s : Bool) (j : Int) (b : Option Addr) (m d : Nat) (t : Bool) : Value := .agg #[.int .i64 i, .slice a n c, .bool s, .int .i64 j, .slice b m d, .bool t]
@[reducible] def AW (a : Option Addr) (n c : Nat) (s : Bool) : Value := .agg #[.slice a n c, .bool s]
section
variable {P : Program} {Q : Exit → Act → World → Prop} {o : Oper} {a : Act} {w w0 : World} {K : Act → World → Prop} {L : List Bx}
theorem OS {ty : TypeId} {x y : Operand} {g off : Nat} (i : Nat) {cs : Array Value} {t : TypeId} (vs : List Value) (new : Array Value) (hs : St w0 w L) (hz : (sizeOf ty).run P w = .ok vs.length w)
    (h : ∀ w', St w0 w' (L.set i ⟨g, new, t⟩) → U w w' → K (a.put o.dst undef) w') (ho : o.op = .store ty x y := by rfl) (hx : a.eval x = .pointer (some ⟨g, off, none⟩) := by rfl) (hy : (a.eval y).cells = vs.toArray := by rfl)
    (hi : L[i]? = some ⟨g, cs, t⟩ := by rfl) (hb : Nat.ble (off + vs.length) cs.size = true := by rfl) (h1 : vs.all Value.oneCell' = true := by rfl)
    (hnew : (cs.toList.take off ++ vs ++ cs.toList.drop (off + vs.length)).toArray = new := by rfl) (hno : cs.toList.all noW = true := by rfl) : o.wp P a w K Q :=
  o_store i vs new _ ho hx hy hs hi hz (Nat.le_of_ble_eq_true hb) (List.all_eq_true.1 h1) hnew hno rfl h
theorem OT {ty : TypeId} {x y : Operand} {g off : Nat} (i : Nat) {cs : Array Value} {t : TypeId} (new : Array Value) (hs : St w0 w L) (hz : (sizeOf ty).run P w = .ok new.toList.length w)
    (h : ∀ w', St w0 w' (L.set i ⟨g, new, t⟩) → U w w' → K (a.put o.dst undef) w') (ho : o.op = .store ty x y := by rfl) (hx : a.eval x = .pointer (some ⟨g, off, none⟩) := by rfl) (hy : (a.eval y).cells = new.toList.toArray := by rfl)
    (hi : L[i]? = some ⟨g, cs, t⟩ := by rfl) (hb : Nat.ble (off + new.toList.length) cs.size = true := by rfl) (h1 : new.toList.all Value.oneCell' = true := by rfl)
    (hnew : (cs.toList.take off ++ new.toList ++ cs.toList.drop (off + new.toList.length)).toArray = new := by rfl) (hno : cs.toList.all noW = true := by rfl) : o.wp P a w K Q :=
  OS i new.toList new hs hz h ho hx hy hi hb h1 hnew hno
end
end Go.Proofs.Ythhgjloephkpaaa
