/- Words and walks for the row RowRatField, put together: LX9, RL, RUX, RM, RS, RUB, LX10, LX11, RJ. -/
import Derived.Test.YthhgjloephkpaaaFi3
import Derived.Test.YthhgjloephkpaaaFi2
import Derived.Scope
import Derived.Test.YthhgjloephkpaaaFi1
namespace Go.Proofs.Ythhgjloephkpaaa.Lx
set_option linter.unusedVariables false
set_option linter.unusedSimpArgs false
open Go Go.RowKit Go.Proofs.Ythhgjloephkpaaa Go.Proofs.YthhgjloephkpaaaW.PrintWords Go.Proofs.YthhgjloephkpaaaW.PrintLast

def memN (n : Nat) : List Nat → Bool
  | [] => false
  | m :: l => Nat.beq m n || memN n l
theorem memN_spec {n : Nat} : ∀ {l : List Nat}, n ∈ l → memN n l = true
  | m :: l, h => by
    unfold memN
    rw [Bool.or_eq_true]
    rcases List.mem_cons.1 h with e | e
    · subst e; exact .inl (Nat.beq_refl _)
    · exact .inr (memN_spec e)
def isN (o : Option Nat) (n : Nat) : Bool := match o with
  | some m => Nat.beq m n
  | none => false
theorem isN_spec {o : Option Nat} {n : Nat} (h : o = some n) : isN o n = true := by subst h; exact Nat.beq_refl _
def wT (it : It) : Option Nat := match it.ev with
  | .sto _ _ _ => none
  | _ => it.o.dst
def wB (it : It) : Option Nat := match it.ev with
  | .box nm _ _ => some nm
  | .sto b _ _ => some b
  | .val _ => none
theorem wT_spec {it : It} {k : Nat} (h : tmv it k ≠ none) : wT it = some k := by
  unfold tmv at h
  unfold wT
  split at h
  · rename_i d v h1 h2
    rw [h2]
    by_cases e : d = k
    · subst e; exact h1
    · rw [if_neg e] at h; exact absurd rfl h
  · rename_i d nm ty l h1 h2
    rw [h2]
    by_cases e : d = k
    · subst e; exact h1
    · rw [if_neg e] at h; exact absurd rfl h
  · exact absurd rfl h
theorem wB_spec {it : It} {k : Nat} (h : bxv it k ≠ none) : wB it = some k := by
  unfold bxv at h
  unfold wB
  split at h
  · rename_i nm ty l h1 h2
    rw [h2]
    by_cases e : nm = k
    · subst e; rfl
    · rw [if_neg e] at h; exact absurd rfl h
  · rename_i b ty l h2
    rw [h2]
    by_cases e : b = k
    · subst e; rfl
    · rw [if_neg e] at h; exact absurd rfl h
  · exact absurd rfl h
def notN (b : Nat) : Nat → Bool := fun c => !Nat.beq c b
/-- The item x, ahead of y in the text, has a part in what y looks at or leaves, or y in what x does. -/
def confl (ops : Array Oper) (x y : It) : Bool :=
  (match wT x with
  | some d => memN d (y.o.looksAt ops) || isN (wT y) d
  | none => false) ||
  ((match wT y with
  | some d => memN d (x.o.looksAt ops)
  | none => false) ||
  ((match wB x with
  | some b => isN y.rb b || (isN (wB y) b || !y.ev.nm (notN b))
  | none => false) ||
  (match wB y with
  | some b => isN x.rb b
  | none => false)))
def pairOk (ops : Array Oper) (i j : Nat) (x y : It) : Bool :=
  (!confl ops x y || needsT .any ops i ops.size j) && (match y.ev with
  | .box b _ _ => x.ev.nm (notN b) && !isN (wB x) b
  | _ => true)
def indY (ops : Array Oper) (i : Nat) (x : It) : Nat → List It → Bool
  | _, [] => true
  | j, y :: l => pairOk ops i j x y && indY ops i x (j + 1) l
def indR (ops : Array Oper) : Nat → List It → Bool
  | _, [] => true
  | i, x :: l => x.o.after.toList.all (fun e => !Region.binds .any e || Nat.blt e.on i) && (indY ops i x (i + 1) l && indR ops (i + 1) l)
theorem indY_spec {ops : Array Oper} {i : Nat} {x : It} : ∀ {l : List It} {j k : Nat} {y : It}, indY ops i x j l = true → l[k]? = some y → pairOk ops i (j + k) x y = true
  | [], j, k, y, h, e => by simp at e
  | z :: l, j, k, y, h, e => by
    unfold indY at h
    rw [Bool.and_eq_true] at h
    cases k with
    | zero => simp at e; subst e; exact h.1
    | succ k =>
      have := indY_spec (k := k) h.2 (by simpa using e)
      rw [show j + (k + 1) = j + 1 + k from by omega]; exact this
theorem indR_spec {ops : Array Oper} : ∀ {l : List It} {i k : Nat} {x : It}, indR ops i l = true → l[k]? = some x →
    (∀ e ∈ x.o.after, Region.binds .any e = true → e.on < i + k) ∧ ∀ m y, k < m → l[m]? = some y → pairOk ops (i + k) (i + m) x y = true
  | [], i, k, x, h, e => by simp at e
  | z :: l, i, k, x, h, e => by
    unfold indR at h
    rw [Bool.and_eq_true, Bool.and_eq_true] at h
    cases k with
    | zero =>
      simp at e; subst e
      refine ⟨fun e he hb => ?_, fun m y hm hy => ?_⟩
      · have h1 := List.all_eq_true.1 h.1 e (by simpa using he)
        rw [hb] at h1
        have := blt_lt (by simpa using h1)
        omega
      · obtain ⟨m, rfl⟩ : ∃ n, m = n + 1 := ⟨m - 1, by omega⟩
        have := indY_spec (k := m) h.2.1 (by simpa using hy)
        rw [show i + (m + 1) = i + 1 + m from by omega]; exact this
    | succ k =>
      obtain ⟨h1, h2⟩ := indR_spec (k := k) h.2.2 (by simpa using e)
      refine ⟨fun e he hb => by have := h1 e he hb; omega, fun m y hm hy => ?_⟩
      obtain ⟨m, rfl⟩ : ∃ n, m = n + 1 := ⟨m - 1, by omega⟩
      have := h2 m y (by omega) (by simpa using hy)
      rw [show i + (m + 1) = i + 1 + m from by omega, show i + (k + 1) = i + 1 + k from by omega]; exact this
theorem unl_less {p q : Nat → Bool} {i : Nat} : ∀ {l : List Nat}, l.Nodup → i ∈ l → p i = true → q i = false → (∀ j, j ≠ i → q j = p j) → (l.filter q).length + 1 = (l.filter p).length
  | x :: l, hn, hi, hp, hq, h => by
    rw [List.nodup_cons] at hn
    rw [List.filter_cons, List.filter_cons]
    rcases List.mem_cons.1 hi with e | e
    · subst e
      rw [hp, hq]
      have : l.filter q = l.filter p := List.filter_congr fun j hj => h j fun e => hn.1 (e ▸ hj)
      simp [this]
    · have hxi : x ≠ i := fun e1 => hn.1 (e1 ▸ e)
      rw [h x hxi]
      have ih := unl_less hn.2 e hp hq h
      split
      · simp; omega
      · exact ih
section
variable {P : Program} {ops : Array Oper} {w0 : World} {s0 : Kst} {Q : Exit → Act → World → Prop} {S0 S' : SS} {its : List It}
theorem bor {a b : Bool} (h : (a || b) = false) : a = false ∧ b = false := by cases a <;> cases b <;> simp_all
/-- What does not depend on each other. -/
structure Apart (ops : Array Oper) (x y : It) : Prop where
  wr : ∀ k, tmv x k ≠ none → k ∉ y.o.looksAt ops
  ww : ∀ k, tmv x k ≠ none → tmv y k = none
  rw : ∀ k, tmv y k ≠ none → k ∉ x.o.looksAt ops
  br : ∀ b, bxv x b ≠ none → y.rb ≠ some b
  bw : ∀ b, bxv x b ≠ none → bxv y b = none
  rb : ∀ b, bxv y b ≠ none → x.rb ≠ some b
  nm : ∀ b, wB x = some b → y.ev.nm (notN b) = true
theorem confl_spec {x y : It} (h : confl ops x y = false) : Apart ops x y := by
  unfold confl at h
  obtain ⟨h1, h⟩ := bor h
  obtain ⟨h2, h⟩ := bor h
  obtain ⟨h3, h4⟩ := bor h
  refine ⟨fun k hk hm => ?_, fun k hk => ?_, fun k hk hm => ?_, fun b hb hm => ?_, fun b hb => ?_, fun b hb hm => ?_, fun b hb => ?_⟩
  · rw [wT_spec hk] at h1
    simp only at h1
    have := (bor h1).1
    rw [memN_spec hm] at this; cases this
  · rw [wT_spec hk] at h1
    simp only at h1
    cases e : tmv y k with
    | none => rfl
    | some v =>
      have := (bor h1).2
      rw [isN_spec (wT_spec (by rw [e]; simp))] at this; cases this
  · rw [wT_spec hk] at h2
    simp only at h2
    rw [memN_spec hm] at h2; cases h2
  · rw [wB_spec hb] at h3
    simp only at h3
    have := (bor h3).1
    rw [isN_spec hm] at this; cases this
  · rw [wB_spec hb] at h3
    simp only at h3
    cases e : bxv y b with
    | none => rfl
    | some v =>
      have := (bor (bor h3).2).1
      rw [isN_spec (wB_spec (by rw [e]; simp))] at this; cases this
  · rw [wB_spec hb] at h4
    simp only at h4
    rw [isN_spec hm] at h4; cases h4
  · rw [hb] at h3
    simp only at h3
    have := (bor (bor h3).2).2
    simpa using this
theorem box_bxv {it : It} {nm : Nat} {ty : TypeId} {l : List SV} {S : SS} (h : ItOk P ops S it) (e : it.ev = .box nm ty l) : bxv it nm = some (ty, l) := by
  cases hon : it.on with
  | false => rw [(h.off hon).1] at e; cases e
  | true =>
    rcases h.act hon with ⟨_, v, u, _, _, e'⟩ | ⟨ef, he, hm⟩
    · rw [e'] at e; cases e
    cases ef with
    | pure v => obtain ⟨u, _, e'⟩ := hm; rw [e'] at e; cases e
    | store b' t l' => rw [show it.ev = _ from hm] at e; cases e
    | call f args => obtain ⟨r, u, _, _, e'⟩ := hm; rw [e'] at e; cases e
    | alloc t l' =>
      obtain ⟨hs, _⟩ := hm
      obtain ⟨d, hd⟩ := Option.isSome_iff_exists.1 hs
      unfold bxv
      rw [hd, e]
      simp
theorem nm_of_tmv {it : It} {k : Nat} {v : TV} {p : Nat → Bool} (h : tmv it k = some v) (hp : it.ev.nm p = true) (hb : ∀ b, wB it = some b → p b = true) : v.nm p = true := by
  unfold tmv at h
  split at h
  · rename_i d u h1 h2
    by_cases e : d = k
    · rw [if_pos e] at h; injection h with h; subst h
      rw [h2] at hp; exact hp
    · rw [if_neg e] at h; cases h
  · rename_i d nm ty l h1 h2
    by_cases e : d = k
    · rw [if_pos e] at h; injection h with h; subst h
      have := hb nm (by unfold wB; rw [h2])
      show [SV.ptr nm 0].all (SV.nm p) = true
      simp [SV.nm, this]
    · rw [if_neg e] at h; cases h
  · cases h
theorem nm_of_bxv {it : It} {k : Nat} {ty : TypeId} {l : List SV} {p : Nat → Bool} (h : bxv it k = some (ty, l)) (hp : it.ev.nm p = true) : l.all (SV.nm p) = true := by
  unfold bxv at h
  split at h
  · rename_i nm t l' h1 h2
    by_cases e : nm = k
    · rw [if_pos e] at h; injection h with h; injection h with e1 e2; subst e1 e2
      rw [h2] at hp; exact hp
    · rw [if_neg e] at h; cases h
  · rename_i c t l' h2
    by_cases e : c = k
    · rw [if_pos e] at h; injection h with h; injection h with e1 e2; subst e1 e2
      rw [h2] at hp; exact hp
    · rw [if_neg e] at h; cases h
  · cases h
theorem any_go (hind : indR ops 0 its = true) (hch : Chain P ops S0 its S') (hwf : Wf S0) (hops : its.map It.o = ops.toList) (hq : ∀ a w, Ok w0 s0 S' a w → Q .normal a w) :
    ∀ (fuel : Nat) (listed : Array Bool) (a : Act) (w : World), listed.size = ops.size → ShutT .any ops listed → ((List.range ops.size).filter fun i => !listed.getD i false).length = fuel →
      Ok w0 s0 (part (fun i => listed.getD i false) 0 its S0) a w → wpAny P .any ops Q fuel listed a w := by
  have hit : ∀ (i : Nat) (o : Oper), ops[i]? = some o → ∃ it : It, its[i]? = some it ∧ it.o = o := fun i o h => by
    have h1 : (its.map It.o)[i]? = some o := by rw [hops]; simpa using h
    rw [List.getElem?_map] at h1
    cases e : its[i]? with
    | none => rw [e] at h1; cases h1
    | some it => rw [e] at h1; exact ⟨it, rfl, by simpa using h1⟩
  have hio : ∀ (i : Nat) (it : It), its[i]? = some it → ops[i]? = some it.o := fun i it h => by
    have h1 : (its.map It.o)[i]? = some it.o := by rw [List.getElem?_map, h]; rfl
    rw [hops] at h1
    simpa using h1
  have hall : ∀ (listed : Array Bool) (a : Act) (w : World), listed.size = ops.size → (∀ i : Nat, i < ops.size → listed.getD i false = true) → Ok w0 s0 (part (fun i => listed.getD i false) 0 its S0) a w → Q .normal a w := fun listed a w hz hl hk => by
    refine hq a w (hk.congr (fun k => ?_) (fun b => ?_) ?_)
    · rw [← chain_end (off := 0) hch]
      exact part_tm (fun j it hj _ => by
        have := (Array.getElem?_eq_some_iff.1 (hio j it hj)).1
        simp [hl j this]) rfl
    · rw [← chain_end (off := 0) hch]
      exact part_bx (fun j it hj _ => by
        have := (Array.getElem?_eq_some_iff.1 (hio j it hj)).1
        simp [hl j this]) rfl
    · rw [← chain_end (off := 0) hch, part_n, part_n]
  have hgd : ∀ (listed : Array Bool) (i : Nat), listed.size = ops.size → i < ops.size → listed.getD i true = listed.getD i false := fun listed i hz hi => by
    have : i < listed.size := by omega
    simp [this]
  intro fuel
  induction fuel with
  | zero =>
    intro listed a w hz hsh hf hk
    have hl : ∀ i, i < ops.size → listed.getD i false = true := fun i hi => by
      cases e : listed.getD i false with
      | true => rfl
      | false =>
        have : i ∈ (List.range ops.size).filter fun i => !listed.getD i false := List.mem_filter.2 ⟨List.mem_range.2 hi, by rw [e]; rfl⟩
        rw [List.length_eq_zero_iff.1 hf] at this
        cases this
    refine ⟨?_, hall listed a w hz hl hk⟩
    apply List.eq_nil_iff_forall_not_mem.2
    intro j hj
    obtain ⟨h1, o, h2, _⟩ := mem_ready.1 hj
    have hjs := (Array.getElem?_eq_some_iff.1 h2).1
    rw [hgd listed j hz hjs, hl j hjs] at h1
    cases h1
  | succ fuel ih =>
    intro listed a w hz hsh hf hk
    refine ⟨fun hr => ?_, fun i hi => ?_⟩
    · refine hall listed a w hz (fun i => ?_) hk
      induction i using Nat.strongRecOn with
      | _ i ihi =>
        intro hlt
        cases e : listed.getD i false with
        | true => rfl
        | false =>
          exfalso
          obtain ⟨o, ho⟩ : ∃ o, ops[i]? = some o := ⟨ops[i], Array.getElem?_eq_getElem hlt⟩
          obtain ⟨it, h1, h2⟩ := hit i o ho
          have h3 := (indR_spec hind h1).1
          have : i ∈ Region.ready .any ops listed := mem_ready.2 ⟨by rw [hgd listed i hz hlt]; exact e, o, ho, fun e' he' hb => by
            have hlt' := h3 e' (by rw [h2]; exact he') hb
            rw [Nat.zero_add] at hlt'
            exact ihi e'.on hlt' (by omega)⟩
          rw [hr] at this
          cases this
    · obtain ⟨hun, o, ho, hafter⟩ := mem_ready.1 hi
      have his := (Array.getElem?_eq_some_iff.1 ho).1
      rw [hgd listed i hz his] at hun
      obtain ⟨it, hi1, hi2⟩ := hit i o ho
      subst hi2
      -- what is ahead and has a part in it is listed; what is behind is not
      have hahead : ∀ j x, its[j]? = some x → j < i → listed.getD j false = false → Apart ops x it := fun j x hx hj hl => by
        have hp := (indR_spec hind hx).2 i it hj hi1
        rw [Nat.zero_add, Nat.zero_add] at hp
        unfold pairOk at hp
        rw [Bool.and_eq_true, Bool.or_eq_true] at hp
        rcases hp.1 with h | h
        · exact confl_spec (by simpa using h)
        · have := needsT_listed hsh _ i it.o ho hafter h
          rw [hl] at this; cases this
      have hbehind : ∀ j x, its[j]? = some x → i < j → listed.getD j false = true → Apart ops it x := fun j x hx hj hl => by
        have hp := (indR_spec hind hi1).2 j x hj hx
        rw [Nat.zero_add, Nat.zero_add] at hp
        unfold pairOk at hp
        rw [Bool.and_eq_true, Bool.or_eq_true] at hp
        rcases hp.1 with h | h
        · exact confl_spec (by simpa using h)
        · have hoj := hio j x hx
          have := needsT_listed hsh _ j x.o hoj (fun e he hb => hsh j x.o hoj hl e he hb) h
          rw [hun] at this; cases this
      have hnew : ∀ nm ty l, it.ev = .box nm ty l → ∀ j x, its[j]? = some x → j < i → x.ev.nm (notN nm) = true ∧ wB x ≠ some nm := fun nm ty l hev j x hx hj => by
        have hp := (indR_spec hind hx).2 i it hj hi1
        unfold pairOk at hp
        rw [hev] at hp
        simp only [Bool.and_eq_true] at hp
        refine ⟨hp.2.1, fun e => ?_⟩
        have := hp.2.2
        rw [isN_spec e] at this; cases this
      obtain ⟨Si, hok, hnm, hwi, hSi⟩ := chain_at (off := 0) hch hwf hi1
      rw [Nat.zero_add] at hSi
      have hagr : Agr ops it Si (part (fun i => listed.getD i false) 0 its S0) := by
        refine ⟨fun k hk' t ht => ?_, fun b hb => ?_, ?_⟩
        · rw [← ht, hSi]
          refine part_tm (fun j x hx hxk => ?_) rfl
          rw [Nat.zero_add]
          rcases Nat.lt_trichotomy j i with h | h | h
          · rw [lt_blt h]
            cases e : listed.getD j false with
            | true => rfl
            | false => exact absurd hk' ((hahead j x hx h e).wr k hxk)
          · subst h
            rw [hun]
            cases e : Nat.blt j j with
            | false => rfl
            | true => have := blt_lt e; omega
          · have : Nat.blt j i = false := by
              cases e : Nat.blt j i with
              | false => rfl
              | true => have := blt_lt e; omega
            rw [this]
            cases e : listed.getD j false with
            | false => rfl
            | true => exact absurd hk' ((hbehind j x hx h e).rw k hxk)
        · rw [hSi]
          refine part_bx (fun j x hx hxk => ?_) rfl
          rw [Nat.zero_add]
          rcases Nat.lt_trichotomy j i with h | h | h
          · rw [lt_blt h]
            cases e : listed.getD j false with
            | true => rfl
            | false => exact absurd hb ((hahead j x hx h e).br b hxk)
          · subst h
            rw [hun]
            cases e : Nat.blt j j with
            | false => rfl
            | true => have := blt_lt e; omega
          · have : Nat.blt j i = false := by
              cases e : Nat.blt j i with
              | false => rfl
              | true => have := blt_lt e; omega
            rw [this]
            cases e : listed.getD j false with
            | false => rfl
            | true => exact absurd hb ((hbehind j x hx h e).rb b hxk)
        · rw [hSi, part_n, part_n]
      have hfr : ∀ nm ty l, it.ev = .box nm ty l → Fresh (part (fun i => listed.getD i false) 0 its S0) nm ∧ l.all (SV.nm fun b => !Nat.beq b nm) = true := fun nm ty l hev => by
        have hbx := box_bxv hok hev
        have hwB : wB it = some nm := wB_spec (by rw [hbx]; simp)
        obtain ⟨hfi, hli⟩ := box_fresh hwi hnm nm ty l hev
        have hS0 : S0.nx ≤ nm := by
          have hmono : ∀ (js : List It) (S S' : SS), Chain P ops S js S' → ∀ (M : Nat → Bool) (i : Nat), (∀ j, M (i + j) = false → M (i + (j + 1)) = false) → S.nx ≤ (part M i js S).nx := by
            intro js
            induction js with
            | nil => intro S S' _ M i _; exact Nat.le_refl _
            | cons x js ihj =>
              intro S S' c M i hM
              obtain ⟨c1, c2, c3⟩ := c
              unfold part
              cases e : M i with
              | true =>
                have h1 : S.nx ≤ (S.at x).nx := by
                  unfold SS.at SS.app
                  cases ev : x.ev with
                  | val v => cases x.o.dst <;> exact Nat.le_refl _
                  | sto b t l => exact Nat.le_refl _
                  | box n t l =>
                    rw [ev, evNm, Bool.and_eq_true] at c2
                    have := Nat.eq_of_beq_eq_true c2.1
                    cases x.o.dst with
                    | none => exact Nat.le_refl _
                    | some d => show S.nx ≤ n + 1; omega
                exact Nat.le_trans h1 (ihj _ _ c3 M (i + 1) (fun j hj => by
                  have := hM (j + 1) (by rw [show i + (j + 1) = i + 1 + j from by omega]; exact hj)
                  rw [show i + 1 + (j + 1) = i + (j + 1 + 1) from by omega]; exact this))
              | false =>
                have hf0 : ∀ j, M (i + j) = false := fun j => by
                  induction j with
                  | zero => exact e
                  | succ j ihj' => exact hM j ihj'
                rw [part_none fun j => by rw [show i + 1 + j = i + (j + 1) from by omega]; exact hf0 (j + 1)]
                exact Nat.le_refl _
          have h1 := hmono its S0 S' hch (fun j => Nat.blt j i) 0 (fun j hj => by
            rw [Nat.zero_add] at hj ⊢
            cases e : Nat.blt (j + 1) i with
            | false => rfl
            | true =>
              have := blt_lt e
              rw [lt_blt (by omega)] at hj; cases hj)
          rw [← hSi] at h1
          rw [hev, evNm, Bool.and_eq_true] at hnm
          have := Nat.eq_of_beq_eq_true hnm.1
          omega
        have up : ∀ b, Nat.blt b S0.nx = true → (!Nat.beq b nm) = true := fun b hb => by
          have := blt_lt hb
          cases e : Nat.beq b nm with
          | false => rfl
          | true => have := Nat.eq_of_beq_eq_true e; omega
        have hitem : ∀ j x, its[j]? = some x → listed.getD j false = true → x.ev.nm (notN nm) = true ∧ wB x ≠ some nm := fun j x hx hl => by
          rcases Nat.lt_trichotomy j i with h | h | h
          · exact hnew nm ty l hev j x hx h
          · subst h; rw [hun] at hl; cases hl
          · refine ⟨(hbehind j x hx h hl).nm nm hwB, fun e => ?_⟩
            obtain ⟨Sj, hokj, hnmj, hwj, hSj⟩ := chain_at (off := 0) hch hwf hx
            have hb := (hbehind j x hx h hl).bw nm (by rw [hbx]; simp)
            cases ev : x.ev with
            | val v => unfold wB at e; rw [ev] at e; cases e
            | box n t l' =>
              unfold wB at e; rw [ev] at e; injection e with e; subst e
              rw [box_bxv hokj ev] at hb; cases hb
            | sto b t l' =>
              unfold wB at e; rw [ev] at e; injection e with e; subst e
              unfold bxv at hb
              rw [ev] at hb
              cases hd : x.o.dst <;> (rw [hd] at hb; simp at hb)
        have hwBn : ∀ x, wB x ≠ some nm → ∀ b, wB x = some b → notN nm b = true := fun x hx b hb => by
          unfold notN
          cases e : Nat.beq b nm with
          | false => rfl
          | true => have := Nat.eq_of_beq_eq_true e; subst this; exact absurd hb hx
        refine ⟨⟨?_, fun k v hv => ?_, fun b t l' hl' => ?_⟩, hli⟩
        · cases e : look (part (fun i => listed.getD i false) 0 its S0).bx nm with
          | none => rfl
          | some v =>
            exfalso
            rcases part_src_bx e with h | ⟨j, x, hx, hl, hv⟩
            · have := hwf.nx nm (by rw [h]; rfl)
              omega
            · exact (hitem j x hx (by simpa using hl)).2 (wB_spec (by rw [hv]; simp))
        · rcases part_src_tm hv with h | ⟨j, x, hx, hl, hv'⟩
          · exact TV.nm_le up (hwf.nt k v h)
          · obtain ⟨h1, h2⟩ := hitem j x hx (by simpa using hl)
            exact nm_of_tmv hv' h1 (hwBn x h2)
        · rcases part_src_bx hl' with h | ⟨j, x, hx, hl, hv'⟩
          · exact SVs.nm_le up (hwf.nb b t l' h)
          · exact nm_of_bxv hv' (hitem j x hx (by simpa using hl)).1
      have hw := item_wp (Q := Q) hok hagr hfr hk
      -- the state behind it is the part with it
      have hstep : ∀ a w, Ok w0 s0 ((part (fun i => listed.getD i false) 0 its S0).app it.o.dst it.ev) a w → wpAny P .any ops Q fuel (listed.setIfInBounds i true) a w := fun a w hk' => by
        have hset : ∀ j, j ≠ i → (listed.setIfInBounds i true).getD j false = listed.getD j false := fun j hj => by
          simp [Array.getElem?_setIfInBounds_ne (Ne.symm hj)]
        have hseti : (listed.setIfInBounds i true).getD i false = true := by
          have : i < listed.size := by omega
          simp [this]
        refine ih _ a w (by simp [hz]) (hsh.step hi) ?_ (hk'.congr (fun k => ?_) (fun b => ?_) ?_)
        · have := unl_less (p := fun i => !listed.getD i false) (q := fun j => !(listed.setIfInBounds i true).getD j false) (i := i) (l := List.range ops.size) List.nodup_range (List.mem_range.2 his) (by rw [hun]; rfl) (by rw [hseti]; rfl) (fun j hj => by rw [hset j hj])
          omega
        · show _ = look (SS.at _ it).tm k
          rw [look_tm]
          cases ht : tmv it k with
          | none =>
            refine part_tm (fun j x hx hxk => ?_) rfl
            rw [Nat.zero_add]
            by_cases e : j = i
            · subst e; rw [hi1] at hx; injection hx with hx; subst hx; exact absurd ht hxk
            · exact hset j e
          | some v =>
            refine part_tm_last hi1 (by rw [Nat.zero_add]; exact hseti) ht (fun j x hj hx hxk => ?_)
            rw [Nat.zero_add, hset j (by omega)]
            cases e : listed.getD j false with
            | false => rfl
            | true => exact absurd ((hbehind j x hx hj e).ww k (by rw [ht]; simp)) hxk
        · show _ = look (SS.at _ it).bx b
          rw [look_bx]
          cases ht : bxv it b with
          | none =>
            refine part_bx (fun j x hx hxk => ?_) rfl
            rw [Nat.zero_add]
            by_cases e : j = i
            · subst e; rw [hi1] at hx; injection hx with hx; subst hx; exact absurd ht hxk
            · exact hset j e
          | some v =>
            refine part_bx_last hi1 (by rw [Nat.zero_add]; exact hseti) ht (fun j x hj hx hxk => ?_)
            rw [Nat.zero_add, hset j (by omega)]
            cases e : listed.getD j false with
            | false => rfl
            | true => exact absurd ((hbehind j x hx hj e).bw b (by rw [ht]; simp)) hxk
        · show _ = (SS.at _ it).n
          rw [at_n, part_n, part_n]
      unfold wpOp
      rw [ho]
      simp only
      split at hw
      · rename_i hwd
        rw [if_pos hwd]
        exact .inl (Oper.wp_mono hstep hw)
      · rename_i hwd
        rw [if_neg hwd]
        exact hstep _ _ hw
end
end Go.Proofs.Ythhgjloephkpaaa.Lx
namespace Go.Proofs.Ythhgjloephkpaaa
set_option linter.unusedVariables false
set_option linter.unusedSimpArgs false
open Go Go.RowKit Go.Proofs.YthhgjloephkpaaaW.PrintWords Go.Proofs.YthhgjloephkpaaaW.PrintLast
/-- How many words an amount, an integer has at most. -/
def FitN (k : Nat) (x : Nat) : Prop := (dg x).length ≤ k
def Fit (k : Nat) (z : Int) : Prop := FitN k z.natAbs
theorem FitN.mono {k m : Nat} {z : Nat} (h : FitN k z) (hm : k ≤ m) : FitN m z := Nat.le_trans h hm
theorem Fit.mono {k m : Nat} {z : Int} (h : Fit k z) (hm : k ≤ m) : Fit m z := Nat.le_trans h hm
theorem FitN.lt {k x : Nat} (h : FitN k x) : x < BW ^ k := Nat.lt_of_lt_of_le (dg_lt x) (Nat.pow_le_pow_right BW_pos h)
theorem FitN.of {k x : Nat} (h : x < BW ^ k) : FitN k x := dg_len_le h
theorem FitN.le {k x y : Nat} (h : FitN k y) (hx : x ≤ y) : FitN k x := Nat.le_trans (dg_len_mono hx) h
theorem FitN.add {k x y : Nat} (h : FitN k x) (h2 : FitN k y) : FitN (k + 1) (x + y) := FitN.of (by
  have a := h.lt; have b := h2.lt
  rw [Nat.pow_succ]
  have : BW ^ k * 2 ≤ BW ^ k * BW := Nat.mul_le_mul_left _ (by decide)
  omega)
theorem FitN.mul {k m x y : Nat} (h : FitN k x) (h2 : FitN m y) : FitN (k + m) (x * y) := FitN.of (by
  rw [Nat.pow_add]; exact Nat.mul_lt_mul'' h.lt h2.lt)
theorem FitN.sub {k x y : Nat} (h : FitN k x) : FitN k (x - y) := h.le (Nat.sub_le _ _)
theorem FitN.div {k x y : Nat} (h : FitN k x) : FitN k (x / y) := h.le (Nat.div_le_self _ _)
theorem FitN.mod {k m x y : Nat} (h : FitN k x) : FitN k (x % y) := h.le (Nat.mod_le _ _)
theorem Fit.sgn {k x : Nat} {b : Bool} (h : FitN k x) : Fit k (if b = true then -(x : Int) else (x : Int)) := by
  unfold Fit; cases b <;> simpa using h
theorem Fit.neg {k : Nat} {x : Int} (h : Fit k x) : Fit k (-x) := by unfold Fit at *; rwa [Int.natAbs_neg]
theorem Fit.mul {k m : Nat} {x y : Int} (h : Fit k x) (h2 : Fit m y) : Fit (k + m) (x * y) := by unfold Fit at *; rw [Int.natAbs_mul]; exact FitN.mul h h2
theorem Fit.add {k : Nat} {x y : Int} (h : Fit k x) (h2 : Fit k y) : Fit (k + 1) (x + y) := by
  unfold Fit at *; exact (FitN.add h h2).le (Int.natAbs_add_le x y)
theorem Fit.sub {k : Nat} {x y : Int} (h : Fit k x) (h2 : Fit k y) : Fit (k + 1) (x - y) := by rw [Int.sub_eq_add_neg]; exact h.add h2.neg
theorem Fit.int64 {z : Int} (h1 : -9223372036854775808 ≤ z) (h2 : z ≤ 9223372036854775808) : Fit 2 z := FitN.of (by
  rw [show BW ^ 2 = 18446744073709551616 from by decide]; omega)
theorem Fit.le {k : Nat} {x y : Int} (h : Fit k y) (hx : x.natAbs ≤ y.natAbs) : Fit k x := FitN.le h hx
theorem neg_eq (x : Int) : (if (!(decide (x < 0))) = true then -(((x).natAbs : Nat) : Int) else (((x).natAbs : Nat) : Int)) = -x := by
  by_cases h : x < 0 <;> simp [h] <;> omega
theorem mul_eq (x y : Int) : (if ((decide (x < 0)) != (decide (y < 0))) = true then -(((x.natAbs * y.natAbs : Nat)) : Int) else (((x.natAbs * y.natAbs : Nat)) : Int)) = x * y := by
  rw [← Int.natAbs_mul]
  by_cases h : x < 0 <;> by_cases k : y < 0
  · have := Int.mul_pos_of_neg_of_neg h k; simp [h, k]; omega
  · have := Int.mul_nonpos_of_nonpos_of_nonneg (Int.le_of_lt h) (by omega : 0 ≤ y); simp [h, k]; omega
  · have := Int.mul_nonpos_of_nonneg_of_nonpos (by omega : 0 ≤ x) (Int.le_of_lt k); simp [h, k]; omega
  · have := Int.mul_nonneg (by omega : 0 ≤ x) (by omega : 0 ≤ y); simp [h, k]; omega
def Sl (w : World) (v : Value) (x : Nat) : Prop := ∃ A n c, v = .slice A n c ∧ Wds w A n c (dg x)
def RetS (w : World) (x : Nat) (e : Ending) (w' : World) : Prop := (∃ v, e = .returned v ∧ Sl w' v x) ∧ Below w.heap.size w w'
def RetI (w : World) (z : Int) (e : Ending) (w' : World) : Prop := (∃ v, e = .returned v ∧ v = .int .i64 z) ∧ Below w.heap.size w w'
theorem below_drewN (w : World) (q : Nat) : Below w.heap.size w (w.drewN q) := pw_below_drewN (Below.refl _ _) q
theorem order_c {A B : Option Addr} {n c m d x y : Nat} {w : World} (hx : Wds w A n c (dg x)) (hy : Wds w B m d (dg y)) :
    Calls Try.prog 110 #[.slice A n c, .slice B m d] w (RetI w (cmpN x y)) :=
  (order_any A B n c m d x y w hx hy).mono fun e w' ⟨he, q, hq⟩ => ⟨⟨_, he, rfl⟩, by subst hq; exact below_drewN w q⟩
theorem cmpWords_c {A B : Option Addr} {n c m d x y : Nat} {w : World} (hx : Wds w A n c (dg x)) (hy : Wds w B m d (dg y)) :
    Calls Try.prog 114 #[.slice A n c, .slice B m d] w (RetI w (cmpN x y)) :=
  (cmpWords_any A B n c m d x y w hx hy).mono fun e w' ⟨he, q, hq⟩ => ⟨⟨_, he, rfl⟩, by subst hq; exact below_drewN w q⟩

theorem dg_one : dg 1 = [1] := by rw [dg_pos (by decide)]; rw [show 1 / BW = 0 from rfl, dg_zero]; rfl
theorem FitN_one : FitN 1 1 := by unfold FitN; rw [dg_one]; simp
theorem cmpN_le {x y : Nat} (h : y ≤ x) : decide ((0 : Int) ≤ cmpN x y) = true := by
  unfold cmpN; split
  · omega
  · split <;> simp
theorem cmpN_nle {x y : Nat} (h : ¬ y ≤ x) : decide ((0 : Int) ≤ cmpN x y) = false := by
  rw [cmpN_lt (by omega)]; rfl
theorem add_same {x y : Int} {s t : Bool} (h : decide (x < 0) = s) (k : decide (y < 0) = t) (e : s = t) : (if s = true then -(((x.natAbs + y.natAbs : Nat)) : Int) else (((x.natAbs + y.natAbs : Nat)) : Int)) = x + y := by
  subst e; cases s
  · have := of_decide_eq_false h; have := of_decide_eq_false k; simp; omega
  · have := of_decide_eq_true h; have := of_decide_eq_true k; simp; omega
theorem add_less {x y : Int} {s t : Bool} (h : decide (x < 0) = s) (k : decide (y < 0) = t) (e : ¬ s = t) (hl : y.natAbs ≤ x.natAbs) : (if s = true then -(((x.natAbs - y.natAbs : Nat)) : Int) else (((x.natAbs - y.natAbs : Nat)) : Int)) = x + y := by
  cases s <;> cases t
  · exact absurd rfl e
  · have := of_decide_eq_false h; have := of_decide_eq_true k; simp; omega
  · have := of_decide_eq_true h; have := of_decide_eq_false k; simp; omega
  · exact absurd rfl e
theorem add_less' {x y : Int} {s t : Bool} (h : decide (x < 0) = s) (k : decide (y < 0) = t) (e : ¬ s = t) (hl : ¬ y.natAbs ≤ x.natAbs) : (if t = true then -(((y.natAbs - x.natAbs : Nat)) : Int) else (((y.natAbs - x.natAbs : Nat)) : Int)) = x + y := by
  rw [add_less k h (fun h => e h.symm) (by omega)]; omega
end Go.Proofs.Ythhgjloephkpaaa
namespace Go.Proofs.Ythhgjloephkpaaa
set_option linter.unusedVariables false
set_option linter.unusedSimpArgs false
open Go Go.RowKit Go.Proofs.YthhgjloephkpaaaW.PrintWords Go.Proofs.YthhgjloephkpaaaW.PrintLast
theorem pz {ts : Array Value} {df : List Deferred} {v : Value} : (Act.mk ts df).put none v = ⟨ts, df⟩ := rfl
section
variable {P : Program} {ops : Array Oper} {rest : List Oper} {Q : Exit → Act → World → Prop} {o : Oper} {a : Act} {w w0 : World} {K : Act → World → Prop} {L : List Bx}
/-- What a step that may be taken first has to meet. -/
def tkOk (md : Region.Mode) (ops : Array Oper) (f : Nat → Bool) (listed : Array Bool) (i : Nat) : Bool :=
  Region.noSelect ops && (Region.free md ops listed i && ((Region.ready md ops listed).contains i && (waitsT md ops f i && shutT md ops listed)))
end
theorem MI {α : Type} {L : List α} {i : Nat} {e : α} (h : L[i]? = some e) : e ∈ L := List.mem_of_getElem? h
theorem PA : (∀ {ts : Array Value} {df : List Deferred} {i : Nat} {v : Value}, (Act.mk ts df).put (some i) v = ⟨ts.setIfInBounds i v, df⟩) ∧ (∀ {ts : Array Value} {df : List Deferred} {v : Value}, (Act.mk ts df).put none v = ⟨ts, df⟩) ∧ (∀ {α : Type} {l : List α} {i : Nat} {x : α}, l.toArray.setIfInBounds i x = (l.set i x).toArray) ∧ (∀ {α : Type} {l : List α} {x y : α}, (x :: l).set 0 y = y :: l) ∧ (∀ {α : Type} {l : List α} {n : Nat} {x y : α}, (x :: l).set (n + 1) y = x :: l.set n y) := ⟨rfl, rfl, List.setIfInBounds_toArray .., rfl, rfl⟩
section
variable {P : Program} {ops : Array Oper} {rest : List Oper} {Q : Exit → Act → World → Prop} {o : Oper} {a : Act} {w w0 : World} {K : Act → World → Prop} {L : List Bx}
theorem PV (v : Value) (hr : (execOp a.eval o).run P w = .ok (.value v) w) (hg : o.guard = none) (h : wpList P ops Q rest (a.put o.dst v) w) : wpList P ops Q (o :: rest) a w :=
  wpList_plain hg fun K hK => o_val v hr (hK _ _ h)
theorem CT {x : Operand → Value} {v v' : Value} (hr : (execOp x o).run P w = .ok (.value v) w) (h : v = v') : (execOp x o).run P w = .ok (.value v') w := h ▸ hr
theorem TK {md : Region.Mode} {S : World → Prop} {f : Nat → Bool} {i : Nat} {oi : Oper} (v : Value) {fuel : Nat} {listed : Array Bool} (hi : ops.toList[i]? = some oi) (hc : tkOk md ops f listed i = true)
    (hQ : ∀ c a w, Q (.panic c) (a.put oi.dst v) w → Q (.panic c) a w) (hwd : Region.wanted oi (yielded ops a.tmps) = true) (hy : ∀ w, S w → (execOp a.eval oi).run P w = .ok (.value v) w) (hS : S w)
    (h : wpAnyT P md ops Q S f fuel (listed.setIfInBounds i true) (a.put oi.dst v) w) : wpAnyT P md ops Q S f (fuel + 1) listed a w :=
  have h1 := Bool.and_eq_true_iff.1 hc
  have h2 := Bool.and_eq_true_iff.1 h1.2
  have h3 := Bool.and_eq_true_iff.1 h2.2
  anyT_take v hi h1.1 h2.1 h3.1 h3.2 hQ hwd hy hS h
end
@[reducible] def GD (l : List Value) (i : Nat) : Value := l.getD i undef
@[reducible] def gd (l : List Value) (i : Nat) : Value := l.getD i undef
@[reducible] def O : Value := undef
@[reducible] def I (x : Int) : Value := .int .i64 x
@[reducible] def J (x : Int) : Value := .int .u64 x
@[reducible] def E (a : Option Addr) (n c : Nat) : Value := .slice a n c
@[reducible] def T (b : Bool) : Value := .bool b
@[reducible] def PT (g k : Nat) : Value := .pointer (some ⟨g, k, none⟩)
@[reducible] def Z3 (i : Int) (a : Option Addr) (n c : Nat) (s : Bool) : Array Value := #[.int .i64 i, .slice a n c, .bool s]
@[reducible] def Z6c (i : Int) (a : Option Addr) (n c : Nat) (s : Bool) (j : Int) (b : Option Addr) (m d : Nat) (t : Bool) : Array Value := #[.int .i64 i, .slice a n c, .bool s, .int .i64 j, .slice b m d, .bool t]
@[reducible] def W2 (a : Option Addr) (n c : Nat) (s : Bool) : Array Value := #[.slice a n c, .bool s]
@[reducible] def AZ (i : Int) (a : Option Addr) (n c : Nat) (s : Bool) : Value := .agg #[.int .i64 i, .slice a n c, .bool s]
@[reducible] def AQ (i : Int) (a : Option Addr) (n c : Nat) (s : Bool) (j : Int) (b : Option Addr) (m d : Nat) (t : Bool) : Value := .agg #[.int .i64 i, .slice a n c, .bool s, .int .i64 j, .slice b m d, .bool t]
section
variable {P : Program} {Q : Exit → Act → World → Prop} {o : Oper} {a : Act} {w w0 : World} {K : Act → World → Prop} {L : List Bx}
theorem OS {ty : TypeId} {x y : Operand} {g off : Nat} (i : Nat) {cs : Array Value} {t : TypeId} (vs : List Value) (new : Array Value) (hs : St w0 w L) (hz : (sizeOf ty).run P w = .ok vs.length w)
    (h : ∀ w', St w0 w' (L.set i ⟨g, new, t⟩) → U w w' → K (a.put o.dst undef) w') (ho : o.op = .store ty x y := by rfl) (hx : a.eval x = .pointer (some ⟨g, off, none⟩) := by rfl) (hy : (a.eval y).cells = vs.toArray := by rfl)
    (hi : L[i]? = some ⟨g, cs, t⟩ := by rfl) (hb : Nat.ble (off + vs.length) cs.size = true := by rfl) (h1 : vs.all Value.oneCell' = true := by rfl)
    (hnew : (cs.toList.take off ++ vs ++ cs.toList.drop (off + vs.length)).toArray = new := by rfl) (hno : cs.toList.all noW = true := by rfl) : o.wp P a w K Q :=
  o_store i vs new _ ho hx hy hs hi hz (Nat.le_of_ble_eq_true hb) (List.all_eq_true.1 h1) hnew hno rfl h
theorem OT {ty : TypeId} {x y : Operand} {g off : Nat} (i : Nat) {cs : Array Value} {t : TypeId} (new : Array Value) (hs : St w0 w L) (hz : (sizeOf ty).run P w = .ok new.toList.length w)
    (h : ∀ w', St w0 w' (L.set i ⟨g, new, t⟩) → U w w' → K (a.put o.dst undef) w') (ho : o.op = .store ty x y := by rfl) (hx : a.eval x = .pointer (some ⟨g, off, none⟩) := by rfl) (hy : (a.eval y).cells = new.toList.toArray := by rfl)
    (hi : L[i]? = some ⟨g, cs, t⟩ := by rfl) (hb : Nat.ble (off + new.toList.length) cs.size = true := by rfl) (h1 : new.toList.all Value.oneCell' = true := by rfl)
    (hnew : (cs.toList.take off ++ new.toList ++ cs.toList.drop (off + new.toList.length)).toArray = new := by rfl) (hno : cs.toList.all noW = true := by rfl) : o.wp P a w K Q :=
  OS i new.toList new hs hz h ho hx hy hi hb h1 hnew hno
end
end Go.Proofs.Ythhgjloephkpaaa
namespace Go.Proofs.Ythhgjloephkpaaa
set_option linter.unusedVariables false
set_option linter.unusedSimpArgs false
open Go Go.RowKit Go.Proofs.YthhgjloephkpaaaW.PrintWords Go.Proofs.YthhgjloephkpaaaW.PrintLast
theorem neg_eq' {x : Int} {s : Bool} (h : decide (x < 0) = s) : (if (!s) = true then -(((x).natAbs : Nat) : Int) else (((x).natAbs : Nat) : Int)) = -x := by subst h; exact neg_eq x
theorem mul_eq' {x y : Int} {s t : Bool} (h : decide (x < 0) = s) (k : decide (y < 0) = t) : (if (s != t) = true then -(((x.natAbs * y.natAbs : Nat)) : Int) else (((x.natAbs * y.natAbs : Nat)) : Int)) = x * y := by subst h; subst k; exact mul_eq x y
theorem Fit_one : Fit 1 (1 : Int) := FitN_one
end Go.Proofs.Ythhgjloephkpaaa
namespace Go.Proofs.Ythhgjloephkpaaa
set_option linter.unusedVariables false
set_option linter.unusedSimpArgs false
open Go Go.RowKit Go.Proofs.YthhgjloephkpaaaW.PrintWords Go.Proofs.YthhgjloephkpaaaW.PrintLast
/-- A value that is the reference's rational number. -/
def Qh (w : World) (v : Value) (q : Rat) : Prop := ∃ A n c s A' n' c' s' D, v = .agg #[.slice A n c, .bool s, .slice A' n' c', .bool s'] ∧ Wh w (.agg #[.slice A n c, .bool s]) q.num ∧ Wh w (.agg #[.slice A' n' c', .bool s']) D ∧ (D = (q.den : Int) ∨ (D = 0 ∧ q = 0))
theorem Qh.u {w w' : World} {v : Value} {q : Rat} (h : Qh w v q) (hu : U w w') : Qh w' v q := by
  obtain ⟨A, n, c, s, A', n', c', s', D, e, h1, h2, h3⟩ := h
  exact ⟨A, n, c, s, A', n', c', s', D, e, h1.u hu, h2.u hu, h3⟩
theorem Qh.mk {w : World} {A A' : Option Addr} {n c n' c' : Nat} {s s' : Bool} {a b : Int} {q : Rat} (h1 : Wh w (.agg #[.slice A n c, .bool s]) a) (h2 : Wh w (.agg #[.slice A' n' c', .bool s']) b) (ha : a = q.num) (hb : b = (q.den : Int)) :
    Qh w (.agg #[.slice A n c, .bool s, .slice A' n' c', .bool s']) q := ⟨A, n, c, s, A', n', c', s', b, rfl, ha ▸ h1, h2, .inl hb⟩
structure QFit (k : Nat) (q : Rat) : Prop where
  n : Fit k q.num
  d : Fit k (q.den : Int)
theorem QFit.mono {k m : Nat} {q : Rat} (h : QFit k q) (hm : k ≤ m) : QFit m q := ⟨h.n.mono hm, h.d.mono hm⟩
theorem Fit.ediv {k : Nat} {x : Int} {g : Nat} (h : Fit k x) : Fit k (x / (g : Int)) := h.le (by
  by_cases hg : g = 0
  · subst hg; simp
  · exact Int.natAbs_ediv_le_natAbs x g)
theorem Fit.zero {k : Nat} : Fit k 0 := by unfold Fit FitN; rw [Int.natAbs_zero, dg_zero]; exact Nat.zero_le _
theorem QFit.over {k : Nat} {n d : Int} (h : Fit k n) (h2 : Fit k d) (hd : d ≠ 0) : QFit k (Rat.divInt n d) := by
  rcases Int.lt_or_gt_of_ne hd with h0 | h0
  · rw [← over_neg]
    have h3 : 0 < -d := by omega
    exact ⟨by rw [over_num h3]; exact h.neg.ediv, by rw [over_den h3]; exact h2.neg.ediv⟩
  · exact ⟨by rw [over_num h0]; exact h.ediv, by rw [over_den h0]; exact h2.ediv⟩
theorem QFit.add {k m : Nat} {x y : Rat} (h : QFit k x) (h2 : QFit m y) : QFit (k + m + 1) (x + y) := by
  rw [← add_over]
  exact QFit.over ((h.n.mul h2.d).add ((h2.n.mul h.d).mono (by omega))) ((h.d.mul h2.d).mono (by omega)) (by have := Int.mul_pos (den_pos x) (den_pos y); omega)
theorem QFit.mul {k m : Nat} {x y : Rat} (h : QFit k x) (h2 : QFit m y) : QFit (k + m) (x * y) := by
  rw [← mul_over]
  exact QFit.over (h.n.mul h2.n) (h.d.mul h2.d) (by have := Int.mul_pos (den_pos x) (den_pos y); omega)
theorem QFit.neg {k : Nat} {x : Rat} (h : QFit k x) : QFit k (-x) := ⟨by rw [Rat.neg_num]; exact h.n.neg, by rw [Rat.neg_den]; exact h.d⟩
theorem QFit.sub {k m : Nat} {x y : Rat} (h : QFit k x) (h2 : QFit m y) : QFit (k + m + 1) (x - y) := by rw [Rat.sub_eq_add_neg]; exact h.add h2.neg
theorem QFit.div {k m : Nat} {x y : Rat} (h : QFit k x) (h2 : QFit m y) (h0 : y ≠ 0) : QFit (k + m) (x / y) := by
  rw [← div_over]
  exact QFit.over (h.n.mul h2.d) ((h.d.mul h2.n).mono (by omega)) (fun e => by
    rcases Int.mul_eq_zero.1 e with e1 | e1
    · have := den_pos x; omega
    · exact h0 (Rat.num_eq_zero.1 e1))
theorem ratio_gcd1 {n d : Int} (hd : 0 < d) (h : Nat.gcd n.natAbs d.natAbs = 1) : n = (Rat.divInt n d).num ∧ d = ((Rat.divInt n d).den : Int) := ⟨(over_num_one hd h).symm, (over_den_one hd h).symm⟩
theorem wp_cut {P : Program} {c : Code} {Q : Exit → Act → World → Prop} {a : Act} {w : World} (R : Act → World → Prop) (h : c.wp P (Exit.then R Q) a w) (k : ∀ a w, R a w → Q .normal a w) : c.wp P Q a w :=
  Code.wp_mono (fun e a w q => by cases e <;> first | exact q | exact k _ _ q) h
end Go.Proofs.Ythhgjloephkpaaa
namespace Go.Proofs.Ythhgjloephkpaaa
set_option linter.unusedVariables false
set_option linter.unusedSimpArgs false
open Go Go.RowKit Go.Proofs.YthhgjloephkpaaaW.PrintWords Go.Proofs.YthhgjloephkpaaaW.PrintLast
theorem Fit.fdiv {k : Nat} {x y : Int} (h : Fit k x) (hy : 0 < y) : Fit (k + 1) (x / y) := by
  have := Int.natAbs_ediv_le_natAbs x y
  exact (h.le this).mono (Nat.le_succ k)
theorem QFit.int {k : Nat} {z : Int} (h : Fit (k + 1) z) : QFit (k + 1) ((z : Int) : Rat) := ⟨h, by rw [Rat.den_intCast]; exact FitN_one.mono (by omega)⟩
theorem QFit.floor {k : Nat} {x : Rat} (h : QFit k x) : QFit (k + 1) ((x.floor : Int) : Rat) := QFit.int (by rw [Rat.floor_def]; exact Fit.fdiv h.n (den_pos x))
theorem QFit.abs {k : Nat} {x : Rat} (h : QFit k x) : QFit k x.abs := by
  rcases Rat.le_total (a := 0) (b := x) with h1 | h1
  · rw [Rat.abs_of_nonneg h1]; exact h
  · rw [Rat.abs_of_nonpos h1]; exact h.neg
theorem QFit.inv {k : Nat} {x : Rat} (h : QFit k x) : QFit (2 + k) (x⁻¹) := by
  by_cases h0 : x = 0
  · subst h0; exact ⟨by rw [Rat.inv_zero]; exact Fit.zero, by rw [Rat.inv_zero]; exact FitN_one.mono (by omega)⟩
  · have := QFit.div (k := 2) (QFit.int (k := 1) (z := 1) (FitN_one.mono (by omega))) h h0
    rwa [show (((1 : Int) : Rat)) / x = x⁻¹ from by rw [Rat.div_def]; exact Rat.one_mul _] at this
theorem cmpZ_eq {x y : Int} (h : x = y) : cmpZ x y = 0 := by unfold cmpZ; rw [if_neg (by omega), if_pos h]
theorem cmpZ_gt {x y : Int} (h : y < x) : cmpZ x y = 1 := by unfold cmpZ; rw [if_neg (by omega), if_neg (by omega)]
theorem cmpR_zero (x : Rat) : cmpZ x.num 0 = cmpR x 0 := by
  have := cmp_over x 0
  simpa using this
theorem cmpR_lt0 {x : Rat} : (cmpR x 0 < 0) ↔ x < 0 := by
  unfold cmpR
  by_cases h : x < 0
  · rw [if_pos h]; simp [h]
  · rw [if_neg h]; split <;> simp [h]
def good (q : Rat) : Prop := -1000000000000 ≤ q.num ∧ q.num ≤ 1000000000000 ∧ (q.den : Int) ≤ 1000000000000
instance (q : Rat) : Decidable (good q) := by unfold good; infer_instance
def RetV (w : World) (x : Value) (e : Ending) (w' : World) : Prop := (∃ v, e = .returned v ∧ v = x) ∧ Below w.heap.size w w'
theorem least_of {p : Nat → Prop} {n : Nat} (h : p n) : ∃ k, p k ∧ ∀ m, p m → k ≤ m := by
  induction n using Nat.strongRecOn with
  | _ n ih =>
    by_cases h2 : ∃ m, m < n ∧ p m
    · obtain ⟨m, hm, hp⟩ := h2; exact ih m hm hp
    · exact ⟨n, h, fun m hm => Nat.le_of_not_lt fun e => h2 ⟨m, e, hm⟩⟩
/-- A loop whose measure stands in no slot. -/
theorem wp_loop_g {P : Program} {c : Code} {Q : Exit → Act → World → Prop} {a : Act} {w : World} (I : Nat → Act → World → Prop) (n : Nat) (h0 : I n a w)
    (round : ∀ n a w, I n a w → c.wp P (Exit.then (fun a' w' => ∃ m, m < n ∧ I m a' w') Q) a w) : (Code.loop c).wp P Q a w := by
  classical
  let μ : Act → World → Nat := fun a w => if h : ∃ k, I k a w ∧ ∀ m, I m a w → k ≤ m then Classical.choose h else 0
  refine wp_loop (fun a w => ∃ n, I n a w) μ ⟨n, h0⟩ (fun a w h => ?_)
  obtain ⟨k, hk⟩ := h
  have h1 := least_of (p := fun n => I n a w) hk
  have e1 : μ a w = Classical.choose h1 := dif_pos h1
  refine Code.wp_mono (fun e a' w' q => ?_) (round _ a w (Classical.choose_spec h1).1)
  cases e <;> try exact q
  obtain ⟨m, hm, hI⟩ := q
  have h2 := least_of (p := fun n => I n a' w') hI
  have e2 : μ a' w' = Classical.choose h2 := dif_pos h2
  refine ⟨⟨m, hI⟩, ?_⟩
  rw [e1, e2]
  exact Nat.lt_of_le_of_lt ((Classical.choose_spec h2).2 m hI) hm
end Go.Proofs.Ythhgjloephkpaaa
namespace Go.Proofs.Ythhgjloephkpaaa.Lx
set_option linter.unusedVariables false
set_option linter.unusedSimpArgs false
open Go Go.RowKit Go.Proofs.Ythhgjloephkpaaa Go.Proofs.YthhgjloephkpaaaW.PrintWords Go.Proofs.YthhgjloephkpaaaW.PrintLast

inductive Ex
  | nrm
  | exit (n : Nat)
  | ret
def Ex.to : Ex → Exit
  | .nrm => .normal
  | .exit n => .exit n
  | .ret => .ret
def firstR : Code → Option Nat
  | .region id _ _ => some id
  | .seq a _ => firstR a
  | .block _ c => firstR c
  | .loop c => firstR c
  | .scope c => firstR c
  | _ => none
def EntT (S : SS) : List (Nat × TV) → Prop
  | [] => True
  | p :: l => (match look S.tm p.1 with
    | some v => AsOk v p.2
    | none => False) ∧ EntT S l
def AsL (l m : List SV) : Prop := ∀ γ s cs, RepL γ s l cs → RepL γ s m cs
def EntB (S : SS) : List (Nat × TypeId × List SV) → Prop
  | [] => True
  | p :: l => (match look S.bx p.1 with
    | some q => q.1 = p.2.1 ∧ AsL q.2 p.2.2
    | none => False) ∧ EntB S l
def wfB (S : SS) : Bool := S.tm.all (fun p => p.2.nm fun b => Nat.blt b S.nx) && S.bx.all (fun p => Nat.blt p.1 S.nx && okNm S p.2.2)
/-- The state S' holds where S does. -/
def Ent (S S' : SS) : Prop := wfB S' = true ∧ S.n = S'.n ∧ EntT S S'.tm ∧ EntB S S'.bx
theorem look_mem {β : Type _} {k : Nat} {v : β} : ∀ {l : List (Nat × β)}, look l k = some v → (k, v) ∈ l
  | p :: l, h => by
    unfold look at h
    split at h
    · rename_i e
      injection h with h
      have := Nat.eq_of_beq_eq_true e
      subst this h
      exact List.mem_cons_self
    · exact List.mem_cons_of_mem _ (look_mem h)
  | [], h => by cases h
theorem entT_spec {S : SS} {k : Nat} {v : TV} : ∀ {l : List (Nat × TV)}, EntT S l → (k, v) ∈ l → ∃ u, look S.tm k = some u ∧ AsOk u v
  | p :: l, h, hm => by
    rcases List.mem_cons.1 hm with e | e
    · subst e
      have h1 := h.1
      split at h1
      · rename_i u hu; exact ⟨u, hu, h1⟩
      · cases h1
    · exact entT_spec h.2 e
  | [], _, hm => by cases hm
theorem entB_spec {S : SS} {k : Nat} {v : TypeId × List SV} : ∀ {l : List (Nat × TypeId × List SV)}, EntB S l → (k, v) ∈ l → ∃ u, look S.bx k = some u ∧ u.1 = v.1 ∧ AsL u.2 v.2
  | p :: l, h, hm => by
    rcases List.mem_cons.1 hm with e | e
    · subst e
      have h1 := h.1
      split at h1
      · rename_i u hu; exact ⟨u, hu, h1⟩
      · cases h1
    · exact entB_spec h.2 e
  | [], _, hm => by cases hm
theorem Ent.wf {S S' : SS} (h : Ent S S') : Wf S' := by
  have h1 := h.1
  unfold wfB at h1
  rw [Bool.and_eq_true] at h1
  have hb : ∀ b ty l, look S'.bx b = some (ty, l) → b < S'.nx ∧ okNm S' l = true := fun b ty l hl => by
    have := List.all_eq_true.1 h1.2 _ (look_mem hl)
    rw [Bool.and_eq_true] at this
    exact ⟨blt_lt this.1, this.2⟩
  refine ⟨fun b hb' => ?_, fun k v hv => List.all_eq_true.1 h1.1 _ (look_mem hv), fun b ty l hl => (hb b ty l hl).2⟩
  obtain ⟨⟨ty, l⟩, e⟩ := Option.isSome_iff_exists.1 hb'
  exact (hb b ty l e).1
section
variable {P : Program} {w0 : World} {s0 : Kst} {Q : Exit → Act → World → Prop}
theorem Ok.ent {S S' : SS} {a : Act} {w : World} (h : Ok w0 s0 S a w) (he : Ent S S') : Ok w0 s0 S' a w := by
  obtain ⟨γ, s, e, hs, h1, h2⟩ := h
  obtain ⟨hw, hn, ht, hb⟩ := he
  refine ⟨γ, s, e, ⟨hs.df, by rw [← hn]; exact hs.sz, fun k v hv => ?_, fun b ty l hl => ?_, fun b b' hb1 hb2 heq => ?_⟩, h1, h2⟩
  · obtain ⟨u, hu, ha⟩ := entT_spec ht (look_mem hv)
    exact ha _ _ _ (hs.tm k u hu)
  · obtain ⟨⟨t, m⟩, hu, e1, e2⟩ := entB_spec hb (look_mem hl)
    obtain ⟨cs, k, r⟩ := hs.bx b t m hu
    have e1 : t = ty := e1
    subst e1
    exact ⟨cs, e2 _ _ _ k, r⟩
  · obtain ⟨x, hx⟩ := Option.isSome_iff_exists.1 hb1
    obtain ⟨y, hy⟩ := Option.isSome_iff_exists.1 hb2
    obtain ⟨u, hu, _⟩ := entB_spec hb (look_mem hx)
    obtain ⟨u', hu', _⟩ := entB_spec hb (look_mem hy)
    exact hs.inj b b' (by rw [hu]; rfl) (by rw [hu']; rfl) heq
abbrev Kn := Ex → Tr → SS → Prop
def Kn.then (K : Kn) (k : Tr → SS → Prop) : Kn := fun e T S => match e with
  | .nrm => k T S
  | .exit n => K (.exit n) T S
  | .ret => K .ret T S
def Kn.block (K : Kn) (id : Nat) : Kn := fun e T S => match e with
  | .nrm => K .nrm T S
  | .exit n => match Nat.beq n id with
    | true => K .nrm T S
    | false => K (.exit n) T S
  | .ret => K .ret T S
def exec (P : Program) : Code → Tr → SS → Kn → Prop
  | .skip, T, S, K => K .nrm T S
  | .region _ ops dr, T, S, K => runR P ops ops.toList T S [] fun T' S' its => match (!dr || indR ops 0 its.reverse) with
    | true => K .nrm T' S'
    | false => False
  | .seq a b, T, S, K => match T with
    | .cut r inv j k => match isN (firstR b) r with
      | true => exec P a j S (K.then fun T' S' => ∃ g, Ent S' (inv g)) ∧ ∀ g, exec P b (k g) (inv g) K
      | false => exec P a (.cut r inv j k) S (K.then fun T' S' => exec P b T' S' K)
    | T => exec P a T S (K.then fun T' S' => exec P b T' S' K)
  | .cond c a b, T, S, K => match scO S c with
    | some (.bool true) => exec P a T S K
    | some (.bool false) => exec P b T S K
    | _ => False
  | .block id c, T, S, K => exec P c T S (K.block id)
  | .loop c, T, S, K => match T with
    | .loop g inv μ k => Ent S (inv g) ∧ ∀ g, exec P c (k g) (inv g) (K.then fun T' S' => ∃ g', Ent S' (inv g') ∧ μ g' < μ g)
    | _ => False
  | .exit n, T, S, K => K (.exit n) T S
  | .scope c, T, S, K => exec P c T S K
  | .ret, T, S, K => K .ret T S
  | _, _, _, _ => False
theorem scO_ok {S : SS} {a : Act} {w : World} (h : Ok w0 s0 S a w) {c : Operand} {v : Value} (hc : scO S c = some v) : a.eval c = v := by
  obtain ⟨γ, s, e, hs, _, _⟩ := h
  unfold scO at hc
  split at hc
  · rename_i t ht
    cases c with
    | tmp k => exact sc_rep hc (hs.tm k t ht)
    | const v' =>
      unfold opT at ht
      simp only at ht
      split at ht
      · injection ht with ht; subst ht
        unfold TV.sc UV.sc valsOf valsOf at hc
        show v' = v
        simpa using hc
      · cases ht
    | func f =>
      unfold opT at ht
      simp only at ht
      injection ht with ht; subst ht
      unfold TV.sc UV.sc valsOf valsOf at hc
      show Value.func (.func f) #[] #[] = v
      simpa using hc
    | global g => cases ht
  · cases hc
theorem exec_sound (hm : P.follows .mixedOrders = true) : ∀ (c : Code) {T : Tr} {S : SS} {K : Kn} {Q : Exit → Act → World → Prop} {a : Act} {w : World}, exec P c T S K → Wf S → Ok w0 s0 S a w →
    (∀ e T' S' a w, K e T' S' → Wf S' → Ok w0 s0 S' a w → Q (e.to) a w) → c.wp P Q a w
  | .skip, T, S, K, Q, a, w, h, hw, hk, hq => wp_skip (hq _ _ _ _ _ h hw hk)
  | .region id ops dr, T, S, K, Q, a, w, h, hw, hk, hq => by
    obtain ⟨T', S', js, e, hc, h1⟩ := runR_sound h
    rw [List.append_nil, List.reverse_reverse] at h1
    split at h1
    · rename_i hd
      have hend : ∀ a w, Ok w0 s0 S' a w → Q .normal a w := fun a w ha => hq _ _ _ _ _ h1 (hc.wf hw) ha
      cases dr with
      | false =>
        have := chain_list (Q := Q) hc hw hk hend
        rw [e] at this
        exact wp_region_list this
      | true =>
        have hind : indR ops 0 js = true := by simpa using hd
        refine wp_region_any hm ?_
        have hk' : Ok w0 s0 S a { w with drawn := w.drawn + 1 } := by
          obtain ⟨γ, s, rfl, hs, hB, hL⟩ := hk
          have hle : Le s ⟨{ s.w with drawn := s.w.drawn + 1 }, s.fz, s.lt⟩ := ⟨fun _ _ _ _ h _ => h, fun g hg => ⟨hg, rfl⟩, Nat.le_refl _, fun g hg => .inl hg⟩
          exact ⟨γ, _, rfl, ⟨hs.df, hs.sz, fun k v hv => (hs.tm k v hv).up hle, fun b ty l hl => (hs.bx b ty l hl).up hle ⟨rfl, rfl, rfl, Nat.le_refl _, fun _ _ => rfl⟩, hs.inj⟩, hB.drew, hL.trans hle⟩
        refine any_go hind hc hw e hend ops.size _ a _ (by simp) ?_ ?_ ?_
        · intro k ok _ hl
          by_cases h : k < ops.size <;> simp [h] at hl
        · rw [List.filter_eq_self.2]
          · simp
          · intro i hi
            by_cases h : i < ops.size <;> simp [h]
        · rw [part_none]
          · exact hk'
          · intro j
            rw [Nat.zero_add]
            by_cases h : j < ops.size <;> simp [h]
    · cases h1
  | .seq x y, T, S, K, Q, a, w, h, hw, hk, hq => by
    have plain : ∀ T, exec P x T S (K.then fun T' S' => exec P y T' S' K) → (Code.seq x y).wp P Q a w := fun T h => by
      refine wp_seq (exec_sound hm x h hw hk fun e T' S' a w h1 hw' hk' => ?_)
      cases e with
      | nrm => exact exec_sound hm y h1 hw' hk' hq
      | exit n => exact hq _ _ _ _ _ h1 hw' hk'
      | ret => exact hq _ _ _ _ _ h1 hw' hk'
    unfold exec at h
    split at h
    · split at h
      · refine wp_seq (exec_sound hm x h.1 hw hk fun e T' S' a w h1 hw' hk' => ?_)
        cases e with
        | nrm =>
          obtain ⟨g, hg⟩ := h1
          exact exec_sound hm y (h.2 g) hg.wf (hk'.ent hg) hq
        | exit n => exact hq _ _ _ _ _ h1 hw' hk'
        | ret => exact hq _ _ _ _ _ h1 hw' hk'
      · exact plain _ h
    · exact plain _ h
  | .cond c x y, T, S, K, Q, a, w, h, hw, hk, hq => by
    unfold exec at h
    split at h
    · rename_i hc
      exact wp_cond_true (scO_ok hk hc) (exec_sound hm x h hw hk hq)
    · rename_i hc
      exact wp_cond_false (scO_ok hk hc) (exec_sound hm y h hw hk hq)
    · cases h
  | .block id c, T, S, K, Q, a, w, h, hw, hk, hq => by
    refine wp_block (exec_sound hm c h hw hk fun e T' S' a w h1 hw' hk' => ?_)
    cases e with
    | nrm => exact hq _ _ _ _ _ h1 hw' hk'
    | exit n =>
      show Exit.inBlock id Q (.exit n) a w
      unfold Exit.inBlock
      simp only
      have h1 : (match Nat.beq n id with | true => K .nrm T' S' | false => K (.exit n) T' S') := h1
      by_cases e : n = id
      · subst e
        rw [Nat.beq_refl] at h1
        rw [if_pos rfl]
        exact hq _ _ _ _ _ h1 hw' hk'
      · have : Nat.beq n id = false := by cases e' : Nat.beq n id with
          | false => rfl
          | true => exact absurd (Nat.eq_of_beq_eq_true e') e
        rw [this] at h1
        rw [if_neg e]
        exact hq _ _ _ _ _ h1 hw' hk'
    | ret => exact hq _ _ _ _ _ h1 hw' hk'
  | .loop c, T, S, K, Q, a, w, h, hw, hk, hq => by
    unfold exec at h
    split at h
    · rename_i σ g inv μ k
      refine wp_loop_g (fun n a w => ∃ g, μ g = n ∧ Wf (inv g) ∧ Ok w0 s0 (inv g) a w) (μ g) ⟨g, rfl, h.1.wf, hk.ent h.1⟩ (fun n a w ⟨g, e, hw', hk'⟩ => ?_)
      refine exec_sound hm c (h.2 g) hw' hk' fun e' T' S' a w h1 hw2 hk2 => ?_
      cases e' with
      | nrm =>
        obtain ⟨g', hg, hlt⟩ := h1
        exact ⟨μ g', by omega, g', rfl, hg.wf, hk2.ent hg⟩
      | exit n => exact hq _ _ _ _ _ h1 hw2 hk2
      | ret => exact hq _ _ _ _ _ h1 hw2 hk2
    · cases h
  | .exit n, T, S, K, Q, a, w, h, hw, hk, hq => wp_exit (hq _ _ _ _ _ h hw hk)
  | .scope c, T, S, K, Q, a, w, h, hw, hk, hq => by
    refine wp_scope_straight (exec_sound hm c h hw hk fun e T' S' a w h1 hw' hk' => ?_)
    have := hq e T' S' a w h1 hw' hk'
    cases e <;> exact this
  | .ret, T, S, K, Q, a, w, h, hw, hk, hq => wp_ret (hq _ _ _ _ _ h hw hk)
  | .rangeFunc .., T, S, K, Q, a, w, h, hw, hk, hq => by cases h
  | .label _, T, S, K, Q, a, w, h, hw, hk, hq => by cases h
  | .goto _, T, S, K, Q, a, w, h, hw, hk, hq => by cases h
  | .refuse _, T, S, K, Q, a, w, h, hw, hk, hq => by cases h
end
end Go.Proofs.Ythhgjloephkpaaa.Lx
namespace Go.Proofs.Ythhgjloephkpaaa.Lx
set_option linter.unusedVariables false
set_option linter.unusedSimpArgs false
open Go Go.RowKit Go.Proofs.Ythhgjloephkpaaa Go.Proofs.YthhgjloephkpaaaW.PrintWords Go.Proofs.YthhgjloephkpaaaW.PrintLast

def resU (P : Program) (S : SS) : ResultVar → Option UV
  | .tmp t => match look S.tm t with
    | some (.u u) => some u
    | _ => none
  | .cell p ty => match look S.tm p with
    | some (.u ⟨false, [.ptr b off]⟩) => match look S.bx b, pureVal P (isAgg ty), pureVal P (sizeOf ty) with
      | some (_, l), some g, some n => match cutW off l with
        | some (_, r) => match cutW (cw g n) r with
          | some (m, _) => some ⟨g, m⟩
          | none => none
        | none => none
      | _, _, _ => none
    | _ => none
def resL (P : Program) (S : SS) : List ResultVar → Option (List UV)
  | [] => some []
  | r :: l => match resU P S r, resL P S l with
    | some u, some m => some (u :: m)
    | _, _ => none
def resT (P : Program) (S : SS) (l : List ResultVar) : Option TV := match resL P S l with
  | some [u] => some (.u u)
  | some m => some (.tup m)
  | none => none
def retK (P : Program) (fn : Func) (r : TV) : Kn := fun e T S => match e with
  | .exit _ => False
  | _ => match resT P S fn.results.toList with
    | some v => AsOk v r
    | none => False
def enumT : Nat → List TV → List (Nat × TV)
  | _, [] => []
  | i, t :: l => (i, t) :: enumT (i + 1) l
def S0 (args : List TV) (n : Nat) : SS := ⟨enumT 0 args, [], 0, n⟩
theorem enumT_spec : ∀ {l : List TV} {i k : Nat} {v : TV}, look (enumT i l) k = some v → ∃ j, k = i + j ∧ l[j]? = some v
  | t :: l, i, k, v, h => by
    unfold enumT at h
    by_cases e : i = k
    · rw [look_here e] at h; injection h with h; subst h e; exact ⟨0, rfl, rfl⟩
    · rw [look_off e] at h
      obtain ⟨j, e1, e2⟩ := enumT_spec h
      exact ⟨j + 1, by omega, by simpa using e2⟩
  | [], i, k, v, h => by cases h
section
variable {P : Program} {w0 : World} {s0 : Kst}
theorem repAll_get {γ : Nat → Nat} {s : Kst} : ∀ {l : List TV} {vs : List Value} {i : Nat} {t : TV}, RepAll γ s l vs → l[i]? = some t → ∃ v, vs[i]? = some v ∧ t.Rep γ s v
  | c :: l, vs, 0, u, ⟨x, y, e, k1, k2⟩, h => by simp at h; subst h; exact ⟨x, by rw [e]; rfl, k1⟩
  | c :: l, vs, i + 1, u, ⟨x, y, e, k1, k2⟩, h => by
    simp at h
    obtain ⟨v, hv, k⟩ := repAll_get k2 h
    exact ⟨v, by rw [e]; simpa using hv, k⟩
  | [], vs, i, u, _, h => by simp at h
theorem repAll_len {γ : Nat → Nat} {s : Kst} : ∀ {l : List TV} {vs : List Value}, RepAll γ s l vs → vs.length = l.length
  | [], vs, k => by rw [show vs = [] from k]; rfl
  | c :: l, vs, ⟨x, y, e, k1, k2⟩ => by rw [e, List.length_cons, List.length_cons, repAll_len k2]
theorem loadVar_run {γ : Nat → Nat} {s : Kst} {n0 b off n : Nat} {t ty : TypeId} {l r m p q : List SV} {g : Bool} (hb : BoxAt n0 γ s b t l) (hg : pureVal P (isAgg ty) = some g) (hn : pureVal P (sizeOf ty) = some n) (h1 : cutW off l = some (p, r)) (h2 : cutW (cw g n) r = some (m, q)) :
    ∃ x, (loadVar ty ⟨γ b, off, none⟩).run P s.w = .ok x s.w ∧ (UV.mk g m).Rep γ s x := by
  have h := ok_load (P := P) (γ := γ) (s := s) (n0 := n0) (b := b) (off := off) (t := t) (o := { dst := none, op := .load ty (.const (.pointer (some ⟨γ b, off, none⟩))), type := 0, pos := "", after := #[], guard := none }) (a := ⟨#[], []⟩) rfl rfl hb hg hn h1 h2
  obtain ⟨x, hr, hx⟩ := h
  refine ⟨x, ?_, hx⟩
  unfold execOp at hr
  simp only [Act.eval, Instr.loadAt, Instr.sureAddr, Sem.run_bind, Sem.run_pure, Result.andThen_ok] at hr
  cases hl : (loadVar ty ⟨γ b, off, none⟩).run P s.w with
  | ok y w' =>
    rw [hl] at hr
    simp only [Result.andThen_ok] at hr
    injection hr with h1 h2
    injection h1 with h1
    rw [h1, h2]
  | halt y w' => rw [hl] at hr; cases hr
def resF (tmps : Array Value) : ResultVar → Sem Value
  | .tmp t => pure (tmps.getD t undef)
  | .cell p ty => do loadVar ty (← asAddr (tmps.getD p undef))
theorem results_eq (fn : Func) (tmps : Array Value) : results fn tmps = (fn.results.mapM (resF tmps) >>= fun vs => pure (if h : vs.size = 1 then vs[0] else .tuple vs)) := by
  have e : (fun x => match x with
    | .tmp t => pure (tmps.getD t undef)
    | .cell a t => do loadVar t (← asAddr (tmps.getD a undef))) = resF tmps := by funext x; cases x <;> rfl
  rw [← e]; rfl
theorem resU_run {γ : Nat → Nat} {s : Kst} {a : Act} {S : SS} {n0 : Nat} (hs : Sat n0 γ s a S) {r : ResultVar} {u : UV} (h : resU P S r = some u) :
    ∃ x, (resF a.tmps r).run P s.w = .ok x s.w ∧ u.Rep γ s x := by
  cases r with
  | tmp t =>
    unfold resU at h
    simp only at h
    split at h
    · rename_i u' hu
      injection h with h; subst h
      exact ⟨_, rfl, hs.tm t _ hu⟩
    · cases h
  | cell p ty =>
    unfold resU at h
    simp only at h
    split at h
    · rename_i b off hu
      have hp := ptr_rep (hs.tm p _ hu)
      split at h
      · rename_i t l g n hl hg hn
        split at h
        · rename_i p' r h1
          split at h
          · rename_i m q h2
            injection h with h; subst h
            obtain ⟨x, hx, hr⟩ := loadVar_run (hs.bx b t l hl) hg hn h1 h2
            refine ⟨x, ?_, hr⟩
            unfold resF
            simp only [hp, asAddr, Sem.run_bind, Sem.run_pure, Result.andThen_ok]
            exact hx
          · cases h
        · cases h
      · cases h
    · cases h
theorem resL_run {γ : Nat → Nat} {s : Kst} {a : Act} {S : SS} {n0 : Nat} (hs : Sat n0 γ s a S) : ∀ {l : List ResultVar} {us : List UV}, resL P S l = some us →
    ∃ xs : List Value, (l.mapM (resF a.tmps)).run P s.w = .ok xs s.w ∧ RepT γ s us xs
  | [], us, h => by unfold resL at h; injection h with h; subst h; exact ⟨[], by simp [go_sem], rfl⟩
  | r :: l, us, h => by
    unfold resL at h
    split at h
    · rename_i u m h1 h2
      injection h with h; subst h
      obtain ⟨x, hx, hr⟩ := resU_run hs h1
      obtain ⟨xs, hxs, hrs⟩ := resL_run hs h2
      refine ⟨x :: xs, ?_, x, xs, rfl, hr, hrs⟩
      rw [List.mapM_cons, Sem.run_bind, hx, Result.andThen_ok, Sem.run_bind, hxs, Result.andThen_ok, Sem.run_pure]
    · cases h
theorem resT_run {γ : Nat → Nat} {s : Kst} {a : Act} {S : SS} {n0 : Nat} (hs : Sat n0 γ s a S) {fn : Func} {v : TV} (h : resT P S fn.results.toList = some v) : ∃ x, (results fn a.tmps).run P s.w = .ok x s.w ∧ v.Rep γ s x := by
  unfold resT at h
  have key : ∀ us, resL P S fn.results.toList = some us → ∃ xs : List Value, (results fn a.tmps).run P s.w = .ok (if h : xs.toArray.size = 1 then xs.toArray[0] else .tuple xs.toArray) s.w ∧ RepT γ s us xs := fun us hu => by
    obtain ⟨xs, hxs, hrs⟩ := resL_run hs hu
    refine ⟨xs, ?_, hrs⟩
    rw [results_eq, Array.mapM_eq_mapM_toList]
    simp only [Sem.run_bind, map_eq_pure_bind, hxs, Result.andThen_ok, Sem.run_pure]
  split at h
  · rename_i u hu
    injection h with h; subst h
    obtain ⟨xs, hr, x, y, e, k1, k2⟩ := key _ hu
    rw [show y = [] from k2] at e
    subst e
    exact ⟨x, by rw [hr]; rfl, k1⟩
  · rename_i m hne hu
    injection h with h; subst h
    obtain ⟨xs, hr, k⟩ := key _ hu
    refine ⟨.tuple xs.toArray, ?_, xs, rfl, k⟩
    rw [hr]
    have : ¬ xs.toArray.size = 1 := fun e => by
      cases m with
      | nil => rw [show xs = [] from k] at e; simp at e
      | cons a m =>
        cases m with
        | nil => exact hne a rfl
        | cons b m =>
          obtain ⟨x1, y1, e1, _, x2, y2, e2, _, _⟩ := k
          rw [e1, e2] at e; simp at e
    rw [dif_neg this]
  · cases h
theorem spec_exec {f : FuncId} {fn : Func} {c : Code} {args : List TV} {T : Tr} {r : TV} (hf : P.funcs[f]? = some fn) (hb : fn.body = some c) (hname : (fn.name == "runtime.NumGoroutine") = false) (hm : P.follows .mixedOrders = true)
    (hnt : Nat.ble args.length fn.ntmps = true) (hcl : args.all (TV.nm fun _ => false) = true) (hcr : r.nm (fun _ => false) = true) (h : exec P c T (S0 args fn.ntmps) (retK P fn r)) : Spec P f args r := by
  refine ⟨fun vs w => enters_ hf hname (by rw [hb]; rfl) vs w, fun γ s vs hvs => ?_⟩
  have hlen := repAll_len hvs
  have hnt' := Nat.le_of_ble_eq_true hnt
  refine calls_of_wp hf hb (exec_sound (w0 := s.w) (s0 := s) hm c h ?_ ⟨γ, s, rfl, ?_, Below.refl _ _, Le.refl _⟩ fun e T' S' a w h1 hw hk => ?_)
  · refine ⟨fun b hb' => Bool.noConfusion hb', fun k v hv => ?_, fun b ty l hl => nomatch hl⟩
    obtain ⟨j, _, hj⟩ := enumT_spec hv
    exact TV.nm_le (fun _ h => by cases h) (List.all_eq_true.1 hcl _ (List.mem_of_getElem? hj))
  · refine ⟨rfl, ?_, fun k v hv => ?_, fun b ty l hl => (nomatch hl), fun b b' hb1 _ _ => Bool.noConfusion hb1⟩
    · simp [S0, hlen]; omega
    · obtain ⟨j, e, hj⟩ := enumT_spec hv
      rw [Nat.zero_add] at e; subst e
      obtain ⟨x, hx, hr⟩ := repAll_get hvs hj
      have hlt : k < vs.length := (List.getElem?_eq_some_iff.1 hx).1
      have : (vs.toArray ++ Array.replicate (fn.ntmps - vs.toArray.size) undef).getD k undef = x := by
        rw [Array.getD_eq_getD_getElem?, Array.getElem?_append_left (by simpa using hlt)]
        simp [hx]
      show TV.Rep γ s v ((vs.toArray ++ Array.replicate (fn.ntmps - vs.toArray.size) undef).getD k undef)
      rw [this]; exact hr
  · obtain ⟨γ', t, rfl, hs, hB, hL⟩ := hk
    have hret : ∀ v, resT P S' fn.results.toList = some v → AsOk v r → a.defers = [] ∧ ∃ x, (results fn a.tmps).run P t.w = .ok x t.w ∧ ∃ x' t', Ending.returned x = .returned x' ∧ t'.w = t.w ∧ Le s t' ∧ Below s.w.heap.size s.w t.w ∧ ∀ δ, r.Rep δ t' x' := fun v hv ha => by
      obtain ⟨x, hx, hr⟩ := resT_run hs hv
      exact ⟨hs.df, x, hx, x, t, rfl, rfl, hL, hB, fun δ => (ha _ _ _ hr).ren (fun _ h => by cases h) hcr⟩
    unfold retK at h1
    cases e with
    | exit n => cases h1
    | nrm =>
      simp only at h1
      split at h1
      · rename_i v hv; exact hret v hv h1
      · cases h1
    | ret =>
      simp only at h1
      split at h1
      · rename_i v hv; exact hret v hv h1
      · cases h1
end
end Go.Proofs.Ythhgjloephkpaaa.Lx
namespace Go.Proofs.Ythhgjloephkpaaa
set_option linter.unusedVariables false
set_option linter.unusedSimpArgs false
open Go Go.RowKit Go.Proofs.YthhgjloephkpaaaW.PrintWords Go.Proofs.YthhgjloephkpaaaW.PrintLast

theorem win_at (pre wl post : List Nat) (j : Nat) (hj : j < wl.length) : (pre ++ wl ++ post).getD (pre.length + j) 0 = wl.getD j 0 := by
  rw [List.getD_eq_getElem?_getD, List.getD_eq_getElem?_getD, List.append_assoc, List.getElem?_append_right (by omega), Nat.add_sub_cancel_left, List.getElem?_append_left hj]
theorem win_set (pre wl post : List Nat) (j v : Nat) (hj : j < wl.length) : (pre ++ wl ++ post).set (pre.length + j) v = pre ++ wl.set j v ++ post := by
  rw [List.append_assoc, List.set_append_right _ _ (by omega), Nat.add_sub_cancel_left, List.set_append_left _ _ hj, List.append_assoc]
theorem take_set_le {l : List Nat} {j v : Nat} : (l.set j v).take j = l.take j := by
  rw [List.take_set_of_le (Nat.le_refl j)]
/-- One step of taking q times y away. -/
theorem sub_step {w0 cur y : List Nat} {j q cy br lo e cy' br' : Nat} (hl : cur.length = w0.length) (hj : j < w0.length) (hd : Dig cur) (hcur : ∀ i, j ≤ i → cur.getD i 0 = w0.getD i 0)
    (hv : val (cur.take j) + q * val (y.take j) = val (w0.take j) + BW ^ j * (cy + br)) (he : e < BW) (h1 : cy + q * y.getD j 0 = lo + BW * cy') (h2 : w0.getD j 0 + BW * br' = e + lo + br) :
    (cur.set j e).length = w0.length ∧ Dig (cur.set j e) ∧ (∀ i, j + 1 ≤ i → (cur.set j e).getD i 0 = w0.getD i 0) ∧
      val ((cur.set j e).take (j + 1)) + q * val (y.take (j + 1)) = val (w0.take (j + 1)) + BW ^ (j + 1) * (cy' + br') := by
  refine ⟨by rw [List.length_set, hl], hd.set j he, fun i hi => by rw [getD_set, if_neg (by omega)]; exact hcur i (by omega), ?_⟩
  rw [val_take_step, val_take_step, val_take_step, take_set_le, getD_set, if_pos ⟨rfl, by omega⟩, Nat.pow_succ, Nat.mul_assoc]
  have e1 := congrArg (BW ^ j * ·) h1
  have e2 := congrArg (BW ^ j * ·) h2
  simp only [Nat.mul_add] at e1 e2 hv ⊢
  have e3 : q * (BW ^ j * y.getD j 0) = BW ^ j * (q * y.getD j 0) := by rw [← Nat.mul_assoc, Nat.mul_comm q, Nat.mul_assoc]
  omega
/-- One step of giving y back. -/
theorem add_step {c0 cur y : List Nat} {j cy : Nat} (hl : cur.length = c0.length) (hj : j < c0.length) (hd : Dig cur) (hcur : ∀ i, j ≤ i → cur.getD i 0 = c0.getD i 0)
    (hv : val (cur.take j) + BW ^ j * cy = val (c0.take j) + val (y.take j)) :
    (cur.set j ((cy + c0.getD j 0 + y.getD j 0) % BW)).length = c0.length ∧ Dig (cur.set j ((cy + c0.getD j 0 + y.getD j 0) % BW)) ∧ (∀ i, j + 1 ≤ i → (cur.set j ((cy + c0.getD j 0 + y.getD j 0) % BW)).getD i 0 = c0.getD i 0) ∧
      val ((cur.set j ((cy + c0.getD j 0 + y.getD j 0) % BW)).take (j + 1)) + BW ^ (j + 1) * ((cy + c0.getD j 0 + y.getD j 0) / BW) = val (c0.take (j + 1)) + val (y.take (j + 1)) := by
  refine ⟨by rw [List.length_set, hl], hd.set j (Nat.mod_lt _ BW_pos), fun i hi => by rw [getD_set, if_neg (by omega)]; exact hcur i (by omega), ?_⟩
  rw [val_take_step, val_take_step, val_take_step, take_set_le, getD_set, if_pos ⟨rfl, by omega⟩, Nat.pow_succ, Nat.mul_assoc]
  have h5 : BW ^ j * ((cy + c0.getD j 0 + y.getD j 0) % BW) + BW ^ j * (BW * ((cy + c0.getD j 0 + y.getD j 0) / BW)) = BW ^ j * (cy + c0.getD j 0 + y.getD j 0) := by
    rw [← Nat.mul_add, Nat.mod_add_div]
  rw [Nat.mul_add, Nat.mul_add] at h5
  omega
theorem add_end {cur : List Nat} {n V q X Y cy : Nat} (hl : cur.length = n) (hd : Dig cur) (hV : V + q * Y = X + BW ^ n) (hv : val cur + BW ^ n * cy = V + Y) (hq : 0 < q) (h1 : (q - 1) * Y ≤ X) (h2 : X - (q - 1) * Y < BW ^ n) (hcy : cy ≤ 1) : val cur = X - (q - 1) * Y := by
  have h3 := val_lt hd
  rw [hl] at h3
  have h4 : q * Y = (q - 1) * Y + Y := by
    conv => lhs; rw [show q = (q - 1) + 1 by omega, Nat.add_mul, Nat.one_mul]
  rcases (show cy = 0 ∨ cy = 1 by omega) with h | h
  · subst h; rw [Nat.mul_zero] at hv; omega
  · subst h; rw [Nat.mul_one] at hv; omega
end Go.Proofs.Ythhgjloephkpaaa
