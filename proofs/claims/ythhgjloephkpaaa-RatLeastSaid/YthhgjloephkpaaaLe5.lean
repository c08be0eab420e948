/- Words and walks for the row RowRatLeast, put together: LX1, LX2, LX3, LX4, LX5, LX6. -/
import Derived.Test.YthhgjloephkpaaaLe4
namespace Go.Proofs.Ythhgjloephkpaaa.Lx
set_option linter.unusedVariables false
set_option linter.unusedSimpArgs false
open Go Go.RowKit Go.Proofs.Ythhgjloephkpaaa Go.Proofs.YthhgjloephkpaaaW.PrintWords Go.Proofs.YthhgjloephkpaaaW.PrintLast

def look {β : Type _} : List (Nat × β) → Nat → Option β
  | [], _ => none
  | p :: l, n => match Nat.beq p.1 n with
    | true => some p.2
    | false => look l n

/-- A world, and which of its blocks are frozen. -/
structure Kst where
  w : World
  fz : Nat → Prop
  lt : ∀ g, fz g → g < w.heap.size
/-- A later one. -/
structure Le (s t : Kst) : Prop where
  u : U s.w t.w
  keep : ∀ g, s.fz g → t.fz g ∧ t.w.heap[g]? = s.w.heap[g]?
  size : s.w.heap.size ≤ t.w.heap.size
  new : ∀ g, t.fz g → s.fz g ∨ s.w.heap.size ≤ g
theorem Le.refl (s : Kst) : Le s s := ⟨U.refl _, fun _ h => ⟨h, rfl⟩, Nat.le_refl _, fun _ h => .inl h⟩
theorem Le.trans {a b c : Kst} (h : Le a b) (k : Le b c) : Le a c :=
  ⟨h.u.trans k.u, fun g hg => ⟨(k.keep g (h.keep g hg).1).1, by rw [(k.keep g (h.keep g hg).1).2, (h.keep g hg).2]⟩, Nat.le_trans h.size k.size,
    fun g hg => (k.new g hg).elim (h.new g) (fun h1 => .inr (Nat.le_trans h.size h1))⟩
/-- An abstract kind: how cells stand for a thing. -/
structure Rel (α : Type) where
  n : Nat
  R : Kst → List Value → α → Prop
  up : ∀ s t cs x, Le s t → R s cs x → R t cs x
  len : ∀ s cs x, R s cs x → cs.length = n
  ok : ∀ s cs x, R s cs x → ∀ c ∈ cs, c.oneCell' = true ∧ noW c = true
/-- A cell or some: a value, a pointer into a box of the function's own, an abstract thing. -/
inductive SV : Type 1
  | val (v : Value)
  | ptr (b o : Nat)
  | abs {α : Type} (R : Rel α) (x : α)
def SV.width : SV → Nat
  | .abs R _ => R.n
  | _ => 1
/-- The boxes it names are all p. -/
def SV.nm (p : Nat → Bool) : SV → Bool
  | .ptr b _ => p b
  | _ => true
def SV.Rep (γ : Nat → Nat) (s : Kst) : SV → List Value → Prop
  | .val v, cs => cs = [v] ∧ v.oneCell' = true
  | .ptr b o, cs => cs = [.pointer (some ⟨γ b, o, none⟩)]
  | .abs R x, cs => R.R s cs x
def RepL (γ : Nat → Nat) (s : Kst) : List SV → List Value → Prop
  | [], cs => cs = []
  | c :: l, cs => ∃ a b, cs = a ++ b ∧ c.Rep γ s a ∧ RepL γ s l b
theorem SV.Rep.up {γ : Nat → Nat} {s t : Kst} {c : SV} {cs : List Value} (h : Le s t) (k : c.Rep γ s cs) : c.Rep γ t cs := by
  cases c with
  | val v => exact k
  | ptr b o => exact k
  | abs R x => exact R.up _ _ _ _ h k
theorem SV.Rep.len {γ : Nat → Nat} {s : Kst} {c : SV} {cs : List Value} (k : c.Rep γ s cs) : cs.length = c.width := by
  cases c with
  | val v => rw [k.1]; rfl
  | ptr b o => rw [show cs = _ from k]; rfl
  | abs R x => exact R.len _ _ _ k
theorem SV.Rep.one {γ : Nat → Nat} {s : Kst} {c : SV} {cs : List Value} (k : c.Rep γ s cs) : ∀ v ∈ cs, v.oneCell' = true := by
  cases c with
  | val v => rw [k.1]; intro x hx; rw [List.mem_singleton.1 hx]; exact k.2
  | ptr b o => rw [show cs = _ from k]; intro x hx; rw [List.mem_singleton.1 hx]; rfl
  | abs R x => exact fun v hv => (R.ok _ _ _ k v hv).1
def SV.noW : SV → Bool
  | .val v => Go.Proofs.Ythhgjloephkpaaa.noW v
  | _ => true
theorem SV.Rep.now {γ : Nat → Nat} {s : Kst} {c : SV} {cs : List Value} (k : c.Rep γ s cs) (h : c.noW = true) : ∀ v ∈ cs, Go.Proofs.Ythhgjloephkpaaa.noW v = true := by
  cases c with
  | val v => rw [k.1]; intro x hx; rw [List.mem_singleton.1 hx]; exact h
  | ptr b o => rw [show cs = _ from k]; intro x hx; rw [List.mem_singleton.1 hx]; rfl
  | abs R x => exact fun v hv => (R.ok _ _ _ k v hv).2
section
variable {γ : Nat → Nat} {s t : Kst}
theorem RepL.up (h : Le s t) : ∀ {l : List SV} {cs : List Value}, RepL γ s l cs → RepL γ t l cs
  | [], _, k => k
  | _ :: _, _, ⟨a, b, e, k1, k2⟩ => ⟨a, b, e, k1.up h, k2.up h⟩
theorem RepL.one : ∀ {l : List SV} {cs : List Value}, RepL γ s l cs → ∀ v ∈ cs, v.oneCell' = true
  | [], _, k => by rw [show _ = [] from k]; intro v hv; cases hv
  | _ :: _, _, ⟨a, b, e, k1, k2⟩ => by
    subst e
    intro v hv
    rcases List.mem_append.1 hv with h | h
    · exact k1.one v h
    · exact k2.one v h
theorem RepL.now : ∀ {l : List SV} {cs : List Value}, RepL γ s l cs → l.all SV.noW = true → ∀ v ∈ cs, noW v = true
  | [], _, k, _ => by rw [show _ = [] from k]; intro v hv; cases hv
  | c :: l, _, ⟨a, b, e, k1, k2⟩, h => by
    subst e
    rw [List.all_cons, Bool.and_eq_true] at h
    intro v hv
    rcases List.mem_append.1 hv with h1 | h1
    · exact k1.now h.1 v h1
    · exact k2.now h.2 v h1
def widthL : List SV → Nat
  | [] => 0
  | c :: l => c.width + widthL l
theorem RepL.len : ∀ {l : List SV} {cs : List Value}, RepL γ s l cs → cs.length = widthL l
  | [], _, k => by rw [show _ = [] from k]; rfl
  | _ :: _, _, ⟨a, b, e, k1, k2⟩ => by subst e; rw [List.length_append, k1.len, k2.len]; rfl
theorem RepL.append : ∀ {l m : List SV} {cs ds : List Value}, RepL γ s l cs → RepL γ s m ds → RepL γ s (l ++ m) (cs ++ ds)
  | [], _, _, _, k, k' => by rw [show _ = [] from k]; exact k'
  | _ :: _, _, _, _, ⟨a, b, e, k1, k2⟩, k' => by subst e; exact ⟨a, _, List.append_assoc .., k1, k2.append k'⟩
/-- The first of them that fill n cells, and the others. -/
def cutW : Nat → List SV → Option (List SV × List SV)
  | 0, l => some ([], l)
  | _ + 1, [] => none
  | n + 1, c :: l => match Nat.ble c.width (n + 1) with
    | true => match cutW (n + 1 - c.width) l with
      | some (a, b) => some (c :: a, b)
      | none => none
    | false => none
theorem cutW_spec : ∀ (n : Nat) (l : List SV) {a b : List SV} {cs : List Value}, cutW n l = some (a, b) → RepL γ s l cs → RepL γ s a (cs.take n) ∧ RepL γ s b (cs.drop n) ∧ n ≤ cs.length
  | 0, l, a, b, cs, h, k => by
    unfold cutW at h
    injection h with h; injection h with h1 h2
    subst h1 h2
    exact ⟨rfl, k, Nat.zero_le _⟩
  | n + 1, [], a, b, cs, h, k => by unfold cutW at h; cases h
  | n + 1, c :: l, a, b, cs, h, k => by
    unfold cutW at h
    split at h
    · rename_i hw
      split at h
      · rename_i a' b' h1
        injection h with h; injection h with h2 h3
        subst h2 h3
        obtain ⟨x, y, e, k1, k2⟩ := k
        have hx := k1.len
        have hle := Nat.le_of_ble_eq_true hw
        obtain ⟨i1, i2, i3⟩ := cutW_spec (n + 1 - c.width) l h1 k2
        subst e
        refine ⟨⟨x, y.take (n + 1 - c.width), ?_, k1, i1⟩, ?_, ?_⟩
        · rw [List.take_append, ← hx, List.take_of_length_le (by omega)]
        · rw [List.drop_append, List.drop_of_length_le (by omega), List.nil_append, hx]; exact i2
        · rw [List.length_append]; omega
      · cases h
    · cases h
end
/-- A value: one cell, or an aggregate. -/
structure UV : Type 1 where
  ag : Bool
  l : List SV
def UV.Rep (γ : Nat → Nat) (s : Kst) (u : UV) (v : Value) : Prop :=
  match u.ag with
  | true => ∃ cs : List Value, v = .agg cs.toArray ∧ RepL γ s u.l cs
  | false => v.oneCell' = true ∧ RepL γ s u.l [v]
inductive TV : Type 1
  | u (x : UV)
  | tup (l : List UV)
def RepT (γ : Nat → Nat) (s : Kst) : List UV → List Value → Prop
  | [], vs => vs = []
  | c :: l, vs => ∃ a b, vs = a :: b ∧ c.Rep γ s a ∧ RepT γ s l b
def TV.Rep (γ : Nat → Nat) (s : Kst) : TV → Value → Prop
  | .u x, v => x.Rep γ s v
  | .tup l, v => ∃ vs : List Value, v = .tuple vs.toArray ∧ RepT γ s l vs
section
variable {γ : Nat → Nat} {s t : Kst}
theorem UV.Rep.up (h : Le s t) {u : UV} {v : Value} (k : u.Rep γ s v) : u.Rep γ t v := by
  obtain ⟨ag, l⟩ := u
  cases ag
  · exact ⟨k.1, k.2.up h⟩
  · obtain ⟨cs, e, k⟩ := k; exact ⟨cs, e, k.up h⟩
theorem RepT.up (h : Le s t) : ∀ {l : List UV} {vs : List Value}, RepT γ s l vs → RepT γ t l vs
  | [], _, k => k
  | _ :: _, _, ⟨a, b, e, k1, k2⟩ => ⟨a, b, e, k1.up h, k2.up h⟩
theorem TV.Rep.up (h : Le s t) {u : TV} {v : Value} (k : u.Rep γ s v) : u.Rep γ t v := by
  cases u with
  | u x => exact UV.Rep.up h k
  | tup l => obtain ⟨vs, e, k⟩ := k; exact ⟨vs, e, k.up h⟩
theorem UV.Rep.cells {u : UV} {v : Value} (k : u.Rep γ s v) : RepL γ s u.l v.cells.toList := by
  obtain ⟨ag, l⟩ := u
  cases ag
  · obtain ⟨k1, k2⟩ := k
    have : v.cells = #[v] := by cases v <;> first | rfl | (simp [Value.oneCell'] at k1)
    rw [this]; exact k2
  · obtain ⟨cs, e, k⟩ := k; subst e; exact k
end
def UV.nm (p : Nat → Bool) (u : UV) : Bool := u.l.all (SV.nm p)
def TV.nm (p : Nat → Bool) : TV → Bool
  | .u x => x.nm p
  | .tup l => l.all (UV.nm p)
section
variable {γ δ : Nat → Nat} {s : Kst} {p : Nat → Bool}
theorem SV.Rep.ren (h : ∀ b, p b = true → δ b = γ b) {c : SV} {cs : List Value} (k : c.Rep γ s cs) (hb : c.nm p = true) : c.Rep δ s cs := by
  cases c with
  | val v => exact k
  | ptr b o =>
    rw [show cs = _ from k]
    show _ = _
    rw [h b hb]
  | abs R x => exact k
theorem RepL.ren (h : ∀ b, p b = true → δ b = γ b) : ∀ {l : List SV} {cs : List Value}, RepL γ s l cs → l.all (SV.nm p) = true → RepL δ s l cs
  | [], _, k, _ => k
  | _ :: _, _, ⟨a, b, e, k1, k2⟩, hb => by
    rw [List.all_cons, Bool.and_eq_true] at hb
    exact ⟨a, b, e, k1.ren h hb.1, k2.ren h hb.2⟩
theorem UV.Rep.ren (h : ∀ b, p b = true → δ b = γ b) {u : UV} {v : Value} (k : u.Rep γ s v) (hb : u.nm p = true) : u.Rep δ s v := by
  obtain ⟨ag, l⟩ := u
  cases ag
  · exact ⟨k.1, k.2.ren h hb⟩
  · obtain ⟨cs, e, k⟩ := k; exact ⟨cs, e, k.ren h hb⟩
theorem RepT.ren (h : ∀ b, p b = true → δ b = γ b) : ∀ {l : List UV} {vs : List Value}, RepT γ s l vs → l.all (UV.nm p) = true → RepT δ s l vs
  | [], _, k, _ => k
  | _ :: _, _, ⟨a, b, e, k1, k2⟩, hb => by
    rw [List.all_cons, Bool.and_eq_true] at hb
    exact ⟨a, b, e, k1.ren h hb.1, k2.ren h hb.2⟩
theorem TV.Rep.ren (h : ∀ b, p b = true → δ b = γ b) {u : TV} {v : Value} (k : u.Rep γ s v) (hb : u.nm p = true) : u.Rep δ s v := by
  cases u with
  | u x => exact UV.Rep.ren h k hb
  | tup l => obtain ⟨vs, e, k⟩ := k; exact ⟨vs, e, k.ren h hb⟩
end
/-- A state: slots and boxes (newest first), and the next box's name. -/
structure SS : Type 1 where
  tm : List (Nat × TV)
  bx : List (Nat × TypeId × List SV)
  nx : Nat
  n : Nat
def BoxAt (n0 : Nat) (γ : Nat → Nat) (s : Kst) (b : Nat) (ty : TypeId) (l : List SV) : Prop :=
  ∃ cs : List Value, RepL γ s l cs ∧ s.w.heap[γ b]? = some (.cells cs.toArray ty (0, 0)) ∧ (∀ v ∈ cs, noW v = true) ∧ n0 ≤ γ b ∧ ¬ s.fz (γ b)
structure Sat (n0 : Nat) (γ : Nat → Nat) (s : Kst) (a : Act) (S : SS) : Prop where
  df : a.defers = []
  sz : a.tmps.size = S.n
  tm : ∀ k v, look S.tm k = some v → v.Rep γ s (a.tmps.getD k undef)
  bx : ∀ b ty l, look S.bx b = some (ty, l) → BoxAt n0 γ s b ty l
  inj : ∀ b b', (look S.bx b).isSome = true → (look S.bx b').isSome = true → γ b = γ b' → b = b'
/-- The names it bears are below its next one. -/
structure Wf (S : SS) : Prop where
  nx : ∀ b, (look S.bx b).isSome = true → b < S.nx
  nt : ∀ k v, look S.tm k = some v → v.nm (fun b => Nat.blt b S.nx) = true
  nb : ∀ b ty l, look S.bx b = some (ty, l) → l.all (SV.nm fun b => Nat.blt b S.nx) = true
end Go.Proofs.Ythhgjloephkpaaa.Lx
namespace Go.Proofs.Ythhgjloephkpaaa.Lx
set_option linter.unusedVariables false
set_option linter.unusedSimpArgs false
open Go Go.RowKit Go.Proofs.Ythhgjloephkpaaa Go.Proofs.YthhgjloephkpaaaW.PrintWords Go.Proofs.YthhgjloephkpaaaW.PrintLast

/-- A value that no world has a part in. -/
def pureVal {α : Type} (P : Program) : Sem α → Option α
  | .pure a => some a
  | .program k => pureVal P (k P)
  | .mark _ k => pureVal P k
  | _ => none
theorem pureVal_run {α : Type} {P : Program} : ∀ {m : Sem α} {a : α}, pureVal P m = some a → ∀ w, m.run P w = .ok a w
  | .pure a, b, h, w => by unfold pureVal at h; injection h with h; subst h; rfl
  | .program k, b, h, w => by unfold pureVal at h; exact pureVal_run h w
  | .mark m k, b, h, w => by unfold pureVal at h; exact pureVal_run h w
  | .load _ _ _, _, h, _ => by unfold pureVal at h; cases h
  | .store _ _ _ _, _, h, _ => by unfold pureVal at h; cases h
  | .new _ _, _, h, _ => by unfold pureVal at h; cases h
  | .shape _ _, _, h, _ => by unfold pureVal at h; cases h
  | .freeze _ _ _, _, h, _ => by unfold pureVal at h; cases h
  | .frozen _ _, _, h, _ => by unfold pureVal at h; cases h
  | .getObj _ _, _, h, _ => by unfold pureVal at h; cases h
  | .setObj _ _ _, _, h, _ => by unfold pureVal at h; cases h
  | .choose _ _, _, h, _ => by unfold pureVal at h; cases h
  | .sys _ _, _, h, _ => by unfold pureVal at h; cases h
  | .halt _, _, h, _ => by unfold pureVal at h; cases h

def opT (S : SS) : Operand → Option TV
  | .tmp k => look S.tm k
  | .const v => match v.oneCell' with
    | true => some (.u ⟨false, [.val v]⟩)
    | false => none
  | .func f => some (.u ⟨false, [.val (.func (.func f) #[] #[])]⟩)
  | .global _ => none
def valsOf : List SV → Option (List Value)
  | [] => some []
  | .val v :: l => match valsOf l with
    | some r => some (v :: r)
    | none => none
  | _ :: _ => none
def UV.sc (u : UV) : Option Value := match u.ag, valsOf u.l with
  | true, some vs => some (.agg vs.toArray)
  | false, some [v] => some v
  | _, _ => none
def scT : List UV → Option (List Value)
  | [] => some []
  | u :: l => match u.sc, scT l with
    | some v, some r => some (v :: r)
    | _, _ => none
def TV.sc : TV → Option Value
  | .u x => x.sc
  | .tup l => match scT l with
    | some vs => some (.tuple vs.toArray)
    | none => none
def scO (S : SS) (x : Operand) : Option Value := match opT S x with
  | some t => t.sc
  | none => none
def ofV : Value → Option TV
  | .agg cs => match cs.toList.all Value.oneCell' with
    | true => some (.u ⟨true, cs.toList.map .val⟩)
    | false => none
  | .tuple _ => none
  | v => some (.u ⟨false, [.val v]⟩)
inductive Eff : Type 1
  | pure (v : TV)
  | alloc (ty : TypeId) (l : List SV)
  | store (b : Nat) (ty : TypeId) (l : List SV)
  | call (f : FuncId) (args : List TV)
def fieldOf (P : Program) (ty : TypeId) (f : Nat) : Option (Nat × Nat × Bool) := match P.underlying ty with
  | some (.struct fs) => match fs[f]? with
    | some x => match pureVal P (sizeOf x.type), pureVal P (isAgg x.type) with
      | some (n + 1), some g => some (x.offset, n + 1, g)
      | _, _ => none
    | none => none
  | _ => none
def fillL (place : Nat → Option (Nat × Nat)) : List SV → List (Nat × UV) → Option (List SV)
  | l, [] => some l
  | l, (i, u) :: rest => match place i with
    | some (off, n) => match cutW off l with
      | some (p, r) => match cutW n r with
        | some (_, q) => match Nat.beq (widthL u.l) n with
          | true => fillL place (p ++ u.l ++ q) rest
          | false => none
        | none => none
      | none => none
    | none => none
def partsT (S : SS) : List (Nat × Operand) → Option (List (Nat × UV))
  | [] => some []
  | (i, x) :: l => match opT S x, partsT S l with
    | some (.u u), some r => some ((i, u) :: r)
    | _, _ => none
def argsT (S : SS) : List Operand → Option (List TV)
  | [] => some []
  | x :: l => match opT S x, argsT S l with
    | some t, some r => some (t :: r)
    | _, _ => none
def cw (g : Bool) (n : Nat) : Nat := match g with
  | true => n
  | false => 1
def placesL (P : Program) : List Field → Option (List (Nat × Nat))
  | [] => some []
  | f :: l => match pureVal P (sizeOf f.type), placesL P l with
    | some n, some r => some ((f.offset, n) :: r)
    | _, _ => none
def evalSc (P : Program) (S : SS) (o : Oper) : Option (Option Nat × Eff) :=
  match o.op.operands.toList.all (fun x => (scO S x).isSome) with
  | true => match pureVal P (execOp (fun x => (scO S x).getD undef) o) with
    | some (.value v) => match ofV v with
      | some t => some (none, .pure t)
      | none => none
    | _ => none
  | false => none
def evalOp (P : Program) (S : SS) (o : Oper) : Option (Option Nat × Eff) :=
  match o.op with
  | .move x | .assign x => match opT S x with
    | some t => some (none, .pure t)
    | none => none
  | .pick c x y => match scO S c with
    | some (.bool true) => match opT S x with
      | some t => some (none, .pure t)
      | none => none
    | some (.bool false) => match opT S y with
      | some t => some (none, .pure t)
      | none => none
    | _ => none
  | .alloc ty => match pureVal P (zeroValue ty) with
    | some z => match z.cells.toList.all (fun v => v.oneCell' && noW v) with
      | true => some (none, .alloc ty (z.cells.toList.map .val))
      | false => none
    | none => none
  | .box ty x => match opT S x with
    | some (.u u) => match u.l.all SV.noW with
      | true => some (none, .alloc ty u.l)
      | false => none
    | _ => none
  | .load ty x => match opT S x with
    | some (.u ⟨false, [.ptr b off]⟩) => match look S.bx b, pureVal P (isAgg ty), pureVal P (sizeOf ty) with
      | some (_, l), some g, some n => match cutW off l with
        | some (_, r) => match cutW (cw g n) r with
          | some (m, _) => some (some b, .pure (.u ⟨g, m⟩))
          | none => none
        | none => none
      | _, _, _ => none
    | _ => none
  | .store ty x y => match opT S x, opT S y with
    | some (.u ⟨false, [.ptr b off]⟩), some (.u u) => match look S.bx b, pureVal P (sizeOf ty), u.l.all SV.noW with
      | some (t, l), some n, true => match cutW off l with
        | some (p, r) => match cutW n r with
          | some (_, q) => match Nat.beq (widthL u.l) n, o.dst with
            | true, none => some (some b, .store b t (p ++ u.l ++ q))
            | _, _ => none
          | none => none
        | none => none
      | _, _, _ => none
    | _, _ => none
  | .fieldAddr ty x f => match opT S x with
    | some (.u ⟨false, [.ptr b off]⟩) => match fieldOf P ty f with
      | some (fo, _, _) => some (none, .pure (.u ⟨false, [.ptr b (off + fo)]⟩))
      | none => none
    | _ => none
  | .field ty x f => match opT S x with
    | some (.u ⟨true, l⟩) => match fieldOf P ty f with
      | some (fo, n, g) => match cutW fo l with
        | some (_, r) => match cutW (cw g n) r with
          | some (m, _) => some (none, .pure (.u ⟨g, m⟩))
          | none => none
        | none => none
      | none => none
    | _ => none
  | .build ty ps => match P.underlying ty with
    | some (.struct fs) => match pureVal P (zeroValue ty), placesL P fs.toList, partsT S ps.toList with
      | some z, some places, some us => match z.cells.toList.all Value.oneCell' with
        | true => match fillL (places[·]?) (z.cells.toList.map .val) us with
          | some l => some (none, .pure (.u ⟨true, l⟩))
          | none => none
        | false => none
      | _, _, _ => none
    | _ => none
  | .extract x i => match opT S x with
    | some (.tup l) => match l[i]? with
      | some u => some (none, .pure (.u u))
      | none => none
    | _ => none
  | .call { callee := .value f, args, .. } => match scO S f, argsT S args.toList with
    | some (.func (.func g) fi cap), some ts => match fi.toList, cap.toList with
      | [], [] => some (none, .call g ts)
      | _, _ => none
    | _, _ => none
  | _ => evalSc P S o
end Go.Proofs.Ythhgjloephkpaaa.Lx
namespace Go.Proofs.Ythhgjloephkpaaa.Lx
set_option linter.unusedVariables false
set_option linter.unusedSimpArgs false
open Go Go.RowKit Go.Proofs.Ythhgjloephkpaaa Go.Proofs.YthhgjloephkpaaaW.PrintWords Go.Proofs.YthhgjloephkpaaaW.PrintLast

def RepAll (γ : Nat → Nat) (s : Kst) : List TV → List Value → Prop
  | [], vs => vs = []
  | t :: l, vs => ∃ a b, vs = a :: b ∧ t.Rep γ s a ∧ RepAll γ s l b
theorem RepAll.up {γ : Nat → Nat} {s t : Kst} (h : Le s t) : ∀ {l : List TV} {vs : List Value}, RepAll γ s l vs → RepAll γ t l vs
  | [], _, k => k
  | _ :: _, _, ⟨a, b, e, k1, k2⟩ => ⟨a, b, e, k1.up h, k2.up h⟩
def OpOk (P : Program) (o : Oper) (γ : Nat → Nat) (s : Kst) (a : Act) : Eff → Prop
  | .pure v => ∃ x, (execOp a.eval o).run P s.w = .ok (.value x) s.w ∧ v.Rep γ s x
  | .alloc ty l => ∃ cs : List Value, (execOp a.eval o).run P s.w = .ok (.value (.pointer (some ⟨s.w.heap.size, 0, none⟩))) (s.w.alloc (.cells cs.toArray ty)) ∧ RepL γ s l cs ∧ ∀ v ∈ cs, noW v = true
  | .store b ty l => ∃ cs : List Value, (execOp a.eval o).run P s.w = .ok .skip (s.w.setRow (γ b) cs.toArray) ∧ RepL γ s l cs ∧ (∀ v ∈ cs, noW v = true) ∧ o.dst = none
  | .call f args => ∃ vs : List Value, (execOp a.eval o).run P s.w = (callFunc f vs.toArray).run P s.w ∧ RepAll γ s args vs
section
variable {P : Program} {γ : Nat → Nat} {s : Kst} {a : Act} {S : SS}
theorem valsOf_rep : ∀ {l : List SV} {vs cs : List Value}, valsOf l = some vs → RepL γ s l cs → cs = vs
  | [], vs, cs, h, k => by unfold valsOf at h; injection h with h; subst h; exact k
  | .val v :: l, vs, cs, h, ⟨x, y, e, k1, k2⟩ => by
    unfold valsOf at h
    split at h
    · rename_i r hr
      injection h with h; subst h
      rw [e, k1.1, valsOf_rep hr k2]; rfl
    · cases h
  | .ptr _ _ :: _, _, _, h, _ => by unfold valsOf at h; cases h
  | .abs _ _ :: _, _, _, h, _ => by unfold valsOf at h; cases h
theorem uvsc_rep {u : UV} {v x : Value} (h : u.sc = some v) (k : u.Rep γ s x) : x = v := by
  obtain ⟨ag, l⟩ := u
  unfold UV.sc at h
  simp only at h
  split at h
  · rename_i vs h1 h2
    injection h with h; subst h
    obtain ⟨cs, e, k⟩ := k
    rw [e, valsOf_rep h2 k]
  · rename_i v' h1 h2
    injection h with h; subst h
    have := valsOf_rep h2 k.2
    simpa using this
  · cases h
theorem scT_rep : ∀ {l : List UV} {vs xs : List Value}, scT l = some vs → RepT γ s l xs → xs = vs
  | [], vs, xs, h, k => by unfold scT at h; injection h with h; subst h; exact k
  | u :: l, vs, xs, h, ⟨x, y, e, k1, k2⟩ => by
    unfold scT at h
    split at h
    · rename_i v r h1 h2
      injection h with h; subst h
      rw [e, uvsc_rep h1 k1, scT_rep h2 k2]
    · cases h
theorem sc_rep {t : TV} {v x : Value} (h : t.sc = some v) (k : t.Rep γ s x) : x = v := by
  cases t with
  | u y => exact uvsc_rep h k
  | tup l =>
    unfold TV.sc at h
    simp only at h
    split at h
    · rename_i vs h1
      injection h with h; subst h
      obtain ⟨xs, e, k⟩ := k
      rw [e, scT_rep h1 k]
    · cases h
theorem repL_vals : ∀ {vs : List Value}, (vs.all Value.oneCell' = true) → RepL γ s (vs.map .val) vs
  | [], _ => rfl
  | v :: vs, h => by
    rw [List.all_cons, Bool.and_eq_true] at h
    exact ⟨[v], vs, rfl, ⟨rfl, h.1⟩, repL_vals h.2⟩
theorem repU_val {v : Value} (h : v.oneCell' = true) : (TV.u ⟨false, [.val v]⟩).Rep γ s v := ⟨h, [v], [], rfl, ⟨rfl, h⟩, rfl⟩
theorem ofV_rep {v : Value} {t : TV} (h : ofV v = some t) : t.Rep γ s v := by
  unfold ofV at h
  split at h
  · rename_i cs
    split at h
    · rename_i ha
      injection h with h; subst h
      exact ⟨cs.toList, by simp, repL_vals ha⟩
    · cases h
  · cases h
  · rename_i h1 h2
    injection h with h; subst h
    refine repU_val ?_
    cases v <;> first | rfl | (exact absurd rfl (h1 _)) | (exact absurd rfl (h2 _))
/-- The operands are what the state says. -/
def OpsSat (γ : Nat → Nat) (s : Kst) (a : Act) (S : SS) (o : Oper) : Prop := ∀ x ∈ o.op.operands, ∀ t, opT S x = some t → t.Rep γ s (a.eval x)
theorem scO_eval {o : Oper} (h : OpsSat γ s a S o) {x : Operand} (hx : x ∈ o.op.operands) {v : Value} (hv : scO S x = some v) : a.eval x = v := by
  unfold scO at hv
  split at hv
  · rename_i t ht
    exact sc_rep hv (h x hx t ht)
  · cases hv
theorem evalSc_ok {o : Oper} {rb : Option Nat} {e : Eff} (hsel : ∀ cs b, o.op ≠ .select cs b) (h : OpsSat γ s a S o) (he : evalSc P S o = some (rb, e)) : OpOk P o γ s a e := by
  unfold evalSc at he
  split at he
  · rename_i hall
    split at he
    · rename_i v hv
      split at he
      · rename_i t ht
        injection he with he; injection he with h1 h2; subst h1 h2
        refine ⟨v, ?_, ofV_rep ht⟩
        have hc : execOp a.eval o = execOp (fun x => (scO S x).getD undef) o := execOp_congr o hsel fun x hx => by
          rw [List.all_eq_true] at hall
          obtain ⟨v', hv'⟩ := Option.isSome_iff_exists.1 (hall x (by simpa using hx))
          rw [scO_eval h hx hv', hv']; rfl
        rw [hc]
        exact pureVal_run hv s.w
      · cases he
    · cases he
  · cases he
theorem fieldOf_spec {ty : TypeId} {f fo n : Nat} {g : Bool} (h : fieldOf P ty f = some (fo, n, g)) :
    ∃ fs x, P.underlying ty = some (.struct fs) ∧ fs[f]? = some x ∧ x.offset = fo ∧ (∀ w, (sizeOf x.type).run P w = .ok n w) ∧ (∀ w, (isAgg x.type).run P w = .ok g w) ∧ n ≠ 0 := by
  unfold fieldOf at h
  split at h
  · rename_i fs hu
    split at h
    · rename_i x hx
      split at h
      · rename_i n' g' h1 h2
        injection h with h; injection h with e1 h; injection h with e2 e3; subst e1 e2 e3
        exact ⟨fs, x, hu, hx, rfl, pureVal_run h1, pureVal_run h2, by omega⟩
      · cases h
    · cases h
  · cases h
theorem run_underlying' {ty : TypeId} {d : TypeDesc} (h : P.underlying ty = some d) (w : World) : (underlying ty).run P w = .ok d w := by
  simp [underlying, h, go_sem]
theorem ptr_rep {b off : Nat} {x : Value} (k : (TV.u ⟨false, [.ptr b off]⟩).Rep γ s x) : x = .pointer (some ⟨γ b, off, none⟩) := by
  obtain ⟨_, y, z, e, k1, k2⟩ := k
  rw [show y = _ from k1, show z = _ from k2] at e
  simpa using e
theorem repU_ptr {b off : Nat} : (TV.u ⟨false, [.ptr b off]⟩).Rep γ s (.pointer (some ⟨γ b, off, none⟩)) := ⟨rfl, [_], [], rfl, rfl, rfl⟩
theorem fill_foldl (off : Nat) : ∀ (vs : List Value) (k : Nat) (cs : Array Value), off + k + vs.length ≤ cs.size →
    ((vs.zipIdx k).foldl (fun cs (p : Value × Nat) => cs.setIfInBounds (off + p.2) p.1) cs).toList = cs.toList.take (off + k) ++ vs ++ cs.toList.drop (off + k + vs.length)
  | [], k, cs, h => by simp
  | v :: vs, k, cs, h => by
    rw [List.length_cons] at h
    rw [List.zipIdx_cons, List.foldl_cons, fill_foldl off vs (k + 1) _ (by simp; omega)]
    simp only [Array.toList_setIfInBounds, List.length_cons]
    have hl : off + k < cs.toList.length := by rw [Array.length_toList]; omega
    rw [List.take_set, List.drop_set_of_lt (by omega), show off + (k + 1) = off + k + 1 from by omega, List.take_succ_eq_append_getElem hl]
    rw [List.set_append_right _ _ (by simp; omega)]
    simp only [List.length_take, show off + k - min (off + k) cs.toList.length = 0 from by omega, List.set_cons_zero, List.append_assoc, List.cons_append, List.nil_append]
    rw [show off + k + 1 + vs.length = off + k + (vs.length + 1) from by omega]
def Parts (γ : Nat → Nat) (s : Kst) : List (Nat × UV) → List (Nat × Value) → Prop
  | [], vs => vs = []
  | u :: us, vs => ∃ v r, vs = v :: r ∧ u.1 = v.1 ∧ u.2.Rep γ s v.2 ∧ Parts γ s us r
theorem fillL_ok (place : Nat → Option (Nat × Nat)) : ∀ (us : List (Nat × UV)) (vs : List (Nat × Value)) {l l' : List SV} {cs : List Value}, fillL place l us = some l' → RepL γ s l cs →
    Parts γ s us vs → ∃ cs', Instr.fill place cs.toArray vs = some cs'.toArray ∧ RepL γ s l' cs'
  | [], vs, l, l', cs, h, k, hf => by
    rw [show vs = [] from hf]
    unfold fillL at h; injection h with h; subst h
    exact ⟨cs, rfl, k⟩
  | (i, u) :: us, _, l, l', cs, h, k, hf => by
      obtain ⟨⟨j, v⟩, vs, rfl, e1, ku, hf⟩ := hf
      have e1 : i = j := e1
      have ku : u.Rep γ s v := ku
      subst e1
      unfold fillL at h
      split at h
      · rename_i off n hp
        split at h
        · rename_i p r hc1
          split at h
          · rename_i p' q hc2
            split at h
            · rename_i hw
              have hw' := Nat.eq_of_beq_eq_true hw
              obtain ⟨a1, a2, a3⟩ := cutW_spec _ _ hc1 k
              obtain ⟨b1, b2, b3⟩ := cutW_spec _ _ hc2 a2
              have hcell := ku.cells
              have hlen := hcell.len
              rw [Array.length_toList, hw'] at hlen
              rw [List.length_drop] at b3
              have hk : RepL γ s (p ++ u.l ++ q) (cs.take off ++ v.cells.toList ++ (cs.drop off).drop n) := (a1.append hcell).append b2
              have hz : (v.cells.zipIdx.foldl (fun cs (p : Value × Nat) => cs.setIfInBounds (off + p.2) p.1) cs.toArray) = (cs.take off ++ v.cells.toList ++ (cs.drop off).drop n).toArray := by
                apply Array.ext'
                rw [← Array.foldl_toList, Array.toList_zipIdx, fill_foldl off v.cells.toList 0 cs.toArray (by rw [Array.length_toList, hlen]; simp; omega)]
                simp [hlen]
              obtain ⟨cs', e, kk⟩ := fillL_ok place us vs h hk hf
              refine ⟨cs', ?_, kk⟩
              unfold Instr.fill
              simp only [hp]
              rw [if_neg (by rw [hlen]; simp; omega)]
              rw [← e]
              congr 1
            · cases h
          · cases h
        · cases h
      · cases h
end
end Go.Proofs.Ythhgjloephkpaaa.Lx
namespace Go.Proofs.Ythhgjloephkpaaa.Lx
set_option linter.unusedVariables false
set_option linter.unusedSimpArgs false
open Go Go.RowKit Go.Proofs.Ythhgjloephkpaaa Go.Proofs.YthhgjloephkpaaaW.PrintWords Go.Proofs.YthhgjloephkpaaaW.PrintLast
section
variable {P : Program} {n0 : Nat} {γ : Nat → Nat} {s : Kst} {a : Act} {S : SS} {o : Oper}
theorem ok_load {ty : TypeId} {x : Operand} {b off : Nat} {t : TypeId} {l r m q p : List SV} {g : Bool} {n : Nat} (ho : o.op = .load ty x) (hx : a.eval x = .pointer (some ⟨γ b, off, none⟩)) (hb : BoxAt n0 γ s b t l)
    (hg : pureVal P (isAgg ty) = some g) (hn : pureVal P (sizeOf ty) = some n) (h1 : cutW off l = some (p, r)) (h2 : cutW (cw g n) r = some (m, q)) : OpOk P o γ s a (.pure (.u ⟨g, m⟩)) := by
  obtain ⟨cs, k, hh, hw, _, _⟩ := hb
  obtain ⟨_, k2, l1⟩ := cutW_spec _ _ h1 k
  obtain ⟨k3, _, l2⟩ := cutW_spec _ _ h2 k2
  cases g with
  | false =>
    rw [List.length_drop] at l2
    have l3 : off < cs.length := by simp only [cw] at l2; omega
    have e : (cs.drop off).take 1 = [cs[off]] := by
      rw [List.drop_eq_getElem_cons l3]; rfl
    simp only [cw] at k3
    rw [e] at k3
    exact ⟨cs[off], run_load1 _ ho hx hh (by simp [l3]) (pureVal_run hg s.w), k3.one _ (List.mem_singleton.2 rfl), k3⟩
  | true =>
    simp only [cw] at k3 l2
    refine ⟨.agg ((cs.drop off).take n).toArray, run_loadA ((cs.drop off).take n) ho hx hh ?_ (pureVal_run hg s.w) ?_, _, rfl, k3⟩
    · simp only [List.length_take]; rw [List.take_eq_take_min]; simp
    · rw [pureVal_run hn s.w, List.length_take, Nat.min_eq_left l2]
theorem ok_store {ty : TypeId} {x y : Operand} {b off : Nat} {t : TypeId} {u : UV} {l r m q p : List SV} {n : Nat} (ho : o.op = .store ty x y) (hx : a.eval x = .pointer (some ⟨γ b, off, none⟩)) (hy : u.Rep γ s (a.eval y)) (hb : BoxAt n0 γ s b t l)
    (hn : pureVal P (sizeOf ty) = some n) (hu : u.l.all SV.noW = true) (h1 : cutW off l = some (p, r)) (h2 : cutW n r = some (m, q)) (hw : Nat.beq (widthL u.l) n = true) (hd : o.dst = none) : OpOk P o γ s a (.store b t (p ++ u.l ++ q)) := by
  obtain ⟨cs, k, hh, hnw, _, _⟩ := hb
  obtain ⟨k1, k2, l1⟩ := cutW_spec _ _ h1 k
  obtain ⟨_, k4, l2⟩ := cutW_spec _ _ h2 k2
  have hw' := Nat.eq_of_beq_eq_true hw
  have hc := hy.cells
  have hlen := hc.len
  rw [hw'] at hlen
  rw [List.length_drop] at l2
  have hr := run_storeCells_at (P := P) (γ b) off t (a.eval y).cells.toList 0 cs.toArray s.w hh (by simp only [Nat.add_zero, List.size_toArray]; rw [hlen]; omega) hc.one
  simp only [Nat.add_zero] at hr
  refine ⟨cs.take off ++ (a.eval y).cells.toList ++ (cs.drop off).drop n, ?_, (k1.append hc).append k4, ?_, hd⟩
  · rw [List.drop_drop]
    rw [hlen] at hr
    unfold execOp
    simp only [ho, hx, Instr.storeAt, Instr.sureAddr, Sem.run_bind, Sem.run_pure, Result.andThen_ok, storeVar, pureVal_run hn, hr]
    rw [Array.length_toList] at hlen
    simp only [hlen, ne_eq, not_true_eq_false, if_false, Sem.run_bind, Sem.run_pure, Result.andThen_ok, hr]
  · intro v hv
    rcases List.mem_append.1 hv with h | h
    · rcases List.mem_append.1 h with h | h
      · exact hnw v (List.mem_of_mem_take h)
      · exact hc.now hu v h
    · exact hnw v (List.mem_of_mem_drop (List.mem_of_mem_drop h))
theorem ok_alloc {ty : TypeId} {z : Value} (ho : o.op = .alloc ty) (hz : pureVal P (zeroValue ty) = some z) (ha : z.cells.toList.all (fun v => v.oneCell' && noW v) = true) : OpOk P o γ s a (.alloc ty (z.cells.toList.map .val)) := by
  rw [List.all_eq_true] at ha
  refine ⟨z.cells.toList, ?_, repL_vals (List.all_eq_true.2 fun v hv => (Bool.and_eq_true_iff.1 (ha v hv)).1), fun v hv => (Bool.and_eq_true_iff.1 (ha v hv)).2⟩
  unfold execOp
  simp only [ho, Instr.alloc, newVar, newRow, Sem.run_bind, Sem.run_pure, Result.andThen_ok, run_newObj, pureVal_run hz, Array.toArray_toList]
  rfl
theorem ok_box {ty : TypeId} {x : Operand} {u : UV} (ho : o.op = .box ty x) (hx : u.Rep γ s (a.eval x)) (hu : u.l.all SV.noW = true) : OpOk P o γ s a (.alloc ty u.l) := by
  refine ⟨(a.eval x).cells.toList, ?_, hx.cells, hx.cells.now hu⟩
  unfold execOp
  simp only [ho, Instr.box, newVar, newRow, Sem.run_bind, Sem.run_pure, Result.andThen_ok, run_newObj, Array.toArray_toList]
  rfl
theorem ok_fieldAddr {ty : TypeId} {x : Operand} {f b off fo n : Nat} {g : Bool} (ho : o.op = .fieldAddr ty x f) (hx : a.eval x = .pointer (some ⟨γ b, off, none⟩)) (hf : fieldOf P ty f = some (fo, n, g)) :
    OpOk P o γ s a (.pure (.u ⟨false, [.ptr b (off + fo)]⟩)) := by
  obtain ⟨fs, y, h1, h2, h3, h4, h5, h6⟩ := fieldOf_spec hf
  refine ⟨_, ?_, repU_ptr⟩
  have hadd : (⟨γ b, off, none⟩ : Addr).add fo = ⟨γ b, off + fo, none⟩ := by unfold Addr.add; split <;> simp_all
  unfold execOp
  simp only [ho, hx, Instr.fieldAt, Instr.sureAddr, fieldPlace, Sem.run_bind, Sem.run_pure, Result.andThen_ok, run_underlying' h1, h2, h4, if_neg h6, h3, hadd]
theorem ok_field {ty : TypeId} {x : Operand} {f fo n : Nat} {g : Bool} {l r m q p : List SV} (ho : o.op = .field ty x f) (hx : (UV.mk true l).Rep γ s (a.eval x)) (hf : fieldOf P ty f = some (fo, n, g))
    (h1 : cutW fo l = some (p, r)) (h2 : cutW (cw g n) r = some (m, q)) : OpOk P o γ s a (.pure (.u ⟨g, m⟩)) := by
  obtain ⟨fs, y, e1, e2, e3, e4, e5, e6⟩ := fieldOf_spec hf
  obtain ⟨cs, ex, k⟩ := hx
  obtain ⟨_, k2, l1⟩ := cutW_spec _ _ h1 k
  obtain ⟨k3, _, l2⟩ := cutW_spec _ _ h2 k2
  cases g with
  | false =>
    rw [List.length_drop] at l2
    have l3 : fo < cs.length := by simp only [cw] at l2; omega
    have e : (cs.drop fo).take 1 = [cs[fo]] := by
      rw [List.drop_eq_getElem_cons l3]; rfl
    simp only [cw] at k3
    rw [e] at k3
    refine ⟨cs[fo], ?_, k3.one _ (List.mem_singleton.2 rfl), k3⟩
    unfold execOp
    simp only [ho, ex, Instr.field, asAgg, part, Sem.run_bind, Sem.run_pure, Result.andThen_ok, run_underlying' e1, e2, e3, e5, Bool.false_eq_true, if_false, List.getElem?_toArray, List.getElem?_eq_getElem l3]
  | true =>
    simp only [cw] at k3 l2
    refine ⟨.agg ((cs.drop fo).take n).toArray, ?_, _, rfl, k3⟩
    unfold execOp
    simp only [ho, ex, Instr.field, asAgg, part, Sem.run_bind, Sem.run_pure, Result.andThen_ok, run_underlying' e1, e2, e3, e4, e5, if_true]
    simp [List.take_drop]
theorem partsT_rep : ∀ {ps : List (Nat × Operand)} {us : List (Nat × UV)}, (∀ x ∈ ps.map (·.2), ∀ t, opT S x = some t → t.Rep γ s (a.eval x)) → partsT S ps = some us → Parts γ s us (ps.map fun p => (p.1, a.eval p.2))
  | [], us, h, hp => by unfold partsT at hp; injection hp with hp; subst hp; rfl
  | (i, x) :: ps, us, h, hp => by
    unfold partsT at hp
    split at hp
    · rename_i u r h1 h2
      injection hp with hp; subst hp
      exact ⟨(i, a.eval x), _, rfl, rfl, h x (by simp) _ h1, partsT_rep (fun y hy => h y (by simp at hy ⊢; exact .inr hy)) h2⟩
    · cases hp
theorem placesL_run : ∀ {l : List Field} {r : List (Nat × Nat)}, placesL P l = some r → ∀ w, (l.mapM fun (f : Field) => do pure (f.offset, ← sizeOf f.type)).run P w = .ok r w
  | [], r, h, w => by unfold placesL at h; injection h with h; subst h; simp [go_sem]
  | f :: l, r, h, w => by
    unfold placesL at h
    split at h
    · rename_i n r' h1 h2
      injection h with h; subst h
      rw [List.mapM_cons, Sem.run_bind, Sem.run_bind, pureVal_run h1, Result.andThen_ok, Sem.run_pure, Result.andThen_ok, Sem.run_bind, placesL_run h2, Result.andThen_ok, Sem.run_pure]
    · cases h
theorem places_run {fs : Array Field} {r : List (Nat × Nat)} (h : placesL P fs.toList = some r) (w : World) : (fs.mapM fun (f : Field) => do pure (f.offset, ← sizeOf f.type)).run P w = .ok r.toArray w := by
  rw [Array.mapM_eq_mapM_toList]
  simp only [Sem.run_bind, map_eq_pure_bind, placesL_run h, Result.andThen_ok, Sem.run_pure]
theorem ok_build {ty : TypeId} {ps : Array (Nat × Operand)} {fs : Array Field} {z : Value} {places : List (Nat × Nat)} {us : List (Nat × UV)} {l : List SV} (ho : o.op = .build ty ps) (h : OpsSat γ s a S o) (hu : P.underlying ty = some (.struct fs))
    (hz : pureVal P (zeroValue ty) = some z) (hp : placesL P fs.toList = some places) (hus : partsT S ps.toList = some us) (ha : z.cells.toList.all Value.oneCell' = true)
    (hl : fillL (places[·]?) (z.cells.toList.map .val) us = some l) : OpOk P o γ s a (.pure (.u ⟨true, l⟩)) := by
  have hps := partsT_rep (γ := γ) (s := s) (a := a) (S := S) (ps := ps.toList) (us := us) (fun x hx t ht => h x (by rw [ho]; simpa [Op.operands] using hx) t ht) hus
  obtain ⟨cs, e, k⟩ := fillL_ok (places[·]?) us _ hl (repL_vals ha) hps
  refine ⟨.agg cs.toArray, ?_, _, rfl, k⟩
  unfold execOp
  have hm : (ps.map fun (x : Nat × Operand) => (x.1, a.eval x.2)).toList = ps.toList.map fun p => (p.1, a.eval p.2) := by simp
  rw [Array.toArray_toList] at e
  have hp' := places_run hp s.w
  have e : Instr.fill (fun x => places.toArray[x]?) z.cells (ps.toList.map fun p => (p.1, a.eval p.2)) = some cs.toArray := by simpa using e
  simp only [ho, Instr.build, Sem.run_bind, Sem.run_pure, Result.andThen_ok, run_underlying' hu, pureVal_run hz, hp', hm, e]
theorem argsT_rep : ∀ {xs : List Operand} {ts : List TV}, (∀ x ∈ xs, ∀ t, opT S x = some t → t.Rep γ s (a.eval x)) → argsT S xs = some ts → RepAll γ s ts (xs.map a.eval)
  | [], ts, h, hp => by unfold argsT at hp; injection hp with hp; subst hp; rfl
  | x :: xs, ts, h, hp => by
    unfold argsT at hp
    split at hp
    · rename_i t r h1 h2
      injection hp with hp; subst hp
      exact ⟨_, _, rfl, h x (by simp) _ h1, argsT_rep (fun y hy => h y (by simp [hy])) h2⟩
    · cases hp
theorem repT_get : ∀ {l : List UV} {vs : List Value} {i : Nat} {u : UV}, RepT γ s l vs → l[i]? = some u → ∃ v, vs[i]? = some v ∧ u.Rep γ s v
  | c :: l, vs, 0, u, ⟨x, y, e, k1, k2⟩, h => by simp at h; subst h; exact ⟨x, by rw [e]; rfl, k1⟩
  | c :: l, vs, i + 1, u, ⟨x, y, e, k1, k2⟩, h => by
    simp at h
    obtain ⟨v, hv, k⟩ := repT_get k2 h
    exact ⟨v, by rw [e]; simpa using hv, k⟩
  | [], vs, i, u, _, h => by simp at h
theorem evalOp_ok {rb : Option Nat} {e : Eff} (hsel : ∀ cs b, o.op ≠ .select cs b) (h : OpsSat γ s a S o) (hb : ∀ b, rb = some b → ∀ ty l, look S.bx b = some (ty, l) → BoxAt n0 γ s b ty l) (he : evalOp P S o = some (rb, e)) : OpOk P o γ s a e := by
  unfold evalOp at he
  split at he
  · rename_i x ho
    split at he
    · rename_i t ht
      injection he with he; injection he with h1 h2; subst h1 h2
      exact ⟨a.eval x, by unfold execOp; simp only [ho]; rfl, h x (by rw [ho]; simp [Op.operands]) t ht⟩
    · cases he
  · rename_i x ho
    split at he
    · rename_i t ht
      injection he with he; injection he with h1 h2; subst h1 h2
      exact ⟨a.eval x, by unfold execOp; simp only [ho]; rfl, h x (by rw [ho]; simp [Op.operands]) t ht⟩
    · cases he
  · rename_i c x y ho
    have hm : ∀ z, z = c ∨ z = x ∨ z = y → z ∈ o.op.operands := fun z hz => by rw [ho]; rcases hz with e | e | e <;> subst e <;> simp [Op.operands]
    split at he
    · rename_i hc
      split at he
      · rename_i t ht
        injection he with he; injection he with h1 h2; subst h1 h2
        exact ⟨a.eval x, by have hc' := scO_eval h (hm c (.inl rfl)) hc; unfold execOp; simp only [ho, hc', asBool, Sem.run_bind, Sem.run_pure, Result.andThen_ok, if_true], h x (hm x (.inr (.inl rfl))) t ht⟩
      · cases he
    · rename_i hc
      split at he
      · rename_i t ht
        injection he with he; injection he with h1 h2; subst h1 h2
        exact ⟨a.eval y, by have hc' := scO_eval h (hm c (.inl rfl)) hc; unfold execOp; simp only [ho, hc', asBool, Sem.run_bind, Sem.run_pure, Result.andThen_ok, Bool.false_eq_true, if_false], h y (hm y (.inr (.inr rfl))) t ht⟩
      · cases he
    · cases he
  · rename_i ty ho
    split at he
    · rename_i z hz
      split at he
      · rename_i ha
        injection he with he; injection he with h1 h2; subst h1 h2
        exact ok_alloc ho hz ha
      · cases he
    · cases he
  · rename_i ty x ho
    split at he
    · rename_i u hx
      split at he
      · rename_i hu
        injection he with he; injection he with h1 h2; subst h1 h2
        exact ok_box ho (h x (by rw [ho]; simp [Op.operands]) _ hx) hu
      · cases he
    · cases he
  · rename_i ty x ho
    split at he
    · rename_i b off hx
      split at he
      · rename_i t l g n hl hg hn
        split at he
        · rename_i p r h1
          split at he
          · rename_i m q h2
            injection he with he; injection he with e1 e2; subst e1 e2
            exact ok_load ho (ptr_rep (h x (by rw [ho]; simp [Op.operands]) _ hx)) (hb b rfl _ _ hl) hg hn h1 h2
          · cases he
        · cases he
      · cases he
    · cases he
  · rename_i ty x y ho
    split at he
    · rename_i b off u hx hy
      split at he
      · rename_i t l n hl hn hu
        split at he
        · rename_i p r h1
          split at he
          · rename_i m q h2
            split at he
            · rename_i hw hd
              injection he with he; injection he with e1 e2; subst e1 e2
              exact ok_store ho (ptr_rep (h x (by rw [ho]; simp [Op.operands]) _ hx)) (h y (by rw [ho]; simp [Op.operands]) _ hy) (hb b rfl _ _ hl) hn hu h1 h2 hw hd
            · cases he
          · cases he
        · cases he
      · cases he
    · cases he
  · rename_i ty x f ho
    split at he
    · rename_i b off hx
      split at he
      · rename_i fo n g hf
        injection he with he; injection he with e1 e2; subst e1 e2
        exact ok_fieldAddr ho (ptr_rep (h x (by rw [ho]; simp [Op.operands]) _ hx)) hf
      · cases he
    · cases he
  · rename_i ty x f ho
    split at he
    · rename_i l hx
      split at he
      · rename_i fo n g hf
        split at he
        · rename_i p r h1
          split at he
          · rename_i m q h2
            injection he with he; injection he with e1 e2; subst e1 e2
            exact ok_field ho (h x (by rw [ho]; simp [Op.operands]) _ hx) hf h1 h2
          · cases he
        · cases he
      · cases he
    · cases he
  · rename_i ty ps ho
    split at he
    · rename_i fs hu
      split at he
      · rename_i z places us hz hp hus
        split at he
        · rename_i ha
          split at he
          · rename_i l hl
            injection he with he; injection he with e1 e2; subst e1 e2
            exact ok_build ho h hu hz hp hus ha hl
          · cases he
        · cases he
      · cases he
    · cases he
  · rename_i x i ho
    split at he
    · rename_i l hx
      split at he
      · rename_i u hl
        injection he with he; injection he with e1 e2; subst e1 e2
        obtain ⟨vs, e, k⟩ := h x (by rw [ho]; simp [Op.operands]) _ hx
        obtain ⟨v, hv, k2⟩ := repT_get k hl
        refine ⟨v, ?_, k2⟩
        unfold execOp
        simp only [ho, e, Instr.extract, List.getElem?_toArray, hv, Sem.run_bind, Sem.run_pure, Result.andThen_ok]
      · cases he
    · cases he
  · rename_i f args ats ho
    split at he
    · rename_i g fi cap ts hf hts
      split at he
      case h_2 => cases he
      rename_i hfi hcap
      have hcap : cap = #[] := Array.ext' hcap
      have hfi : fi = #[] := Array.ext' hfi
      subst hcap hfi
      injection he with he; injection he with e1 e2; subst e1 e2
      have hfe := scO_eval h (x := f) (by rw [ho]; simp [Op.operands, Call.operands]) hf
      refine ⟨args.toList.map a.eval, ?_, argsT_rep (fun x hx t ht => h x (by rw [ho]; simp only [Op.operands, Call.operands]; exact Array.mem_append.2 (.inr (by simpa using hx))) t ht) hts⟩
      unfold execOp
      simp only [ho, resolve, hfe, Deferred.ofValue, Sem.run_bind, Sem.run_pure, Result.andThen_ok, invoke]
      congr 2
      apply Array.ext'
      simp
    · cases he
  · exact evalSc_ok hsel h he
end
end Go.Proofs.Ythhgjloephkpaaa.Lx
namespace Go.Proofs.Ythhgjloephkpaaa.Lx
set_option linter.unusedVariables false
set_option linter.unusedSimpArgs false
open Go Go.RowKit Go.Proofs.Ythhgjloephkpaaa Go.Proofs.YthhgjloephkpaaaW.PrintWords Go.Proofs.YthhgjloephkpaaaW.PrintLast

theorem look_here {β : Type _} {k n : Nat} {v : β} {l : List (Nat × β)} (h : k = n) : look ((k, v) :: l) n = some v := by
  unfold look; rw [h, Nat.beq_refl]
theorem look_off {β : Type _} {k n : Nat} {v : β} {l : List (Nat × β)} (h : k ≠ n) : look ((k, v) :: l) n = look l n := by
  rw [look]
  have : Nat.beq k n = false := by cases e : Nat.beq k n with
    | false => rfl
    | true => exact absurd (Nat.eq_of_beq_eq_true e) h
  rw [this]
def SS.put (S : SS) (d : Nat) (v : TV) : SS := ⟨(d, v) :: S.tm, S.bx, S.nx, S.n⟩
/-- No part of the state names the box. -/
structure Fresh (S : SS) (nm : Nat) : Prop where
  no : look S.bx nm = none
  nt : ∀ k v, look S.tm k = some v → v.nm (fun b => !Nat.beq b nm) = true
  nb : ∀ b ty l, look S.bx b = some (ty, l) → l.all (SV.nm fun b => !Nat.beq b nm) = true
def SS.box (S : SS) (d : Nat) (nm : Nat) (ty : TypeId) (l : List SV) : SS := ⟨(d, .u ⟨false, [.ptr nm 0]⟩) :: S.tm, (nm, ty, l) :: S.bx, nm + 1, S.n⟩
def SS.sto (S : SS) (b : Nat) (ty : TypeId) (l : List SV) : SS := ⟨S.tm, (b, ty, l) :: S.bx, S.nx, S.n⟩
/-- The world w of a walk that began at w0 (s0): the state S holds. -/
def Ok (w0 : World) (s0 : Kst) (S : SS) (a : Act) (w : World) : Prop :=
  ∃ γ s, s.w = w ∧ Sat w0.heap.size γ s a S ∧ Below w0.heap.size w0 w ∧ Le s0 s
theorem getD_put {a : Act} {d k : Nat} {v : Value} (hd : d < a.tmps.size) : (a.put (some d) v).tmps.getD k undef = if d = k then v else a.tmps.getD k undef := by
  simp only [Act.put, Array.getD_eq_getD_getElem?, Array.getElem?_setIfInBounds]
  by_cases h : d = k
  · subst h; simp [hd]
  · simp [h]
section
variable {w0 : World} {γ : Nat → Nat} {s t : Kst} {a : Act} {S : SS}
theorem BoxAt.up {n0 b : Nat} {ty : TypeId} {l : List SV} (h : BoxAt n0 γ s b ty l) (hle : Le s t) (hb : Below s.w.heap.size s.w t.w) : BoxAt n0 γ t b ty l := by
  obtain ⟨cs, k, hh, hw, h0, hf⟩ := h
  have hlt : γ b < s.w.heap.size := by
    rcases Nat.lt_or_ge (γ b) s.w.heap.size with h1 | h1
    · exact h1
    · rw [Array.getElem?_eq_none h1] at hh; cases hh
  exact ⟨cs, k.up hle, by rw [hb.block _ hlt]; exact hh, hw, h0, fun hz => (hle.new _ hz).elim hf (fun h1 => by omega)⟩
theorem Sat.value (h : Sat w0.heap.size γ s a S) (hle : Le s t) (hb : Below s.w.heap.size s.w t.w) {d : Nat} (hd : d < S.n) {v : TV} {x : Value} (hv : v.Rep γ t x) : Sat w0.heap.size γ t (a.put (some d) x) (S.put d v) := by
  have hd' : d < a.tmps.size := by rw [h.sz]; exact hd
  refine ⟨h.df, by simp only [Act.put, Array.size_setIfInBounds]; exact h.sz, fun k u hu => ?_, fun b ty l hl => (h.bx b ty l hl).up hle hb, h.inj⟩
  rw [getD_put hd']
  by_cases hk : d = k
  · rw [if_pos hk]
    have := look_here (v := v) (l := S.tm) hk
    rw [show look (S.put d v).tm k = _ from this] at hu
    injection hu with hu; subst hu; exact hv
  · rw [if_neg hk]
    rw [show look (S.put d v).tm k = _ from look_off hk] at hu
    exact (h.tm k u hu).up hle
theorem SV.nm_le {p q : Nat → Bool} (h : ∀ b, p b = true → q b = true) {c : SV} (hb : c.nm p = true) : c.nm q = true := by
  cases c with
  | ptr b o => exact h b hb
  | _ => rfl
theorem SVs.nm_le {p q : Nat → Bool} (h : ∀ b, p b = true → q b = true) {l : List SV} (hb : l.all (SV.nm p) = true) : l.all (SV.nm q) = true :=
  List.all_eq_true.2 fun c hc => SV.nm_le h (List.all_eq_true.1 hb c hc)
theorem TV.nm_le {p q : Nat → Bool} (h : ∀ b, p b = true → q b = true) {v : TV} (hb : v.nm p = true) : v.nm q = true := by
  cases v with
  | u x => exact SVs.nm_le h hb
  | tup l => exact List.all_eq_true.2 fun c hc => SVs.nm_le h (List.all_eq_true.1 hb c hc)
theorem alloc_size (w : World) (o : Obj) : (w.alloc o).heap.size = w.heap.size + 1 := by
  show (w.heap.push o).size = _
  simp
/-- A new block. -/
def Kst.new (s : Kst) (o : Obj) : Kst := ⟨s.w.alloc o, s.fz, fun g h => by rw [alloc_size]; have := s.lt g h; omega⟩
theorem Kst.le_new (s : Kst) (o : Obj) : Le s (s.new o) :=
  ⟨U.box _ _, fun g h => ⟨h, Below.heap_alloc _ _ _ (s.lt g h)⟩, by show _ ≤ (s.w.alloc o).heap.size; rw [alloc_size]; omega, fun g h => .inl h⟩
theorem Sat.alloc (h : Sat w0.heap.size γ s a S) (h0 : w0.heap.size ≤ s.w.heap.size) {d : Nat} (hd : d < S.n) {ty : TypeId} {l : List SV} {cs : List Value} (hl : RepL γ s l cs) (hw : ∀ v ∈ cs, noW v = true) {nm : Nat} (hfr : Fresh S nm) (hb : l.all (SV.nm fun b => !Nat.beq b nm) = true) :
    Sat w0.heap.size (fun b => if b = nm then s.w.heap.size else γ b) (s.new (.cells cs.toArray ty)) (a.put (some d) (.pointer (some ⟨s.w.heap.size, 0, none⟩))) (S.box d nm ty l) := by
  have hγ : ∀ b, (!Nat.beq b nm) = true → (fun b => if b = nm then s.w.heap.size else γ b) b = γ b := fun b hb => if_neg (fun e => by subst e; rw [Nat.beq_refl] at hb; cases hb)
  have hle := s.le_new (.cells cs.toArray ty)
  have hbl : Below s.w.heap.size s.w (s.new (.cells cs.toArray ty)).w := (Below.refl _ _).alloc (Nat.le_refl _) _
  have hd' : d < a.tmps.size := by rw [h.sz]; exact hd
  have hself : (s.w.alloc (.cells cs.toArray ty)).heap[s.w.heap.size]? = some (.cells cs.toArray ty (0, 0)) := Array.getElem?_push_size
  have hold : ∀ b, (look S.bx b).isSome = true → γ b < s.w.heap.size := fun b hb1 => by
    obtain ⟨⟨t, l'⟩, e⟩ := Option.isSome_iff_exists.1 hb1
    obtain ⟨cs, _, hh, _⟩ := h.bx b t l' e
    rcases Nat.lt_or_ge (γ b) s.w.heap.size with h1 | h1
    · exact h1
    · rw [Array.getElem?_eq_none h1] at hh; cases hh
  have hlk : ∀ b, look (S.box d nm ty l).bx b = if nm = b then some (ty, l) else look S.bx b := fun b => by
    by_cases e : nm = b
    · rw [if_pos e]; exact look_here e
    · rw [if_neg e]; exact look_off e
  refine ⟨h.df, by simp only [Act.put, Array.size_setIfInBounds]; exact h.sz, fun k u hu => ?_, fun b t l' hl' => ?_, fun b b' hb1 hb2 he => ?_⟩
  · rw [getD_put hd']
    by_cases hk : d = k
    · rw [if_pos hk]
      rw [show look (S.box d nm ty l).tm k = _ from look_here hk] at hu
      injection hu with hu; subst hu
      have : (TV.u ⟨false, [.ptr nm 0]⟩).Rep (fun b => if b = nm then s.w.heap.size else γ b) (s.new (.cells cs.toArray ty)) (.pointer (some ⟨(fun b => if b = nm then s.w.heap.size else γ b) nm, 0, none⟩)) := repU_ptr
      simpa using this
    · rw [if_neg hk]
      rw [show look (S.box d nm ty l).tm k = _ from look_off hk] at hu
      exact ((h.tm k u hu).up hle).ren hγ (hfr.nt k u hu)
  · rw [hlk] at hl'
    by_cases e : nm = b
    · rw [if_pos e] at hl'
      injection hl' with hl'; injection hl' with e1 e2; subst e1 e2 e
      refine ⟨cs, (hl.up hle).ren hγ hb, ?_, hw, ?_, ?_⟩
      · simp only [if_true]; exact hself
      · simp only [if_true]; exact h0
      · simp only [if_true]; intro hz; have := s.lt _ hz; omega
    · rw [if_neg e] at hl'
      have e' : ¬ b = nm := fun h => e h.symm
      obtain ⟨cs', k, hh, hw', h1, hf⟩ := (h.bx b t l' hl').up hle hbl
      exact ⟨cs', k.ren hγ (hfr.nb b t l' hl'), by simp only [if_neg e']; exact hh, hw', by simp only [if_neg e']; exact h1, by simp only [if_neg e']; exact hf⟩
  · rw [hlk] at hb1 hb2
    by_cases e : nm = b
    · by_cases e' : nm = b'
      · rw [← e, ← e']
      · rw [if_neg e'] at hb2
        have := hold b' hb2
        simp only [if_pos e.symm, if_neg (fun x : b' = nm => e' x.symm)] at he
        omega
    · rw [if_neg e] at hb1
      have h1 := hold b hb1
      by_cases e' : nm = b'
      · simp only [if_pos e'.symm, if_neg (fun x : b = nm => e x.symm)] at he
        omega
      · rw [if_neg e'] at hb2
        simp only [if_neg (fun x : b' = nm => e' x.symm), if_neg (fun x : b = nm => e x.symm)] at he
        exact h.inj b b' hb1 hb2 he
theorem setRow_size (w : World) (g : Nat) (cs : Array Value) : (w.setRow g cs).heap.size = w.heap.size := by simp [World.setRow]
theorem setRow_off (w : World) (g k : Nat) (cs : Array Value) (h : k ≠ g) : (w.setRow g cs).heap[k]? = w.heap[k]? := by
  unfold World.setRow
  simp only [Array.getElem?_modify]
  rw [if_neg (fun e1 => h e1.symm)]
def Kst.row (s : Kst) (g : Nat) (cs : Array Value) : Kst := ⟨s.w.setRow g cs, s.fz, fun k h => by rw [setRow_size]; exact s.lt k h⟩
theorem U.row {w : World} {g : Nat} {cs new : Array Value} {t : TypeId} (hh : w.heap[g]? = some (.cells cs t (0, 0))) (hno : ∀ v ∈ cs.toList, noW v = true) : U w (w.setRow g new) := fun k cs' t' fr hk hn => by
  have hne : k ≠ g := fun he => by
    subst he
    rw [hh] at hk
    injection hk with hk
    injection hk with hk
    subst hk
    rw [List.all_eq_true.2 hno] at hn
    cases hn
  rw [setRow_off _ _ _ _ hne]; exact hk
theorem Sat.store (h : Sat w0.heap.size γ s a S) {b : Nat} {ty : TypeId} {l0 l : List SV} {cs : List Value} (hl0 : look S.bx b = some (ty, l0)) (hl : RepL γ s l cs) (hw : ∀ v ∈ cs, noW v = true) :
    Sat w0.heap.size γ (s.row (γ b) cs.toArray) a (S.sto b ty l) ∧ Le s (s.row (γ b) cs.toArray) ∧ Below w0.heap.size s.w (s.row (γ b) cs.toArray).w := by
  obtain ⟨cs0, k0, hh, hw0, h0, hf⟩ := h.bx b ty l0 hl0
  have hu : U s.w (s.w.setRow (γ b) cs.toArray) := U.row hh (by simpa using hw0)
  have hle : Le s (s.row (γ b) cs.toArray) := ⟨hu, fun g hg => ⟨hg, setRow_off _ _ _ _ (fun e => hf (e ▸ hg))⟩, by show _ ≤ (s.w.setRow (γ b) cs.toArray).heap.size; rw [setRow_size]; exact Nat.le_refl _, fun g hg => .inl hg⟩
  have hself : (s.w.setRow (γ b) cs.toArray).heap[γ b]? = some (.cells cs.toArray ty (0, 0)) := setRow_heap s.w (γ b) cs0.toArray cs.toArray ty (0, 0) hh
  have hlk : ∀ k, look (S.sto b ty l).bx k = if b = k then some (ty, l) else look S.bx k := fun k => by
    by_cases e : b = k
    · rw [if_pos e]; exact look_here e
    · rw [if_neg e]; exact look_off e
  have hsm : ∀ k, (look (S.sto b ty l).bx k).isSome = true → (look S.bx k).isSome = true := fun k hk => by
    rw [hlk] at hk
    by_cases e : b = k
    · rw [← e, hl0]; rfl
    · rwa [if_neg e] at hk
  refine ⟨⟨h.df, h.sz, fun k u hu => (h.tm k u hu).up hle, fun k t l' hl' => ?_, fun k k' hk hk' he => h.inj k k' (hsm k hk) (hsm k' hk') he⟩, hle, ⟨rfl, rfl, rfl, hle.size, fun k hk => setRow_off _ _ _ _ (by omega)⟩⟩
  · rw [hlk] at hl'
    by_cases e : b = k
    · rw [if_pos e] at hl'
      injection hl' with hl'; injection hl' with e1 e2; subst e1 e2 e
      exact ⟨cs, hl.up hle, hself, hw, h0, hf⟩
    · rw [if_neg e] at hl'
      obtain ⟨cs', k1, hh', hw', h1, hf'⟩ := h.bx k t l' hl'
      have hne : γ k ≠ γ b := fun he => e (h.inj b k (by rw [hl0]; rfl) (by rw [hl']; rfl) he.symm)
      exact ⟨cs', k1.up hle, by show (s.w.setRow (γ b) cs.toArray).heap[γ k]? = _; rw [setRow_off _ _ _ _ hne]; exact hh', hw', h1, hf'⟩
end
end Go.Proofs.Ythhgjloephkpaaa.Lx
namespace Go.Proofs.Ythhgjloephkpaaa.Lx
set_option linter.unusedVariables false
set_option linter.unusedSimpArgs false
open Go Go.RowKit Go.Proofs.Ythhgjloephkpaaa Go.Proofs.YthhgjloephkpaaaW.PrintWords Go.Proofs.YthhgjloephkpaaaW.PrintLast

/-- What is a v is a u. -/
def AsOk (v u : TV) : Prop := ∀ γ s x, v.Rep γ s x → u.Rep γ s x
/-- The function f, called with such arguments, answers such a thing. -/
structure Spec (P : Program) (f : FuncId) (args : List TV) (r : TV) : Prop where
  ent : ∀ vs w, (callFunc f vs).run P w = .ok (.enter f vs) w
  run : ∀ γ (s : Kst) (vs : List Value), RepAll γ s args vs →
    Calls P f vs.toArray s.w (fun e w' => ∃ x t, e = .returned x ∧ t.w = w' ∧ Le s t ∧ Below s.w.heap.size s.w w' ∧ ∀ δ, r.Rep δ t x)
/-- What is told of a walk: answers of calls, other forms of values, cases, invariants. -/
inductive Tr : Type 1
  | done
  | res (d : Nat) (v : TV) (k : Tr)
  | as (d : Nat) (v : TV) (k : Tr)
  | op (d : Nat) (v : TV) (k : Tr)
  | is (d : Nat) (b : Bool) (k : Tr)
  | split (d : Nat) (t e : Tr)
  | loop {σ : Type} (g : σ) (inv : σ → SS) (μ : σ → Nat) (k : σ → Tr)
  | cut {σ : Type} (r : Nat) (inv : σ → SS) (j : Tr) (k : σ → Tr)
def B (b : Bool) : TV := .u ⟨false, [.val (.bool b)]⟩
def hint (d : Nat) : Tr → TV → (Tr → TV → Prop) → Prop
  | .as d' v' k, v, K => match Nat.beq d d' with
    | true => AsOk v v' ∧ hint d k v' K
    | false => K (.as d' v' k) v
  | .split d' t e, v, K => match Nat.beq d d', v.sc with
    | true, some (.bool b) => (b = true → K t (B true)) ∧ (b = false → K e (B false))
    | _, _ => K (.split d' t e) v
  | .is d' c k, v, K => match Nat.beq d d', v.sc with
    | true, some (.bool b) => b = c ∧ K k (B c)
    | _, _ => K (.is d' c k) v
  | T, v, K => K T v
theorem AsOk.refl (v : TV) : AsOk v v := fun _ _ _ h => h
theorem asOk_bool {v : TV} {b c : Bool} (h : v.sc = some (.bool b)) (e : b = c) : AsOk v (B c) := fun γ s x k => by
  rw [sc_rep h k, e]; exact repU_val rfl
theorem hint_sound {d : Nat} {K : Tr → TV → Prop} : ∀ {T : Tr} {v : TV}, hint d T v K → ∃ T' v', AsOk v v' ∧ K T' v'
  | .as d' v' k, v, h => by
    unfold hint at h
    split at h
    · obtain ⟨T', u, h1, h2⟩ := hint_sound h.2
      exact ⟨T', u, fun γ s x hx => h1 γ s x (h.1 γ s x hx), h2⟩
    · exact ⟨_, v, AsOk.refl v, h⟩
  | .split d' t e, v, h => by
    unfold hint at h
    split at h
    · rename_i b _ hb
      cases b with
      | true => exact ⟨_, _, asOk_bool hb rfl, h.1 rfl⟩
      | false => exact ⟨_, _, asOk_bool hb rfl, h.2 rfl⟩
    · exact ⟨_, v, AsOk.refl v, h⟩
  | .is d' c k, v, h => by
    unfold hint at h
    split at h
    · rename_i b _ hb
      exact ⟨_, _, asOk_bool hb h.1, h.2⟩
    · exact ⟨_, v, AsOk.refl v, h⟩
  | .done, v, h => ⟨_, v, AsOk.refl v, h⟩
  | .res .., v, h => ⟨_, v, AsOk.refl v, h⟩
  | .op .., v, h => ⟨_, v, AsOk.refl v, h⟩
  | .loop .., v, h => ⟨_, v, AsOk.refl v, h⟩
  | .cut .., v, h => ⟨_, v, AsOk.refl v, h⟩
/-- What an operation left behind. -/
inductive Ev : Type 1
  | val (v : TV)
  | box (nm : Nat) (ty : TypeId) (l : List SV)
  | sto (b : Nat) (ty : TypeId) (l : List SV)
def SS.app (S : SS) (d : Option Nat) : Ev → SS
  | .val v => match d with
    | some d => S.put d v
    | none => S
  | .box nm ty l => match d with
    | some d => S.box d nm ty l
    | none => S
  | .sto b ty l => S.sto b ty l
structure It : Type 1 where
  o : Oper
  on : Bool
  rb : Option Nat
  ev : Ev
def wantedS (ops : Array Oper) (S : SS) (o : Oper) : Option Bool := match o.guard with
  | none => some true
  | some (g, want) => match (ops[g]?).bind (·.dst) with
    | some t => match look S.tm t with
      | some v => match v.sc with
        | some (.bool true) => some want
        | some (.bool false) => some (!want)
        | some (.tuple _) => some false
        | _ => none
      | none => none
    | none => none
def okDst (S : SS) (o : Oper) : Bool := (match o.dst with
  | some d => Nat.blt d S.n
  | none => true) && (match o.op with
  | .select _ _ => false
  | _ => true)
def okNm (S : SS) (l : List SV) : Bool := l.all (SV.nm fun b => Nat.blt b S.nx)
/-- The operation gives v, wherever its operands are what S says. -/
def OpGives (P : Program) (S : SS) (o : Oper) (v : TV) : Prop := ∀ γ s a, OpsSat γ s a S o →
  ∃ x t, (execOp a.eval o).run P s.w = .ok (.value x) t.w ∧ Le s t ∧ Below s.w.heap.size s.w t.w ∧ v.Rep γ t x
/-- What is known of an item. -/
structure ItOk (P : Program) (ops : Array Oper) (S : SS) (it : It) : Prop where
  dst : okDst S it.o = true
  gd : wantedS ops S it.o = some it.on
  off : it.on = false → it.ev = .val (.tup []) ∧ it.rb = none
  act : it.on = true → (it.rb = none ∧ ∃ v u, OpGives P S it.o v ∧ AsOk v u ∧ it.ev = .val u) ∨ ∃ e, evalOp P S it.o = some (it.rb, e) ∧ match e with
    | .pure v => ∃ u, AsOk v u ∧ it.ev = .val u
    | .alloc ty l => it.o.dst.isSome = true ∧ ∃ nm, it.ev = .box nm ty l
    | .store b ty l => it.ev = .sto b ty l
    | .call f args => ∃ r u, Spec P f args r ∧ AsOk r u ∧ it.ev = .val u
/-- S says of what the item looks at what Sc says. -/
structure Agr (ops : Array Oper) (it : It) (Sc S : SS) : Prop where
  tm : ∀ k ∈ it.o.looksAt ops, ∀ t, look Sc.tm k = some t → look S.tm k = some t
  bx : ∀ b, it.rb = some b → look S.bx b = look Sc.bx b
  n : S.n = Sc.n
theorem Agr.refl (ops : Array Oper) (it : It) (S : SS) : Agr ops it S S := ⟨fun _ _ _ h => h, fun _ _ => rfl, rfl⟩
section
variable {P : Program} {ops : Array Oper} {w0 : World} {s0 : Kst} {Q : Exit → Act → World → Prop}
theorem evalOp_rb {S : SS} {o : Oper} {rb : Option Nat} {e : Eff} (h : evalOp P S o = some (rb, e)) {b : Nat} {ty : TypeId} {l : List SV} (he : e = .store b ty l) : rb = some b ∧ ∃ l0, look S.bx b = some (ty, l0) := by
  subst he
  unfold evalOp at h
  split at h
  case h_7 =>
    split at h
    · split at h
      · rename_i t l' n hl hn hu
        split at h
        · split at h
          · split at h
            · injection h with h; injection h with e1 e2
              injection e2 with e2 e3 e4
              subst e1 e2 e3
              exact ⟨rfl, _, hl⟩
            · cases h
          · cases h
        · cases h
      · cases h
    · cases h
  case h_13 =>
    unfold evalSc at h
    repeat' split at h
    all_goals (first | cases h | (injection h with h; injection h with e1 e2; cases e2))
  all_goals (repeat' split at h) <;> (first | cases h | (injection h with h; injection h with e1 e2; cases e2))
theorem yielded_sat {γ : Nat → Nat} {s : Kst} {a : Act} {S : SS} {n0 : Nat} (hs : Sat n0 γ s a S) {g t : Nat} {v : TV} {b : Bool} (h1 : (ops[g]?).bind (·.dst) = some t) (h2 : look S.tm t = some v) (h3 : v.sc = some (.bool b)) : yielded ops a.tmps g = some b := by
  have := sc_rep h3 (hs.tm t v h2)
  unfold yielded
  rw [h1]
  simp only [Option.bind_some]
  rw [Array.getD_eq_getD_getElem?] at this
  cases e : a.tmps[t]? with
  | none => rw [e] at this; cases this
  | some x =>
    rw [e] at this
    have this : x = .bool b := this
    rw [this]
theorem yielded_tup {γ : Nat → Nat} {s : Kst} {a : Act} {S : SS} {n0 : Nat} (hs : Sat n0 γ s a S) {g t : Nat} {v : TV} {vs : Array Value} (h1 : (ops[g]?).bind (·.dst) = some t) (h2 : look S.tm t = some v) (h3 : v.sc = some (.tuple vs)) : yielded ops a.tmps g = none := by
  have := sc_rep h3 (hs.tm t v h2)
  unfold yielded
  rw [h1]
  simp only [Option.bind_some]
  rw [Array.getD_eq_getD_getElem?] at this
  cases e : a.tmps[t]? with
  | none => rfl
  | some x =>
    rw [e] at this
    have this : x = .tuple vs := this
    rw [this]
theorem wanted_sat {γ : Nat → Nat} {s : Kst} {a : Act} {S Sc : SS} {n0 : Nat} {o : Oper} {on : Bool} (hs : Sat n0 γ s a S) (h : wantedS ops Sc o = some on) (ha : ∀ k ∈ o.looksAt ops, ∀ t, look Sc.tm k = some t → look S.tm k = some t) :
    Region.wanted o (yielded ops a.tmps) = on := by
  unfold wantedS at h
  unfold Region.wanted
  split at h
  · rename_i hg
    injection h with h
    rw [hg]; exact h
  · rename_i g want hg
    rw [hg]
    split at h
    · rename_i t ht
      split at h
      · rename_i v hv
        have hmem : t ∈ o.looksAt ops := by
          unfold Oper.looksAt
          rw [hg]
          refine List.mem_append_right _ ?_
          simp only [ht]
          exact List.mem_singleton.2 rfl
        have hv' := ha t hmem v hv
        split at h
        · rename_i hb
          injection h with h
          simp only [yielded_sat hs ht hv' hb]
          rw [← h]; cases want <;> rfl
        · rename_i hb
          injection h with h
          simp only [yielded_sat hs ht hv' hb]
          rw [← h]; cases want <;> rfl
        · rename_i hb
          injection h with h
          simp only [yielded_tup hs ht hv' hb]
          rw [← h]; cases want <;> rfl
        · cases h
      · cases h
    · cases h
theorem opT_agr {S Sc : SS} {o : Oper} (ha : ∀ k ∈ o.looksAt ops, ∀ t, look Sc.tm k = some t → look S.tm k = some t) {x : Operand} (hx : x ∈ o.op.operands) {t : TV} (h : opT Sc x = some t) : opT S x = some t := by
  cases x with
  | tmp k => exact ha k (List.mem_append_left _ (List.mem_filterMap.2 ⟨.tmp k, by simpa using hx, rfl⟩)) t h
  | const v => exact h
  | func f => exact h
  | global g => exact h
theorem opsSat {γ : Nat → Nat} {s : Kst} {a : Act} {S Sc : SS} {n0 : Nat} {o : Oper} (hs : Sat n0 γ s a S) (ha : ∀ k ∈ o.looksAt ops, ∀ t, look Sc.tm k = some t → look S.tm k = some t) : OpsSat γ s a Sc o := fun x hx t ht => by
  have h1 := opT_agr ha hx ht
  cases x with
  | tmp k => exact hs.tm k t h1
  | const v =>
    unfold opT at h1
    simp only at h1
    split at h1
    · rename_i hv
      injection h1 with h1; subst h1
      exact repU_val hv
    · cases h1
  | func f =>
    unfold opT at h1
    simp only at h1
    injection h1 with h1; subst h1
    exact repU_val rfl
  | global g => cases h1
theorem okDst_spec {S : SS} {o : Oper} (h : okDst S o = true) : (∀ d, o.dst = some d → d < S.n) ∧ ∀ cs b, o.op ≠ .select cs b := by
  unfold okDst at h
  rw [Bool.and_eq_true] at h
  refine ⟨fun d hd => ?_, fun cs b e => ?_⟩
  · have h1 := h.1
    rw [hd] at h1
    exact Nat.le_of_ble_eq_true h1
  · have h2 := h.2
    rw [e] at h2
    cases h2
theorem Ok.put {S : SS} {γ : Nat → Nat} {s t : Kst} {a : Act} {d : Option Nat} {v : TV} {x : Value} (hs : Sat w0.heap.size γ s a S) (hB : Below w0.heap.size w0 s.w) (hL : Le s0 s) (hle : Le s t) (hb : Below s.w.heap.size s.w t.w) (hd : ∀ k, d = some k → k < S.n) (hv : v.Rep γ t x) :
    Ok w0 s0 (S.app d (.val v)) (a.put d x) t.w := by
  have hB' : Below w0.heap.size w0 t.w := hB.trans (hb.mono hB.size)
  cases d with
  | none => exact ⟨γ, t, rfl, ⟨hs.df, hs.sz, fun k u hu => (hs.tm k u hu).up hle, fun b ty l hl => (hs.bx b ty l hl).up hle hb, hs.inj⟩, hB', hL.trans hle⟩
  | some d => exact ⟨γ, t, rfl, hs.value hle hb (hd d rfl) hv, hB', hL.trans hle⟩
theorem item_wp {it : It} {S Sc : SS} {a : Act} {w : World} (h : ItOk P ops Sc it) (ha : Agr ops it Sc S) (hfr : ∀ nm ty l, it.ev = .box nm ty l → Fresh S nm ∧ l.all (SV.nm fun b => !Nat.beq b nm) = true) (hk : Ok w0 s0 S a w) :
    if Region.wanted it.o (yielded ops a.tmps) = true then it.o.wp P a w (Ok w0 s0 (S.app it.o.dst it.ev)) Q else Ok w0 s0 (S.app it.o.dst it.ev) (a.put it.o.dst undef) w := by
  obtain ⟨γ, s, rfl, hs, hB, hL⟩ := hk
  obtain ⟨hd, hsel⟩ := okDst_spec h.dst
  have hd' : ∀ k, it.o.dst = some k → k < S.n := fun k hk => by rw [ha.n]; exact hd k hk
  rw [wanted_sat hs h.gd ha.tm]
  cases hon : it.on with
  | false =>
    rw [if_neg (by simp)]
    rw [(h.off hon).1]
    exact Ok.put hs hB hL (Le.refl _) (Below.refl _ _) hd' ⟨[], rfl, rfl⟩
  | true =>
    rw [if_pos rfl]
    rcases h.act hon with ⟨_, v, u, hg, hu, ev⟩ | ⟨e, he, hm⟩
    · obtain ⟨x, t, hr, hle, hb, hv⟩ := hg γ s a (opsSat hs ha.tm)
      unfold Oper.wp
      rw [hr, Oper.upon_value, ev]
      exact Ok.put hs hB hL hle hb hd' (hu _ _ _ hv)
    have hbx : ∀ b, it.rb = some b → ∀ ty l, look Sc.bx b = some (ty, l) → BoxAt w0.heap.size γ s b ty l := fun b hb ty l hl => hs.bx b ty l (by rw [ha.bx b hb]; exact hl)
    have hok := evalOp_ok (n0 := w0.heap.size) hsel (opsSat hs ha.tm) hbx he
    unfold Oper.wp
    cases e with
    | pure v =>
      obtain ⟨x, hr, hv⟩ := hok
      obtain ⟨u, hu, ev⟩ := hm
      rw [hr, Oper.upon_value, ev]
      exact Ok.put hs hB hL (Le.refl _) (Below.refl _ _) hd' (hu _ _ _ hv)
    | alloc ty l =>
      obtain ⟨cs, hr, hl, hw⟩ := hok
      obtain ⟨hsome, nm, ev⟩ := hm
      obtain ⟨d, hdd⟩ := Option.isSome_iff_exists.1 hsome
      obtain ⟨hf, hn⟩ := hfr nm ty l ev
      rw [hr, Oper.upon_value, ev, hdd]
      exact ⟨_, s.new (.cells cs.toArray ty), rfl, hs.alloc hB.size (hd' d hdd) hl hw hf hn, hB.trans ((Below.refl _ _).alloc hB.size _), hL.trans (s.le_new _)⟩
    | store b ty l =>
      obtain ⟨cs, hr, hl, hw, hnone⟩ := hok
      obtain ⟨hrb, l0, hl0⟩ := evalOp_rb he rfl
      obtain ⟨h1, h2, h3⟩ := hs.store (by rw [ha.bx b hrb]; exact hl0) hl hw
      rw [hr, Oper.upon_skip, show it.ev = .sto b ty l from hm, hnone]
      exact ⟨γ, s.row (γ b) cs.toArray, rfl, h1, hB.trans h3, hL.trans h2⟩
    | call f args =>
      obtain ⟨vs, hr, hvs⟩ := hok
      obtain ⟨r, u, hsp, hu, ev⟩ := hm
      rw [hr, hsp.ent, Oper.upon_enter]
      refine (hsp.run γ s vs hvs).mono fun e' w'' hh => ?_
      obtain ⟨x, t, rfl, rfl, hle, hb, hx⟩ := hh
      show Ok w0 s0 (S.app it.o.dst it.ev) (a.put it.o.dst x) t.w
      rw [ev]
      exact Ok.put hs hB hL hle hb hd' (hu _ _ _ (hx γ))
end
end Go.Proofs.Ythhgjloephkpaaa.Lx
