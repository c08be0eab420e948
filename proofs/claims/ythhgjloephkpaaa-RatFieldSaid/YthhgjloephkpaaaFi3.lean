/- Words and walks for the row RowRatField, put together: LX4, LX5, LX6, LX7, LX8. -/
import Derived.Test.YthhgjloephkpaaaFi2
namespace Go.Proofs.Ythhgjloephkpaaa.Lx
set_option linter.unusedVariables false
set_option linter.unusedSimpArgs false
open Go Go.RowKit Go.Proofs.Ythhgjloephkpaaa Go.Proofs.YthhgjloephkpaaaW.PrintWords Go.Proofs.YthhgjloephkpaaaW.PrintLast
section
variable {P : Program} {n0 : Nat} {γ : Nat → Nat} {s : Kst} {a : Act} {S : SS} {o : Oper}
theorem ok_load {ty : TypeId} {x : Operand} {b off : Nat} {t : TypeId} {l r m q p : List SV} {g : Bool} {n : Nat} (ho : o.op = .load ty x) (hx : a.eval x = .pointer (some ⟨γ b, off, none⟩)) (hb : BoxAt n0 γ s b t l)
    (hg : pureVal P (isAgg ty) = some g) (hn : pureVal P (sizeOf ty) = some n) (h1 : cutW off l = some (p, r)) (h2 : cutW (cw g n) r = some (m, q)) : OpOk P o γ s a (.pure (.u ⟨g, m⟩)) := by
  obtain ⟨cs, k, hh, hw, _, _⟩ := hb
  obtain ⟨_, k2, l1⟩ := cutW_spec _ _ h1 k
  obtain ⟨k3, _, l2⟩ := cutW_spec _ _ h2 k2
  cases g with
  | false =>
    rw [List.length_drop] at l2
    have l3 : off < cs.length := by simp only [cw] at l2; omega
    have e : (cs.drop off).take 1 = [cs[off]] := by
      rw [List.drop_eq_getElem_cons l3]; rfl
    simp only [cw] at k3
    rw [e] at k3
    exact ⟨cs[off], run_load1 _ ho hx hh (by simp [l3]) (pureVal_run hg s.w), k3.one _ (List.mem_singleton.2 rfl), k3⟩
  | true =>
    simp only [cw] at k3 l2
    refine ⟨.agg ((cs.drop off).take n).toArray, run_loadA ((cs.drop off).take n) ho hx hh ?_ (pureVal_run hg s.w) ?_, _, rfl, k3⟩
    · simp only [List.length_take]; rw [List.take_eq_take_min]; simp
    · rw [pureVal_run hn s.w, List.length_take, Nat.min_eq_left l2]
theorem ok_store {ty : TypeId} {x y : Operand} {b off : Nat} {t : TypeId} {u : UV} {l r m q p : List SV} {n : Nat} (ho : o.op = .store ty x y) (hx : a.eval x = .pointer (some ⟨γ b, off, none⟩)) (hy : u.Rep γ s (a.eval y)) (hb : BoxAt n0 γ s b t l)
    (hn : pureVal P (sizeOf ty) = some n) (hu : u.l.all SV.noW = true) (h1 : cutW off l = some (p, r)) (h2 : cutW n r = some (m, q)) (hw : Nat.beq (widthL u.l) n = true) (hd : o.dst = none) : OpOk P o γ s a (.store b t (p ++ u.l ++ q)) := by
  obtain ⟨cs, k, hh, hnw, _, _⟩ := hb
  obtain ⟨k1, k2, l1⟩ := cutW_spec _ _ h1 k
  obtain ⟨_, k4, l2⟩ := cutW_spec _ _ h2 k2
  have hw' := Nat.eq_of_beq_eq_true hw
  have hc := hy.cells
  have hlen := hc.len
  rw [hw'] at hlen
  rw [List.length_drop] at l2
  have hr := run_storeCells_at (P := P) (γ b) off t (a.eval y).cells.toList 0 cs.toArray s.w hh (by simp only [Nat.add_zero, List.size_toArray]; rw [hlen]; omega) hc.one
  simp only [Nat.add_zero] at hr
  refine ⟨cs.take off ++ (a.eval y).cells.toList ++ (cs.drop off).drop n, ?_, (k1.append hc).append k4, ?_, hd⟩
  · rw [List.drop_drop]
    rw [hlen] at hr
    unfold execOp
    simp only [ho, hx, Instr.storeAt, Instr.sureAddr, Sem.run_bind, Sem.run_pure, Result.andThen_ok, storeVar, pureVal_run hn, hr]
    rw [Array.length_toList] at hlen
    simp only [hlen, ne_eq, not_true_eq_false, if_false, Sem.run_bind, Sem.run_pure, Result.andThen_ok, hr]
  · intro v hv
    rcases List.mem_append.1 hv with h | h
    · rcases List.mem_append.1 h with h | h
      · exact hnw v (List.mem_of_mem_take h)
      · exact hc.now hu v h
    · exact hnw v (List.mem_of_mem_drop (List.mem_of_mem_drop h))
theorem ok_alloc {ty : TypeId} {z : Value} (ho : o.op = .alloc ty) (hz : pureVal P (zeroValue ty) = some z) (ha : z.cells.toList.all (fun v => v.oneCell' && noW v) = true) : OpOk P o γ s a (.alloc ty (z.cells.toList.map .val)) := by
  rw [List.all_eq_true] at ha
  refine ⟨z.cells.toList, ?_, repL_vals (List.all_eq_true.2 fun v hv => (Bool.and_eq_true_iff.1 (ha v hv)).1), fun v hv => (Bool.and_eq_true_iff.1 (ha v hv)).2⟩
  unfold execOp
  simp only [ho, Instr.alloc, newVar, newRow, Sem.run_bind, Sem.run_pure, Result.andThen_ok, run_newObj, pureVal_run hz, Array.toArray_toList]
  rfl
theorem ok_box {ty : TypeId} {x : Operand} {u : UV} (ho : o.op = .box ty x) (hx : u.Rep γ s (a.eval x)) (hu : u.l.all SV.noW = true) : OpOk P o γ s a (.alloc ty u.l) := by
  refine ⟨(a.eval x).cells.toList, ?_, hx.cells, hx.cells.now hu⟩
  unfold execOp
  simp only [ho, Instr.box, newVar, newRow, Sem.run_bind, Sem.run_pure, Result.andThen_ok, run_newObj, Array.toArray_toList]
  rfl
theorem ok_fieldAddr {ty : TypeId} {x : Operand} {f b off fo n : Nat} {g : Bool} (ho : o.op = .fieldAddr ty x f) (hx : a.eval x = .pointer (some ⟨γ b, off, none⟩)) (hf : fieldOf P ty f = some (fo, n, g)) :
    OpOk P o γ s a (.pure (.u ⟨false, [.ptr b (off + fo)]⟩)) := by
  obtain ⟨fs, y, h1, h2, h3, h4, h5, h6⟩ := fieldOf_spec hf
  refine ⟨_, ?_, repU_ptr⟩
  have hadd : (⟨γ b, off, none⟩ : Addr).add fo = ⟨γ b, off + fo, none⟩ := by unfold Addr.add; split <;> simp_all
  unfold execOp
  simp only [ho, hx, Instr.fieldAt, Instr.sureAddr, fieldPlace, Sem.run_bind, Sem.run_pure, Result.andThen_ok, run_underlying' h1, h2, h4, if_neg h6, h3, hadd]
theorem ok_field {ty : TypeId} {x : Operand} {f fo n : Nat} {g : Bool} {l r m q p : List SV} (ho : o.op = .field ty x f) (hx : (UV.mk true l).Rep γ s (a.eval x)) (hf : fieldOf P ty f = some (fo, n, g))
    (h1 : cutW fo l = some (p, r)) (h2 : cutW (cw g n) r = some (m, q)) : OpOk P o γ s a (.pure (.u ⟨g, m⟩)) := by
  obtain ⟨fs, y, e1, e2, e3, e4, e5, e6⟩ := fieldOf_spec hf
  obtain ⟨cs, ex, k⟩ := hx
  obtain ⟨_, k2, l1⟩ := cutW_spec _ _ h1 k
  obtain ⟨k3, _, l2⟩ := cutW_spec _ _ h2 k2
  cases g with
  | false =>
    rw [List.length_drop] at l2
    have l3 : fo < cs.length := by simp only [cw] at l2; omega
    have e : (cs.drop fo).take 1 = [cs[fo]] := by
      rw [List.drop_eq_getElem_cons l3]; rfl
    simp only [cw] at k3
    rw [e] at k3
    refine ⟨cs[fo], ?_, k3.one _ (List.mem_singleton.2 rfl), k3⟩
    unfold execOp
    simp only [ho, ex, Instr.field, asAgg, part, Sem.run_bind, Sem.run_pure, Result.andThen_ok, run_underlying' e1, e2, e3, e5, Bool.false_eq_true, if_false, List.getElem?_toArray, List.getElem?_eq_getElem l3]
  | true =>
    simp only [cw] at k3 l2
    refine ⟨.agg ((cs.drop fo).take n).toArray, ?_, _, rfl, k3⟩
    unfold execOp
    simp only [ho, ex, Instr.field, asAgg, part, Sem.run_bind, Sem.run_pure, Result.andThen_ok, run_underlying' e1, e2, e3, e4, e5, if_true]
    simp [List.take_drop]
theorem partsT_rep : ∀ {ps : List (Nat × Operand)} {us : List (Nat × UV)}, (∀ x ∈ ps.map (·.2), ∀ t, opT S x = some t → t.Rep γ s (a.eval x)) → partsT S ps = some us → Parts γ s us (ps.map fun p => (p.1, a.eval p.2))
  | [], us, h, hp => by unfold partsT at hp; injection hp with hp; subst hp; rfl
  | (i, x) :: ps, us, h, hp => by
    unfold partsT at hp
    split at hp
    · rename_i u r h1 h2
      injection hp with hp; subst hp
      exact ⟨(i, a.eval x), _, rfl, rfl, h x (by simp) _ h1, partsT_rep (fun y hy => h y (by simp at hy ⊢; exact .inr hy)) h2⟩
    · cases hp
theorem placesL_run : ∀ {l : List Field} {r : List (Nat × Nat)}, placesL P l = some r → ∀ w, (l.mapM fun (f : Field) => do pure (f.offset, ← sizeOf f.type)).run P w = .ok r w
  | [], r, h, w => by unfold placesL at h; injection h with h; subst h; simp [go_sem]
  | f :: l, r, h, w => by
    unfold placesL at h
    split at h
    · rename_i n r' h1 h2
      injection h with h; subst h
      rw [List.mapM_cons, Sem.run_bind, Sem.run_bind, pureVal_run h1, Result.andThen_ok, Sem.run_pure, Result.andThen_ok, Sem.run_bind, placesL_run h2, Result.andThen_ok, Sem.run_pure]
    · cases h
theorem places_run {fs : Array Field} {r : List (Nat × Nat)} (h : placesL P fs.toList = some r) (w : World) : (fs.mapM fun (f : Field) => do pure (f.offset, ← sizeOf f.type)).run P w = .ok r.toArray w := by
  rw [Array.mapM_eq_mapM_toList]
  simp only [Sem.run_bind, map_eq_pure_bind, placesL_run h, Result.andThen_ok, Sem.run_pure]
theorem ok_build {ty : TypeId} {ps : Array (Nat × Operand)} {fs : Array Field} {z : Value} {places : List (Nat × Nat)} {us : List (Nat × UV)} {l : List SV} (ho : o.op = .build ty ps) (h : OpsSat γ s a S o) (hu : P.underlying ty = some (.struct fs))
    (hz : pureVal P (zeroValue ty) = some z) (hp : placesL P fs.toList = some places) (hus : partsT S ps.toList = some us) (ha : z.cells.toList.all Value.oneCell' = true)
    (hl : fillL (places[·]?) (z.cells.toList.map .val) us = some l) : OpOk P o γ s a (.pure (.u ⟨true, l⟩)) := by
  have hps := partsT_rep (γ := γ) (s := s) (a := a) (S := S) (ps := ps.toList) (us := us) (fun x hx t ht => h x (by rw [ho]; simpa [Op.operands] using hx) t ht) hus
  obtain ⟨cs, e, k⟩ := fillL_ok (places[·]?) us _ hl (repL_vals ha) hps
  refine ⟨.agg cs.toArray, ?_, _, rfl, k⟩
  unfold execOp
  have hm : (ps.map fun (x : Nat × Operand) => (x.1, a.eval x.2)).toList = ps.toList.map fun p => (p.1, a.eval p.2) := by simp
  rw [Array.toArray_toList] at e
  have hp' := places_run hp s.w
  have e : Instr.fill (fun x => places.toArray[x]?) z.cells (ps.toList.map fun p => (p.1, a.eval p.2)) = some cs.toArray := by simpa using e
  simp only [ho, Instr.build, Sem.run_bind, Sem.run_pure, Result.andThen_ok, run_underlying' hu, pureVal_run hz, hp', hm, e]
theorem argsT_rep : ∀ {xs : List Operand} {ts : List TV}, (∀ x ∈ xs, ∀ t, opT S x = some t → t.Rep γ s (a.eval x)) → argsT S xs = some ts → RepAll γ s ts (xs.map a.eval)
  | [], ts, h, hp => by unfold argsT at hp; injection hp with hp; subst hp; rfl
  | x :: xs, ts, h, hp => by
    unfold argsT at hp
    split at hp
    · rename_i t r h1 h2
      injection hp with hp; subst hp
      exact ⟨_, _, rfl, h x (by simp) _ h1, argsT_rep (fun y hy => h y (by simp [hy])) h2⟩
    · cases hp
theorem repT_get : ∀ {l : List UV} {vs : List Value} {i : Nat} {u : UV}, RepT γ s l vs → l[i]? = some u → ∃ v, vs[i]? = some v ∧ u.Rep γ s v
  | c :: l, vs, 0, u, ⟨x, y, e, k1, k2⟩, h => by simp at h; subst h; exact ⟨x, by rw [e]; rfl, k1⟩
  | c :: l, vs, i + 1, u, ⟨x, y, e, k1, k2⟩, h => by
    simp at h
    obtain ⟨v, hv, k⟩ := repT_get k2 h
    exact ⟨v, by rw [e]; simpa using hv, k⟩
  | [], vs, i, u, _, h => by simp at h
theorem evalOp_ok {rb : Option Nat} {e : Eff} (hsel : ∀ cs b, o.op ≠ .select cs b) (h : OpsSat γ s a S o) (hb : ∀ b, rb = some b → ∀ ty l, look S.bx b = some (ty, l) → BoxAt n0 γ s b ty l) (he : evalOp P S o = some (rb, e)) : OpOk P o γ s a e := by
  unfold evalOp at he
  split at he
  · rename_i x ho
    split at he
    · rename_i t ht
      injection he with he; injection he with h1 h2; subst h1 h2
      exact ⟨a.eval x, by unfold execOp; simp only [ho]; rfl, h x (by rw [ho]; simp [Op.operands]) t ht⟩
    · cases he
  · rename_i x ho
    split at he
    · rename_i t ht
      injection he with he; injection he with h1 h2; subst h1 h2
      exact ⟨a.eval x, by unfold execOp; simp only [ho]; rfl, h x (by rw [ho]; simp [Op.operands]) t ht⟩
    · cases he
  · rename_i c x y ho
    have hm : ∀ z, z = c ∨ z = x ∨ z = y → z ∈ o.op.operands := fun z hz => by rw [ho]; rcases hz with e | e | e <;> subst e <;> simp [Op.operands]
    split at he
    · rename_i hc
      split at he
      · rename_i t ht
        injection he with he; injection he with h1 h2; subst h1 h2
        exact ⟨a.eval x, by have hc' := scO_eval h (hm c (.inl rfl)) hc; unfold execOp; simp only [ho, hc', asBool, Sem.run_bind, Sem.run_pure, Result.andThen_ok, if_true], h x (hm x (.inr (.inl rfl))) t ht⟩
      · cases he
    · rename_i hc
      split at he
      · rename_i t ht
        injection he with he; injection he with h1 h2; subst h1 h2
        exact ⟨a.eval y, by have hc' := scO_eval h (hm c (.inl rfl)) hc; unfold execOp; simp only [ho, hc', asBool, Sem.run_bind, Sem.run_pure, Result.andThen_ok, Bool.false_eq_true, if_false], h y (hm y (.inr (.inr rfl))) t ht⟩
      · cases he
    · cases he
  · rename_i ty ho
    split at he
    · rename_i z hz
      split at he
      · rename_i ha
        injection he with he; injection he with h1 h2; subst h1 h2
        exact ok_alloc ho hz ha
      · cases he
    · cases he
  · rename_i ty x ho
    split at he
    · rename_i u hx
      split at he
      · rename_i hu
        injection he with he; injection he with h1 h2; subst h1 h2
        exact ok_box ho (h x (by rw [ho]; simp [Op.operands]) _ hx) hu
      · cases he
    · cases he
  · rename_i ty x ho
    split at he
    · rename_i b off hx
      split at he
      · rename_i t l g n hl hg hn
        split at he
        · rename_i p r h1
          split at he
          · rename_i m q h2
            injection he with he; injection he with e1 e2; subst e1 e2
            exact ok_load ho (ptr_rep (h x (by rw [ho]; simp [Op.operands]) _ hx)) (hb b rfl _ _ hl) hg hn h1 h2
          · cases he
        · cases he
      · cases he
    · cases he
  · rename_i ty x y ho
    split at he
    · rename_i b off u hx hy
      split at he
      · rename_i t l n hl hn hu
        split at he
        · rename_i p r h1
          split at he
          · rename_i m q h2
            split at he
            · rename_i hw hd
              injection he with he; injection he with e1 e2; subst e1 e2
              exact ok_store ho (ptr_rep (h x (by rw [ho]; simp [Op.operands]) _ hx)) (h y (by rw [ho]; simp [Op.operands]) _ hy) (hb b rfl _ _ hl) hn hu h1 h2 hw hd
            · cases he
          · cases he
        · cases he
      · cases he
    · cases he
  · rename_i ty x f ho
    split at he
    · rename_i b off hx
      split at he
      · rename_i fo n g hf
        injection he with he; injection he with e1 e2; subst e1 e2
        exact ok_fieldAddr ho (ptr_rep (h x (by rw [ho]; simp [Op.operands]) _ hx)) hf
      · cases he
    · cases he
  · rename_i ty x f ho
    split at he
    · rename_i l hx
      split at he
      · rename_i fo n g hf
        split at he
        · rename_i p r h1
          split at he
          · rename_i m q h2
            injection he with he; injection he with e1 e2; subst e1 e2
            exact ok_field ho (h x (by rw [ho]; simp [Op.operands]) _ hx) hf h1 h2
          · cases he
        · cases he
      · cases he
    · cases he
  · rename_i ty ps ho
    split at he
    · rename_i fs hu
      split at he
      · rename_i z places us hz hp hus
        split at he
        · rename_i ha
          split at he
          · rename_i l hl
            injection he with he; injection he with e1 e2; subst e1 e2
            exact ok_build ho h hu hz hp hus ha hl
          · cases he
        · cases he
      · cases he
    · cases he
  · rename_i x i ho
    split at he
    · rename_i l hx
      split at he
      · rename_i u hl
        injection he with he; injection he with e1 e2; subst e1 e2
        obtain ⟨vs, e, k⟩ := h x (by rw [ho]; simp [Op.operands]) _ hx
        obtain ⟨v, hv, k2⟩ := repT_get k hl
        refine ⟨v, ?_, k2⟩
        unfold execOp
        simp only [ho, e, Instr.extract, List.getElem?_toArray, hv, Sem.run_bind, Sem.run_pure, Result.andThen_ok]
      · cases he
    · cases he
  · rename_i f args ats ho
    split at he
    · rename_i g fi cap ts hf hts
      split at he
      case h_2 => cases he
      rename_i hfi hcap
      have hcap : cap = #[] := Array.ext' hcap
      have hfi : fi = #[] := Array.ext' hfi
      subst hcap hfi
      injection he with he; injection he with e1 e2; subst e1 e2
      have hfe := scO_eval h (x := f) (by rw [ho]; simp [Op.operands, Call.operands]) hf
      refine ⟨args.toList.map a.eval, ?_, argsT_rep (fun x hx t ht => h x (by rw [ho]; simp only [Op.operands, Call.operands]; exact Array.mem_append.2 (.inr (by simpa using hx))) t ht) hts⟩
      unfold execOp
      simp only [ho, resolve, hfe, Deferred.ofValue, Sem.run_bind, Sem.run_pure, Result.andThen_ok, invoke]
      congr 2
      apply Array.ext'
      simp
    · cases he
  · exact evalSc_ok hsel h he
end
end Go.Proofs.Ythhgjloephkpaaa.Lx
namespace Go.Proofs.Ythhgjloephkpaaa.Lx
set_option linter.unusedVariables false
set_option linter.unusedSimpArgs false
open Go Go.RowKit Go.Proofs.Ythhgjloephkpaaa Go.Proofs.YthhgjloephkpaaaW.PrintWords Go.Proofs.YthhgjloephkpaaaW.PrintLast

theorem look_here {β : Type _} {k n : Nat} {v : β} {l : List (Nat × β)} (h : k = n) : look ((k, v) :: l) n = some v := by
  unfold look; rw [h, Nat.beq_refl]
theorem look_off {β : Type _} {k n : Nat} {v : β} {l : List (Nat × β)} (h : k ≠ n) : look ((k, v) :: l) n = look l n := by
  rw [look]
  have : Nat.beq k n = false := by cases e : Nat.beq k n with
    | false => rfl
    | true => exact absurd (Nat.eq_of_beq_eq_true e) h
  rw [this]
def SS.put (S : SS) (d : Nat) (v : TV) : SS := ⟨(d, v) :: S.tm, S.bx, S.nx, S.n⟩
/-- No part of the state names the box. -/
structure Fresh (S : SS) (nm : Nat) : Prop where
  no : look S.bx nm = none
  nt : ∀ k v, look S.tm k = some v → v.nm (fun b => !Nat.beq b nm) = true
  nb : ∀ b ty l, look S.bx b = some (ty, l) → l.all (SV.nm fun b => !Nat.beq b nm) = true
def SS.box (S : SS) (d : Nat) (nm : Nat) (ty : TypeId) (l : List SV) : SS := ⟨(d, .u ⟨false, [.ptr nm 0]⟩) :: S.tm, (nm, ty, l) :: S.bx, nm + 1, S.n⟩
def SS.sto (S : SS) (b : Nat) (ty : TypeId) (l : List SV) : SS := ⟨S.tm, (b, ty, l) :: S.bx, S.nx, S.n⟩
/-- The world w of a walk that began at w0 (s0): the state S holds. -/
def Ok (w0 : World) (s0 : Kst) (S : SS) (a : Act) (w : World) : Prop :=
  ∃ γ s, s.w = w ∧ Sat w0.heap.size γ s a S ∧ Below w0.heap.size w0 w ∧ Le s0 s
theorem getD_put {a : Act} {d k : Nat} {v : Value} (hd : d < a.tmps.size) : (a.put (some d) v).tmps.getD k undef = if d = k then v else a.tmps.getD k undef := by
  simp only [Act.put, Array.getD_eq_getD_getElem?, Array.getElem?_setIfInBounds]
  by_cases h : d = k
  · subst h; simp [hd]
  · simp [h]
section
variable {w0 : World} {γ : Nat → Nat} {s t : Kst} {a : Act} {S : SS}
theorem BoxAt.up {n0 b : Nat} {ty : TypeId} {l : List SV} (h : BoxAt n0 γ s b ty l) (hle : Le s t) (hb : Below s.w.heap.size s.w t.w) : BoxAt n0 γ t b ty l := by
  obtain ⟨cs, k, hh, hw, h0, hf⟩ := h
  have hlt : γ b < s.w.heap.size := by
    rcases Nat.lt_or_ge (γ b) s.w.heap.size with h1 | h1
    · exact h1
    · rw [Array.getElem?_eq_none h1] at hh; cases hh
  exact ⟨cs, k.up hle, by rw [hb.block _ hlt]; exact hh, hw, h0, fun hz => (hle.new _ hz).elim hf (fun h1 => by omega)⟩
theorem Sat.value (h : Sat w0.heap.size γ s a S) (hle : Le s t) (hb : Below s.w.heap.size s.w t.w) {d : Nat} (hd : d < S.n) {v : TV} {x : Value} (hv : v.Rep γ t x) : Sat w0.heap.size γ t (a.put (some d) x) (S.put d v) := by
  have hd' : d < a.tmps.size := by rw [h.sz]; exact hd
  refine ⟨h.df, by simp only [Act.put, Array.size_setIfInBounds]; exact h.sz, fun k u hu => ?_, fun b ty l hl => (h.bx b ty l hl).up hle hb, h.inj⟩
  rw [getD_put hd']
  by_cases hk : d = k
  · rw [if_pos hk]
    have := look_here (v := v) (l := S.tm) hk
    rw [show look (S.put d v).tm k = _ from this] at hu
    injection hu with hu; subst hu; exact hv
  · rw [if_neg hk]
    rw [show look (S.put d v).tm k = _ from look_off hk] at hu
    exact (h.tm k u hu).up hle
theorem SV.nm_le {p q : Nat → Bool} (h : ∀ b, p b = true → q b = true) {c : SV} (hb : c.nm p = true) : c.nm q = true := by
  cases c with
  | ptr b o => exact h b hb
  | _ => rfl
theorem SVs.nm_le {p q : Nat → Bool} (h : ∀ b, p b = true → q b = true) {l : List SV} (hb : l.all (SV.nm p) = true) : l.all (SV.nm q) = true :=
  List.all_eq_true.2 fun c hc => SV.nm_le h (List.all_eq_true.1 hb c hc)
theorem TV.nm_le {p q : Nat → Bool} (h : ∀ b, p b = true → q b = true) {v : TV} (hb : v.nm p = true) : v.nm q = true := by
  cases v with
  | u x => exact SVs.nm_le h hb
  | tup l => exact List.all_eq_true.2 fun c hc => SVs.nm_le h (List.all_eq_true.1 hb c hc)
theorem alloc_size (w : World) (o : Obj) : (w.alloc o).heap.size = w.heap.size + 1 := by
  show (w.heap.push o).size = _
  simp
/-- A new block. -/
def Kst.new (s : Kst) (o : Obj) : Kst := ⟨s.w.alloc o, s.fz, fun g h => by rw [alloc_size]; have := s.lt g h; omega⟩
theorem Kst.le_new (s : Kst) (o : Obj) : Le s (s.new o) :=
  ⟨U.box _ _, fun g h => ⟨h, Below.heap_alloc _ _ _ (s.lt g h)⟩, by show _ ≤ (s.w.alloc o).heap.size; rw [alloc_size]; omega, fun g h => .inl h⟩
theorem Sat.alloc (h : Sat w0.heap.size γ s a S) (h0 : w0.heap.size ≤ s.w.heap.size) {d : Nat} (hd : d < S.n) {ty : TypeId} {l : List SV} {cs : List Value} (hl : RepL γ s l cs) (hw : ∀ v ∈ cs, noW v = true) {nm : Nat} (hfr : Fresh S nm) (hb : l.all (SV.nm fun b => !Nat.beq b nm) = true) :
    Sat w0.heap.size (fun b => if b = nm then s.w.heap.size else γ b) (s.new (.cells cs.toArray ty)) (a.put (some d) (.pointer (some ⟨s.w.heap.size, 0, none⟩))) (S.box d nm ty l) := by
  have hγ : ∀ b, (!Nat.beq b nm) = true → (fun b => if b = nm then s.w.heap.size else γ b) b = γ b := fun b hb => if_neg (fun e => by subst e; rw [Nat.beq_refl] at hb; cases hb)
  have hle := s.le_new (.cells cs.toArray ty)
  have hbl : Below s.w.heap.size s.w (s.new (.cells cs.toArray ty)).w := (Below.refl _ _).alloc (Nat.le_refl _) _
  have hd' : d < a.tmps.size := by rw [h.sz]; exact hd
  have hself : (s.w.alloc (.cells cs.toArray ty)).heap[s.w.heap.size]? = some (.cells cs.toArray ty (0, 0)) := Array.getElem?_push_size
  have hold : ∀ b, (look S.bx b).isSome = true → γ b < s.w.heap.size := fun b hb1 => by
    obtain ⟨⟨t, l'⟩, e⟩ := Option.isSome_iff_exists.1 hb1
    obtain ⟨cs, _, hh, _⟩ := h.bx b t l' e
    rcases Nat.lt_or_ge (γ b) s.w.heap.size with h1 | h1
    · exact h1
    · rw [Array.getElem?_eq_none h1] at hh; cases hh
  have hlk : ∀ b, look (S.box d nm ty l).bx b = if nm = b then some (ty, l) else look S.bx b := fun b => by
    by_cases e : nm = b
    · rw [if_pos e]; exact look_here e
    · rw [if_neg e]; exact look_off e
  refine ⟨h.df, by simp only [Act.put, Array.size_setIfInBounds]; exact h.sz, fun k u hu => ?_, fun b t l' hl' => ?_, fun b b' hb1 hb2 he => ?_⟩
  · rw [getD_put hd']
    by_cases hk : d = k
    · rw [if_pos hk]
      rw [show look (S.box d nm ty l).tm k = _ from look_here hk] at hu
      injection hu with hu; subst hu
      have : (TV.u ⟨false, [.ptr nm 0]⟩).Rep (fun b => if b = nm then s.w.heap.size else γ b) (s.new (.cells cs.toArray ty)) (.pointer (some ⟨(fun b => if b = nm then s.w.heap.size else γ b) nm, 0, none⟩)) := repU_ptr
      simpa using this
    · rw [if_neg hk]
      rw [show look (S.box d nm ty l).tm k = _ from look_off hk] at hu
      exact ((h.tm k u hu).up hle).ren hγ (hfr.nt k u hu)
  · rw [hlk] at hl'
    by_cases e : nm = b
    · rw [if_pos e] at hl'
      injection hl' with hl'; injection hl' with e1 e2; subst e1 e2 e
      refine ⟨cs, (hl.up hle).ren hγ hb, ?_, hw, ?_, ?_⟩
      · simp only [if_true]; exact hself
      · simp only [if_true]; exact h0
      · simp only [if_true]; intro hz; have := s.lt _ hz; omega
    · rw [if_neg e] at hl'
      have e' : ¬ b = nm := fun h => e h.symm
      obtain ⟨cs', k, hh, hw', h1, hf⟩ := (h.bx b t l' hl').up hle hbl
      exact ⟨cs', k.ren hγ (hfr.nb b t l' hl'), by simp only [if_neg e']; exact hh, hw', by simp only [if_neg e']; exact h1, by simp only [if_neg e']; exact hf⟩
  · rw [hlk] at hb1 hb2
    by_cases e : nm = b
    · by_cases e' : nm = b'
      · rw [← e, ← e']
      · rw [if_neg e'] at hb2
        have := hold b' hb2
        simp only [if_pos e.symm, if_neg (fun x : b' = nm => e' x.symm)] at he
        omega
    · rw [if_neg e] at hb1
      have h1 := hold b hb1
      by_cases e' : nm = b'
      · simp only [if_pos e'.symm, if_neg (fun x : b = nm => e x.symm)] at he
        omega
      · rw [if_neg e'] at hb2
        simp only [if_neg (fun x : b' = nm => e' x.symm), if_neg (fun x : b = nm => e x.symm)] at he
        exact h.inj b b' hb1 hb2 he
theorem setRow_size (w : World) (g : Nat) (cs : Array Value) : (w.setRow g cs).heap.size = w.heap.size := by simp [World.setRow]
theorem setRow_off (w : World) (g k : Nat) (cs : Array Value) (h : k ≠ g) : (w.setRow g cs).heap[k]? = w.heap[k]? := by
  unfold World.setRow
  simp only [Array.getElem?_modify]
  rw [if_neg (fun e1 => h e1.symm)]
def Kst.row (s : Kst) (g : Nat) (cs : Array Value) : Kst := ⟨s.w.setRow g cs, s.fz, fun k h => by rw [setRow_size]; exact s.lt k h⟩
theorem U.row {w : World} {g : Nat} {cs new : Array Value} {t : TypeId} (hh : w.heap[g]? = some (.cells cs t (0, 0))) (hno : ∀ v ∈ cs.toList, noW v = true) : U w (w.setRow g new) := fun k cs' t' fr hk hn => by
  have hne : k ≠ g := fun he => by
    subst he
    rw [hh] at hk
    injection hk with hk
    injection hk with hk
    subst hk
    rw [List.all_eq_true.2 hno] at hn
    cases hn
  rw [setRow_off _ _ _ _ hne]; exact hk
theorem Sat.store (h : Sat w0.heap.size γ s a S) {b : Nat} {ty : TypeId} {l0 l : List SV} {cs : List Value} (hl0 : look S.bx b = some (ty, l0)) (hl : RepL γ s l cs) (hw : ∀ v ∈ cs, noW v = true) :
    Sat w0.heap.size γ (s.row (γ b) cs.toArray) a (S.sto b ty l) ∧ Le s (s.row (γ b) cs.toArray) ∧ Below w0.heap.size s.w (s.row (γ b) cs.toArray).w := by
  obtain ⟨cs0, k0, hh, hw0, h0, hf⟩ := h.bx b ty l0 hl0
  have hu : U s.w (s.w.setRow (γ b) cs.toArray) := U.row hh (by simpa using hw0)
  have hle : Le s (s.row (γ b) cs.toArray) := ⟨hu, fun g hg => ⟨hg, setRow_off _ _ _ _ (fun e => hf (e ▸ hg))⟩, by show _ ≤ (s.w.setRow (γ b) cs.toArray).heap.size; rw [setRow_size]; exact Nat.le_refl _, fun g hg => .inl hg⟩
  have hself : (s.w.setRow (γ b) cs.toArray).heap[γ b]? = some (.cells cs.toArray ty (0, 0)) := setRow_heap s.w (γ b) cs0.toArray cs.toArray ty (0, 0) hh
  have hlk : ∀ k, look (S.sto b ty l).bx k = if b = k then some (ty, l) else look S.bx k := fun k => by
    by_cases e : b = k
    · rw [if_pos e]; exact look_here e
    · rw [if_neg e]; exact look_off e
  have hsm : ∀ k, (look (S.sto b ty l).bx k).isSome = true → (look S.bx k).isSome = true := fun k hk => by
    rw [hlk] at hk
    by_cases e : b = k
    · rw [← e, hl0]; rfl
    · rwa [if_neg e] at hk
  refine ⟨⟨h.df, h.sz, fun k u hu => (h.tm k u hu).up hle, fun k t l' hl' => ?_, fun k k' hk hk' he => h.inj k k' (hsm k hk) (hsm k' hk') he⟩, hle, ⟨rfl, rfl, rfl, hle.size, fun k hk => setRow_off _ _ _ _ (by omega)⟩⟩
  · rw [hlk] at hl'
    by_cases e : b = k
    · rw [if_pos e] at hl'
      injection hl' with hl'; injection hl' with e1 e2; subst e1 e2 e
      exact ⟨cs, hl.up hle, hself, hw, h0, hf⟩
    · rw [if_neg e] at hl'
      obtain ⟨cs', k1, hh', hw', h1, hf'⟩ := h.bx k t l' hl'
      have hne : γ k ≠ γ b := fun he => e (h.inj b k (by rw [hl0]; rfl) (by rw [hl']; rfl) he.symm)
      exact ⟨cs', k1.up hle, by show (s.w.setRow (γ b) cs.toArray).heap[γ k]? = _; rw [setRow_off _ _ _ _ hne]; exact hh', hw', h1, hf'⟩
end
end Go.Proofs.Ythhgjloephkpaaa.Lx
namespace Go.Proofs.Ythhgjloephkpaaa.Lx
set_option linter.unusedVariables false
set_option linter.unusedSimpArgs false
open Go Go.RowKit Go.Proofs.Ythhgjloephkpaaa Go.Proofs.YthhgjloephkpaaaW.PrintWords Go.Proofs.YthhgjloephkpaaaW.PrintLast

/-- What is a v is a u. -/
def AsOk (v u : TV) : Prop := ∀ γ s x, v.Rep γ s x → u.Rep γ s x
/-- The function f, called with such arguments, answers such a thing. -/
structure Spec (P : Program) (f : FuncId) (args : List TV) (r : TV) : Prop where
  ent : ∀ vs w, (callFunc f vs).run P w = .ok (.enter f vs) w
  run : ∀ γ (s : Kst) (vs : List Value), RepAll γ s args vs →
    Calls P f vs.toArray s.w (fun e w' => ∃ x t, e = .returned x ∧ t.w = w' ∧ Le s t ∧ Below s.w.heap.size s.w w' ∧ ∀ δ, r.Rep δ t x)
/-- What is told of a walk: answers of calls, other forms of values, cases, invariants. -/
inductive Tr : Type 1
  | done
  | res (d : Nat) (v : TV) (k : Tr)
  | as (d : Nat) (v : TV) (k : Tr)
  | op (d : Nat) (v : TV) (k : Tr)
  | is (d : Nat) (b : Bool) (k : Tr)
  | split (d : Nat) (t e : Tr)
  | loop {σ : Type} (g : σ) (inv : σ → SS) (μ : σ → Nat) (k : σ → Tr)
  | cut {σ : Type} (r : Nat) (inv : σ → SS) (j : Tr) (k : σ → Tr)
def B (b : Bool) : TV := .u ⟨false, [.val (.bool b)]⟩
def hint (d : Nat) : Tr → TV → (Tr → TV → Prop) → Prop
  | .as d' v' k, v, K => match Nat.beq d d' with
    | true => AsOk v v' ∧ hint d k v' K
    | false => K (.as d' v' k) v
  | .split d' t e, v, K => match Nat.beq d d', v.sc with
    | true, some (.bool b) => (b = true → K t (B true)) ∧ (b = false → K e (B false))
    | _, _ => K (.split d' t e) v
  | .is d' c k, v, K => match Nat.beq d d', v.sc with
    | true, some (.bool b) => b = c ∧ K k (B c)
    | _, _ => K (.is d' c k) v
  | T, v, K => K T v
theorem AsOk.refl (v : TV) : AsOk v v := fun _ _ _ h => h
theorem asOk_bool {v : TV} {b c : Bool} (h : v.sc = some (.bool b)) (e : b = c) : AsOk v (B c) := fun γ s x k => by
  rw [sc_rep h k, e]; exact repU_val rfl
theorem hint_sound {d : Nat} {K : Tr → TV → Prop} : ∀ {T : Tr} {v : TV}, hint d T v K → ∃ T' v', AsOk v v' ∧ K T' v'
  | .as d' v' k, v, h => by
    unfold hint at h
    split at h
    · obtain ⟨T', u, h1, h2⟩ := hint_sound h.2
      exact ⟨T', u, fun γ s x hx => h1 γ s x (h.1 γ s x hx), h2⟩
    · exact ⟨_, v, AsOk.refl v, h⟩
  | .split d' t e, v, h => by
    unfold hint at h
    split at h
    · rename_i b _ hb
      cases b with
      | true => exact ⟨_, _, asOk_bool hb rfl, h.1 rfl⟩
      | false => exact ⟨_, _, asOk_bool hb rfl, h.2 rfl⟩
    · exact ⟨_, v, AsOk.refl v, h⟩
  | .is d' c k, v, h => by
    unfold hint at h
    split at h
    · rename_i b _ hb
      exact ⟨_, _, asOk_bool hb h.1, h.2⟩
    · exact ⟨_, v, AsOk.refl v, h⟩
  | .done, v, h => ⟨_, v, AsOk.refl v, h⟩
  | .res .., v, h => ⟨_, v, AsOk.refl v, h⟩
  | .op .., v, h => ⟨_, v, AsOk.refl v, h⟩
  | .loop .., v, h => ⟨_, v, AsOk.refl v, h⟩
  | .cut .., v, h => ⟨_, v, AsOk.refl v, h⟩
/-- What an operation left behind. -/
inductive Ev : Type 1
  | val (v : TV)
  | box (nm : Nat) (ty : TypeId) (l : List SV)
  | sto (b : Nat) (ty : TypeId) (l : List SV)
def SS.app (S : SS) (d : Option Nat) : Ev → SS
  | .val v => match d with
    | some d => S.put d v
    | none => S
  | .box nm ty l => match d with
    | some d => S.box d nm ty l
    | none => S
  | .sto b ty l => S.sto b ty l
structure It : Type 1 where
  o : Oper
  on : Bool
  rb : Option Nat
  ev : Ev
def wantedS (ops : Array Oper) (S : SS) (o : Oper) : Option Bool := match o.guard with
  | none => some true
  | some (g, want) => match (ops[g]?).bind (·.dst) with
    | some t => match look S.tm t with
      | some v => match v.sc with
        | some (.bool true) => some want
        | some (.bool false) => some (!want)
        | some (.tuple _) => some false
        | _ => none
      | none => none
    | none => none
def okDst (S : SS) (o : Oper) : Bool := (match o.dst with
  | some d => Nat.blt d S.n
  | none => true) && (match o.op with
  | .select _ _ => false
  | _ => true)
def okNm (S : SS) (l : List SV) : Bool := l.all (SV.nm fun b => Nat.blt b S.nx)
/-- The operation gives v, wherever its operands are what S says. -/
def OpGives (P : Program) (S : SS) (o : Oper) (v : TV) : Prop := ∀ γ s a, OpsSat γ s a S o →
  ∃ x t, (execOp a.eval o).run P s.w = .ok (.value x) t.w ∧ Le s t ∧ Below s.w.heap.size s.w t.w ∧ v.Rep γ t x
/-- What is known of an item. -/
structure ItOk (P : Program) (ops : Array Oper) (S : SS) (it : It) : Prop where
  dst : okDst S it.o = true
  gd : wantedS ops S it.o = some it.on
  off : it.on = false → it.ev = .val (.tup []) ∧ it.rb = none
  act : it.on = true → (it.rb = none ∧ ∃ v u, OpGives P S it.o v ∧ AsOk v u ∧ it.ev = .val u) ∨ ∃ e, evalOp P S it.o = some (it.rb, e) ∧ match e with
    | .pure v => ∃ u, AsOk v u ∧ it.ev = .val u
    | .alloc ty l => it.o.dst.isSome = true ∧ ∃ nm, it.ev = .box nm ty l
    | .store b ty l => it.ev = .sto b ty l
    | .call f args => ∃ r u, Spec P f args r ∧ AsOk r u ∧ it.ev = .val u
/-- S says of what the item looks at what Sc says. -/
structure Agr (ops : Array Oper) (it : It) (Sc S : SS) : Prop where
  tm : ∀ k ∈ it.o.looksAt ops, ∀ t, look Sc.tm k = some t → look S.tm k = some t
  bx : ∀ b, it.rb = some b → look S.bx b = look Sc.bx b
  n : S.n = Sc.n
theorem Agr.refl (ops : Array Oper) (it : It) (S : SS) : Agr ops it S S := ⟨fun _ _ _ h => h, fun _ _ => rfl, rfl⟩
section
variable {P : Program} {ops : Array Oper} {w0 : World} {s0 : Kst} {Q : Exit → Act → World → Prop}
theorem evalOp_rb {S : SS} {o : Oper} {rb : Option Nat} {e : Eff} (h : evalOp P S o = some (rb, e)) {b : Nat} {ty : TypeId} {l : List SV} (he : e = .store b ty l) : rb = some b ∧ ∃ l0, look S.bx b = some (ty, l0) := by
  subst he
  unfold evalOp at h
  split at h
  case h_7 =>
    split at h
    · split at h
      · rename_i t l' n hl hn hu
        split at h
        · split at h
          · split at h
            · injection h with h; injection h with e1 e2
              injection e2 with e2 e3 e4
              subst e1 e2 e3
              exact ⟨rfl, _, hl⟩
            · cases h
          · cases h
        · cases h
      · cases h
    · cases h
  case h_13 =>
    unfold evalSc at h
    repeat' split at h
    all_goals (first | cases h | (injection h with h; injection h with e1 e2; cases e2))
  all_goals (repeat' split at h) <;> (first | cases h | (injection h with h; injection h with e1 e2; cases e2))
theorem yielded_sat {γ : Nat → Nat} {s : Kst} {a : Act} {S : SS} {n0 : Nat} (hs : Sat n0 γ s a S) {g t : Nat} {v : TV} {b : Bool} (h1 : (ops[g]?).bind (·.dst) = some t) (h2 : look S.tm t = some v) (h3 : v.sc = some (.bool b)) : yielded ops a.tmps g = some b := by
  have := sc_rep h3 (hs.tm t v h2)
  unfold yielded
  rw [h1]
  simp only [Option.bind_some]
  rw [Array.getD_eq_getD_getElem?] at this
  cases e : a.tmps[t]? with
  | none => rw [e] at this; cases this
  | some x =>
    rw [e] at this
    have this : x = .bool b := this
    rw [this]
theorem yielded_tup {γ : Nat → Nat} {s : Kst} {a : Act} {S : SS} {n0 : Nat} (hs : Sat n0 γ s a S) {g t : Nat} {v : TV} {vs : Array Value} (h1 : (ops[g]?).bind (·.dst) = some t) (h2 : look S.tm t = some v) (h3 : v.sc = some (.tuple vs)) : yielded ops a.tmps g = none := by
  have := sc_rep h3 (hs.tm t v h2)
  unfold yielded
  rw [h1]
  simp only [Option.bind_some]
  rw [Array.getD_eq_getD_getElem?] at this
  cases e : a.tmps[t]? with
  | none => rfl
  | some x =>
    rw [e] at this
    have this : x = .tuple vs := this
    rw [this]
theorem wanted_sat {γ : Nat → Nat} {s : Kst} {a : Act} {S Sc : SS} {n0 : Nat} {o : Oper} {on : Bool} (hs : Sat n0 γ s a S) (h : wantedS ops Sc o = some on) (ha : ∀ k ∈ o.looksAt ops, ∀ t, look Sc.tm k = some t → look S.tm k = some t) :
    Region.wanted o (yielded ops a.tmps) = on := by
  unfold wantedS at h
  unfold Region.wanted
  split at h
  · rename_i hg
    injection h with h
    rw [hg]; exact h
  · rename_i g want hg
    rw [hg]
    split at h
    · rename_i t ht
      split at h
      · rename_i v hv
        have hmem : t ∈ o.looksAt ops := by
          unfold Oper.looksAt
          rw [hg]
          refine List.mem_append_right _ ?_
          simp only [ht]
          exact List.mem_singleton.2 rfl
        have hv' := ha t hmem v hv
        split at h
        · rename_i hb
          injection h with h
          simp only [yielded_sat hs ht hv' hb]
          rw [← h]; cases want <;> rfl
        · rename_i hb
          injection h with h
          simp only [yielded_sat hs ht hv' hb]
          rw [← h]; cases want <;> rfl
        · rename_i hb
          injection h with h
          simp only [yielded_tup hs ht hv' hb]
          rw [← h]; cases want <;> rfl
        · cases h
      · cases h
    · cases h
theorem opT_agr {S Sc : SS} {o : Oper} (ha : ∀ k ∈ o.looksAt ops, ∀ t, look Sc.tm k = some t → look S.tm k = some t) {x : Operand} (hx : x ∈ o.op.operands) {t : TV} (h : opT Sc x = some t) : opT S x = some t := by
  cases x with
  | tmp k => exact ha k (List.mem_append_left _ (List.mem_filterMap.2 ⟨.tmp k, by simpa using hx, rfl⟩)) t h
  | const v => exact h
  | func f => exact h
  | global g => exact h
theorem opsSat {γ : Nat → Nat} {s : Kst} {a : Act} {S Sc : SS} {n0 : Nat} {o : Oper} (hs : Sat n0 γ s a S) (ha : ∀ k ∈ o.looksAt ops, ∀ t, look Sc.tm k = some t → look S.tm k = some t) : OpsSat γ s a Sc o := fun x hx t ht => by
  have h1 := opT_agr ha hx ht
  cases x with
  | tmp k => exact hs.tm k t h1
  | const v =>
    unfold opT at h1
    simp only at h1
    split at h1
    · rename_i hv
      injection h1 with h1; subst h1
      exact repU_val hv
    · cases h1
  | func f =>
    unfold opT at h1
    simp only at h1
    injection h1 with h1; subst h1
    exact repU_val rfl
  | global g => cases h1
theorem okDst_spec {S : SS} {o : Oper} (h : okDst S o = true) : (∀ d, o.dst = some d → d < S.n) ∧ ∀ cs b, o.op ≠ .select cs b := by
  unfold okDst at h
  rw [Bool.and_eq_true] at h
  refine ⟨fun d hd => ?_, fun cs b e => ?_⟩
  · have h1 := h.1
    rw [hd] at h1
    exact Nat.le_of_ble_eq_true h1
  · have h2 := h.2
    rw [e] at h2
    cases h2
theorem Ok.put {S : SS} {γ : Nat → Nat} {s t : Kst} {a : Act} {d : Option Nat} {v : TV} {x : Value} (hs : Sat w0.heap.size γ s a S) (hB : Below w0.heap.size w0 s.w) (hL : Le s0 s) (hle : Le s t) (hb : Below s.w.heap.size s.w t.w) (hd : ∀ k, d = some k → k < S.n) (hv : v.Rep γ t x) :
    Ok w0 s0 (S.app d (.val v)) (a.put d x) t.w := by
  have hB' : Below w0.heap.size w0 t.w := hB.trans (hb.mono hB.size)
  cases d with
  | none => exact ⟨γ, t, rfl, ⟨hs.df, hs.sz, fun k u hu => (hs.tm k u hu).up hle, fun b ty l hl => (hs.bx b ty l hl).up hle hb, hs.inj⟩, hB', hL.trans hle⟩
  | some d => exact ⟨γ, t, rfl, hs.value hle hb (hd d rfl) hv, hB', hL.trans hle⟩
theorem item_wp {it : It} {S Sc : SS} {a : Act} {w : World} (h : ItOk P ops Sc it) (ha : Agr ops it Sc S) (hfr : ∀ nm ty l, it.ev = .box nm ty l → Fresh S nm ∧ l.all (SV.nm fun b => !Nat.beq b nm) = true) (hk : Ok w0 s0 S a w) :
    if Region.wanted it.o (yielded ops a.tmps) = true then it.o.wp P a w (Ok w0 s0 (S.app it.o.dst it.ev)) Q else Ok w0 s0 (S.app it.o.dst it.ev) (a.put it.o.dst undef) w := by
  obtain ⟨γ, s, rfl, hs, hB, hL⟩ := hk
  obtain ⟨hd, hsel⟩ := okDst_spec h.dst
  have hd' : ∀ k, it.o.dst = some k → k < S.n := fun k hk => by rw [ha.n]; exact hd k hk
  rw [wanted_sat hs h.gd ha.tm]
  cases hon : it.on with
  | false =>
    rw [if_neg (by simp)]
    rw [(h.off hon).1]
    exact Ok.put hs hB hL (Le.refl _) (Below.refl _ _) hd' ⟨[], rfl, rfl⟩
  | true =>
    rw [if_pos rfl]
    rcases h.act hon with ⟨_, v, u, hg, hu, ev⟩ | ⟨e, he, hm⟩
    · obtain ⟨x, t, hr, hle, hb, hv⟩ := hg γ s a (opsSat hs ha.tm)
      unfold Oper.wp
      rw [hr, Oper.upon_value, ev]
      exact Ok.put hs hB hL hle hb hd' (hu _ _ _ hv)
    have hbx : ∀ b, it.rb = some b → ∀ ty l, look Sc.bx b = some (ty, l) → BoxAt w0.heap.size γ s b ty l := fun b hb ty l hl => hs.bx b ty l (by rw [ha.bx b hb]; exact hl)
    have hok := evalOp_ok (n0 := w0.heap.size) hsel (opsSat hs ha.tm) hbx he
    unfold Oper.wp
    cases e with
    | pure v =>
      obtain ⟨x, hr, hv⟩ := hok
      obtain ⟨u, hu, ev⟩ := hm
      rw [hr, Oper.upon_value, ev]
      exact Ok.put hs hB hL (Le.refl _) (Below.refl _ _) hd' (hu _ _ _ hv)
    | alloc ty l =>
      obtain ⟨cs, hr, hl, hw⟩ := hok
      obtain ⟨hsome, nm, ev⟩ := hm
      obtain ⟨d, hdd⟩ := Option.isSome_iff_exists.1 hsome
      obtain ⟨hf, hn⟩ := hfr nm ty l ev
      rw [hr, Oper.upon_value, ev, hdd]
      exact ⟨_, s.new (.cells cs.toArray ty), rfl, hs.alloc hB.size (hd' d hdd) hl hw hf hn, hB.trans ((Below.refl _ _).alloc hB.size _), hL.trans (s.le_new _)⟩
    | store b ty l =>
      obtain ⟨cs, hr, hl, hw, hnone⟩ := hok
      obtain ⟨hrb, l0, hl0⟩ := evalOp_rb he rfl
      obtain ⟨h1, h2, h3⟩ := hs.store (by rw [ha.bx b hrb]; exact hl0) hl hw
      rw [hr, Oper.upon_skip, show it.ev = .sto b ty l from hm, hnone]
      exact ⟨γ, s.row (γ b) cs.toArray, rfl, h1, hB.trans h3, hL.trans h2⟩
    | call f args =>
      obtain ⟨vs, hr, hvs⟩ := hok
      obtain ⟨r, u, hsp, hu, ev⟩ := hm
      rw [hr, hsp.ent, Oper.upon_enter]
      refine (hsp.run γ s vs hvs).mono fun e' w'' hh => ?_
      obtain ⟨x, t, rfl, rfl, hle, hb, hx⟩ := hh
      show Ok w0 s0 (S.app it.o.dst it.ev) (a.put it.o.dst x) t.w
      rw [ev]
      exact Ok.put hs hB hL hle hb hd' (hu _ _ _ (hx γ))
end
end Go.Proofs.Ythhgjloephkpaaa.Lx
namespace Go.Proofs.Ythhgjloephkpaaa.Lx
set_option linter.unusedVariables false
set_option linter.unusedSimpArgs false
open Go Go.RowKit Go.Proofs.Ythhgjloephkpaaa Go.Proofs.YthhgjloephkpaaaW.PrintWords Go.Proofs.YthhgjloephkpaaaW.PrintLast

def Ev.nm (p : Nat → Bool) : Ev → Bool
  | .val v => v.nm p
  | .box nm ty l => l.all (SV.nm p)
  | .sto b ty l => l.all (SV.nm p)
def evNm (S : SS) : Ev → Bool
  | .val v => v.nm fun b => Nat.blt b S.nx
  | .box nm ty l => Nat.beq nm S.nx && okNm S l
  | .sto b ty l => okNm S l
def opHint (d : Nat) : Tr → Option (TV × Tr)
  | .op d' v k => match Nat.beq d d' with
    | true => some (v, k)
    | false => none
  | _ => none
def step1 (P : Program) (ops : Array Oper) (o : Oper) (T : Tr) (S : SS) (K : Tr → It → Prop) : Prop :=
  match wantedS ops S o, okDst S o with
  | some false, true => K T ⟨o, false, none, .val (.tup [])⟩
  | some true, true => match opHint (o.dst.getD 1000000) T with
    | some (v, k) => OpGives P S o v ∧ hint (o.dst.getD 1000000) k v fun T' v' => K T' ⟨o, true, none, .val v'⟩
    | none => match evalOp P S o with
    | some (rb, .pure v) => hint (o.dst.getD 1000000) T v fun T' v' => K T' ⟨o, true, rb, .val v'⟩
    | some (rb, .alloc ty l) => match o.dst with
      | some _ => K T ⟨o, true, rb, .box S.nx ty l⟩
      | none => False
    | some (rb, .store b ty l) => K T ⟨o, true, rb, .sto b ty l⟩
    | some (rb, .call f args) => match T with
      | .res d r k => match Nat.beq d (o.dst.getD 1000000) with
        | true => Spec P f args r ∧ hint d k r fun T' v' => K T' ⟨o, true, rb, .val v'⟩
        | false => False
      | _ => False
    | none => False
  | _, _ => False
def runR (P : Program) (ops : Array Oper) : List Oper → Tr → SS → List It → (Tr → SS → List It → Prop) → Prop
  | [], T, S, its, K => K T S its
  | o :: l, T, S, its, K => step1 P ops o T S fun T' it => match evNm S it.ev with
    | true => runR P ops l T' (S.app o.dst it.ev) (it :: its) K
    | false => False
def Chain (P : Program) (ops : Array Oper) : SS → List It → SS → Prop
  | S, [], S' => S = S'
  | S, it :: l, S' => ItOk P ops S it ∧ evNm S it.ev = true ∧ Chain P ops (S.app it.o.dst it.ev) l S'
section
variable {P : Program} {ops : Array Oper} {w0 : World} {s0 : Kst} {Q : Exit → Act → World → Prop}
theorem step1_sound {o : Oper} {T : Tr} {S : SS} {K : Tr → It → Prop} (h : step1 P ops o T S K) : ∃ T' it, it.o = o ∧ ItOk P ops S it ∧ K T' it := by
  unfold step1 at h
  split at h
  · rename_i hw hd
    exact ⟨T, _, rfl, ⟨hd, hw, fun _ => ⟨rfl, rfl⟩, fun h => by cases h⟩, h⟩
  · rename_i hw hd
    split at h
    · rename_i v k _
      obtain ⟨T', v', h1, h2⟩ := hint_sound h.2
      exact ⟨T', _, rfl, ⟨hd, hw, (fun h => Bool.noConfusion h), fun _ => .inl ⟨rfl, v, v', h.1, h1, rfl⟩⟩, h2⟩
    split at h
    · rename_i rb v he
      obtain ⟨T', v', h1, h2⟩ := hint_sound h
      exact ⟨T', _, rfl, ⟨hd, hw, (fun h => Bool.noConfusion h), fun _ => .inr ⟨.pure v, he, v', h1, rfl⟩⟩, h2⟩
    · rename_i rb ty l he
      split at h
      · rename_i d hdd
        exact ⟨T, _, rfl, ⟨hd, hw, (fun h => Bool.noConfusion h), fun _ => .inr ⟨.alloc ty l, he, by rw [hdd]; rfl, _, rfl⟩⟩, h⟩
      · cases h
    · rename_i rb b ty l he
      exact ⟨T, _, rfl, ⟨hd, hw, (fun h => Bool.noConfusion h), fun _ => .inr ⟨.store b ty l, he, rfl⟩⟩, h⟩
    · rename_i rb f args he
      split at h
      · rename_i d r k _
        split at h
        · obtain ⟨T', v', h1, h2⟩ := hint_sound h.2
          exact ⟨T', _, rfl, ⟨hd, hw, (fun h => Bool.noConfusion h), fun _ => .inr ⟨.call f args, he, r, v', h.1, h1, rfl⟩⟩, h2⟩
        · cases h
      · cases h
    · cases h
  · cases h
theorem runR_sound : ∀ {l : List Oper} {T : Tr} {S : SS} {its : List It} {K : Tr → SS → List It → Prop}, runR P ops l T S its K →
    ∃ T' S' js, js.map It.o = l ∧ Chain P ops S js S' ∧ K T' S' (js.reverse ++ its)
  | [], T, S, its, K, h => ⟨T, S, [], rfl, rfl, h⟩
  | o :: l, T, S, its, K, h => by
    obtain ⟨T1, it, e, h1, h2⟩ := step1_sound h
    split at h2
    · rename_i hn
      obtain ⟨T', S', js, e2, h3, h4⟩ := runR_sound h2
      refine ⟨T', S', it :: js, by rw [List.map_cons, e, e2], ⟨h1, hn, by rw [e]; exact h3⟩, ?_⟩
      rw [List.reverse_cons, List.append_assoc]
      exact h4
    · cases h2
theorem blt_lt {a b : Nat} (h : Nat.blt a b = true) : a < b := Nat.le_of_ble_eq_true h
theorem lt_blt {a b : Nat} (h : a < b) : Nat.blt a b = true := Nat.ble_eq_true_of_le h
theorem Wf.app {S : SS} {d : Option Nat} {e : Ev} (h : Wf S) (hn : evNm S e = true) (hb : ∀ b ty l, e = .sto b ty l → (look S.bx b).isSome = true) : Wf (S.app d e) := by
  cases e with
  | val v =>
    cases d with
    | none => exact h
    | some d =>
      refine ⟨h.nx, fun k u hu => ?_, h.nb⟩
      by_cases hk : d = k
      · rw [show look (S.app (some d) (.val v)).tm k = _ from look_here hk] at hu
        injection hu with hu; subst hu; exact hn
      · exact h.nt k u (by rw [← show look (S.app (some d) (.val v)).tm k = _ from look_off hk]; exact hu)
  | box nm ty l =>
    cases d with
    | none => exact h
    | some d =>
      rw [evNm, Bool.and_eq_true] at hn
      have e : nm = S.nx := Nat.eq_of_beq_eq_true hn.1
      subst e
      have up : ∀ b, Nat.blt b S.nx = true → Nat.blt b (S.nx + 1) = true := fun b hb => lt_blt (by have := blt_lt hb; omega)
      refine ⟨fun b hb => ?_, fun k u hu => ?_, fun b t l' hl' => ?_⟩
      · show b < S.nx + 1
        by_cases e : S.nx = b
        · omega
        · have := h.nx b (by rw [← show look (S.app (some d) (.box S.nx ty l)).bx b = _ from look_off e]; exact hb)
          omega
      · show u.nm (fun b => Nat.blt b (S.nx + 1)) = true
        by_cases hk : d = k
        · rw [show look (S.app (some d) (.box S.nx ty l)).tm k = _ from look_here hk] at hu
          injection hu with hu; subst hu
          show ([SV.ptr S.nx 0].all _) = true
          simp [SV.nm, Nat.blt]
        · exact TV.nm_le up (h.nt k u (by rw [← show look (S.app (some d) (.box S.nx ty l)).tm k = _ from look_off hk]; exact hu))
      · show l'.all (SV.nm fun b => Nat.blt b (S.nx + 1)) = true
        by_cases e : S.nx = b
        · rw [show look (S.app (some d) (.box S.nx ty l)).bx b = _ from look_here e] at hl'
          injection hl' with hl'; injection hl' with e1 e2; subst e1 e2
          exact SVs.nm_le up hn.2
        · exact SVs.nm_le up (h.nb b t l' (by rw [← show look (S.app (some d) (.box S.nx ty l)).bx b = _ from look_off e]; exact hl'))
  | sto b ty l =>
    have hlk : ∀ k, look (S.app d (.sto b ty l)).bx k = if b = k then some (ty, l) else look S.bx k := fun k => by
      by_cases e : b = k
      · rw [if_pos e]; exact look_here e
      · rw [if_neg e]; exact look_off e
    refine ⟨fun k hk => ?_, h.nt, fun k t l' hl' => ?_⟩
    · rw [hlk] at hk
      by_cases e : b = k
      · rw [← e]; exact h.nx b (hb b ty l rfl)
      · rw [if_neg e] at hk; exact h.nx k hk
    · rw [hlk] at hl'
      by_cases e : b = k
      · rw [if_pos e] at hl'
        injection hl' with hl'; injection hl' with e1 e2; subst e1 e2
        exact hn
      · rw [if_neg e] at hl'; exact h.nb k t l' hl'
theorem ItOk.sto {S : SS} {it : It} (h : ItOk P ops S it) : ∀ b ty l, it.ev = .sto b ty l → (look S.bx b).isSome = true ∧ it.rb = some b := fun b ty l e => by
  cases hon : it.on with
  | false => rw [(h.off hon).1] at e; cases e
  | true =>
    rcases h.act hon with ⟨_, v, u, _, _, e'⟩ | ⟨ef, he, hm⟩
    · rw [e'] at e; cases e
    cases ef with
    | pure v => obtain ⟨u, _, e'⟩ := hm; rw [e'] at e; cases e
    | alloc t l' => obtain ⟨_, nm, e'⟩ := hm; rw [e'] at e; cases e
    | store b' t l' =>
      rw [show it.ev = _ from hm] at e
      injection e with e1 e2 e3; subst e1 e2 e3
      obtain ⟨h1, l0, h2⟩ := evalOp_rb he rfl
      exact ⟨by rw [h2]; rfl, h1⟩
    | call f args => obtain ⟨r, u, _, _, e'⟩ := hm; rw [e'] at e; cases e
theorem Chain.wf : ∀ {js : List It} {S S' : SS}, Wf S → Chain P ops S js S' → Wf S'
  | [], S, S', h, c => by rw [← show S = S' from c]; exact h
  | it :: js, S, S', h, ⟨h1, h2, h3⟩ => Chain.wf (h.app h2 fun b ty l e => (h1.sto b ty l e).1) h3
theorem Wf.fresh {S : SS} (h : Wf S) : Fresh S S.nx := by
  have up : ∀ b, Nat.blt b S.nx = true → (!Nat.beq b S.nx) = true := fun b hb => by
    have := blt_lt hb
    cases e : Nat.beq b S.nx with
    | false => rfl
    | true => have := Nat.eq_of_beq_eq_true e; omega
  refine ⟨?_, fun k v hv => TV.nm_le up (h.nt k v hv), fun b ty l hl => SVs.nm_le up (h.nb b ty l hl)⟩
  cases e : look S.bx S.nx with
  | none => rfl
  | some x => have := h.nx S.nx (by rw [e]; rfl); omega
theorem box_fresh {S : SS} {it : It} (hw : Wf S) (hn : evNm S it.ev = true) : ∀ nm ty l, it.ev = .box nm ty l → Fresh S nm ∧ l.all (SV.nm fun b => !Nat.beq b nm) = true := fun nm ty l e => by
  rw [e, evNm, Bool.and_eq_true] at hn
  have e' : nm = S.nx := Nat.eq_of_beq_eq_true hn.1
  subst e'
  refine ⟨hw.fresh, SVs.nm_le (fun b hb => ?_) hn.2⟩
  have := blt_lt hb
  cases e : Nat.beq b S.nx with
  | false => rfl
  | true => have := Nat.eq_of_beq_eq_true e; omega
theorem chain_list : ∀ {js : List It} {S S' : SS} {a : Act} {w : World}, Chain P ops S js S' → Wf S → Ok w0 s0 S a w → (∀ a w, Ok w0 s0 S' a w → Q .normal a w) → wpList P ops Q (js.map It.o) a w
  | [], S, S', a, w, c, hw, hk, hq => hq a w (by rw [← show S = S' from c]; exact hk)
  | it :: js, S, S', a, w, ⟨h1, h2, h3⟩, hw, hk, hq => by
    have h := item_wp (Q := Q) h1 (Agr.refl ops it S) (box_fresh hw h2) hk
    have hw' := hw.app (d := it.o.dst) h2 fun b ty l e => (h1.sto b ty l e).1
    show wpList P ops Q (it.o :: js.map It.o) a w
    unfold wpList
    split at h
    · rename_i hwd
      rw [if_pos hwd]
      exact .inl (Oper.wp_mono (fun a w ha => chain_list h3 hw' ha hq) h)
    · rename_i hwd
      rw [if_neg hwd]
      exact chain_list h3 hw' h hq
end
end Go.Proofs.Ythhgjloephkpaaa.Lx
namespace Go.Proofs.Ythhgjloephkpaaa.Lx
set_option linter.unusedVariables false
set_option linter.unusedSimpArgs false
open Go Go.RowKit Go.Proofs.Ythhgjloephkpaaa Go.Proofs.YthhgjloephkpaaaW.PrintWords Go.Proofs.YthhgjloephkpaaaW.PrintLast

def tmv (it : It) (k : Nat) : Option TV := match it.o.dst, it.ev with
  | some d, .val v => if d = k then some v else none
  | some d, .box nm _ _ => if d = k then some (.u ⟨false, [.ptr nm 0]⟩) else none
  | _, _ => none
def bxv (it : It) (b : Nat) : Option (TypeId × List SV) := match it.o.dst, it.ev with
  | some _, .box nm ty l => if nm = b then some (ty, l) else none
  | _, .sto c ty l => if c = b then some (ty, l) else none
  | _, _ => none
def SS.at (S : SS) (it : It) : SS := S.app it.o.dst it.ev
theorem look_tm (S : SS) (it : It) (k : Nat) : look (S.at it).tm k = (tmv it k).or (look S.tm k) := by
  unfold SS.at tmv SS.app
  cases it.ev with
  | val v =>
    cases it.o.dst with
    | none => rfl
    | some d =>
      by_cases h : d = k
      · simp only [if_pos h, Option.some_or]; exact look_here h
      · simp only [if_neg h, Option.none_or]; exact look_off h
  | box nm ty l =>
    cases it.o.dst with
    | none => rfl
    | some d =>
      by_cases h : d = k
      · simp only [if_pos h, Option.some_or]; exact look_here h
      · simp only [if_neg h, Option.none_or]; exact look_off h
  | sto b ty l => cases it.o.dst <;> rfl
theorem look_bx (S : SS) (it : It) (b : Nat) : look (S.at it).bx b = (bxv it b).or (look S.bx b) := by
  unfold SS.at bxv SS.app
  cases it.ev with
  | val v => cases it.o.dst <;> rfl
  | box nm ty l =>
    cases it.o.dst with
    | none => rfl
    | some d =>
      by_cases h : nm = b
      · simp only [if_pos h, Option.some_or]; exact look_here h
      · simp only [if_neg h, Option.none_or]; exact look_off h
  | sto c ty l =>
    have : look (S.sto c ty l).bx b = (if c = b then some (ty, l) else none : Option (TypeId × List SV)).or (look S.bx b) := by
      by_cases h : c = b
      · simp only [if_pos h, Option.some_or]; exact look_here h
      · simp only [if_neg h, Option.none_or]; exact look_off h
    cases it.o.dst <;> exact this
theorem at_n (S : SS) (it : It) : (S.at it).n = S.n := by
  unfold SS.at SS.app
  cases it.ev <;> cases it.o.dst <;> rfl
/-- The state behind those of the items that L lists. -/
def part (L : Nat → Bool) : Nat → List It → SS → SS
  | _, [], S => S
  | i, it :: l, S => part L (i + 1) l (match L i with
    | true => S.at it
    | false => S)
theorem part_tm {L M : Nat → Bool} {k : Nat} : ∀ {js : List It} {i : Nat} {S S' : SS}, (∀ j it, js[j]? = some it → tmv it k ≠ none → L (i + j) = M (i + j)) → look S.tm k = look S'.tm k → look (part L i js S).tm k = look (part M i js S').tm k
  | [], i, S, S', h, e => e
  | it :: js, i, S, S', h, e => by
    unfold part
    refine part_tm (fun j x hx hk => ?_) ?_
    · have := h (j + 1) x (by simpa using hx) hk
      rw [show i + 1 + j = i + (j + 1) from by omega]; exact this
    · by_cases hk : tmv it k = none
      · have e1 : ∀ (b : Bool) (T : SS), look (match b with | true => T.at it | false => T).tm k = look T.tm k := fun b T => by
          cases b
          · rfl
          · show look (T.at it).tm k = _; rw [look_tm, hk]; rfl
        rw [e1, e1, e]
      · have h0 := h 0 it rfl hk
        rw [Nat.add_zero] at h0
        rw [h0]
        cases M i
        · exact e
        · show look (S.at it).tm k = look (S'.at it).tm k
          rw [look_tm, look_tm, e]
theorem part_bx {L M : Nat → Bool} {k : Nat} : ∀ {js : List It} {i : Nat} {S S' : SS}, (∀ j it, js[j]? = some it → bxv it k ≠ none → L (i + j) = M (i + j)) → look S.bx k = look S'.bx k → look (part L i js S).bx k = look (part M i js S').bx k
  | [], i, S, S', h, e => e
  | it :: js, i, S, S', h, e => by
    unfold part
    refine part_bx (fun j x hx hk => ?_) ?_
    · have := h (j + 1) x (by simpa using hx) hk
      rw [show i + 1 + j = i + (j + 1) from by omega]; exact this
    · by_cases hk : bxv it k = none
      · have e1 : ∀ (b : Bool) (T : SS), look (match b with | true => T.at it | false => T).bx k = look T.bx k := fun b T => by
          cases b
          · rfl
          · show look (T.at it).bx k = _; rw [look_bx, hk]; rfl
        rw [e1, e1, e]
      · have h0 := h 0 it rfl hk
        rw [Nat.add_zero] at h0
        rw [h0]
        cases M i
        · exact e
        · show look (S.at it).bx k = look (S'.at it).bx k
          rw [look_bx, look_bx, e]
theorem part_n {L : Nat → Bool} : ∀ {js : List It} {i : Nat} {S : SS}, (part L i js S).n = S.n
  | [], i, S => rfl
  | it :: js, i, S => by
    unfold part
    rw [part_n]
    cases L i
    · rfl
    · exact at_n S it
theorem part_none {L : Nat → Bool} : ∀ {js : List It} {i : Nat} {S : SS}, (∀ j, L (i + j) = false) → part L i js S = S
  | [], i, S, h => rfl
  | it :: js, i, S, h => by
    unfold part
    have h0 := h 0
    rw [Nat.add_zero] at h0
    rw [h0]
    exact part_none fun j => by rw [show i + 1 + j = i + (j + 1) from by omega]; exact h (j + 1)
/-- The item at i in L writes k, and none behind it in L does. -/
theorem part_tm_last {L : Nat → Bool} {k : Nat} {v : TV} : ∀ {js : List It} {i n : Nat} {S : SS} {it : It}, js[n]? = some it → L (i + n) = true → tmv it k = some v → (∀ j x, n < j → js[j]? = some x → tmv x k ≠ none → L (i + j) = false) →
    look (part L i js S).tm k = some v
  | [], i, n, S, it, h, _, _, _ => by simp at h
  | x :: js, i, 0, S, it, h, hl, hv, ho => by
    simp at h; subst h
    unfold part
    rw [Nat.add_zero] at hl
    rw [hl]
    have e : look (part L (i + 1) js (S.at x)).tm k = look (part (fun _ => false) (i + 1) js (S.at x)).tm k := part_tm (fun j y hy hk => by
      have := ho (j + 1) y (by omega) (by simpa using hy) hk
      rw [show i + 1 + j = i + (j + 1) from by omega]; exact this) rfl
    show look (part L (i + 1) js (S.at x)).tm k = _
    rw [e, part_none fun _ => rfl, look_tm, hv]; rfl
  | x :: js, i, n + 1, S, it, h, hl, hv, ho => by
    unfold part
    exact part_tm_last (it := it) (n := n) (by simpa using h) (by rw [show i + 1 + n = i + (n + 1) from by omega]; exact hl) hv fun j y hj hy hk => by
      have := ho (j + 1) y (by omega) (by simpa using hy) hk
      rw [show i + 1 + j = i + (j + 1) from by omega]; exact this
theorem part_bx_last {L : Nat → Bool} {k : Nat} {v : TypeId × List SV} : ∀ {js : List It} {i n : Nat} {S : SS} {it : It}, js[n]? = some it → L (i + n) = true → bxv it k = some v → (∀ j x, n < j → js[j]? = some x → bxv x k ≠ none → L (i + j) = false) →
    look (part L i js S).bx k = some v
  | [], i, n, S, it, h, _, _, _ => by simp at h
  | x :: js, i, 0, S, it, h, hl, hv, ho => by
    simp at h; subst h
    unfold part
    rw [Nat.add_zero] at hl
    rw [hl]
    have e : look (part L (i + 1) js (S.at x)).bx k = look (part (fun _ => false) (i + 1) js (S.at x)).bx k := part_bx (fun j y hy hk => by
      have := ho (j + 1) y (by omega) (by simpa using hy) hk
      rw [show i + 1 + j = i + (j + 1) from by omega]; exact this) rfl
    show look (part L (i + 1) js (S.at x)).bx k = _
    rw [e, part_none fun _ => rfl, look_bx, hv]; rfl
  | x :: js, i, n + 1, S, it, h, hl, hv, ho => by
    unfold part
    exact part_bx_last (it := it) (n := n) (by simpa using h) (by rw [show i + 1 + n = i + (n + 1) from by omega]; exact hl) hv fun j y hj hy hk => by
      have := ho (j + 1) y (by omega) (by simpa using hy) hk
      rw [show i + 1 + j = i + (j + 1) from by omega]; exact this
/-- Whatever a part holds, an item wrote, or it was there. -/
theorem part_src_tm {L : Nat → Bool} {k : Nat} {v : TV} : ∀ {js : List It} {i : Nat} {S : SS}, look (part L i js S).tm k = some v → look S.tm k = some v ∨ ∃ j it, js[j]? = some it ∧ L (i + j) = true ∧ tmv it k = some v
  | [], i, S, h => .inl h
  | it :: js, i, S, h => by
    unfold part at h
    rcases part_src_tm h with h1 | ⟨j, x, hx, hl, hv⟩
    · cases hi : L i with
      | false => rw [hi] at h1; exact .inl h1
      | true =>
        rw [hi] at h1
        have h1 : look (S.at it).tm k = some v := h1
        rw [look_tm] at h1
        cases ht : tmv it k with
        | none => rw [ht] at h1; exact .inl h1
        | some u => rw [ht] at h1; exact .inr ⟨0, it, rfl, by simpa using hi, by rw [ht]; simpa using h1⟩
    · exact .inr ⟨j + 1, x, by simpa using hx, by rw [show i + (j + 1) = i + 1 + j from by omega]; exact hl, hv⟩
theorem part_src_bx {L : Nat → Bool} {k : Nat} {v : TypeId × List SV} : ∀ {js : List It} {i : Nat} {S : SS}, look (part L i js S).bx k = some v → look S.bx k = some v ∨ ∃ j it, js[j]? = some it ∧ L (i + j) = true ∧ bxv it k = some v
  | [], i, S, h => .inl h
  | it :: js, i, S, h => by
    unfold part at h
    rcases part_src_bx h with h1 | ⟨j, x, hx, hl, hv⟩
    · cases hi : L i with
      | false => rw [hi] at h1; exact .inl h1
      | true =>
        rw [hi] at h1
        have h1 : look (S.at it).bx k = some v := h1
        rw [look_bx] at h1
        cases ht : bxv it k with
        | none => rw [ht] at h1; exact .inl h1
        | some u => rw [ht] at h1; exact .inr ⟨0, it, rfl, by simpa using hi, by rw [ht]; simpa using h1⟩
    · exact .inr ⟨j + 1, x, by simpa using hx, by rw [show i + (j + 1) = i + 1 + j from by omega]; exact hl, hv⟩
section
variable {P : Program} {ops : Array Oper} {w0 : World} {s0 : Kst} {Q : Exit → Act → World → Prop}
theorem Ok.congr {S S' : SS} {a : Act} {w : World} (h : Ok w0 s0 S a w) (ht : ∀ k, look S'.tm k = look S.tm k) (hb : ∀ b, look S'.bx b = look S.bx b) (hn : S'.n = S.n) : Ok w0 s0 S' a w := by
  obtain ⟨γ, s, e, hs, h1, h2⟩ := h
  exact ⟨γ, s, e, ⟨hs.df, by rw [hn]; exact hs.sz, fun k v hv => hs.tm k v (by rw [← ht]; exact hv), fun b ty l hl => hs.bx b ty l (by rw [← hb]; exact hl),
    fun b b' h h' => hs.inj b b' (by rw [← hb]; exact h) (by rw [← hb]; exact h')⟩, h1, h2⟩
theorem chain_at : ∀ {js : List It} {S S' : SS} {i off : Nat} {it : It}, Chain P ops S js S' → Wf S → js[i]? = some it →
    ∃ Si, ItOk P ops Si it ∧ evNm Si it.ev = true ∧ Wf Si ∧ Si = part (fun j => Nat.blt j (off + i)) off js S
  | [], S, S', i, off, it, c, hw, h => by simp at h
  | x :: js, S, S', 0, off, it, ⟨h1, h2, h3⟩, hw, h => by
    simp at h; subst h
    refine ⟨S, h1, h2, hw, (part_none fun j => ?_).symm⟩
    cases e : Nat.blt (off + j) (off + 0) with
    | false => rfl
    | true => have := blt_lt e; omega
  | x :: js, S, S', i + 1, off, it, ⟨h1, h2, h3⟩, hw, h => by
    obtain ⟨Si, k1, k2, k3, k4⟩ := chain_at (off := off + 1) h3 (hw.app h2 fun b ty l e => (h1.sto b ty l e).1) (by simpa using h)
    refine ⟨Si, k1, k2, k3, ?_⟩
    rw [k4]
    conv => rhs; unfold part
    rw [show Nat.blt off (off + (i + 1)) = true from lt_blt (by omega)]
    rw [show off + 1 + i = off + (i + 1) from by omega]
    rfl
theorem chain_end : ∀ {js : List It} {S S' : SS} {off : Nat}, Chain P ops S js S' → part (fun _ => true) off js S = S'
  | [], S, S', off, c => c
  | x :: js, S, S', off, ⟨h1, h2, h3⟩ => by
    unfold part
    exact chain_end h3
end
end Go.Proofs.Ythhgjloephkpaaa.Lx
