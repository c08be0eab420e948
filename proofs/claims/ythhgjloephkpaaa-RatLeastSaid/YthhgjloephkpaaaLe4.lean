/- Words and walks for the row RowRatLeast, put together: RH, RI, R2, R3, RP, RU. -/
import Derived.Test.YthhgjloephkpaaaLe3
import Derived.Handy
import Derived.Test.YthhgjloephkpaaaLe1
import Derived.Deep.RegionHeld3
import Derived.Laws.CopyRow
namespace Go.Proofs.Ythhgjloephkpaaa
set_option linter.unusedVariables false
set_option linter.unusedSimpArgs false
open Go Go.RowKit Go.Proofs.YthhgjloephkpaaaW.PrintWords Go.Proofs.YthhgjloephkpaaaW.PrintLast

theorem bits_or_u32_nat (a b : Nat) (ha : a < 4294967296) (hb : b < 4294967296) : bits .or .u32 (a : Int) (b : Int) = ((a ||| b : Nat) : Int) := by
  have hx : a ||| b < 2 ^ 32 := Nat.or_lt_two_pow (by omega) (by omega)
  have h1 : (BitVec.ofInt 32 (a : Int)).toNat = a := by
    rw [BitVec.ofInt_natCast, BitVec.toNat_ofNat]; exact Nat.mod_eq_of_lt (by omega)
  have h2 : (BitVec.ofInt 32 (b : Int)).toNat = b := by
    rw [BitVec.ofInt_natCast, BitVec.toNat_ofNat]; exact Nat.mod_eq_of_lt (by omega)
  show IntKind.u32.wrap ((BitVec.ofInt 32 (a : Int) ||| BitVec.ofInt 32 (b : Int)).toNat : Int) = _
  rw [BitVec.toNat_or, h1, h2, IntKind.wrap_u32]
  omega
theorem or_add {s o q : Nat} (h : o < 2 ^ s) : o ||| (2 ^ s * q) = o + 2 ^ s * q := by
  rw [Nat.or_comm, ← Nat.two_pow_add_eq_or_of_lt h, Nat.add_comm]
theorem BW_two (s : Nat) (hs : s < 32) : BW = 2 ^ s * 2 ^ (32 - s) := by
  rw [← Nat.pow_add, show s + (32 - s) = 32 by omega]; rfl
theorem shift_lo {a s o : Nat} (hs : s < 32) (ho : o < 2 ^ s) : o ||| (a * 2 ^ s % BW) = o + a * 2 ^ s % BW ∧ o + a * 2 ^ s % BW < BW := by
  have h1 : a * 2 ^ s % BW = 2 ^ s * (a % 2 ^ (32 - s)) := by
    rw [BW_two s hs, Nat.mul_comm a, Nat.mul_mod_mul_left]
  rw [h1]
  refine ⟨or_add ho, ?_⟩
  have h2 : a % 2 ^ (32 - s) + 1 ≤ 2 ^ (32 - s) := Nat.mod_lt _ (Nat.two_pow_pos _)
  have h3 := Nat.mul_le_mul_left (2 ^ s) h2
  rw [← BW_two s hs, Nat.mul_add] at h3
  omega
theorem shift_hi {a s : Nat} (ha : a < BW) : a * 2 ^ s / BW < 2 ^ s := by
  rw [Nat.div_lt_iff_lt_mul BW_pos, Nat.mul_comm]
  exact Nat.mul_lt_mul_of_pos_left ha (Nat.two_pow_pos s)
theorem two_lt {s : Nat} (hs : s < 32) : 2 ^ s < BW := by
  have : 2 ^ s < 2 ^ 32 := Nat.pow_lt_pow_right (by omega) hs
  exact this
theorem shift_step {ls : List Nat} {i a s : Nat} (hd : Dig ls) (hi : i + 1 < ls.length) (ha : a < BW) (hs : s < 32) (ho : ls.getD i 0 < 2 ^ s) (h0 : ls.getD (i + 1) 0 = 0) :
    Dig ((ls.set i (ls.getD i 0 ||| a * 2 ^ s % BW)).set (i + 1) (a * 2 ^ s / BW)) ∧ val ((ls.set i (ls.getD i 0 ||| a * 2 ^ s % BW)).set (i + 1) (a * 2 ^ s / BW)) = val ls + BW ^ i * (a * 2 ^ s) := by
  obtain ⟨h1, h2⟩ := shift_lo (a := a) hs ho
  have h3 := shift_hi (s := s) ha
  rw [h1]
  refine ⟨(hd.set i h2).set (i + 1) (Nat.lt_trans h3 (two_lt hs)), ?_⟩
  have h4 := val_set (l := ls) (p := i) (ls.getD i 0 + a * 2 ^ s % BW) (by omega)
  have h5 := val_set (l := ls.set i (ls.getD i 0 + a * 2 ^ s % BW)) (p := i + 1) (a * 2 ^ s / BW) (by rw [List.length_set]; exact hi)
  rw [getD_set, if_neg (by omega), h0] at h5
  rw [Nat.mul_add] at h4
  have h6 : BW ^ (i + 1) * (a * 2 ^ s / BW) + BW ^ i * (a * 2 ^ s % BW) = BW ^ i * (a * 2 ^ s) := by
    rw [Nat.pow_succ, Nat.mul_assoc, ← Nat.mul_add, Nat.div_add_mod]
  omega

set_option maxRecDepth 100000 in
set_option maxHeartbeats 2000000 in
theorem shifted_any (A : Option Addr) (n c s : Nat) (l : List Nat) (w : World) (hx : Wds w A n c l) (hd : Dig l) (hn : n ≤ 1000000000) (hs : s < 32) :
    Calls Try.prog 124 #[.slice A n c, .int .u64 s] w fun e w' => (∃ g ls, e = .returned (.slice (some ⟨g, 0, none⟩) (n + 1) (n + 1)) ∧ Buf w.heap.size w' g (n + 1) ls ∧ Dig ls ∧ val ls = val l * 2 ^ s) ∧ Below w.heap.size w w' := by
  have HX := Lib.hid hx
  have HD := Lib.hid hd
  clear hx hd
  obtain ⟨L, hL⟩ : ∃ L : Int, (n : Int) + 1 = L := ⟨_, rfl⟩
  obtain ⟨L, rfl⟩ := Int.eq_ofNat_of_zero_le (show 0 ≤ L by omega)
  have HL : Hid (n + 1 = L) := Lib.hid (by omega)
  have hmk := make36 L (by have := HL.out; omega)
  have HLm : Hid (L ≤ 2000000000) := Lib.hid (by have := HL.out; omega)
  have hLm : L ≤ 2000000000 := HLm.out
  rw [HL.out]
  go_enter Try.func124, Try.ntmps124
  go_wp2
  go_loopw [6] (fun v wr => ∃ (i : Nat) (ls : List Nat), i ≤ n ∧ v = .int .i64 i ∧ Hid (ls.length = L ∧ Dig ls ∧ val ls = val (l.take i) * 2 ^ s ∧ ls.getD i 0 < 2 ^ s ∧ ∀ j, i < j → ls.getD j 0 = 0) ∧ Hid (Below w.heap.size w wr) ∧ Hid (Buf w.heap.size wr w.heap.size L ls)) (fun v _ => n - (intOf v).toNat)
  case atStart => exact ⟨0, List.replicate L 0, Nat.zero_le _, rfl, Lib.hid ⟨by simp, repl_dig L, by rw [repl_val]; simp [val], by rw [repl_at]; exact Nat.two_pow_pos s, fun j _ => repl_at L j⟩, Lib.hid ((Below.refl _ _).alloc (Nat.le_refl _) _), Lib.hid (buf_new w _ L (Nat.le_refl _) (by have := HLm.out; omega))⟩
  case round =>
    obtain ⟨i, ls, hi, rfl, hI, hB, hO⟩ := hrel
    by_cases h1 : i < n
    · have hlt1 : decide ((i : Int) < (n : Int)) = true := by simp; omega
      obtain ⟨ad, rfl, hc⟩ := (HX.out.below hB.out).at_ i h1
      have hiL : i < L := by have := HL.out; omega
      have hiL2 : (i : Int) < (L : Int) := by omega
      obtain ⟨ho, hfr⟩ := hO.out.get i hiL
      have ha : l.getD i 0 < 4294967296 := HD.out.at_ i
      have hiL1 : i + 1 < L := by have := HL.out; omega
      have hiL3 : (i : Int) + 1 < (L : Int) := by omega
      have HST := Lib.hid (shift_step (ls := ls) (i := i) (a := l.getD i 0) (s := s) hI.out.2.1 (by rw [hI.out.1]; exact hiL1) ha hs hI.out.2.2.2.1 (hI.out.2.2.2.2 _ (Nat.lt_succ_self i)))
      have HLO := Lib.hid (shift_lo (a := l.getD i 0) hs hI.out.2.2.2.1)
      have HHI := Lib.hid (shift_hi (a := l.getD i 0) (s := s) ha)
      have HTK := Lib.hid (val_take_step l i)
      have HOX : Hid (ls.getD i 0 < 4294967296) := Lib.hid (hI.out.2.1.at_ i)
      have HZ : Hid (∀ v u, ((ls.set i v).set (i + 1) u).getD (i + 1) 0 = u ∧ ∀ j, i + 1 < j → ((ls.set i v).set (i + 1) u).getD j 0 = 0) := Lib.hid (fun v u => ⟨by
        rw [getD_set, if_pos ⟨rfl, by rw [List.length_set, hI.out.1]; exact hiL1⟩], fun j hj => by
        rw [getD_set, if_neg (by omega), getD_set, if_neg (by omega)]; exact hI.out.2.2.2.2 j (by omega)⟩)
      have HLs : Hid (∀ v u, ((ls.set i v).set (i + 1) u).length = L) := Lib.hid (fun v u => by rw [List.length_set, List.length_set]; exact hI.out.1)
      generalize l.getD i 0 = a at *
      generalize ls.getD i 0 = o at *
      have hwa : IntKind.u64.wrap (a : Int) = (a : Int) := wrap64 (by omega)
      obtain ⟨X, hX⟩ : ∃ X, a * 2 ^ s = X := ⟨_, rfl⟩
      rw [hX] at HST HLO HHI
      have HX64 : Hid (X < 18446744073709551616) := Lib.hid (by
        have h1 := HHI.out
        have h2 := two_lt hs
        have h3 : X / BW < BW := Nat.lt_trans h1 h2
        rw [BW_eq] at h3
        omega)
      have hwx : IntKind.u64.wrap ((a : Int) * 2 ^ s) = (X : Int) := by
        rw [show ((a : Int) * 2 ^ s) = ((a * 2 ^ s : Nat) : Int) by push_cast; rfl, hX]; exact wrap64 HX64.out
      have HXX := Lib.hid hX
      clear hX
      have hlo : (X : Int) % 4294967296 = ((X % BW : Nat) : Int) := rfl
      have hdv : (X : Int) / 4294967296 = ((X / BW : Nat) : Int) := rfl
      have hdm : ((X / BW : Nat) : Int) % 4294967296 = ((X / BW : Nat) : Int) := by
        have := HX64.out; rw [BW_eq]; omega
      have hor : bits BinOp.or IntKind.u32 (o : Int) ((X % BW : Nat) : Int) = ((o ||| X % BW : Nat) : Int) := bits_or_u32_nat _ _ HOX.out (Nat.mod_lt _ BW_pos)
      generalize hlo2 : X % BW = lo at *
      generalize hhi2 : X / BW = hi' at *
      have HOL : Hid (o ||| lo < BW) := Lib.hid (by rw [HLO.out.1]; exact HLO.out.2)
      clear hlo2 hhi2
      generalize o ||| lo = v at *
      have HO1 := Lib.hid (hO.out.put i v)
      have HB1 := Lib.hid (hO.out.put_below hB.out hB.out.size i v)
      obtain ⟨ho1, hfr1⟩ := HO1.out.get (i + 1) hiL1
      have HO2 := Lib.hid (HO1.out.put (i + 1) hi')
      have HB2 := Lib.hid (HO1.out.put_below HB1.out HB1.out.size (i + 1) hi')
      go_wp2
      go_roundw
      case rel => exact ⟨i + 1, _, by omega, by go_num, Lib.hid ⟨HLs.out _ _, HST.out.1, by rw [HST.out.2, hI.out.2.2.1, HTK.out, Nat.add_mul, ← HXX.out, Nat.mul_assoc], by rw [(HZ.out _ _).1]; exact HHI.out, (HZ.out _ _).2⟩, HB2, HO2⟩
      case measure => simp [intOf]; omega
    · obtain rfl : i = n := by omega
      have hlt1 : decide ((i : Int) < (i : Int)) = false := by simp
      have HV : Hid (val ls = val l * 2 ^ s) := Lib.hid (by rw [hI.out.2.2.1, val_take_le (by rw [HX.out.len]; exact Nat.le_refl _)])
      go_wp2
      go_ret
      exact ⟨⟨_, ls, rfl, hO.out, hI.out.2.1, HV.out⟩, hB.out⟩
end Go.Proofs.Ythhgjloephkpaaa
namespace Go.Proofs.Ythhgjloephkpaaa
set_option linter.unusedVariables false
set_option linter.unusedSimpArgs false
open Go Go.RowKit Go.Proofs.YthhgjloephkpaaaW.PrintWords Go.Proofs.YthhgjloephkpaaaW.PrintLast

/-- A value that is the reference's integer z. -/
def Wh (w : World) (v : Value) (z : Int) : Prop := ∃ A n c, v = .agg #[.slice A n c, .bool (decide (z < 0))] ∧ Wds w A n c (dg z.natAbs)
theorem Wh.below {w w1 : World} {v : Value} {z : Int} (h : Wh w v z) (hb : Below w.heap.size w w1) : Wh w1 v z := by
  obtain ⟨A, n, c, e, h2⟩ := h
  exact ⟨A, n, c, e, h2.below hb⟩
theorem dg_two (u : Nat) (h : u < 18446744073709551616) : val [u % BW, u / BW] = u ∧ Dig [u % BW, u / BW] := by
  refine ⟨?_, Dig.cons (Nat.mod_lt _ BW_pos) (Dig.cons (by rw [BW_eq]; omega) Dig.nil)⟩
  rw [val_cons, val_cons, val_nil]
  have := Nat.mod_add_div u BW
  omega
theorem lit_wds (W : World) (xs : List Nat) (hm : xs.length ≤ 9223372036854775807) : Wds (W.alloc (.cells (nums .u32 (us xs)).toArray 100)) (some ⟨W.heap.size, 0, none⟩) xs.length xs.length xs := by
  have h := own_lit W W.heap.size 100 .u32 (us xs) (Nat.le_refl _) (by rw [us_len]; exact hm)
  rw [us_len] at h
  obtain ⟨A, n, c, e, h2⟩ := own_wds h
  injection e with e1 e2 e3
  subst e1 e2 e3
  exact h2

theorem box_keep (w : World) (o1 o2 o3 : Obj) : KeepBut ((w.alloc o1).alloc o3) ((w.alloc o2).alloc o3) w.heap.size none := by
  refine ⟨by simp, fun i hi hne _ => ?_⟩
  simp only [World.alloc, Array.getElem?_push, Array.size_push]
  by_cases h1 : i = w.heap.size + 1
  · rw [if_pos h1, if_pos h1]
  · rw [if_neg h1, if_neg h1, if_neg hne, if_neg hne]
theorem Wds.keep {w W : World} {A : Option Addr} {n c g : Nat} {l : List Nat} (h : Wds w A n c l) (hk : KeepBut w W g none) (hf : ∀ ad, A = some ad → 0 < n → ad.block ≠ g) : Wds W A n c l := ⟨h.1.keep hk hf, h.2⟩

set_option maxRecDepth 100000 in
set_option maxHeartbeats 2000000 in
theorem ofInt_any (z : Int) (h1 : -9223372036854775808 ≤ z) (h2 : z < 9223372036854775808) (w : World) :
    Calls Try.prog 66 #[.int .i64 z] w fun e w' => (∃ v, e = .returned v ∧ Wh w' v z) ∧ Below w.heap.size w w' := by
  by_cases hz : z < 0
  · have hlt : decide (z < 0) = true := by simpa using hz
    have hw : IntKind.u64.wrap z = z + 18446744073709551616 := by rw [wrap64i]; omega
    have hw2 : IntKind.u64.wrap (-(z + 18446744073709551616)) = ((z.natAbs : Nat) : Int) := by rw [wrap64i]; omega
    have hq1 : ((z.natAbs : Nat) : Int) % 4294967296 = ((z.natAbs % BW : Nat) : Int) := rfl
    have hq2 : ((z.natAbs : Nat) : Int) / 4294967296 = ((z.natAbs / BW : Nat) : Int) := rfl
    have hq3 : ((z.natAbs / BW : Nat) : Int) % 4294967296 = ((z.natAbs / BW : Nat) : Int) := by rw [BW_eq]; omega
    have HT := Lib.hid (dg_two z.natAbs (by omega))
    have HZ0 : Hid (decide (z < 0) = true) := Lib.hid hlt
    generalize z.natAbs % BW = lo at *
    generalize z.natAbs / BW = hi at *
    have HW : Hid (Wds ((w.alloc (.cells #[.slice none 0 0, .bool false] 38)).alloc (.cells #[.int .u32 (lo : Int), .int .u32 (hi : Int)] 100)) (some ⟨w.heap.size + 1, 0, none⟩) 2 2 [lo, hi]) := Lib.hid (by
      have h := lit_wds (w.alloc (.cells #[.slice none 0 0, .bool false] 38)) [lo, hi] (by simp)
      simpa [us, nums] using h)
    have HB : Hid (Below w.heap.size w ((w.alloc (.cells #[.slice none 0 0, .bool false] 38)).alloc (.cells #[.int .u32 (lo : Int), .int .u32 (hi : Int)] 100))) := Lib.hid (((Below.refl _ _).alloc (Nat.le_refl _) _).alloc (by simp) _)
    go_enter Try.func66, Try.ntmps66
    go_wp2_with (go_at_call 107; refine (trim_any _ _ _ _ HT.out.2 _ HW.out).mono ?_; rintro e w' ⟨⟨r, rfl, h4⟩, rfl⟩; rw [HT.out.1] at h4; have HR := Lib.hid h4; clear h4)
    go_returns
    exact ⟨⟨_, rfl, _, _, _, by rw [HZ0.out], HR.out.keep (box_keep _ _ _ _) (fun ad h _ => by injection h with h; subst h; simp)⟩, ((Below.refl _ _).alloc (Nat.le_refl _) _).alloc (by simp) _⟩
  · have hlt : decide (z < 0) = false := by simpa using hz
    have hw : IntKind.u64.wrap z = ((z.natAbs : Nat) : Int) := by rw [wrap64i]; omega
    have hq1 : ((z.natAbs : Nat) : Int) % 4294967296 = ((z.natAbs % BW : Nat) : Int) := rfl
    have hq2 : ((z.natAbs : Nat) : Int) / 4294967296 = ((z.natAbs / BW : Nat) : Int) := rfl
    have hq3 : ((z.natAbs / BW : Nat) : Int) % 4294967296 = ((z.natAbs / BW : Nat) : Int) := by rw [BW_eq]; omega
    have HT := Lib.hid (dg_two z.natAbs (by omega))
    have HZ0 : Hid (decide (z < 0) = false) := Lib.hid hlt
    generalize z.natAbs % BW = lo at *
    generalize z.natAbs / BW = hi at *
    have HW : Hid (Wds ((w.alloc (.cells #[.slice none 0 0, .bool false] 38)).alloc (.cells #[.int .u32 (lo : Int), .int .u32 (hi : Int)] 100)) (some ⟨w.heap.size + 1, 0, none⟩) 2 2 [lo, hi]) := Lib.hid (by
      have h := lit_wds (w.alloc (.cells #[.slice none 0 0, .bool false] 38)) [lo, hi] (by simp)
      simpa [us, nums] using h)
    have HB : Hid (Below w.heap.size w ((w.alloc (.cells #[.slice none 0 0, .bool false] 38)).alloc (.cells #[.int .u32 (lo : Int), .int .u32 (hi : Int)] 100))) := Lib.hid (((Below.refl _ _).alloc (Nat.le_refl _) _).alloc (by simp) _)
    go_enter Try.func66, Try.ntmps66
    go_wp2_with (go_at_call 107; refine (trim_any _ _ _ _ HT.out.2 _ HW.out).mono ?_; rintro e w' ⟨⟨r, rfl, h4⟩, rfl⟩; rw [HT.out.1] at h4; have HR := Lib.hid h4; clear h4)
    go_returns
    exact ⟨⟨_, rfl, _, _, _, by rw [HZ0.out], HR.out.keep (box_keep _ _ _ _) (fun ad h _ => by injection h with h; subst h; simp)⟩, ((Below.refl _ _).alloc (Nat.le_refl _) _).alloc (by simp) _⟩
end Go.Proofs.Ythhgjloephkpaaa
namespace Go.Proofs.Ythhgjloephkpaaa
set_option linter.unusedVariables false
set_option linter.unusedSimpArgs false
theorem drop_cons {l : List Nat} {k : Nat} (h : k < l.length) : l.drop k = l.getD k 0 :: l.drop (k + 1) := by
  rw [List.drop_eq_getElem_cons h, List.getD_eq_getElem?_getD, List.getElem?_eq_getElem h]; rfl
theorem drop_set_self {l : List Nat} {i v : Nat} (h : i < l.length) : (l.set i v).drop i = v :: l.drop (i + 1) := by
  rw [drop_cons (by simpa using h), List.drop_set_of_lt (by omega)]
  simp [List.getD_eq_getElem?_getD, h]
/-- One word of a division by one word. -/
theorem div1_step {A ls : List Nat} {i b rest : Nat} (hi : i < A.length) (hl : ls.length = A.length) (hb : 0 < b) (hbB : b < BW) (hr : rest < b) (hd : Dig ls) (hA : Dig A)
    (hv : val (A.drop (i + 1)) = val (ls.drop (i + 1)) * b + rest) :
    (rest * BW + A.getD i 0) / b < BW ∧ (rest * BW + A.getD i 0) % b < b ∧ rest * BW + A.getD i 0 < 18446744073709551616 ∧
      Dig (ls.set i ((rest * BW + A.getD i 0) / b)) ∧ (ls.set i ((rest * BW + A.getD i 0) / b)).length = A.length ∧
      val (A.drop i) = val ((ls.set i ((rest * BW + A.getD i 0) / b)).drop i) * b + (rest * BW + A.getD i 0) % b := by
  have ha := hA.at_ i
  have h1 : rest * BW + A.getD i 0 < b * BW := by
    have : (rest + 1) * BW ≤ b * BW := Nat.mul_le_mul_right _ hr
    rw [Nat.add_mul] at this
    omega
  have h2 : (rest * BW + A.getD i 0) / b < BW := (Nat.div_lt_iff_lt_mul hb).2 (by rw [Nat.mul_comm BW]; exact h1)
  refine ⟨h2, Nat.mod_lt _ hb, ?_, hd.set i h2, by simpa using hl, ?_⟩
  · rw [BW_eq] at *; omega
  · rw [drop_cons hi, val_cons, hv, drop_set_self (by omega), val_cons]
    have h3 := Nat.div_add_mod (rest * BW + A.getD i 0) b
    generalize (rest * BW + A.getD i 0) / b = q at *
    generalize (rest * BW + A.getD i 0) % b = m at *
    grind
theorem val_two {l : List Nat} {k : Nat} (hl : l.length = k) (hk : 2 ≤ k) : val l = val (l.take (k - 2)) + BW ^ (k - 2) * (l.getD (k - 1) 0 * BW + l.getD (k - 2) 0) := by
  obtain ⟨n, rfl⟩ : ∃ n, k = n + 2 := ⟨k - 2, by omega⟩
  have h1 := val_take_step l (n + 1)
  have h2 := val_take_step l n
  rw [val_take_le (by omega)] at h1
  rw [show n + 2 - 1 = n + 1 by omega, show n + 2 - 2 = n by omega, h1, h2, Nat.pow_succ]
  grind
theorem val_three {l : List Nat} {k : Nat} (hl : l.length = k + 1) (hk : 2 ≤ k) : val l = val (l.take (k - 2)) + BW ^ (k - 2) * ((l.getD k 0 * BW + l.getD (k - 1) 0) * BW + l.getD (k - 2) 0) := by
  obtain ⟨n, rfl⟩ : ∃ n, k = n + 2 := ⟨k - 2, by omega⟩
  have h0 := val_take_step l (n + 2)
  have h1 := val_take_step l (n + 1)
  have h2 := val_take_step l n
  rw [val_take_le (by omega)] at h0
  rw [show n + 2 - 1 = n + 1 by omega, show n + 2 - 2 = n by omega, h0, h1, h2, Nat.pow_succ, Nat.pow_succ]
  grind

/-- The highest words of a window tell the guess. -/
theorem guess_of {wl yl : List Nat} {k : Nat} (hw : wl.length = k + 1) (hy : yl.length = k) (hk : 2 ≤ k) (hd : Dig wl) (hyd : Dig yl) (hv : 0 < yl.getD (k - 1) 0) (hlt : val wl < BW * val yl) :
    Guess (val wl) (val yl) (wl.getD k 0 * BW + wl.getD (k - 1) 0) (yl.getD (k - 1) 0) (yl.getD (k - 2) 0) (wl.getD (k - 2) 0) (BW ^ (k - 2)) := by
  have h1 := val_three hw hk
  have h2 := val_two hy hk
  have l1 := val_lt (hd.take (k - 2))
  have l2 := val_lt (hyd.take (k - 2))
  rw [List.length_take, hw, Nat.min_eq_left (by omega)] at l1
  rw [List.length_take, hy, Nat.min_eq_left (by omega)] at l2
  have hp : 0 < BW ^ (k - 2) := Nat.pow_pos BW_pos
  refine ⟨hp, ?_, ?_, ?_, ?_, hv, hyd.at_ _, hd.at_ _, hlt⟩
  · rw [h1, Nat.mul_comm]; omega
  · rw [h1, Nat.add_mul _ 1, Nat.mul_comm _ (BW ^ (k - 2))]; omega
  · rw [h2, Nat.mul_comm]; omega
  · rw [h2, Nat.add_mul _ 1, Nat.mul_comm _ (BW ^ (k - 2))]; omega
theorem val_drop_le {l : List Nat} {k : Nat} (hk : k ≤ l.length) : BW ^ k * val (l.drop k) ≤ val l := by
  have h : val l = val (l.take k) + BW ^ k * val (l.drop k) := by
    conv => lhs; rw [← List.take_append_drop k l, val_append]
    rw [List.length_take, Nat.min_eq_left hk]
  omega
theorem val_drop_split {l : List Nat} {k : Nat} (hk : k ≤ l.length) : val l = val (l.take k) + BW ^ k * val (l.drop k) := by
  conv => lhs; rw [← List.take_append_drop k l, val_append]
  rw [List.length_take, Nat.min_eq_left hk]
/-- A list of words by a window of k + 1 words at j. -/
theorem window {ls : List Nat} {j k : Nat} (h : j + k + 1 ≤ ls.length) : ls = ls.take j ++ (ls.drop j).take (k + 1) ++ ls.drop (j + k + 1) := by
  rw [List.append_assoc]
  conv => lhs; rw [← List.take_append_drop j ls]
  congr 1
  conv => lhs; rw [← List.take_append_drop (k + 1) (ls.drop j)]
  rw [List.drop_drop, Nat.add_assoc]
/-- What holds of the words behind the window, before each word of the quotient. -/
structure Long (X Y k t M : Nat) (ls outs : List Nat) : Prop where
  len : ls.length = M + k
  olen : outs.length = M
  dig : Dig ls
  odig : Dig outs
  tM : t ≤ M
  eq : X = val ls + Y * (BW ^ t * val (outs.drop t))
  lt : val (ls.drop t) < Y
theorem Long.post {X Y k j M : Nat} {ls outs : List Nat} (h : Long X Y k (j + 1) M ls outs) (hY : Y < BW ^ k) : val (ls.drop (j + 1 + k)) = 0 := by
  have h1 := val_drop_le (l := ls.drop (j + 1)) (k := k) (by rw [List.length_drop, h.len]; have := h.tM; omega)
  rw [List.drop_drop] at h1
  have h2 := h.lt
  by_cases h0 : val (ls.drop (j + 1 + k)) = 0
  · exact h0
  · have : BW ^ k * 1 ≤ BW ^ k * val (ls.drop (j + 1 + k)) := Nat.mul_le_mul_left _ (by omega)
    omega
theorem Long.win_lt {X Y k j M : Nat} {ls outs : List Nat} (h : Long X Y k (j + 1) M ls outs) (hY : Y < BW ^ k) : val ((ls.drop j).take (k + 1)) < BW * Y := by
  have hj : j < ls.length := by rw [h.len]; have := h.tM; omega
  rw [drop_cons hj, List.take_succ_cons, val_cons]
  have h1 := val_drop_split (l := ls.drop (j + 1)) (k := k) (by rw [List.length_drop, h.len]; have := h.tM; omega)
  have h2 := h.lt
  have h3 := h.dig.at_ j
  have h4 : BW * (val ((ls.drop (j + 1)).take k) + 1) ≤ BW * Y := Nat.mul_le_mul_left _ (by omega)
  rw [Nat.mul_add] at h4
  omega
theorem Long.step {X Y k j M : Nat} {ls outs rl : List Nat} {q : Nat} (h : Long X Y k (j + 1) M ls outs) (hY : Y < BW ^ k) (hq : q = val ((ls.drop j).take (k + 1)) / Y) (hr : val rl = val ((ls.drop j).take (k + 1)) % Y) (hrl : rl.length = k + 1) (hrd : Dig rl) :
    Long X Y k j M (ls.take j ++ rl ++ ls.drop (j + k + 1)) (outs.set j q) := by
  have hY0 : 0 < Y := by have := h.lt; omega
  have hp := h.post hY
  have hM := h.tM
  have hl := h.len
  have hj : j + k + 1 ≤ ls.length := by omega
  have hwl := h.win_lt hY
  have hqB : q < BW := by rw [hq, Nat.div_lt_iff_lt_mul hY0]; exact hwl
  have hpost : val (ls.drop (j + k + 1)) = 0 := by rw [show j + k + 1 = j + 1 + k by omega]; exact hp
  have htl : (ls.take j).length = j := by rw [List.length_take]; omega
  have hmd := Nat.div_add_mod (val ((ls.drop j).take (k + 1))) Y
  have hml := Nat.mod_lt (val ((ls.drop j).take (k + 1))) hY0
  rw [← hq, ← hr] at hmd
  rw [← hr] at hml
  refine ⟨?_, by simpa using h.olen, ?_, h.odig.set j hqB, by omega, ?_, ?_⟩
  · rw [List.length_append, List.length_append, htl, hrl, List.length_drop]; omega
  · exact ((h.dig.take j).append hrd).append (h.dig.drop _)
  · have e1 : val ls = val (ls.take j) + BW ^ j * val ((ls.drop j).take (k + 1)) := by
      conv => lhs; rw [window hj]
      rw [val_append, val_append, hpost, htl]; simp
    rw [h.eq, e1, val_append, val_append, hpost, htl, drop_set_self (by rw [h.olen]; omega), val_cons, ← hmd, Nat.pow_succ]
    grind
  · rw [List.append_assoc, List.drop_append_of_le_length (by omega), List.drop_of_length_le (by omega), List.nil_append, val_append, hpost]
    simpa using hml
theorem Long.done {X Y k M : Nat} {ls outs : List Nat} (h : Long X Y k 0 M ls outs) : val outs = X / Y ∧ val ls = X % Y := by
  have h1 := h.eq
  have h2 := h.lt
  simp at h1 h2
  constructor
  · rw [h1, Nat.add_mul_div_left _ _ (by omega), Nat.div_eq_of_lt h2, Nat.zero_add]
  · rw [h1, Nat.add_mul_mod_self_left, Nat.mod_eq_of_lt h2]
theorem Long.start {A X Y B k s M n : Nat} {ls : List Nat} (hl : ls.length = M + k) (hd : Dig ls) (hv : val ls = X) (hX : X = A * 2 ^ s) (hA : A < BW ^ n) (hn : n + 1 = M + k) (hs : s < 32) (hk : 1 ≤ k) (hM : 1 ≤ M)
    (hY : BW ^ (k - 1) * 2 ^ 31 ≤ Y) : Long X Y k M M ls (List.replicate M 0) := by
  have h0 : ∀ x, x ∈ List.replicate M 0 → x < BW := fun x hx => by rw [List.eq_of_mem_replicate hx]; exact BW_pos
  refine ⟨hl, by simp, hd, h0, Nat.le_refl _, ?_, ?_⟩
  · rw [List.drop_of_length_le (by simp), val_nil]; simp [hv]
  · have h1 := val_drop_le (l := ls) (k := M) (by omega)
    have h2 : 2 ^ s ≤ 2 ^ 31 := Nat.pow_le_pow_right (by omega) (by omega)
    have h3 : A * 2 ^ s < BW ^ n * 2 ^ 31 := Nat.lt_of_lt_of_le (Nat.mul_lt_mul_of_pos_right hA (Nat.two_pow_pos s)) (Nat.mul_le_mul_left _ h2)
    have h4 : BW ^ n * 2 ^ 31 = BW ^ M * (BW ^ (k - 1) * 2 ^ 31) := by rw [← Nat.mul_assoc, ← Nat.pow_add]; congr 2; omega
    have h5 : BW ^ M * val (ls.drop M) < BW ^ M * Y := by
      refine Nat.lt_of_le_of_lt h1 ?_
      rw [hv, hX]
      exact Nat.lt_of_lt_of_le (h4 ▸ h3) (Nat.mul_le_mul_left _ hY)
    exact Nat.lt_of_mul_lt_mul_left h5
end Go.Proofs.Ythhgjloephkpaaa
namespace Go.Proofs.Ythhgjloephkpaaa
set_option linter.unusedVariables false
set_option linter.unusedSimpArgs false
theorem BW_split {s : Nat} (hs : s ≤ 32) : BW = 2 ^ s * 2 ^ (32 - s) := by
  rw [← Nat.pow_add, show s + (32 - s) = 32 by omega]; rfl
theorem or_sum {s o q : Nat} (h : o < 2 ^ s) : o ||| (2 ^ s * q) = o + 2 ^ s * q := by
  rw [Nat.or_comm, ← Nat.two_pow_add_eq_or_of_lt h, Nat.add_comm]
/-- A word to the left by s: what stays and what goes over. -/
theorem shl_parts {a s : Nat} (hs : s ≤ 32) (ha : a < BW) : a * 2 ^ s % BW = 2 ^ s * (a % 2 ^ (32 - s)) ∧ a * 2 ^ s / BW = a / 2 ^ (32 - s) ∧ a * 2 ^ s / BW < 2 ^ s ∧ a * 2 ^ s % BW + 2 ^ s ≤ BW := by
  have h0 : 0 < 2 ^ s := Nat.two_pow_pos s
  have e1 : a * 2 ^ s % BW = 2 ^ s * (a % 2 ^ (32 - s)) := by rw [BW_split hs, Nat.mul_comm a, Nat.mul_mod_mul_left]
  have e2 : a * 2 ^ s / BW = a / 2 ^ (32 - s) := by rw [BW_split hs, Nat.mul_comm a, Nat.mul_div_mul_left _ _ h0]
  refine ⟨e1, e2, ?_, ?_⟩
  · rw [Nat.div_lt_iff_lt_mul BW_pos, Nat.mul_comm]
    exact Nat.mul_lt_mul_of_pos_left ha h0
  · rw [e1]
    have h2 : a % 2 ^ (32 - s) + 1 ≤ 2 ^ (32 - s) := Nat.mod_lt _ (Nat.two_pow_pos _)
    have h3 := Nat.mul_le_mul_left (2 ^ s) h2
    rw [← BW_split hs, Nat.mul_add] at h3
    omega
/-- One word of a shift to the left: B the words, c the carry out of the word before. -/
theorem shl_step {B ls : List Nat} {i s c : Nat} (hs : s ≤ 31) (hB : Dig B) (hd : Dig ls) (hi : i < ls.length) (hc : c < 2 ^ s)
    (hv : val (ls.take i) + BW ^ i * c = val (B.take i) * 2 ^ s) :
    ((B.getD i 0 * 2 ^ s % BW) ||| c) = B.getD i 0 * 2 ^ s % BW + c ∧ B.getD i 0 * 2 ^ s % BW + c < BW ∧ Dig (ls.set i (B.getD i 0 * 2 ^ s % BW + c)) ∧ B.getD i 0 * 2 ^ s / BW < 2 ^ s ∧
      val ((ls.set i (B.getD i 0 * 2 ^ s % BW + c)).take (i + 1)) + BW ^ (i + 1) * (B.getD i 0 * 2 ^ s / BW) = val (B.take (i + 1)) * 2 ^ s := by
  obtain ⟨e1, e2, h3, h4⟩ := shl_parts (a := B.getD i 0) (by omega : s ≤ 32) (hB.at_ i)
  have h5 : B.getD i 0 * 2 ^ s % BW + c < BW := by omega
  refine ⟨by rw [e1, Nat.or_comm, or_sum hc]; omega, h5, hd.set i h5, h3, ?_⟩
  rw [val_take_step, val_take_step, List.take_set_of_le (Nat.le_refl i)]
  have e3 : (ls.set i (B.getD i 0 * 2 ^ s % BW + c)).getD i 0 = B.getD i 0 * 2 ^ s % BW + c := by
    simp [List.getD_eq_getElem?_getD, hi]
  rw [e3, Nat.add_mul, ← hv, Nat.pow_succ]
  have h6 := Nat.div_add_mod (B.getD i 0 * 2 ^ s) BW
  generalize B.getD i 0 * 2 ^ s / BW = q at *
  generalize B.getD i 0 * 2 ^ s % BW = r at *
  grind
theorem shl_set {ls : List Nat} {i v : Nat} (hi : i < ls.length) : (ls.set i v).getD i 0 = v := by
  simp [List.getD_eq_getElem?_getD, hi]
/-- A word to the right by s, with the low bits of the next one. -/
theorem shr_word {x y s : Nat} (hs : s ≤ 31) (hx : x < BW) : x / 2 ^ s < BW ∧ (x / 2 ^ s ||| (y * 2 ^ (32 - s) % BW)) = x / 2 ^ s + y * 2 ^ (32 - s) % BW ∧ x / 2 ^ s + y * 2 ^ (32 - s) % BW < BW := by
  have e : BW = 2 ^ (32 - s) * 2 ^ s := by rw [BW_split (by omega : s ≤ 32), Nat.mul_comm]
  have e1 : y * 2 ^ (32 - s) % BW = 2 ^ (32 - s) * (y % 2 ^ s) := by rw [e, Nat.mul_comm y, Nat.mul_mod_mul_left]
  have h1 : x / 2 ^ s < 2 ^ (32 - s) := by rw [Nat.div_lt_iff_lt_mul (Nat.two_pow_pos s), ← e]; exact hx
  refine ⟨Nat.lt_of_le_of_lt (Nat.div_le_self _ _) hx, by rw [e1, or_sum h1], ?_⟩
  rw [e1]
  have h2 : y % 2 ^ s + 1 ≤ 2 ^ s := Nat.mod_lt _ (Nat.two_pow_pos _)
  have h3 := Nat.mul_le_mul_left (2 ^ (32 - s)) h2
  rw [← e, Nat.mul_add] at h3
  omega
theorem shr_step {U ls : List Nat} {i s : Nat} (hs : s ≤ 31) (hU : Dig U) (hd : Dig ls) (hi : i < ls.length) (hv : val (U.take (i + 1)) / 2 ^ s = val (ls.take i) + BW ^ i * (U.getD i 0 / 2 ^ s)) :
    Dig (ls.set i (U.getD i 0 / 2 ^ s + U.getD (i + 1) 0 * 2 ^ (32 - s) % BW)) ∧
      val (U.take (i + 2)) / 2 ^ s = val ((ls.set i (U.getD i 0 / 2 ^ s + U.getD (i + 1) 0 * 2 ^ (32 - s) % BW)).take (i + 1)) + BW ^ (i + 1) * (U.getD (i + 1) 0 / 2 ^ s) := by
  obtain ⟨_, _, h1⟩ := shr_word (y := U.getD (i + 1) 0) hs (hU.at_ i)
  refine ⟨hd.set i h1, ?_⟩
  rw [val_take_step U (i + 1), val_take_step (ls.set i _), List.take_set_of_le (Nat.le_refl i), shl_set hi]
  have e : BW = 2 ^ (32 - s) * 2 ^ s := by rw [BW_split (by omega : s ≤ 32), Nat.mul_comm]
  have e1 : BW ^ (i + 1) * U.getD (i + 1) 0 = 2 ^ s * (BW ^ i * (2 ^ (32 - s) * U.getD (i + 1) 0)) := by
    rw [Nat.pow_succ]; conv => lhs; rw [e]
    conv => rhs; rw [e]
    grind
  rw [e1, Nat.add_mul_div_left _ _ (Nat.two_pow_pos s), hv]
  obtain ⟨e2, e3, _⟩ := shl_parts (a := U.getD (i + 1) 0) (by omega : 32 - s ≤ 32) (hU.at_ _)
  rw [show 32 - (32 - s) = s by omega] at e2 e3
  have h6 := Nat.div_add_mod (U.getD (i + 1) 0 * 2 ^ (32 - s)) BW
  rw [e3] at h6
  rw [Nat.pow_succ]
  generalize U.getD (i + 1) 0 * 2 ^ (32 - s) % BW = r at *
  generalize U.getD (i + 1) 0 / 2 ^ s = q at *
  generalize U.getD i 0 / 2 ^ s = q0 at *
  grind
theorem shr_start (U : List Nat) (s : Nat) : val (U.take 1) / 2 ^ s = val (([] : List Nat).take 0) + BW ^ 0 * (U.getD 0 0 / 2 ^ s) := by
  rw [val_take_step]; simp [val]
theorem shr_end {U ls : List Nat} {n s : Nat} (hl : ls.length = n) (hz : U.getD n 0 = 0) (hz2 : val (U.drop (n + 1)) = 0) (hv : val (U.take (n + 1)) / 2 ^ s = val (ls.take n) + BW ^ n * (U.getD n 0 / 2 ^ s)) : val ls = val U / 2 ^ s := by
  have e0 : U.getD n 0 / 2 ^ s = 0 := by rw [hz]; exact Nat.zero_div _
  have e1 : val (ls.take n) = val ls := by rw [List.take_of_length_le (Nat.le_of_eq hl)]
  have e2 : val (U.take (n + 1)) = val U := by
    by_cases h : n + 1 ≤ U.length
    · have h3 := val_drop_split h
      rw [hz2] at h3
      omega
    · rw [List.take_of_length_le (by omega)]
  rw [e0, e1, e2] at hv
  omega
end Go.Proofs.Ythhgjloephkpaaa
namespace Go.Proofs.Ythhgjloephkpaaa
set_option linter.unusedVariables false
set_option linter.unusedSimpArgs false
theorem over_num {n d : Int} (hd : 0 < d) : (Rat.divInt n d).num = n / (Int.gcd n d : Int) := by
  rw [Rat.num_divInt, Int.sign_eq_one_of_pos hd, Int.one_mul, Int.gcd_comm]
theorem over_den {n d : Int} (hd : 0 < d) : ((Rat.divInt n d).den : Int) = d / (Int.gcd n d : Int) := by
  rw [Rat.den_divInt, if_neg (by omega), Int.gcd_comm]
  rw [Int.natCast_ediv, Int.natAbs_of_nonneg (by omega)]
theorem over_neg (n d : Int) : Rat.divInt (-n) (-d) = Rat.divInt n d := Rat.neg_divInt_neg n d
theorem gcd_pos {n d : Int} (hd : 0 < d) : 0 < Int.gcd n d := Int.gcd_pos_of_ne_zero_right n (by omega)
theorem over_num_one {n d : Int} (hd : 0 < d) (hg : Int.gcd n d = 1) : (Rat.divInt n d).num = n := by rw [over_num hd, hg]; simp
theorem over_den_one {n d : Int} (hd : 0 < d) (hg : Int.gcd n d = 1) : ((Rat.divInt n d).den : Int) = d := by rw [over_den hd, hg]; simp
theorem tdiv_gcd_num {n d : Int} (hd : 0 < d) : n.tdiv (Int.gcd n d : Int) = (Rat.divInt n d).num := by
  rw [over_num hd, Int.tdiv_eq_ediv_of_dvd (Int.gcd_dvd_left ..)]
theorem tdiv_gcd_den {n d : Int} (hd : 0 < d) : d.tdiv (Int.gcd n d : Int) = (Rat.divInt n d).den := by
  rw [over_den hd, Int.tdiv_eq_ediv_of_dvd (Int.gcd_dvd_right ..)]
theorem den_pos (q : Rat) : (0 : Int) < q.den := by have := q.den_pos; omega
theorem add_over (x y : Rat) : Rat.divInt (x.num * y.den + y.num * x.den) (x.den * y.den) = x + y := by
  rw [Rat.add_def', ← Int.natCast_mul, Rat.divInt_ofNat]
theorem mul_over (x y : Rat) : Rat.divInt (x.num * y.num) (x.den * y.den) = x * y := by
  rw [Rat.mul_def', ← Int.natCast_mul, Rat.divInt_ofNat]
theorem div_over (x y : Rat) : Rat.divInt (x.num * y.den) (x.den * y.num) = x / y := by
  rw [Rat.div_def, Rat.inv_def]
  conv => rhs; rw [← Rat.num_divInt_den x]
  rw [Rat.divInt_mul_divInt]
theorem int_add {x y : Rat} (hx : x.den = 1) (hy : y.den = 1) : (x + y).num = x.num + y.num ∧ (x + y).den = 1 := by
  rw [← add_over, hx, hy]
  simp only [Int.natCast_one, Int.mul_one]
  rw [← Int.natCast_one, Rat.divInt_ofNat, Rat.num_mkRat, Rat.den_mkRat]
  simp
def cmpZ (x y : Int) : Int := if x < y then -1 else if x = y then 0 else 1
def cmpR (x y : Rat) : Int := if x < y then -1 else if x = y then 0 else 1
theorem cmp_over (x y : Rat) : cmpZ (x.num * y.den) (y.num * x.den) = cmpR x y := by
  unfold cmpZ cmpR
  simp only [Rat.lt_iff, Rat.eq_iff_mul_eq_mul]
theorem floor_over (x : Rat) : x.num / (x.den : Int) = x.floor := (Rat.floor_def x).symm
end Go.Proofs.Ythhgjloephkpaaa
namespace Go.Proofs.Ythhgjloephkpaaa
set_option linter.unusedVariables false
set_option linter.unusedSimpArgs false
open Go Go.RowKit Go.Proofs.YthhgjloephkpaaaW.PrintWords Go.Proofs.YthhgjloephkpaaaW.PrintLast

/-- A value that is no word. -/
def noW : Value → Bool
  | .int .u32 _ => false
  | _ => true
/-- Blocks that hold a word stay as they are. -/
def U (w w' : World) : Prop := ∀ (k : Nat) (cs : Array Value) (t : TypeId) (fr : Nat × Nat), w.heap[k]? = some (.cells cs t fr) → cs.toList.all noW = false → w'.heap[k]? = some (.cells cs t fr)
theorem U.refl (w : World) : U w w := fun _ _ _ _ h _ => h
theorem U.trans {a b c : World} (h : U a b) (k : U b c) : U a c := fun i cs t fr e n => k i cs t fr (h i cs t fr e n) n
theorem U.of_below {w w' : World} (h : Below w.heap.size w w') : U w w' := fun k cs t fr e _ => by
  have hk : k < w.heap.size := by
    rcases Nat.lt_or_ge k w.heap.size with h1 | h1
    · exact h1
    · rw [Array.getElem?_eq_none h1] at e; cases e
  rw [h.block k hk]; exact e
theorem Wds.u {w w' : World} {A : Option Addr} {n c : Nat} {l : List Nat} (h : Wds w A n c l) (hu : U w w') : Wds w' A n c l := by
  refine ⟨⟨h.1.1, h.1.2.1, fun h0 => ?_⟩, h.2⟩
  obtain ⟨ad, rfl, hc⟩ := h.1.2.2 h0
  refine ⟨ad, rfl, fun j hj => ?_⟩
  have h1 := hc j hj
  rw [← h1]
  unfold World.cell? at h1 ⊢
  cases hb : w.heap[(ad.add j).block]? with
  | none => rw [hb] at h1; cases h1
  | some o =>
    cases o with
    | cells cs t fr =>
      rw [hb] at h1
      have hn : cs.toList.all noW = false := by
        simp only at h1
        split at h1
        · cases h1
        · rw [List.all_eq_false]
          refine ⟨_, List.mem_of_getElem? (by rw [Array.getElem?_toList]; exact h1), by simp [noW]⟩
      rw [hu _ _ _ _ hb hn]
    | _ => rw [hb] at h1; cases h1
theorem cell_u {w w' : World} {p : Addr} {x : Int} (h : w.cell? p = some (.int .u32 x)) (hu : U w w') : w'.cell? p = some (.int .u32 x) := by
  have h1 := h
  rw [← h]
  unfold World.cell? at h1 ⊢
  cases hb : w.heap[p.block]? with
  | none => rw [hb] at h1; cases h1
  | some o =>
    cases o with
    | cells cs t fr =>
      rw [hb] at h1
      have hn : cs.toList.all noW = false := by
        simp only at h1
        split at h1
        · cases h1
        · rw [List.all_eq_false]
          refine ⟨_, List.mem_of_getElem? (by rw [Array.getElem?_toList]; exact h1), by simp [noW]⟩
      rw [hu _ _ _ _ hb hn]
    | _ => rw [hb] at h1; cases h1
theorem Wh.u {w w' : World} {v : Value} {z : Int} (h : Wh w v z) (hu : U w w') : Wh w' v z := by
  obtain ⟨A, n, c, e, h2⟩ := h
  exact ⟨A, n, c, e, h2.u hu⟩

/-- A box: its block, its cells, its type. -/
structure Bx where
  g : Nat
  cs : Array Value
  t : TypeId
/-- The world w behind w0: what lay there stays; the boxes stand. -/
structure St (w0 w : World) (L : List Bx) : Prop where
  bl : Below w0.heap.size w0 w
  ge : ∀ e ∈ L, w0.heap.size ≤ e.g
  at_ : ∀ e ∈ L, w.heap[e.g]? = some (.cells e.cs e.t (0, 0))
  nd : (L.map Bx.g).Nodup
theorem St.start (w : World) : St w w [] := ⟨Below.refl _ _, fun _ h => (by cases h), fun _ h => (by cases h), List.nodup_nil⟩
theorem St.lt {w0 w : World} {L : List Bx} (h : St w0 w L) (e : Bx) (he : e ∈ L) : e.g < w.heap.size := by
  have := h.at_ e he
  rcases Nat.lt_or_ge e.g w.heap.size with h1 | h1
  · exact h1
  · rw [Array.getElem?_eq_none h1] at this; cases this
theorem St.off {w0 w : World} {L : List Bx} (h : St w0 w L) (k : Nat) : St w0 w (L.drop k) :=
  ⟨h.bl, fun e he => h.ge e (List.mem_of_mem_drop he), fun e he => h.at_ e (List.mem_of_mem_drop he), by rw [List.map_drop]; exact h.nd.sublist (List.drop_sublist _ _)⟩
theorem St.below {w0 w w' : World} {L : List Bx} (h : St w0 w L) (hb : Below w.heap.size w w') : St w0 w' L :=
  ⟨h.bl.trans (hb.mono h.bl.size), h.ge, fun e he => by rw [hb.block _ (h.lt e he)]; exact h.at_ e he, h.nd⟩
theorem St.drew {w0 w : World} {L : List Bx} (h : St w0 w L) : St w0 w.drew L := ⟨h.bl.drew, h.ge, h.at_, h.nd⟩
theorem U.drew (w : World) : U w w.drew := fun _ _ _ _ h _ => h
theorem St.box {w0 w : World} {L : List Bx} (h : St w0 w L) (cs : Array Value) (t : TypeId) : St w0 (w.alloc (.cells cs t)) (⟨w.heap.size, cs, t⟩ :: L) := by
  refine ⟨h.bl.alloc h.bl.size _, ?_, ?_, ?_⟩
  · intro e he
    rcases List.mem_cons.1 he with e1 | e1
    · subst e1; exact h.bl.size
    · exact h.ge e e1
  · intro e he
    rcases List.mem_cons.1 he with e1 | e1
    · subst e1; exact Array.getElem?_push_size
    · rw [Below.heap_alloc _ _ _ (h.lt e e1)]; exact h.at_ e e1
  · rw [List.map_cons, List.nodup_cons]
    refine ⟨fun hm => ?_, h.nd⟩
    obtain ⟨e, he, hg⟩ := List.mem_map.1 hm
    have := h.lt e he
    have h2 : e.g = w.heap.size := hg
    omega
theorem U.box (w : World) (o : Obj) : U w (w.alloc o) := U.of_below ((Below.refl _ _).alloc (Nat.le_refl _) o)
theorem St.put {w0 w : World} {L : List Bx} (h : St w0 w L) (i : Nat) (e : Bx) (hi : L[i]? = some e) (cs : Array Value) : St w0 (w.setRow e.g cs) (L.set i ⟨e.g, cs, e.t⟩) := by
  have hmem : e ∈ L := List.mem_of_getElem? hi
  have hil : i < L.length := by
    rcases Nat.lt_or_ge i L.length with h1 | h1
    · exact h1
    · rw [List.getElem?_eq_none h1] at hi; cases hi
  have hother : ∀ k, k ≠ e.g → (w.setRow e.g cs).heap[k]? = w.heap[k]? := fun k hk => by
    unfold World.setRow
    simp only [Array.getElem?_modify]
    rw [if_neg (fun e1 => hk e1.symm)]
  have hself : (w.setRow e.g cs).heap[e.g]? = some (.cells cs e.t (0, 0)) := setRow_heap w e.g e.cs cs e.t (0, 0) (h.at_ e hmem)
  have hmap : (L.set i ⟨e.g, cs, e.t⟩).map Bx.g = L.map Bx.g := by
    rw [List.map_set]
    apply List.ext_getElem?
    intro k
    rw [List.getElem?_set]
    split
    · rename_i hk; subst hk; simp [hil, hi]
      have := hi
      rw [List.getElem?_eq_getElem hil] at this
      injection this with this
      rw [this]
    · rfl
  refine ⟨⟨h.bl.os, h.bl.tape, h.bl.output, ?_, ?_⟩, ?_, ?_, ?_⟩
  · have : (w.setRow e.g cs).heap.size = w.heap.size := by simp [World.setRow]
    rw [this]; exact h.bl.size
  · intro k hk
    rw [hother k (by have := h.ge e hmem; omega)]
    exact h.bl.block k hk
  · intro x hx
    rcases List.mem_or_eq_of_mem_set hx with h1 | h1
    · exact h.ge x h1
    · subst h1; exact h.ge e hmem
  · intro x hx
    obtain ⟨k, hk⟩ := List.mem_iff_getElem?.1 hx
    rw [List.getElem?_set] at hk
    by_cases hik : i = k
    · rw [if_pos hik, if_pos (by omega)] at hk
      injection hk with hk
      subst hk
      exact hself
    · rw [if_neg hik] at hk
      have hx2 : x ∈ L := List.mem_of_getElem? hk
      have hne : x.g ≠ e.g := fun he => by
        have h1 : (L.map Bx.g)[k]? = some x.g := by rw [List.getElem?_map, hk]; rfl
        have h2 : (L.map Bx.g)[i]? = some e.g := by rw [List.getElem?_map, hi]; rfl
        have hkl : k < L.length := by
          rcases Nat.lt_or_ge k L.length with h1 | h1
          · exact h1
          · rw [List.getElem?_eq_none h1] at hk; cases hk
        have := (List.getElem?_inj (by simpa using hil) h.nd).1 (h2.trans (by rw [h1, he]))
        exact hik this
      rw [hother _ hne]
      exact h.at_ x hx2
  · rw [hmap]; exact h.nd
theorem U.put {w0 w : World} {L : List Bx} (h : St w0 w L) (i : Nat) (e : Bx) (hi : L[i]? = some e) (hno : e.cs.toList.all noW = true) (cs : Array Value) : U w (w.setRow e.g cs) := fun k cs' t fr hk hn => by
  have hmem : e ∈ L := List.mem_of_getElem? hi
  have hne : k ≠ e.g := fun he => by
    subst he
    rw [h.at_ e hmem] at hk
    injection hk with hk
    injection hk with hk
    subst hk
    rw [hno] at hn
    cases hn
  unfold World.setRow
  simp only [Array.getElem?_modify]
  rw [if_neg (fun e1 => hne e1.symm)]
  exact hk

section
variable {P : Program} {ops : Array Oper} {Q : Exit → Act → World → Prop} {md : Region.Mode} {S : World → Prop} {f : Nat → Bool}

/-- Whatever order is picked from here on; S holds behind every operation that is not of the tail f. -/
def wpAnyT (P : Program) (md : Region.Mode) (ops : Array Oper) (Q : Exit → Act → World → Prop) (S : World → Prop) (f : Nat → Bool) : Nat → Array Bool → Act → World → Prop
  | 0, listed, a, w => Region.ready md ops listed = [] ∧ Q .normal a w
  | fuel + 1, listed, a, w =>
    (Region.ready md ops listed = [] → Q .normal a w) ∧
    ∀ i ∈ Region.ready md ops listed, wpOp P ops Q i (fun a' w' => (f i = false → S w') ∧ wpAnyT P md ops Q S f fuel (listed.setIfInBounds i true) a' w') a w

theorem wpAny_of_tailT : ∀ (fuel : Nat) (listed : Array Bool) (a : Act) (w : World), wpAnyT P md ops Q S f fuel listed a w → wpAny P md ops Q fuel listed a w
  | 0, _, _, _, h => h
  | fuel + 1, _, _, _, h => ⟨h.1, fun i hi => wpOp_mono (fun a' w' h' => wpAny_of_tailT fuel _ a' w' h'.2) (h.2 i hi)⟩

/-- Whatever is listed, what it waits for is listed. -/
def ShutT (md : Region.Mode) (ops : Array Oper) (listed : Array Bool) : Prop := ∀ k ok, ops[k]? = some ok → listed.getD k false = true → ∀ e ∈ ok.after, Region.binds md e = true → listed.getD e.on false = true
def shutT (md : Region.Mode) (ops : Array Oper) (listed : Array Bool) : Bool := (List.range ops.size).all fun k => !listed.getD k false || match ops[k]? with
  | none => true
  | some o => o.after.toList.all fun e => !Region.binds md e || listed.getD e.on false
theorem shutT_spec {listed : Array Bool} (h : shutT md ops listed = true) : ShutT md ops listed := fun k ok hk hl e he hb => by
  unfold shutT at h
  rw [List.all_eq_true] at h
  have hks : k < ops.size := by
    rcases Nat.lt_or_ge k ops.size with h1 | h1
    · exact h1
    · rw [Array.getElem?_eq_none h1] at hk; cases hk
  have h2 := h k (List.mem_range.2 hks)
  rw [hl, hk] at h2
  simp only [Bool.not_true, Bool.false_or, List.all_eq_true] at h2
  have h3 := h2 e (by simpa using he)
  rw [hb] at h3
  simpa using h3
theorem ShutT.step {listed : Array Bool} {j : Nat} (h : ShutT md ops listed) (hj : j ∈ Region.ready md ops listed) : ShutT md ops (listed.setIfInBounds j true) := fun k ok hk hl e he hb => by
  by_cases hjk : j = k
  · subst hjk
    obtain ⟨_, o, ho, hall⟩ := mem_ready.1 hj
    rw [hk] at ho
    injection ho with ho
    subst ho
    exact getD_set_true (hall e he hb)
  · rw [getD_set_ne false hjk] at hl
    exact getD_set_true (h k ok hk hl e he hb)
/-- j waits for i, straight or by way of others. -/
def needsT (md : Region.Mode) (ops : Array Oper) (i : Nat) : Nat → Nat → Bool
  | 0, _ => false
  | n + 1, j => match ops[j]? with
    | none => false
    | some o => o.after.toList.any fun e => Region.binds md e && (e.on == i || needsT md ops i n e.on)
theorem needsT_listed {i : Nat} {listed : Array Bool} (h : ShutT md ops listed) : ∀ (n j : Nat) (o : Oper), ops[j]? = some o → (∀ e ∈ o.after, Region.binds md e = true → listed.getD e.on false = true) → needsT md ops i n j = true → listed.getD i false = true
  | 0, _, _, _, _, hn => by cases hn
  | n + 1, j, o, ho, hall, hn => by
    unfold needsT at hn
    rw [ho] at hn
    simp only [List.any_eq_true, Bool.and_eq_true, Bool.or_eq_true, beq_iff_eq] at hn
    obtain ⟨e, he, hb, h1⟩ := hn
    have he' : e ∈ o.after := by simpa using he
    have hl := hall e he' hb
    rcases h1 with h1 | h1
    · rw [← h1]; exact hl
    · cases hk : ops[e.on]? with
      | none =>
        cases n with
        | zero => cases h1
        | succ n => unfold needsT at h1; rw [hk] at h1; cases h1
      | some ok => exact needsT_listed h n e.on ok hk (fun e2 he2 hb2 => h e.on ok hk hl e2 he2 hb2) h1
theorem wpAnyT_first {i : Nat} {oi : Oper} {v : Value} (hi : ops[i]? = some oi) (hsel : ∀ (j : Nat) (o : Oper) cs b, ops[j]? = some o → o.op ≠ .select cs b)
    (hQ : ∀ c a w, Q (.panic c) (a.put oi.dst v) w → Q (.panic c) a w) (hif : f i = false) (hwait : ∀ j of, f j = true → ops[j]? = some of → needsT md ops i ops.size j = true) :
    ∀ (fuel : Nat) (listed : Array Bool) (a : Act) (w : World), ShutT md ops listed →
      (∀ j oj, ops[j]? = some oj → j ≠ i → listed.getD j true = false → (∀ e ∈ oj.after, Region.binds md e = true → e.on ≠ i) → oi.apart ops oj = true) →
      i ∈ Region.ready md ops listed → YieldsIf P ops S oi v a → S w →
      wpAnyT P md ops Q S f fuel (listed.setIfInBounds i true) (a.put oi.dst v) w → wpAnyT P md ops Q S f (fuel + 1) listed a w := by
  intro fuel
  induction fuel with
  | zero =>
    intro listed a w _ _ hr hy hS H
    refine ⟨fun h => (by rw [h] at hr; cases hr), fun j hj => ?_⟩
    by_cases hji : j = i
    · subst hji; exact hy.wpOp hi hS ⟨fun _ => hS, H⟩
    · have := ready_mono hj hji
      rw [H.1] at this
      cases this
  | succ fuel ih =>
    intro listed a w hsh hfree hr hy hS H
    refine ⟨fun h => (by rw [h] at hr; cases hr), fun j hj => ?_⟩
    by_cases hji : j = i
    · subst hji; exact hy.wpOp hi hS ⟨fun _ => hS, H⟩
    · have h1 := H.2 j (ready_mono hj hji)
      obtain ⟨hjun, oj, hoj, hall⟩ := mem_ready.1 hj
      have hi0 : ¬ listed.getD i false = true := fun h1 => by
        have h0 := (mem_ready.1 hr).1
        rcases Nat.lt_or_ge i listed.size with h' | h'
        · simp [h'] at h0 h1; rw [h0] at h1; cases h1
        · simp [Array.getElem?_eq_none h'] at h1
      have hnot : ∀ e ∈ oj.after, Region.binds md e = true → e.on ≠ i := fun e he hb heq => hi0 (heq ▸ hall e he hb)
      have hjf : f j = false := by
        cases hfj : f j with
        | false => rfl
        | true => exact absurd (needsT_listed hsh _ j oj hoj hall (hwait j oj hfj hoj)) hi0
      have h2 := wpOp_putIf hoj (hfree j oj hoj hji hjun hnot) (fun cs b => hsel i oi cs b hi) (fun cs b => hsel j oj cs b hoj) hQ hy h1
      have hfree' : ∀ k ok, ops[k]? = some ok → k ≠ i → (listed.setIfInBounds j true).getD k true = false →
          (∀ e ∈ ok.after, Region.binds md e = true → e.on ≠ i) → oi.apart ops ok = true := fun k ok hk hki hun hno => by
        refine hfree k ok hk hki ?_ hno
        by_cases hjk : j = k
        · subst hjk; exact hjun
        · rw [Go.getD_set_ne true hjk] at hun; exact hun
      refine wpOp_mono (fun a' w' h3 => ⟨h3.2.1, ih (listed.setIfInBounds j true) a' w' (hsh.step hj) hfree' (ready_mono hr (Ne.symm hji)) h3.1 (h3.2.1 hjf) ?_⟩) h2
      rw [Array.setIfInBounds_comm _ _ hji]
      exact h3.2.2

/-- The tail waits for number i. -/
def waitsT (md : Region.Mode) (ops : Array Oper) (f : Nat → Bool) (i : Nat) : Bool :=
  !f i && (List.range ops.size).all fun j => !f j || needsT md ops i ops.size j
theorem waitsT_spec {i : Nat} (h : waitsT md ops f i = true) : f i = false ∧ ∀ j of, f j = true → ops[j]? = some of → needsT md ops i ops.size j = true := by
  unfold waitsT at h
  simp only [Bool.and_eq_true, Bool.not_eq_true', List.all_eq_true, List.mem_range] at h
  refine ⟨h.1, fun j of hfj hof => ?_⟩
  have hj : j < ops.size := by
    rcases Nat.lt_or_ge j ops.size with h1 | h1
    · exact h1
    · rw [Array.getElem?_eq_none h1] at hof; cases hof
  have h2 := h.2 j hj
  rw [hfj] at h2
  simpa using h2
theorem anyT_take {i : Nat} {oi : Oper} (v : Value) {fuel : Nat} {listed : Array Bool} {a : Act} {w : World} (hi : ops.toList[i]? = some oi)
    (hs : Region.noSelect ops = true) (hf : Region.free md ops listed i = true) (hr : (Region.ready md ops listed).contains i = true) (hw : (waitsT md ops f i && shutT md ops listed) = true)
    (hQ : ∀ c a w, Q (.panic c) (a.put oi.dst v) w → Q (.panic c) a w) (hwd : Region.wanted oi (yielded ops a.tmps) = true) (hy : ∀ w, S w → (execOp a.eval oi).run P w = .ok (.value v) w) (hS : S w)
    (h : wpAnyT P md ops Q S f fuel (listed.setIfInBounds i true) (a.put oi.dst v) w) : wpAnyT P md ops Q S f (fuel + 1) listed a w :=
  wpAnyT_first (by rw [← Array.getElem?_toList]; exact hi) (Region.noSelect_spec hs) hQ (waitsT_spec (Bool.and_eq_true_iff.1 hw).1).1 (waitsT_spec (Bool.and_eq_true_iff.1 hw).1).2 fuel listed a w (shutT_spec (Bool.and_eq_true_iff.1 hw).2) (Region.free_spec (by rw [← Array.getElem?_toList]; exact hi) hf) (by simpa using hr) (Or.inl ⟨hwd, hy⟩) hS h
theorem anyT_all {rs : List Nat} {fuel : Nat} {listed : Array Bool} {a : Act} {w : World} (hr : Region.ready md ops listed = rs) (hne : rs ≠ [])
    (h : ∀ i ∈ rs, wpOp P ops Q i (fun a' w' => (f i = false → S w') ∧ wpAnyT P md ops Q S f fuel (listed.setIfInBounds i true) a' w') a w) : wpAnyT P md ops Q S f (fuel + 1) listed a w :=
  ⟨fun h0 => absurd (hr ▸ h0) hne, hr ▸ h⟩
theorem anyT_one {i : Nat} {o : Oper} {fuel : Nat} {listed : Array Bool} {a : Act} {w : World} (hi : ops.toList[i]? = some o) (hr : Region.ready md ops listed = [i])
    (hwd : Region.wanted o (yielded ops a.tmps) = true)
    (h : ∀ K' : Act → World → Prop, (∀ a w, (f i = false → S w) → wpAnyT P md ops Q S f fuel (listed.setIfInBounds i true) a w → K' a w) → Oper.wp P o a w K' Q) : wpAnyT P md ops Q S f (fuel + 1) listed a w :=
  anyT_all hr (by simp) (fun j hj => by
    obtain rfl : j = i := by simpa using hj
    exact wpOp_step (by rw [← Array.getElem?_toList]; exact hi) (fun K' hK => by rw [if_pos hwd]; exact h K' (fun a w hS hW => hK a w ⟨hS, hW⟩)))
theorem opT {i : Nat} {o : Oper} {fi : Bool} {X : Act → World → Prop} {a : Act} {w : World} (hi : ops.toList[i]? = some o) (hwd : Region.wanted o (yielded ops a.tmps) = true)
    (h : ∀ K' : Act → World → Prop, (∀ a w, (fi = false → S w) → X a w → K' a w) → Oper.wp P o a w K' Q) :
    wpOp P ops Q i (fun a' w' => (fi = false → S w') ∧ X a' w') a w :=
  wpOp_step (by rw [← Array.getElem?_toList]; exact hi) (fun K' hK => by rw [if_pos hwd]; exact h K' (fun a w hS hW => hK a w ⟨hS, hW⟩))
theorem anyT_done {listed : Array Bool} {a : Act} {w : World} (hr : Region.ready md ops listed = []) (h : Q .normal a w) :
    ∀ fuel, wpAnyT P md ops Q S f fuel listed a w
  | 0 => ⟨hr, h⟩
  | _ + 1 => ⟨fun _ => h, by rw [hr]; simp⟩
/-- The boxes stand. -/
def Has (L : List Bx) (w : World) : Prop := ∀ e ∈ L, w.heap[e.g]? = some (.cells e.cs e.t (0, 0))
theorem St.has {w0 w : World} {L : List Bx} (h : St w0 w L) : Has L w := h.at_
theorem Has.tail {e : Bx} {L : List Bx} {w : World} (h : Has (e :: L) w) : Has L w := fun x hx => h x (List.mem_cons_of_mem _ hx)
theorem region_drawn (n : Nat) (f : Nat → Bool) {L : List Bx} {w0 : World} {id : Nat} {a : Act} {w : World} (hm : P.follows .mixedOrders = true) (hn : ops.toList.length = n) (hs : St w0 w L)
    (h : ∀ wc, St w0 wc L → U w wc → wpAnyT P .any ops Q (Has L) f n (Array.replicate n false) a wc) : (Code.region id ops true).wp P Q a w :=
  wp_region_any hm (by rw [show ops.size = n from hn]; exact wpAny_of_tailT _ _ _ _ (h w.drew hs.drew (U.drew w)))
end

section
variable {P : Program} {Q : Exit → Act → World → Prop} {o : Oper} {a : Act} {w w0 : World} {K : Act → World → Prop} {L : List Bx}
theorem o_val (v : Value) (hr : (execOp a.eval o).run P w = .ok (.value v) w) (h : K (a.put o.dst v) w) : o.wp P a w K Q := by
  unfold Oper.wp; rw [hr]; exact h
theorem run_load1 {ty : TypeId} {x : Operand} {g off : Nat} {cs : Array Value} {t : TypeId} (v : Value) (ho : o.op = .load ty x) (hx : a.eval x = .pointer (some ⟨g, off, none⟩)) (hb : w.heap[g]? = some (.cells cs t (0, 0))) (hv : cs[off]? = some v)
    (hg : (isAgg ty).run P w = .ok false w) : (execOp a.eval o).run P w = .ok (.value v) w := by
  have hc : w.cell? ⟨g, off, none⟩ = some v := by rw [cell_of_row w g off cs t (0, 0) hb, hv]
  unfold execOp
  simp only [ho, hx, Instr.loadAt, Instr.sureAddr, Sem.run_bind, Sem.run_pure, Result.andThen_ok, loadVar, hg, Bool.false_eq_true, if_false, run_load, hc]
theorem run_loadW {ty : TypeId} {x : Operand} {p : Addr} (v : Value) (ho : o.op = .load ty x) (hx : a.eval x = .pointer (some p)) (hc : w.cell? p = some v) (hg : (isAgg ty).run P w = .ok false w) : (execOp a.eval o).run P w = .ok (.value v) w := by
  unfold execOp
  simp only [ho, hx, Instr.loadAt, Instr.sureAddr, Sem.run_bind, Sem.run_pure, Result.andThen_ok, loadVar, hg, Bool.false_eq_true, if_false, run_load, hc]
theorem run_loadA {ty : TypeId} {x : Operand} {g off : Nat} {cs : Array Value} {t : TypeId} (vs : List Value) (ho : o.op = .load ty x) (hx : a.eval x = .pointer (some ⟨g, off, none⟩)) (hb : w.heap[g]? = some (.cells cs t (0, 0))) (hv : (cs.toList.drop off).take vs.length = vs)
    (hg : (isAgg ty).run P w = .ok true w) (hz : (sizeOf ty).run P w = .ok vs.length w) : (execOp a.eval o).run P w = .ok (.value (.agg vs.toArray)) w := by
  have hl : (loadCells ⟨g, off, none⟩ vs.length).run P w = .ok vs.toArray w :=
    run_loadCells_list (P := P) w ⟨g, off, none⟩ vs (fun j v hj => by
      have hadd : (⟨g, off, none⟩ : Addr).add j = ⟨g, off + j, none⟩ := by unfold Addr.add; split <;> simp_all
      rw [hadd, cell_of_row w g _ cs t (0, 0) hb]
      rw [← hv, List.getElem?_take, List.getElem?_drop] at hj
      split at hj
      · simpa using hj
      · cases hj)
  unfold execOp
  simp only [ho, hx, Instr.loadAt, Instr.sureAddr, Sem.run_bind, Sem.run_pure, Result.andThen_ok, loadVar, hg, if_true, hz, hl]
theorem o_box {ty : TypeId} {x : Operand} (cs : Array Value) (ho : o.op = .box ty x) (hc : (a.eval x).cells = cs) (hn : cs.toList.all noW = true) (hs : St w0 w L)
    (h : ∀ g w', St w0 w' (⟨g, cs, ty⟩ :: L) → U w w' → K (a.put o.dst (.pointer (some ⟨g, 0, none⟩))) w') : o.wp P a w K Q := by
  unfold Oper.wp execOp
  simp only [ho, Instr.box, newVar, newRow, Sem.run_bind, Sem.run_pure, Result.andThen_ok, run_newObj, hc]
  exact h w.heap.size (w.alloc (.cells cs ty)) (hs.box cs ty) (U.box w _)
theorem o_alloc {ty : TypeId} (cs : Array Value) (z : Value) (ho : o.op = .alloc ty) (hz : (zeroValue ty).run P w = .ok z w) (hc : z.cells = cs) (hn : cs.toList.all noW = true) (hs : St w0 w L)
    (h : ∀ g w', St w0 w' (⟨g, cs, ty⟩ :: L) → U w w' → K (a.put o.dst (.pointer (some ⟨g, 0, none⟩))) w') : o.wp P a w K Q := by
  unfold Oper.wp execOp
  simp only [ho, Instr.alloc, newVar, newRow, Sem.run_bind, Sem.run_pure, Result.andThen_ok, run_newObj, hz, hc]
  exact h w.heap.size (w.alloc (.cells cs ty)) (hs.box cs ty) (U.box w _)
theorem o_store {ty : TypeId} {x y : Operand} {g off : Nat} (i : Nat) {cs : Array Value} {t : TypeId} (vs : List Value) (new : Array Value) (L' : List Bx) (ho : o.op = .store ty x y) (hx : a.eval x = .pointer (some ⟨g, off, none⟩)) (hy : (a.eval y).cells = vs.toArray) (hs : St w0 w L)
    (hi : L[i]? = some ⟨g, cs, t⟩) (hz : (sizeOf ty).run P w = .ok vs.length w) (hb : off + vs.length ≤ cs.size) (h1 : ∀ v ∈ vs, v.oneCell' = true)
    (hnew : (cs.toList.take off ++ vs ++ cs.toList.drop (off + vs.length)).toArray = new) (hno : cs.toList.all noW = true) (hL : L.set i ⟨g, new, t⟩ = L')
    (h : ∀ w', St w0 w' L' → U w w' → K (a.put o.dst undef) w') : o.wp P a w K Q := by
  have hr := run_storeCells_at (P := P) g off t vs 0 cs w (hs.at_ _ (List.mem_of_getElem? hi)) (by omega) h1
  simp only [Nat.add_zero, hnew] at hr
  unfold Oper.wp execOp
  simp only [ho, hx, Instr.storeAt, Instr.sureAddr, Sem.run_bind, Sem.run_pure, Result.andThen_ok, storeVar, hy, List.size_toArray, hz, ne_eq, not_true_eq_false, if_false, hr]
  subst hL
  exact h _ (hs.put i _ hi new) (U.put hs i _ hi hno new)
theorem o_call (f : FuncId) (fn : Func) {ars : Array Operand} {ts : Array TypeId} (args : Array Value) {F : Value → World → Prop} (hf : P.funcs[f]? = some fn) (hname : (fn.name == "runtime.NumGoroutine") = false) (hb : fn.body.isSome = true)
    (hop : o.op = .call { callee := .value (.func f), args := ars, argTypes := ts }) (hargs : ars.toList.map a.eval = args.toList) (hs : St w0 w L)
    (hc : Calls P f args w fun e w' => (∃ v, e = .returned v ∧ F v w') ∧ Below w.heap.size w w')
    (h : ∀ v w', F v w' → St w0 w' L → U w w' → K (a.put o.dst v) w') : o.wp P a w K Q := by
  have he := enters_ hf hname hb args w
  have hargs' : ars.map a.eval = args := by
    apply Array.ext'
    rw [Array.toList_map, hargs]
  have hrun : (execOp a.eval o).run P w = .ok (.enter f args) w := by
    unfold execOp
    simp [hop, resolve, Deferred.ofValue, invoke, Act.eval, hargs', he]
  unfold Oper.wp
  rw [hrun, Oper.upon_enter]
  refine hc.mono fun e w'' hh => ?_
  obtain ⟨⟨v, rfl, hF⟩, hB⟩ := hh
  exact h v w'' hF (hs.below hB) (U.of_below hB)
end

section
variable {P : Program} {ops : Array Oper} {Q : Exit → Act → World → Prop} {a : Act} {w : World} {rest : List Oper} {o : Oper}
theorem wpList_on (hw : Region.wanted o (yielded ops a.tmps) = true) (h : ∀ K : Act → World → Prop, (∀ a w, wpList P ops Q rest a w → K a w) → o.wp P a w K Q) : wpList P ops Q (o :: rest) a w :=
  wpList_step fun K hK => by rw [if_pos hw]; exact h K hK
theorem wpList_off (hw : Region.wanted o (yielded ops a.tmps) = false) (h : wpList P ops Q rest (a.put o.dst undef) w) : wpList P ops Q (o :: rest) a w :=
  wpList_step fun K hK => by rw [if_neg (by rw [hw]; exact Bool.false_ne_true)]; exact hK _ _ h
theorem cond_true {c : Operand} {x y : Code} (hc : a.eval c = .bool true) (h : x.wp P Q a w) : (Code.cond c x y).wp P Q a w :=
  wp_cond_split hc (fun _ => h) (fun h => by cases h)
theorem cond_false {c : Operand} {x y : Code} (hc : a.eval c = .bool false) (h : y.wp P Q a w) : (Code.cond c x y).wp P Q a w :=
  wp_cond_split hc (fun h => by cases h) (fun _ => h)
end
theorem ag36 (w : World) : (isAgg 36).run Try.prog w = .ok false w := by kernel_rfl
theorem ag4 (w : World) : (isAgg 4).run Try.prog w = .ok false w := by kernel_rfl
theorem ag2 (w : World) : (isAgg 2).run Try.prog w = .ok false w := by kernel_rfl
theorem ag100 (w : World) : (isAgg 100).run Try.prog w = .ok false w := by kernel_rfl
theorem ag23 (w : World) : (isAgg 23).run Try.prog w = .ok true w := by kernel_rfl
theorem ag60 (w : World) : (isAgg 60).run Try.prog w = .ok true w := by kernel_rfl
theorem sz100 (w : World) : (sizeOf 100).run Try.prog w = .ok 1 w := by kernel_rfl
theorem sz38 (w : World) : (sizeOf 38).run Try.prog w = .ok 2 w := by kernel_rfl
theorem sz23 (w : World) : (sizeOf 23).run Try.prog w = .ok 2 w := by kernel_rfl
theorem sz60 (w : World) : (sizeOf 60).run Try.prog w = .ok 3 w := by kernel_rfl
theorem sz62 (w : World) : (sizeOf 62).run Try.prog w = .ok 6 w := by kernel_rfl
theorem zv38 (w : World) : (zeroValue 38).run Try.prog w = .ok (.agg #[Value.slice none 0 0, Value.bool false]) w := by kernel_rfl
theorem zv60 (w : World) : (zeroValue 60).run Try.prog w = .ok (.agg #[Value.int .i64 0, Value.slice none 0 0, Value.bool false]) w := by kernel_rfl
theorem zv62 (w : World) : (zeroValue 62).run Try.prog w = .ok (.agg #[Value.int .i64 0, Value.slice none 0 0, Value.bool false, Value.int .i64 0, Value.slice none 0 0, Value.bool false]) w := by kernel_rfl
theorem ret38 {fn : Func} {p : Tmp} (h : fn.results = #[.cell p 38]) (tmps : Array Value) {w : World} {g : Nat} {t : TypeId} {cs : Array Value} (hz : cs.size = 2) (hp : tmps.getD p undef = .pointer (some ⟨g, 0, none⟩)) (hg : w.heap[g]? = some (.cells cs t (0, 0))) :
    (results fn tmps).run Try.prog w = .ok (.agg cs) w :=
  results_cell_row h tmps w g t cs (0, 0) _ hp hg Try.underlying38 rfl (by rw [hz]; kernel_rfl)
theorem ret60 {fn : Func} {p : Tmp} (h : fn.results = #[.cell p 60]) (tmps : Array Value) {w : World} {g : Nat} {t : TypeId} {cs : Array Value} (hz : cs.size = 3) (hp : tmps.getD p undef = .pointer (some ⟨g, 0, none⟩)) (hg : w.heap[g]? = some (.cells cs t (0, 0))) :
    (results fn tmps).run Try.prog w = .ok (.agg cs) w :=
  results_cell_row h tmps w g t cs (0, 0) _ hp hg Try.underlying60 rfl (by rw [hz]; kernel_rfl)
theorem ret62 {fn : Func} {p : Tmp} (h : fn.results = #[.cell p 62]) (tmps : Array Value) {w : World} {g : Nat} {t : TypeId} {cs : Array Value} (hz : cs.size = 6) (hp : tmps.getD p undef = .pointer (some ⟨g, 0, none⟩)) (hg : w.heap[g]? = some (.cells cs t (0, 0))) :
    (results fn tmps).run Try.prog w = .ok (.agg cs) w :=
  results_cell_row h tmps w g t cs (0, 0) _ hp hg Try.underlying62 rfl (by rw [hz]; kernel_rfl)
section
variable {o : Oper} {a : Act} {w : World}
theorem run_bin {P : Program} {op : BinOp} {t u : TypeId} {x y : Operand} (vx vy v : Value) (ho : o.op = .binOp op t x y u) (hx : a.eval x = vx) (hy : a.eval y = vy) (hr : (do eqGuard op t x y vx vy; binOp op t vx vy : Sem Value).run P w = .ok v w) : (execOp a.eval o).run P w = .ok (.value v) w := by
  unfold execOp
  simp only [ho, hx, hy]
  rw [Sem.run_bind, hr]
  rfl
theorem run_not {P : Program} {t : TypeId} {x : Operand} (b : Bool) (ho : o.op = .unOp .not t x) (hx : a.eval x = .bool b) : (execOp a.eval o).run P w = .ok (.value (.bool (!b))) w := by
  unfold execOp
  simp only [ho, hx]
  rfl
theorem run_neg {P : Program} {t : TypeId} {k : IntKind} {x : Operand} (z : Int) (ho : o.op = .unOp .neg t x) (hx : a.eval x = .int k z) : (execOp a.eval o).run P w = .ok (.value (.int k (k.wrap (-z)))) w := by
  have h : (Op.unary .neg (.int k z)).run P w = .ok (.int k (k.wrap (-z))) w := by simp [go_sem]
  unfold execOp
  simp only [ho, hx]
  rw [Sem.run_bind, h]
  rfl
theorem run_len36 {ρ : Operand → Value} {x : Operand} {A : Option Addr} {n m : Nat} (ho : o.op = .call { callee := .builtin .len, args := #[x], argTypes := #[36] }) (hx : ρ x = .slice A n m) : (execOp ρ o).run Try.prog w = .ok (.value (.int .i64 (n : Int))) w := by
  simp [execOp, ho, hx, go_sem]
theorem run_len54 {ρ : Operand → Value} {x : Operand} {A : Option Addr} {n m : Nat} (ho : o.op = .call { callee := .builtin .len, args := #[x], argTypes := #[54] }) (hx : ρ x = .slice A n m) : (execOp ρ o).run Try.prog w = .ok (.value (.int .i64 (n : Int))) w := by
  simp [execOp, ho, hx, go_sem]
end
set_option maxRecDepth 100000
section
variable {o : Oper} {a : Act} {w : World}
theorem bin_eql_4 (x y : Operand) (b c : Bool) : (do eqGuard .eql 4 x y (.bool b) (.bool c); binOp .eql 4 (.bool b) (.bool c) : Sem Value).run Try.prog w = .ok (.bool (b == c)) w := by rfl
theorem bin_neq_4 (x y : Operand) (b c : Bool) : (do eqGuard .neq 4 x y (.bool b) (.bool c); binOp .neq 4 (.bool b) (.bool c) : Sem Value).run Try.prog w = .ok (.bool (b != c)) w := by rfl
theorem bin_eql_3 (x y : Operand) (b c : Int) : (do eqGuard .eql 3 x y (.int .i64 b) (.int .i64 c); binOp .eql 3 (.int .i64 b) (.int .i64 c) : Sem Value).run Try.prog w = .ok (.bool (b == c)) w := by rfl
theorem bin_neq_3 (x y : Operand) (b c : Int) : (do eqGuard .neq 3 x y (.int .i64 b) (.int .i64 c); binOp .neq 3 (.int .i64 b) (.int .i64 c) : Sem Value).run Try.prog w = .ok (.bool (b != c)) w := by rfl
theorem bin_gtr_3 (x y : Operand) (b c : Int) : (do eqGuard .gtr 3 x y (.int .i64 b) (.int .i64 c); binOp .gtr 3 (.int .i64 b) (.int .i64 c) : Sem Value).run Try.prog w = .ok (.bool (decide (c < b))) w := by rfl
theorem bin_geq_3 (x y : Operand) (b c : Int) : (do eqGuard .geq 3 x y (.int .i64 b) (.int .i64 c); binOp .geq 3 (.int .i64 b) (.int .i64 c) : Sem Value).run Try.prog w = .ok (.bool (decide (c ≤ b))) w := by rfl
theorem bin_lss_3 (x y : Operand) (b c : Int) : (do eqGuard .lss 3 x y (.int .i64 b) (.int .i64 c); binOp .lss 3 (.int .i64 b) (.int .i64 c) : Sem Value).run Try.prog w = .ok (.bool (decide (b < c))) w := by rfl
theorem bin_leq_3 (x y : Operand) (b c : Int) : (do eqGuard .leq 3 x y (.int .i64 b) (.int .i64 c); binOp .leq 3 (.int .i64 b) (.int .i64 c) : Sem Value).run Try.prog w = .ok (.bool (decide (b ≤ c))) w := by rfl
theorem bin_add_3 (x y : Operand) (b c : Int) : (do eqGuard .add 3 x y (.int .i64 b) (.int .i64 c); binOp .add 3 (.int .i64 b) (.int .i64 c) : Sem Value).run Try.prog w = .ok (.int .i64 (IntKind.i64.wrap (b + c))) w := by rfl
theorem bin_sub_3 (x y : Operand) (b c : Int) : (do eqGuard .sub 3 x y (.int .i64 b) (.int .i64 c); binOp .sub 3 (.int .i64 b) (.int .i64 c) : Sem Value).run Try.prog w = .ok (.int .i64 (IntKind.i64.wrap (b - c))) w := by rfl
theorem bin_eql_2 (x y : Operand) (b c : Int) : (do eqGuard .eql 2 x y (.int .i64 b) (.int .i64 c); binOp .eql 2 (.int .i64 b) (.int .i64 c) : Sem Value).run Try.prog w = .ok (.bool (b == c)) w := by rfl
theorem bin_neq_2 (x y : Operand) (b c : Int) : (do eqGuard .neq 2 x y (.int .i64 b) (.int .i64 c); binOp .neq 2 (.int .i64 b) (.int .i64 c) : Sem Value).run Try.prog w = .ok (.bool (b != c)) w := by rfl
theorem bin_gtr_2 (x y : Operand) (b c : Int) : (do eqGuard .gtr 2 x y (.int .i64 b) (.int .i64 c); binOp .gtr 2 (.int .i64 b) (.int .i64 c) : Sem Value).run Try.prog w = .ok (.bool (decide (c < b))) w := by rfl
theorem bin_lss_2 (x y : Operand) (b c : Int) : (do eqGuard .lss 2 x y (.int .i64 b) (.int .i64 c); binOp .lss 2 (.int .i64 b) (.int .i64 c) : Sem Value).run Try.prog w = .ok (.bool (decide (b < c))) w := by rfl
theorem bin_add_2 (x y : Operand) (b c : Int) : (do eqGuard .add 2 x y (.int .i64 b) (.int .i64 c); binOp .add 2 (.int .i64 b) (.int .i64 c) : Sem Value).run Try.prog w = .ok (.int .i64 (IntKind.i64.wrap (b + c))) w := by rfl
theorem bin_sub_2 (x y : Operand) (b c : Int) : (do eqGuard .sub 2 x y (.int .i64 b) (.int .i64 c); binOp .sub 2 (.int .i64 b) (.int .i64 c) : Sem Value).run Try.prog w = .ok (.int .i64 (IntKind.i64.wrap (b - c))) w := by rfl
theorem bin_eql_100 (x y : Operand) (b c : Int) : (do eqGuard .eql 100 x y (.int .u32 b) (.int .u32 c); binOp .eql 100 (.int .u32 b) (.int .u32 c) : Sem Value).run Try.prog w = .ok (.bool (b == c)) w := by rfl
theorem bin_geq_100 (x y : Operand) (b c : Int) : (do eqGuard .geq 100 x y (.int .u32 b) (.int .u32 c); binOp .geq 100 (.int .u32 b) (.int .u32 c) : Sem Value).run Try.prog w = .ok (.bool (decide (c ≤ b))) w := by rfl
theorem bin_add_100 (x y : Operand) (b c : Int) : (do eqGuard .add 100 x y (.int .u32 b) (.int .u32 c); binOp .add 100 (.int .u32 b) (.int .u32 c) : Sem Value).run Try.prog w = .ok (.int .u32 (IntKind.u32.wrap (b + c))) w := by rfl
theorem bin_eql_104 (x y : Operand) (b c : Int) : (do eqGuard .eql 104 x y (.int .u64 b) (.int .u64 c); binOp .eql 104 (.int .u64 b) (.int .u64 c) : Sem Value).run Try.prog w = .ok (.bool (b == c)) w := by rfl
theorem bin_gtr_104 (x y : Operand) (b c : Int) : (do eqGuard .gtr 104 x y (.int .u64 b) (.int .u64 c); binOp .gtr 104 (.int .u64 b) (.int .u64 c) : Sem Value).run Try.prog w = .ok (.bool (decide (c < b))) w := by rfl
theorem bin_geq_104 (x y : Operand) (b c : Int) : (do eqGuard .geq 104 x y (.int .u64 b) (.int .u64 c); binOp .geq 104 (.int .u64 b) (.int .u64 c) : Sem Value).run Try.prog w = .ok (.bool (decide (c ≤ b))) w := by rfl
theorem bin_lss_104 (x y : Operand) (b c : Int) : (do eqGuard .lss 104 x y (.int .u64 b) (.int .u64 c); binOp .lss 104 (.int .u64 b) (.int .u64 c) : Sem Value).run Try.prog w = .ok (.bool (decide (b < c))) w := by rfl
theorem bin_leq_104 (x y : Operand) (b c : Int) : (do eqGuard .leq 104 x y (.int .u64 b) (.int .u64 c); binOp .leq 104 (.int .u64 b) (.int .u64 c) : Sem Value).run Try.prog w = .ok (.bool (decide (b ≤ c))) w := by rfl
theorem bin_add_104 (x y : Operand) (b c : Int) : (do eqGuard .add 104 x y (.int .u64 b) (.int .u64 c); binOp .add 104 (.int .u64 b) (.int .u64 c) : Sem Value).run Try.prog w = .ok (.int .u64 (IntKind.u64.wrap (b + c))) w := by rfl
theorem bin_sub_104 (x y : Operand) (b c : Int) : (do eqGuard .sub 104 x y (.int .u64 b) (.int .u64 c); binOp .sub 104 (.int .u64 b) (.int .u64 c) : Sem Value).run Try.prog w = .ok (.int .u64 (IntKind.u64.wrap (b - c))) w := by rfl
theorem bin_mul_104 (x y : Operand) (b c : Int) : (do eqGuard .mul 104 x y (.int .u64 b) (.int .u64 c); binOp .mul 104 (.int .u64 b) (.int .u64 c) : Sem Value).run Try.prog w = .ok (.int .u64 (IntKind.u64.wrap (b * c))) w := by rfl
theorem bin_eql_36n (x y : Operand) (n m : Nat) : (do eqGuard .eql 36 x y (.slice none n m) (.slice none 0 0); binOp .eql 36 (.slice none n m) (.slice none 0 0) : Sem Value).run Try.prog w = .ok (.bool true) w := by rfl
theorem bin_eql_36s (x y : Operand) (ad : Addr) (n m : Nat) : (do eqGuard .eql 36 x y (.slice (some ad) n m) (.slice none 0 0); binOp .eql 36 (.slice (some ad) n m) (.slice none 0 0) : Sem Value).run Try.prog w = .ok (.bool false) w := by rfl
theorem bin_neq_36n (x y : Operand) (n m : Nat) : (do eqGuard .neq 36 x y (.slice none n m) (.slice none 0 0); binOp .neq 36 (.slice none n m) (.slice none 0 0) : Sem Value).run Try.prog w = .ok (.bool false) w := by rfl
theorem bin_neq_36s (x y : Operand) (ad : Addr) (n m : Nat) : (do eqGuard .neq 36 x y (.slice (some ad) n m) (.slice none 0 0); binOp .neq 36 (.slice (some ad) n m) (.slice none 0 0) : Sem Value).run Try.prog w = .ok (.bool true) w := by rfl
end
end Go.Proofs.Ythhgjloephkpaaa
