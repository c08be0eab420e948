/- The values of letters. -/
import Derived.Test.YtobdhdehmkmjcaaL
import Derived.Lib.Bytealg
namespace Go.Proofs.Ytobdhdehmkmjcaa
open Go.RowKit Go.Proofs.YtobdhdehmkmjcaaW.PrintWords Go.Proofs.YtobdhdehmkmjcaaW.PrintLast

def vOf (x : Int) : Int := if x = 85 then 0 else if x = 88 then 1 else if x = 48 then 2 else if x = 49 then 3 else if x = 90 then 4 else if x = 87 then 5 else if x = 76 then 6 else if x = 72 then 7 else if x = 45 then 8 else -1
def vB (c : UInt8) : Int := vOf c.toNat
def NotTo (x : Int) (k : Nat) : Prop := (0 < k → x ≠ 85) ∧ (1 < k → x ≠ 88) ∧ (2 < k → x ≠ 48) ∧ (3 < k → x ≠ 49) ∧ (4 < k → x ≠ 90) ∧ (5 < k → x ≠ 87) ∧ (6 < k → x ≠ 76) ∧ (7 < k → x ≠ 72) ∧ (8 < k → x ≠ 45)
def letNum (k : Nat) : Int := (letterL.getD k 0).toNat
theorem NotTo.succ {x : Int} {k : Nat} (h : NotTo x k) (hk : k < 9) (hne : letNum k ≠ x) : NotTo x (k + 1) := by
  have : k = 0 ∨ k = 1 ∨ k = 2 ∨ k = 3 ∨ k = 4 ∨ k = 5 ∨ k = 6 ∨ k = 7 ∨ k = 8 := by omega
  rcases this with rfl | rfl | rfl | rfl | rfl | rfl | rfl | rfl | rfl <;> (simp [letNum, letterL] at hne; simp_all [NotTo]; try omega)
theorem NotTo.at_ {x : Int} {k : Nat} (h : NotTo x k) (hk : k < 9) (he : letNum k = x) : vOf x = k := by
  have : k = 0 ∨ k = 1 ∨ k = 2 ∨ k = 3 ∨ k = 4 ∨ k = 5 ∨ k = 6 ∨ k = 7 ∨ k = 8 := by omega
  subst he
  rcases this with rfl | rfl | rfl | rfl | rfl | rfl | rfl | rfl | rfl <;> decide
theorem NotTo.all {x : Int} (h : NotTo x 9) : vOf x = -1 := by
  simp [NotTo] at h
  simp [vOf, h]
set_option maxRecDepth 100000 in
theorem idxLetter (W : World) (k : Nat) (hk : k < 9) : (Instr.index 9 (.string { data := #[85, 88, 48, 49, 90, 87, 76, 72, 45] }) (.int .i64 k)).run Try.prog W = .ok (.int .u8 (letNum k)) W := by
  have : k = 0 ∨ k = 1 ∨ k = 2 ∨ k = 3 ∨ k = 4 ∨ k = 5 ∨ k = 6 ∨ k = 7 ∨ k = 8 := by omega
  rcases this with rfl | rfl | rfl | rfl | rfl | rfl | rfl | rfl | rfl <;> rfl

set_option maxHeartbeats 400000 in
theorem valueOf_any (x : Int) (w : World) :
    Calls Try.prog 49 #[.int .u8 x] w fun e w' => e = .returned (.int .i64 (vOf x)) ∧ w = w' := by
  go_enter Try.func49, Try.ntmps49
  go_wp2
  go_loop [3] (fun i => ∃ k : Nat, k ≤ 9 ∧ i = .int .i64 k ∧ NotTo x k) (fun i => 9 - (intOf i).toNat)
  case atStart => exact ⟨0, by omega, rfl, by simp [NotTo]⟩
  case round =>
    obtain ⟨k, hk, rfl, hn⟩ := hrel
    have HN := Lib.hid hn; clear hn
    by_cases hlt : k < 9
    · have hix := fun W => idxLetter W k hlt
      by_cases he : letNum k = x
      · have hb : (letNum k == x) = true := by simpa using he
        have HE := Lib.hid he; clear he
        go_wp2
        go_ret
        exact ⟨ret_int (HN.out.at_ hlt HE.out).symm, rfl⟩
      · have hb : (letNum k == x) = false := by simpa using he
        go_wp2
        go_round
        case rel => exact ⟨k + 1, by omega, by go_num, HN.out.succ hlt he⟩
        case measure => simp [intOf]; omega
    · obtain rfl : k = 9 := by omega
      go_wp2
      go_ret
      exact ⟨ret_int HN.out.all.symm, rfl⟩

/-- How Parse answers: the values so far, or the first byte that is none. -/
def ParseTo (l : List UInt8) (r : List Int) (pos err : Int) : Prop :=
  (64 < l.length ∧ r = [] ∧ pos = 0 ∧ err = 3) ∨
  (l.length ≤ 64 ∧ ∃ k : Nat, k < l.length ∧ (∀ j, j < k → vOf (l.getD j 0).toNat ≠ -1) ∧ vOf (l.getD k 0).toNat = -1 ∧ r = [] ∧ pos = k ∧ err = 2) ∨
  (l.length ≤ 64 ∧ (∀ j, j < l.length → vOf (l.getD j 0).toNat ≠ -1) ∧ r = l.map vB ∧ pos = 0 ∧ err = 0)
theorem ParseTo.one {l : List UInt8} {r r' : List Int} {pos pos' err err' : Int} (h : ParseTo l r pos err) (h' : ParseTo l r' pos' err') : r = r' ∧ pos = pos' ∧ err = err' := by
  rcases h with ⟨h1, rfl, rfl, rfl⟩ | ⟨h1, k, h2, h3, h4, rfl, rfl, rfl⟩ | ⟨h1, h2, rfl, rfl, rfl⟩ <;> rcases h' with ⟨g1, rfl, rfl, rfl⟩ | ⟨g1, k', g2, g3, g4, rfl, rfl, rfl⟩ | ⟨g1, g2, rfl, rfl, rfl⟩
  all_goals first
    | exact ⟨rfl, rfl, rfl⟩
    | omega
    | (exact absurd h4 (g2 k h2))
    | (exact absurd g4 (h2 k' g2))
    | (have : k = k' := by
        rcases Nat.lt_trichotomy k k' with h | h | h
        · exact absurd h4 (g3 k h)
        · exact h
        · exact absurd g4 (h3 k' h)
       subst this; exact ⟨rfl, rfl, rfl⟩)
def SomeList (W : World) (w' : World) (e : Ending) (P : List Int → Int → Int → Prop) : Prop :=
  ∃ v r pos err, e = .returned (.tuple #[v, .int .i64 pos, .int .i64 err]) ∧ P r pos err ∧ (∃ A n c, v = .slice A n c ∧ ReadsInt w' .i64 A n r) ∧ Below W.heap.size W w'
theorem vOf_range (x : Int) : -1 ≤ vOf x ∧ vOf x ≤ 8 := by
  unfold vOf
  repeat' split
  all_goals omega
theorem bytes_getD (s : ByteArray) (k : Nat) (hk : k < s.size) : s[k] = s.data.toList.getD k 0 := by
  rw [List.getD_eq_getElem?_getD, List.getElem?_eq_getElem (by simpa using hk)]
  rfl
theorem take_map_succ {l : List UInt8} {k : Nat} (hk : k < l.length) : (l.take (k + 1)).map vB = (l.take k).map vB ++ [vOf (l.getD k 0).toNat] := by
  rw [List.take_succ_eq_append_getElem hk, List.map_append]
  simp [List.getD_eq_getElem?_getD, List.getElem?_eq_getElem hk, vB]

set_option maxHeartbeats 1000000 in
set_option maxRecDepth 100000 in
theorem refParse_any (s : ByteArray) (w : World) (hs : s.size ≤ 140737488351232) :
    Calls Try.prog 20 #[.string s] w fun e w' => SomeList w w' e (ParseTo s.data.toList) := by
  have hlen : s.data.toList.length = s.size := by simp
  by_cases h64 : 64 < s.size
  · go_enter Try.func20, Try.ntmps20
    go_wp2
    go_ret3
    exact ⟨_, _, _, _, rfl, .inl ⟨by rw [hlen]; exact h64, rfl, rfl, rfl⟩, ⟨none, 0, 0, rfl, rfl, by omega, fun h => absurd h (by omega)⟩, Below.refl _ _⟩
  · have HLEN := Lib.hid hlen; clear hlen
    go_enter Try.func20, Try.ntmps20
    go_wp2
    go_loopw [5, 6] (fun o i wr => ∃ k : Nat, k ≤ s.size ∧ i = .int .i64 k ∧ Hid (∀ j, j < k → vOf (s.data.toList.getD j 0).toNat ≠ -1) ∧ Hid (Below w.heap.size w wr) ∧ Hid (wr.ownsRow w.heap.size 3 1 o ((s.data.toList.take k).map vB).length (nums .i64 ((s.data.toList.take k).map vB)))) (fun _ i _ => s.size - (intOf i).toNat)
    case atStart => exact ⟨0, by omega, rfl, fun j hj => absurd hj (by omega), Below.refl _ _, own_nil _ _ _ _⟩
    case round =>
      obtain ⟨k, hk, rfl, hn, hB, hO⟩ := hrel
      by_cases hlt : k < s.size
      · have hbk := bytes_getD s k hlt
        have hsucc := take_map_succ (l := s.data.toList) (k := k) (by rw [HLEN.out]; exact hlt)
        have hr := vOf_range (s.data.toList.getD k 0).toNat
        have HB := Lib.hid hbk; clear hbk
        have HS := Lib.hid hsucc; clear hsucc
        generalize hx : vOf (s.data.toList.getD k 0).toNat = x at *
        have HX := Lib.hid hx; clear hx
        obtain ⟨hr1, hr2⟩ := hr
        go_wp2_with fail
        refine (valueOf_any _ _).mono ?_
        rintro e w' ⟨rfl, rfl⟩
        rw [HB.out, HX.out]
        have hneg : x = -1 ∨ 0 ≤ x := by omega
        rcases hneg with hneg | hneg
        · have HNEG := Lib.hid hneg
          have hx0 : x < 0 := by omega
          clear hneg
          go_wp2
          go_ret3
          exact ⟨_, _, _, _, rfl, .inr (.inl ⟨by rw [HLEN.out]; omega, k, by rw [HLEN.out]; exact hlt, hn.out, by rw [HX.out]; exact HNEG.out, rfl, rfl, rfl⟩), ⟨none, 0, 0, rfl, rfl, by omega, fun h => absurd h (by omega)⟩, hB.out⟩
        · have hnn : Hid (∀ j, j < k + 1 → vOf (s.data.toList.getD j 0).toNat ≠ -1) := by
            intro j hj
            by_cases e : j = k
            · subst e; rw [HX.out]; omega
            · exact hn.out j (by omega)
          have hlk : (((s.data.toList.take k).map vB).length + 1) * 8 ≤ 140737488355328 := by simp; omega
          have HLK := Lib.hid hlk; clear hlk
          clear hn
          go_wp2_with (at_builtin; go_must (refine print_append_num (w0 := w) w.heap.size rfl (.tmp 24) (.tmp 26) 22 3 .i64 8 rfl Try.underlying22 info3 (by decide) _ ((s.data.toList.take k).map vB) x rfl rfl hO.out hB.out hB.out.size HLK.out ?_); intro v1 w1 h1 h2 _ _; have HO1 := Lib.hid h1; clear h1; have HB1 := Lib.hid h2; clear h2)
          go_roundw
          case rel => exact ⟨k + 1, by omega, by go_num, hnn, HB1.out, by rw [HS.out]; exact HO1.out⟩
          case measure => simp [intOf]; omega
      · go_wp2
        go_ret3
        obtain rfl : k = s.size := by omega
        obtain ⟨A, c, rfl, hr⟩ := own_reads hO.out
        have ht : s.data.toList.take s.size = s.data.toList := List.take_of_length_le (by rw [HLEN.out]; omega)
        rw [ht] at hr
        refine ⟨_, _, _, _, rfl, .inr (.inr ⟨by rw [HLEN.out]; omega, by rw [HLEN.out]; exact hn.out, rfl, rfl, rfl⟩), ⟨_, _, _, rfl, ?_⟩, hB.out⟩
        rw [ht]
        exact hr
end Go.Proofs.Ytobdhdehmkmjcaa
