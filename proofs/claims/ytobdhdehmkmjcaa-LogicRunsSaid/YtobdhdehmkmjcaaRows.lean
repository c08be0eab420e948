/-
  No cell of these rows narrows 'for every input' (looked for: loops, veiled, ifaces, maps, wideKeys, modest, calm, conditions, laid).
  DERIVED. THE GIVEN ROWS OF THIS SEAT. 7 by the template 'for every input the law returns true; each argument reads behind the call as it read before'; 0 by the template 'total and deterministic' (their statements: YtobdhdehmkmjcaaTotals.lean).
  GIVEN WITH THE SEED: the statements are not yours to turn. If you find one false, say at which input.
  Laid BY PROGRAM, IN A SANDBOX (cutbox-rows.mjs): the forced cells as the released guide's own fill.sh prints them over the translation 5753f0ce7356f6a7… (all of the seat's roots in one cut). By AI agents, Wed Nov 11 2026. No macro, syntax, notation, axiom, sorry.
-/
import Derived.Test.YtobdhdehmkmjcaaChecked
import GoSem.Claim
import GoSem.ClaimJoined
import GoSem.ClaimMapViews
import Derived.JoinedTies
import Derived.KernelRfl
namespace Go.Proofs.Ytobdhdehmkmjcaa
/- THE CELL 'sum', in the pinned program and in every row, IS THE sha256 OF THE DUMP (.gsa) THAT YtobdhdehmkmjcaaProg.lean LOADS. Nothing in Lean hashes anything: it is a label: what it is worth is what the hold of that sum in a sandbox is worth. -/
noncomputable def Try.pinned : Pinned := { name := "ytobdhdehmkmjcaa", sum := "5753f0ce7356f6a787df636e915cfb0081e90aa74d364189bbd844df95953b7e", checked := Try.checked }
namespace Rows
def none {H : Type} : Left H := { results := [], args := [] }

/-- 'isoclinelaw30.LogicAnyOrder': WHATEVER THE INPUT: true; the input reads as it did. -/
def logicAnyOrderSpec : ChangeSpec := { name := "logicAnyOrder", fn := fun _ => fun
  | [d1, d2] => { results := [.lit (.bool true)], args := [d1, d2] }
  | _ => none }
def logicAnyOrderRow : OpenClaim := { program := "ytobdhdehmkmjcaa", sum := "5753f0ce7356f6a787df636e915cfb0081e90aa74d364189bbd844df95953b7e", func := "isocline/isoclinelaw30.LogicAnyOrder", spec := "logicAnyOrder", unfollowed := true, recurses := true, apart := false }
def LogicAnyOrderSaid : Prop := logicAnyOrderRow.holds Try.pinned (OpenSpec.ofChange logicAnyOrderSpec)

/-- ITS FALSE NEIGHBOUR: 'it returns false'. Refute it at one input. -/
def logicAnyOrderWrong : ChangeSpec := { name := "logicAnyOrder", fn := fun _ => fun
  | [d1, d2] => { results := [.lit (.bool false)], args := [d1, d2] }
  | _ => none }
def LogicAnyOrderWrongFalsely : Prop := logicAnyOrderRow.holds Try.pinned (OpenSpec.ofChange logicAnyOrderWrong)

/-- 'isoclinelaw30.LogicResolves': WHATEVER THE INPUT: true; the input reads as it did. -/
def logicResolvesSpec : ChangeSpec := { name := "logicResolves", fn := fun _ => fun
  | [d1, d2, d3, d4, d5] => { results := [.lit (.bool true)], args := [d1, d2, d3, d4, d5] }
  | _ => none }
def logicResolvesRow : OpenClaim := { program := "ytobdhdehmkmjcaa", sum := "5753f0ce7356f6a787df636e915cfb0081e90aa74d364189bbd844df95953b7e", func := "isocline/isoclinelaw30.LogicResolves", spec := "logicResolves", inPlace := ["internal/abi.NoEscape", "internal/bytealg.IndexByteString"], unfollowed := true, recurses := true, apart := false }
def LogicResolvesSaid : Prop := logicResolvesRow.holds Try.pinned (OpenSpec.ofChange logicResolvesSpec)

/-- ITS FALSE NEIGHBOUR: 'it returns false'. Refute it at one input. -/
def logicResolvesWrong : ChangeSpec := { name := "logicResolves", fn := fun _ => fun
  | [d1, d2, d3, d4, d5] => { results := [.lit (.bool false)], args := [d1, d2, d3, d4, d5] }
  | _ => none }
def LogicResolvesWrongFalsely : Prop := logicResolvesRow.holds Try.pinned (OpenSpec.ofChange logicResolvesWrong)

/-- 'isoclinelaw30.LogicAdds': WHATEVER THE INPUT: true; the input reads as it did. -/
def logicAddsSpec : ChangeSpec := { name := "logicAdds", fn := fun _ => fun
  | [d1, d2, d3, d4] => { results := [.lit (.bool true)], args := [d1, d2, d3, d4] }
  | _ => none }
def logicAddsRow : OpenClaim := { program := "ytobdhdehmkmjcaa", sum := "5753f0ce7356f6a787df636e915cfb0081e90aa74d364189bbd844df95953b7e", func := "isocline/isoclinelaw30.LogicAdds", spec := "logicAdds", unfollowed := true, recurses := true, apart := false }
def LogicAddsSaid : Prop := logicAddsRow.holds Try.pinned (OpenSpec.ofChange logicAddsSpec)

/-- ITS FALSE NEIGHBOUR: 'it returns false'. Refute it at one input. -/
def logicAddsWrong : ChangeSpec := { name := "logicAdds", fn := fun _ => fun
  | [d1, d2, d3, d4] => { results := [.lit (.bool false)], args := [d1, d2, d3, d4] }
  | _ => none }
def LogicAddsWrongFalsely : Prop := logicAddsRow.holds Try.pinned (OpenSpec.ofChange logicAddsWrong)

/-- 'isoclinelaw30.LogicSettles': WHATEVER THE INPUT: true; the input reads as it did. -/
def logicSettlesSpec : ChangeSpec := { name := "logicSettles", fn := fun _ => fun
  | [d1, d2, d3] => { results := [.lit (.bool true)], args := [d1, d2, d3] }
  | _ => none }
def logicSettlesRow : OpenClaim := { program := "ytobdhdehmkmjcaa", sum := "5753f0ce7356f6a787df636e915cfb0081e90aa74d364189bbd844df95953b7e", func := "isocline/isoclinelaw30.LogicSettles", spec := "logicSettles", unfollowed := true, recurses := true, apart := false }
def LogicSettlesSaid : Prop := logicSettlesRow.holds Try.pinned (OpenSpec.ofChange logicSettlesSpec)

/-- ITS FALSE NEIGHBOUR: 'it returns false'. Refute it at one input. -/
def logicSettlesWrong : ChangeSpec := { name := "logicSettles", fn := fun _ => fun
  | [d1, d2, d3] => { results := [.lit (.bool false)], args := [d1, d2, d3] }
  | _ => none }
def LogicSettlesWrongFalsely : Prop := logicSettlesRow.holds Try.pinned (OpenSpec.ofChange logicSettlesWrong)

/-- 'isoclinelaw30.LogicRests': WHATEVER THE INPUT: true; the input reads as it did. -/
def logicRestsSpec : ChangeSpec := { name := "logicRests", fn := fun _ => fun
  | [d1, d2, d3] => { results := [.lit (.bool true)], args := [d1, d2, d3] }
  | _ => none }
def logicRestsRow : OpenClaim := { program := "ytobdhdehmkmjcaa", sum := "5753f0ce7356f6a787df636e915cfb0081e90aa74d364189bbd844df95953b7e", func := "isocline/isoclinelaw30.LogicRests", spec := "logicRests", unfollowed := true, recurses := true, apart := false }
def LogicRestsSaid : Prop := logicRestsRow.holds Try.pinned (OpenSpec.ofChange logicRestsSpec)

/-- ITS FALSE NEIGHBOUR: 'it returns false'. Refute it at one input. -/
def logicRestsWrong : ChangeSpec := { name := "logicRests", fn := fun _ => fun
  | [d1, d2, d3] => { results := [.lit (.bool false)], args := [d1, d2, d3] }
  | _ => none }
def LogicRestsWrongFalsely : Prop := logicRestsRow.holds Try.pinned (OpenSpec.ofChange logicRestsWrong)

/-- 'isoclinelaw30.LogicEquals': WHATEVER THE INPUT: true; the input reads as it did. -/
def logicEqualsSpec : ChangeSpec := { name := "logicEquals", fn := fun _ => fun
  | [d1, d2, d3, d4] => { results := [.lit (.bool true)], args := [d1, d2, d3, d4] }
  | _ => none }
def logicEqualsRow : OpenClaim := { program := "ytobdhdehmkmjcaa", sum := "5753f0ce7356f6a787df636e915cfb0081e90aa74d364189bbd844df95953b7e", func := "isocline/isoclinelaw30.LogicEquals", spec := "logicEquals", unfollowed := true, recurses := true, apart := false }
def LogicEqualsSaid : Prop := logicEqualsRow.holds Try.pinned (OpenSpec.ofChange logicEqualsSpec)

/-- ITS FALSE NEIGHBOUR: 'it returns false'. Refute it at one input. -/
def logicEqualsWrong : ChangeSpec := { name := "logicEquals", fn := fun _ => fun
  | [d1, d2, d3, d4] => { results := [.lit (.bool false)], args := [d1, d2, d3, d4] }
  | _ => none }
def LogicEqualsWrongFalsely : Prop := logicEqualsRow.holds Try.pinned (OpenSpec.ofChange logicEqualsWrong)

/-- 'isoclinelaw30.LogicRuns': WHATEVER THE INPUT: true; the input reads as it did. -/
def logicRunsSpec : ChangeSpec := { name := "logicRuns", fn := fun _ => fun
  | [d1, d2, d3] => { results := [.lit (.bool true)], args := [d1, d2, d3] }
  | _ => none }
def logicRunsRow : OpenClaim := { program := "ytobdhdehmkmjcaa", sum := "5753f0ce7356f6a787df636e915cfb0081e90aa74d364189bbd844df95953b7e", func := "isocline/isoclinelaw30.LogicRuns", spec := "logicRuns", unfollowed := true, recurses := true, apart := false }
def LogicRunsSaid : Prop := logicRunsRow.holds Try.pinned (OpenSpec.ofChange logicRunsSpec)

/-- ITS FALSE NEIGHBOUR: 'it returns false'. Refute it at one input. -/
def logicRunsWrong : ChangeSpec := { name := "logicRuns", fn := fun _ => fun
  | [d1, d2, d3] => { results := [.lit (.bool false)], args := [d1, d2, d3] }
  | _ => none }
def LogicRunsWrongFalsely : Prop := logicRunsRow.holds Try.pinned (OpenSpec.ofChange logicRunsWrong)

/- THE SECOND FORM. 'bulk': how many values and letters a reading holds, each counted each time it is reached (what is shared counts as often as it is met; a slice's spare places count too). A statement '..UptoSaid' is the law's where the arguments, and the package variables that the reading takes, are together of bulk at most 1048576: NARROWER than '..Said'. Prove '..Said' where nothing that the law and all that it calls make is longer than what came in: it says more and counts as full. Else prove '..UptoSaid'. A law counts once. -/
mutual
def uptoBulk {H : Type} : DataW H → Nat
  | .lit (.string bytes) => bytes.length + 1
  | .lit _ => 1
  | .nil => 1
  | .ptr d => uptoBulk d + 1
  | .slice elems spare => uptoBulkAll elems + uptoBulkAll spare + 1
  | .agg parts => uptoBulkAll parts + 1
  | .iface _ d => uptoBulk d + 1
  | .map entries => uptoBulkEntries entries + 1
  | .held _ => 1
def uptoBulkAll {H : Type} : List (DataW H) → Nat
  | [] => 0
  | d :: r => uptoBulk d + uptoBulkAll r
def uptoBulkEntries {H : Type} : List (Lit × DataW H) → Nat
  | [] => 0
  | x :: r => uptoBulkEntry x + uptoBulkEntries r
def uptoBulkEntry {H : Type} : Lit × DataW H → Nat
  | (.string bytes, d) => bytes.length + uptoBulk d + 1
  | (_, d) => uptoBulk d + 1
 end
def uptoSmall : (H : Type) → List (DataW H) → Bool := fun _ ds => decide (uptoBulkAll ds ≤ 1048576)
def OpenSpec.upto (s : _root_.Go.ChangeSpec) : _root_.Go.OpenSpec := { _root_.Go.OpenSpec.ofChange s with cond := some uptoSmall }

/-- 'isoclinelaw30.LogicAnyOrder', WHERE WHAT IT READS IS OF BULK AT MOST 1048576: true; the input reads as it did. -/
def logicAnyOrderUptoRow : OpenClaim := { program := "ytobdhdehmkmjcaa", sum := "5753f0ce7356f6a787df636e915cfb0081e90aa74d364189bbd844df95953b7e", func := "isocline/isoclinelaw30.LogicAnyOrder", spec := "logicAnyOrder", unfollowed := true, recurses := true, apart := false, narrowed := true }
def LogicAnyOrderUptoSaid : Prop := logicAnyOrderUptoRow.holds Try.pinned (OpenSpec.upto logicAnyOrderSpec)

/-- 'isoclinelaw30.LogicResolves', WHERE WHAT IT READS IS OF BULK AT MOST 1048576: true; the input reads as it did. -/
def logicResolvesUptoRow : OpenClaim := { program := "ytobdhdehmkmjcaa", sum := "5753f0ce7356f6a787df636e915cfb0081e90aa74d364189bbd844df95953b7e", func := "isocline/isoclinelaw30.LogicResolves", spec := "logicResolves", inPlace := ["internal/abi.NoEscape", "internal/bytealg.IndexByteString"], unfollowed := true, recurses := true, apart := false, narrowed := true }
def LogicResolvesUptoSaid : Prop := logicResolvesUptoRow.holds Try.pinned (OpenSpec.upto logicResolvesSpec)

/-- 'isoclinelaw30.LogicAdds', WHERE WHAT IT READS IS OF BULK AT MOST 1048576: true; the input reads as it did. -/
def logicAddsUptoRow : OpenClaim := { program := "ytobdhdehmkmjcaa", sum := "5753f0ce7356f6a787df636e915cfb0081e90aa74d364189bbd844df95953b7e", func := "isocline/isoclinelaw30.LogicAdds", spec := "logicAdds", unfollowed := true, recurses := true, apart := false, narrowed := true }
def LogicAddsUptoSaid : Prop := logicAddsUptoRow.holds Try.pinned (OpenSpec.upto logicAddsSpec)

/-- 'isoclinelaw30.LogicSettles', WHERE WHAT IT READS IS OF BULK AT MOST 1048576: true; the input reads as it did. -/
def logicSettlesUptoRow : OpenClaim := { program := "ytobdhdehmkmjcaa", sum := "5753f0ce7356f6a787df636e915cfb0081e90aa74d364189bbd844df95953b7e", func := "isocline/isoclinelaw30.LogicSettles", spec := "logicSettles", unfollowed := true, recurses := true, apart := false, narrowed := true }
def LogicSettlesUptoSaid : Prop := logicSettlesUptoRow.holds Try.pinned (OpenSpec.upto logicSettlesSpec)

/-- 'isoclinelaw30.LogicRests', WHERE WHAT IT READS IS OF BULK AT MOST 1048576: true; the input reads as it did. -/
def logicRestsUptoRow : OpenClaim := { program := "ytobdhdehmkmjcaa", sum := "5753f0ce7356f6a787df636e915cfb0081e90aa74d364189bbd844df95953b7e", func := "isocline/isoclinelaw30.LogicRests", spec := "logicRests", unfollowed := true, recurses := true, apart := false, narrowed := true }
def LogicRestsUptoSaid : Prop := logicRestsUptoRow.holds Try.pinned (OpenSpec.upto logicRestsSpec)

/-- 'isoclinelaw30.LogicEquals', WHERE WHAT IT READS IS OF BULK AT MOST 1048576: true; the input reads as it did. -/
def logicEqualsUptoRow : OpenClaim := { program := "ytobdhdehmkmjcaa", sum := "5753f0ce7356f6a787df636e915cfb0081e90aa74d364189bbd844df95953b7e", func := "isocline/isoclinelaw30.LogicEquals", spec := "logicEquals", unfollowed := true, recurses := true, apart := false, narrowed := true }
def LogicEqualsUptoSaid : Prop := logicEqualsUptoRow.holds Try.pinned (OpenSpec.upto logicEqualsSpec)

/-- 'isoclinelaw30.LogicRuns', WHERE WHAT IT READS IS OF BULK AT MOST 1048576: true; the input reads as it did. -/
def logicRunsUptoRow : OpenClaim := { program := "ytobdhdehmkmjcaa", sum := "5753f0ce7356f6a787df636e915cfb0081e90aa74d364189bbd844df95953b7e", func := "isocline/isoclinelaw30.LogicRuns", spec := "logicRuns", unfollowed := true, recurses := true, apart := false, narrowed := true }
def LogicRunsUptoSaid : Prop := logicRunsUptoRow.holds Try.pinned (OpenSpec.upto logicRunsSpec)

end Rows
end Go.Proofs.Ytobdhdehmkmjcaa
