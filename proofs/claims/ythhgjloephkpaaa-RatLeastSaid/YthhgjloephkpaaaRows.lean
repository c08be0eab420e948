/-
  No cell of these rows narrows 'for every input' (looked for: loops, veiled, ifaces, maps, wideKeys, modest, calm, conditions, laid).
  DERIVED. THE GIVEN ROWS OF THIS SEAT. 7 by the template 'for every input the law returns true; each argument reads behind the call as it read before'; 0 by the template 'total and deterministic' (their statements: YthhgjloephkpaaaTotals.lean).
  GIVEN WITH THE SEED: the statements are not yours to turn. If you find one false, say at which input.
  Laid BY PROGRAM, IN A SANDBOX (cutbox-rows.mjs): the forced cells as the released guide's own fill.sh prints them over the translation c8ba98c306f5b13e… (all of the seat's roots in one cut). By AI agents, Wed Nov 11 2026. No macro, syntax, notation, axiom, sorry.
-/
import Derived.Test.YthhgjloephkpaaaChecked
import GoSem.Claim
import GoSem.ClaimJoined
import GoSem.ClaimMapViews
import Derived.JoinedTies
import Derived.KernelRfl
namespace Go.Proofs.Ythhgjloephkpaaa
/- THE CELL 'sum', in the pinned program and in every row, IS THE sha256 OF THE DUMP (.gsa) THAT YthhgjloephkpaaaProg.lean LOADS. Nothing in Lean hashes anything: it is a label: what it is worth is what the hold of that sum in a sandbox is worth. -/
noncomputable def Try.pinned : Pinned := { name := "ythhgjloephkpaaa", sum := "c8ba98c306f5b13e879242f6789ef3d0d8b058bf766aeeff43f48d0d56e8c704", checked := Try.checked }
namespace Rows
def none {H : Type} : Left H := { results := [], args := [] }

/-- 'isoclinelaw01.RatMakes': WHATEVER THE INPUT: true; the input reads as it did. -/
def ratMakesSpec : ChangeSpec := { name := "ratMakes", fn := fun _ => fun
  | [d1, d2, d3, d4] => { results := [.lit (.bool true)], args := [d1, d2, d3, d4] }
  | _ => none }
def ratMakesRow : OpenClaim := { program := "ythhgjloephkpaaa", sum := "c8ba98c306f5b13e879242f6789ef3d0d8b058bf766aeeff43f48d0d56e8c704", func := "isocline/isoclinelaw01.RatMakes", spec := "ratMakes", apart := false }
def RatMakesSaid : Prop := ratMakesRow.holds Try.pinned (OpenSpec.ofChange ratMakesSpec)

/-- ITS FALSE NEIGHBOUR: 'it returns false'. Refute it at one input. -/
def ratMakesWrong : ChangeSpec := { name := "ratMakes", fn := fun _ => fun
  | [d1, d2, d3, d4] => { results := [.lit (.bool false)], args := [d1, d2, d3, d4] }
  | _ => none }
def RatMakesWrongFalsely : Prop := ratMakesRow.holds Try.pinned (OpenSpec.ofChange ratMakesWrong)

/-- 'isoclinelaw01.RatArith': WHATEVER THE INPUT: true; the input reads as it did. -/
def ratArithSpec : ChangeSpec := { name := "ratArith", fn := fun _ => fun
  | [d1, d2] => { results := [.lit (.bool true)], args := [d1, d2] }
  | _ => none }
def ratArithRow : OpenClaim := { program := "ythhgjloephkpaaa", sum := "c8ba98c306f5b13e879242f6789ef3d0d8b058bf766aeeff43f48d0d56e8c704", func := "isocline/isoclinelaw01.RatArith", spec := "ratArith", unfollowed := true, recurses := true, apart := false }
def RatArithSaid : Prop := ratArithRow.holds Try.pinned (OpenSpec.ofChange ratArithSpec)

/-- ITS FALSE NEIGHBOUR: 'it returns false'. Refute it at one input. -/
def ratArithWrong : ChangeSpec := { name := "ratArith", fn := fun _ => fun
  | [d1, d2] => { results := [.lit (.bool false)], args := [d1, d2] }
  | _ => none }
def RatArithWrongFalsely : Prop := ratArithRow.holds Try.pinned (OpenSpec.ofChange ratArithWrong)

/-- 'isoclinelaw01.RatField': WHATEVER THE INPUT: true; the input reads as it did. -/
def ratFieldSpec : ChangeSpec := { name := "ratField", fn := fun _ => fun
  | [d1, d2, d3] => { results := [.lit (.bool true)], args := [d1, d2, d3] }
  | _ => none }
def ratFieldRow : OpenClaim := { program := "ythhgjloephkpaaa", sum := "c8ba98c306f5b13e879242f6789ef3d0d8b058bf766aeeff43f48d0d56e8c704", func := "isocline/isoclinelaw01.RatField", spec := "ratField", unfollowed := true, recurses := true, apart := false }
def RatFieldSaid : Prop := ratFieldRow.holds Try.pinned (OpenSpec.ofChange ratFieldSpec)

/-- ITS FALSE NEIGHBOUR: 'it returns false'. Refute it at one input. -/
def ratFieldWrong : ChangeSpec := { name := "ratField", fn := fun _ => fun
  | [d1, d2, d3] => { results := [.lit (.bool false)], args := [d1, d2, d3] }
  | _ => none }
def RatFieldWrongFalsely : Prop := ratFieldRow.holds Try.pinned (OpenSpec.ofChange ratFieldWrong)

/-- 'isoclinelaw01.RatSimplest': WHATEVER THE INPUT: true; the input reads as it did. -/
def ratSimplestSpec : ChangeSpec := { name := "ratSimplest", fn := fun _ => fun
  | [d1, d2] => { results := [.lit (.bool true)], args := [d1, d2] }
  | _ => none }
def ratSimplestRow : OpenClaim := { program := "ythhgjloephkpaaa", sum := "c8ba98c306f5b13e879242f6789ef3d0d8b058bf766aeeff43f48d0d56e8c704", func := "isocline/isoclinelaw01.RatSimplest", spec := "ratSimplest", recurses := true, apart := false }
def RatSimplestSaid : Prop := ratSimplestRow.holds Try.pinned (OpenSpec.ofChange ratSimplestSpec)

/-- ITS FALSE NEIGHBOUR: 'it returns false'. Refute it at one input. -/
def ratSimplestWrong : ChangeSpec := { name := "ratSimplest", fn := fun _ => fun
  | [d1, d2] => { results := [.lit (.bool false)], args := [d1, d2] }
  | _ => none }
def RatSimplestWrongFalsely : Prop := ratSimplestRow.holds Try.pinned (OpenSpec.ofChange ratSimplestWrong)

/-- 'isoclinelaw01.RatLeast': WHATEVER THE INPUT: true; the input reads as it did. -/
def ratLeastSpec : ChangeSpec := { name := "ratLeast", fn := fun _ => fun
  | [d1, d2, d3, d4] => { results := [.lit (.bool true)], args := [d1, d2, d3, d4] }
  | _ => none }
def ratLeastRow : OpenClaim := { program := "ythhgjloephkpaaa", sum := "c8ba98c306f5b13e879242f6789ef3d0d8b058bf766aeeff43f48d0d56e8c704", func := "isocline/isoclinelaw01.RatLeast", spec := "ratLeast", recurses := true, apart := false }
def RatLeastSaid : Prop := ratLeastRow.holds Try.pinned (OpenSpec.ofChange ratLeastSpec)

/-- ITS FALSE NEIGHBOUR: 'it returns false'. Refute it at one input. -/
def ratLeastWrong : ChangeSpec := { name := "ratLeast", fn := fun _ => fun
  | [d1, d2, d3, d4] => { results := [.lit (.bool false)], args := [d1, d2, d3, d4] }
  | _ => none }
def RatLeastWrongFalsely : Prop := ratLeastRow.holds Try.pinned (OpenSpec.ofChange ratLeastWrong)

/-- 'isoclinelaw01.RatFractions': WHATEVER THE INPUT: true; the input reads as it did. -/
def ratFractionsSpec : ChangeSpec := { name := "ratFractions", fn := fun _ => fun
  | [d1, d2] => { results := [.lit (.bool true)], args := [d1, d2] }
  | _ => none }
def ratFractionsRow : OpenClaim := { program := "ythhgjloephkpaaa", sum := "c8ba98c306f5b13e879242f6789ef3d0d8b058bf766aeeff43f48d0d56e8c704", func := "isocline/isoclinelaw01.RatFractions", spec := "ratFractions", apart := false }
def RatFractionsSaid : Prop := ratFractionsRow.holds Try.pinned (OpenSpec.ofChange ratFractionsSpec)

/-- ITS FALSE NEIGHBOUR: 'it returns false'. Refute it at one input. -/
def ratFractionsWrong : ChangeSpec := { name := "ratFractions", fn := fun _ => fun
  | [d1, d2] => { results := [.lit (.bool false)], args := [d1, d2] }
  | _ => none }
def RatFractionsWrongFalsely : Prop := ratFractionsRow.holds Try.pinned (OpenSpec.ofChange ratFractionsWrong)

/-- 'isoclinelaw01.RatLists': WHATEVER THE INPUT: true; the input reads as it did. -/
def ratListsSpec : ChangeSpec := { name := "ratLists", fn := fun _ => fun
  | [d1, d2] => { results := [.lit (.bool true)], args := [d1, d2] }
  | _ => none }
def ratListsRow : OpenClaim := { program := "ythhgjloephkpaaa", sum := "c8ba98c306f5b13e879242f6789ef3d0d8b058bf766aeeff43f48d0d56e8c704", func := "isocline/isoclinelaw01.RatLists", spec := "ratLists", unfollowed := true, recurses := true, apart := false }
def RatListsSaid : Prop := ratListsRow.holds Try.pinned (OpenSpec.ofChange ratListsSpec)

/-- ITS FALSE NEIGHBOUR: 'it returns false'. Refute it at one input. -/
def ratListsWrong : ChangeSpec := { name := "ratLists", fn := fun _ => fun
  | [d1, d2] => { results := [.lit (.bool false)], args := [d1, d2] }
  | _ => none }
def RatListsWrongFalsely : Prop := ratListsRow.holds Try.pinned (OpenSpec.ofChange ratListsWrong)

/- THE SECOND FORM. 'bulk': how many values and letters a reading holds, each counted each time it is reached (what is shared counts as often as it is met; a slice's spare places count too). A statement '..UptoSaid' is the law's where the arguments, and the package variables that the reading takes, are together of bulk at most 1048576: NARROWER than '..Said'. Prove '..Said' where nothing that the law and all that it calls make is longer than what came in: it says more and counts as full. Else prove '..UptoSaid'. A law counts once. -/
mutual
def uptoBulk {H : Type} : DataW H → Nat
  | .lit (.string bytes) => bytes.length + 1
  | .lit _ => 1
  | .nil => 1
  | .ptr d => uptoBulk d + 1
  | .slice elems spare => uptoBulkAll elems + uptoBulkAll spare + 1
  | .agg parts => uptoBulkAll parts + 1
  | .iface _ d => uptoBulk d + 1
  | .map entries => uptoBulkEntries entries + 1
  | .held _ => 1
def uptoBulkAll {H : Type} : List (DataW H) → Nat
  | [] => 0
  | d :: r => uptoBulk d + uptoBulkAll r
def uptoBulkEntries {H : Type} : List (Lit × DataW H) → Nat
  | [] => 0
  | x :: r => uptoBulkEntry x + uptoBulkEntries r
def uptoBulkEntry {H : Type} : Lit × DataW H → Nat
  | (.string bytes, d) => bytes.length + uptoBulk d + 1
  | (_, d) => uptoBulk d + 1
 end
def uptoSmall : (H : Type) → List (DataW H) → Bool := fun _ ds => decide (uptoBulkAll ds ≤ 1048576)
def OpenSpec.upto (s : _root_.Go.ChangeSpec) : _root_.Go.OpenSpec := { _root_.Go.OpenSpec.ofChange s with cond := some uptoSmall }

/-- 'isoclinelaw01.RatMakes', WHERE WHAT IT READS IS OF BULK AT MOST 1048576: true; the input reads as it did. -/
def ratMakesUptoRow : OpenClaim := { program := "ythhgjloephkpaaa", sum := "c8ba98c306f5b13e879242f6789ef3d0d8b058bf766aeeff43f48d0d56e8c704", func := "isocline/isoclinelaw01.RatMakes", spec := "ratMakes", apart := false, narrowed := true }
def RatMakesUptoSaid : Prop := ratMakesUptoRow.holds Try.pinned (OpenSpec.upto ratMakesSpec)

/-- 'isoclinelaw01.RatArith', WHERE WHAT IT READS IS OF BULK AT MOST 1048576: true; the input reads as it did. -/
def ratArithUptoRow : OpenClaim := { program := "ythhgjloephkpaaa", sum := "c8ba98c306f5b13e879242f6789ef3d0d8b058bf766aeeff43f48d0d56e8c704", func := "isocline/isoclinelaw01.RatArith", spec := "ratArith", unfollowed := true, recurses := true, apart := false, narrowed := true }
def RatArithUptoSaid : Prop := ratArithUptoRow.holds Try.pinned (OpenSpec.upto ratArithSpec)

/-- 'isoclinelaw01.RatField', WHERE WHAT IT READS IS OF BULK AT MOST 1048576: true; the input reads as it did. -/
def ratFieldUptoRow : OpenClaim := { program := "ythhgjloephkpaaa", sum := "c8ba98c306f5b13e879242f6789ef3d0d8b058bf766aeeff43f48d0d56e8c704", func := "isocline/isoclinelaw01.RatField", spec := "ratField", unfollowed := true, recurses := true, apart := false, narrowed := true }
def RatFieldUptoSaid : Prop := ratFieldUptoRow.holds Try.pinned (OpenSpec.upto ratFieldSpec)

/-- 'isoclinelaw01.RatSimplest', WHERE WHAT IT READS IS OF BULK AT MOST 1048576: true; the input reads as it did. -/
def ratSimplestUptoRow : OpenClaim := { program := "ythhgjloephkpaaa", sum := "c8ba98c306f5b13e879242f6789ef3d0d8b058bf766aeeff43f48d0d56e8c704", func := "isocline/isoclinelaw01.RatSimplest", spec := "ratSimplest", recurses := true, apart := false, narrowed := true }
def RatSimplestUptoSaid : Prop := ratSimplestUptoRow.holds Try.pinned (OpenSpec.upto ratSimplestSpec)

/-- 'isoclinelaw01.RatLeast', WHERE WHAT IT READS IS OF BULK AT MOST 1048576: true; the input reads as it did. -/
def ratLeastUptoRow : OpenClaim := { program := "ythhgjloephkpaaa", sum := "c8ba98c306f5b13e879242f6789ef3d0d8b058bf766aeeff43f48d0d56e8c704", func := "isocline/isoclinelaw01.RatLeast", spec := "ratLeast", recurses := true, apart := false, narrowed := true }
def RatLeastUptoSaid : Prop := ratLeastUptoRow.holds Try.pinned (OpenSpec.upto ratLeastSpec)

/-- 'isoclinelaw01.RatFractions', WHERE WHAT IT READS IS OF BULK AT MOST 1048576: true; the input reads as it did. -/
def ratFractionsUptoRow : OpenClaim := { program := "ythhgjloephkpaaa", sum := "c8ba98c306f5b13e879242f6789ef3d0d8b058bf766aeeff43f48d0d56e8c704", func := "isocline/isoclinelaw01.RatFractions", spec := "ratFractions", apart := false, narrowed := true }
def RatFractionsUptoSaid : Prop := ratFractionsUptoRow.holds Try.pinned (OpenSpec.upto ratFractionsSpec)

/-- 'isoclinelaw01.RatLists', WHERE WHAT IT READS IS OF BULK AT MOST 1048576: true; the input reads as it did. -/
def ratListsUptoRow : OpenClaim := { program := "ythhgjloephkpaaa", sum := "c8ba98c306f5b13e879242f6789ef3d0d8b058bf766aeeff43f48d0d56e8c704", func := "isocline/isoclinelaw01.RatLists", spec := "ratLists", unfollowed := true, recurses := true, apart := false, narrowed := true }
def RatListsUptoSaid : Prop := ratListsUptoRow.holds Try.pinned (OpenSpec.upto ratListsSpec)

end Rows
end Go.Proofs.Ythhgjloephkpaaa
