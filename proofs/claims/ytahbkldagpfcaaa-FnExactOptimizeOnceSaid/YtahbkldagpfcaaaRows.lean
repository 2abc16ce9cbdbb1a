/-
  No cell of these rows narrows 'for every input' (looked for: loops, veiled, ifaces, maps, wideKeys, modest, calm, conditions, laid).
  DERIVED. THE GIVEN ROWS OF THIS SEAT. 6 by the template 'for every input the law returns true; each argument reads behind the call as it read before'; 0 by the template 'total and deterministic' (their statements: YtahbkldagpfcaaaTotals.lean).
  GIVEN WITH THE SEED: the statements are not yours to turn. If you find one false, say at which input.
  Laid BY PROGRAM, IN A SANDBOX (cutbox-rows.mjs): the forced cells as the released guide's own fill.sh prints them over the translation b18c50d0a310d544… (all of the seat's roots in one cut). By AI agents, Wed Nov 11 2026. No macro, syntax, notation, axiom, sorry.
-/
import Derived.Test.YtahbkldagpfcaaaChecked
import GoSem.Claim
import GoSem.ClaimJoined
import GoSem.ClaimMapViews
import Derived.JoinedTies
import Derived.KernelRfl
namespace Go.Proofs.Ytahbkldagpfcaaa
/- THE CELL 'sum', in the pinned program and in every row, IS THE sha256 OF THE DUMP (.gsa) THAT YtahbkldagpfcaaaProg.lean LOADS. Nothing in Lean hashes anything: it is a label: what it is worth is what the hold of that sum in a sandbox is worth. -/
noncomputable def Try.pinned : Pinned := { name := "ytahbkldagpfcaaa", sum := "b18c50d0a310d5443ca10a93d2cc509030affbd192365f591d22765a0d5ef91d", checked := Try.checked }
namespace Rows
def none {H : Type} : Left H := { results := [], args := [] }

/-- 'laws.FnExactPlacesMeet': WHATEVER THE INPUT: true; the input reads as it did. -/
def fnExactPlacesMeetSpec : ChangeSpec := { name := "fnExactPlacesMeet", fn := fun _ => fun
  | [d1, d2, d3] => { results := [.lit (.bool true)], args := [d1, d2, d3] }
  | _ => none }
def fnExactPlacesMeetRow : OpenClaim := { program := "ytahbkldagpfcaaa", sum := "b18c50d0a310d5443ca10a93d2cc509030affbd192365f591d22765a0d5ef91d", func := "loop.example/cothreads/laws.FnExactPlacesMeet", spec := "fnExactPlacesMeet", apart := false }
def FnExactPlacesMeetSaid : Prop := fnExactPlacesMeetRow.holds Try.pinned (OpenSpec.ofChange fnExactPlacesMeetSpec)

/-- ITS FALSE NEIGHBOUR: 'it returns false'. Refute it at one input. -/
def fnExactPlacesMeetWrong : ChangeSpec := { name := "fnExactPlacesMeet", fn := fun _ => fun
  | [d1, d2, d3] => { results := [.lit (.bool false)], args := [d1, d2, d3] }
  | _ => none }
def FnExactPlacesMeetWrongFalsely : Prop := fnExactPlacesMeetRow.holds Try.pinned (OpenSpec.ofChange fnExactPlacesMeetWrong)

/-- 'laws.FnExactPlacesMany': WHATEVER THE INPUT: true; the input reads as it did. -/
def fnExactPlacesManySpec : ChangeSpec := { name := "fnExactPlacesMany", fn := fun _ => fun
  | [d] => { results := [.lit (.bool true)], args := [d] }
  | _ => none }
def fnExactPlacesManyRow : OpenClaim := { program := "ytahbkldagpfcaaa", sum := "b18c50d0a310d5443ca10a93d2cc509030affbd192365f591d22765a0d5ef91d", func := "loop.example/cothreads/laws.FnExactPlacesMany", spec := "fnExactPlacesMany", apart := false }
def FnExactPlacesManySaid : Prop := fnExactPlacesManyRow.holds Try.pinned (OpenSpec.ofChange fnExactPlacesManySpec)

/-- ITS FALSE NEIGHBOUR: 'it returns false'. Refute it at one input. -/
def fnExactPlacesManyWrong : ChangeSpec := { name := "fnExactPlacesMany", fn := fun _ => fun
  | [d] => { results := [.lit (.bool false)], args := [d] }
  | _ => none }
def FnExactPlacesManyWrongFalsely : Prop := fnExactPlacesManyRow.holds Try.pinned (OpenSpec.ofChange fnExactPlacesManyWrong)

/-- 'laws.FnExactPlacesOf': WHATEVER THE INPUT: true; the input reads as it did. -/
def fnExactPlacesOfSpec : ChangeSpec := { name := "fnExactPlacesOf", fn := fun _ => fun
  | [d] => { results := [.lit (.bool true)], args := [d] }
  | _ => none }
def fnExactPlacesOfRow : OpenClaim := { program := "ytahbkldagpfcaaa", sum := "b18c50d0a310d5443ca10a93d2cc509030affbd192365f591d22765a0d5ef91d", func := "loop.example/cothreads/laws.FnExactPlacesOf", spec := "fnExactPlacesOf", apart := false }
def FnExactPlacesOfSaid : Prop := fnExactPlacesOfRow.holds Try.pinned (OpenSpec.ofChange fnExactPlacesOfSpec)

/-- ITS FALSE NEIGHBOUR: 'it returns false'. Refute it at one input. -/
def fnExactPlacesOfWrong : ChangeSpec := { name := "fnExactPlacesOf", fn := fun _ => fun
  | [d] => { results := [.lit (.bool false)], args := [d] }
  | _ => none }
def FnExactPlacesOfWrongFalsely : Prop := fnExactPlacesOfRow.holds Try.pinned (OpenSpec.ofChange fnExactPlacesOfWrong)

/-- 'laws.FnExactPlaceCode': WHATEVER THE INPUT: true; the input reads as it did. -/
def fnExactPlaceCodeSpec : ChangeSpec := { name := "fnExactPlaceCode", fn := fun _ => fun
  | [d] => { results := [.lit (.bool true)], args := [d] }
  | _ => none }
def fnExactPlaceCodeRow : OpenClaim := { program := "ytahbkldagpfcaaa", sum := "b18c50d0a310d5443ca10a93d2cc509030affbd192365f591d22765a0d5ef91d", func := "loop.example/cothreads/laws.FnExactPlaceCode", spec := "fnExactPlaceCode", apart := false }
def FnExactPlaceCodeSaid : Prop := fnExactPlaceCodeRow.holds Try.pinned (OpenSpec.ofChange fnExactPlaceCodeSpec)

/-- ITS FALSE NEIGHBOUR: 'it returns false'. Refute it at one input. -/
def fnExactPlaceCodeWrong : ChangeSpec := { name := "fnExactPlaceCode", fn := fun _ => fun
  | [d] => { results := [.lit (.bool false)], args := [d] }
  | _ => none }
def FnExactPlaceCodeWrongFalsely : Prop := fnExactPlaceCodeRow.holds Try.pinned (OpenSpec.ofChange fnExactPlaceCodeWrong)

/-- 'laws.FnExactOptimizeOnce': WHATEVER THE INPUT: true; the input reads as it did. -/
def fnExactOptimizeOnceSpec : ChangeSpec := { name := "fnExactOptimizeOnce", fn := fun _ => fun
  | [d] => { results := [.lit (.bool true)], args := [d] }
  | _ => none }
def fnExactOptimizeOnceRow : OpenClaim := { program := "ytahbkldagpfcaaa", sum := "b18c50d0a310d5443ca10a93d2cc509030affbd192365f591d22765a0d5ef91d", func := "loop.example/cothreads/laws.FnExactOptimizeOnce", spec := "fnExactOptimizeOnce", unfollowed := true, recurses := true, apart := false }
def FnExactOptimizeOnceSaid : Prop := fnExactOptimizeOnceRow.holds Try.pinned (OpenSpec.ofChange fnExactOptimizeOnceSpec)

/-- ITS FALSE NEIGHBOUR: 'it returns false'. Refute it at one input. -/
def fnExactOptimizeOnceWrong : ChangeSpec := { name := "fnExactOptimizeOnce", fn := fun _ => fun
  | [d] => { results := [.lit (.bool false)], args := [d] }
  | _ => none }
def FnExactOptimizeOnceWrongFalsely : Prop := fnExactOptimizeOnceRow.holds Try.pinned (OpenSpec.ofChange fnExactOptimizeOnceWrong)

/-- 'laws.FnExactOptimizeCode': WHATEVER THE INPUT: true; the input reads as it did. -/
def fnExactOptimizeCodeSpec : ChangeSpec := { name := "fnExactOptimizeCode", fn := fun _ => fun
  | [d1, d2] => { results := [.lit (.bool true)], args := [d1, d2] }
  | _ => none }
def fnExactOptimizeCodeRow : OpenClaim := { program := "ytahbkldagpfcaaa", sum := "b18c50d0a310d5443ca10a93d2cc509030affbd192365f591d22765a0d5ef91d", func := "loop.example/cothreads/laws.FnExactOptimizeCode", spec := "fnExactOptimizeCode", unfollowed := true, recurses := true, apart := false }
def FnExactOptimizeCodeSaid : Prop := fnExactOptimizeCodeRow.holds Try.pinned (OpenSpec.ofChange fnExactOptimizeCodeSpec)

/-- ITS FALSE NEIGHBOUR: 'it returns false'. Refute it at one input. -/
def fnExactOptimizeCodeWrong : ChangeSpec := { name := "fnExactOptimizeCode", fn := fun _ => fun
  | [d1, d2] => { results := [.lit (.bool false)], args := [d1, d2] }
  | _ => none }
def FnExactOptimizeCodeWrongFalsely : Prop := fnExactOptimizeCodeRow.holds Try.pinned (OpenSpec.ofChange fnExactOptimizeCodeWrong)

/- THE SECOND FORM. 'bulk': how many values and letters a reading holds, each counted each time it is reached (what is shared counts as often as it is met; a slice's spare places count too). A statement '..UptoSaid' is the law's where the arguments, and the package variables that the reading takes, are together of bulk at most 1048576: NARROWER than '..Said'. Prove '..Said' where nothing that the law and all that it calls make is longer than what came in: it says more and counts as full. Else prove '..UptoSaid'. A law counts once. -/
mutual
def uptoBulk {H : Type} : DataW H → Nat
  | .lit (.string bytes) => bytes.length + 1
  | .lit _ => 1
  | .nil => 1
  | .ptr d => uptoBulk d + 1
  | .slice elems spare => uptoBulkAll elems + uptoBulkAll spare + 1
  | .agg parts => uptoBulkAll parts + 1
  | .iface _ d => uptoBulk d + 1
  | .map entries => uptoBulkEntries entries + 1
  | .held _ => 1
def uptoBulkAll {H : Type} : List (DataW H) → Nat
  | [] => 0
  | d :: r => uptoBulk d + uptoBulkAll r
def uptoBulkEntries {H : Type} : List (Lit × DataW H) → Nat
  | [] => 0
  | x :: r => uptoBulkEntry x + uptoBulkEntries r
def uptoBulkEntry {H : Type} : Lit × DataW H → Nat
  | (.string bytes, d) => bytes.length + uptoBulk d + 1
  | (_, d) => uptoBulk d + 1
 end
def uptoSmall : (H : Type) → List (DataW H) → Bool := fun _ ds => decide (uptoBulkAll ds ≤ 1048576)
def OpenSpec.upto (s : _root_.Go.ChangeSpec) : _root_.Go.OpenSpec := { _root_.Go.OpenSpec.ofChange s with cond := some uptoSmall }

/-- 'laws.FnExactPlacesMeet', WHERE WHAT IT READS IS OF BULK AT MOST 1048576: true; the input reads as it did. -/
def fnExactPlacesMeetUptoRow : OpenClaim := { program := "ytahbkldagpfcaaa", sum := "b18c50d0a310d5443ca10a93d2cc509030affbd192365f591d22765a0d5ef91d", func := "loop.example/cothreads/laws.FnExactPlacesMeet", spec := "fnExactPlacesMeet", apart := false, narrowed := true }
def FnExactPlacesMeetUptoSaid : Prop := fnExactPlacesMeetUptoRow.holds Try.pinned (OpenSpec.upto fnExactPlacesMeetSpec)

/-- 'laws.FnExactPlacesMany', WHERE WHAT IT READS IS OF BULK AT MOST 1048576: true; the input reads as it did. -/
def fnExactPlacesManyUptoRow : OpenClaim := { program := "ytahbkldagpfcaaa", sum := "b18c50d0a310d5443ca10a93d2cc509030affbd192365f591d22765a0d5ef91d", func := "loop.example/cothreads/laws.FnExactPlacesMany", spec := "fnExactPlacesMany", apart := false, narrowed := true }
def FnExactPlacesManyUptoSaid : Prop := fnExactPlacesManyUptoRow.holds Try.pinned (OpenSpec.upto fnExactPlacesManySpec)

/-- 'laws.FnExactPlacesOf', WHERE WHAT IT READS IS OF BULK AT MOST 1048576: true; the input reads as it did. -/
def fnExactPlacesOfUptoRow : OpenClaim := { program := "ytahbkldagpfcaaa", sum := "b18c50d0a310d5443ca10a93d2cc509030affbd192365f591d22765a0d5ef91d", func := "loop.example/cothreads/laws.FnExactPlacesOf", spec := "fnExactPlacesOf", apart := false, narrowed := true }
def FnExactPlacesOfUptoSaid : Prop := fnExactPlacesOfUptoRow.holds Try.pinned (OpenSpec.upto fnExactPlacesOfSpec)

/-- 'laws.FnExactPlaceCode', WHERE WHAT IT READS IS OF BULK AT MOST 1048576: true; the input reads as it did. -/
def fnExactPlaceCodeUptoRow : OpenClaim := { program := "ytahbkldagpfcaaa", sum := "b18c50d0a310d5443ca10a93d2cc509030affbd192365f591d22765a0d5ef91d", func := "loop.example/cothreads/laws.FnExactPlaceCode", spec := "fnExactPlaceCode", apart := false, narrowed := true }
def FnExactPlaceCodeUptoSaid : Prop := fnExactPlaceCodeUptoRow.holds Try.pinned (OpenSpec.upto fnExactPlaceCodeSpec)

/-- 'laws.FnExactOptimizeOnce', WHERE WHAT IT READS IS OF BULK AT MOST 1048576: true; the input reads as it did. -/
def fnExactOptimizeOnceUptoRow : OpenClaim := { program := "ytahbkldagpfcaaa", sum := "b18c50d0a310d5443ca10a93d2cc509030affbd192365f591d22765a0d5ef91d", func := "loop.example/cothreads/laws.FnExactOptimizeOnce", spec := "fnExactOptimizeOnce", unfollowed := true, recurses := true, apart := false, narrowed := true }
def FnExactOptimizeOnceUptoSaid : Prop := fnExactOptimizeOnceUptoRow.holds Try.pinned (OpenSpec.upto fnExactOptimizeOnceSpec)

/-- 'laws.FnExactOptimizeCode', WHERE WHAT IT READS IS OF BULK AT MOST 1048576: true; the input reads as it did. -/
def fnExactOptimizeCodeUptoRow : OpenClaim := { program := "ytahbkldagpfcaaa", sum := "b18c50d0a310d5443ca10a93d2cc509030affbd192365f591d22765a0d5ef91d", func := "loop.example/cothreads/laws.FnExactOptimizeCode", spec := "fnExactOptimizeCode", unfollowed := true, recurses := true, apart := false, narrowed := true }
def FnExactOptimizeCodeUptoSaid : Prop := fnExactOptimizeCodeUptoRow.holds Try.pinned (OpenSpec.upto fnExactOptimizeCodeSpec)

end Rows
end Go.Proofs.Ytahbkldagpfcaaa
