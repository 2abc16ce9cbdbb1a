/-
  No cell of these rows narrows 'for every input' (looked for: loops, veiled, ifaces, maps, wideKeys, modest, calm, conditions, laid).
  DERIVED. THE GIVEN ROWS OF THIS SEAT. 3 by the template 'for every input the law returns true; each argument reads behind the call as it read before'; 0 by the template 'total and deterministic' (their statements: YthmfkdlncnjjoaaTotals.lean).
  GIVEN WITH THE SEED: the statements are not yours to turn. If you find one false, say at which input.
  Laid BY PROGRAM, IN A SANDBOX (cutbox-rows.mjs): the forced cells as the released guide's own fill.sh prints them over the translation 32b4a67ed690ae9b… (all of the seat's roots in one cut). By AI agents, Wed Nov 11 2026. No macro, syntax, notation, axiom, sorry.
-/
import Derived.Test.YthmfkdlncnjjoaaChecked
import GoSem.Claim
import GoSem.ClaimJoined
import GoSem.ClaimMapViews
import Derived.JoinedTies
import Derived.KernelRfl
namespace Go.Proofs.Ythmfkdlncnjjoaa
/- THE CELL 'sum', in the pinned program and in every row, IS THE sha256 OF THE DUMP (.gsa) THAT YthmfkdlncnjjoaaProg.lean LOADS. Nothing in Lean hashes anything: it is a label: what it is worth is what the hold of that sum in a sandbox is worth. -/
noncomputable def Try.pinned : Pinned := { name := "ythmfkdlncnjjoaa", sum := "32b4a67ed690ae9be3b552909f69de286f1e7a1ee62206d8ab62398658b7a380", checked := Try.checked }
namespace Rows
def none {H : Type} : Left H := { results := [], args := [] }

/-- 'laws.FnExactInstrValid': WHATEVER THE INPUT: true; the input reads as it did. -/
def fnExactInstrValidSpec : ChangeSpec := { name := "fnExactInstrValid", fn := fun _ => fun
  | [d] => { results := [.lit (.bool true)], args := [d] }
  | _ => none }
def fnExactInstrValidRow : OpenClaim := { program := "ythmfkdlncnjjoaa", sum := "32b4a67ed690ae9be3b552909f69de286f1e7a1ee62206d8ab62398658b7a380", func := "loop.example/cothreads/laws.FnExactInstrValid", spec := "fnExactInstrValid", apart := false }
def FnExactInstrValidSaid : Prop := fnExactInstrValidRow.holds Try.pinned (OpenSpec.ofChange fnExactInstrValidSpec)

/-- ITS FALSE NEIGHBOUR: 'it returns false'. Refute it at one input. -/
def fnExactInstrValidWrong : ChangeSpec := { name := "fnExactInstrValid", fn := fun _ => fun
  | [d] => { results := [.lit (.bool false)], args := [d] }
  | _ => none }
def FnExactInstrValidWrongFalsely : Prop := fnExactInstrValidRow.holds Try.pinned (OpenSpec.ofChange fnExactInstrValidWrong)

/-- 'laws.FnInstr': WHATEVER THE INPUT: true; the input reads as it did. -/
def fnInstrSpec : ChangeSpec := { name := "fnInstr", fn := fun _ => fun
  | [d] => { results := [.lit (.bool true)], args := [d] }
  | _ => none }
def fnInstrRow : OpenClaim := { program := "ythmfkdlncnjjoaa", sum := "32b4a67ed690ae9be3b552909f69de286f1e7a1ee62206d8ab62398658b7a380", func := "loop.example/cothreads/laws.FnInstr", spec := "fnInstr", apart := false }
def FnInstrSaid : Prop := fnInstrRow.holds Try.pinned (OpenSpec.ofChange fnInstrSpec)

/-- ITS FALSE NEIGHBOUR: 'it returns false'. Refute it at one input. -/
def fnInstrWrong : ChangeSpec := { name := "fnInstr", fn := fun _ => fun
  | [d] => { results := [.lit (.bool false)], args := [d] }
  | _ => none }
def FnInstrWrongFalsely : Prop := fnInstrRow.holds Try.pinned (OpenSpec.ofChange fnInstrWrong)

/-- 'laws.FnInstrOther': WHATEVER THE INPUT: true; the input reads as it did. -/
def fnInstrOtherSpec : ChangeSpec := { name := "fnInstrOther", fn := fun _ => fun
  | [d1, d2] => { results := [.lit (.bool true)], args := [d1, d2] }
  | _ => none }
def fnInstrOtherRow : OpenClaim := { program := "ythmfkdlncnjjoaa", sum := "32b4a67ed690ae9be3b552909f69de286f1e7a1ee62206d8ab62398658b7a380", func := "loop.example/cothreads/laws.FnInstrOther", spec := "fnInstrOther", apart := false }
def FnInstrOtherSaid : Prop := fnInstrOtherRow.holds Try.pinned (OpenSpec.ofChange fnInstrOtherSpec)

/-- ITS FALSE NEIGHBOUR: 'it returns false'. Refute it at one input. -/
def fnInstrOtherWrong : ChangeSpec := { name := "fnInstrOther", fn := fun _ => fun
  | [d1, d2] => { results := [.lit (.bool false)], args := [d1, d2] }
  | _ => none }
def FnInstrOtherWrongFalsely : Prop := fnInstrOtherRow.holds Try.pinned (OpenSpec.ofChange fnInstrOtherWrong)

/- THE SECOND FORM. 'bulk': how many values and letters a reading holds, each counted each time it is reached (what is shared counts as often as it is met; a slice's spare places count too). A statement '..UptoSaid' is the law's where the arguments, and the package variables that the reading takes, are together of bulk at most 1048576: NARROWER than '..Said'. Prove '..Said' where nothing that the law and all that it calls make is longer than what came in: it says more and counts as full. Else prove '..UptoSaid'. A law counts once. -/
mutual
def uptoBulk {H : Type} : DataW H → Nat
  | .lit (.string bytes) => bytes.length + 1
  | .lit _ => 1
  | .nil => 1
  | .ptr d => uptoBulk d + 1
  | .slice elems spare => uptoBulkAll elems + uptoBulkAll spare + 1
  | .agg parts => uptoBulkAll parts + 1
  | .iface _ d => uptoBulk d + 1
  | .map entries => uptoBulkEntries entries + 1
  | .held _ => 1
def uptoBulkAll {H : Type} : List (DataW H) → Nat
  | [] => 0
  | d :: r => uptoBulk d + uptoBulkAll r
def uptoBulkEntries {H : Type} : List (Lit × DataW H) → Nat
  | [] => 0
  | x :: r => uptoBulkEntry x + uptoBulkEntries r
def uptoBulkEntry {H : Type} : Lit × DataW H → Nat
  | (.string bytes, d) => bytes.length + uptoBulk d + 1
  | (_, d) => uptoBulk d + 1
 end
def uptoSmall : (H : Type) → List (DataW H) → Bool := fun _ ds => decide (uptoBulkAll ds ≤ 1048576)
def OpenSpec.upto (s : _root_.Go.ChangeSpec) : _root_.Go.OpenSpec := { _root_.Go.OpenSpec.ofChange s with cond := some uptoSmall }

/-- 'laws.FnExactInstrValid', WHERE WHAT IT READS IS OF BULK AT MOST 1048576: true; the input reads as it did. -/
def fnExactInstrValidUptoRow : OpenClaim := { program := "ythmfkdlncnjjoaa", sum := "32b4a67ed690ae9be3b552909f69de286f1e7a1ee62206d8ab62398658b7a380", func := "loop.example/cothreads/laws.FnExactInstrValid", spec := "fnExactInstrValid", apart := false, narrowed := true }
def FnExactInstrValidUptoSaid : Prop := fnExactInstrValidUptoRow.holds Try.pinned (OpenSpec.upto fnExactInstrValidSpec)

/-- 'laws.FnInstr', WHERE WHAT IT READS IS OF BULK AT MOST 1048576: true; the input reads as it did. -/
def fnInstrUptoRow : OpenClaim := { program := "ythmfkdlncnjjoaa", sum := "32b4a67ed690ae9be3b552909f69de286f1e7a1ee62206d8ab62398658b7a380", func := "loop.example/cothreads/laws.FnInstr", spec := "fnInstr", apart := false, narrowed := true }
def FnInstrUptoSaid : Prop := fnInstrUptoRow.holds Try.pinned (OpenSpec.upto fnInstrSpec)

/-- 'laws.FnInstrOther', WHERE WHAT IT READS IS OF BULK AT MOST 1048576: true; the input reads as it did. -/
def fnInstrOtherUptoRow : OpenClaim := { program := "ythmfkdlncnjjoaa", sum := "32b4a67ed690ae9be3b552909f69de286f1e7a1ee62206d8ab62398658b7a380", func := "loop.example/cothreads/laws.FnInstrOther", spec := "fnInstrOther", apart := false, narrowed := true }
def FnInstrOtherUptoSaid : Prop := fnInstrOtherUptoRow.holds Try.pinned (OpenSpec.upto fnInstrOtherSpec)

end Rows
end Go.Proofs.Ythmfkdlncnjjoaa
