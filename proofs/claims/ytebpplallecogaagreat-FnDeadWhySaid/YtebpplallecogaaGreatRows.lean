/-
  No cell of these rows narrows 'for every input' (looked for: loops, veiled, ifaces, maps, wideKeys, modest, calm, conditions, laid).
  DERIVED. THE GIVEN ROWS OF THIS SEAT. 8 by the template 'for every input the law returns true; each argument reads behind the call as it read before'; 0 by the template 'total and deterministic' (their statements: YtebpplallecogaaGreatTotals.lean).
  GIVEN WITH THE SEED: the statements are not yours to turn. If you find one false, say at which input.
  Laid BY PROGRAM, IN A SANDBOX (cutbox-rows.mjs): the forced cells as the released guide's own fill.sh prints them over the translation 7e442130710e33e7… (all of the seat's roots in one cut). By AI agents, Wed Nov 11 2026. No macro, syntax, notation, axiom, sorry.
-/
import Derived.Test.YtebpplallecogaaGreatChecked
import GoSem.Claim
import GoSem.ClaimJoined
import GoSem.ClaimMapViews
import Derived.JoinedTies
import Derived.KernelRfl
namespace Go.Proofs.YtebpplallecogaaGreat
/- THE CELL 'sum', in the pinned program and in every row, IS THE sha256 OF THE DUMP (.gsa) THAT YtebpplallecogaaGreatProg.lean LOADS. Nothing in Lean hashes anything: it is a label: what it is worth is what the hold of that sum in a sandbox is worth. -/
noncomputable def Tryz.pinned : Pinned := { name := "ytebpplallecogaagreat", sum := "7e442130710e33e70b99f212a009989085b8c4369a4019afca4fb2863db752e0", checked := Tryz.checked }
namespace Rows
def none {H : Type} : Left H := { results := [], args := [] }

/-- 'laws.FnDeadMany': WHATEVER THE INPUT: true; the input reads as it did. -/
def fnDeadManySpec : ChangeSpec := { name := "fnDeadMany", fn := fun _ => fun
  | [d] => { results := [.lit (.bool true)], args := [d] }
  | _ => none }
def fnDeadManyRow : OpenClaim := { program := "ytebpplallecogaagreat", sum := "7e442130710e33e70b99f212a009989085b8c4369a4019afca4fb2863db752e0", func := "loop.example/cothreads/laws.FnDeadMany", spec := "fnDeadMany", recurses := true, apart := false }
def FnDeadManySaid : Prop := fnDeadManyRow.holds Tryz.pinned (OpenSpec.ofChange fnDeadManySpec)

/-- ITS FALSE NEIGHBOUR: 'it returns false'. Refute it at one input. -/
def fnDeadManyWrong : ChangeSpec := { name := "fnDeadMany", fn := fun _ => fun
  | [d] => { results := [.lit (.bool false)], args := [d] }
  | _ => none }
def FnDeadManyWrongFalsely : Prop := fnDeadManyRow.holds Tryz.pinned (OpenSpec.ofChange fnDeadManyWrong)

/-- 'laws.FnDead': WHATEVER THE INPUT: true; the input reads as it did. -/
def fnDeadSpec : ChangeSpec := { name := "fnDead", fn := fun _ => fun
  | [d] => { results := [.lit (.bool true)], args := [d] }
  | _ => none }
def fnDeadRow : OpenClaim := { program := "ytebpplallecogaagreat", sum := "7e442130710e33e70b99f212a009989085b8c4369a4019afca4fb2863db752e0", func := "loop.example/cothreads/laws.FnDead", spec := "fnDead", recurses := true, apart := false }
def FnDeadSaid : Prop := fnDeadRow.holds Tryz.pinned (OpenSpec.ofChange fnDeadSpec)

/-- ITS FALSE NEIGHBOUR: 'it returns false'. Refute it at one input. -/
def fnDeadWrong : ChangeSpec := { name := "fnDead", fn := fun _ => fun
  | [d] => { results := [.lit (.bool false)], args := [d] }
  | _ => none }
def FnDeadWrongFalsely : Prop := fnDeadRow.holds Tryz.pinned (OpenSpec.ofChange fnDeadWrong)

/-- 'laws.FnLiveEnd': WHATEVER THE INPUT: true; the input reads as it did. -/
def fnLiveEndSpec : ChangeSpec := { name := "fnLiveEnd", fn := fun _ => fun
  | [d] => { results := [.lit (.bool true)], args := [d] }
  | _ => none }
def fnLiveEndRow : OpenClaim := { program := "ytebpplallecogaagreat", sum := "7e442130710e33e70b99f212a009989085b8c4369a4019afca4fb2863db752e0", func := "loop.example/cothreads/laws.FnLiveEnd", spec := "fnLiveEnd", recurses := true, apart := false }
def FnLiveEndSaid : Prop := fnLiveEndRow.holds Tryz.pinned (OpenSpec.ofChange fnLiveEndSpec)

/-- ITS FALSE NEIGHBOUR: 'it returns false'. Refute it at one input. -/
def fnLiveEndWrong : ChangeSpec := { name := "fnLiveEnd", fn := fun _ => fun
  | [d] => { results := [.lit (.bool false)], args := [d] }
  | _ => none }
def FnLiveEndWrongFalsely : Prop := fnLiveEndRow.holds Tryz.pinned (OpenSpec.ofChange fnLiveEndWrong)

/-- 'laws.FnDeadWhy': WHATEVER THE INPUT: true; the input reads as it did. -/
def fnDeadWhySpec : ChangeSpec := { name := "fnDeadWhy", fn := fun _ => fun
  | [d1, d2] => { results := [.lit (.bool true)], args := [d1, d2] }
  | _ => none }
def fnDeadWhyRow : OpenClaim := { program := "ytebpplallecogaagreat", sum := "7e442130710e33e70b99f212a009989085b8c4369a4019afca4fb2863db752e0", func := "loop.example/cothreads/laws.FnDeadWhy", spec := "fnDeadWhy", recurses := true, apart := false }
def FnDeadWhySaid : Prop := fnDeadWhyRow.holds Tryz.pinned (OpenSpec.ofChange fnDeadWhySpec)

/-- ITS FALSE NEIGHBOUR: 'it returns false'. Refute it at one input. -/
def fnDeadWhyWrong : ChangeSpec := { name := "fnDeadWhy", fn := fun _ => fun
  | [d1, d2] => { results := [.lit (.bool false)], args := [d1, d2] }
  | _ => none }
def FnDeadWhyWrongFalsely : Prop := fnDeadWhyRow.holds Tryz.pinned (OpenSpec.ofChange fnDeadWhyWrong)

/-- 'laws.FnLiveOut': WHATEVER THE INPUT: true; the input reads as it did. -/
def fnLiveOutSpec : ChangeSpec := { name := "fnLiveOut", fn := fun _ => fun
  | [d] => { results := [.lit (.bool true)], args := [d] }
  | _ => none }
def fnLiveOutRow : OpenClaim := { program := "ytebpplallecogaagreat", sum := "7e442130710e33e70b99f212a009989085b8c4369a4019afca4fb2863db752e0", func := "loop.example/cothreads/laws.FnLiveOut", spec := "fnLiveOut", recurses := true, apart := false }
def FnLiveOutSaid : Prop := fnLiveOutRow.holds Tryz.pinned (OpenSpec.ofChange fnLiveOutSpec)

/-- ITS FALSE NEIGHBOUR: 'it returns false'. Refute it at one input. -/
def fnLiveOutWrong : ChangeSpec := { name := "fnLiveOut", fn := fun _ => fun
  | [d] => { results := [.lit (.bool false)], args := [d] }
  | _ => none }
def FnLiveOutWrongFalsely : Prop := fnLiveOutRow.holds Tryz.pinned (OpenSpec.ofChange fnLiveOutWrong)

/-- 'laws.FnDeadLive': WHATEVER THE INPUT: true; the input reads as it did. -/
def fnDeadLiveSpec : ChangeSpec := { name := "fnDeadLive", fn := fun _ => fun
  | [d] => { results := [.lit (.bool true)], args := [d] }
  | _ => none }
def fnDeadLiveRow : OpenClaim := { program := "ytebpplallecogaagreat", sum := "7e442130710e33e70b99f212a009989085b8c4369a4019afca4fb2863db752e0", func := "loop.example/cothreads/laws.FnDeadLive", spec := "fnDeadLive", recurses := true, apart := false }
def FnDeadLiveSaid : Prop := fnDeadLiveRow.holds Tryz.pinned (OpenSpec.ofChange fnDeadLiveSpec)

/-- ITS FALSE NEIGHBOUR: 'it returns false'. Refute it at one input. -/
def fnDeadLiveWrong : ChangeSpec := { name := "fnDeadLive", fn := fun _ => fun
  | [d] => { results := [.lit (.bool false)], args := [d] }
  | _ => none }
def FnDeadLiveWrongFalsely : Prop := fnDeadLiveRow.holds Tryz.pinned (OpenSpec.ofChange fnDeadLiveWrong)

/-- 'laws.FnLive': WHATEVER THE INPUT: true; the input reads as it did. -/
def fnLiveSpec : ChangeSpec := { name := "fnLive", fn := fun _ => fun
  | [d1, d2] => { results := [.lit (.bool true)], args := [d1, d2] }
  | _ => none }
def fnLiveRow : OpenClaim := { program := "ytebpplallecogaagreat", sum := "7e442130710e33e70b99f212a009989085b8c4369a4019afca4fb2863db752e0", func := "loop.example/cothreads/laws.FnLive", spec := "fnLive", recurses := true, apart := false }
def FnLiveSaid : Prop := fnLiveRow.holds Tryz.pinned (OpenSpec.ofChange fnLiveSpec)

/-- ITS FALSE NEIGHBOUR: 'it returns false'. Refute it at one input. -/
def fnLiveWrong : ChangeSpec := { name := "fnLive", fn := fun _ => fun
  | [d1, d2] => { results := [.lit (.bool false)], args := [d1, d2] }
  | _ => none }
def FnLiveWrongFalsely : Prop := fnLiveRow.holds Tryz.pinned (OpenSpec.ofChange fnLiveWrong)

/-- 'laws.FnLiveWhy': WHATEVER THE INPUT: true; the input reads as it did. -/
def fnLiveWhySpec : ChangeSpec := { name := "fnLiveWhy", fn := fun _ => fun
  | [d1, d2] => { results := [.lit (.bool true)], args := [d1, d2] }
  | _ => none }
def fnLiveWhyRow : OpenClaim := { program := "ytebpplallecogaagreat", sum := "7e442130710e33e70b99f212a009989085b8c4369a4019afca4fb2863db752e0", func := "loop.example/cothreads/laws.FnLiveWhy", spec := "fnLiveWhy", recurses := true, apart := false }
def FnLiveWhySaid : Prop := fnLiveWhyRow.holds Tryz.pinned (OpenSpec.ofChange fnLiveWhySpec)

/-- ITS FALSE NEIGHBOUR: 'it returns false'. Refute it at one input. -/
def fnLiveWhyWrong : ChangeSpec := { name := "fnLiveWhy", fn := fun _ => fun
  | [d1, d2] => { results := [.lit (.bool false)], args := [d1, d2] }
  | _ => none }
def FnLiveWhyWrongFalsely : Prop := fnLiveWhyRow.holds Tryz.pinned (OpenSpec.ofChange fnLiveWhyWrong)

/- THE SECOND FORM. 'bulk': how many values and letters a reading holds, each counted each time it is reached (what is shared counts as often as it is met; a slice's spare places count too). A statement '..UptoSaid' is the law's where the arguments, and the package variables that the reading takes, are together of bulk at most 1048576: NARROWER than '..Said'. Prove '..Said' where nothing that the law and all that it calls make is longer than what came in: it says more and counts as full. Else prove '..UptoSaid'. A law counts once. -/
mutual
def uptoBulk {H : Type} : DataW H → Nat
  | .lit (.string bytes) => bytes.length + 1
  | .lit _ => 1
  | .nil => 1
  | .ptr d => uptoBulk d + 1
  | .slice elems spare => uptoBulkAll elems + uptoBulkAll spare + 1
  | .agg parts => uptoBulkAll parts + 1
  | .iface _ d => uptoBulk d + 1
  | .map entries => uptoBulkEntries entries + 1
  | .held _ => 1
def uptoBulkAll {H : Type} : List (DataW H) → Nat
  | [] => 0
  | d :: r => uptoBulk d + uptoBulkAll r
def uptoBulkEntries {H : Type} : List (Lit × DataW H) → Nat
  | [] => 0
  | x :: r => uptoBulkEntry x + uptoBulkEntries r
def uptoBulkEntry {H : Type} : Lit × DataW H → Nat
  | (.string bytes, d) => bytes.length + uptoBulk d + 1
  | (_, d) => uptoBulk d + 1
 end
def uptoSmall : (H : Type) → List (DataW H) → Bool := fun _ ds => decide (uptoBulkAll ds ≤ 1048576)
def OpenSpec.upto (s : _root_.Go.ChangeSpec) : _root_.Go.OpenSpec := { _root_.Go.OpenSpec.ofChange s with cond := some uptoSmall }

/-- 'laws.FnDeadMany', WHERE WHAT IT READS IS OF BULK AT MOST 1048576: true; the input reads as it did. -/
def fnDeadManyUptoRow : OpenClaim := { program := "ytebpplallecogaagreat", sum := "7e442130710e33e70b99f212a009989085b8c4369a4019afca4fb2863db752e0", func := "loop.example/cothreads/laws.FnDeadMany", spec := "fnDeadMany", recurses := true, apart := false, narrowed := true }
def FnDeadManyUptoSaid : Prop := fnDeadManyUptoRow.holds Tryz.pinned (OpenSpec.upto fnDeadManySpec)

/-- 'laws.FnDead', WHERE WHAT IT READS IS OF BULK AT MOST 1048576: true; the input reads as it did. -/
def fnDeadUptoRow : OpenClaim := { program := "ytebpplallecogaagreat", sum := "7e442130710e33e70b99f212a009989085b8c4369a4019afca4fb2863db752e0", func := "loop.example/cothreads/laws.FnDead", spec := "fnDead", recurses := true, apart := false, narrowed := true }
def FnDeadUptoSaid : Prop := fnDeadUptoRow.holds Tryz.pinned (OpenSpec.upto fnDeadSpec)

/-- 'laws.FnLiveEnd', WHERE WHAT IT READS IS OF BULK AT MOST 1048576: true; the input reads as it did. -/
def fnLiveEndUptoRow : OpenClaim := { program := "ytebpplallecogaagreat", sum := "7e442130710e33e70b99f212a009989085b8c4369a4019afca4fb2863db752e0", func := "loop.example/cothreads/laws.FnLiveEnd", spec := "fnLiveEnd", recurses := true, apart := false, narrowed := true }
def FnLiveEndUptoSaid : Prop := fnLiveEndUptoRow.holds Tryz.pinned (OpenSpec.upto fnLiveEndSpec)

/-- 'laws.FnDeadWhy', WHERE WHAT IT READS IS OF BULK AT MOST 1048576: true; the input reads as it did. -/
def fnDeadWhyUptoRow : OpenClaim := { program := "ytebpplallecogaagreat", sum := "7e442130710e33e70b99f212a009989085b8c4369a4019afca4fb2863db752e0", func := "loop.example/cothreads/laws.FnDeadWhy", spec := "fnDeadWhy", recurses := true, apart := false, narrowed := true }
def FnDeadWhyUptoSaid : Prop := fnDeadWhyUptoRow.holds Tryz.pinned (OpenSpec.upto fnDeadWhySpec)

/-- 'laws.FnLiveOut', WHERE WHAT IT READS IS OF BULK AT MOST 1048576: true; the input reads as it did. -/
def fnLiveOutUptoRow : OpenClaim := { program := "ytebpplallecogaagreat", sum := "7e442130710e33e70b99f212a009989085b8c4369a4019afca4fb2863db752e0", func := "loop.example/cothreads/laws.FnLiveOut", spec := "fnLiveOut", recurses := true, apart := false, narrowed := true }
def FnLiveOutUptoSaid : Prop := fnLiveOutUptoRow.holds Tryz.pinned (OpenSpec.upto fnLiveOutSpec)

/-- 'laws.FnDeadLive', WHERE WHAT IT READS IS OF BULK AT MOST 1048576: true; the input reads as it did. -/
def fnDeadLiveUptoRow : OpenClaim := { program := "ytebpplallecogaagreat", sum := "7e442130710e33e70b99f212a009989085b8c4369a4019afca4fb2863db752e0", func := "loop.example/cothreads/laws.FnDeadLive", spec := "fnDeadLive", recurses := true, apart := false, narrowed := true }
def FnDeadLiveUptoSaid : Prop := fnDeadLiveUptoRow.holds Tryz.pinned (OpenSpec.upto fnDeadLiveSpec)

/-- 'laws.FnLive', WHERE WHAT IT READS IS OF BULK AT MOST 1048576: true; the input reads as it did. -/
def fnLiveUptoRow : OpenClaim := { program := "ytebpplallecogaagreat", sum := "7e442130710e33e70b99f212a009989085b8c4369a4019afca4fb2863db752e0", func := "loop.example/cothreads/laws.FnLive", spec := "fnLive", recurses := true, apart := false, narrowed := true }
def FnLiveUptoSaid : Prop := fnLiveUptoRow.holds Tryz.pinned (OpenSpec.upto fnLiveSpec)

/-- 'laws.FnLiveWhy', WHERE WHAT IT READS IS OF BULK AT MOST 1048576: true; the input reads as it did. -/
def fnLiveWhyUptoRow : OpenClaim := { program := "ytebpplallecogaagreat", sum := "7e442130710e33e70b99f212a009989085b8c4369a4019afca4fb2863db752e0", func := "loop.example/cothreads/laws.FnLiveWhy", spec := "fnLiveWhy", recurses := true, apart := false, narrowed := true }
def FnLiveWhyUptoSaid : Prop := fnLiveWhyUptoRow.holds Tryz.pinned (OpenSpec.upto fnLiveWhySpec)

end Rows
end Go.Proofs.YtebpplallecogaaGreat
