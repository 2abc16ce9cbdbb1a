/-
  No cell of these rows narrows 'for every input' (looked for: loops, veiled, ifaces, maps, wideKeys, modest, calm, conditions, laid).
  DERIVED. THE GIVEN ROWS OF THIS SEAT. 10 by the template 'for every input the law returns true; each argument reads behind the call as it read before'; 0 by the template 'total and deterministic' (their statements: YtdkkdiiceaomaaaGreatTotals.lean).
  GIVEN WITH THE SEED: the statements are not yours to turn. If you find one false, say at which input.
  Laid BY PROGRAM, IN A SANDBOX (cutbox-rows.mjs): the forced cells as the released guide's own fill.sh prints them over the translation 17a69250143ba962… (all of the seat's roots in one cut). By AI agents, Wed Nov 11 2026. No macro, syntax, notation, axiom, sorry.
-/
import Derived.Test.YtdkkdiiceaomaaaGreatChecked
import GoSem.Claim
import GoSem.ClaimJoined
import GoSem.ClaimMapViews
import Derived.JoinedTies
import Derived.KernelRfl
namespace Go.Proofs.YtdkkdiiceaomaaaGreat
/- THE CELL 'sum', in the pinned program and in every row, IS THE sha256 OF THE DUMP (.gsa) THAT YtdkkdiiceaomaaaGreatProg.lean LOADS. Nothing in Lean hashes anything: it is a label: what it is worth is what the hold of that sum in a sandbox is worth. -/
noncomputable def Tryz.pinned : Pinned := { name := "ytdkkdiiceaomaaagreat", sum := "17a69250143ba962df2c07540827b2a49cbe35b58e59d7db64a35a85276aff53", checked := Tryz.checked }
namespace Rows
def none {H : Type} : Left H := { results := [], args := [] }

/-- 'laws.FnFoldCode': WHATEVER THE INPUT: true; the input reads as it did. -/
def fnFoldCodeSpec : ChangeSpec := { name := "fnFoldCode", fn := fun _ => fun
  | [d] => { results := [.lit (.bool true)], args := [d] }
  | _ => none }
def fnFoldCodeRow : OpenClaim := { program := "ytdkkdiiceaomaaagreat", sum := "17a69250143ba962df2c07540827b2a49cbe35b58e59d7db64a35a85276aff53", func := "loop.example/cothreads/laws.FnFoldCode", spec := "fnFoldCode", unfollowed := true, recurses := true, apart := false }
def FnFoldCodeSaid : Prop := fnFoldCodeRow.holds Tryz.pinned (OpenSpec.ofChange fnFoldCodeSpec)

/-- ITS FALSE NEIGHBOUR: 'it returns false'. Refute it at one input. -/
def fnFoldCodeWrong : ChangeSpec := { name := "fnFoldCode", fn := fun _ => fun
  | [d] => { results := [.lit (.bool false)], args := [d] }
  | _ => none }
def FnFoldCodeWrongFalsely : Prop := fnFoldCodeRow.holds Tryz.pinned (OpenSpec.ofChange fnFoldCodeWrong)

/-- 'laws.FnFoldKeeps': WHATEVER THE INPUT: true; the input reads as it did. -/
def fnFoldKeepsSpec : ChangeSpec := { name := "fnFoldKeeps", fn := fun _ => fun
  | [d] => { results := [.lit (.bool true)], args := [d] }
  | _ => none }
def fnFoldKeepsRow : OpenClaim := { program := "ytdkkdiiceaomaaagreat", sum := "17a69250143ba962df2c07540827b2a49cbe35b58e59d7db64a35a85276aff53", func := "loop.example/cothreads/laws.FnFoldKeeps", spec := "fnFoldKeeps", unfollowed := true, recurses := true, apart := false }
def FnFoldKeepsSaid : Prop := fnFoldKeepsRow.holds Tryz.pinned (OpenSpec.ofChange fnFoldKeepsSpec)

/-- ITS FALSE NEIGHBOUR: 'it returns false'. Refute it at one input. -/
def fnFoldKeepsWrong : ChangeSpec := { name := "fnFoldKeeps", fn := fun _ => fun
  | [d] => { results := [.lit (.bool false)], args := [d] }
  | _ => none }
def FnFoldKeepsWrongFalsely : Prop := fnFoldKeepsRow.holds Tryz.pinned (OpenSpec.ofChange fnFoldKeepsWrong)

/-- 'laws.FnCopyCode': WHATEVER THE INPUT: true; the input reads as it did. -/
def fnCopyCodeSpec : ChangeSpec := { name := "fnCopyCode", fn := fun _ => fun
  | [d] => { results := [.lit (.bool true)], args := [d] }
  | _ => none }
def fnCopyCodeRow : OpenClaim := { program := "ytdkkdiiceaomaaagreat", sum := "17a69250143ba962df2c07540827b2a49cbe35b58e59d7db64a35a85276aff53", func := "loop.example/cothreads/laws.FnCopyCode", spec := "fnCopyCode", recurses := true, apart := false }
def FnCopyCodeSaid : Prop := fnCopyCodeRow.holds Tryz.pinned (OpenSpec.ofChange fnCopyCodeSpec)

/-- ITS FALSE NEIGHBOUR: 'it returns false'. Refute it at one input. -/
def fnCopyCodeWrong : ChangeSpec := { name := "fnCopyCode", fn := fun _ => fun
  | [d] => { results := [.lit (.bool false)], args := [d] }
  | _ => none }
def FnCopyCodeWrongFalsely : Prop := fnCopyCodeRow.holds Tryz.pinned (OpenSpec.ofChange fnCopyCodeWrong)

/-- 'laws.FnMeet': WHATEVER THE INPUT: true; the input reads as it did. -/
def fnMeetSpec : ChangeSpec := { name := "fnMeet", fn := fun _ => fun
  | [d] => { results := [.lit (.bool true)], args := [d] }
  | _ => none }
def fnMeetRow : OpenClaim := { program := "ytdkkdiiceaomaaagreat", sum := "17a69250143ba962df2c07540827b2a49cbe35b58e59d7db64a35a85276aff53", func := "loop.example/cothreads/laws.FnMeet", spec := "fnMeet", recurses := true, apart := false }
def FnMeetSaid : Prop := fnMeetRow.holds Tryz.pinned (OpenSpec.ofChange fnMeetSpec)

/-- ITS FALSE NEIGHBOUR: 'it returns false'. Refute it at one input. -/
def fnMeetWrong : ChangeSpec := { name := "fnMeet", fn := fun _ => fun
  | [d] => { results := [.lit (.bool false)], args := [d] }
  | _ => none }
def FnMeetWrongFalsely : Prop := fnMeetRow.holds Tryz.pinned (OpenSpec.ofChange fnMeetWrong)

/-- 'laws.FnMeetWhy': WHATEVER THE INPUT: true; the input reads as it did. -/
def fnMeetWhySpec : ChangeSpec := { name := "fnMeetWhy", fn := fun _ => fun
  | [d] => { results := [.lit (.bool true)], args := [d] }
  | _ => none }
def fnMeetWhyRow : OpenClaim := { program := "ytdkkdiiceaomaaagreat", sum := "17a69250143ba962df2c07540827b2a49cbe35b58e59d7db64a35a85276aff53", func := "loop.example/cothreads/laws.FnMeetWhy", spec := "fnMeetWhy", recurses := true, apart := false }
def FnMeetWhySaid : Prop := fnMeetWhyRow.holds Tryz.pinned (OpenSpec.ofChange fnMeetWhySpec)

/-- ITS FALSE NEIGHBOUR: 'it returns false'. Refute it at one input. -/
def fnMeetWhyWrong : ChangeSpec := { name := "fnMeetWhy", fn := fun _ => fun
  | [d] => { results := [.lit (.bool false)], args := [d] }
  | _ => none }
def FnMeetWhyWrongFalsely : Prop := fnMeetWhyRow.holds Tryz.pinned (OpenSpec.ofChange fnMeetWhyWrong)

/-- 'laws.FnPlaces': WHATEVER THE INPUT: true; the input reads as it did. -/
def fnPlacesSpec : ChangeSpec := { name := "fnPlaces", fn := fun _ => fun
  | [d1, d2] => { results := [.lit (.bool true)], args := [d1, d2] }
  | _ => none }
def fnPlacesRow : OpenClaim := { program := "ytdkkdiiceaomaaagreat", sum := "17a69250143ba962df2c07540827b2a49cbe35b58e59d7db64a35a85276aff53", func := "loop.example/cothreads/laws.FnPlaces", spec := "fnPlaces", recurses := true, apart := false }
def FnPlacesSaid : Prop := fnPlacesRow.holds Tryz.pinned (OpenSpec.ofChange fnPlacesSpec)

/-- ITS FALSE NEIGHBOUR: 'it returns false'. Refute it at one input. -/
def fnPlacesWrong : ChangeSpec := { name := "fnPlaces", fn := fun _ => fun
  | [d1, d2] => { results := [.lit (.bool false)], args := [d1, d2] }
  | _ => none }
def FnPlacesWrongFalsely : Prop := fnPlacesRow.holds Tryz.pinned (OpenSpec.ofChange fnPlacesWrong)

/-- 'laws.FnPlacesLeast': WHATEVER THE INPUT: true; the input reads as it did. -/
def fnPlacesLeastSpec : ChangeSpec := { name := "fnPlacesLeast", fn := fun _ => fun
  | [d1, d2] => { results := [.lit (.bool true)], args := [d1, d2] }
  | _ => none }
def fnPlacesLeastRow : OpenClaim := { program := "ytdkkdiiceaomaaagreat", sum := "17a69250143ba962df2c07540827b2a49cbe35b58e59d7db64a35a85276aff53", func := "loop.example/cothreads/laws.FnPlacesLeast", spec := "fnPlacesLeast", recurses := true, apart := false }
def FnPlacesLeastSaid : Prop := fnPlacesLeastRow.holds Tryz.pinned (OpenSpec.ofChange fnPlacesLeastSpec)

/-- ITS FALSE NEIGHBOUR: 'it returns false'. Refute it at one input. -/
def fnPlacesLeastWrong : ChangeSpec := { name := "fnPlacesLeast", fn := fun _ => fun
  | [d1, d2] => { results := [.lit (.bool false)], args := [d1, d2] }
  | _ => none }
def FnPlacesLeastWrongFalsely : Prop := fnPlacesLeastRow.holds Tryz.pinned (OpenSpec.ofChange fnPlacesLeastWrong)

/-- 'laws.FnPlacesMany': WHATEVER THE INPUT: true; the input reads as it did. -/
def fnPlacesManySpec : ChangeSpec := { name := "fnPlacesMany", fn := fun _ => fun
  | [d] => { results := [.lit (.bool true)], args := [d] }
  | _ => none }
def fnPlacesManyRow : OpenClaim := { program := "ytdkkdiiceaomaaagreat", sum := "17a69250143ba962df2c07540827b2a49cbe35b58e59d7db64a35a85276aff53", func := "loop.example/cothreads/laws.FnPlacesMany", spec := "fnPlacesMany", recurses := true, apart := false }
def FnPlacesManySaid : Prop := fnPlacesManyRow.holds Tryz.pinned (OpenSpec.ofChange fnPlacesManySpec)

/-- ITS FALSE NEIGHBOUR: 'it returns false'. Refute it at one input. -/
def fnPlacesManyWrong : ChangeSpec := { name := "fnPlacesMany", fn := fun _ => fun
  | [d] => { results := [.lit (.bool false)], args := [d] }
  | _ => none }
def FnPlacesManyWrongFalsely : Prop := fnPlacesManyRow.holds Tryz.pinned (OpenSpec.ofChange fnPlacesManyWrong)

/-- 'laws.FnPlaceCode': WHATEVER THE INPUT: true; the input reads as it did. -/
def fnPlaceCodeSpec : ChangeSpec := { name := "fnPlaceCode", fn := fun _ => fun
  | [d] => { results := [.lit (.bool true)], args := [d] }
  | _ => none }
def fnPlaceCodeRow : OpenClaim := { program := "ytdkkdiiceaomaaagreat", sum := "17a69250143ba962df2c07540827b2a49cbe35b58e59d7db64a35a85276aff53", func := "loop.example/cothreads/laws.FnPlaceCode", spec := "fnPlaceCode", recurses := true, apart := false }
def FnPlaceCodeSaid : Prop := fnPlaceCodeRow.holds Tryz.pinned (OpenSpec.ofChange fnPlaceCodeSpec)

/-- ITS FALSE NEIGHBOUR: 'it returns false'. Refute it at one input. -/
def fnPlaceCodeWrong : ChangeSpec := { name := "fnPlaceCode", fn := fun _ => fun
  | [d] => { results := [.lit (.bool false)], args := [d] }
  | _ => none }
def FnPlaceCodeWrongFalsely : Prop := fnPlaceCodeRow.holds Tryz.pinned (OpenSpec.ofChange fnPlaceCodeWrong)

/-- 'laws.FnPlaceUses': WHATEVER THE INPUT: true; the input reads as it did. -/
def fnPlaceUsesSpec : ChangeSpec := { name := "fnPlaceUses", fn := fun _ => fun
  | [d] => { results := [.lit (.bool true)], args := [d] }
  | _ => none }
def fnPlaceUsesRow : OpenClaim := { program := "ytdkkdiiceaomaaagreat", sum := "17a69250143ba962df2c07540827b2a49cbe35b58e59d7db64a35a85276aff53", func := "loop.example/cothreads/laws.FnPlaceUses", spec := "fnPlaceUses", recurses := true, apart := false }
def FnPlaceUsesSaid : Prop := fnPlaceUsesRow.holds Tryz.pinned (OpenSpec.ofChange fnPlaceUsesSpec)

/-- ITS FALSE NEIGHBOUR: 'it returns false'. Refute it at one input. -/
def fnPlaceUsesWrong : ChangeSpec := { name := "fnPlaceUses", fn := fun _ => fun
  | [d] => { results := [.lit (.bool false)], args := [d] }
  | _ => none }
def FnPlaceUsesWrongFalsely : Prop := fnPlaceUsesRow.holds Tryz.pinned (OpenSpec.ofChange fnPlaceUsesWrong)

/- THE SECOND FORM. 'bulk': how many values and letters a reading holds, each counted each time it is reached (what is shared counts as often as it is met; a slice's spare places count too). A statement '..UptoSaid' is the law's where the arguments, and the package variables that the reading takes, are together of bulk at most 1048576: NARROWER than '..Said'. Prove '..Said' where nothing that the law and all that it calls make is longer than what came in: it says more and counts as full. Else prove '..UptoSaid'. A law counts once. -/
mutual
def uptoBulk {H : Type} : DataW H → Nat
  | .lit (.string bytes) => bytes.length + 1
  | .lit _ => 1
  | .nil => 1
  | .ptr d => uptoBulk d + 1
  | .slice elems spare => uptoBulkAll elems + uptoBulkAll spare + 1
  | .agg parts => uptoBulkAll parts + 1
  | .iface _ d => uptoBulk d + 1
  | .map entries => uptoBulkEntries entries + 1
  | .held _ => 1
def uptoBulkAll {H : Type} : List (DataW H) → Nat
  | [] => 0
  | d :: r => uptoBulk d + uptoBulkAll r
def uptoBulkEntries {H : Type} : List (Lit × DataW H) → Nat
  | [] => 0
  | x :: r => uptoBulkEntry x + uptoBulkEntries r
def uptoBulkEntry {H : Type} : Lit × DataW H → Nat
  | (.string bytes, d) => bytes.length + uptoBulk d + 1
  | (_, d) => uptoBulk d + 1
 end
def uptoSmall : (H : Type) → List (DataW H) → Bool := fun _ ds => decide (uptoBulkAll ds ≤ 1048576)
def OpenSpec.upto (s : _root_.Go.ChangeSpec) : _root_.Go.OpenSpec := { _root_.Go.OpenSpec.ofChange s with cond := some uptoSmall }

/-- 'laws.FnFoldCode', WHERE WHAT IT READS IS OF BULK AT MOST 1048576: true; the input reads as it did. -/
def fnFoldCodeUptoRow : OpenClaim := { program := "ytdkkdiiceaomaaagreat", sum := "17a69250143ba962df2c07540827b2a49cbe35b58e59d7db64a35a85276aff53", func := "loop.example/cothreads/laws.FnFoldCode", spec := "fnFoldCode", unfollowed := true, recurses := true, apart := false, narrowed := true }
def FnFoldCodeUptoSaid : Prop := fnFoldCodeUptoRow.holds Tryz.pinned (OpenSpec.upto fnFoldCodeSpec)

/-- 'laws.FnFoldKeeps', WHERE WHAT IT READS IS OF BULK AT MOST 1048576: true; the input reads as it did. -/
def fnFoldKeepsUptoRow : OpenClaim := { program := "ytdkkdiiceaomaaagreat", sum := "17a69250143ba962df2c07540827b2a49cbe35b58e59d7db64a35a85276aff53", func := "loop.example/cothreads/laws.FnFoldKeeps", spec := "fnFoldKeeps", unfollowed := true, recurses := true, apart := false, narrowed := true }
def FnFoldKeepsUptoSaid : Prop := fnFoldKeepsUptoRow.holds Tryz.pinned (OpenSpec.upto fnFoldKeepsSpec)

/-- 'laws.FnCopyCode', WHERE WHAT IT READS IS OF BULK AT MOST 1048576: true; the input reads as it did. -/
def fnCopyCodeUptoRow : OpenClaim := { program := "ytdkkdiiceaomaaagreat", sum := "17a69250143ba962df2c07540827b2a49cbe35b58e59d7db64a35a85276aff53", func := "loop.example/cothreads/laws.FnCopyCode", spec := "fnCopyCode", recurses := true, apart := false, narrowed := true }
def FnCopyCodeUptoSaid : Prop := fnCopyCodeUptoRow.holds Tryz.pinned (OpenSpec.upto fnCopyCodeSpec)

/-- 'laws.FnMeet', WHERE WHAT IT READS IS OF BULK AT MOST 1048576: true; the input reads as it did. -/
def fnMeetUptoRow : OpenClaim := { program := "ytdkkdiiceaomaaagreat", sum := "17a69250143ba962df2c07540827b2a49cbe35b58e59d7db64a35a85276aff53", func := "loop.example/cothreads/laws.FnMeet", spec := "fnMeet", recurses := true, apart := false, narrowed := true }
def FnMeetUptoSaid : Prop := fnMeetUptoRow.holds Tryz.pinned (OpenSpec.upto fnMeetSpec)

/-- 'laws.FnMeetWhy', WHERE WHAT IT READS IS OF BULK AT MOST 1048576: true; the input reads as it did. -/
def fnMeetWhyUptoRow : OpenClaim := { program := "ytdkkdiiceaomaaagreat", sum := "17a69250143ba962df2c07540827b2a49cbe35b58e59d7db64a35a85276aff53", func := "loop.example/cothreads/laws.FnMeetWhy", spec := "fnMeetWhy", recurses := true, apart := false, narrowed := true }
def FnMeetWhyUptoSaid : Prop := fnMeetWhyUptoRow.holds Tryz.pinned (OpenSpec.upto fnMeetWhySpec)

/-- 'laws.FnPlaces', WHERE WHAT IT READS IS OF BULK AT MOST 1048576: true; the input reads as it did. -/
def fnPlacesUptoRow : OpenClaim := { program := "ytdkkdiiceaomaaagreat", sum := "17a69250143ba962df2c07540827b2a49cbe35b58e59d7db64a35a85276aff53", func := "loop.example/cothreads/laws.FnPlaces", spec := "fnPlaces", recurses := true, apart := false, narrowed := true }
def FnPlacesUptoSaid : Prop := fnPlacesUptoRow.holds Tryz.pinned (OpenSpec.upto fnPlacesSpec)

/-- 'laws.FnPlacesLeast', WHERE WHAT IT READS IS OF BULK AT MOST 1048576: true; the input reads as it did. -/
def fnPlacesLeastUptoRow : OpenClaim := { program := "ytdkkdiiceaomaaagreat", sum := "17a69250143ba962df2c07540827b2a49cbe35b58e59d7db64a35a85276aff53", func := "loop.example/cothreads/laws.FnPlacesLeast", spec := "fnPlacesLeast", recurses := true, apart := false, narrowed := true }
def FnPlacesLeastUptoSaid : Prop := fnPlacesLeastUptoRow.holds Tryz.pinned (OpenSpec.upto fnPlacesLeastSpec)

/-- 'laws.FnPlacesMany', WHERE WHAT IT READS IS OF BULK AT MOST 1048576: true; the input reads as it did. -/
def fnPlacesManyUptoRow : OpenClaim := { program := "ytdkkdiiceaomaaagreat", sum := "17a69250143ba962df2c07540827b2a49cbe35b58e59d7db64a35a85276aff53", func := "loop.example/cothreads/laws.FnPlacesMany", spec := "fnPlacesMany", recurses := true, apart := false, narrowed := true }
def FnPlacesManyUptoSaid : Prop := fnPlacesManyUptoRow.holds Tryz.pinned (OpenSpec.upto fnPlacesManySpec)

/-- 'laws.FnPlaceCode', WHERE WHAT IT READS IS OF BULK AT MOST 1048576: true; the input reads as it did. -/
def fnPlaceCodeUptoRow : OpenClaim := { program := "ytdkkdiiceaomaaagreat", sum := "17a69250143ba962df2c07540827b2a49cbe35b58e59d7db64a35a85276aff53", func := "loop.example/cothreads/laws.FnPlaceCode", spec := "fnPlaceCode", recurses := true, apart := false, narrowed := true }
def FnPlaceCodeUptoSaid : Prop := fnPlaceCodeUptoRow.holds Tryz.pinned (OpenSpec.upto fnPlaceCodeSpec)

/-- 'laws.FnPlaceUses', WHERE WHAT IT READS IS OF BULK AT MOST 1048576: true; the input reads as it did. -/
def fnPlaceUsesUptoRow : OpenClaim := { program := "ytdkkdiiceaomaaagreat", sum := "17a69250143ba962df2c07540827b2a49cbe35b58e59d7db64a35a85276aff53", func := "loop.example/cothreads/laws.FnPlaceUses", spec := "fnPlaceUses", recurses := true, apart := false, narrowed := true }
def FnPlaceUsesUptoSaid : Prop := fnPlaceUsesUptoRow.holds Tryz.pinned (OpenSpec.upto fnPlaceUsesSpec)

end Rows
end Go.Proofs.YtdkkdiiceaomaaaGreat
