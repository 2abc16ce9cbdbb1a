/- Words that the proof uses: what a tool of the kit printed, pruned by a program of mine. -/
import Derived.Test.YtahbkldagpfcaaaZDWWords
import Derived.Laws.StructEq
namespace Go.Proofs.YtahbkldagpfcaaaW.PrintWords
open Go.RowKit
section
variable {P : Program} {d : Nat} {xs ys : Array Value} {f : Field} {fs : List Field} {a b : Value} {r s : Bool} {w : World}
end
end Go.Proofs.YtahbkldagpfcaaaW.PrintWords
