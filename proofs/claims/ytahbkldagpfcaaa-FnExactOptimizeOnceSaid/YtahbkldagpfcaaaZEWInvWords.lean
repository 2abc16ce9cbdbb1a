/- Words that the proof uses: what a tool of the kit printed, pruned by a program of mine. -/
import Derived.Test.YtahbkldagpfcaaaZEWInv
import Derived.Test.YtahbkldagpfcaaaZEWFootNe
namespace Go.Proofs.YtahbkldagpfcaaaW.PrintWords
open Go.RowKit
end Go.Proofs.YtahbkldagpfcaaaW.PrintWords
namespace Go.Proofs.YtahbkldagpfcaaaW.PrintLast
section
variable {ops:Array Oper} {a:Act} {o og:Oper} {g:Nat} {t:Tmp} {u:Bool}
end
end Go.Proofs.YtahbkldagpfcaaaW.PrintLast
