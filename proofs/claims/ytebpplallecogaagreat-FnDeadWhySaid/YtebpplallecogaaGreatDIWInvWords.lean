/- Words that the proof uses: what a tool of the kit printed, pruned by a program of mine. -/
import Derived.Test.YtebpplallecogaaGreatDIWInv
import Derived.Test.YtebpplallecogaaGreatDIWFootNe
namespace Go.Proofs.YtebpplallecogaaGreatW.PrintWords
open Go.RowKit
end Go.Proofs.YtebpplallecogaaGreatW.PrintWords
namespace Go.Proofs.YtebpplallecogaaGreatW.PrintLast
section
variable {ops:Array Oper} {a:Act} {o og:Oper} {g:Nat} {t:Tmp} {u:Bool}
end
end Go.Proofs.YtebpplallecogaaGreatW.PrintLast
