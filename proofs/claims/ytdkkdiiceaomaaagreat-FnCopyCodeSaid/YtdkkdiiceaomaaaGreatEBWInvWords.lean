/- Words that the proof uses: what a tool of the kit printed, pruned by a program of mine. -/
import Derived.Test.YtdkkdiiceaomaaaGreatEBWInv
import Derived.Test.YtdkkdiiceaomaaaGreatEBWFootNe
namespace Go.Proofs.YtdkkdiiceaomaaaGreatW.PrintWords
open Go.RowKit
end Go.Proofs.YtdkkdiiceaomaaaGreatW.PrintWords
namespace Go.Proofs.YtdkkdiiceaomaaaGreatW.PrintLast
section
variable {ops:Array Oper} {a:Act} {o og:Oper} {g:Nat} {t:Tmp} {u:Bool}
end
end Go.Proofs.YtdkkdiiceaomaaaGreatW.PrintLast
