/- Words that the proof uses: what a tool of the kit printed, pruned by a program of mine. -/
import Derived.Test.YtdkkdiiceaomaaaGreatEBWTab
namespace Go.Proofs.YtdkkdiiceaomaaaGreatW.PrintLast
section
variable {P:Program} {ops:Array Oper} {Q:Exit->Act->World->Prop} {md:Region.Mode} {S:World->Prop} {ds:List Nat} {T:Bool × List (List Nat × List Nat)}
end
end Go.Proofs.YtdkkdiiceaomaaaGreatW.PrintLast
