/- Words that the proof uses: what a tool of the kit printed, pruned by a program of mine. -/
import Derived.Test.YtahbkldagpfcaaaZDWFootNe
namespace Go.Proofs.YtahbkldagpfcaaaW.PrintWords
open Go.RowKit
section
variable {w w' u : World} {m B g : Nat} {o : Obj} {row : Option Nat} {S : Nat → Prop} {a : Addr} {v : Value}
end
namespace Kd
section
variable {α : Type} {d : Kd α} {e base n m : Nat} {ok : Nat → Prop} {w w' : World} {v : Value} {A : Option Addr} {xs : List α}
end
end Kd
end Go.Proofs.YtahbkldagpfcaaaW.PrintWords
