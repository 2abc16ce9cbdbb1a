/- Part 1 of the proof: A function as plain Lean and its contract: written by a program of this session's, turned from the kit's print. -/
import Derived.Test.YtebpplallecogaaGreatProg
import Derived.Below
import Derived.Deep.Draws
import Derived.Deep.AppendLies
import Derived.Maps.AppendAt
import Derived.OwnWalk
import Derived.Laws.BytesArg
import Derived.Laws.MakeOwn
import Derived.Laws.OwnMore
import Derived.Deep.OwnRows
import Derived.Tactics
import Derived.Lib.ConvBytes
import Derived.Laws.Slices
import Derived.WalkKit
import Derived.KernelRfl
import Derived.RowKit3
import Derived.Deep.LoopGhost
import Derived.Deep.QuietTactic
import Derived.BigQuiet
import Derived.WideLaws
import Derived.Deep.DeepCutAuto
import Derived.Deep.CutBlock
import Derived.Deep.RegionHeld3
import Derived.Laws.Rows
import Derived.Lib.AppendStr
import Derived.ArgAppend
import Derived.Laws.IdiomCopy
import Derived.OrdersHeld
import Derived.Laws.BitsLemmas
import Derived.RowKit
import Derived.Test.YtebpplallecogaaGreatDEWWords
import Derived.Test.YtebpplallecogaaGreatDEWLast
import Derived.Test.YtebpplallecogaaGreatDEWTab
import Derived.Test.YtebpplallecogaaGreatDEWFour
import Derived.Test.YtebpplallecogaaGreatDEWQPut
import Derived.Test.YtebpplallecogaaGreatDEWApart
import Derived.Test.YtebpplallecogaaGreatDEWArr
import Derived.Test.YtebpplallecogaaGreatDEWZeros
import Derived.Test.YtebpplallecogaaGreatDEWFoot
import Derived.Test.YtebpplallecogaaGreatDEWKept
import Derived.Test.YtebpplallecogaaGreatDEWShare
import Derived.Test.YtebpplallecogaaGreatDEWN
import Derived.Test.YtebpplallecogaaGreatDEWFootNe
import Derived.Test.YtebpplallecogaaGreatDEWAt
import Derived.Test.YtebpplallecogaaGreatDEWEqStruct
import Derived.Test.YtebpplallecogaaGreatDEWRepsOne
import Derived.Test.YtebpplallecogaaGreatDEWInv
import Derived.Test.YtebpplallecogaaGreatDEWInvWords
import Derived.Test.YtebpplallecogaaGreatDEWGuard
import Derived.Test.YtebpplallecogaaGreatDEWNEv
import Derived.Test.YtebpplallecogaaGreatDEWMore
import Derived.Test.YtebpplallecogaaGreatRows
set_option linter.unusedVariables false
set_option linter.unusedSimpArgs false
set_option maxHeartbeats 8000000
set_option maxRecDepth 100000
namespace Go.Proofs.YtebpplallecogaaGreat.M
open Go.RowKit Go.Proofs.YtebpplallecogaaGreatW.PrintWords Go.Proofs.YtebpplallecogaaGreatW.PrintLast Go.Proofs.YtebpplallecogaaGreatW.PrintMore
attribute [local go_sem] aan aal aay aax aaf aae aam aak
def ar7:Option Int->Value
  | none=>.nilIface
  | some c=>.iface 0 (.int .i64 c)
theorem aaF:ar7 none = .nilIface:=rfl
theorem aaE (c:Int):ar7 (some c) = .iface 0 (.int .i64 c):=rfl
theorem an7:(Tryz.prog.info? 3).map (fun i=>(i.zero,i.size,i.bytes))=some (some (.int .i64 0),1,8):=by kernel_rfl
theorem al5:(Tryz.prog.info? 4).map (fun i=>(i.zero,i.size,i.bytes))=some (some (.bool false),1,1):=by kernel_rfl
theorem aqT:(Tryz.prog.info? 5).map (fun i=>(i.zero,i.size,i.bytes))=some (some (.int .u8 0),1,1):=by kernel_rfl
theorem abb:(Tryz.prog.info? 27).map (fun i=>(i.zero,i.size,i.bytes))=some (some (.agg #[(.int .i64 0),(.int .i64 0),(.int .i64 0),(.int .i64 0),(.int .i64 0)]),5,40):=by kernel_rfl
theorem anP:(Tryz.prog.info? 37).map (fun i=>(i.zero,i.size,i.bytes))=some (some (.slice none 0 0),1,24):=by kernel_rfl
theorem apF:(Tryz.prog.info? 43).map (fun i=>(i.zero,i.size,i.bytes))=some (some (.slice none 0 0),1,24):=by kernel_rfl
theorem apE:(Tryz.prog.info? 60).map (fun i=>(i.zero,i.size,i.bytes))=some (some (.int .u16 0),1,2):=by kernel_rfl
theorem al4:(Tryz.prog.info? 92).map (fun i=>(i.zero,i.size,i.bytes))=some (some (.agg #[(.int .i64 0),(.int .i64 0),(.int .i64 0),(.int .i64 0),(.int .i64 0),(.slice none 0 0),(.slice none 0 0),(.slice none 0 0)]),8,112):=by kernel_rfl
theorem aoW:(Tryz.prog.info? 104).map (fun i=>(i.zero,i.size,i.bytes))=some (some (.slice none 0 0),1,24):=by kernel_rfl
theorem aeT:(Tryz.prog.info? 118).map (fun i=>(i.zero,i.size,i.bytes))=some (some (.agg #[(.int .i64 0),(.int .i64 0)]),2,16):=by kernel_rfl
-- the values' own types
structure S27 where
  f0:Int
  f1:Int
  f2:Int
  f3:Int
  f4:Int
def z27:S27:=⟨(0:Int),(0:Int),(0:Int),(0:Int),(0:Int)⟩
def k27:Kd S27:=Kd.iso (Kd.pair (Kd.int .i64) (Kd.pair (Kd.int .i64) (Kd.pair (Kd.int .i64) (Kd.pair (Kd.int .i64) (Kd.int .i64))))) (fun x:S27=>(x.f0,x.f1,x.f2,x.f3,x.f4))
theorem acv:Kd.Heap k27:=Kd.heap_iso _ (Kd.heap_pair (Kd.heap_int .i64) (Kd.heap_pair (Kd.heap_int .i64) (Kd.heap_pair (Kd.heap_int .i64) (Kd.heap_pair (Kd.heap_int .i64) (Kd.heap_int .i64)))))
theorem an5 {w:World} {x:S27} {cs:List Value} (h:k27.K w x cs):cs=[.int .i64 x.f0,.int .i64 x.f1,.int .i64 x.f2,.int .i64 x.f3,.int .i64 x.f4]:=by
  obtain⟨_,_,rfl,rfl,⟨_,_,rfl,rfl,⟨_,_,rfl,rfl,⟨_,_,rfl,rfl,rfl⟩⟩⟩⟩:=h
  exact rfl
theorem ae7 {w:World} {base:Nat} {ok:Nat->Prop} {x:S27} {cs:List Value} (h:k27.M w base ok x cs):cs=[.int .i64 x.f0,.int .i64 x.f1,.int .i64 x.f2,.int .i64 x.f3,.int .i64 x.f4]:=by
  obtain⟨_,_,rfl,rfl,⟨_,_,rfl,rfl,⟨_,_,rfl,rfl,⟨_,_,rfl,rfl,rfl⟩⟩⟩⟩:=h
  exact rfl
theorem aaU (w:World) (base:Nat) (ok:Nat->Prop) (x:S27)  : k27.M w base ok x [.int .i64 x.f0,.int .i64 x.f1,.int .i64 x.f2,.int .i64 x.f3,.int .i64 x.f4]:=⟨[.int .i64 x.f0],[.int .i64 x.f1,.int .i64 x.f2,.int .i64 x.f3,.int .i64 x.f4],rfl,rfl,⟨[.int .i64 x.f1],[.int .i64 x.f2,.int .i64 x.f3,.int .i64 x.f4],rfl,rfl,⟨[.int .i64 x.f2],[.int .i64 x.f3,.int .i64 x.f4],rfl,rfl,⟨[.int .i64 x.f3],[.int .i64 x.f4],rfl,rfl,rfl⟩⟩⟩⟩
def aa0 (xs:List S27) (i:Int):S27:=xs.getD i.toNat z27
theorem ab2 {w:World} {A:Option Addr} {n:Nat} {xs:List S27} (h:Kd.C k27 w A n xs) (i:Int) (h0:0<=i) (h1:i < n):∃ ad ,A=some ad/\w.cell? (ad.add (i.toNat*5))=some (.int .i64 (aa0 xs i).f0)/\w.cell? ⟨(ad.add (i.toNat*5)).block,(ad.add (i.toNat*5)).off+1,none⟩=some (.int .i64 (aa0 xs i).f1)/\w.cell? ⟨(ad.add (i.toNat*5)).block,(ad.add (i.toNat*5)).off+2,none⟩=some (.int .i64 (aa0 xs i).f2)/\w.cell? ⟨(ad.add (i.toNat*5)).block,(ad.add (i.toNat*5)).off+3,none⟩=some (.int .i64 (aa0 xs i).f3)/\w.cell? ⟨(ad.add (i.toNat*5)).block,(ad.add (i.toNat*5)).off+4,none⟩=some (.int .i64 (aa0 xs i).f4):=by
  obtain⟨ad,c,e,_,hK,hc0⟩:=Kd.C_get h z27 i h0 h1
  have hc:∀ j u,c[j]?=some u->w.cell? (ad.add (i.toNat*5+j))=some u:=hc0
  obtain rfl:=an5 hK
  exact⟨ad,e,hc 0 _ rfl,by rw [<- abg _ _ 1 (by omega)];exact hc 1 _ rfl,by rw [<- abg _ _ 2 (by omega)];exact hc 2 _ rfl,by rw [<- abg _ _ 3 (by omega)];exact hc 3 _ rfl,by rw [<- abg _ _ 4 (by omega)];exact hc 4 _ rfl⟩
structure S90 where
  f0:Int
  f1:Int
  f2:(List S90)
def z90:S90:=⟨(0:Int),(0:Int),([]:List S90)⟩
def F90 (d:Kd S90):Kd S90:=Kd.iso (Kd.pair (Kd.int .i64) (Kd.pair (Kd.int .i64) (Kd.slice 90 d))) (fun x:S90=>(x.f0,x.f1,x.f2))
theorem anN:Kd.Mono F90:=Kd.mono_iso _ (Kd.mono_pair (Kd.mono_const _) (Kd.mono_pair (Kd.mono_const _) (Kd.mono_slice 90 Kd.mono_id)))
theorem aqM:Kd.Sub F90 [90]:=Kd.sub_iso _ (Kd.sub_pair (Kd.sub_const _ (by decide)) (Kd.sub_pair (Kd.sub_const _ (by decide)) (Kd.sub_slice 90 (by decide) Kd.sub_id)))
theorem ar6:∀ n,(Kd.upto F90 3 [90] n).sz=3:=Kd.upto_sz (fun _=>rfl)
def k90:Kd S90:=Kd.fix F90 3 [90] ar6 (Kd.upto_E aqM)
theorem ajw {w:World} {x:S90} {cs:List Value} (h:k90.K w x cs):∃ A2 c2,cs=[.int .i64 x.f0,.int .i64 x.f1,.slice A2 x.f2.length c2]/\x.f2.length<=c2/\k90.C w A2 x.f2.length x.f2:=by
  obtain⟨n,h⟩:=h
  cases n with
  | zero=>exact h.elim
  | succ n =>
    obtain⟨_,_,rfl,rfl,⟨_,_,rfl,rfl,⟨A2,c2,rfl,l2,g2⟩⟩⟩:=h
    exact⟨A2,c2,rfl,l2,Kd.fix_C g2⟩
theorem anO (w:World) (x:S90) {A2:Option Addr} {c2:Nat} (l2:x.f2.length<=c2) (g2:k90.C w A2 x.f2.length x.f2):k90.K w x [.int .i64 x.f0,.int .i64 x.f1,.slice A2 x.f2.length c2]:=by
  obtain⟨n2,q2⟩:=Kd.fix_C_back anN g2
  have r2:=Kd.upto_C_le anN ar6 (show n2<=n2 by omega) q2
  exact⟨n2+1,⟨[.int .i64 x.f0],[.int .i64 x.f1,.slice A2 x.f2.length c2],rfl,rfl,⟨[.int .i64 x.f1],[.slice A2 x.f2.length c2],rfl,rfl,⟨A2,c2,rfl,l2,r2⟩⟩⟩⟩
theorem al0 (W:World) (ok:Nat->Prop) (x:S90) {A2:Option Addr} {c2:Nat} (l2:x.f2.length<=c2) (g2:Kd.F k90 W ok A2 x.f2.length x.f2):Kd.FK k90 W ok x [.int .i64 x.f0,.int .i64 x.f1,.slice A2 x.f2.length c2]:=fun W2 hW=>anO W2 x l2 (g2 W2 hW)
def aaK (xs:List S90) (i:Int):S90:=xs.getD i.toNat z90
theorem ai2 {w:World} {A:Option Addr} {n:Nat} {xs:List S90} (h:Kd.C k90 w A n xs) (i:Int) (h0:0<=i) (h1:i < n):∃ ad A2 c2,A=some ad/\w.cell? (ad.add (i.toNat*3))=some (.int .i64 (aaK xs i).f0)/\w.cell? ⟨(ad.add (i.toNat*3)).block,(ad.add (i.toNat*3)).off+1,none⟩=some (.int .i64 (aaK xs i).f1)/\w.cell? ⟨(ad.add (i.toNat*3)).block,(ad.add (i.toNat*3)).off+2,none⟩=some (.slice A2 (aaK xs i).f2.length c2)/\(aaK xs i).f2.length<=c2/\k90.C w A2 (aaK xs i).f2.length (aaK xs i).f2:=by
  obtain⟨ad,c,e,_,hK,hc0⟩:=Kd.C_get h z90 i h0 h1
  have hc:∀ j u,c[j]?=some u->w.cell? (ad.add (i.toNat*3+j))=some u:=hc0
  obtain⟨A2,c2,rfl,l2,g2⟩:=ajw hK
  exact⟨ad,A2,c2,e,hc 0 _ rfl,by rw [<- abg _ _ 1 (by omega)];exact hc 1 _ rfl,by rw [<- abg _ _ 2 (by omega)];exact hc 2 _ rfl,l2,g2⟩
structure S92 where
  f0:Int
  f1:Int
  f2:Int
  f3:S90
  f4:(List S92)
  f5:(List S92)
def z92:S92:=⟨(0:Int),(0:Int),(0:Int),z90,([]:List S92),([]:List S92)⟩
def F92 (d:Kd S92):Kd S92:=Kd.iso (Kd.pair (Kd.int .i64) (Kd.pair (Kd.int .i64) (Kd.pair (Kd.int .i64) (Kd.pair k90 (Kd.pair (Kd.slice 92 d) (Kd.slice 92 d)))))) (fun x:S92=>(x.f0,x.f1,x.f2,x.f3,x.f4,x.f5))
theorem ajp:Kd.Mono F92:=Kd.mono_iso _ (Kd.mono_pair (Kd.mono_const _) (Kd.mono_pair (Kd.mono_const _) (Kd.mono_pair (Kd.mono_const _) (Kd.mono_pair (Kd.mono_const _) (Kd.mono_pair (Kd.mono_slice 92 Kd.mono_id) (Kd.mono_slice 92 Kd.mono_id))))))
theorem aqL:Kd.Sub F92 [90,92]:=Kd.sub_iso _ (Kd.sub_pair (Kd.sub_const _ (by decide)) (Kd.sub_pair (Kd.sub_const _ (by decide)) (Kd.sub_pair (Kd.sub_const _ (by decide)) (Kd.sub_pair (Kd.sub_const _ (by decide)) (Kd.sub_pair (Kd.sub_slice 92 (by decide) Kd.sub_id) (Kd.sub_slice 92 (by decide) Kd.sub_id))))))
theorem aqK:∀ n,(Kd.upto F92 8 [90,92] n).sz=8:=Kd.upto_sz (fun _=>rfl)
def k92:Kd S92:=Kd.fix F92 8 [90,92] aqK (Kd.upto_E aqL)
theorem an4 {w:World} {x:S92} {cs:List Value} (h:k92.K w x cs):∃ A5 c5 A6 c6 A7 c7,cs=[.int .i64 x.f0,.int .i64 x.f1,.int .i64 x.f2,.int .i64 x.f3.f0,.int .i64 x.f3.f1,.slice A5 x.f3.f2.length c5,.slice A6 x.f4.length c6,.slice A7 x.f5.length c7]/\x.f3.f2.length<=c5/\k90.C w A5 x.f3.f2.length x.f3.f2/\x.f4.length<=c6/\k92.C w A6 x.f4.length x.f4/\x.f5.length<=c7/\k92.C w A7 x.f5.length x.f5:=by
  obtain⟨n,h⟩:=h
  cases n with
  | zero=>exact h.elim
  | succ n =>
    obtain⟨_,_,rfl,rfl,⟨_,_,rfl,rfl,⟨_,_,rfl,rfl,⟨_,_,rfl,s3,⟨_,_,rfl,⟨A6,c6,rfl,l6,g6⟩,⟨A7,c7,rfl,l7,g7⟩⟩⟩⟩⟩⟩:=h
    obtain⟨A5,c5,rfl,l5,g5⟩:=ajw s3
    exact⟨A5,c5,A6,c6,A7,c7,rfl,l5,g5,l6,Kd.fix_C g6,l7,Kd.fix_C g7⟩
theorem apy (w:World) (x:S92) {A5:Option Addr} {c5:Nat} (l5:x.f3.f2.length<=c5) (g5:k90.C w A5 x.f3.f2.length x.f3.f2) {A6:Option Addr} {c6:Nat} (l6:x.f4.length<=c6) (g6:k92.C w A6 x.f4.length x.f4) {A7:Option Addr} {c7:Nat} (l7:x.f5.length<=c7) (g7:k92.C w A7 x.f5.length x.f5):k92.K w x [.int .i64 x.f0,.int .i64 x.f1,.int .i64 x.f2,.int .i64 x.f3.f0,.int .i64 x.f3.f1,.slice A5 x.f3.f2.length c5,.slice A6 x.f4.length c6,.slice A7 x.f5.length c7]:=by
  obtain⟨n6,q6⟩:=Kd.fix_C_back ajp g6
  obtain⟨n7,q7⟩:=Kd.fix_C_back ajp g7
  have r6:=Kd.upto_C_le ajp aqK (show n6<=(max n6 n7) by omega) q6
  have r7:=Kd.upto_C_le ajp aqK (show n7<=(max n6 n7) by omega) q7
  exact⟨(max n6 n7)+1,⟨[.int .i64 x.f0],[.int .i64 x.f1,.int .i64 x.f2,.int .i64 x.f3.f0,.int .i64 x.f3.f1,.slice A5 x.f3.f2.length c5,.slice A6 x.f4.length c6,.slice A7 x.f5.length c7],rfl,rfl,⟨[.int .i64 x.f1],[.int .i64 x.f2,.int .i64 x.f3.f0,.int .i64 x.f3.f1,.slice A5 x.f3.f2.length c5,.slice A6 x.f4.length c6,.slice A7 x.f5.length c7],rfl,rfl,⟨[.int .i64 x.f2],[.int .i64 x.f3.f0,.int .i64 x.f3.f1,.slice A5 x.f3.f2.length c5,.slice A6 x.f4.length c6,.slice A7 x.f5.length c7],rfl,rfl,⟨[.int .i64 x.f3.f0,.int .i64 x.f3.f1,.slice A5 x.f3.f2.length c5],[.slice A6 x.f4.length c6,.slice A7 x.f5.length c7],rfl,(anO w x.f3 l5 g5),⟨[.slice A6 x.f4.length c6],[.slice A7 x.f5.length c7],rfl,⟨A6,c6,rfl,l6,r6⟩,⟨A7,c7,rfl,l7,r7⟩⟩⟩⟩⟩⟩⟩
theorem acF (W:World) (ok:Nat->Prop) (x:S92) {A5:Option Addr} {c5:Nat} (l5:x.f3.f2.length<=c5) (g5:Kd.F k90 W ok A5 x.f3.f2.length x.f3.f2) {A6:Option Addr} {c6:Nat} (l6:x.f4.length<=c6) (g6:Kd.F k92 W ok A6 x.f4.length x.f4) {A7:Option Addr} {c7:Nat} (l7:x.f5.length<=c7) (g7:Kd.F k92 W ok A7 x.f5.length x.f5):Kd.FK k92 W ok x [.int .i64 x.f0,.int .i64 x.f1,.int .i64 x.f2,.int .i64 x.f3.f0,.int .i64 x.f3.f1,.slice A5 x.f3.f2.length c5,.slice A6 x.f4.length c6,.slice A7 x.f5.length c7]:=fun W2 hW=>apy W2 x l5 (g5 W2 hW) l6 (g6 W2 hW) l7 (g7 W2 hW)
def aaj (xs:List S92) (i:Int):S92:=xs.getD i.toNat z92
theorem ai1 {w:World} {A:Option Addr} {n:Nat} {xs:List S92} (h:Kd.C k92 w A n xs) (i:Int) (h0:0<=i) (h1:i < n):∃ ad A5 c5 A6 c6 A7 c7,A=some ad/\w.cell? (ad.add (i.toNat*8))=some (.int .i64 (aaj xs i).f0)/\w.cell? ⟨(ad.add (i.toNat*8)).block,(ad.add (i.toNat*8)).off+1,none⟩=some (.int .i64 (aaj xs i).f1)/\w.cell? ⟨(ad.add (i.toNat*8)).block,(ad.add (i.toNat*8)).off+2,none⟩=some (.int .i64 (aaj xs i).f2)/\w.cell? ⟨(ad.add (i.toNat*8)).block,(ad.add (i.toNat*8)).off+3,none⟩=some (.int .i64 (aaj xs i).f3.f0)/\w.cell? ⟨(ad.add (i.toNat*8)).block,(ad.add (i.toNat*8)).off+4,none⟩=some (.int .i64 (aaj xs i).f3.f1)/\w.cell? ⟨(ad.add (i.toNat*8)).block,(ad.add (i.toNat*8)).off+5,none⟩=some (.slice A5 (aaj xs i).f3.f2.length c5)/\w.cell? ⟨(ad.add (i.toNat*8)).block,(ad.add (i.toNat*8)).off+6,none⟩=some (.slice A6 (aaj xs i).f4.length c6)/\w.cell? ⟨(ad.add (i.toNat*8)).block,(ad.add (i.toNat*8)).off+7,none⟩=some (.slice A7 (aaj xs i).f5.length c7)/\(aaj xs i).f3.f2.length<=c5/\k90.C w A5 (aaj xs i).f3.f2.length (aaj xs i).f3.f2/\(aaj xs i).f4.length<=c6/\k92.C w A6 (aaj xs i).f4.length (aaj xs i).f4/\(aaj xs i).f5.length<=c7/\k92.C w A7 (aaj xs i).f5.length (aaj xs i).f5:=by
  obtain⟨ad,c,e,_,hK,hc0⟩:=Kd.C_get h z92 i h0 h1
  have hc:∀ j u,c[j]?=some u->w.cell? (ad.add (i.toNat*8+j))=some u:=hc0
  obtain⟨A5,c5,A6,c6,A7,c7,rfl,l5,g5,l6,g6,l7,g7⟩:=an4 hK
  exact⟨ad,A5,c5,A6,c6,A7,c7,e,hc 0 _ rfl,by rw [<- abg _ _ 1 (by omega)];exact hc 1 _ rfl,by rw [<- abg _ _ 2 (by omega)];exact hc 2 _ rfl,by rw [<- abg _ _ 3 (by omega)];exact hc 3 _ rfl,by rw [<- abg _ _ 4 (by omega)];exact hc 4 _ rfl,by rw [<- abg _ _ 5 (by omega)];exact hc 5 _ rfl,by rw [<- abg _ _ 6 (by omega)];exact hc 6 _ rfl,by rw [<- abg _ _ 7 (by omega)];exact hc 7 _ rfl,l5,g5,l6,g6,l7,g7⟩
def abX (xs:List (List Bool)) (i:Int):(List Bool):=xs.getD i.toNat ([]:List Bool)
theorem ap4 {w:World} {A:Option Addr} {n:Nat} {xs:List (List Bool)} (h:Kd.C (Kd.slice 4 Kd.bool) w A n xs) (i:Int) (h0:0<=i) (h1:i < n):∃ ad A0 c0,A=some ad/\w.cell? (ad.add i.toNat)=some (.slice A0 (abX xs i).length c0)/\(abX xs i).length<=c0/\Kd.bool.C w A0 (abX xs i).length (abX xs i):=by
  obtain⟨ad,c,e,_,hK,hc0⟩:=Kd.C_get h ([]:List Bool) i h0 h1
  have hc:∀ j u,c[j]?=some u->w.cell? (ad.add (i.toNat*1+j))=some u:=hc0
  obtain⟨A0,c0,rfl,l0,g0⟩:=hK
  exact⟨ad,A0,c0,e,by have hq:=hc 0 _ rfl;rwa [Nat.mul_one,Nat.add_zero] at hq,l0,g0⟩
structure ab5 where
  f0:Int
  f1:Int
def ah9:ab5:=⟨(0:Int),(0:Int)⟩
def abj:Kd ab5:=Kd.iso (Kd.pair (Kd.int .i64) (Kd.int .i64)) (fun x:ab5=>(x.f0,x.f1))
theorem al1 {w:World} {x:ab5} {cs:List Value} (h:abj.K w x cs):cs=[.int .i64 x.f0,.int .i64 x.f1]:=by
  obtain⟨_,_,rfl,rfl,rfl⟩:=h
  exact rfl
theorem abd {w:World} {base:Nat} {ok:Nat->Prop} {x:ab5} {cs:List Value} (h:abj.M w base ok x cs):cs=[.int .i64 x.f0,.int .i64 x.f1]:=by
  obtain⟨_,_,rfl,rfl,rfl⟩:=h
  exact rfl
theorem acR (w:World) (base:Nat) (ok:Nat->Prop) (x:ab5)  : abj.M w base ok x [.int .i64 x.f0,.int .i64 x.f1]:=⟨[.int .i64 x.f0],[.int .i64 x.f1],rfl,rfl,rfl⟩
def aa8 (xs:List ab5) (i:Int):ab5:=xs.getD i.toNat ah9
theorem aaS {w:World} {A:Option Addr} {n:Nat} {xs:List ab5} (h:Kd.C abj w A n xs) (i:Int) (h0:0<=i) (h1:i < n):∃ ad ,A=some ad/\w.cell? (ad.add (i.toNat*2))=some (.int .i64 (aa8 xs i).f0)/\w.cell? ⟨(ad.add (i.toNat*2)).block,(ad.add (i.toNat*2)).off+1,none⟩=some (.int .i64 (aa8 xs i).f1):=by
  obtain⟨ad,c,e,_,hK,hc0⟩:=Kd.C_get h ah9 i h0 h1
  have hc:∀ j u,c[j]?=some u->w.cell? (ad.add (i.toNat*2+j))=some u:=hc0
  obtain rfl:=al1 hK
  exact⟨ad,e,hc 0 _ rfl,by rw [<- abg _ _ 1 (by omega)];exact hc 1 _ rfl⟩
def aaw (xs:List (List ab5)) (i:Int):(List ab5):=xs.getD i.toNat ([]:List ab5)
theorem ahv {w:World} {A:Option Addr} {n:Nat} {xs:List (List ab5)} (h:Kd.C (Kd.slice 118 abj) w A n xs) (i:Int) (h0:0<=i) (h1:i < n):∃ ad A0 c0,A=some ad/\w.cell? (ad.add i.toNat)=some (.slice A0 (aaw xs i).length c0)/\(aaw xs i).length<=c0/\abj.C w A0 (aaw xs i).length (aaw xs i):=by
  obtain⟨ad,c,e,_,hK,hc0⟩:=Kd.C_get h ([]:List ab5) i h0 h1
  have hc:∀ j u,c[j]?=some u->w.cell? (ad.add (i.toNat*1+j))=some u:=hc0
  obtain⟨A0,c0,rfl,l0,g0⟩:=hK
  exact⟨ad,A0,c0,e,by have hq:=hc 0 _ rfl;rwa [Nat.mul_one,Nat.add_zero] at hq,l0,g0⟩
def aaY (xs:List (List Int)) (i:Int):(List Int):=xs.getD i.toNat ([]:List Int)
theorem afo {w:World} {A:Option Addr} {n:Nat} {xs:List (List Int)} (h:Kd.C (Kd.slice 3 (Kd.int .i64)) w A n xs) (i:Int) (h0:0<=i) (h1:i < n):∃ ad A0 c0,A=some ad/\w.cell? (ad.add i.toNat)=some (.slice A0 (aaY xs i).length c0)/\(aaY xs i).length<=c0/\(Kd.int .i64).C w A0 (aaY xs i).length (aaY xs i):=by
  obtain⟨ad,c,e,_,hK,hc0⟩:=Kd.C_get h ([]:List Int) i h0 h1
  have hc:∀ j u,c[j]?=some u->w.cell? (ad.add (i.toNat*1+j))=some u:=hc0
  obtain⟨A0,c0,rfl,l0,g0⟩:=hK
  exact⟨ad,A0,c0,e,by have hq:=hc 0 _ rfl;rwa [Nat.mul_one,Nat.add_zero] at hq,l0,g0⟩
theorem qE {α β:Type} {o:Option α} {f:α->Option β} {r:β} (h:o.bind f=some r):∃ a,aa1 (o=some a)/\f a=some r:=by
  obtain⟨a,h1,h2⟩:=Option.bind_eq_some_iff.mp h
  exact⟨a,⟨h1⟩,h2⟩
theorem qB {B:Nat} {w W:World} (h:Below B w W:=by repeat (first|(with_reducible first|exact HB.out|apply aaB|apply aas|apply aai|refine aag ?_ (aa1.out (by assumption)))|exact HB.out)):Below B w W:=h
theorem qD {p:Prop} [d:Decidable p] (h:decide p=true:=by first|(with_reducible assumption)|assumption):p:=of_decide_eq_true h
theorem qZ {p:Prop} (h:p:=by first|rfl|(simp;done)|(simp [*];done)):p:=h
theorem qM {p:Prop} (h:p:=by (try simp only [List.map_toArray,List.map_cons,List.map_nil]);first|done|rfl|(simp only [List.length_drop,List.length_take];rfl)):p:=h
theorem qK {p q:Prop} (h:aa1 p) (f:p->q:=by intro h_;(with_reducible repeat (first|refine ach ?_ _|refine ab4 ?_|refine aci ?_ _));exact h_):q:=f h.out
theorem qR {p q:Prop} (h:aa1 p) (f:p->q:=by intro h_;(with_reducible repeat (first|apply Kd.R_alloc|apply Kd.R_drewN|apply Kd.R_drew));exact h_):q:=f h.out
theorem qH {p:Prop} (h:p:=by repeat (first|(with_reducible first|exact HK.out|apply afn|apply agM|apply adf|apply agN|refine aho ?_ (aa1.out (by assumption)) _)|exact HK.out)):p:=h
theorem qT {p:Prop} (h:p:=by repeat (first|(with_reducible first|exact HK.out|apply Kept.alloc|apply Kept.drewN|apply Kept.drew)|exact HK.out)):p:=h
theorem qN {p q:Prop} (h:aa1 p) (f:p->q:=by intro h_;(with_reducible repeat (first|apply Kd.N_alloc|apply Kd.N_drewN|apply Kd.N_drew));exact h_):q:=f h.out
theorem qV {p q:Prop} (h:aa1 p) (f:p->q:=by intro h_;(with_reducible repeat (first|apply Kd.V_alloc|apply Kd.V_drewN|apply Kd.V_drew));exact h_):q:=f h.out
theorem qS {p q:Prop} (h:aa1 p) (f:p->q:=by intro h_;(with_reducible repeat (first|apply Kd.S_alloc|apply Kd.S_drewN|apply Kd.S_drew));exact h_):q:=f h.out
theorem abR {w:World} {ad:Addr} {n:Nat} {xs:List S27} (h:Kd.C k27 w (some ad) n xs) (i:Int) (h0:0<=i) (h1:i < n):w.cell? (ad.add (i.toNat*5))=some (.int .i64 (aa0 xs i).f0):=by
  obtain⟨ad2,e,h_0,h_1,h_2,h_3,h_4⟩:=ab2 h i h0 h1
  injection e with e
  subst e
  exact h_0
theorem abQ {w:World} {ad:Addr} {n:Nat} {xs:List S27} (h:Kd.C k27 w (some ad) n xs) (i:Int) (h0:0<=i) (h1:i < n):w.cell? ⟨(ad.add (i.toNat*5)).block,(ad.add (i.toNat*5)).off+1,none⟩=some (.int .i64 (aa0 xs i).f1):=by
  obtain⟨ad2,e,h_0,h_1,h_2,h_3,h_4⟩:=ab2 h i h0 h1
  injection e with e
  subst e
  exact h_1
theorem abP {w:World} {ad:Addr} {n:Nat} {xs:List S27} (h:Kd.C k27 w (some ad) n xs) (i:Int) (h0:0<=i) (h1:i < n):w.cell? ⟨(ad.add (i.toNat*5)).block,(ad.add (i.toNat*5)).off+2,none⟩=some (.int .i64 (aa0 xs i).f2):=by
  obtain⟨ad2,e,h_0,h_1,h_2,h_3,h_4⟩:=ab2 h i h0 h1
  injection e with e
  subst e
  exact h_2
theorem abO {w:World} {ad:Addr} {n:Nat} {xs:List S27} (h:Kd.C k27 w (some ad) n xs) (i:Int) (h0:0<=i) (h1:i < n):w.cell? ⟨(ad.add (i.toNat*5)).block,(ad.add (i.toNat*5)).off+3,none⟩=some (.int .i64 (aa0 xs i).f3):=by
  obtain⟨ad2,e,h_0,h_1,h_2,h_3,h_4⟩:=ab2 h i h0 h1
  injection e with e
  subst e
  exact h_3
theorem abN {w:World} {ad:Addr} {n:Nat} {xs:List S27} (h:Kd.C k27 w (some ad) n xs) (i:Int) (h0:0<=i) (h1:i < n):w.cell? ⟨(ad.add (i.toNat*5)).block,(ad.add (i.toNat*5)).off+4,none⟩=some (.int .i64 (aa0 xs i).f4):=by
  obtain⟨ad2,e,h_0,h_1,h_2,h_3,h_4⟩:=ab2 h i h0 h1
  injection e with e
  subst e
  exact h_4
theorem abT {w:World} {ad:Addr} {n:Nat} {xs:List ab5} (h:Kd.C abj w (some ad) n xs) (i:Int) (h0:0<=i) (h1:i < n):w.cell? (ad.add (i.toNat*2))=some (.int .i64 (aa8 xs i).f0):=by
  obtain⟨ad2,e,h_0,h_1⟩:=aaS h i h0 h1
  injection e with e
  subst e
  exact h_0
theorem abS {w:World} {ad:Addr} {n:Nat} {xs:List ab5} (h:Kd.C abj w (some ad) n xs) (i:Int) (h0:0<=i) (h1:i < n):w.cell? ⟨(ad.add (i.toNat*2)).block,(ad.add (i.toNat*2)).off+1,none⟩=some (.int .i64 (aa8 xs i).f1):=by
  obtain⟨ad2,e,h_0,h_1⟩:=aaS h i h0 h1
  injection e with e
  subst e
  exact h_1
theorem afS {W w':World} {n:Nat} (hq:W.drewN n=w') {a:Addr} {b:Bool} (h:W.frozen? a=b):w'.frozen? a=b:=by
  rw [<- hq,World.frozen?_drewN];exact h
theorem akl {α β:Type} {d:Kd α} {d':Kd β} {e e':Nat} {w:World} {base:Nat} {ok:Nat->Prop} {v:Value} {xs:List α} (h:d.R e w base ok v xs) (hne:∀ q,q∈e' :: d'.E->q≠e) {k:Nat} (hk:some k=v.ownBlock) (hs:∃ q,q∈e' :: d'.E/\∃ cells,w.heap[k]?=some (.cells cells q (0,0))):False:=by
  obtain⟨q,hq,c,hc⟩:=hs
  obtain⟨c',hc'⟩:=Kd.R_typed h k hk.symm
  rw [hc] at hc'
  injection hc' with hc'
  injection hc' with _ hc'
  exact hne q hq hc'
def jb (n k:Nat):Array Bool:=((List.range n).map fun i=>k.testBit i).toArray
theorem jI {c:Prop} [Decidable c] {α:Type} {A:Option α} {r:α} (h:(if c then A else none)=some r):decide c=true/\A=some r:=by
  by_cases x:c
  · exact⟨decide_eq_true x,by rwa [if_pos x] at h⟩
  · rw [if_neg x] at h;cases h
theorem jU {c:Prop} [Decidable c] {α:Type} {A:Option α} {r:α} (h:(if c then A else none)=some r):c/\A=some r:=⟨of_decide_eq_true (jI h).1,(jI h).2⟩
theorem jJ {c:Prop} [Decidable c] {α:Type} {A:Option α} {r:α} (h:(if c then A else none)=some r):c=True/\decide c=true/\A=some r:=⟨eq_true (jU h).1,jI h⟩
theorem jL {c:Prop} [Decidable c] {α:Type} {A:Option α} {r:α} (h:(if c then A else none)=some r):aa1 c/\A=some r:=⟨⟨(jU h).1⟩,(jU h).2⟩
theorem jD {c:Prop} [Decidable c] {α:Type} {A B:Option α} {r:α} (h:(if c then A else B)=some r):(decide c=true/\A=some r)\/(decide c=false/\B=some r):=by
  by_cases x:c
  · exact .inl ⟨decide_eq_true x,by rwa [if_pos x] at h⟩
  · exact .inr ⟨decide_eq_false x,by rwa [if_neg x] at h⟩
theorem jE {β:Type} [BEq β] [LawfulBEq β] {x y:β} [Decidable (x=y)] {α:Type} {A B:Option α} {r:α} (h:(if x=y then A else B)=some r):((x == y)=true/\(x != y)=false/\A=some r)\/(¬ x=y/\(x == y)=false/\(x != y)=true/\B=some r):=by
  by_cases c:x=y
  · exact .inl ⟨beq_iff_eq.mpr c,bne_eq_false_iff_eq.mpr c,by rwa [if_pos c] at h⟩
  · exact .inr ⟨c,beq_eq_false_iff_ne.mpr c,bne_iff_ne.mpr c,by rwa [if_neg c] at h⟩
theorem jB {b:Bool} {α:Type} {A B:Option α} {r:α} (h:(if b=true then A else B)=some r):(b=true/\A=some r)\/(b=false/\B=some r):=by
  cases b
  · exact .inr ⟨rfl,h⟩
  · exact .inl ⟨rfl,h⟩
theorem afz {w:World} {g g' j:Nat} {o:Option Obj} (h:w.heap[g]?=o) (hp:g≠g') (u:Value):(w.setCell ⟨g',j,none⟩ u).heap[g]?=o:=(Below.heap_setCell w ⟨g',j,none⟩ u g hp).trans h
theorem anb {w:World} {g g' j:Nat} {o:Option Obj} {u:Value} (h:w.heap[g]?=o) (hp:aa1 (g≠g')):(w.setCell ⟨g',j,none⟩ u).heap[g]?=o:=(Below.heap_setCell w ⟨g',j,none⟩ u g hp.out).trans h
theorem ana {w:World} {g t j:Nat} {cs:Array Value} {v:Value} (h:w.heap[g]?=some (.cells cs t (0,0))):(w.setCell ⟨g,j,none⟩ v).heap[g]?=some (.cells (cs.setIfInBounds j v) t (0,0)):=alh h j v rfl
theorem qF {p q:Prop} (h:aa1 p) (f:p->q:=by
    intro h_
    apply Eq.trans
    · repeat (with_reducible first|exact h_|assumption|apply ana|apply anb|apply ach|apply ab4|apply aci)
    · rfl):q:=f h.out
theorem qL {p q:Prop} (h:aa1 p) (f:p->q:=by intro h_;(with_reducible repeat (first|refine ach ?_ _|refine ab4 ?_|refine aci ?_ _|refine afz ?_ (aa1.out (by assumption)) _));exact h_):q:=f h.out
theorem mM {α:Type} {x y:Option α} (h:LeO x y:=by repeat' (first|(with_reducible first|exact aeJ _|exact acz _|refine adr ?_ ?_|refine LeO.bind ?_ (fun _=>?_)|apply_assumption)|exact acz _|apply_assumption|refine adr ?_ ?_|refine LeO.bind ?_ (fun _=>?_))):LeO x y:=h
theorem kC {p q:Prop} (h:p) (f:p->q:=by intro h_;repeat (first|exact h_|(with_reducible refine Kd.C_alloc ?_ _)|(with_reducible refine Kd.C_drewN ?_ _)|(with_reducible refine Kd.C_drew ?_))):q:=f h
theorem kn {w:World} {a:Addr} {v:Value} {b g:Nat} (h:w.cell? a=some v) (hg:aa1 (w.heap.size<=g)) (e:a.block=b:=by first|rfl|exact add_block _ _):b≠g:=Nat.ne_of_lt (Nat.lt_of_lt_of_le (e ▸ World.block_lt_of_cell? _ _ h) hg.out)
theorem kx {w W:World} {a:Addr} {v:Value} (hb:aa1 (Below w.heap.size w W)) (h:w.cell? a=some v):W.cell? a=some v:=(hb.out.cell (World.block_lt_of_cell? w _ h)).trans h
theorem ky {α:Type} (E:α):∃ y,aa1 (y=E):=⟨E,⟨rfl⟩⟩
theorem kz {α β:Type} {y E:α} {f:α->Option β} {r:β} (N:aa1 (y=E)) (h:(some E).bind f=some r):f y=some r:=by rw [N.out];exact h
theorem kQ {α:Type} {d:Kd α} {A:Option Addr} {n:Nat} {xs:List α} {w0 W w1:World} (h:aa1 (d.C w0 A n xs)) (hb:Below W.heap.size W w1) (f:d.C w0 A n xs->d.C W A n xs:=by intro h_;exact kC h_):aa1 (d.C w1 A n xs):=⟨Kd.C_below (f h.out) hb⟩
theorem kT {w W w1:World} {S:Nat->Prop} (hb:Below W.heap.size W w1) (h:Kept w W S:=by exact qT):aa1 (Kept w w1 S):=⟨Kept.below h hb⟩
theorem kW {W w1:World} {a:Addr} {v:Value} (hb:Below W.heap.size W w1) (h:aa1 (W.cell? a=some v)):aa1 (w1.cell? a=some v):=⟨abl hb h.out⟩
theorem kL {α:Type} {d:Kd α} {e:Nat} {ok:Nat->Prop} {v:Value} {xs:List α} {w W w1:World} (h:d.R e w1 W.heap.size ok v xs) (hb:w.heap.size<=W.heap.size:=by exact aa4 qB):aa1 (d.R e w1 w.heap.size ok v xs):=⟨Kd.R_lower h hb⟩
theorem kO {α β:Type} {d:Kd α} {d':Kd β} {e e' base:Nat} {ok ok':Nat->Prop} {u v:Value} {xs:List α} {ys:List β} {w0 W w1 w2:World} (h:aa1 (d.R e w0 base ok u xs)) (ho:d'.R e' w2 W.heap.size ok' v ys) (hb:Below W.heap.size W w1) (f:d.R e w0 base ok u xs->d.R e W base ok u xs:=by intro h_;(with_reducible repeat (first|apply Kd.R_alloc|apply Kd.R_drewN|apply Kd.R_drew));exact h_):aa1 (d.R e w1 base (fun k=>ok k/\some k≠v.ownBlock) u xs):=⟨Kd.R_elder' (f h.out) (Kd.R_base ho) hb⟩
theorem kf {p q:Prop} (h:p) (f:p->q:=by intro h_;first|exact h_|(rw [add_block];exact h_)|(show (Addr.add _ _).block≠_;rw [add_block];exact h_)|(dsimp only;exact h_)):q:=f h
theorem qW {p:Prop} (h:p:=by first|rfl|(simp [aaF,aaE] <;> rfl)|(simp [*,aaF,aaE] <;> rfl)):p:=h
theorem qU {p:Prop} (h:p:=by repeat (first|exact aaM _|apply aaA.step)):p:=h
theorem kH {w W w1:World} (hb:Below W.heap.size W w1) (h:Below w.heap.size w W:=by exact qB):aa1 (Below w.heap.size w w1):=⟨abH h hb⟩
theorem kB {w0 W w1:World} {g:Nat} {o:Obj} (h:aa1 (w0.heap[g]?=some o)) (hb:Below W.heap.size W w1) (f:w0.heap[g]?=some o->W.heap[g]?=some o:=by intro h_;(with_reducible repeat (first|refine ach ?_ _|refine ab4 ?_|refine aci ?_ _|refine afz ?_ (aa1.out (by assumption)) _));exact h_):aa1 (w1.heap[g]?=some o):=⟨abW (f h.out) hb⟩
theorem kR {α:Type} {d:Kd α} {e base:Nat} {ok:Nat->Prop} {v:Value} {xs:List α} {w0 W w1:World} (h:aa1 (d.R e w0 base ok v xs)) (hb:Below W.heap.size W w1) (f:d.R e w0 base ok v xs->d.R e W base ok v xs:=by intro h_;(with_reducible repeat (first|apply Kd.R_alloc|apply Kd.R_drewN|apply Kd.R_drew));exact h_):aa1 (d.R e w1 base ok v xs):=⟨Kd.R_below (f h.out) hb⟩
theorem kG {w W:World} {g:Nat} (hg:g=W.heap.size) (h:w.heap.size<=W.heap.size:=by exact aa4 qB):aa1 (w.heap.size<=g):=⟨hg ▸ h⟩
theorem kN {w0 W:World} {g g1:Nat} {o:Obj} (hg:g1=W.heap.size) (h:aa1 (w0.heap[g]?=some o)) (f:w0.heap[g]?=some o->W.heap[g]?=some o:=by intro h_;(with_reducible repeat (first|refine ach ?_ _|refine ab4 ?_|refine aci ?_ _|refine afz ?_ (aa1.out (by assumption)) _));exact h_):aa1 (g≠g1):=⟨by rw [hg];exact Nat.ne_of_lt (acK (f h.out))⟩
theorem kM {w0 W:World} {g g1:Nat} {o:Obj} (hg:g1=W.heap.size) (h:aa1 (w0.heap[g]?=some o)) (f:w0.heap[g]?=some o->W.heap[g]?=some o:=by intro h_;(with_reducible repeat (first|refine ach ?_ _|refine ab4 ?_|refine aci ?_ _|refine afz ?_ (aa1.out (by assumption)) _));exact h_):aa1 (g1≠g):=⟨by rw [hg];exact Nat.ne_of_gt (acK (f h.out))⟩
theorem kS {α:Type} {d:Kd α} {e base:Nat} {ok:Nat->Prop} {v:Value} {xs:List α} {w0 W w1:World} (h:aa1 (d.S e w0 base ok v xs)) (hb:Below W.heap.size W w1) (f:d.S e w0 base ok v xs->d.S e W base ok v xs:=by intro h_;(with_reducible repeat (first|apply Kd.S_alloc|apply Kd.S_drewN|apply Kd.S_drew));exact h_):aa1 (d.S e w1 base ok v xs):=⟨Kd.S_below (f h.out) hb⟩
section
variable {P:Program} {ops:Array Oper} {rest:List Oper} {o:Oper} {a:Act} {Q:Exit->Act->World->Prop}
theorem jV {α:Type} (d:Kd α) {W:World} (e:Nat) (xs:List α) (inner:List Value) {N:Tmp} (hrep:aat (d.M W W.heap.size (fun _=>True)) d.sz xs inner) (h:∀ v1 w1,d.R e w1 W.heap.size (fun _=>True) v1 xs->Below W.heap.size W w1->wpList P ops Q rest (a.put o.dst v1) w1) (hgd:o.guard=none:=by rfl) (hd:o.dst=some N:=by rfl)
    (hrun:(execOp a.eval o).run P W = .ok (.value (.slice (some ⟨W.heap.size,0,none⟩) xs.length xs.length)) (W.alloc (.cells inner.toArray e)):=by first|(go_simp;done)|(go_simp;rfl)) (hm:xs.length<=9223372036854775807:=by simp):wpList P ops Q (o :: rest) a W :=
  Kd.R_lit d _ e hgd hd hrun hrep (fun _ hk=>hk) trivial (Below.refl _ _) (Nat.le_refl _) hm (fun v1 w1 h1 h2 _ _=>h v1 w1 h1 h2)
theorem jc {w:World} (f m:Nat) {xs:Array Operand} {ts:Array TypeId} (h:wpList P ops Q (o :: rest) a w) (_h:o.op = .call { callee:=.value (.func f),args:=xs,argTypes:=ts }:=by rfl) (_g:o.dst=some m:=by rfl):wpList P ops Q (o :: rest) a w:=h
theorem jd {w:World} (m:Nat) (h:wpList P ops Q (o :: rest) a w) (_g:o.dst=some m:=by rfl):wpList P ops Q (o :: rest) a w:=h
theorem jX {W:World} (cs:Array Value) (t:TypeId) {N:Tmp} (h:∀ g,g=W.heap.size->∀ w1,w1.heap[g]?=some (.cells cs t (0,0))->Below W.heap.size W w1->wpList P ops Q rest (a.put o.dst (.pointer (some ⟨g,0,none⟩))) w1) (hgd:o.guard=none:=by rfl) (hd:o.dst=some N:=by rfl)
    (hrun:(execOp a.eval o).run P W = .ok (.value (.pointer (some ⟨W.heap.size,0,none⟩))) (W.alloc (.cells cs t (0,0))):=by first|(go_simp;done)|(go_simp;rfl)):wpList P ops Q (o :: rest) a W:=aeg hgd hd hrun h
theorem jG {w:World} {f:FuncId} {fn:Func} {xs:Array Operand} {ts:Array TypeId} {N:Option Tmp} (hf:P.funcs[f]?=some fn) (args:Array Value) (h:Calls P f args w fun e w'=>∃ v,e = .returned v/\wpList P ops Q rest (a.put N v) w') (hd:o.dst=N:=by rfl) (hg:o.guard=none:=by rfl) (hname:(fn.name == "runtime.NumGoroutine")=false:=by kernel_rfl) (hb:fn.body.isSome=true:=by rfl)
    (hop:o.op = .call { callee:=.value (.func f),args:=xs,argTypes:=ts }:=by rfl) (hargs:xs.map a.eval=args:=by exact qM):wpList P ops Q (o :: rest) a w:=ae8 N hd hg hf hname hb args hop hargs h
theorem jK {w:World} {f:FuncId} {fn:Func} {xs:Array Operand} {ts:Array TypeId} {N:Option Tmp} {args:Array Value} {v:Value} {R:World->Prop} (hf:P.funcs[f]?=some fn) (hc:Calls P f args w fun e w'=>e = .returned v/\R w') (h:∀ w',R w'->wpList P ops Q rest (a.put N v) w') (hd:o.dst=N:=by rfl) (hg:o.guard=none:=by rfl) (hname:(fn.name == "runtime.NumGoroutine")=false:=by kernel_rfl) (hb:fn.body.isSome=true:=by rfl)
    (hop:o.op = .call { callee:=.value (.func f),args:=xs,argTypes:=ts }:=by rfl) (hargs:xs.map a.eval=args:=by exact qM):wpList P ops Q (o :: rest) a w:=ae8 N hd hg hf hname hb args hop hargs (hc.mono fun _ w' k=>⟨v,k.1,h w' k.2⟩)
theorem jM {w:World} {f:FuncId} {fn:Func} {xs:Array Operand} {ts:Array TypeId} {N:Option Tmp} {args:Array Value} {β:Type} {v:β->Value} {R:β->World->Prop} (hf:P.funcs[f]?=some fn) (hc:Calls P f args w fun e w'=>∃ u,e = .returned (v u)/\R u w') (h:∀ u w',R u w'->wpList P ops Q rest (a.put N (v u)) w') (hd:o.dst=N:=by rfl) (hg:o.guard=none:=by rfl) (hname:(fn.name == "runtime.NumGoroutine")=false:=by kernel_rfl) (hb:fn.body.isSome=true:=by rfl)
    (hop:o.op = .call { callee:=.value (.func f),args:=xs,argTypes:=ts }:=by rfl) (hargs:xs.map a.eval=args:=by exact qM):wpList P ops Q (o :: rest) a w:=ae8 N hd hg hf hname hb args hop hargs (hc.mono fun _ w' ⟨u,k,r⟩=>⟨v u,k,h u w' r⟩)
theorem jO {w:World} {f:FuncId} {fn:Func} {xs:Array Operand} {ts:Array TypeId} {N:Option Tmp} {args:Array Value} {R:Ending->World->Prop} (hf:P.funcs[f]?=some fn) (hc:Calls P f args w R) (h:∀ e w',R e w'->∃ v,e = .returned v/\wpList P ops Q rest (a.put N v) w') (hd:o.dst=N:=by rfl) (hg:o.guard=none:=by rfl) (hname:(fn.name == "runtime.NumGoroutine")=false:=by kernel_rfl) (hb:fn.body.isSome=true:=by rfl)
    (hop:o.op = .call { callee:=.value (.func f),args:=xs,argTypes:=ts }:=by rfl) (hargs:xs.map a.eval=args:=by exact qM):wpList P ops Q (o :: rest) a w:=ae8 N hd hg hf hname hb args hop hargs (hc.mono h)
theorem jY {W:World} (cs:Array Value) (t:TypeId) {N:Tmp} (h:∀ g,g=W.heap.size->∀ w1,aa1 (w1.heap[g]?=some (.cells cs t (0,0)))->Below W.heap.size W w1->wpList P ops Q rest (a.put o.dst (.pointer (some ⟨g,0,none⟩))) w1) (hgd:o.guard=none:=by rfl) (hd:o.dst=some N:=by rfl)
    (hrun:(execOp a.eval o).run P W = .ok (.value (.pointer (some ⟨W.heap.size,0,none⟩))) (W.alloc (.cells cs t (0,0))):=by first|(go_simp;done)|(go_simp;rfl)):wpList P ops Q (o :: rest) a W:=aeg hgd hd hrun fun g e w1 b=>h g e w1 ⟨b⟩
theorem jp {md:Region.Mode} {S:World->Prop} {ds:List Nat} (i m:Nat) {oi:Oper} {v:Value} {fuel:Nat} {l:Array Bool} {w:World} (l':Array Bool) {a':Act} (h:aad P md ops Q S ds fuel l' a' w) (hi:ops[i]?=some oi:=by rfl) (hN:oi.dst=some m:=by rfl) (hc:apL md ops l l' i=true:=by exact apK HT_.out (by kernel_rfl))
    (hQ:∀ c a w,Q (.panic c) (a.put oi.dst v) w->Q (.panic c) a w:=by exact fun _ _ _ h=>h) (hy:Yields P ops oi v a:=by refine Or.inl ⟨by rfl,?_⟩;intro w';go_simp;with_reducible rfl) (ha:a.put (some m) v=a':=by simp only [Act.put,List.setIfInBounds_toArray,List.set_cons_zero,List.set_cons_succ,aau,aaD];rfl):aad P md ops Q S ds (fuel+1) l a w:=aiC l' hi hN hc hQ hy ha h
theorem jt {md:Region.Mode} {S:World->Prop} {ds:List Nat} (i m:Nat) {oi:Oper} {v:Value} {fuel:Nat} {l:Array Bool} {w:World} (l':Array Bool) {a':Act} (h:aad P md ops Q S ds fuel l' a' w) (hi:ops[i]?=some oi:=by rfl) (hN:oi.dst=some m:=by rfl) (hc:takeB md ops ds l l' i=true:=by exact ajf HT_.out HW_.out (by kernel_rfl))
    (hQ:∀ c a w,Q (.panic c) (a.put oi.dst v) w->Q (.panic c) a w:=by exact fun _ _ _ h=>h) (hy:YieldsIf P ops S oi v a:=by refine Or.inl ⟨by rfl,?_⟩;intro w' hS_;repeat (obtain⟨s_,hS_⟩:=hS_);go_simp;with_reducible rfl) (hS:S w:=by exact hHeld) (ha:a.put (some m) v=a':=by simp only [Act.put,List.setIfInBounds_toArray,List.set_cons_zero,List.set_cons_succ,aau,aaD];rfl):aad P md ops Q S ds (fuel+1) l a w:=take_ l' hi hN hc hQ hy hS ha h
end
theorem jz2 {w:World} {g t:Nat} {a0 a1:Value} (h:aa1 (w.heap[g]?=some (.cells #[a0,a1] t (0,0)))):w.cell? ⟨g,0,none⟩=some a0/\w.cell? ⟨g,1,none⟩=some a1/\w.frozen? ⟨g,0,none⟩=false/\w.frozen? ⟨g,1,none⟩=false:=⟨(aa3 h.out 0).trans rfl,(aa3 h.out 1).trans rfl,aa7 h.out 0,aa7 h.out 1⟩
theorem jz3 {w:World} {g t:Nat} {a0 a1 a2:Value} (h:aa1 (w.heap[g]?=some (.cells #[a0,a1,a2] t (0,0)))):w.cell? ⟨g,0,none⟩=some a0/\w.cell? ⟨g,1,none⟩=some a1/\w.cell? ⟨g,2,none⟩=some a2/\w.frozen? ⟨g,0,none⟩=false/\w.frozen? ⟨g,1,none⟩=false/\w.frozen? ⟨g,2,none⟩=false:=⟨(aa3 h.out 0).trans rfl,(aa3 h.out 1).trans rfl,(aa3 h.out 2).trans rfl,aa7 h.out 0,aa7 h.out 1,aa7 h.out 2⟩
theorem jz5 {w:World} {g t:Nat} {a0 a1 a2 a3 a4:Value} (h:aa1 (w.heap[g]?=some (.cells #[a0,a1,a2,a3,a4] t (0,0)))):w.cell? ⟨g,0,none⟩=some a0/\w.cell? ⟨g,1,none⟩=some a1/\w.cell? ⟨g,2,none⟩=some a2/\w.cell? ⟨g,3,none⟩=some a3/\w.cell? ⟨g,4,none⟩=some a4/\w.frozen? ⟨g,0,none⟩=false/\w.frozen? ⟨g,1,none⟩=false/\w.frozen? ⟨g,2,none⟩=false/\w.frozen? ⟨g,3,none⟩=false/\w.frozen? ⟨g,4,none⟩=false:=⟨(aa3 h.out 0).trans rfl,(aa3 h.out 1).trans rfl,(aa3 h.out 2).trans rfl,(aa3 h.out 3).trans rfl,(aa3 h.out 4).trans rfl,aa7 h.out 0,aa7 h.out 1,aa7 h.out 2,aa7 h.out 3,aa7 h.out 4⟩
theorem jz8 {w:World} {g t:Nat} {a0 a1 a2 a3 a4 a5 a6 a7:Value} (h:aa1 (w.heap[g]?=some (.cells #[a0,a1,a2,a3,a4,a5,a6,a7] t (0,0)))):w.cell? ⟨g,0,none⟩=some a0/\w.cell? ⟨g,1,none⟩=some a1/\w.cell? ⟨g,2,none⟩=some a2/\w.cell? ⟨g,3,none⟩=some a3/\w.cell? ⟨g,4,none⟩=some a4/\w.cell? ⟨g,5,none⟩=some a5/\w.cell? ⟨g,6,none⟩=some a6/\w.cell? ⟨g,7,none⟩=some a7/\w.frozen? ⟨g,0,none⟩=false/\w.frozen? ⟨g,1,none⟩=false/\w.frozen? ⟨g,2,none⟩=false/\w.frozen? ⟨g,3,none⟩=false/\w.frozen? ⟨g,4,none⟩=false/\w.frozen? ⟨g,5,none⟩=false/\w.frozen? ⟨g,6,none⟩=false/\w.frozen? ⟨g,7,none⟩=false:=⟨(aa3 h.out 0).trans rfl,(aa3 h.out 1).trans rfl,(aa3 h.out 2).trans rfl,(aa3 h.out 3).trans rfl,(aa3 h.out 4).trans rfl,(aa3 h.out 5).trans rfl,(aa3 h.out 6).trans rfl,(aa3 h.out 7).trans rfl,aa7 h.out 0,aa7 h.out 1,aa7 h.out 2,aa7 h.out 3,aa7 h.out 4,aa7 h.out 5,aa7 h.out 6,aa7 h.out 7⟩
theorem aoS {w:World} {A:Option Addr} {n:Nat} {xs:List S27} (hr:aa1 (Kd.C k27 w A n xs)) (i:Int) (p:decide (0<=i)=true:=by first|(with_reducible assumption)|assumption) (q:decide (i < (n:Int))=true:=by first|(with_reducible assumption)|assumption):∃ ad,A=some ad/\w.cell? (ad.add (i.toNat*5))=some (.int .i64 (aa0 xs i).f0)/\w.cell? ⟨(ad.add (i.toNat*5)).block,(ad.add (i.toNat*5)).off+1,none⟩=some (.int .i64 (aa0 xs i).f1)/\w.cell? ⟨(ad.add (i.toNat*5)).block,(ad.add (i.toNat*5)).off+2,none⟩=some (.int .i64 (aa0 xs i).f2)/\w.cell? ⟨(ad.add (i.toNat*5)).block,(ad.add (i.toNat*5)).off+3,none⟩=some (.int .i64 (aa0 xs i).f3)/\w.cell? ⟨(ad.add (i.toNat*5)).block,(ad.add (i.toNat*5)).off+4,none⟩=some (.int .i64 (aa0 xs i).f4)/\(0<=i)=True/\(i < (n:Int))=True:=by
  obtain⟨ad,e,h0,h1,h2,h3,h4⟩:=ab2 hr.out i (of_decide_eq_true p) (of_decide_eq_true q)
  exact⟨ad,e,h0,h1,h2,h3,h4,eq_true (of_decide_eq_true p),eq_true (of_decide_eq_true q)⟩
theorem aM {p:Prop} (h:p):aa1 p:=⟨h⟩
abbrev iV (n:Int):Go.Value:=.int .i64 n
theorem oJ {α:Type} {a b:α} (h:some a=some b):a=b:=Option.some.inj h
theorem oJ2 {T0:Type} {a0 b0:T0} {T1:Type} {a1 b1:T1} (H:some (a0,a1)=some (b0,b1)):a0=b0 ∧ a1=b1:=by
 simp only [Option.some.injEq,Prod.mk.injEq] at H;exact H
theorem oJ3 {T0:Type} {a0 b0:T0} {T1:Type} {a1 b1:T1} {T2:Type} {a2 b2:T2} (H:some (a0,a1,a2)=some (b0,b1,b2)):a0=b0 ∧ a1=b1 ∧ a2=b2:=by
 simp only [Option.some.injEq,Prod.mk.injEq] at H;exact H
theorem oJ4 {T0:Type} {a0 b0:T0} {T1:Type} {a1 b1:T1} {T2:Type} {a2 b2:T2} {T3:Type} {a3 b3:T3} (H:some (a0,a1,a2,a3)=some (b0,b1,b2,b3)):a0=b0 ∧ a1=b1 ∧ a2=b2 ∧ a3=b3:=by
 simp only [Option.some.injEq,Prod.mk.injEq] at H;exact H
theorem oJ5 {T0:Type} {a0 b0:T0} {T1:Type} {a1 b1:T1} {T2:Type} {a2 b2:T2} {T3:Type} {a3 b3:T3} {T4:Type} {a4 b4:T4} (H:some (a0,a1,a2,a3,a4)=some (b0,b1,b2,b3,b4)):a0=b0 ∧ a1=b1 ∧ a2=b2 ∧ a3=b3 ∧ a4=b4:=by
 simp only [Option.some.injEq,Prod.mk.injEq] at H;exact H
theorem oJ6 {T0:Type} {a0 b0:T0} {T1:Type} {a1 b1:T1} {T2:Type} {a2 b2:T2} {T3:Type} {a3 b3:T3} {T4:Type} {a4 b4:T4} {T5:Type} {a5 b5:T5} (H:some (a0,a1,a2,a3,a4,a5)=some (b0,b1,b2,b3,b4,b5)):a0=b0 ∧ a1=b1 ∧ a2=b2 ∧ a3=b3 ∧ a4=b4 ∧ a5=b5:=by
 simp only [Option.some.injEq,Prod.mk.injEq] at H;exact H
theorem oJ9 {T0:Type} {a0 b0:T0} {T1:Type} {a1 b1:T1} {T2:Type} {a2 b2:T2} {T3:Type} {a3 b3:T3} {T4:Type} {a4 b4:T4} {T5:Type} {a5 b5:T5} {T6:Type} {a6 b6:T6} {T7:Type} {a7 b7:T7} {T8:Type} {a8 b8:T8} (H:some (a0,a1,a2,a3,a4,a5,a6,a7,a8)=some (b0,b1,b2,b3,b4,b5,b6,b7,b8)):a0=b0 ∧ a1=b1 ∧ a2=b2 ∧ a3=b3 ∧ a4=b4 ∧ a5=b5 ∧ a6=b6 ∧ a7=b7 ∧ a8=b8:=by
 simp only [Option.some.injEq,Prod.mk.injEq] at H;exact H
theorem kI {w W W1:World} {g:Nat} (k:aa6 W W1 g none) (h:aa6 w W g none:=by repeat (first|(with_reducible first|exact HK.out|apply afn|apply agM|apply adf|apply agN|refine aho ?_ (aa1.out (by assumption)) _)|exact HK.out)):aa1 (aa6 w W1 g none):=⟨h.trans k (.inl rfl)⟩
theorem kr {p q r:Prop} (x:aa1 p) (y:q) (f:p->q->r:=by intro x y;(first|rw [<- x] at y|(simp only [Int.reduceToNat] at y;rw [<- x] at y));exact y):r:=f x.out y
theorem kv {p q r:Prop} (x:aa1 p) (y:q) (f:p->q->r:=by intro x y;first|exact kz ⟨x⟩ y|(rw [<- x] at y;exact y)):r:=f x.out y
theorem kb {α:Type} {d:Kd α} {A:Option Addr} {n:Nat} {xs:List α} {w W:World} {q:Prop} (h:aa1 (d.C w A n xs)) (hb:aa1 (Below w.heap.size w W)) (f:d.C W A n xs->q:=by intro h_;repeat (first|exact h_|(with_reducible refine Kd.C_alloc ?_ _)|(with_reducible refine Kd.C_drewN ?_ _)|(with_reducible refine Kd.C_drew ?_))):q:=f (Kd.C_below h.out hb.out)
theorem kY {w W w1:World} {g:Nat} (hb:Below W.heap.size W w1) (h:aa6 w W g none:=by exact qH):aa1 (aa6 w w1 g none):=⟨h.trans (ad4 hb g none) (.inl rfl)⟩
theorem kU {w W:World} {g:Nat} (h:aa6 w W g none:=by exact qH):w.heap.size<=W.heap.size:=ae6 h
theorem kw {w W W1:World} {g g1:Nat} {o:Obj} (k:aa6 W W1 g none) (h:aa1 (w.heap[g1]?=some o)) (n:aa1 (g1≠g)) (f:w.heap[g1]?=some o->W.heap[g1]?=some o:=by intro h_;(with_reducible repeat (first|refine ach ?_ _|refine ab4 ?_|refine aci ?_ _));exact h_):aa1 (W1.heap[g1]?=some o):=⟨acW k (f h.out) n.out (by simp)⟩
theorem kJ {α:Type} {d:Kd α} {e base:Nat} {w:World} {ok:Nat->Prop} {A:Option Addr} {n c:Nat} {xs:List α} {q:Prop} (h:aa1 (d.R e w base ok (.slice A n c) xs)) (f:d.C w A xs.length xs->q:=by intro h_;exact kC h_):q:=f (Kd.R_reads' h.out).2.2
theorem kp {α:Type} {d:Kd α} {e base:Nat} {w:World} {ok:Nat->Prop} {A:Option Addr} {n c:Nat} {xs:List α} (h:aa1 (d.R e w base ok (.slice A n c) xs)):n<=c:=(Kd.R_reads' h.out).2.1
theorem jb_ (w:World):aa1 (Below w.heap.size w w):=⟨Below.refl _ _⟩
end Go.Proofs.YtebpplallecogaaGreat.M
namespace Go.Proofs.YtebpplallecogaaGreat.PM
structure Q where
 op:Int
 dst:Int
 a:Int
 b:Int
 n:Int
def rg (x:Int):Prop:=0<=x/\x<=11
def wd (x:Int):Prop:=-2147483648<=x/\x<=2147483647
def QV (q:Q) (many:Int):Prop :=
 (q.op=1/\rg q.dst/\q.a=0/\q.b=0/\wd q.n)\/(q.op=2/\rg q.dst/\rg q.a/\q.b=0/\q.n=0)\/(q.op=3/\rg q.dst/\rg q.a/\rg q.b/\1<=q.n/\q.n<=12) \/
 (q.op=4/\q.dst=0/\q.a=0/\q.b=0/\0<=q.n/\q.n < many)\/(q.op=5/\q.dst=0/\rg q.a/\q.b=0/\0<=q.n/\q.n < many) \/
 (q.op=6/\q.dst=0/\rg q.a/\q.b=0/\0<=q.n/\q.n<=2)\/(q.op=7/\rg q.dst/\q.a=0/\q.b=0/\0<=q.n/\q.n<=2) \/
 (q.op=9/\q.dst=0/\rg q.a/\q.b=0/\q.n=0)\/((q.op=8\/q.op=10)/\q.dst=0/\q.a=0/\q.b=0/\q.n=0)
instance (x:Int):Decidable (rg x):=by unfold rg;infer_instance
instance (x:Int):Decidable (wd x):=by unfold wd;infer_instance
instance (q:Q) (many:Int):Decidable (QV q many):=by unfold QV;infer_instance
def rgB (x:Int):Bool:=decide (rg x)
def wdB (x:Int):Bool:=decide (wd x)
def qvB (q:Q) (many:Int):Bool:=decide (QV q many)
theorem rgB_iff {x:Int}:rgB x=true↔0<=x/\x<=11:=by unfold rgB rg;exact decide_eq_true_iff
theorem wdB_iff {x:Int}:wdB x=true↔-2147483648<=x/\x<=2147483647:=by unfold wdB wd;exact decide_eq_true_iff
theorem qvB_iff {q:Q} {many:Int}:qvB q many=true↔QV q many:=by unfold qvB;exact decide_eq_true_iff
def rgU (x:Int) (use:Bool):Bool:=if use then rgB x else x == 0
def rgs (d a b:Int) (ud ua ub:Bool):Bool:=rgU d ud && rgU a ua && rgU b ub
def q0:Q:=⟨0,0,0,0,0⟩
def at_ (c:List Q) (i:Nat):Q:=c.getD i q0
def CV (c:List Q):Prop:=1<=c.length/\c.length<=600/\(∀ i,i < c.length->QV (at_ c i) c.length)/\((at_ c (c.length - 1)).op=10\/(at_ c (c.length - 1)).op=4)
/-- The indexes that may follow,in the order of the text. -/
def nx (q:Q) (i:Nat):List Nat :=
 if q.op=10 then [] else if q.op=4 then [q.n.toNat] else if q.op=5 then (if q.n < i+1 then [q.n.toNat,i+1] else if (i:Int)+1 < q.n then [i+1,q.n.toNat] else [i+1]) else [i+1]
theorem nx_lt {c:List Q} (h:CV c) {i j:Nat} (hi:i < c.length) (hj:j∈nx (at_ c i) i):j < c.length:=by
 obtain⟨_,_,hv,hl⟩:=h
 have v:=hv i hi
 have hlast:i+1 < c.length\/(at_ c i).op=10\/(at_ c i).op=4:=by
  rcases Nat.lt_or_ge (i+1) c.length with h|h
  ·exact .inl h
  have:i=c.length - 1:=by omega
  exact .inr (this ▸ hl)
 unfold QV at v
 unfold nx at hj
 (repeat' split at hj) <;> simp at hj <;> omega
def sets (q:Q):Int:=if q.op=1\/q.op=2\/q.op=3\/q.op=7 then q.dst else -1
def uses (q:Q) (r:Nat):Prop:=((q.op=2\/q.op=5\/q.op=6\/q.op=9)/\q.a=r)\/(q.op=3/\(q.a=r\/q.b=r))
instance (q:Q) (r:Nat):Decidable (uses q r):=by unfold uses;infer_instance
/-- Register r is live before the quad i. -/
inductive Live (c:List Q):Nat->Nat->Prop
 | use {i r:Nat}:i < c.length->uses (at_ c i) r->Live c i r
 | flow {i j r:Nat}:i < c.length->sets (at_ c i)≠r->j∈nx (at_ c i) i->Live c j r->Live c i r
/-- The quad i is reached from the quad 0. -/
inductive Reach (c:List Q):Nat->Prop
 | zero:Reach c 0
 | step {i j:Nat}:Reach c i->i < c.length->j∈nx (at_ c i) i->Reach c j
/-- A table of flags that is sound and closed is the table of liveness. -/
theorem live_of_closed {c:List Q} {T:Nat->Nat->Prop} (sound:∀ i r,i < c.length->T i r->Live c i r)
  (use:∀ i r,i < c.length->uses (at_ c i) r->T i r) (flow:∀ i j r:Nat,i < c.length->sets (at_ c i)≠r->j∈nx (at_ c i) i->T j r->T i r) (i r:Nat) (hi:i < c.length):T i r↔Live c i r:=by
 refine⟨sound i r hi,fun h=>?_⟩
 induction h with
 | use h1 h2=>exact use _ _ h1 h2
 | flow h1 h2 h3 h4 ih =>
  refine flow _ _ _ h1 h2 h3 (ih ?_)
  cases h4 <;> assumption
end Go.Proofs.YtebpplallecogaaGreat.PM
namespace Go.Proofs.YtebpplallecogaaGreat.M
open Go.Proofs.Tryz Go.RowKit Go.Proofs.YtebpplallecogaaGreatW.PrintWords Go.Proofs.YtebpplallecogaaGreatW.PrintLast Go.Proofs.YtebpplallecogaaGreatW.PrintMore PM
theorem adW {a b:Bool} (h:a=b):Ending.returned (.bool a) = .returned (.bool b):=by rw [h]
theorem aou {P:Program} {f:FuncId} {args:Array Value} {w:World} {n:Nat} {v:Value} (h:Calls P f args (w.drewN n) fun e w'=>e = .returned v/\w.drewN n=w'):Calls P f args (w.drewN n) fun e w''=>e = .returned v/\∃ m,w''=w.drewN m :=
 h.mono fun _ _ h=>⟨h.1,n,h.2.symm⟩
theorem akp (r:Int) (w:World):Calls prog 56 #[iV r] w fun e w'=>e = .returned (.bool (rgB r))/\w=w':=by
 go_enter func56,ntmps56
 go_wp2
 all_goals
  go_ret
  refine⟨adW (Bool.eq_iff_iff.2 ?_),rfl⟩
  simp only [decide_eq_true_eq,Bool.and_eq_true,Bool.false_eq_true,false_iff,rgB_iff]
  omega
theorem aqJ (n:Int) (w:World):Calls prog 57 #[iV n] w fun e w'=>e = .returned (.bool (wdB n))/\w=w':=by
 go_enter func57,ntmps57
 go_wp2
 all_goals
  go_ret
  refine⟨adW (Bool.eq_iff_iff.2 ?_),rfl⟩
  simp only [Bool.and_eq_true,decide_eq_true_eq,wdB_iff,Bool.false_eq_true,false_iff]
  omega
theorem vop (n:Int) (w:World):Calls prog 58 #[iV n] w fun e w'=>e = .returned (.bool (decide (1<=n/\n<=12)))/\w=w':=by
 go_enter func58,ntmps58
 go_wp2
 all_goals
  go_ret
  refine⟨adW (Bool.eq_iff_iff.2 ?_),rfl⟩
  simp only [Bool.and_eq_true,decide_eq_true_eq,Bool.false_eq_true,false_iff]
  omega
def anG (aa ae af ag ah a1:Int):Option Bool:=some (qvB ⟨aa,ae,af,ag,ah⟩ a1)
set_option maxHeartbeats 4000000 in
theorem Sa6.calls (op dst a b n many:Int) (r:Bool) (w:World) (h:anG op dst a b n many=some r) :
  Calls prog 40 #[.agg #[iV op,iV dst,iV a,iV b,iV n],iV many] w fun e w'=>e = .returned (.bool r)/\Below w.heap.size w w':=by
 unfold anG at h
 injection h with h
 subst h
 have cd:=fun W=>akp dst W
 have ca:=fun W=>akp a W
 have cb:=fun W=>akp b W
 have cw:=fun W=>aqJ n W
 have co:=fun W=>vop n W
 go_enter func40,ntmps40
 go_wp2
 go_quiet (first|(go_at_call 56;with_reducible exact aou (cd _))|(go_at_call 56;with_reducible exact aou (ca _))|(go_at_call 56;with_reducible exact aou (cb _)))
 go_wp2_with (first|(go_at_call 57;(with_reducible refine (cw _).mono ?_);rintro e w1 ⟨rfl,rfl⟩)|(go_at_call 58;(with_reducible refine (co _).mono ?_);rintro e w1 ⟨rfl,rfl⟩))
 all_goals
  go_ret
  refine⟨adW ?_,by repeat (first|(with_reducible exact Below.refl _ _)|(with_reducible apply aaB)|(with_reducible apply aas)|(with_reducible apply aai))⟩
  rw [Bool.eq_iff_iff]
  clear cd ca cb cw co
  try simp only [rgB_iff,wdB_iff,Bool.eq_false_iff,ne_eq,beq_iff_eq] at *
  simp only [*,qvB_iff,QV,rg,wd,rgB_iff,wdB_iff,beq_iff_eq,Bool.and_eq_true,decide_eq_true_eq,Bool.false_eq_true,Int.reduceEq,false_and,or_false,false_or,or_self,true_and,and_true,and_false,false_iff,true_iff,iff_self,not_false_eq_true,reduceIte]
  try (first|omega|(simp only [and_false,not_false_eq_true];done))
end Go.Proofs.YtebpplallecogaaGreat.M
namespace Go.Proofs.YtebpplallecogaaGreat.M
open Go.Proofs.Tryz Go.RowKit Go.Proofs.YtebpplallecogaaGreatW.PrintWords Go.Proofs.YtebpplallecogaaGreatW.PrintLast Go.Proofs.YtebpplallecogaaGreatW.PrintMore
attribute [local go_sem] aan aal aay aax aaf aae aam aak
mutual
def afm:Nat->List S27->Bool->Option (Bool)
 | 0,_,_=>none
 | k+1,x0,bB=>if bB=true then (some false) else (afl k x0 x0 (x0.length:Int) 0)
def afl:Nat->List S27->List S27->Int->Int->Option (Bool)
 | 0,_,_,_,_=>none
 | k+1,x0,aO,bn,aL=>if aL < bn then (if 0<=aL then (if aL < (aO.length:Int) then ((anG ((aa0 aO aL).f0) ((aa0 aO aL).f1) ((aa0 aO aL).f2) ((aa0 aO aL).f3) ((aa0 aO aL).f4) (x0.length:Int)).bind fun aN=>(if aN=true then (afl k x0 aO bn (wrap64 (aL+1))) else (some false))) else (none)) else (none)) else (if 0<=(wrap64 ((x0.length:Int) - 1)) then (if (wrap64 ((x0.length:Int) - 1)) < (x0.length:Int) then (if ((aa0 x0 (wrap64 ((x0.length:Int) - 1))).f0)=10 then (some true) else (some (((aa0 x0 (wrap64 ((x0.length:Int) - 1))).f0) == 4))) else (none)) else (none))
end
def Sa1.f (k:Nat) (l0:List S27):Option (Bool):=if (l0.length:Int) < 1 then (afm k l0 true) else (afm k l0 (decide ((l0.length:Int) > 600)))
theorem Sa1.calls (k:Nat) (A0:Option Addr) (c0:Nat) (l0:List S27) (r:Bool) (w:World) (hr0:Kd.C k27 w A0 l0.length l0) (hc0:l0.length<=c0) (h:Sa1.f k l0=some r) :
  Calls prog 18 #[.slice A0 l0.length c0] w fun e w'=>e = .returned (.bool r)/\Below w.heap.size w w':=by
 have bD:=underlying27
 have aU:=aM hr0
 have bG:=aM hc0
 clear hr0 hc0
 have HB:=jb_ w
 have H:=h;unfold Sa1.f at H
 clear h
 have aV:=aM H
 clear H
 go_enter func18,ntmps18
 go_upto_region 1 with (fail)
 go_cut [13] (fun v13 wc=>∃ (kq:Nat) (aH:Bool),v13 = .bool aH/\aa1 (afm kq l0 aH=some r)/\aa1 (kq<=k)/\aa1 (Below w.heap.size w wc))
 case first =>
  have H:=aV.out
  clear aV
  by_cases c3:(l0.length:Int) < 1
  ·rw [if_pos c3] at H
   have aI:=decide_eq_true c3
   have aW:decide (l0.length < 1)=true:=decide_eq_true (by omega)
   clear c3
   (first|rw [aI]|(simp only [aau,aaD];rw [aI])|skip)
   have H':=aM H
   clear H
   go_wp2
   go_meet
   exact⟨_,(true),qZ,H',⟨by first|omega|exact Nat.le_refl _⟩,⟨qB⟩⟩
  rw [if_neg c3] at H
  have aI:=decide_eq_false c3
  have aW:decide (l0.length < 1)=false:=decide_eq_false (by omega)
  clear c3
  (first|rw [aI]|(simp only [aau,aaD];rw [aI])|skip)
  have H':=aM H
  clear H
  go_wp2
  go_meet
  exact⟨_,(decide ((l0.length:Int) > 600)),qZ,H',⟨by first|omega|exact Nat.le_refl _⟩,⟨qB⟩⟩
 clear aV
 obtain⟨kq,aH,rfl,HA,bq,HB⟩:=hcut
 cases kq with
 | zero=>exact absurd HA.out (by simp [afm])
 | succ bu =>
  have H:=HA.out
  clear HA
  simp only [afm] at H
  replace H:=jB H;rcases H with ⟨rfl,H⟩ | ⟨rfl,H⟩
  ·obtain rfl:=oJ H
   go_wp2
   go_ret
   exact⟨qW,qB⟩
  have H':=aM H
  clear H
  go_wp2
  go_loopg [16] bu (fun kq v16 w'=>∃ (aa:Int),v16 = iV aa/\aa1 (afl kq l0 l0 (l0.length:Int) aa=some r)/\aa1 (kq<=bu)/\aa1 (Below w.heap.size w w'))
  case atStart=>exact⟨(0),qZ,H',⟨Nat.le_refl _⟩,⟨qB⟩⟩
  clear H'
  obtain⟨aa,rfl,HA,bv,HB⟩:=hrel
  rcases gk with _|k2
  ·exact absurd HA.out (by simp [afl])
  have H:=HA.out
  clear HA
  simp only [afl] at H
  replace H:=jD H;rcases H with ⟨aX,H⟩ | ⟨aX,H⟩
  ·replace H:=jI H;obtain⟨bE,H⟩:=H
   replace H:=jI H;obtain⟨bF,H⟩:=H
   obtain⟨aN,A8,H⟩:=qE H
   try dsimp only at H
   replace H:=jB H;rcases H with ⟨rfl,H⟩ | ⟨rfl,H⟩
   ·have H':=aM H
    clear H
    have az:0<=(aa:Int):=qD
    have aA:aa < (l0.length:Int):=qD
    obtain⟨aP,aJ,ae,af,ag,ah,ai⟩:=ab2 aU.out aa az aA
    cases aJ
    replace ae:=kx HB ae
    replace af:=kx HB af
    replace ag:=kx HB ag
    replace ah:=kx HB ah
    replace ai:=kx HB ai
    replace az:=eq_true az
    replace aA:=eq_true aA
    go_wp2_with (first|((with_reducible refine jd 4 ?_);(try (refine aah (by rfl) ?_;dsimp only));refine jY _ 27 ?_;intro aG hg aY ay hb;have aQ:=kG hg;replace HB:=kH hb;clear hb hg;have aZ:=jz5 ay)|((with_reducible refine jc 40 23 ?_);refine jG func40 #[.agg #[iV ((aa0 l0 aa).f0),iV ((aa0 l0 aa).f1),iV ((aa0 l0 aa).f2),iV ((aa0 l0 aa).f3),iV ((aa0 l0 aa).f4)],iV (l0.length:Int)] ?_;refine (Sa6.calls _ _ _ _ _ _ _ _ (aa1.out (by assumption))).mono ?_;rintro e bg ⟨rfl,hb⟩;refine⟨_,rfl,?_⟩;replace ay:=aM (abW (g:=aG) (qF ay) hb);replace HB:=kH hb;clear hb))
    go_roundg k2
    case measure=>have:=bq.out;have:=bv.out;omega
    exact⟨_,qZ,H',⟨by have:=bq.out;have:=bv.out;omega⟩,⟨qB⟩⟩
   obtain rfl:=oJ H
   have az:0<=(aa:Int):=qD
   have aA:aa < (l0.length:Int):=qD
   obtain⟨aP,aJ,ae,af,ag,ah,ai⟩:=ab2 aU.out aa az aA
   cases aJ
   replace ae:=kx HB ae
   replace af:=kx HB af
   replace ag:=kx HB ag
   replace ah:=kx HB ah
   replace ai:=kx HB ai
   replace az:=eq_true az
   replace aA:=eq_true aA
   go_wp2_with (first|((with_reducible refine jd 4 ?_);(try (refine aah (by rfl) ?_;dsimp only));refine jY _ 27 ?_;intro aG hg aY ay hb;have aQ:=kG hg;replace HB:=kH hb;clear hb hg;have aZ:=jz5 ay)|((with_reducible refine jc 40 23 ?_);refine jG func40 #[.agg #[iV ((aa0 l0 aa).f0),iV ((aa0 l0 aa).f1),iV ((aa0 l0 aa).f2),iV ((aa0 l0 aa).f3),iV ((aa0 l0 aa).f4)],iV (l0.length:Int)] ?_;refine (Sa6.calls _ _ _ _ _ _ _ _ (aa1.out (by assumption))).mono ?_;rintro e bg ⟨rfl,hb⟩;refine⟨_,rfl,?_⟩;replace ay:=aM (abW (g:=aG) (qF ay) hb);replace HB:=kH hb;clear hb))
   go_ret
   exact⟨qW,qB⟩
  obtain⟨aB,aF⟩:∃ j_:Int,(wrap64 ((l0.length:Int) - 1))=j_:=⟨_,rfl⟩
  replace H:(if 0<=(aB) then (if (aB) < (l0.length:Int) then (if ((aa0 l0 (aB)).f0)=10 then (some true) else (some (((aa0 l0 (aB)).f0) == 4))) else (none)) else (none))=some r:=by first|(rw [aF] at H;exact H)|(simp only [aF] at H ⊢;exact H)
  have bi:(IntKind.i64.wrap ((l0.length:Int) - 1))=aB:=(aau _).trans aF
  replace H:=jI H;obtain⟨bz,H⟩:=H
  replace H:=jI H;obtain⟨bA,H⟩:=H
  replace H:=jE H;rcases H with ⟨aS,aT,H⟩ | ⟨c19,aS,aT,H⟩
  ·obtain rfl:=oJ H
   have aC:0<=((aB):Int):=qD
   have aD:(aB) < (l0.length:Int):=qD
   obtain⟨aR,aK,aj,ak,au,av,ax⟩:=ab2 aU.out (aB) aC aD
   cases aK
   replace aj:=kx HB aj
   replace ak:=kx HB ak
   replace au:=kx HB au
   replace av:=kx HB av
   replace ax:=kx HB ax
   replace aC:=eq_true aC
   replace aD:=eq_true aD
   go_wp2
   go_ret
   exact⟨by first|rfl|(simp [aaF,aaE] <;> rfl)|(simp only [<- aF];first|rfl|(simp [aaF,aaE] <;> rfl))|(simp [*,aaF,aaE] <;> rfl),qB⟩
  obtain rfl:=oJ H
  have aC:0<=((aB):Int):=qD
  have aD:(aB) < (l0.length:Int):=qD
  obtain⟨aR,aK,aj,ak,au,av,ax⟩:=ab2 aU.out (aB) aC aD
  cases aK
  replace aj:=kx HB aj
  replace ak:=kx HB ak
  replace au:=kx HB au
  replace av:=kx HB av
  replace ax:=kx HB ax
  replace aC:=eq_true aC
  replace aD:=eq_true aD
  go_wp2
  go_ret
  exact⟨by first|rfl|(simp [aaF,aaE] <;> rfl)|(simp only [<- aF];first|rfl|(simp [aaF,aaE] <;> rfl))|(simp [*,aaF,aaE] <;> rfl),qB⟩
def agf:Nat->Int->Bool->Int->Int->Int->Int->Int->Option (List Int)
 | 0,_,_,_,_,_,_,_=>none
 | k+1,x1,bC,aC,aR,aS,aT,af=>if bC=true then (some (([af,wrap64 (x1+1)]:List Int))) else (if aC=5 then (if af > (wrap64 (x1+1)) then (some (([wrap64 (x1+1),af]:List Int))) else (some (([wrap64 (x1+1)]:List Int)))) else (some (([wrap64 (x1+1)]:List Int))))
def akh (k:Nat) (ag ax ay az ae a1:Int):Option (List Int):=if ag=10 then (some ([]:List Int)) else (if ag=4 then (some (([ae]:List Int))) else (if ag=5 then (agf k a1 (decide (ae < (wrap64 (a1+1)))) ag ax ay az ae) else (agf k a1 false ag ax ay az ae)))
theorem aih (k:Nat) (ag ax ay az ae a1:Int) (r:List Int) (w:World) (h:akh k ag ax ay az ae a1=some r) :
  Calls prog 47 #[.agg #[iV ag,iV ax,iV ay,iV az,iV ae],iV a1] w fun e w'=>∃ bq:Value,e = .returned (bq)/\Kd.R (Kd.int .i64) 3 w' w.heap.size (fun _=>True) bq r/\Below w.heap.size w w':=by
 have bE:=underlying27
 have HB:=jb_ w
 have H:=h;unfold akh at H
 clear h
 replace H:=jE H;rcases H with ⟨aU,aV,H⟩ | ⟨c3,aU,aV,H⟩
 ·obtain rfl:=oJ H
  go_enter func47,ntmps47
  go_wp2_with (first|((with_reducible refine jd 2 ?_);refine jY _ 27 ?_;intro aA hg w4 aa hb;have aD:=kG hg;replace HB:=kH hb;clear hb hg;have bN:=jz5 aa))
  go_ret
  exact⟨_,qW,by first|exact Kd.R_nil _ _ _ _ _|exact Kd.N_nil _ _ _ _ _|exact Kd.V_nil _ _ _ _ _|exact Kd.Q_nil _ _ _ _ _|exact Kd.S_nil _ _ _ _ _,qB⟩
 replace H:=jE H;rcases H with ⟨aW,aX,H⟩ | ⟨c6,aW,aX,H⟩
 ·obtain⟨y1198,ah⟩:=ky ((([ae]:List Int)):List Int)
  replace H:=kv ah H
  obtain rfl:=oJ H
  go_enter func47,ntmps47
  go_wp2_with (first|((with_reducible refine jd 2 ?_);refine jY _ 27 ?_;intro aA hg w7 aa hb;have aD:=kG hg;replace HB:=kH hb;clear hb hg;have bO:=jz5 aa)|((with_reducible refine jd 15 ?_);refine jV (Kd.int .i64) 3 ([ae]:List Int) [iV ae] (aat.one (show Kd.M (Kd.int .i64) _ _ _ ae [iV ae] from rfl) (aa9 _ _)) ?_;intro bu w9 aF hb;replace aF:=kr ah aF;have aK:=kL aF;replace aa:=kB aa hb;replace HB:=kH hb;clear hb aF))
  go_ret
  exact⟨_,qW,qR aK,qB⟩
 have aL:=aM H
 clear H
 go_enter func47,ntmps47
 go_upto_region 5 with (first|((with_reducible refine jd 2 ?_);refine jY _ 27 ?_;intro aA hg bP aa hb;have aD:=kG hg;replace HB:=kH hb;clear hb hg;have bn:=jz5 aa))
 (try simp only [Act.put,List.setIfInBounds_toArray,List.set_cons_zero,List.set_cons_succ])
 go_cut [16] (fun v16 wc=>∃ (kq:Nat) (aB:Bool),v16 = .bool aB/\aa1 (agf kq a1 aB ag ax ay az ae=some r)/\aa1 (kq<=k)/\aa1 (wc.heap[aA]?=some (.cells #[iV ag,iV ax,iV ay,iV az,iV ae] 27 (0,0)))/\aa1 (Below w.heap.size w wc))
 case first =>
  have H:=aL.out
  clear aL
  replace H:=jE H;rcases H with ⟨av,aY,H⟩ | ⟨c14,av,aY,H⟩
  ·(first|rw [av]|(simp only [aau,aaD];rw [av])|skip)
   have H':=aM H
   clear H
   have bF:=jz5 aa
   go_wp2
   go_meet
   exact⟨_,(decide (ae < (wrap64 (a1+1)))),qZ,H',⟨by first|omega|exact Nat.le_refl _⟩,⟨qK aa⟩,⟨qB⟩⟩
  (first|rw [av]|(simp only [aau,aaD];rw [av])|skip)
  have H':=aM H
  clear H
  have bG:=jz5 aa
  go_wp2
  go_meet
  exact⟨_,(false),qZ,H',⟨by first|omega|exact Nat.le_refl _⟩,⟨qK aa⟩,⟨qB⟩⟩
 clear aL
 try clear c3;try clear aU;try clear aV;try clear c6;try clear aW;try clear aX;try clear bn
 obtain⟨kq,aB,rfl,HA,bH,aa,HB⟩:=hcut
 cases kq with
 | zero=>exact absurd HA.out (by simp [agf])
 | succ bI =>
  have H:=HA.out
  clear HA
  simp only [agf] at H
  replace H:=jB H;rcases H with ⟨rfl,H⟩ | ⟨rfl,H⟩
  ·obtain⟨y1201,ai⟩:=ky ((([ae,wrap64 (a1+1)]:List Int)):List Int)
   replace H:=kv ai H
   obtain rfl:=oJ H
   have bJ:=jz5 aa
   go_wp2_with (first|((with_reducible refine jd 31 ?_);refine jV (Kd.int .i64) 3 ([ae,wrap64 (a1+1)]:List Int) [iV ae,iV (wrap64 (a1+1))] (aat.one (show Kd.M (Kd.int .i64) _ _ _ ae [iV ae] from rfl) (aat.one (show Kd.M (Kd.int .i64) _ _ _ (wrap64 (a1+1)) [iV (wrap64 (a1+1))] from rfl) (aa9 _ _))) ?_;intro bv bQ aG hb;replace aG:=kr ai aG;have aN:=kL aG;replace aa:=kB aa hb;replace HB:=kH hb;clear hb aG))
   go_ret
   exact⟨_,qW,qR aN,qB⟩
  replace H:=jE H;rcases H with ⟨aZ,bg,H⟩ | ⟨c21,aZ,bg,H⟩
  ·replace H:=jD H;rcases H with ⟨bi,H⟩ | ⟨bi,H⟩
   ·obtain⟨y1204,aj⟩:=ky ((([wrap64 (a1+1),ae]:List Int)):List Int)
    replace H:=kv aj H
    obtain rfl:=oJ H
    have bK:=jz5 aa
    go_wp2_with (first|((with_reducible refine jd 47 ?_);refine jV (Kd.int .i64) 3 ([wrap64 (a1+1),ae]:List Int) [iV (wrap64 (a1+1)),iV ae] (aat.one (show Kd.M (Kd.int .i64) _ _ _ (wrap64 (a1+1)) [iV (wrap64 (a1+1))] from rfl) (aat.one (show Kd.M (Kd.int .i64) _ _ _ ae [iV ae] from rfl) (aa9 _ _))) ?_;intro bz bR aH hb;replace aH:=kr aj aH;have aO:=kL aH;replace aa:=kB aa hb;replace HB:=kH hb;clear hb aH))
    go_ret
    exact⟨_,qW,qR aO,qB⟩
   obtain⟨y1207,ak⟩:=ky ((([wrap64 (a1+1)]:List Int)):List Int)
   replace H:=kv ak H
   obtain rfl:=oJ H
   have bL:=jz5 aa
   go_wp2_with (first|((with_reducible refine jd 50 ?_);refine jV (Kd.int .i64) 3 ([wrap64 (a1+1)]:List Int) [iV (wrap64 (a1+1))] (aat.one (show Kd.M (Kd.int .i64) _ _ _ (wrap64 (a1+1)) [iV (wrap64 (a1+1))] from rfl) (aa9 _ _)) ?_;intro bA bS aI hb;replace aI:=kr ak aI;have aP:=kL aI;replace aa:=kB aa hb;replace HB:=kH hb;clear hb aI))
   go_ret
   exact⟨_,qW,qR aP,qB⟩
  obtain⟨y1210,au⟩:=ky ((([wrap64 (a1+1)]:List Int)):List Int)
  replace H:=kv au H
  obtain rfl:=oJ H
  have bM:=jz5 aa
  go_wp2_with (first|((with_reducible refine jd 50 ?_);refine jV (Kd.int .i64) 3 ([wrap64 (a1+1)]:List Int) [iV (wrap64 (a1+1))] (aat.one (show Kd.M (Kd.int .i64) _ _ _ (wrap64 (a1+1)) [iV (wrap64 (a1+1))] from rfl) (aa9 _ _)) ?_;intro bB bT aJ hb;replace aJ:=kr au aJ;have aQ:=kL aJ;replace aa:=kB aa hb;replace HB:=kH hb;clear hb aJ))
  go_ret
  exact⟨_,qW,qR aQ,qB⟩
def afi:Nat->List Int->Int->List Int->Int->Int->Option (Int)
 | 0,_,_,_,_,_=>none
 | k+1,x1,x7,aD,aS,aC=>if aC < aS then (if 0<=aC then (if aC < (aD.length:Int) then (if 0<=(rd aD aC) then (if (rd aD aC) < (x1.length:Int) then (afi k x1 (Go.bits .or .u16 x7 (rd x1 (rd aD aC))) aD aS (wrap64 (aC+1))) else (none)) else (none)) else (none)) else (none)) else (some x7)
def Sa9.f (k:Nat) (l0:List S27) (l1:List Int) (a2:Int):Option (Int):=if 0<=a2 then (if a2 < (l0.length:Int) then ((akh k ((aa0 l0 a2).f0) ((aa0 l0 a2).f1) ((aa0 l0 a2).f2) ((aa0 l0 a2).f3) ((aa0 l0 a2).f4) a2).bind fun aa=>(afi k l1 0 aa (aa.length:Int) 0)) else (none)) else (none)
theorem Sa9.calls (k:Nat) (A0:Option Addr) (c0:Nat) (l0:List S27) (A1:Option Addr) (c1:Nat) (l1:List Int) (a2 r:Int) (w:World) (hr0:Kd.C k27 w A0 l0.length l0) (hc0:l0.length<=c0) (hr1:Kd.C (Kd.int .u16) w A1 l1.length l1) (hc1:l1.length<=c1) (h:Sa9.f k l0 l1 a2=some r) :
  Calls prog 44 #[.slice A0 l0.length c0,.slice A1 l1.length c1,iV a2] w fun e w'=>e = .returned (.int .u16 r)/\Below w.heap.size w w':=by
 have bg:=underlying27
 have bi:=aM hr0
 have bv:=aM hc0
 clear hr0 hc0
 have HR1:=aM hr1
 have bz:=aM hc1
 clear hr1 hc1
 have HB:=jb_ w
 have H:=h;unfold Sa9.f at H
 clear h
 replace H:=jI H;obtain⟨aL,H⟩:=H
 replace H:=jI H;obtain⟨aN,H⟩:=H
 obtain⟨aa,A6,H⟩:=qE H
 try dsimp only at H
 have H':=aM H
 clear H
 obtain⟨aO,aF,ag,ah,ai,aj,ak,aG,aH⟩:=aoS bi a2
 cases aF
 go_enter func44,ntmps44
 go_wp2_with (first|((with_reducible refine jc 47 15 ?_);refine jM func47 (aih k ((aa0 l0 a2).f0) ((aa0 l0 a2).f1) ((aa0 l0 a2).f2) ((aa0 l0 a2).f3) ((aa0 l0 a2).f4) a2 aa _ A6.out) ?_;rintro aT w7 ⟨ho0,hb⟩;have au:=kL ho0;replace HB:=kH hb;clear hb;(try clear ho0);obtain⟨bn,bq,bu⟩:=Kd.R_slice au.out;subst bu))
 go_loopg [7,17] k (fun kq v7 v17 w'=>∃ (aA:Int) (ae:Int),v7 = .int .u16 aA/\v17 = iV ae/\aa1 (afi kq l1 aA aa (aa.length:Int) ae=some r)/\aa1 (kq<=k)/\aa1 (Kd.R (Kd.int .i64) 3 w' w.heap.size (fun _=>True) (.slice bn aa.length bq) aa)/\aa1 (Below w.heap.size w w'))
 case atStart=>exact⟨(0),(0),qZ,qZ,H',⟨Nat.le_refl _⟩,⟨qR au⟩,⟨qB⟩⟩
 clear H'
 try clear c1;try clear aL;try clear aN;try clear ag;try clear ah;try clear ai;try clear aj;try clear ak;try clear aG;try clear aH
 obtain⟨aA,ae,rfl,rfl,HA,aU,aB,HB⟩:=hrel
 rcases gk with _|k1
 ·exact absurd HA.out (by simp [afi])
 have H:=HA.out
 clear HA
 simp only [afi] at H
 replace H:=jD H;rcases H with ⟨aP,H⟩ | ⟨aP,H⟩
 ·replace H:=jI H;obtain⟨aV,H⟩:=H
  replace H:=jI H;obtain⟨aW,H⟩:=H
  replace H:=jI H;obtain⟨aX,H⟩:=H
  replace H:=jI H;obtain⟨aY,H⟩:=H
  have H':=aM H
  clear H
  have av:0<=(ae:Int):=qD
  have ax:ae < (aa.length:Int):=qD
  obtain⟨aQ,aI,aJ⟩:=Kd.at_int (Kd.R_reads' aB.out).2.2 ae av ax
  cases aI
  replace av:=eq_true av
  replace ax:=eq_true ax
  have ay:0<=((rd aa ae):Int):=qD
  have az:(rd aa ae) < (l1.length:Int):=qD
  obtain⟨aR,aK,af⟩:=Kd.at_int HR1.out (rd aa ae) ay az
  cases aK
  replace af:=kx HB af
  replace ay:=eq_true ay
  replace az:=eq_true az
  go_wp2
  go_roundg k1
  case measure=>have:=aU.out;omega
  exact⟨(Go.bits .or .u16 aA (rd l1 (rd aa ae))),(wrap64 (ae+1)),qZ,qZ,H',⟨by have:=aU.out;omega⟩,⟨qR aB⟩,⟨qB⟩⟩
 obtain rfl:=oJ H
 go_wp2
 go_ret
 exact⟨qW,qB⟩
def aez:Nat->Int->Bool->Int->Int->Int->Int->Int->Option (Int)
 | 0,_,_,_,_,_,_,_=>none
 | k+1,x4,x5,aO,aP,ai,au,aQ=>if x5=true then (if 0<=ai then (some (shl .u16 1 ai)) else (none)) else (if x4=3 then (if 0<=ai then (if 0<=au then (some (Go.bits .or .u16 (shl .u16 1 ai) (shl .u16 1 au))) else (none)) else (none)) else (some 0))
def aj3 (k:Nat) (ae aj af ah ak:Int):Option (Int):=if ae=2 then (aez k ae (ae == 2) ae aj af ah ak) else (if ae=5 then (aez k ae (ae == 5) ae aj af ah ak) else (if ae=6 then (aez k ae (ae == 6) ae aj af ah ak) else (aez k ae (ae == 9) ae aj af ah ak)))
theorem aeA (k:Nat) (ae aj af ah ak r:Int) (w:World) (h:aj3 k ae aj af ah ak=some r) :
  Calls prog 48 #[.agg #[iV ae,iV aj,iV af,iV ah,iV ak]] w fun e w'=>e = .returned (.int .u16 r)/\Below w.heap.size w w':=by
 have bI:=underlying27
 have HB:=jb_ w
 have H:=h;unfold aj3 at H
 clear h
 have aT:=aM H
 clear H
 go_enter func48,ntmps48
 go_upto_if 5 with (first|((with_reducible refine jd 1 ?_);refine jY _ 27 ?_;intro ag hg w3 aa hb;have aA:=kG hg;have aB:=kG hg;replace HB:=kH hb;clear hb hg;have bv:=jz5 aa))
 repeat (go_quiet (first|((with_reducible refine an8 (N:=1) rfl ?_);refine aeg ?hg (N:=1) ?hd (cs:=#[iV ae,iV aj,iV af,iV ah,iV ak]) (t:=27) ?hr ?_;(case hd=>rfl);(case hg=>rfl);(case hr=>first|(go_simp;done)|(go_simp;rfl));intro ag hg w3 hbox hb;have bz:=aM (abH qB hb);have bA:=aM hbox;have bB:=aM ((by rw [hg];exact (aa4 qB):w.heap.size<=ag));have bC:=aM ((by rw [hg];exact (aa4 qB):w.heap.size<=ag));clear HB;have HB:=bz;have aa:=bA;have aA:=bB;have aB:=bC;clear bz bA bB bC;clear hb hbox hg;have bJ:w3.cell? ⟨ag,0,none⟩=some (iV ae):=(aa3 aa.out 0).trans rfl;have bK:w3.cell? ⟨ag,1,none⟩=some (iV aj):=(aa3 aa.out 1).trans rfl;have bL:w3.cell? ⟨ag,2,none⟩=some (iV af):=(aa3 aa.out 2).trans rfl;have bM:w3.cell? ⟨ag,3,none⟩=some (iV ah):=(aa3 aa.out 3).trans rfl;have bN:w3.cell? ⟨ag,4,none⟩=some (iV ak):=(aa3 aa.out 4).trans rfl;have bO:=aa7 aa.out 0;have bP:=aa7 aa.out 1;have bQ:=aa7 aa.out 2;have bR:=aa7 aa.out 3;have bS:=aa7 aa.out 4));go_upto_if 5 with (first|((with_reducible refine jd 1 ?_);refine jY _ 27 ?_;intro ag hg w3 aa hb;have aA:=kG hg;have aB:=kG hg;replace HB:=kH hb;clear hb hg;have bv:=jz5 aa)))
 (try simp only [Act.put,List.setIfInBounds_toArray,List.set_cons_zero,List.set_cons_succ])
 go_cut [5] (fun v5 wc=>∃ (kq:Nat) (aG:Bool),v5 = .bool aG/\aa1 (aez kq ae aG ae aj af ah ak=some r)/\aa1 (kq<=k)/\aa1 (wc.heap[ag]?=some (.cells #[iV ae,iV aj,iV af,iV ah,iV ak] 27 (0,0)))/\aa1 (Below w.heap.size w wc))
 case first =>
  have H:=aT.out
  clear aT
  replace H:=jE H;rcases H with ⟨aC,aU,H⟩ | ⟨c5,aC,aU,H⟩
  ·(first|rw [aC]|(simp only [aau,aaD];rw [aC])|skip)
   have H':=aM H
   clear H
   go_wp2
   repeat (go_quiet (fail);try go_wp2)
   go_meet
   exact⟨_,((ae == 2)),qZ,H',⟨by first|omega|exact Nat.le_refl _⟩,⟨qK aa⟩,⟨qB⟩⟩
  (first|rw [aC]|(simp only [aau,aaD];rw [aC])|skip)
  replace H:=jE H;rcases H with ⟨aV,aW,H⟩ | ⟨c6,aV,aW,H⟩
  ·have H':=aM H
   clear H
   go_wp2
   repeat (go_quiet (fail);try go_wp2)
   go_meet
   exact⟨_,((ae == 5)),qZ,H',⟨by first|omega|exact Nat.le_refl _⟩,⟨qK aa⟩,⟨qB⟩⟩
  replace H:=jE H;rcases H with ⟨aX,aY,H⟩ | ⟨c7,aX,aY,H⟩
  ·have H':=aM H
   clear H
   go_wp2
   repeat (go_quiet (fail);try go_wp2)
   go_meet
   exact⟨_,((ae == 6)),qZ,H',⟨by first|omega|exact Nat.le_refl _⟩,⟨qK aa⟩,⟨qB⟩⟩
  have H':=aM H
  clear H
  go_wp2
  repeat (go_quiet (fail);try go_wp2)
  go_meet
  exact⟨_,((ae == 9)),qZ,H',⟨by first|omega|exact Nat.le_refl _⟩,⟨qK aa⟩,⟨qB⟩⟩
 clear aT
 try clear bv
 obtain⟨kq,aG,rfl,HA,bX,aa,HB⟩:=hcut
 cases kq with
 | zero=>exact absurd HA.out (by simp [aez])
 | succ bY =>
  have H:=HA.out
  clear HA
  simp only [aez] at H
  replace H:=jB H;rcases H with ⟨rfl,H⟩ | ⟨rfl,H⟩
  ·replace H:=jJ H;obtain⟨bT,bU,H⟩:=H
   obtain⟨aD,av⟩:∃ j_:Int,(shl .u16 1 af)=j_:=⟨_,rfl⟩
   replace H:(some aD)=some r:=by first|(rw [av] at H;exact H)|(simp only [av] at H ⊢;exact H)
   have aH:(IntKind.u16.wrap (1*2 ^ min af.toNat 16))=aD:=av
   have aI:af<=16->(IntKind.u16.wrap (1*2 ^ af.toNat))=aD:=ad8 av
   have aZ:(IntKind.u16.wrap (2 ^ min af.toNat 16))=aD:=by have h_:=aH;rw [Int.one_mul] at h_;exact h_
   have bg:af<=16->(IntKind.u16.wrap (2 ^ af.toNat))=aD:=fun hle_=>by have h_:=aI hle_;rw [Int.one_mul] at h_;exact h_
   obtain rfl:=oJ H
   have bV:=jz5 aa
   go_wp2
   repeat (go_quiet (fail);try go_wp2)
   go_ret
   exact⟨by first|rfl|(simp [aaF,aaE] <;> rfl)|(simp only [<- av];first|rfl|(simp [aaF,aaE] <;> rfl))|(simp [*,aaF,aaE] <;> rfl),qB⟩
  replace H:=jE H;rcases H with ⟨aR,aS,H⟩ | ⟨c12,aR,aS,H⟩
  ·replace H:=jJ H;obtain⟨bD,bE,H⟩:=H
   obtain⟨az,ax⟩:∃ j_:Int,(shl .u16 1 af)=j_:=⟨_,rfl⟩
   replace H:(if 0<=ah then (some (Go.bits .or .u16 (az) (shl .u16 1 ah))) else (none))=some r:=by first|(rw [ax] at H;exact H)|(simp only [ax] at H ⊢;exact H)
   have aJ:(IntKind.u16.wrap (1*2 ^ min af.toNat 16))=az:=ax
   have aK:af<=16->(IntKind.u16.wrap (1*2 ^ af.toNat))=az:=ad8 ax
   have bi:(IntKind.u16.wrap (2 ^ min af.toNat 16))=az:=by have h_:=aJ;rw [Int.one_mul] at h_;exact h_
   have bn:af<=16->(IntKind.u16.wrap (2 ^ af.toNat))=az:=fun hle_=>by have h_:=aK hle_;rw [Int.one_mul] at h_;exact h_
   replace H:=jJ H;obtain⟨bF,bG,H⟩:=H
   obtain⟨aF,ay⟩:∃ j_:Int,(shl .u16 1 ah)=j_:=⟨_,rfl⟩
   replace H:(some (Go.bits .or .u16 (az) (aF)))=some r:=by first|(rw [ay] at H;exact H)|(simp only [ay] at H ⊢;exact H)
   have aL:(IntKind.u16.wrap (1*2 ^ min ah.toNat 16))=aF:=ay
   have aN:ah<=16->(IntKind.u16.wrap (1*2 ^ ah.toNat))=aF:=ad8 ay
   have bq:(IntKind.u16.wrap (2 ^ min ah.toNat 16))=aF:=by have h_:=aL;rw [Int.one_mul] at h_;exact h_
   have bu:ah<=16->(IntKind.u16.wrap (2 ^ ah.toNat))=aF:=fun hle_=>by have h_:=aN hle_;rw [Int.one_mul] at h_;exact h_
   obtain rfl:=oJ H
   have bW:=jz5 aa
   go_wp2
   repeat (go_quiet (fail);try go_wp2)
   go_ret
   exact⟨by first|rfl|(simp [aaF,aaE] <;> rfl)|(simp only [<- ax,<- ay];first|rfl|(simp [aaF,aaE] <;> rfl))|(simp [*,aaF,aaE] <;> rfl),qB⟩
  obtain rfl:=oJ H
  go_wp2
  repeat (go_quiet (fail);try go_wp2)
  go_ret
  exact⟨qW,qB⟩
def aj4 (aa ae af ag ah:Int):Option (Int):=if aa=1 then (some ae) else (if aa=2 then (some ae) else (if aa=3 then (some ae) else (if aa=7 then (some ae) else (some (-1)))))
theorem amv {G:Prop} (h:G:=by
  go_enter func50,ntmps50
  go_wp2_with (first|((with_reducible refine jd 1 ?_);refine jY _ 27 ?_;intro au hg aD ai hb;have av:=kG hg;replace HB:=kH hb;clear hb hg;have aF:=jz5 ai))
  go_ret
  exact⟨qW,qB⟩):G:=h
theorem Sae.calls (aa ae af ag ah r:Int) (w:World) (h:aj4 aa ae af ag ah=some r) :
  Calls prog 50 #[.agg #[iV aa,iV ae,iV af,iV ag,iV ah]] w fun e w'=>e = .returned (iV r)/\Below w.heap.size w w':=by
 have aG:=underlying27
 have HB:=jb_ w
 have H:=h;unfold aj4 at H
 clear h
 replace H:=jE H;rcases H with ⟨ax,ay,H⟩ | ⟨c2,ax,ay,H⟩
 ·obtain rfl:=oJ H
  exact amv
 replace H:=jE H;rcases H with ⟨az,aA,H⟩ | ⟨c5,az,aA,H⟩
 ·obtain rfl:=oJ H
  exact amv
 replace H:=jE H;rcases H with ⟨aB,aC,H⟩ | ⟨c8,aB,aC,H⟩
 ·obtain rfl:=oJ H
  exact amv
 replace H:=jE H;rcases H with ⟨aj,ak,H⟩ | ⟨c11,aj,ak,H⟩
 ·obtain rfl:=oJ H
  exact amv
 obtain rfl:=oJ H
 exact amv
end Go.Proofs.YtebpplallecogaaGreat.M
namespace Go.Proofs.YtebpplallecogaaGreat.M
open Go.Proofs.Tryz Go.RowKit Go.Proofs.YtebpplallecogaaGreatW.PrintWords Go.Proofs.YtebpplallecogaaGreatW.PrintLast Go.Proofs.YtebpplallecogaaGreatW.PrintMore Kd
attribute [local go_sem] aan aal aay aax aaf aae aam aak
mutual
def adq:Nat->List S27->List Int->Bool->Option (List Int)
 | 0,_,_,_=>none
 | k+1,x0,x3,x4=>if x4=true then (ac3 k x0 x3 false (wrap64 ((x0.length:Int) - 1))) else (some x3)
def ac3:Nat->List S27->List Int->Bool->Int->Option (List Int)
 | 0,_,_,_,_=>none
 | k+1,x0,x3,x4,x5=>if x5>=0 then ((Sa9.f k x0 x3 x5).bind fun ak=>(if 0<=x5 then (if x5 < (x0.length:Int) then ((aj4 ((aa0 x0 x5).f0) ((aa0 x0 x5).f1) ((aa0 x0 x5).f2) ((aa0 x0 x5).f3) ((aa0 x0 x5).f4)).bind fun ay=>(if ay>=0 then (if 0<=ay then ((aj3 k ((aa0 x0 x5).f0) ((aa0 x0 x5).f1) ((aa0 x0 x5).f2) ((aa0 x0 x5).f3) ((aa0 x0 x5).f4)).bind fun aL=>(if x5 < (x3.length:Int) then (if (Go.bits .or .u16 (Go.bits .andNot .u16 ak (shl .u16 1 ay)) aL)=(rd x3 x5) then (ac3 k x0 x3 x4 (wrap64 (x5 - 1))) else (ac3 k x0 (x3.set (x5:Int).toNat (Go.bits .or .u16 (Go.bits .andNot .u16 ak (shl .u16 1 ay)) aL)) true (wrap64 (x5 - 1)))) else (none))) else (none)) else ((aj3 k ((aa0 x0 x5).f0) ((aa0 x0 x5).f1) ((aa0 x0 x5).f2) ((aa0 x0 x5).f3) ((aa0 x0 x5).f4)).bind fun bg=>(if x5 < (x3.length:Int) then (if (Go.bits .or .u16 ak bg)=(rd x3 x5) then (ac3 k x0 x3 x4 (wrap64 (x5 - 1))) else (ac3 k x0 (x3.set (x5:Int).toNat (Go.bits .or .u16 ak bg)) true (wrap64 (x5 - 1)))) else (none))))) else (none)) else (none))) else (adq k x0 x3 x4)
end
def Sa8.f (k:Nat) (l0:List S27):Option (List Int):=if 0<=(l0.length:Int) then (if ((l0.length:Int):Int).toNat<=140737488355328 then (adq k l0 (List.replicate ((l0.length:Int):Int).toNat 0) true) else (none)) else (none)
theorem Sa8.calls (k:Nat) (A0:Option Addr) (c0:Nat) (l0:List S27) (r:List Int) (w:World) (hr0:Kd.C k27 w A0 l0.length l0) (hc0:l0.length<=c0) (h:Sa8.f k l0=some r) :
  Calls prog 41 #[.slice A0 l0.length c0] w fun e w'=>∃ eH:Value,e = .returned (eH)/\Kd.R (Kd.int .u16) 60 w' w.heap.size (fun _=>True) eH r/\Below w.heap.size w w':=by
 have fq:=underlying27
 have bF:=aM hr0
 have dG:=aM hc0
 clear hr0 hc0
 have HB:=jb_ w
 have H:=h;unfold Sa8.f at H
 clear h
 replace H:=jJ H;obtain⟨cB,cK,H⟩:=H
 replace H:=jJ H;obtain⟨cO,df,H⟩:=H
 obtain⟨y1221,bn⟩:=ky ((List.replicate ((l0.length:Int):Int).toNat 0):List Int)
 replace H:=kv bn H
 have H':=aM H
 clear H
 go_enter func41,ntmps41
 go_wp2_with (first|((with_reducible refine jd 10 ?_);refine R_make (Kd.int .u16) _ 60 rfl (N:=10) rfl 57 _ _ rfl (l0.length:Int) rfl rfl underlying57 (.int .u16 0) 2 apE rfl (by decide) (by omega) 0 (ok:=fun _=>True) (okp:=fun _=>True) rfl (fun _ hk=>hk) trivial (qD) (Nat.le_trans (Nat.mul_le_mul_right _ (qD:(l0.length:Int).toNat<=140737488355328)) (by omega)) (Below.refl _ _) (Nat.le_refl _) ?_;intro bP w4 dh hb hg_ hnew_;clear hg_ hnew_;replace dh:=kr bn dh;have bQ:=kL dh;replace HB:=kH hb;clear hb dh))
 go_loopg [4] k (fun kq v4 w'=>∃ (bO:List Int) (bR:Bool),v4 = .bool bR/\aa1 (adq kq l0 bO bR=some r)/\aa1 (kq<=k)/\aa1 (Kd.R (Kd.int .u16) 60 w' w.heap.size (fun _=>True) bP bO)/\aa1 (Below w.heap.size w w'))
 case atStart=>exact⟨(y1221),(true),qZ,H',⟨Nat.le_refl _⟩,⟨qR bQ⟩,⟨qB⟩⟩
 clear H'
 try clear cB;try clear cK;try clear cO;try clear df
 obtain⟨bO,bR,rfl,HA,bM,ae,HB⟩:=hrel
 rcases gk with _|k1
 ·exact absurd HA.out (by simp [adq])
 have H:=HA.out
 clear HA
 simp only [adq] at H
 replace H:=jB H;rcases H with ⟨rfl,H⟩ | ⟨rfl,H⟩
 ·have H':=aM H
  clear H
  go_wp2
  go_loopg [4,5] k1 (fun kq v4 v5 w'=>∃ (au:List Int) (bG:Bool) (aa:Int),v4 = .bool bG/\v5 = iV aa/\aa1 (ac3 kq l0 au bG aa=some r)/\aa1 (kq<=k1)/\aa1 (Kd.R (Kd.int .u16) 60 w' w.heap.size (fun _=>True) bP au)/\aa1 (Below w.heap.size w w'))
  case atStart=>exact⟨(bO),(false),(wrap64 ((l0.length:Int) - 1)),qZ,qZ,H',⟨Nat.le_refl _⟩,⟨qR ae⟩,⟨qB⟩⟩
  clear H'
  try clear cB;try clear cK;try clear cO;try clear df
  obtain⟨au,bG,aa,rfl,rfl,HA,bN,ae,HB⟩:=hrel
  rcases gk with _|k2
  ·exact absurd HA.out (by simp [ac3])
  have H:=HA.out
  clear HA
  simp only [ac3] at H
  replace H:=jD H;rcases H with ⟨dH,H⟩ | ⟨dH,H⟩
  ·obtain⟨ak,A8,H⟩:=qE H
   try dsimp only at H
   replace H:=jI H;obtain⟨fu,H⟩:=H
   replace H:=jI H;obtain⟨eO,H⟩:=H
   obtain⟨ay,fw,H⟩:=qE H
   try dsimp only at H
   replace H:=jD H;rcases H with ⟨di,H⟩ | ⟨di,H⟩
   ·replace H:=jJ H;obtain⟨eP,eQ,H⟩:=H
    obtain⟨bq,bi⟩:∃ j_:Int,(shl .u16 1 ay)=j_:=⟨_,rfl⟩
    replace H:((aj3 k2 ((aa0 l0 aa).f0) ((aa0 l0 aa).f1) ((aa0 l0 aa).f2) ((aa0 l0 aa).f3) ((aa0 l0 aa).f4)).bind fun aL=>(if aa < (au.length:Int) then (if (Go.bits .or .u16 (Go.bits .andNot .u16 ak (bq)) aL)=(rd au aa) then (ac3 k2 l0 au bG (wrap64 (aa - 1))) else (ac3 k2 l0 (au.set (aa:Int).toNat (Go.bits .or .u16 (Go.bits .andNot .u16 ak (bq)) aL)) true (wrap64 (aa - 1)))) else (none)))=some r:=by first|(rw [bi] at H;exact H)|(simp only [bi] at H ⊢;exact H)
    (try rw [bi] at A8)
    (try rw [bi] at fw)
    have bS:(IntKind.u16.wrap (1*2 ^ min ay.toNat 16))=bq:=bi
    have bT:ay<=16->(IntKind.u16.wrap (1*2 ^ ay.toNat))=bq:=ad8 bi
    have dI:(IntKind.u16.wrap (2 ^ min ay.toNat 16))=bq:=by have h_:=bS;rw [Int.one_mul] at h_;exact h_
    have dJ:ay<=16->(IntKind.u16.wrap (2 ^ ay.toNat))=bq:=fun hle_=>by have h_:=bT hle_;rw [Int.one_mul] at h_;exact h_
    obtain⟨aL,fE,H⟩:=qE H
    try dsimp only at H
    replace H:=jI H;obtain⟨eT,H⟩:=H
    replace H:=jE H;rcases H with ⟨dn,dw,H⟩ | ⟨c17,dn,dw,H⟩
    ·have H':=aM H
     clear H
     obtain⟨dK,dL,dM⟩:=R_slice ae.out
     subst dM
     go_wp2_with (first|((with_reducible refine jc 44 22 ?_);refine jK func44 (Sa9.calls k2 _ _ l0 _ _ au aa ak _ (kb bF HB) dG.out (kJ ae) (kp ae) A8.out) ?_;intro bU hb;replace ae:=kR ae hb;replace HB:=kH hb;clear hb;have av:0<=(aa:Int):=qD;have ax:aa < (l0.length:Int):=qD;obtain⟨aK,aR,af,ag,ah,ai,aj⟩:=ab2 bF.out aa av ax;cases aR;replace af:=kx HB af;replace ag:=kx HB ag;replace ah:=kx HB ah;replace ai:=kx HB ai;replace aj:=kx HB aj;replace av:=eq_true av;replace ax:=eq_true ax)|((with_reducible refine jc 50 27 ?_);refine jG func50 #[.agg #[iV ((aa0 l0 aa).f0),iV ((aa0 l0 aa).f1),iV ((aa0 l0 aa).f2),iV ((aa0 l0 aa).f3),iV ((aa0 l0 aa).f4)]] ?_;refine (Sae.calls _ _ _ _ _ _ _ (aa1.out (by assumption))).mono ?_;rintro e bV ⟨rfl,hb⟩;refine⟨_,rfl,?_⟩;replace ae:=kR ae hb;replace HB:=kH hb;clear hb;have aS:0<=(aa:Int):=qD;have aT:aa < (l0.length:Int):=qD;obtain⟨bz,bH,az,aA,aB,aC,aD⟩:=ab2 bF.out aa aS aT;obtain rfl:aK=bz:=(by injection bH);replace az:=kx HB az;replace aA:=kx HB aA;replace aB:=kx HB aB;replace aC:=kx HB aC;replace aD:=kx HB aD;replace aS:=eq_true aS;replace aT:=eq_true aT)|((with_reducible refine jc 48 39 ?_);refine jG func48 #[.agg #[iV ((aa0 l0 aa).f0),iV ((aa0 l0 aa).f1),iV ((aa0 l0 aa).f2),iV ((aa0 l0 aa).f3),iV ((aa0 l0 aa).f4)]] ?_;refine (aeA _ _ _ _ _ _ _ _ (aa1.out (by assumption))).mono ?_;rintro e bA ⟨rfl,hb⟩;refine⟨_,rfl,?_⟩;replace ae:=kR ae hb;replace HB:=kH hb;clear hb;have aU:0<=(aa:Int):=qD;have aV:aa < (au.length:Int):=qD;obtain⟨bW,bI,bu⟩:=Kd.at_int (R_reads' ae.out).2.2 aa aU aV;cases bI;replace aU:=eq_true aU;replace aV:=eq_true aV))
     go_roundg k2
     case measure=>have:=bM.out;have:=bN.out;omega
     exact⟨_,_,_,qZ,qZ,H',⟨by have:=bM.out;have:=bN.out;omega⟩,⟨qR ae⟩,⟨qB⟩⟩
    obtain⟨y1230,bB⟩:=ky ((au.set (aa:Int).toNat (Go.bits .or .u16 (Go.bits .andNot .u16 ak (bq)) aL)):List Int)
    replace H:=kv bB H
    have H':=aM H
    clear H
    obtain⟨dN,dx,dO⟩:=R_slice ae.out
    subst dO
    go_wp2_with (first|((with_reducible refine jc 44 22 ?_);refine jK func44 (Sa9.calls k2 _ _ l0 _ _ au aa ak _ (kb bF HB) dG.out (kJ ae) (kp ae) A8.out) ?_;intro bU hb;replace ae:=kR ae hb;replace HB:=kH hb;clear hb;have av:0<=(aa:Int):=qD;have ax:aa < (l0.length:Int):=qD;obtain⟨aK,aR,af,ag,ah,ai,aj⟩:=ab2 bF.out aa av ax;cases aR;replace af:=kx HB af;replace ag:=kx HB ag;replace ah:=kx HB ah;replace ai:=kx HB ai;replace aj:=kx HB aj;replace av:=eq_true av;replace ax:=eq_true ax)|((with_reducible refine jc 50 27 ?_);refine jG func50 #[.agg #[iV ((aa0 l0 aa).f0),iV ((aa0 l0 aa).f1),iV ((aa0 l0 aa).f2),iV ((aa0 l0 aa).f3),iV ((aa0 l0 aa).f4)]] ?_;refine (Sae.calls _ _ _ _ _ _ _ (aa1.out (by assumption))).mono ?_;rintro e bV ⟨rfl,hb⟩;refine⟨_,rfl,?_⟩;replace ae:=kR ae hb;replace HB:=kH hb;clear hb;have aS:0<=(aa:Int):=qD;have aT:aa < (l0.length:Int):=qD;obtain⟨bz,bH,az,aA,aB,aC,aD⟩:=ab2 bF.out aa aS aT;obtain rfl:aK=bz:=(by injection bH);replace az:=kx HB az;replace aA:=kx HB aA;replace aB:=kx HB aB;replace aC:=kx HB aC;replace aD:=kx HB aD;replace aS:=eq_true aS;replace aT:=eq_true aT)|((with_reducible refine jc 48 39 ?_);refine jG func48 #[.agg #[iV ((aa0 l0 aa).f0),iV ((aa0 l0 aa).f1),iV ((aa0 l0 aa).f2),iV ((aa0 l0 aa).f3),iV ((aa0 l0 aa).f4)]] ?_;refine (aeA _ _ _ _ _ _ _ _ (aa1.out (by assumption))).mono ?_;rintro e bA ⟨rfl,hb⟩;refine⟨_,rfl,?_⟩;replace ae:=kR ae hb;replace HB:=kH hb;clear hb;have aU:0<=(aa:Int):=qD;have aV:aa < (au.length:Int):=qD;obtain⟨bW,bI,bu⟩:=Kd.at_int (R_reads' ae.out).2.2 aa aU aV;cases bI;replace aU:=eq_true aU;replace aV:=eq_true aV;have dP:0<=(aa:Int):=qD;have q22:(aa:Int) < ((au.length:Int):Int):=qD;obtain⟨bX,dQ,bJ,dz,dR,fA,dA⟩:=R_form ae.out (by omega);(first|cases bJ|(injection bJ with ea_ en_ ec_;(first|subst ea_|(injection ea_ with ea_;subst ea_));subst ec_;clear en_));have dS:=aM dz;have fB:=aM dA;clear dz dR dA;(first|simp only [add_plain] at bu|skip);obtain⟨dU,dV⟩:=R_celln 0 ae.out (aa:Int) dP q22;replace dP:=eq_true dP;replace q22:=eq_true q22;obtain⟨eU,eX⟩:=R_celln 0 ae.out (aa:Int) (qD) (qD);have bY:=R_putg ae.out (aa:Int) (Go.bits .or .u16 (Go.bits .andNot .u16 ak (bq)) aL))|((with_reducible refine aaz (t:=60) (p:=50) rfl ?_);refine aar (t:=60) (p:=50) (v:=?dW) (w1:=(bA.setCell ⟨bX,(aa:Int).toNat,none⟩ (.int .u16 (Go.bits .or .u16 (Go.bits .andNot .u16 ak (bq)) aL)))) ?hg ?ho ?hn ?hr ?_;(case ho=>rfl);(case hg=>rfl);(case hn=>rfl);(case hr=>first|(go_simp;done)|(go_simp;rfl));intro bC hw;have hg:bA.grownBy bC (some bX):=(by rw [hw];exact bY.2);have hp_:Kd.R (Kd.int .u16) 60 bC w.heap.size (fun _=>True) (.slice (some ⟨bX,0,none⟩) au.length dx) y1230:=(by rw [hw,bB.out];exact bY.1);clear bY;replace ae:=aM hp_;replace HB:=aM ((by rw [hw];exact aag (HB.out) dS.out:Below w.heap.size w bC));clear hg hw hp_))
    go_roundg k2
    case measure=>have:=bM.out;have:=bN.out;omega
    exact⟨_,_,_,qZ,qZ,H',⟨by have:=bM.out;have:=bN.out;omega⟩,⟨qR ae⟩,⟨qB⟩⟩
   obtain⟨bg,fF,H⟩:=qE H
   try dsimp only at H
   replace H:=jI H;obtain⟨eY,H⟩:=H
   replace H:=jE H;rcases H with ⟨dB,dC,H⟩ | ⟨c31,dB,dC,H⟩
   ·have H':=aM H
    clear H
    obtain⟨dX,dY,dZ⟩:=R_slice ae.out
    subst dZ
    go_wp2_with (first|((with_reducible refine jc 44 22 ?_);refine jK func44 (Sa9.calls k2 _ _ l0 _ _ au aa ak _ (kb bF HB) dG.out (kJ ae) (kp ae) A8.out) ?_;intro bU hb;replace ae:=kR ae hb;replace HB:=kH hb;clear hb;have av:0<=(aa:Int):=qD;have ax:aa < (l0.length:Int):=qD;obtain⟨aK,aR,af,ag,ah,ai,aj⟩:=ab2 bF.out aa av ax;cases aR;replace af:=kx HB af;replace ag:=kx HB ag;replace ah:=kx HB ah;replace ai:=kx HB ai;replace aj:=kx HB aj;replace av:=eq_true av;replace ax:=eq_true ax)|((with_reducible refine jc 50 27 ?_);refine jG func50 #[.agg #[iV ((aa0 l0 aa).f0),iV ((aa0 l0 aa).f1),iV ((aa0 l0 aa).f2),iV ((aa0 l0 aa).f3),iV ((aa0 l0 aa).f4)]] ?_;refine (Sae.calls _ _ _ _ _ _ _ (aa1.out (by assumption))).mono ?_;rintro e bV ⟨rfl,hb⟩;refine⟨_,rfl,?_⟩;replace ae:=kR ae hb;replace HB:=kH hb;clear hb;have aW:0<=(aa:Int):=qD;have aX:aa < (l0.length:Int):=qD;obtain⟨bD,bK,aF,aG,aH,aI,aJ⟩:=ab2 bF.out aa aW aX;obtain rfl:aK=bD:=(by injection bK);replace aF:=kx HB aF;replace aG:=kx HB aG;replace aH:=kx HB aH;replace aI:=kx HB aI;replace aJ:=kx HB aJ;replace aW:=eq_true aW;replace aX:=eq_true aX)|((with_reducible refine jc 48 39 ?_);refine jG func48 #[.agg #[iV ((aa0 l0 aa).f0),iV ((aa0 l0 aa).f1),iV ((aa0 l0 aa).f2),iV ((aa0 l0 aa).f3),iV ((aa0 l0 aa).f4)]] ?_;refine (aeA _ _ _ _ _ _ _ _ (aa1.out (by assumption))).mono ?_;rintro e bA ⟨rfl,hb⟩;refine⟨_,rfl,?_⟩;replace ae:=kR ae hb;replace HB:=kH hb;clear hb;have aY:0<=(aa:Int):=qD;have aZ:aa < (au.length:Int):=qD;obtain⟨bZ,bL,bv⟩:=Kd.at_int (R_reads' ae.out).2.2 aa aY aZ;cases bL;replace aY:=eq_true aY;replace aZ:=eq_true aZ))
    go_roundg k2
    case measure=>have:=bM.out;have:=bN.out;omega
    exact⟨_,_,_,qZ,qZ,H',⟨by have:=bM.out;have:=bN.out;omega⟩,⟨qR ae⟩,⟨qB⟩⟩
   obtain⟨y1234,bE⟩:=ky ((au.set (aa:Int).toNat (Go.bits .or .u16 ak bg)):List Int)
   replace H:=kv bE H
   have H':=aM H
   clear H
   obtain⟨d9,dD,ed⟩:=R_slice ae.out
   subst ed
   go_wp2_with (first|((with_reducible refine jc 44 22 ?_);refine jK func44 (Sa9.calls k2 _ _ l0 _ _ au aa ak _ (kb bF HB) dG.out (kJ ae) (kp ae) A8.out) ?_;intro bU hb;replace ae:=kR ae hb;replace HB:=kH hb;clear hb;have av:0<=(aa:Int):=qD;have ax:aa < (l0.length:Int):=qD;obtain⟨aK,aR,af,ag,ah,ai,aj⟩:=ab2 bF.out aa av ax;cases aR;replace af:=kx HB af;replace ag:=kx HB ag;replace ah:=kx HB ah;replace ai:=kx HB ai;replace aj:=kx HB aj;replace av:=eq_true av;replace ax:=eq_true ax)|((with_reducible refine jc 50 27 ?_);refine jG func50 #[.agg #[iV ((aa0 l0 aa).f0),iV ((aa0 l0 aa).f1),iV ((aa0 l0 aa).f2),iV ((aa0 l0 aa).f3),iV ((aa0 l0 aa).f4)]] ?_;refine (Sae.calls _ _ _ _ _ _ _ (aa1.out (by assumption))).mono ?_;rintro e bV ⟨rfl,hb⟩;refine⟨_,rfl,?_⟩;replace ae:=kR ae hb;replace HB:=kH hb;clear hb;have aW:0<=(aa:Int):=qD;have aX:aa < (l0.length:Int):=qD;obtain⟨bD,bK,aF,aG,aH,aI,aJ⟩:=ab2 bF.out aa aW aX;obtain rfl:aK=bD:=(by injection bK);replace aF:=kx HB aF;replace aG:=kx HB aG;replace aH:=kx HB aH;replace aI:=kx HB aI;replace aJ:=kx HB aJ;replace aW:=eq_true aW;replace aX:=eq_true aX)|((with_reducible refine jc 48 39 ?_);refine jG func48 #[.agg #[iV ((aa0 l0 aa).f0),iV ((aa0 l0 aa).f1),iV ((aa0 l0 aa).f2),iV ((aa0 l0 aa).f3),iV ((aa0 l0 aa).f4)]] ?_;refine (aeA _ _ _ _ _ _ _ _ (aa1.out (by assumption))).mono ?_;rintro e bA ⟨rfl,hb⟩;refine⟨_,rfl,?_⟩;replace ae:=kR ae hb;replace HB:=kH hb;clear hb;have aY:0<=(aa:Int):=qD;have aZ:aa < (au.length:Int):=qD;obtain⟨bZ,bL,bv⟩:=Kd.at_int (R_reads' ae.out).2.2 aa aY aZ;cases bL;replace aY:=eq_true aY;replace aZ:=eq_true aZ;have p36:0<=(aa:Int):=qD;have ek:(aa:Int) < ((au.length:Int):Int):=qD;obtain⟨cu,dQ,bJ,dE,eu,fC,dF⟩:=R_form ae.out (by omega);(first|cases bJ|(injection bJ with ea_ en_ ec_;(first|subst ea_|(injection ea_ with ea_;subst ea_));subst ec_;clear en_));have eB:=aM dE;have fD:=aM dF;clear dE eu dF;(first|simp only [add_plain] at bv|skip);obtain⟨eD,eF⟩:=R_celln 0 ae.out (aa:Int) p36 ek;replace p36:=eq_true p36;replace ek:=eq_true ek;obtain⟨eZ,fe⟩:=R_celln 0 ae.out (aa:Int) (qD) (qD);have cz:=R_putg ae.out (aa:Int) (Go.bits .or .u16 ak bg))|((with_reducible refine aaz (t:=60) (p:=50) rfl ?_);refine aar (t:=60) (p:=50) (v:=?eG) (w1:=(bA.setCell ⟨cu,(aa:Int).toNat,none⟩ (.int .u16 (Go.bits .or .u16 ak bg)))) ?hg ?ho ?hn ?hr ?_;(case ho=>rfl);(case hg=>rfl);(case hn=>rfl);(case hr=>first|(go_simp;done)|(go_simp;rfl));intro bC hw;have hg:bA.grownBy bC (some cu):=(by rw [hw];exact cz.2);have hp_:Kd.R (Kd.int .u16) 60 bC w.heap.size (fun _=>True) (.slice (some ⟨cu,0,none⟩) au.length dD) y1234:=(by rw [hw,bE.out];exact cz.1);clear cz;replace ae:=aM hp_;replace HB:=aM ((by rw [hw];exact aag (HB.out) eB.out:Below w.heap.size w bC));clear hg hw hp_))
   go_roundg k2
   case measure=>have:=bM.out;have:=bN.out;omega
   exact⟨_,_,_,qZ,qZ,H',⟨by have:=bM.out;have:=bN.out;omega⟩,⟨qR ae⟩,⟨qB⟩⟩
  have H':=aM H
  clear H
  go_wp2
  go_roundg k2
  case measure=>have:=bM.out;have:=bN.out;omega
  exact⟨(au),(bG),qZ,H',⟨by have:=bM.out;have:=bN.out;omega⟩,⟨qR ae⟩,⟨qB⟩⟩
 obtain rfl:=oJ H
 go_wp2
 go_ret
 exact⟨_,qW,qR ae,qB⟩
end Go.Proofs.YtebpplallecogaaGreat.M
namespace Go.Proofs.YtebpplallecogaaGreat.M
open Go.Proofs.Tryz Go.RowKit Go.Proofs.YtebpplallecogaaGreatW.PrintWords Go.Proofs.YtebpplallecogaaGreatW.PrintLast Go.Proofs.YtebpplallecogaaGreatW.PrintMore
attribute [local go_sem] aan aal aay aax aaf aae aam aak
def akf (a0 a1:Int):Option (Bool):=if 0<=a1 then (some ((Go.bits .and .u16 (shr .u16 a0 a1) 1) == 1)) else (none)
theorem amx (a0 a1:Int) (r:Bool) (w:World) (h:akf a0 a1=some r) :
  Calls prog 53 #[.int .u16 a0,iV a1] w fun e w'=>e = .returned (.bool r)/\aaA w w':=by
 have H:=h;unfold akf at H
 clear h
 replace H:=jJ H;obtain⟨ah,ai,H⟩:=H
 obtain⟨ae,aa⟩:∃ j_:Int,(shr .u16 a0 a1)=j_:=⟨_,rfl⟩
 replace H:(some ((Go.bits .and .u16 (ae) 1) == 1))=some r:=by first|(rw [aa] at H;exact H)|(simp only [aa] at H ⊢;exact H)
 have af:(a0 / 2 ^ min a1.toNat 16)=ae:=aa
 have ag:a1<=16->(a0 / 2 ^ a1.toNat)=ae:=ahF aa
 obtain rfl:=oJ H
 go_enter func53,ntmps53
 go_wp2
 go_ret
 exact⟨by first|rfl|(simp;done)|(simp only [<- aa] <;> (first|rfl|simp))|(simp [*];done),by repeat (first|exact aaM _|apply aaA.step)⟩
def aff:Nat->Int->List Bool->Int->Int->Option (List Bool)
 | 0,_,_,_,_=>none
 | k+1,x0,x3,x7,x8=>if x8 < x7 then ((akf x0 x8).bind fun ai=>(if 0<=x8 then (if x8 < (x3.length:Int) then (aff k x0 (x3.set (x8:Int).toNat ai) x7 (wrap64 (x8+1))) else (none)) else (none))) else (some x3)
def akg (k:Nat) (a0:Int):Option (List Bool):=if 12<=281474976710656 then ((some (List.replicate 12 false:List Bool)).bind fun af=>(aff k a0 af (af.length:Int) 0)) else (none)
theorem aig (k:Nat) (a0:Int) (r:List Bool) (w:World) (h:akg k a0=some r) :
  Calls prog 42 #[.int .u16 a0] w fun e w'=>∃ aR:Value,e = .returned (aR)/\Kd.R Kd.bool 4 w' w.heap.size (fun _=>True) aR r/\Below w.heap.size w w':=by
 have HB:=jb_ w
 have H:=h;unfold akg at H
 clear h
 replace H:=jJ H;obtain⟨aG,aH,H⟩:=H
 obtain⟨af,ah⟩:=ky ((List.replicate 12 false):List Bool)
 replace H:=kv ah H
 have H':=aM H
 clear H
 go_enter func42,ntmps42
 go_wp2_with (first|((with_reducible refine jd 5 ?_);refine Kd.R_make Kd.bool _ 4 rfl (N:=5) rfl 37 _ _ rfl 12 rfl rfl underlying37 (.bool false) 1 al5 rfl (by decide) (by omega) false (ok:=fun _=>True) (okp:=fun _=>True) rfl (fun _ hk=>hk) trivial (by omega) (by omega) (Below.refl _ _) (Nat.le_refl _) ?_;intro aS w3 aA hb hg_ hnew_;clear hg_ hnew_;replace aA:=kr ah aA;have au:=kL aA;replace HB:=kH hb;clear hb aA;obtain⟨aT,aI,bg⟩:=Kd.R_slice au.out;subst bg))
 go_loopg [8] k (fun kq v8 w'=>∃ (aj:List Bool) (aa:Int),v8 = iV aa/\aa1 (aff kq a0 aj (af.length:Int) aa=some r)/\aa1 (kq<=k)/\aa1 (Kd.R Kd.bool 4 w' w.heap.size (fun _=>True) (.slice aT af.length aI) aj)/\aa1 (Below w.heap.size w w'))
 case atStart=>exact⟨(af),(0),qZ,H',⟨Nat.le_refl _⟩,⟨qR au⟩,⟨qB⟩⟩
 clear H'
 try clear aG;try clear aH
 obtain⟨aj,aa,rfl,HA,aU,ae,HB⟩:=hrel
 have ag:=(Kd.R_reads' ae.out).1
 rw [ag] at ae
 (try simp only [ag])
 rcases gk with _|k1
 ·exact absurd HA.out (by simp [aff])
 have H:=HA.out
 clear HA
 simp only [aff] at H
 by_cases c6:aa < (af.length:Int)
 ·rw [if_pos c6] at H
  have av:=decide_eq_true c6
  (try simp only [ag] at av)
  clear c6
  obtain⟨ai,A7,H⟩:=qE H
  try dsimp only at H
  replace H:=jI H;obtain⟨bi,H⟩:=H
  replace H:=jI H;obtain⟨bn,H⟩:=H
  obtain⟨aB,ak⟩:=ky ((aj.set (aa:Int).toNat ai):List Bool)
  replace H:=kv ak H
  have H':=aM H
  clear H
  go_wp2_with (first|((with_reducible refine jc 53 15 ?_);refine jG func53 #[.int .u16 a0,iV aa] ?_;refine (amx _ _ _ _ (aa1.out (by assumption))).mono ?_;rintro e w' ⟨rfl,⟨nd,rfl⟩⟩;refine⟨_,rfl,?_⟩;(try (rw [abk wr];generalize hq_:World.drewN wr _=wr;have aV:aa1 (Kd.R Kd.bool 4 wr w.heap.size (fun _=>True) (.slice aT aj.length aI) aj):=⟨by rw [<- hq_];exact (qR ae)⟩;have aW:aa1 (Below w.heap.size w wr):=⟨by rw [<- hq_];exact qB⟩;clear ae HB hq_;have ae:=aV;have HB:=aW;clear aV aW));have aJ:0<=(aa:Int):=qD;have aK:(aa:Int) < ((aj.length:Int):Int):=qD;obtain⟨ax,bq,aC,aD,aL,bu,aF⟩:=Kd.R_form ae.out (by omega);(first|cases aC|(injection aC with ea_ en_ ec_;(first|subst ea_|(injection ea_ with ea_;subst ea_));subst ec_;clear en_));have aN:=aM aD;have bv:=aM aF;clear aD aL aF;obtain⟨aO,aP⟩:=Kd.R_celln false ae.out (aa:Int) aJ aK;replace aJ:=eq_true aJ;replace aK:=eq_true aK;obtain⟨aX,aY⟩:=Kd.R_celln false ae.out (aa:Int) (qD) (qD);have ay:=Kd.R_putg ae.out (aa:Int) ai)|((with_reducible refine aaz (t:=4) (p:=16) rfl ?_);refine aar (t:=4) (p:=16) (v:=?aQ) (w1:=(wr.setCell ⟨ax,(aa:Int).toNat,none⟩ (.bool ai))) ?hg ?ho ?hn ?hr ?_;(case ho=>rfl);(case hg=>rfl);(case hn=>rfl);(case hr=>first|(go_simp;done)|(go_simp;rfl));intro az hw;have hg:wr.grownBy az (some ax):=(by rw [hw];exact ay.2);have hp_:Kd.R Kd.bool 4 az w.heap.size (fun _=>True) (.slice (some ⟨ax,0,none⟩) aj.length aI) aB:=(by rw [hw,ak.out];exact ay.1);clear ay;replace ae:=aM hp_;replace HB:=aM ((by rw [hw];exact aag (HB.out) aN.out:Below w.heap.size w az));clear hg hw hp_))
  (try simp only [<- ag])
  go_roundg k1
  case measure=>have:=aU.out;omega
  exact⟨_,_,qZ,H',⟨by have:=aU.out;omega⟩,⟨by (try simp only [ag]);(with_reducible repeat (first|apply Kd.R_alloc|apply Kd.R_drewN|apply Kd.R_drew));exact ae.out⟩,⟨qB⟩⟩
 rw [if_neg c6] at H
 have av:=decide_eq_false c6
 (try simp only [ag] at av)
 clear c6
 obtain rfl:=oJ H
 go_wp2
 go_ret
 exact⟨_,qW,qR ae,qB⟩
end Go.Proofs.YtebpplallecogaaGreat.M
namespace Go.Proofs.YtebpplallecogaaGreat.M
open Go.Proofs.Tryz Go.RowKit Go.Proofs.YtebpplallecogaaGreatW.PrintWords Go.Proofs.YtebpplallecogaaGreatW.PrintLast Go.Proofs.YtebpplallecogaaGreatW.PrintMore Kd
attribute [local go_sem] aan aal aay aax aaf aae aam aak
def afk:Nat->List (List Bool)->List Int->Int->Int->Option ((List (List Bool)))
 | 0,_,_,_,_=>none
 | k+1,x3,aN,aW,aD=>if aD < aW then (if 0<=aD then (if aD < (aN.length:Int) then ((akg k (rd aN aD)).bind fun af=>(if x3.length < 5864062014805 then (afk k (x3 ++ [af]) aN aW (wrap64 (aD+1))) else (none))) else (none)) else (none)) else (some x3)
def Sa3.f (k:Nat) (l0:List S27):Option ((List (List Bool))):=(Sa1.f k l0).bind fun aA=>(if aA=true then ((Sa8.f k l0).bind fun aa=>(afk k ([]:List (List Bool)) aa (aa.length:Int) 0)) else (some ([]:List (List Bool))))
theorem Sa3.calls (k:Nat) (A0:Option Addr) (c0:Nat) (l0:List S27) (r:List (List Bool)) (w:World) (hr0:Kd.C k27 w A0 l0.length l0) (hc0:l0.length<=c0) (h:Sa3.f k l0=some r) :
  Calls prog 20 #[.slice A0 l0.length c0] w fun e w'=>∃ aX:Value,e = .returned (aX)/\Kd.S (Kd.slice 4 Kd.bool) 37 w' w.heap.size (fun _=>True) aX r/\Below w.heap.size w w':=by
 have aQ:=aM hr0
 have aR:=aM hc0
 clear hr0 hc0
 have HB:=jb_ w
 have H:=h;unfold Sa3.f at H
 clear h
 obtain⟨aA,A2,H⟩:=qE H
 try dsimp only at H
 replace H:=jB H;rcases H with ⟨rfl,H⟩ | ⟨rfl,H⟩
 ·obtain⟨aa,A4,H⟩:=qE H
  try dsimp only at H
  have H':=aM H
  clear H
  go_enter func20,ntmps20
  go_wp2_with (first|((with_reducible refine jc 18 7 ?_);refine jK func18 (Sa1.calls k _ _ l0 true _ (kC aQ.out) aR.out A2.out) ?_;intro w5 hb;replace HB:=kH hb;clear hb)|((with_reducible refine jc 41 10 ?_);refine jM func41 (Sa8.calls k _ _ l0 aa _ (kb aQ HB) aR.out A4.out) ?_;rintro aY w6 ⟨ho0,hb⟩;have av:=kL ho0;replace HB:=kH hb;clear hb;(try clear ho0);obtain⟨bv,bz,bA⟩:=R_slice av.out;subst bA))
  go_loopg [3,12] k (fun kq v3 v12 w'=>∃ (ax:List (List Bool)) (ae:Int),v12 = iV ae/\aa1 (afk kq ax aa (aa.length:Int) ae=some r)/\aa1 (kq<=k)/\aa1 (Kd.S (Kd.slice 4 Kd.bool) 37 w' w.heap.size (fun _=>True) v3 ax)/\aa1 (Kd.R (Kd.int .u16) 60 w' w.heap.size (fun _=>True) (.slice bv aa.length bz) aa)/\aa1 (Below w.heap.size w w'))
  case atStart=>exact⟨(([]:List (List Bool))),(0),qZ,H',⟨Nat.le_refl _⟩,⟨by first|exact S_nil _ _ _ _ _|exact N_nil _ _ _ _ _|exact V_nil _ _ _ _ _|exact Q_nil _ _ _ _ _|exact R_nil _ _ _ _ _⟩,⟨qR av⟩,⟨qB⟩⟩
  clear H'
  obtain⟨ax,ae,rfl,HA,aZ,ak,ag,HB⟩:=hrel
  rcases gk with _|k1
  ·exact absurd HA.out (by simp [afk])
  have H:=HA.out
  clear HA
  simp only [afk] at H
  replace H:=jD H;rcases H with ⟨aT,H⟩ | ⟨aT,H⟩
  ·replace H:=jI H;obtain⟨bB,H⟩:=H
   replace H:=jI H;obtain⟨bg,H⟩:=H
   obtain⟨af,bF,H⟩:=qE H
   try dsimp only at H
   replace H:=jL H;obtain⟨aG,H⟩:=H
   obtain⟨bi,au⟩:=ky ((ax ++ [af]):List (List Bool))
   replace H:=kv au H
   have H':=aM H
   clear H
   have ay:0<=(ae:Int):=qD
   have az:ae < (aa.length:Int):=qD
   obtain⟨aU,aH,aI⟩:=Kd.at_int (R_reads' ag.out).2.2 ae ay az
   cases aH
   replace ay:=eq_true ay
   replace az:=eq_true az
   go_wp2_with (first|((with_reducible refine jc 42 18 ?_);refine jG func42 #[.int .u16 (rd aa ae)] ?_;refine (aig _ _ _ _ (aa1.out (by assumption))).mono ?_;rintro e bC ⟨bn,rfl,ho0,hb⟩;refine⟨_,rfl,?_⟩;have ah:=kL ho0;replace ak:=aM (S_elder' (qS ak) (R_base ho0) hb);replace ag:=kR ag hb;replace HB:=kH hb;clear hb;(try clear ho0);obtain⟨aJ,aK,aV⟩:=R_slice ah.out;subst aV)|((with_reducible refine aaa (b:=.append) (xs:=#[.tmp 16,.tmp 19]) rfl ?_);at_builtin;refine S_append (Kd.slice 4 Kd.bool) (w0:=w) w.heap.size rfl (.tmp 16) (.tmp 19) 33 37 (.slice none 0 0) 24 rfl underlying33 anP rfl (by decide) (by omega) u3 ax af [.slice aJ af.length aK] (fun _=>True) (fun k_=>some k_=(.slice aJ af.length aK:Value).ownBlock) rfl rfl ?aP (fun k_ hk_=>((R_mono (ok':=fun k_=>((fun _=>True)) k_/\some k_≠(u3:Value).ownBlock) (R_apart' (ah.out) (S_typed ak.out) (by decide)) (fun k_ hk=>⟨trivial,hk.2⟩))).1 k_ hk_.symm) ?aF ?aO ?aB ?aS ?aL ?_;(case aP=>exact M_row (R_mono (R_tight rfl (R_mono (ok':=fun k_=>((fun _=>True)) k_/\some k_≠(u3:Value).ownBlock) (R_apart' (ah.out) (S_typed ak.out) (by decide)) (fun k_ hk=>⟨trivial,hk.2⟩))) (fun _ h_=>h_)));(case aB=>exact qB);(case aF=>exact (fun _ _=>trivial));(case aO=>exact (by (with_reducible repeat (first|apply S_alloc|apply S_drewN|apply S_drew));exact S_mono ak.out (by first|exact fun k_ hk=>⟨trivial,fun e_=>hk.2 e_⟩|exact fun k_ hk=>hk)));(case aS=>exact (aa4 qB));(case aL=>have:=aG.out;omega);intro bq bD ho hb hg hat;rw [<- au.out] at ho;have aC:=aM ho;replace ag:=aM (R_over' (qR ag) (S_typed (qS ak)) (by decide) hg);replace HB:=aM hb;clear ak ah;clear ho hb hg hat))
   go_roundg k1
   case measure=>have:=aZ.out;omega
   exact⟨_,_,qZ,H',⟨by have:=aZ.out;omega⟩,⟨qS aC⟩,⟨qR ag⟩,⟨qB⟩⟩
  obtain rfl:=oJ H
  go_wp2
  go_ret
  exact⟨_,qW,qS ak,qB⟩
 obtain rfl:=oJ H
 go_enter func20,ntmps20
 go_wp2_with (first|((with_reducible refine jc 18 7 ?_);refine jK func18 (Sa1.calls k _ _ l0 false _ (kC aQ.out) aR.out A2.out) ?_;intro bE hb;replace HB:=kH hb;clear hb))
 go_ret
 exact⟨_,qW,by first|exact S_nil _ _ _ _ _|exact N_nil _ _ _ _ _|exact V_nil _ _ _ _ _|exact Q_nil _ _ _ _ _|exact R_nil _ _ _ _ _,qB⟩
end Go.Proofs.YtebpplallecogaaGreat.M
namespace Go.Proofs.YtebpplallecogaaGreat.M
open Go.Proofs.Tryz Go.RowKit Go.Proofs.YtebpplallecogaaGreatW.PrintWords Go.Proofs.YtebpplallecogaaGreatW.PrintLast Go.Proofs.YtebpplallecogaaGreatW.PrintMore
attribute [local go_sem] aan aal aay aax aaf aae aam aak
def af3:Nat->List Bool->List Bool->Int->Option (Bool)
 | 0,_,_,_=>none
 | k+1,x0,x1,x5=>if x5 < (x0.length:Int) then (if 0<=x5 then (if x5 < (x1.length:Int) then (if ((abo false x0 x5) != (abo false x1 x5))=true then (some false) else (af3 k x0 x1 (wrap64 (x5+1)))) else (none)) else (none)) else (some true)
def SbL.f (k:Nat) (l0 l1:List Bool):Option (Bool):=if (l0.length:Int)=(l1.length:Int) then (af3 k l0 l1 0) else (some false)
theorem SbL.calls (k:Nat) (A0:Option Addr) (c0:Nat) (l0:List Bool) (A1:Option Addr) (c1:Nat) (l1:List Bool) (r:Bool) (w:World) (hr0:Kd.C Kd.bool w A0 l0.length l0) (hc0:l0.length<=c0) (hr1:Kd.C Kd.bool w A1 l1.length l1) (hc1:l1.length<=c1) (h:SbL.f k l0 l1=some r) :
  Calls prog 27 #[.slice A0 l0.length c0,.slice A1 l1.length c1] w fun e w'=>e = .returned (.bool r)/\aaA w w':=by
 have aG:=aM hr0
 have aN:=aM hc0
 clear hr0 hc0
 have HR1:=aM hr1
 have aO:=aM hc1
 clear hr1 hc1
 have H:=h;unfold SbL.f at H
 clear h
 by_cases c3:(l0.length:Int)=(l1.length:Int)
 ·rw [if_pos c3] at H
  have ay:((l0.length:Int) == (l1.length:Int))=true:=beq_iff_eq.mpr c3
  have az:((l0.length:Int) != (l1.length:Int))=false:=bne_eq_false_iff_eq.mpr c3
  have aA:(l0.length == l1.length)=true:=by first|simpa using c3|(simp at c3 ⊢;omega)
  clear c3
  have H':=aM H
  clear H
  go_enter func27,ntmps27
  go_wp2
  repeat (go_quiet (fail);try go_wp2)
  go_loopg [5] k (fun kq v5 w'=>∃ (aa:Int),v5 = iV aa/\aa1 (af3 kq l0 l1 aa=some r)/\aa1 (kq<=k)/\aaA w w')
  case atStart=>exact⟨(0),qZ,H',⟨Nat.le_refl _⟩,by repeat (first|exact aaM _|apply aaA.step)⟩
  clear H'
  try clear c1;try clear c3;try clear ay;try clear az;try clear aA
  obtain⟨aa,rfl,HA,aH,⟨m1,rfl⟩⟩:=hrel
  rcases gk with _|k1
  ·exact absurd HA.out (by simp [af3])
  have H:=HA.out
  clear HA
  simp only [af3] at H
  replace H:=jD H;rcases H with ⟨aB,H⟩ | ⟨aB,H⟩
  ·replace H:=jI H;obtain⟨aJ,H⟩:=H
   replace H:=jI H;obtain⟨aK,H⟩:=H
   by_cases c7:((abo false l0 aa) != (abo false l1 aa))=true
   ·rw [if_pos c7] at H
    have aC:((abo false l0 aa) != (abo false l1 aa))=true:=c7
    (try (have aD:decide ((abo false l0 aa)=(abo false l1 aa))=false:=by simpa using c7))
    (try (have aF:((abo false l0 aa) == (abo false l1 aa))=false:=by simpa using c7))
    (try (have aL:¬ ((abo false l0 aa)=(abo false l1 aa)):=by simpa using c7))
    clear c7
    obtain rfl:=oJ H
    have ae:0<=(aa:Int):=qD
    have af:aa < (l0.length:Int):=qD
    obtain⟨av,ai,aj⟩:=Kd.at_bool aG.out aa ae af
    cases ai
    replace ae:=eq_true ae
    replace af:=eq_true af
    have ag:0<=(aa:Int):=qD
    have ah:aa < (l1.length:Int):=qD
    obtain⟨ax,ak,au⟩:=Kd.at_bool HR1.out aa ag ah
    cases ak
    replace ag:=eq_true ag
    replace ah:=eq_true ah
    go_wp2
    repeat (go_quiet (fail);try go_wp2)
    go_ret
    exact⟨qZ,qU⟩
   rw [if_neg c7] at H
   have aC:((abo false l0 aa) != (abo false l1 aa))=false:=by simpa using c7
   (try (have aD:decide ((abo false l0 aa)=(abo false l1 aa))=true:=by simpa using c7))
   (try (have aF:((abo false l0 aa) == (abo false l1 aa))=true:=by simpa using c7))
   clear c7
   have H':=aM H
   clear H
   have ae:0<=(aa:Int):=qD
   have af:aa < (l0.length:Int):=qD
   obtain⟨av,ai,aj⟩:=Kd.at_bool aG.out aa ae af
   cases ai
   replace ae:=eq_true ae
   replace af:=eq_true af
   have ag:0<=(aa:Int):=qD
   have ah:aa < (l1.length:Int):=qD
   obtain⟨ax,ak,au⟩:=Kd.at_bool HR1.out aa ag ah
   cases ak
   replace ag:=eq_true ag
   replace ah:=eq_true ah
   go_wp2
   repeat (go_quiet (fail);try go_wp2)
   go_roundg k1
   case measure=>have:=aH.out;omega
   exact⟨(wrap64 (aa+1)),qZ,H',⟨by have:=aH.out;omega⟩,by repeat (first|exact aaM _|apply aaA.step)⟩
  obtain rfl:=oJ H
  go_wp2
  repeat (go_quiet (fail);try go_wp2)
  go_ret
  exact⟨qZ,qU⟩
 rw [if_neg c3] at H
 have ay:((l0.length:Int) == (l1.length:Int))=false:=beq_eq_false_iff_ne.mpr c3
 have az:((l0.length:Int) != (l1.length:Int))=true:=bne_iff_ne.mpr c3
 have aA:(l0.length == l1.length)=false:=by first|simpa using c3|(simp at c3 ⊢;omega)
 obtain rfl:=oJ H
 go_enter func27,ntmps27
 go_wp2
 repeat (go_quiet (fail);try go_wp2)
 go_ret
 exact⟨qZ,qU⟩
def aeI:Nat->List S27->Int->Bool->Option (List Bool)
 | 0,_,_,_=>none
 | k+1,x0,x1,aN=>if aN=true then (some ([]:List Bool)) else ((Sa8.f k x0).bind fun ag=>((Sa9.f k x0 ag x1).bind fun ah=>((akg k ah).bind fun au=>(some au))))
def aj9 (k:Nat) (l0:List S27) (a1:Int):Option (List Bool):=(Sa1.f k l0).bind fun av=>(if av=true then (if a1 < 0 then (aeI k l0 a1 true) else (aeI k l0 a1 (decide (a1>=(l0.length:Int))))) else (aeI k l0 a1 true))
theorem aqD {G:Prop} (h:G:=by
  go_wp2_with (first|((with_reducible refine jc 18 6 ?_);refine jK func18 (Sa1.calls k _ _ l0 true _ (kb aA HB) aB.out A4.out) ?_;intro aC hb;replace HB:=kH hb;clear hb))
  go_meet
  exact⟨_,_,qZ,H',⟨by first|omega|exact Nat.le_refl _⟩,⟨qB⟩⟩):G:=h
theorem amL (k:Nat) (A0:Option Addr) (c0:Nat) (l0:List S27) (a1:Int) (r:List Bool) (w:World) (hr0:Kd.C k27 w A0 l0.length l0) (hc0:l0.length<=c0) (h:aj9 k l0 a1=some r) :
  Calls prog 24 #[.slice A0 l0.length c0,iV a1] w fun e w'=>∃ aI:Value,e = .returned (aI)/\Kd.R Kd.bool 4 w' w.heap.size (fun _=>True) aI r/\Below w.heap.size w w':=by
 have aA:=aM hr0
 have aB:=aM hc0
 clear hr0 hc0
 have HB:=jb_ w
 have H:=h;unfold aj9 at H
 clear h
 have aD:=aM H
 clear H
 go_enter func24,ntmps24
 go_upto_region 1 with (fail)
 go_cut [17] (fun v17 wc=>∃ (kq:Nat) (ai:Bool),v17 = .bool ai/\aa1 (aeI kq l0 a1 ai=some r)/\aa1 (kq<=k)/\aa1 (Below w.heap.size w wc))
 case first =>
  have H:=aD.out
  clear aD
  obtain⟨av,A4,H⟩:=qE H
  try dsimp only at H
  replace H:=jB H;rcases H with ⟨rfl,H⟩ | ⟨rfl,H⟩
  ·replace H:=jD H;rcases H with ⟨aj,H⟩ | ⟨aj,H⟩
   ·(first|rw [aj]|(simp only [aau,aaD];rw [aj])|skip)
    have H':=aM H
    clear H
    exact aqD
   (first|rw [aj]|(simp only [aau,aaD];rw [aj])|skip)
   have H':=aM H
   clear H
   exact aqD
  have H':=aM H
  clear H
  go_wp2_with (first|((with_reducible refine jc 18 6 ?_);refine jK func18 (Sa1.calls k _ _ l0 false _ (kb aA HB) aB.out A4.out) ?_;intro aC hb;replace HB:=kH hb;clear hb))
  go_meet
  exact⟨_,_,qZ,H',⟨by first|omega|exact Nat.le_refl _⟩,⟨qB⟩⟩
 clear aD
 obtain⟨kq,ai,rfl,HA,HJ2,HB⟩:=hcut
 cases kq with
 | zero=>exact absurd HA.out (by simp [aeI])
 | succ aJ =>
  have H:=HA.out
  clear HA
  simp only [aeI] at H
  replace H:=jB H;rcases H with ⟨rfl,H⟩ | ⟨rfl,H⟩
  ·obtain rfl:=oJ H
   go_wp2
   go_ret
   exact⟨_,qW,by first|exact Kd.R_nil _ _ _ _ _|exact Kd.N_nil _ _ _ _ _|exact Kd.V_nil _ _ _ _ _|exact Kd.Q_nil _ _ _ _ _|exact Kd.S_nil _ _ _ _ _,qB⟩
  obtain⟨ag,aP,H⟩:=qE H
  try dsimp only at H
  obtain⟨ah,aQ,H⟩:=qE H
  try dsimp only at H
  obtain⟨au,aU,H⟩:=qE H
  try dsimp only at H
  obtain rfl:=oJ H
  go_wp2_with (first|((with_reducible refine jc 41 20 ?_);refine jM func41 (Sa8.calls aJ _ _ l0 ag _ (kb aA HB) aB.out aP.out) ?_;rintro aK aR ⟨ak,hb⟩;have aa:=kL ak;replace HB:=kH hb;clear hb;(try clear ak);obtain⟨aF,aG,aH⟩:=Kd.R_slice aa.out;subst aH)|((with_reducible refine jc 44 22 ?_);refine jK func44 (Sa9.calls aJ _ _ l0 _ _ ag a1 ah _ (kb aA HB) aB.out (kJ aa) (kp aa) aQ.out) ?_;intro aS hb;replace aa:=kR aa hb;replace HB:=kH hb;clear hb)|((with_reducible refine jc 42 23 ?_);refine jG func42 #[.int .u16 ah] ?_;refine (aig _ _ _ _ (aa1.out (by assumption))).mono ?_;rintro e aT ⟨aL,rfl,ak,hb⟩;refine⟨_,rfl,?_⟩;have ax:=kL ak;replace aa:=kR aa hb;replace HB:=kH hb;clear hb;(try clear ak)))
  go_ret
  exact⟨_,qW,qR ax,qB⟩
/-- A state of type 71 at block g of W;what its slices lead to came in by w0. -/
def Sad (w0 W:World) (g:Nat) (f0:List Int) (f1:Int):Prop:=∃ A0 c0,W.heap[g]?=some (.cells #[.slice A0 f0.length c0,iV f1] 71 (0,0))/\w0.heap.size<=g/\Kd.C (Kd.int .u8) w0 A0 f0.length f0
theorem Sad.grown {w0 W:World} {g:Nat} {f0:List Int} {f1:Int} {W1:World} {row:Option Nat} (h:Sad w0 W g f0 f1) (hw:W.grownBy W1 row) (hne:some g≠row):Sad w0 W1 g f0 f1:=by
 obtain⟨A0,c0,hb,hg,hr0⟩:=h
 exact⟨A0,c0,aaq hb hw hne,hg,hr0⟩
theorem aj5 {w0 W:World} {g:Nat} {f0:List Int} {f1:Int} {α:Type} {d:Kd α} {e base:Nat} {ok:Nat->Prop} {v:Value} {xs:List α} (h:Sad w0 W g f0 f1) (ho:Kd.N d e W base ok v xs) (ht:e≠71):some g≠v.ownBlock:=by
 obtain⟨A0,c0,hb,hg,hr0⟩:=h
 exact Kd.N_ne ho hb ht
theorem Sad.fresh {w0 W:World} {g:Nat} {f0:List Int} {f1:Int} (h:Sad w0 W g f0 f1):∀ k,W.heap.size<=k->k≠g:=by
 obtain⟨A0,c0,hb,hg,hr0⟩:=h
 exact Kd.freshB hb
theorem Sad.below {w0 W:World} {g:Nat} {f0:List Int} {f1:Int} {W1:World} (h:Sad w0 W g f0 f1) (hw:Below W.heap.size W W1):Sad w0 W1 g f0 f1:=h.grown (adC hw none) (by simp)
theorem Sad.alloc {w0 W:World} {g:Nat} {f0:List Int} {f1:Int} (h:Sad w0 W g f0 f1) (o:Obj):Sad w0 (W.alloc o) g f0 f1:=h.below (aaB (Below.refl _ _) o)
theorem Sad.drewN {w0 W:World} {g:Nat} {f0:List Int} {f1:Int} (h:Sad w0 W g f0 f1) (m:Nat):Sad w0 (W.drewN m) g f0 f1:=h
theorem Sad.drew {w0 W:World} {g:Nat} {f0:List Int} {f1:Int} (h:Sad w0 W g f0 f1):Sad w0 W.drew g f0 f1:=h
theorem Sad.at_ {w0 W:World} {g:Nat} {f0:List Int} {f1:Int} {w':World} {m:Nat} (hq:W.drewN m=w') (h:Sad w0 W g f0 f1):Sad w0 w' g f0 f1:=by subst hq;exact Sad.drewN h m
theorem Sad.apart {w0 W:World} {g:Nat} {f0:List Int} {f1:Int} {α:Type} {d:Kd α} {e base:Nat} {ok:Nat->Prop} {v:Value} {xs:List α} (h:Sad w0 W g f0 f1) (ho:d.R e W base ok v xs) (ht:∀ q,q∈e :: d.E->q≠71):d.R e W base (fun k=>ok k/\k≠g) v xs:=by
 obtain⟨A0,c0,hb,hg,hr0⟩:=h
 exact Kd.R_types ho hb ht
theorem aca {w0 W:World} {g:Nat} {f0:List Int} {f1:Int} {α:Type} {d:Kd α} {e base:Nat} {ok:Nat->Prop} {v:Value} {xs:List α} (h:Sad w0 W g f0 f1) (ho:d.R e W base ok v xs) (ht:e≠71):some g≠v.ownBlock:=by
 obtain⟨A0,c0,hb,hg,hr0⟩:=h
 exact Kd.R_ne ho hb ht
theorem abt {w0 W:World} {g:Nat} {f0:List Int} {f1:Int} (h:Sad w0 W g f0 f1):g < W.heap.size:=by
 obtain⟨A0,c0,hb,hg,hr0⟩:=h
 exact acK hb
theorem aqw {w0 W:World} {g:Nat} {f0:List Int} {f1:Int} (h:Sad w0 W g f0 f1):w0.heap.size<=g:=by
 obtain⟨A0,c0,hb,hg,hr0⟩:=h
 exact hg
theorem amw {w0 W:World} {g:Nat} {f0:List Int} {f1:Int} {p:Addr} (h:Sad w0 W g f0 f1) (hne:g≠p.block) (u:Value):Sad w0 (W.setCell p u) g f0 f1:=by
 obtain⟨A0,c0,hb,hg,hr0⟩:=h
 exact⟨A0,c0,alj hb hne u,hg,hr0⟩
theorem aef {W:World} {g:Nat} {A0:Option Addr} {c0:Nat} {f0:List Int} {f1:Int} (h:W.heap[g]?=some (.cells #[.slice A0 f0.length c0,iV f1] 71 (0,0))):W.cell? ⟨g,0,none⟩=some (.slice A0 f0.length c0):=(aa3 h 0).trans rfl
theorem aee {W:World} {g:Nat} {A0:Option Addr} {c0:Nat} {f0:List Int} {f1:Int} (h:W.heap[g]?=some (.cells #[.slice A0 f0.length c0,iV f1] 71 (0,0))):W.cell? ⟨g,1,none⟩=some (iV f1):=(aa3 h 1).trans rfl
theorem age {w0 W:World} {g:Nat} {f0:List Int} {f1:Int} (h:Sad w0 W g f0 f1) (x:Int):Sad w0 (W.setCell ⟨g,1,none⟩ (iV x)) g f0 x:=by
 obtain⟨A0,c0,hb,hg,hr0⟩:=h
 exact⟨A0,c0,by simpa using ag2 hb 1 (iV x),hg,hr0⟩
theorem qI {p q:Prop} (h:aa1 p) (f:p->q:=by intro h_;repeat (first|(with_reducible first|exact h_|apply Sad.alloc|apply Sad.drewN|apply Sad.drew|apply age|refine amw ?_ (aa1.out (by assumption)) _)|exact h_)):q:=f h.out
theorem qBI {B:Nat} {w W:World} (h:Below B w W:=by repeat (first|(with_reducible first|exact HB.out|apply aaB|apply aas|apply aai|refine aag ?_ (aqw (aa1.out (by assumption))))|exact HB.out)):Below B w W:=h
def af2:Nat->Int->Bool->List Int->Int->Option (Int × Int)
 | 0,_,_,_,_=>none
 | k+1,x1,x24,x1000,ae=>if x24=true then (some (0,ae)) else (if (wrap64 (ae - 1)) < (x1000.length:Int) then (if 0<=(wrap64 (ae - 1)) then (if x1=0 then (none) else (some (Int.tmod (wrap64 (rd x1000 (wrap64 (ae - 1)))) x1,ae))) else (none)) else (if (x1000.length:Int)=0 then (none) else (if 0<=(Int.tmod (wrap64 (ae - 1)) (x1000.length:Int)) then (if (Int.tmod (wrap64 (ae - 1)) (x1000.length:Int)) < (x1000.length:Int) then (if 0<=(Int.tmod (wrap64 ((wrap64 ((wrap64 (ae - 1))*7))+3)) (x1000.length:Int)) then (if (Int.tmod (wrap64 ((wrap64 ((wrap64 (ae - 1))*7))+3)) (x1000.length:Int)) < (x1000.length:Int) then (if x1=0 then (none) else (some (Int.tmod (Go.bits .xor .i64 (wrap64 ((wrap64 ((wrap64 ((wrap64 ((wrap64 (rd x1000 (Int.tmod (wrap64 (ae - 1)) (x1000.length:Int))))*131))+(wrap64 ((wrap64 (rd x1000 (Int.tmod (wrap64 ((wrap64 ((wrap64 (ae - 1))*7))+3)) (x1000.length:Int))))*1117))))+(wrap64 ((wrap64 (ae - 1))*29))))+(wrap64 ((wrap64 (Int.tdiv (wrap64 (ae - 1)) (x1000.length:Int)))*53)))) (wrap64 (Int.tdiv (wrap64 ((wrap64 ((wrap64 ((wrap64 ((wrap64 (rd x1000 (Int.tmod (wrap64 (ae - 1)) (x1000.length:Int))))*131))+(wrap64 ((wrap64 (rd x1000 (Int.tmod (wrap64 ((wrap64 ((wrap64 (ae - 1))*7))+3)) (x1000.length:Int))))*1117))))+(wrap64 ((wrap64 (ae - 1))*29))))+(wrap64 ((wrap64 (Int.tdiv (wrap64 (ae - 1)) (x1000.length:Int)))*53)))) 64))) x1,ae))) else (none)) else (none)) else (none)) else (none))))
def aaW (k:Nat) (aa:List Int) (af a1:Int):Option (Int × Int):=if a1 < 1 then (af2 k a1 true aa (wrap64 (af+1))) else (af2 k a1 ((aa.length:Int) == 0) aa (wrap64 (af+1)))
theorem aab (k g:Nat) (aa:List Int) (af a1 r1 r2:Int) (w0 w:World) (hI:Sad w0 w g aa af) (hB:Below w0.heap.size w0 w) (h:aaW k aa af a1=some (r1,r2)) :
  Calls prog 52 #[.pointer (some ⟨g,0,none⟩),iV a1] w fun e w'=>e = .returned (iV r1)/\Sad w0 w' g aa r2/\Below w0.heap.size w0 w'/\aa6 w w' g none:=by
 have HI0:=aM hI
 have HK:=aM (aaG w g none)
 have HL:=aM hB.size
 clear hI
 have HW0:=aM hB.size
 have HB:=aM hB
 clear hB
 have H:=h;unfold aaW at H
 clear h
 have aY:=aM H
 clear H
 obtain⟨aZ,bg,aD,bi,bn⟩:=HI0.out
 have bY:=aef aD
 have bZ:=aee aD
 have cu:=aa7 aD 1
 clear aD bi
 go_enter func52,ntmps52
 go_upto_region 2 with (fail)
 repeat (go_quiet (fail);go_upto_region 2 with (fail))
 go_cut [24] (fun v24 wc=>∃ (kq:Nat) (ay:Bool),v24 = .bool ay/\aa1 (af2 kq a1 ay aa (wrap64 (af+1))=some (r1,r2))/\aa1 (kq<=k)/\aa1 (Sad w0 wc g aa (wrap64 (af+1)))/\aa1 (aa6 w wc g none)/\aa1 (Below w0.heap.size w0 wc))
 case first =>
  have H:=aY.out
  clear aY
  replace H:=jD H;rcases H with ⟨az,H⟩ | ⟨az,H⟩
  ·(first|rw [az]|(simp only [aau,aaD];rw [az])|skip)
   have H':=aM H
   clear H
   go_wp2
   repeat (go_quiet (fail);try go_wp2)
   go_meet
   exact⟨_,(true),qZ,H',⟨by first|omega|exact Nat.le_refl _⟩,⟨qI HI0⟩,⟨qH⟩,⟨qBI⟩⟩
  (first|rw [az]|(simp only [aau,aaD];rw [az])|skip)
  have H':=aM H
  clear H
  obtain⟨bq,bu,aF,bv,bz⟩:=HI0.out
  have cz:=aef aF
  have cB:=aee aF
  have cK:=aa7 aF 1
  clear aF bv
  go_wp2
  repeat (go_quiet (fail);try go_wp2)
  go_meet
  exact⟨_,(((aa.length:Int) == 0)),qZ,H',⟨by first|omega|exact Nat.le_refl _⟩,⟨qI HI0⟩,⟨qH⟩,⟨qBI⟩⟩
 clear aY
 obtain⟨kq,ay,rfl,HA,HJ2,HI0,HK,HB⟩:=hcut
 cases kq with
 | zero=>exact absurd HA.out (by simp [af2])
 | succ cO =>
  have H:=HA.out
  clear HA
  simp only [af2] at H
  replace H:=jB H;rcases H with ⟨rfl,H⟩ | ⟨rfl,H⟩
  ·obtain⟨rfl,rfl⟩:=oJ2 H
   go_wp2
   repeat (go_quiet (fail);try go_wp2)
   go_ret
   exact⟨qW,qI HI0,qBI,qH⟩
  replace H:=jD H;rcases H with ⟨aP,H⟩ | ⟨aP,H⟩
  ·obtain⟨aO,aA⟩:∃ j_:Int,(wrap64 ((wrap64 (af+1)) - 1))=j_:=⟨_,rfl⟩
   replace H:(if 0<=(aO) then (if a1=0 then (none) else (some (Int.tmod (wrap64 (rd aa (aO))) a1,(wrap64 (af+1))))) else (none))=some (r1,r2):=by first|(rw [aA] at H;exact H)|(simp only [aA] at H ⊢;exact H)
   (try rw [aA] at aP)
   have bD:(IntKind.i64.wrap ((wrap64 (af+1)) - 1))=aO:=(aau _).trans aA
   replace H:=jI H;obtain⟨bE,H⟩:=H
   by_cases c11:a1=0
   ·rw [if_pos c11] at H
    exact absurd H (by simp)
   rw [if_neg c11] at H
   have bF:(a1 == 0)=false:=beq_eq_false_iff_ne.mpr c11
   have bG:(a1 != 0)=true:=bne_iff_ne.mpr c11
   obtain⟨rfl,rfl⟩:=oJ2 H
   obtain⟨aU,aV,ai,aQ,aG⟩:=HI0.out
   have bH:=aef ai
   have bI:=aee ai
   have bJ:=aa7 ai 1
   clear ai aQ
   have aH:0<=((aO):Int):=qD
   have aI:(aO) < (aa.length:Int):=qD
   obtain⟨bK,bA,aj⟩:=Kd.at_int aG (aO) aH aI
   cases bA
   replace aj:=abl HB.out aj
   replace aH:=eq_true aH
   replace aI:=eq_true aI
   go_wp2
   repeat (go_quiet (fail);try go_wp2)
   go_ret
   exact⟨by first|rfl|(simp [aaF,aaE] <;> rfl)|(simp only [<- aA];first|rfl|(simp [aaF,aaE] <;> rfl))|(simp [*,aaF,aaE] <;> rfl),qI HI0,qBI,qH⟩
  by_cases c13:(aa.length:Int)=0
  ·rw [if_pos c13] at H
   exact absurd H (by simp)
  rw [if_neg c13] at H
  have bL:((aa.length:Int) == 0)=false:=beq_eq_false_iff_ne.mpr c13
  have bM:((aa.length:Int) != 0)=true:=bne_iff_ne.mpr c13
  have bN:¬ (aa=[]):=fun h_=>c13 (by rw [h_];rfl)
  obtain⟨ag,aB⟩:∃ j_:Int,(Int.tmod (wrap64 ((wrap64 (af+1)) - 1)) (aa.length:Int))=j_:=⟨_,rfl⟩
  replace H:(if 0<=(ag) then (if (ag) < (aa.length:Int) then (if 0<=(Int.tmod (wrap64 ((wrap64 ((wrap64 ((wrap64 (af+1)) - 1))*7))+3)) (aa.length:Int)) then (if (Int.tmod (wrap64 ((wrap64 ((wrap64 ((wrap64 (af+1)) - 1))*7))+3)) (aa.length:Int)) < (aa.length:Int) then (if a1=0 then (none) else (some (Int.tmod (Go.bits .xor .i64 (wrap64 ((wrap64 ((wrap64 ((wrap64 ((wrap64 (rd aa (ag)))*131))+(wrap64 ((wrap64 (rd aa (Int.tmod (wrap64 ((wrap64 ((wrap64 ((wrap64 (af+1)) - 1))*7))+3)) (aa.length:Int))))*1117))))+(wrap64 ((wrap64 ((wrap64 (af+1)) - 1))*29))))+(wrap64 ((wrap64 (Int.tdiv (wrap64 ((wrap64 (af+1)) - 1)) (aa.length:Int)))*53)))) (wrap64 (Int.tdiv (wrap64 ((wrap64 ((wrap64 ((wrap64 ((wrap64 (rd aa (ag)))*131))+(wrap64 ((wrap64 (rd aa (Int.tmod (wrap64 ((wrap64 ((wrap64 ((wrap64 (af+1)) - 1))*7))+3)) (aa.length:Int))))*1117))))+(wrap64 ((wrap64 ((wrap64 (af+1)) - 1))*29))))+(wrap64 ((wrap64 (Int.tdiv (wrap64 ((wrap64 (af+1)) - 1)) (aa.length:Int)))*53)))) 64))) a1,(wrap64 (af+1))))) else (none)) else (none)) else (none)) else (none))=some (r1,r2):=by first|(rw [aB] at H;exact H)|(simp only [aB] at H ⊢;exact H)
  replace H:=jI H;obtain⟨bO,H⟩:=H
  replace H:=jI H;obtain⟨bP,H⟩:=H
  obtain⟨ah,aC⟩:∃ j_:Int,(Int.tmod (wrap64 ((wrap64 ((wrap64 ((wrap64 (af+1)) - 1))*7))+3)) (aa.length:Int))=j_:=⟨_,rfl⟩
  replace H:(if 0<=(ah) then (if (ah) < (aa.length:Int) then (if a1=0 then (none) else (some (Int.tmod (Go.bits .xor .i64 (wrap64 ((wrap64 ((wrap64 ((wrap64 ((wrap64 (rd aa (ag)))*131))+(wrap64 ((wrap64 (rd aa (ah)))*1117))))+(wrap64 ((wrap64 ((wrap64 (af+1)) - 1))*29))))+(wrap64 ((wrap64 (Int.tdiv (wrap64 ((wrap64 (af+1)) - 1)) (aa.length:Int)))*53)))) (wrap64 (Int.tdiv (wrap64 ((wrap64 ((wrap64 ((wrap64 ((wrap64 (rd aa (ag)))*131))+(wrap64 ((wrap64 (rd aa (ah)))*1117))))+(wrap64 ((wrap64 ((wrap64 (af+1)) - 1))*29))))+(wrap64 ((wrap64 (Int.tdiv (wrap64 ((wrap64 (af+1)) - 1)) (aa.length:Int)))*53)))) 64))) a1,(wrap64 (af+1))))) else (none)) else (none))=some (r1,r2):=by first|(rw [aC] at H;exact H)|(simp only [aC] at H ⊢;exact H)
  replace H:=jI H;obtain⟨bQ,H⟩:=H
  replace H:=jI H;obtain⟨bR,H⟩:=H
  by_cases c20:a1=0
  ·rw [if_pos c20] at H
   exact absurd H (by simp)
  rw [if_neg c20] at H
  have bS:(a1 == 0)=false:=beq_eq_false_iff_ne.mpr c20
  have bT:(a1 != 0)=true:=bne_iff_ne.mpr c20
  obtain⟨rfl,rfl⟩:=oJ2 H
  obtain⟨aW,aX,ak,aR,au⟩:=HI0.out
  have bU:=aef ak
  have bV:=aee ak
  have bW:=aa7 ak 1
  clear ak aR
  have aJ:0<=((ag):Int):=qD
  have aK:(ag) < (aa.length:Int):=qD
  obtain⟨aS,bB,av⟩:=Kd.at_int au (ag) aJ aK
  cases bB
  replace av:=abl HB.out av
  replace aJ:=eq_true aJ
  replace aK:=eq_true aK
  have aL:0<=((ah):Int):=qD
  have aN:(ah) < (aa.length:Int):=qD
  obtain⟨aT,bC,ax⟩:=Kd.at_int au (ah) aL aN
  obtain rfl:aS=aT:=(by injection bC)
  replace ax:=abl HB.out ax
  replace aL:=eq_true aL
  replace aN:=eq_true aN
  go_wp2
  repeat (go_quiet (fail);try go_wp2)
  go_ret
  exact⟨by first|rfl|(simp [aaF,aaE] <;> rfl)|(simp only [<- aB,<- aC];first|rfl|(simp [aaF,aaE] <;> rfl))|(simp [*,aaF,aaE] <;> rfl),qI HI0,qBI,qH⟩
def alB (l0:List Int):Option (List Int × Int):=if (l0.length:Int) > 2000 then (if 2000<=(l0.length:Int) then (some (l0.take 2000,0)) else (none)) else (some (l0,0))
theorem alC (A0:Option Addr) (c0:Nat) (l0 r1:List Int) (r2:Int) (w0 w:World) (hB:Below w0.heap.size w0 w) (hr0:Kd.C (Kd.int .u8) w0 A0 l0.length l0) (hc0:l0.length<=c0) (h:alB l0=some (r1,r2)) :
  Calls prog 34 #[.slice A0 l0.length c0] w fun e w'=>∃ g_:Nat,e = .returned (.pointer (some ⟨g_,0,none⟩))/\Sad w0 w' g_ r1 r2/\Below w0.heap.size w0 w'/\Below w.heap.size w w':=by
 have aG:=underlying71
 have aB:=aM hr0
 have aH:=aM hc0
 clear hr0 hc0
 have HBW:=jb_ w
 have HW0:=aM hB.size
 have HB:=aM hB
 clear hB
 have H:=h;unfold alB at H
 clear h
 by_cases c2:(l0.length:Int) > 2000
 ·rw [if_pos c2] at H
  have ay:=decide_eq_true c2
  have az:decide (2000 < l0.length)=true:=decide_eq_true (by omega)
  clear c2
  replace H:=jJ H;obtain⟨aI,aJ,H⟩:=H
  obtain⟨rfl,rfl⟩:=oJ2 H
  obtain⟨i04,av,_,ax,_⟩:=info_parts aqT
  obtain⟨aC,aD,aF⟩:=ahh (P:=prog) (Value.int .u8) 0 22 5 .i64 underlying22 av ax A0 c0 l0 2000 (by omega) (qD) aH.out
  have af:=aM (Kd.C_of_reads (h1:=fun _=>rfl) (aD _ (Kd.reads_of_C aB.out)))
  have aA:=aM aF
  clear aD aF av ax
  go_enter func34,ntmps34
  go_wp2_with (first|((with_reducible refine jd 10 ?_);refine aeg ?hg (N:=10) ?hd (cs:=#[.slice A0 (l0.take 2000).length c0,iV 0]) (t:=71) ?hr ?_;(case hd=>rfl);(case hg=>rfl);(case hr=>first|(go_simp;done)|(go_simp;rfl));intro aa hg w5 hbox hb;have ag:=aM hbox;have ah:=aM ((by rw [hg];exact (aa4 (by repeat (first|(with_reducible first|exact HBW.out|apply aaB|apply aas|apply aai)|exact HBW.out))):w.heap.size<=aa));have ai:=aM ((Nat.le_trans HW0.out (by rw [hg];exact (aa4 (by repeat (first|(with_reducible first|exact HBW.out|apply aaB|apply aas|apply aai)|exact HBW.out))):w.heap.size<=aa):w0.heap.size<=aa));replace HBW:=aM (abH HBW.out hb);replace HB:=kH hb;clear hb hbox hg))
  go_ret
  exact⟨_,rfl,(show Sad w0 _ aa (l0.take 2000) 0 from ⟨_,_,qK ag,ai.out,af.out⟩),qB,by repeat (first|(with_reducible first|exact HBW.out|apply aaB|apply aas|apply aai|refine aag ?_ ah.out)|exact HBW.out)⟩
 rw [if_neg c2] at H
 have ay:=decide_eq_false c2
 have az:decide (2000 < l0.length)=false:=decide_eq_false (by omega)
 clear c2
 obtain⟨rfl,rfl⟩:=oJ2 H
 go_enter func34,ntmps34
 go_wp2_with (first|((with_reducible refine jd 10 ?_);refine jY _ 71 ?_;intro ae hg w6 aj hb;have ak:=aM ((by rw [hg];exact (aa4 (by repeat (first|(with_reducible first|exact HBW.out|apply aaB|apply aas|apply aai)|exact HBW.out))):w.heap.size<=ae));have au:=aM ((Nat.le_trans HW0.out (by rw [hg];exact (aa4 (by repeat (first|(with_reducible first|exact HBW.out|apply aaB|apply aas|apply aai)|exact HBW.out))):w.heap.size<=ae):w0.heap.size<=ae));replace HBW:=aM (abH HBW.out hb);replace HB:=kH hb;clear hb hg))
 go_ret
 exact⟨_,rfl,(show Sad w0 _ ae l0 0 from ⟨_,_,qK aj,au.out,aB.out⟩),qB,by repeat (first|(with_reducible first|exact HBW.out|apply aaB|apply aas|apply aai|refine aag ?_ ak.out)|exact HBW.out)⟩
def aeq (k:Nat) (aa:List Int) (ae:Int):Option (Int × Int):=(aaW k aa ae 6).bind fun af=>(some (af.1,af.2))
theorem abA (k g:Nat) (aa:List Int) (ae r1 r2:Int) (w0 w:World) (hI:Sad w0 w g aa ae) (hB:Below w0.heap.size w0 w) (h:aeq k aa ae=some (r1,r2)) :
  Calls prog 77 #[.pointer (some ⟨g,0,none⟩)] w fun e w'=>e = .returned (iV r1)/\Sad w0 w' g aa r2/\Below w0.heap.size w0 w'/\aa6 w w' g none:=by
 have HI0:=aM hI
 have HK:=aM (aaG w g none)
 have HL:=aM hB.size
 clear hI
 have HW0:=aM hB.size
 have HB:=aM hB
 clear hB
 have H:=h;unfold aeq at H
 clear h
 obtain⟨⟨ai,t105⟩,A2,H⟩:=qE H
 try dsimp only at H
 obtain⟨rfl,rfl⟩:=oJ2 H
 go_enter func77,ntmps77
 go_wp2_with (first|((with_reducible refine jc 52 4 ?_);refine jK func52 (aab k g aa ae 6 ai t105 w0 _ (qI HI0) qB A2.out) ?_;rintro w3 ⟨hi,hb,hk⟩;replace HK:=kI hk;replace HB:=aM hb;replace HI0:=aM hi;clear hb hk hi))
 go_ret
 exact⟨qW,qI HI0,qB,qH⟩
def aeW (a0:Int):Option (Int):=if (Int.tmod a0 4294967296) > 2147483647 then (some (wrap64 ((Int.tmod a0 4294967296) - 4294967296))) else (if (Int.tmod a0 4294967296) < (-2147483648) then (some (wrap64 ((Int.tmod a0 4294967296)+4294967296))) else (some (Int.tmod a0 4294967296)))
theorem SaC.calls (a0 r:Int) (w:World) (h:aeW a0=some r) :
  Calls prog 87 #[iV a0] w fun e w'=>e = .returned (iV r)/\aaA w w':=by
 have H:=h;unfold aeW at H
 clear h
 replace H:=jD H;rcases H with ⟨aa,H⟩ | ⟨aa,H⟩
 ·obtain rfl:=oJ H
  go_enter func87,ntmps87
  go_wp2
  go_ret
  exact⟨qZ,qU⟩
 replace H:=jD H;rcases H with ⟨ae,H⟩ | ⟨ae,H⟩
 ·obtain rfl:=oJ H
  go_enter func87,ntmps87
  go_wp2
  go_ret
  exact⟨qZ,qU⟩
 obtain rfl:=oJ H
 go_enter func87,ntmps87
 go_wp2
 go_ret
 exact⟨qZ,qU⟩
def alv (k:Nat) (af:List Int) (ak:Int):Option (Int × Int):=(aaW k af ak 6).bind fun ag=>(if ag.1=0 then ((some (([(-2147483648),2147483647,(-1),0,1,(-2147483647),65536,(-65536)]:List Int):List Int)).bind fun av=>((aaW k af ag.2 8).bind fun ah=>(if 0<=ah.1 then (if ah.1 < (av.length:Int) then (some (rd av ah.1,ah.2)) else (none)) else (none)))) else (if ag.1=1 then ((aaW k af ag.2 256).bind fun ay=>((aaW k af ay.2 256).bind fun az=>((aaW k af az.2 256).bind fun aA=>((aaW k af aA.2 200).bind fun aB=>((aeW (wrap64 ((wrap64 ((wrap64 ((wrap64 (ay.1*65536))+(wrap64 (az.1*256))))+aA.1))*(wrap64 (1+aB.1))))).bind fun aF=>(some (aF,aB.2))))))) else (if ag.1=2 then ((aaW k af ag.2 200).bind fun aC=>(some (wrap64 (-aC.1),aC.2))) else ((aaW k af ag.2 20).bind fun aD=>(some (aD.1,aD.2))))))
theorem anh {G:Prop} (h:G:=by
  go_enter func78,ntmps78
  go_wp2_with (first|((with_reducible refine jc 52 4 ?_);refine jK func52 (aab k g af ak 6 aS t107 w0 _ (qI HI0) qB A2.out) ?_;rintro bq ⟨hi,hb,hk⟩;replace HK:=kI hk;replace HB:=aM hb;replace HI0:=aM hi;clear hb hk hi)|((with_reducible refine jd 7 ?_);refine jV (Kd.int .i64) 3 ([(-2147483648),2147483647,(-1),0,1,(-2147483647),65536,(-65536)]:List Int) [iV (-2147483648),iV 2147483647,iV (-1),iV 0,iV 1,iV (-2147483647),iV 65536,iV (-65536)] (aat.one (show Kd.M (Kd.int .i64) _ _ _ (-2147483648) [iV (-2147483648)] from rfl) (aat.one (show Kd.M (Kd.int .i64) _ _ _ 2147483647 [iV 2147483647] from rfl) (aat.one (show Kd.M (Kd.int .i64) _ _ _ (-1) [iV (-1)] from rfl) (aat.one (show Kd.M (Kd.int .i64) _ _ _ 0 [iV 0] from rfl) (aat.one (show Kd.M (Kd.int .i64) _ _ _ 1 [iV 1] from rfl) (aat.one (show Kd.M (Kd.int .i64) _ _ _ (-2147483647) [iV (-2147483647)] from rfl) (aat.one (show Kd.M (Kd.int .i64) _ _ _ 65536 [iV 65536] from rfl) (aat.one (show Kd.M (Kd.int .i64) _ _ _ (-65536) [iV (-65536)] from rfl) (aa9 _ _))))))))) ?_;intro v109 bu au hb;replace au:=kr ai au;have aj:=aM (Kd.R_lower au kU);replace HI0:=aM (Sad.below (qI HI0) hb);replace HK:=kY hb;replace HB:=kH hb;clear hb au)|((with_reducible refine jc 52 9 ?_);refine jK func52 (aab k g af t107 8 ax aT w0 _ (qI HI0) qB A4.out) ?_;rintro bv ⟨hi,hb,hk⟩;replace aj:=aM (Kd.R_mono (Kd.R_keep (Sad.apart (show Sad w0 _ g af t107 from qI HI0) (qR aj) (by decide)) hk (fun _ h=>h.2)) (fun _ h=>h.1));replace HK:=kI hk;replace HB:=aM hb;replace HI0:=aM hi;clear hb hk hi;obtain⟨bz,bA,aU⟩:=Kd.R_slice aj.out;subst aU;have aG:0<=(ax:Int):=qD;have aH:ax < (av.length:Int):=qD;obtain⟨bn,aV,aR⟩:=Kd.at_int (Kd.R_reads' aj.out).2.2 ax aG aH;cases aV;replace aG:=eq_true aG;replace aH:=eq_true aH)|((with_reducible refine jc 52 15 ?_);refine jK func52 (aab k g af t107 256 aI aL w0 _ (qI HI0) qB bB.out) ?_;rintro bC ⟨hi,hb,hk⟩;replace HK:=kI hk;replace HB:=aM hb;replace HI0:=aM hi;clear hb hk hi)|((with_reducible refine jc 52 18 ?_);refine jK func52 (aab k g af aL 256 t116 t117 w0 _ (qI HI0) qB bD.out) ?_;rintro bE ⟨hi,hb,hk⟩;replace HK:=kI hk;replace HB:=aM hb;replace HI0:=aM hi;clear hb hk hi)|((with_reducible refine jc 52 22 ?_);refine jK func52 (aab k g af t117 256 aJ t119 w0 _ (qI HI0) qB bF.out) ?_;rintro bG ⟨hi,hb,hk⟩;replace HK:=kI hk;replace HB:=aM hb;replace HI0:=aM hi;clear hb hk hi)|((with_reducible refine jc 52 25 ?_);refine jK func52 (aab k g af t119 200 aK aW w0 _ (qI HI0) qB bH.out) ?_;rintro bI ⟨hi,hb,hk⟩;replace HK:=kI hk;replace HB:=aM hb;replace HI0:=aM hi;clear hb hk hi)|((with_reducible refine jc 87 28 ?_);refine jK func87 (SaC.calls (wrap64 ((wrap64 ((wrap64 ((wrap64 (aI*65536))+(wrap64 (t116*256))))+aJ))*(wrap64 (1+aK)))) aF _ bJ.out) ?_;rintro w' ⟨nd,rfl⟩)|((with_reducible refine jc 52 32 ?_);refine jK func52 (aab k g af t107 200 aX t124 w0 _ (qI HI0) qB bK.out) ?_;rintro bL ⟨hi,hb,hk⟩;replace HK:=kI hk;replace HB:=aM hb;replace HI0:=aM hi;clear hb hk hi)|((with_reducible refine jc 52 35 ?_);refine jK func52 (aab k g af t107 20 aY aZ w0 _ (qI HI0) qB bM.out) ?_;rintro bN ⟨hi,hb,hk⟩;replace HK:=kI hk;replace HB:=aM hb;replace HI0:=aM hi;clear hb hk hi))
  go_ret
  exact⟨qW,qI HI0,qB,qH⟩):G:=h
theorem alx (k g:Nat) (af:List Int) (ak r1 r2:Int) (w0 w:World) (hI:Sad w0 w g af ak) (hB:Below w0.heap.size w0 w) (h:alv k af ak=some (r1,r2)) :
  Calls prog 78 #[.pointer (some ⟨g,0,none⟩)] w fun e w'=>e = .returned (iV r1)/\Sad w0 w' g af r2/\Below w0.heap.size w0 w'/\aa6 w w' g none:=by
 have HI0:=aM hI
 have HK:=aM (aaG w g none)
 have HL:=aM hB.size
 clear hI
 have HW0:=aM hB.size
 have HB:=aM hB
 clear hB
 have H:=h;unfold alv at H
 clear h
 obtain⟨⟨aS,t107⟩,A2,H⟩:=qE H
 try dsimp only at H
 replace H:=jE H;rcases H with ⟨bg,bi,H⟩ | ⟨c3,bg,bi,H⟩
 ·obtain⟨av,ai⟩:=ky ((([(-2147483648),2147483647,(-1),0,1,(-2147483647),65536,(-65536)]:List Int)):List Int)
  replace H:=kv ai H
  obtain⟨⟨ax,aT⟩,A4,H⟩:=qE H
  try dsimp only at H
  replace H:=jI H;obtain⟨bO,H⟩:=H
  replace H:=jI H;obtain⟨bP,H⟩:=H
  obtain⟨rfl,rfl⟩:=oJ2 H
  exact anh
 replace H:=jE H;rcases H with ⟨aN,aO,H⟩ | ⟨c12,aN,aO,H⟩
 ·obtain⟨⟨aI,aL⟩,bB,H⟩:=qE H
  try dsimp only at H
  obtain⟨⟨t116,t117⟩,bD,H⟩:=qE H
  try dsimp only at H
  obtain⟨⟨aJ,t119⟩,bF,H⟩:=qE H
  try dsimp only at H
  obtain⟨⟨aK,aW⟩,bH,H⟩:=qE H
  try dsimp only at H
  obtain⟨aF,bJ,H⟩:=qE H
  try dsimp only at H
  obtain⟨rfl,rfl⟩:=oJ2 H
  exact anh
 replace H:=jE H;rcases H with ⟨aP,aQ,H⟩ | ⟨c23,aP,aQ,H⟩
 ·obtain⟨⟨aX,t124⟩,bK,H⟩:=qE H
  try dsimp only at H
  obtain⟨rfl,rfl⟩:=oJ2 H
  exact anh
 obtain⟨⟨aY,aZ⟩,bM,H⟩:=qE H
 try dsimp only at H
 obtain⟨rfl,rfl⟩:=oJ2 H
 exact anh
def ak9 (k:Nat) (aa:List Int) (ae:Int):Option (Int × Int):=(aaW k aa ae 12).bind fun af=>(some (wrap64 (1+af.1),af.2))
theorem ai4 (k g:Nat) (aa:List Int) (ae r1 r2:Int) (w0 w:World) (hI:Sad w0 w g aa ae) (hB:Below w0.heap.size w0 w) (h:ak9 k aa ae=some (r1,r2)) :
  Calls prog 79 #[.pointer (some ⟨g,0,none⟩)] w fun e w'=>e = .returned (iV r1)/\Sad w0 w' g aa r2/\Below w0.heap.size w0 w'/\aa6 w w' g none:=by
 have HI0:=aM hI
 have HK:=aM (aaG w g none)
 have HL:=aM hB.size
 clear hI
 have HW0:=aM hB.size
 have HB:=aM hB
 clear hB
 have H:=h;unfold ak9 at H
 clear h
 obtain⟨⟨t127,ai⟩,A2,H⟩:=qE H
 try dsimp only at H
 obtain⟨rfl,rfl⟩:=oJ2 H
 go_enter func79,ntmps79
 go_wp2_with (first|((with_reducible refine jc 52 4 ?_);refine jK func52 (aab k g aa ae 12 t127 ai w0 _ (qI HI0) qB A2.out) ?_;rintro w3 ⟨hi,hb,hk⟩;replace HK:=kI hk;replace HB:=aM hb;replace HI0:=aM hi;clear hb hk hi))
 go_ret
 exact⟨qW,qI HI0,qB,qH⟩
mutual
def ag8:Nat->Int->Int->Bool->List Int->Int->Option (Int × Int × Int × Int × Int × Int)
 | 0,_,_,_,_,_=>none
 | k+1,x1,ax,eB,x1000,ak=>if eB=true then ((aeq k x1000 ak).bind fun aO=>((alv k x1000 aO.2).bind fun aP=>((some (([0,1,2,aP.1]:List Int):List Int)).bind fun aI=>((aaW k x1000 aP.2 4).bind fun aD=>(if 0<=aD.1 then (if aD.1 < (aI.length:Int) then (some (1,aO.1,0,0,rd aI aD.1,aD.2)) else (none)) else (none)))))) else (if ax=2 then (ag7 k x1 ax (ax == 2) x1000 ak) else (ag7 k x1 ax (ax == 3) x1000 ak))
def ag7:Nat->Int->Int->Bool->List Int->Int->Option (Int × Int × Int × Int × Int × Int)
 | 0,_,_,_,_,_=>none
 | k+1,x1,ax,x27,x1000,ak=>if x27=true then ((aeq k x1000 ak).bind fun aQ=>((aeq k x1000 aQ.2).bind fun aR=>(some (2,aQ.1,aR.1,0,0,aR.2)))) else (if ax=4 then (af5 k x1 ax (ax == 4) x1000 ak) else (if ax=5 then (af5 k x1 ax (ax == 5) x1000 ak) else (af5 k x1 ax (ax == 6) x1000 ak)))
def af5:Nat->Int->Int->Bool->List Int->Int->Option (Int × Int × Int × Int × Int × Int)
 | 0,_,_,_,_,_=>none
 | k+1,x1,ax,eD,x1000,ak=>if eD=true then ((aeq k x1000 ak).bind fun aS=>((aeq k x1000 aS.2).bind fun aT=>((aeq k x1000 aT.2).bind fun aU=>((ak9 k x1000 aU.2).bind fun aV=>(some (3,aS.1,aT.1,aU.1,aV.1,aV.2)))))) else (if ax=7 then ((aaW k x1000 ak x1).bind fun aW=>(some (4,0,0,0,aW.1,aW.2))) else (if ax=8 then ((aeq k x1000 ak).bind fun aX=>((aaW k x1000 aX.2 x1).bind fun aY=>(some (5,0,aX.1,0,aY.1,aY.2)))) else (if ax=9 then ((aeq k x1000 ak).bind fun aZ=>((aaW k x1000 aZ.2 2).bind fun bg=>(some (6,0,aZ.1,0,bg.1,bg.2)))) else (if ax=10 then ((aeq k x1000 ak).bind fun bi=>((aaW k x1000 bi.2 2).bind fun bn=>(some (7,bi.1,0,0,bn.1,bn.2)))) else ((aaW k x1000 ak 4).bind fun aJ=>(if aJ.1=0 then (some (8,0,0,0,0,aJ.2)) else ((aeq k x1000 aJ.2).bind fun bq=>(some (9,0,bq.1,0,0,bq.2)))))))))
end
def alO (k:Nat) (ai:List Int) (aA a1:Int):Option (Int × Int × Int × Int × Int × Int):=(aaW k ai aA 12).bind fun av=>(if av.1=0 then (ag8 k a1 av.1 (av.1 == 0) ai av.2) else (ag8 k a1 av.1 (av.1 == 1) ai av.2))
theorem alP (k g:Nat) (ai:List Int) (aA a1 r1 r2 r3 r4 r5 r6:Int) (w0 w:World) (hI:Sad w0 w g ai aA) (hB:Below w0.heap.size w0 w) (h:alO k ai aA a1=some (r1,r2,r3,r4,r5,r6)) :
  Calls prog 70 #[.pointer (some ⟨g,0,none⟩),iV a1] w fun e w'=>e = .returned (.agg #[iV r1,iV r2,iV r3,iV r4,iV r5])/\Sad w0 w' g ai r6/\Below w0.heap.size w0 w'/\aa6 w w' g none:=by
 have eG:=underlying27
 have HI0:=aM hI
 have HK:=aM (aaG w g none)
 have HL:=aM hB.size
 clear hI
 have HW0:=aM hB.size
 have HB:=aM hB
 clear hB
 have H:=h;unfold alO at H
 clear h
 obtain⟨⟨t130,t131⟩,A3,H⟩:=qE H
 try dsimp only at H
 have dw:=aM H
 clear H
 go_enter func70,ntmps70
 go_upto_if 14 with (first|((with_reducible refine jd 4 ?_);refine jY _ 27 ?_;intro ah hg w5 aa hb;have dF:=aM ((by rw [hg];exact kU:w.heap.size<=ah));have dG:=aM ((Nat.le_trans HW0.out (by rw [hg];exact kU:w.heap.size<=ah):w0.heap.size<=ah));have aj:=aM ((by rw [hg];exact Nat.ne_of_lt (abt (show Sad w0 _ g ai aA from qI HI0)):g≠ah));have ae:=aM ((by rw [hg];exact Nat.ne_of_gt (abt (show Sad w0 _ g ai aA from qI HI0)):ah≠g));replace HI0:=aM (Sad.below (qI HI0) hb);replace HK:=kY hb;replace HB:=kH hb;clear hb hg)|((with_reducible refine jc 52 13 ?_);refine jK func52 (aab k g ai aA 12 t130 t131 w0 _ (qI HI0) qB A3.out) ?_;rintro w6 ⟨hi,hb,hk⟩;replace aa:=kw hk aa ae;replace HK:=kI hk;replace HB:=aM hb;replace HI0:=aM hi;clear hb hk hi))
 (try simp only [Act.put,List.setIfInBounds_toArray,List.set_cons_zero,List.set_cons_succ])
 go_cut [14] (fun v14 wc=>∃ (kq:Nat) (aK:Bool),v14 = .bool aK/\aa1 (ag8 kq a1 t130 aK ai t131=some (r1,r2,r3,r4,r5,r6))/\aa1 (kq<=k)/\aa1 (wc.heap[ah]?=some (.cells #[iV 0,iV 0,iV 0,iV 0,iV 0] 27 (0,0)))/\aa1 (Sad w0 wc g ai t131)/\aa1 (aa6 w wc g none)/\aa1 (Below w0.heap.size w0 wc))
 case first =>
  have H:=dw.out
  clear dw
  replace H:=jE H;rcases H with ⟨aL,dx,H⟩ | ⟨c7,aL,dx,H⟩
  ·(first|rw [aL]|(simp only [aau,aaD];rw [aL])|skip)
   have H':=aM H
   clear H
   go_wp2
   go_meet
   exact⟨_,((t130 == 0)),qZ,H',⟨by first|omega|exact Nat.le_refl _⟩,⟨qK aa⟩,⟨qI HI0⟩,⟨qH⟩,⟨qB⟩⟩
  (first|rw [aL]|(simp only [aau,aaD];rw [aL])|skip)
  have H':=aM H
  clear H
  go_wp2
  go_meet
  exact⟨_,((t130 == 1)),qZ,H',⟨by first|omega|exact Nat.le_refl _⟩,⟨qK aa⟩,⟨qI HI0⟩,⟨qH⟩,⟨qB⟩⟩
 clear dw
 obtain⟨kq,aK,rfl,HA,bF,aa,HI0,HK,HB⟩:=hcut
 cases kq with
 | zero=>exact absurd HA.out (by simp [ag8])
 | succ di =>
  have H:=HA.out
  clear HA
  simp only [ag8] at H
  replace H:=jB H;rcases H with ⟨rfl,H⟩ | ⟨rfl,H⟩
  ·obtain⟨⟨bG,bH⟩,A9,H⟩:=qE H
   try dsimp only at H
   obtain⟨⟨aH,bu⟩,eH,H⟩:=qE H
   try dsimp only at H
   obtain⟨aI,aF⟩:=ky ((([0,1,2,aH]:List Int)):List Int)
   replace H:=kv aF H
   obtain⟨⟨t139,dz⟩,eO,H⟩:=qE H
   try dsimp only at H
   replace H:=jI H;obtain⟨dH,H⟩:=H
   replace H:=jI H;obtain⟨dI,H⟩:=H
   obtain⟨rfl,rfl,rfl,rfl,rfl,rfl⟩:=oJ6 H
   go_wp2_with (first|((with_reducible refine jc 77 18 ?_);refine jK func77 (abA di g ai t131 bG bH w0 _ (qI HI0) qB A9.out) ?_;rintro fT ⟨hi,hb,hk⟩;replace aa:=kw hk aa ae;replace HK:=kI hk;replace HB:=aM hb;replace HI0:=aM hi;clear hb hk hi)|((with_reducible refine jc 78 20 ?_);refine jK func78 (alx di g ai bH aH bu w0 _ (qI HI0) qB eH.out) ?_;rintro fU ⟨hi,hb,hk⟩;replace aa:=kw hk aa ae;replace HK:=kI hk;replace HB:=aM hb;replace HI0:=aM hi;clear hb hk hi)|((with_reducible refine jd 21 ?_);refine jV (Kd.int .i64) 3 ([0,1,2,aH]:List Int) [iV 0,iV 1,iV 2,iV aH] (aat.one (show Kd.M (Kd.int .i64) _ _ _ 0 [iV 0] from rfl) (aat.one (show Kd.M (Kd.int .i64) _ _ _ 1 [iV 1] from rfl) (aat.one (show Kd.M (Kd.int .i64) _ _ _ 2 [iV 2] from rfl) (aat.one (show Kd.M (Kd.int .i64) _ _ _ aH [iV aH] from rfl) (aa9 _ _))))) ?_;intro eP w16 aN hb;replace aN:=kr aF aN;have aG:=aM (Kd.R_lower aN kU);replace aa:=kB aa hb;replace HI0:=aM (Sad.below (qI HI0) hb);replace HK:=kY hb;replace HB:=kH hb;clear hb aN)|((with_reducible refine jc 52 23 ?_);refine jK func52 (aab di g ai bu 4 t139 dz w0 _ (qI HI0) qB eO.out) ?_;rintro fV ⟨hi,hb,hk⟩;replace aa:=kw hk aa ae;replace aG:=aM (Kd.R_mono (Kd.R_keep (Sad.apart (show Sad w0 _ g ai bu from qI HI0) (qR aG) (by decide)) hk (fun _ h=>h.2)) (fun _ h=>h.1));replace HK:=kI hk;replace HB:=aM hb;replace HI0:=aM hi;clear hb hk hi;obtain⟨eQ,eT,dA⟩:=Kd.R_slice aG.out;subst dA;have bv:0<=(t139:Int):=qD;have bz:t139 < (aI.length:Int):=qD;obtain⟨dJ,dB,dn⟩:=Kd.at_int (Kd.R_reads' aG.out).2.2 t139 bv bz;cases dB;replace bv:=eq_true bv;replace bz:=eq_true bz;have dK:=ae.out;have dL:=aj.out;have eU:=jz5 aa))
   refine bodyPost_ret (results_cell_row rfl _ _ ah 27 #[iV 1,iV bG,iV 0,iV 0,iV (rd aI t139)] (0,0) _ rfl (qF aa) underlying27 rfl (by kernel_rfl)) rfl ?_
   exact⟨qW,qI HI0,qB,qH⟩
  have bA:=aM H
  clear H
  go_upto_if 27 with (fail)
  go_cut [27] (fun v27 wc=>∃ (kq:Nat) (aB:Bool),v27 = .bool aB/\aa1 (ag7 kq a1 t130 aB ai t131=some (r1,r2,r3,r4,r5,r6))/\aa1 (kq<=di)/\aa1 (wc.heap[ah]?=some (.cells #[iV 0,iV 0,iV 0,iV 0,iV 0] 27 (0,0)))/\aa1 (Sad w0 wc g ai t131)/\aa1 (aa6 w wc g none)/\aa1 (Below w0.heap.size w0 wc))
  case first =>
   have H:=bA.out
   clear bA
   replace H:=jE H;rcases H with ⟨ay,bI,H⟩ | ⟨c23,ay,bI,H⟩
   ·(first|rw [ay]|(simp only [aau,aaD];rw [ay])|skip)
    have H':=aM H
    clear H
    go_wp2
    go_meet
    exact⟨_,((t130 == 2)),qZ,H',⟨by have:=bF.out;first|omega|exact Nat.le_refl _⟩,⟨qK aa⟩,⟨qI HI0⟩,⟨qH⟩,⟨qB⟩⟩
   (first|rw [ay]|(simp only [aau,aaD];rw [ay])|skip)
   have H':=aM H
   clear H
   go_wp2
   go_meet
   exact⟨_,((t130 == 3)),qZ,H',⟨by have:=bF.out;first|omega|exact Nat.le_refl _⟩,⟨qK aa⟩,⟨qI HI0⟩,⟨qH⟩,⟨qB⟩⟩
  clear bA
  obtain⟨kq,aB,rfl,HA,bB,aa,HI0,HK,HB⟩:=hcut
  cases kq with
  | zero=>exact absurd HA.out (by simp [ag7])
  | succ bC =>
   have H:=HA.out
   clear HA
   simp only [ag7] at H
   replace H:=jB H;rcases H with ⟨rfl,H⟩ | ⟨rfl,H⟩
   ·obtain⟨⟨bJ,t143⟩,eX,H⟩:=qE H
    try dsimp only at H
    obtain⟨⟨bK,t145⟩,eY,H⟩:=qE H
    try dsimp only at H
    obtain⟨rfl,rfl,rfl,rfl,rfl,rfl⟩:=oJ6 H
    go_wp2_with (first|((with_reducible refine jc 77 31 ?_);refine jK func77 (abA bC g ai t131 bJ t143 w0 _ (qI HI0) qB eX.out) ?_;rintro fZ ⟨hi,hb,hk⟩;replace aa:=kw hk aa ae;replace HK:=kI hk;replace HB:=aM hb;replace HI0:=aM hi;clear hb hk hi)|((with_reducible refine jc 77 34 ?_);refine jK func77 (abA bC g ai t143 bK t145 w0 _ (qI HI0) qB eY.out) ?_;rintro gm ⟨hi,hb,hk⟩;replace aa:=kw hk aa ae;replace HK:=kI hk;replace HB:=aM hb;replace HI0:=aM hi;clear hb hk hi;have dM:=ae.out;have dN:=aj.out;have eZ:=jz5 aa))
    refine bodyPost_ret (results_cell_row rfl _ _ ah 27 #[iV 2,iV bJ,iV bK,iV 0,iV 0] (0,0) _ rfl (qF aa) underlying27 rfl (by kernel_rfl)) rfl ?_
    exact⟨qW,qI HI0,qB,qH⟩
   have bD:=aM H
   clear H
   go_upto_if 36 with (fail)
   go_cut [36] (fun v36 wc=>∃ (kq:Nat) (aC:Bool),v36 = .bool aC/\aa1 (af5 kq a1 t130 aC ai t131=some (r1,r2,r3,r4,r5,r6))/\aa1 (kq<=bC)/\aa1 (wc.heap[ah]?=some (.cells #[iV 0,iV 0,iV 0,iV 0,iV 0] 27 (0,0)))/\aa1 (Sad w0 wc g ai t131)/\aa1 (aa6 w wc g none)/\aa1 (Below w0.heap.size w0 wc))
   case first =>
    have H:=bD.out
    clear bD
    replace H:=jE H;rcases H with ⟨az,bL,H⟩ | ⟨c32,az,bL,H⟩
    ·(first|rw [az]|(simp only [aau,aaD];rw [az])|skip)
     have H':=aM H
     clear H
     go_wp2
     go_meet
     exact⟨_,((t130 == 4)),qZ,H',⟨by have:=bF.out;have:=bB.out;first|omega|exact Nat.le_refl _⟩,⟨qK aa⟩,⟨qI HI0⟩,⟨qH⟩,⟨qB⟩⟩
    (first|rw [az]|(simp only [aau,aaD];rw [az])|skip)
    replace H:=jE H;rcases H with ⟨bM,bN,H⟩ | ⟨gp,bM,bN,H⟩
    ·have H':=aM H
     clear H
     go_wp2
     go_meet
     exact⟨_,((t130 == 5)),qZ,H',⟨by have:=bF.out;have:=bB.out;first|omega|exact Nat.le_refl _⟩,⟨qK aa⟩,⟨qI HI0⟩,⟨qH⟩,⟨qB⟩⟩
    have H':=aM H
    clear H
    go_wp2
    go_meet
    exact⟨_,((t130 == 6)),qZ,H',⟨by have:=bF.out;have:=bB.out;first|omega|exact Nat.le_refl _⟩,⟨qK aa⟩,⟨qI HI0⟩,⟨qH⟩,⟨qB⟩⟩
   clear bD
   obtain⟨kq,aC,rfl,HA,fe,aa,HI0,HK,HB⟩:=hcut
   cases kq with
   | zero=>exact absurd HA.out (by simp [af5])
   | succ au =>
    have H:=HA.out
    clear HA
    simp only [af5] at H
    replace H:=jB H;rcases H with ⟨rfl,H⟩ | ⟨rfl,H⟩
    ·obtain⟨⟨t146,bO⟩,fo,H⟩:=qE H
     try dsimp only at H
     obtain⟨⟨t148,bP⟩,fq,H⟩:=qE H
     try dsimp only at H
     obtain⟨⟨bQ,bR⟩,fu,H⟩:=qE H
     try dsimp only at H
     obtain⟨⟨t152,dC⟩,fw,H⟩:=qE H
     try dsimp only at H
     obtain⟨rfl,rfl,rfl,rfl,rfl,rfl⟩:=oJ6 H
     go_wp2_with (first|((with_reducible refine jc 77 41 ?_);refine jK func77 (abA au g ai t131 t146 bO w0 _ (qI HI0) qB fo.out) ?_;rintro gq ⟨hi,hb,hk⟩;replace aa:=kw hk aa ae;replace HK:=kI hk;replace HB:=aM hb;replace HI0:=aM hi;clear hb hk hi)|((with_reducible refine jc 77 43 ?_);refine jK func77 (abA au g ai bO t148 bP w0 _ (qI HI0) qB fq.out) ?_;rintro gu ⟨hi,hb,hk⟩;replace aa:=kw hk aa ae;replace HK:=kI hk;replace HB:=aM hb;replace HI0:=aM hi;clear hb hk hi)|((with_reducible refine jc 77 45 ?_);refine jK func77 (abA au g ai bP bQ bR w0 _ (qI HI0) qB fu.out) ?_;rintro gy ⟨hi,hb,hk⟩;replace aa:=kw hk aa ae;replace HK:=kI hk;replace HB:=aM hb;replace HI0:=aM hi;clear hb hk hi)|((with_reducible refine jc 79 50 ?_);refine jK func79 (ai4 au g ai bR t152 dC w0 _ (qI HI0) qB fw.out) ?_;rintro gz ⟨hi,hb,hk⟩;replace aa:=kw hk aa ae;replace HK:=kI hk;replace HB:=aM hb;replace HI0:=aM hi;clear hb hk hi;have dO:=ae.out;have dP:=aj.out;have fA:=jz5 aa))
     refine bodyPost_ret (results_cell_row rfl _ _ ah 27 #[iV 3,iV t146,iV t148,iV bQ,iV t152] (0,0) _ rfl (qF aa) underlying27 rfl (by kernel_rfl)) rfl ?_
     exact⟨qW,qI HI0,qB,qH⟩
    replace H:=jE H;rcases H with ⟨bS,bT,H⟩ | ⟨gB,bS,bT,H⟩
    ·obtain⟨⟨t154,dD⟩,fB,H⟩:=qE H
     try dsimp only at H
     obtain⟨rfl,rfl,rfl,rfl,rfl,rfl⟩:=oJ6 H
     go_wp2_with (first|((with_reducible refine jc 52 56 ?_);refine jK func52 (aab au g ai t131 a1 t154 dD w0 _ (qI HI0) qB fB.out) ?_;rintro gD ⟨hi,hb,hk⟩;replace aa:=kw hk aa ae;replace HK:=kI hk;replace HB:=aM hb;replace HI0:=aM hi;clear hb hk hi;have dQ:=ae.out;have dR:=aj.out;have fC:=jz5 aa))
     refine bodyPost_ret (results_cell_row rfl _ _ ah 27 #[iV 4,iV 0,iV 0,iV 0,iV t154] (0,0) _ rfl (qF aa) underlying27 rfl (by kernel_rfl)) rfl ?_
     exact⟨qW,qI HI0,qB,qH⟩
    replace H:=jE H;rcases H with ⟨bU,bV,H⟩ | ⟨gF,bU,bV,H⟩
    ·obtain⟨⟨t156,t157⟩,fD,H⟩:=qE H
     try dsimp only at H
     obtain⟨⟨bW,t159⟩,fE,H⟩:=qE H
     try dsimp only at H
     obtain⟨rfl,rfl,rfl,rfl,rfl,rfl⟩:=oJ6 H
     go_wp2_with (first|((with_reducible refine jc 77 61 ?_);refine jK func77 (abA au g ai t131 t156 t157 w0 _ (qI HI0) qB fD.out) ?_;rintro gG ⟨hi,hb,hk⟩;replace aa:=kw hk aa ae;replace HK:=kI hk;replace HB:=aM hb;replace HI0:=aM hi;clear hb hk hi)|((with_reducible refine jc 52 65 ?_);refine jK func52 (aab au g ai t157 a1 bW t159 w0 _ (qI HI0) qB fE.out) ?_;rintro gH ⟨hi,hb,hk⟩;replace aa:=kw hk aa ae;replace HK:=kI hk;replace HB:=aM hb;replace HI0:=aM hi;clear hb hk hi;have dS:=ae.out;have dU:=aj.out;have fF:=jz5 aa))
     refine bodyPost_ret (results_cell_row rfl _ _ ah 27 #[iV 5,iV 0,iV t156,iV 0,iV bW] (0,0) _ rfl (qF aa) underlying27 rfl (by kernel_rfl)) rfl ?_
     exact⟨qW,qI HI0,qB,qH⟩
    replace H:=jE H;rcases H with ⟨bX,bY,H⟩ | ⟨gI,bX,bY,H⟩
    ·obtain⟨⟨t160,bZ⟩,fG,H⟩:=qE H
     try dsimp only at H
     obtain⟨⟨t162,dE⟩,fH,H⟩:=qE H
     try dsimp only at H
     obtain⟨rfl,rfl,rfl,rfl,rfl,rfl⟩:=oJ6 H
     go_wp2_with (first|((with_reducible refine jc 77 70 ?_);refine jK func77 (abA au g ai t131 t160 bZ w0 _ (qI HI0) qB fG.out) ?_;rintro gJ ⟨hi,hb,hk⟩;replace aa:=kw hk aa ae;replace HK:=kI hk;replace HB:=aM hb;replace HI0:=aM hi;clear hb hk hi)|((with_reducible refine jc 52 73 ?_);refine jK func52 (aab au g ai bZ 2 t162 dE w0 _ (qI HI0) qB fH.out) ?_;rintro gK ⟨hi,hb,hk⟩;replace aa:=kw hk aa ae;replace HK:=kI hk;replace HB:=aM hb;replace HI0:=aM hi;clear hb hk hi;have dV:=ae.out;have dW:=aj.out;have fI:=jz5 aa))
     refine bodyPost_ret (results_cell_row rfl _ _ ah 27 #[iV 6,iV 0,iV t160,iV 0,iV t162] (0,0) _ rfl (qF aa) underlying27 rfl (by kernel_rfl)) rfl ?_
     exact⟨qW,qI HI0,qB,qH⟩
    replace H:=jE H;rcases H with ⟨cu,cz,H⟩ | ⟨c64,cu,cz,H⟩
    ·obtain⟨⟨t164,cB⟩,fJ,H⟩:=qE H
     try dsimp only at H
     obtain⟨⟨cK,t167⟩,fK,H⟩:=qE H
     try dsimp only at H
     obtain⟨rfl,rfl,rfl,rfl,rfl,rfl⟩:=oJ6 H
     go_wp2_with (first|((with_reducible refine jc 77 78 ?_);refine jK func77 (abA au g ai t131 t164 cB w0 _ (qI HI0) qB fJ.out) ?_;rintro gL ⟨hi,hb,hk⟩;replace aa:=kw hk aa ae;replace HK:=kI hk;replace HB:=aM hb;replace HI0:=aM hi;clear hb hk hi)|((with_reducible refine jc 52 81 ?_);refine jK func52 (aab au g ai cB 2 cK t167 w0 _ (qI HI0) qB fK.out) ?_;rintro gM ⟨hi,hb,hk⟩;replace aa:=kw hk aa ae;replace HK:=kI hk;replace HB:=aM hb;replace HI0:=aM hi;clear hb hk hi;have dX:=ae.out;have dY:=aj.out;have fM:=jz5 aa))
     refine bodyPost_ret (results_cell_row rfl _ _ ah 27 #[iV 7,iV t164,iV 0,iV 0,iV cK] (0,0) _ rfl (qF aa) underlying27 rfl (by kernel_rfl)) rfl ?_
     exact⟨qW,qI HI0,qB,qH⟩
    obtain⟨⟨t168,bE⟩,dZ,H⟩:=qE H
    try dsimp only at H
    replace H:=jE H;rcases H with ⟨cO,df,H⟩ | ⟨c72,cO,df,H⟩
    ·obtain⟨rfl,rfl,rfl,rfl,rfl,rfl⟩:=oJ6 H
     go_wp2_with (first|((with_reducible refine jc 52 84 ?_);refine jK func52 (aab au g ai t131 4 t168 bE w0 _ (qI HI0) qB dZ.out) ?_;rintro gN ⟨hi,hb,hk⟩;replace aa:=kw hk aa ae;replace HK:=kI hk;replace HB:=aM hb;replace HI0:=aM hi;clear hb hk hi;have d9:=ae.out;have ed:=aj.out;have fO:=jz5 aa))
     refine bodyPost_ret (results_cell_row rfl _ _ ah 27 #[iV 8,iV 0,iV 0,iV 0,iV 0] (0,0) _ rfl (qF aa) underlying27 rfl (by kernel_rfl)) rfl ?_
     exact⟨qW,qI HI0,qB,qH⟩
    obtain⟨⟨dh,t171⟩,fP,H⟩:=qE H
    try dsimp only at H
    obtain⟨rfl,rfl,rfl,rfl,rfl,rfl⟩:=oJ6 H
    go_wp2_with (first|((with_reducible refine jc 52 84 ?_);refine jK func52 (aab au g ai t131 4 t168 bE w0 _ (qI HI0) qB dZ.out) ?_;rintro gP ⟨hi,hb,hk⟩;replace aa:=kw hk aa ae;replace HK:=kI hk;replace HB:=aM hb;replace HI0:=aM hi;clear hb hk hi)|((with_reducible refine jc 77 88 ?_);refine jK func77 (abA au g ai bE dh t171 w0 _ (qI HI0) qB fP.out) ?_;rintro gQ ⟨hi,hb,hk⟩;replace aa:=kw hk aa ae;replace HK:=kI hk;replace HB:=aM hb;replace HI0:=aM hi;clear hb hk hi;have ek:=ae.out;have eu:=aj.out;have fQ:=jz5 aa))
    refine bodyPost_ret (results_cell_row rfl _ _ ah 27 #[iV 9,iV 0,iV dh,iV 0,iV 0] (0,0) _ rfl (qF aa) underlying27 rfl (by kernel_rfl)) rfl ?_
    exact⟨qW,qI HI0,qB,qH⟩
end Go.Proofs.YtebpplallecogaaGreat.M
namespace Go.Proofs.YtebpplallecogaaGreat.M
open Go.Proofs.Tryz Go.RowKit Go.Proofs.YtebpplallecogaaGreatW.PrintWords Go.Proofs.YtebpplallecogaaGreatW.PrintLast Go.Proofs.YtebpplallecogaaGreatW.PrintMore Kd
attribute [local go_sem] aan aal aay aax aaf aae aam aak
def af4:Nat->Int->List S27->Int->List Int->Int->Option ((List S27) × Int)
 | 0,_,_,_,_,_=>none
 | k+1,x3,x4,x5,x1000,aK=>if (wrap64 (x5+1)) < x3 then ((alO k x1000 aK x3).bind fun ai=>(if x4.length < 3518437208883 then (af4 k x3 (x4 ++ [(⟨ai.1,ai.2.1,ai.2.2.1,ai.2.2.2.1,ai.2.2.2.2.1⟩:S27)]) (wrap64 (x5+1)) x1000 ai.2.2.2.2.2) else (none))) else ((aaW k x1000 aK 3).bind fun av=>(if av.1=0 then ((aaW k x1000 av.2 x3).bind fun aN=>(if x4.length < 3518437208883 then (some ((x4 ++ [(⟨4,0,0,0,aN.1⟩:S27)]),aN.2)) else (none))) else (if x4.length < 3518437208883 then (some ((x4 ++ [(⟨10,0,0,0,0⟩:S27)]),av.2)) else (none))))
def akb (k:Nat) (af:List Int) (ax:Int):Option ((List S27) × Int):=(aaW k af ax 14).bind fun aQ=>(af4 k (wrap64 (1+aQ.1)) (([]:List S27)) 0 af aQ.2)
theorem ai9 (k g:Nat) (af:List Int) (ax:Int) (r1:List S27) (r2:Int) (w0 w:World) (hI:Sad w0 w g af ax) (hB:Below w0.heap.size w0 w) (h:akb k af ax=some (r1,r2)) :
  Calls prog 61 #[.pointer (some ⟨g,0,none⟩)] w fun e w'=>∃ bB:Value,e = .returned (bB)/\Kd.R k27 27 w' w.heap.size (fun _=>True) bB r1/\Sad w0 w' g af r2/\Below w0.heap.size w0 w'/\aa6 w w' g none:=by
 have bF:=underlying27
 have HI0:=aM hI
 have HK:=aM (aaG w g none)
 have HL:=aM hB.size
 clear hI
 have HW0:=aM hB.size
 have HB:=aM hB
 clear hB
 have H:=h;unfold akb at H
 clear h
 obtain⟨⟨au,t173⟩,A2,H⟩:=qE H
 try dsimp only at H
 obtain⟨bq,ak⟩:=ky ([]:List S27)
 replace H:=kv ak H
 have H':=aM H
 clear H
 go_enter func61,ntmps61
 go_wp2_with (first|((with_reducible refine jc 52 7 ?_);refine jK func52 (aab k g af ax 14 au t173 w0 _ (qI HI0) qB A2.out) ?_;rintro w3 ⟨hi,hb,hk⟩;replace HK:=kI hk;replace HB:=aM hb;replace HI0:=aM hi;clear hb hk hi)|((with_reducible refine jd 9 ?_);refine jV k27 27 ([]:List S27) [] (aa9 _ _) ?_;intro v175 w4 aT hb;replace aT:=kr ak aT;have aU:=aM (R_lower aT kU);replace HI0:=aM (Sad.below (qI HI0) hb);replace HK:=kY hb;replace HB:=kH hb;clear hb aT))
 go_loopg [4,5] k (fun kq v4 v5 w'=>∃ (aj:List S27) (aR:Int) (aa:Int),v5 = iV aR/\aa1 (af4 kq (wrap64 (1+au)) aj aR af aa=some (r1,r2))/\aa1 (kq<=k)/\aa1 (Kd.R k27 27 w' w.heap.size (fun _=>True) v4 aj)/\aa1 (Sad w0 w' g af aa)/\aa1 (aa6 w w' g none)/\aa1 (Below w0.heap.size w0 w'))
 case atStart=>exact⟨(bq),(0),(t173),qZ,H',⟨Nat.le_refl _⟩,⟨qR aU⟩,⟨qI HI0⟩,⟨qH⟩,⟨qB⟩⟩
 clear H'
 obtain⟨aj,aR,aa,rfl,HA,bC,ae,HI0,HK,HB⟩:=hrel
 rcases gk with _|k1
 ·exact absurd HA.out (by simp [af4])
 have H:=HA.out
 clear HA
 simp only [af4] at H
 replace H:=jD H;rcases H with ⟨bu,H⟩ | ⟨bu,H⟩
 ·obtain⟨⟨ay,az,aA,aB,aC,t182⟩,A7,H⟩:=qE H
  try dsimp only at H
  replace H:=jL H;obtain⟨bv,H⟩:=H
  obtain⟨bG,aD⟩:=ky ((aj ++ [(⟨ay,az,aA,aB,aC⟩:S27)]):List S27)
  replace H:=kv aD H
  have H':=aM H
  clear H
  go_wp2_with (first|((with_reducible refine jc 70 19 ?_);refine jK func70 (alP k1 g af aa (wrap64 (1+au)) ay az aA aB aC t182 w0 _ (qI HI0) qB A7.out) ?_;rintro bH ⟨hi,hb,hk⟩;replace ae:=aM (R_mono (R_keep (Sad.apart (show Sad w0 _ g af aa from qI HI0) (qR ae) (by decide)) hk (fun _ h=>h.2)) (fun _ h=>h.1));replace HK:=kI hk;replace HB:=aM hb;replace HI0:=aM hi;clear hb hk hi)|((with_reducible refine aaa (b:=.append) (xs:=#[.tmp 16,.tmp 20]) rfl ?_);at_builtin;refine R_append k27 w.heap.size rfl (.tmp 16) (.tmp 20) 23 27 (.agg #[(iV 0),(iV 0),(iV 0),(iV 0),(iV 0)]) 40 rfl underlying23 abb rfl (by decide) (by omega) u4 aj (⟨ay,az,aA,aB,aC⟩:S27) [iV ay,iV az,iV aA,iV aB,iV aC] (fun _=>True) (fun _=>False) rfl rfl ?aP (fun _ hk=>hk.elim) ?aF ?aO (Below.refl _ _) ?aS ?aL ?_;(case aP=>exact aaU _ _ _ (⟨ay,az,aA,aB,aC⟩:S27));(case aF=>exact (fun _ _=>trivial));(case aO=>exact (qR ae));(case aS=>exact kU);(case aL=>have:=bv.out;omega);intro bI bJ ho hb hg hat;rw [<- aD.out] at ho;have aV:=aM ho;replace HI0:=aM (Sad.grown (qI HI0) hg (aca HI0.out ae.out (by decide)));replace HB:=aM (abG qB HL.out hb);replace HK:=aM (aa6.trans qH (aaP hg g) (R_base2 ae.out));clear ae;clear ho hb hg hat))
  go_roundg k1
  case measure=>have:=bC.out;omega
  exact⟨_,_,_,qZ,H',⟨by have:=bC.out;omega⟩,⟨qR aV⟩,⟨qI HI0⟩,⟨qH⟩,⟨qB⟩⟩
 obtain⟨⟨aW,aJ⟩,bD,H⟩:=qE H
 try dsimp only at H
 replace H:=jE H;rcases H with ⟨aX,aY,H⟩ | ⟨c12,aX,aY,H⟩
 ·obtain⟨⟨aG,bz⟩,bK,H⟩:=qE H
  try dsimp only at H
  replace H:=jL H;obtain⟨aZ,H⟩:=H
  obtain⟨bL,aH⟩:=ky ((aj ++ [(⟨4,0,0,0,aG⟩:S27)]):List S27)
  replace H:=kv aH H
  obtain⟨rfl,rfl⟩:=oJ2 H
  go_wp2_with (first|((with_reducible refine jc 52 23 ?_);refine jK func52 (aab k1 g af aa 3 aW aJ w0 _ (qI HI0) qB bD.out) ?_;rintro bA ⟨hi,hb,hk⟩;replace ae:=aM (R_mono (R_keep (Sad.apart (show Sad w0 _ g af aa from qI HI0) (qR ae) (by decide)) hk (fun _ h=>h.2)) (fun _ h=>h.1));replace HK:=kI hk;replace HB:=aM hb;replace HI0:=aM hi;clear hb hk hi)|((with_reducible refine jc 52 28 ?_);refine jK func52 (aab k1 g af aJ (wrap64 (1+au)) aG bz w0 _ (qI HI0) qB bK.out) ?_;rintro bM ⟨hi,hb,hk⟩;replace ae:=aM (R_mono (R_keep (Sad.apart (show Sad w0 _ g af aJ from qI HI0) (qR ae) (by decide)) hk (fun _ h=>h.2)) (fun _ h=>h.1));replace HK:=kI hk;replace HB:=aM hb;replace HI0:=aM hi;clear hb hk hi)|((with_reducible refine aaa (b:=.append) (xs:=#[.tmp 25,.tmp 30]) rfl ?_);at_builtin;refine R_append k27 w.heap.size rfl (.tmp 25) (.tmp 30) 23 27 (.agg #[(iV 0),(iV 0),(iV 0),(iV 0),(iV 0)]) 40 rfl underlying23 abb rfl (by decide) (by omega) u4 aj (⟨4,0,0,0,aG⟩:S27) [iV 4,iV 0,iV 0,iV 0,iV aG] (fun _=>True) (fun _=>False) rfl rfl ?aP (fun _ hk=>hk.elim) ?aF ?aO (Below.refl _ _) ?aS ?aL ?_;(case aP=>exact aaU _ _ _ (⟨4,0,0,0,aG⟩:S27));(case aF=>exact (fun _ _=>trivial));(case aO=>exact (qR ae));(case aS=>exact kU);(case aL=>have:=aZ.out;omega);intro bN bO ho hb hg hat;rw [<- aH.out] at ho;have bg:=aM ho;replace HI0:=aM (Sad.grown (qI HI0) hg (aca HI0.out ae.out (by decide)));replace HB:=aM (abG qB HL.out hb);replace HK:=aM (aa6.trans qH (aaP hg g) (R_base2 ae.out));clear ae;clear ho hb hg hat))
  go_ret
  exact⟨_,qW,qR bg,qI HI0,qB,qH⟩
 replace H:=jL H;obtain⟨bi,H⟩:=H
 obtain⟨bP,aI⟩:=ky ((aj ++ [(⟨10,0,0,0,0⟩:S27)]):List S27)
 replace H:=kv aI H
 obtain⟨rfl,rfl⟩:=oJ2 H
 go_wp2_with (first|((with_reducible refine jc 52 23 ?_);refine jK func52 (aab k1 g af aa 3 aW aJ w0 _ (qI HI0) qB bD.out) ?_;rintro bA ⟨hi,hb,hk⟩;replace ae:=aM (R_mono (R_keep (Sad.apart (show Sad w0 _ g af aa from qI HI0) (qR ae) (by decide)) hk (fun _ h=>h.2)) (fun _ h=>h.1));replace HK:=kI hk;replace HB:=aM hb;replace HI0:=aM hi;clear hb hk hi)|((with_reducible refine aaa (b:=.append) (xs:=#[.tmp 32,.tmp 34]) rfl ?_);at_builtin;refine R_append k27 w.heap.size rfl (.tmp 32) (.tmp 34) 23 27 (.agg #[(iV 0),(iV 0),(iV 0),(iV 0),(iV 0)]) 40 rfl underlying23 abb rfl (by decide) (by omega) u4 aj (⟨10,0,0,0,0⟩:S27) [iV 10,iV 0,iV 0,iV 0,iV 0] (fun _=>True) (fun _=>False) rfl rfl ?aP (fun _ hk=>hk.elim) ?aF ?aO (Below.refl _ _) ?aS ?aL ?_;(case aP=>exact aaU _ _ _ (⟨10,0,0,0,0⟩:S27));(case aF=>exact (fun _ _=>trivial));(case aO=>exact (qR ae));(case aS=>exact kU);(case aL=>have:=bi.out;omega);intro v194 bQ ho hb hg hat;rw [<- aI.out] at ho;have bn:=aM ho;replace HI0:=aM (Sad.grown (qI HI0) hg (aca HI0.out ae.out (by decide)));replace HB:=aM (abG qB HL.out hb);replace HK:=aM (aa6.trans qH (aaP hg g) (R_base2 ae.out));clear ae;clear ho hb hg hat))
 go_ret
 exact⟨_,qW,qR bn,qI HI0,qB,qH⟩
end Go.Proofs.YtebpplallecogaaGreat.M
namespace Go.Proofs.YtebpplallecogaaGreat.M
open Go.Proofs.Tryz Go.RowKit Go.Proofs.YtebpplallecogaaGreatW.PrintWords Go.Proofs.YtebpplallecogaaGreatW.PrintLast Go.Proofs.YtebpplallecogaaGreatW.PrintMore
attribute [local go_sem] aan aal aay aax aaf aae aam aak
mutual
def aeG:Nat->List S92->Int->Int->Option (Int)
 | 0,_,_,_=>none
 | k+1,x0,x3,x4=>if x4 < (x0.length:Int) then (if 0<=x4 then ((SaF.f k ((aaj x0 x4).f4)).bind fun bM=>((SaF.f k ((aaj x0 x4).f5)).bind fun bN=>(aeG k x0 (wrap64 ((wrap64 ((wrap64 (x3+1))+bM))+bN)) (wrap64 (x4+1))))) else (none)) else (some x3)
def SaF.f:Nat->List S92->Option (Int)
 | 0,_=>none
 | k+1,l0=>aeG k l0 0 0
end
def aop:Bool × List (List Nat × List Nat):=(true,[([],[]),([0],[0]),([],[]),([],[]),([2,3],[2,3]),([4],[4]),([5],[5]),([6],[6]),([1,7],[1,7]),([],[]),([],[]),([9,10],[9,10]),([11],[11]),([12],[12]),([13,7],[13]),([8,14],[8,14]),([15,14,0,1,2,3,4,5,6,7,8,9,10,11,12,13,14,15],[0,15])])
def aqA:List Nat:=[0,1,0,0,12,28,60,124,255,0,0,1536,3584,7680,16124,32767,65535]
theorem anF:abL .any (opsOf f74 5)=aop:=by kernel_rfl
theorem amI:ab0 aop.2 aqA=true:=by kernel_rfl
theorem SaF.calls (k:Nat):∀ (A0:Option Addr) (c0:Nat) (l0:List S92) (r:Int) (w:World) (hr0:Kd.C k92 w A0 l0.length l0) (hc0:l0.length<=c0) (h:SaF.f k l0=some r),
  Calls prog 74 #[.slice A0 l0.length c0] w fun e w'=>e = .returned (iV r)/\Below w.heap.size w w':=by
 induction k using Nat.strongRecOn with
 | _ k ih =>
 intro A0 c0 l0 r w hr0 hc0 h
 cases k with
 | zero=>exact absurd h (by simp [SaF.f])
 | succ k =>
 simp only [SaF.f] at h
 have dD:=aM hr0
 have dF:=aM hc0
 clear hr0 hc0
 have HB:=jb_ w
 have H:(aeG k l0 0 0)=some r:=h
 clear h
 have H':=aM H
 clear H
 go_enter func74,ntmps74
 go_wp2
 go_loopg [3,4] k (fun kq v3 v4 w'=>∃ (bO:Int) (aa:Int),v3 = iV bO/\v4 = iV aa/\aa1 (aeG kq l0 bO aa=some r)/\aa1 (kq<=k)/\aa1 (Below w.heap.size w w'))
 case atStart=>exact⟨(0),(0),qZ,qZ,H',⟨Nat.le_refl _⟩,⟨qB⟩⟩
 clear H'
 obtain⟨bO,aa,rfl,rfl,HA,cu,HB⟩:=hrel
 rcases gk with _|k1
 ·exact absurd HA.out (by simp [aeG])
 have H:=HA.out
 clear HA
 simp only [aeG] at H
 replace H:=jD H;rcases H with ⟨df,H⟩ | ⟨df,H⟩
 ·replace H:=jI H;obtain⟨dE,H⟩:=H
  obtain⟨bM,A4,H⟩:=qE H
  try dsimp only at H
  obtain⟨bN,A5,H⟩:=qE H
  try dsimp only at H
  have H':=aM H
  clear H
  try go_wp2
  replace HB:=aM (aai HB.out)
  have bV:0<=(aa:Int):=qD
  have bW:aa < (l0.length:Int):=qD
  obtain⟨ae,bI,bJ,aX,aY,aZ,bg,dh,au,av,ax,ay,az,af,ag,ah,bi,bn,bq,bu,bv,bz⟩:=ai1 dD.out aa bV bW
  have aG:=ah
  have aH:=ag
  have aI:=af
  have aJ:=az
  have aK:=ay
  have aL:=ax
  have aN:=av
  have aO:=au
  cases dh
  replace au:=kx HB au
  replace av:=kx HB av
  replace ax:=kx HB ax
  replace ay:=kx HB ay
  replace az:=kx HB az
  replace af:=kx HB af
  replace ag:=kx HB ag
  replace ah:=kx HB ah
  have bP:=aM bn
  have cz:=aM bi
  clear bn bi
  have bA:=aM bu
  have bQ:=aM bq
  clear bu bq
  have bR:=aM bz
  have cB:=aM bv
  clear bz bv
  replace bV:=eq_true bV
  replace bW:=eq_true bW
  have bX:0<=(aa:Int):=qD
  have bY:aa < (l0.length:Int):=qD
  obtain⟨bZ,di,dn,dw,dx,dz,dA,dB,aA,aB,aC,aD,aF,ai,aj,ak,bB,bC,bD,bE,bF,bG⟩:=ai1 dD.out aa bX bY
  have aP:=ak
  have aQ:=aj
  have aR:=ai
  have aS:=aF
  have aT:=aD
  have aU:=aC
  have aV:=aB
  have aW:=aA
  obtain rfl:ae=bZ:=(by injection dB)
  replace aA:=kx HB aA
  replace aB:=kx HB aB
  replace aC:=kx HB aC
  replace aD:=kx HB aD
  replace aF:=kx HB aF
  replace ai:=kx HB ai
  replace aj:=kx HB aj
  replace ak:=kx HB ak
  have bS:=aM bC
  have cK:=aM bB
  clear bC bB
  have bT:=aM bE
  have cO:=aM bD
  clear bE bD
  have bH:=aM bG
  have bU:=aM bF
  clear bG bF
  replace bX:=eq_true bX
  replace bY:=eq_true bY
  have ea_:=Option.some.inj (af.symm.trans ai)
  injection ea_ with ea_ en_ ec_
  subst ea_
  subst ec_
  clear en_
  have ea_:=Option.some.inj (ag.symm.trans aj)
  injection ea_ with ea_ en_ ec_
  subst ea_
  subst ec_
  clear en_
  have ea_:=Option.some.inj (ah.symm.trans ak)
  injection ea_ with ea_ en_ ec_
  subst ea_
  subst ec_
  clear en_
  refine abF (n:=17) (S:=fun w'=>w'.cell? (ae.add ((aa).toNat*8))=some (iV ((aaj l0 aa).f0))/\w'.cell? ⟨(ae.add ((aa).toNat*8)).block,(ae.add ((aa).toNat*8)).off+1,none⟩=some (iV ((aaj l0 aa).f1))/\w'.cell? ⟨(ae.add ((aa).toNat*8)).block,(ae.add ((aa).toNat*8)).off+2,none⟩=some (iV ((aaj l0 aa).f2))/\w'.cell? ⟨(ae.add ((aa).toNat*8)).block,(ae.add ((aa).toNat*8)).off+3,none⟩=some (iV ((aaj l0 aa).f3.f0))/\w'.cell? ⟨(ae.add ((aa).toNat*8)).block,(ae.add ((aa).toNat*8)).off+4,none⟩=some (iV ((aaj l0 aa).f3.f1))/\w'.cell? ⟨(ae.add ((aa).toNat*8)).block,(ae.add ((aa).toNat*8)).off+5,none⟩=some (.slice bI ((aaj l0 aa).f3.f2).length bJ)/\w'.cell? ⟨(ae.add ((aa).toNat*8)).block,(ae.add ((aa).toNat*8)).off+6,none⟩=some (.slice aX ((aaj l0 aa).f4).length aY)/\w'.cell? ⟨(ae.add ((aa).toNat*8)).block,(ae.add ((aa).toNat*8)).off+7,none⟩=some (.slice aZ ((aaj l0 aa).f5).length bg)/\w'.cell? (ae.add ((aa).toNat*8))=some (iV ((aaj l0 aa).f0))/\w'.cell? ⟨(ae.add ((aa).toNat*8)).block,(ae.add ((aa).toNat*8)).off+1,none⟩=some (iV ((aaj l0 aa).f1))/\w'.cell? ⟨(ae.add ((aa).toNat*8)).block,(ae.add ((aa).toNat*8)).off+2,none⟩=some (iV ((aaj l0 aa).f2))/\w'.cell? ⟨(ae.add ((aa).toNat*8)).block,(ae.add ((aa).toNat*8)).off+3,none⟩=some (iV ((aaj l0 aa).f3.f0))/\w'.cell? ⟨(ae.add ((aa).toNat*8)).block,(ae.add ((aa).toNat*8)).off+4,none⟩=some (iV ((aaj l0 aa).f3.f1))/\w'.cell? ⟨(ae.add ((aa).toNat*8)).block,(ae.add ((aa).toNat*8)).off+5,none⟩=some (.slice bI ((aaj l0 aa).f3.f2).length bJ)/\w'.cell? ⟨(ae.add ((aa).toNat*8)).block,(ae.add ((aa).toNat*8)).off+6,none⟩=some (.slice aX ((aaj l0 aa).f4).length aY)/\w'.cell? ⟨(ae.add ((aa).toNat*8)).block,(ae.add ((aa).toNat*8)).off+7,none⟩=some (.slice aZ ((aaj l0 aa).f5).length bg)) (ds:=[]) (jb 17 0) (by kernel_rfl) rfl rfl ⟨(kx HB aO),(kx HB aN),(kx HB aL),(kx HB aK),(kx HB aJ),(kx HB aI),(kx HB aH),(kx HB aG),(kx HB aW),(kx HB aV),(kx HB aU),(kx HB aT),(kx HB aS),(kx HB aR),(kx HB aQ),(kx HB aP)⟩ (fun hHeld=>?_);refine aaZ anF amI (fun HT_ HW_=>?_)
  generalize wr.drew=w6 at HB bP bA bR bS bT bH au av ax ay az af ag ah aA aB aC aD aF ai aj ak hHeld ⊢
  refine jp 0 11 (jb 17 1) ?_
  refine jp 1 12 (jb 17 3) ?_
  refine jp 2 13 (jb 17 7) ?_
  refine jp 3 14 (jb 17 15) ?_
  refine jp 4 15 (jb 17 31) ?_
  refine jp 5 16 (jb 17 63) ?_
  refine jp 9 20 (jb 17 575) ?_
  refine jp 10 21 (jb 17 1599) ?_
  refine jp 11 22 (jb 17 3647) ?_
  refine jp 12 23 (jb 17 7743) ?_
  refine jt 6 17 (jb 17 7807) ?_
  refine jt 13 24 (jb 17 15999) ?_
  refine ad6 (i:=7) (N:=some 18) (jb 17 16127) rfl rfl (aaT HT_.out (by kernel_rfl)) (by decide) (fun K hK=>?_)
  refine abn func74 (by kernel_rfl) rfl #[.slice aX ((aaj l0 aa).f4).length aY] (by rfl) rfl rfl qM ?_
  with_reducible refine (ih k1 (by have:=cu.out;omega) _ _ ((aaj l0 aa).f4) bM _ ?bK ?bL A4.out).mono ?_
  (case bK=>exact kb bA HB)
  (case bL=>exact bQ.out)
  rintro e w7 ⟨rfl,hb⟩
  refine⟨_,rfl,?_⟩
  replace HB:=kH hb
  (try clear hb)
  (try clear hb2)
  (try clear hk)
  (try clear hi)
  refine hK.out _ _ ⟨(kx HB aO),(kx HB aN),(kx HB aL),(kx HB aK),(kx HB aJ),(kx HB aI),(kx HB aH),(kx HB aG),(kx HB aW),(kx HB aV),(kx HB aU),(kx HB aT),(kx HB aS),(kx HB aR),(kx HB aQ),(kx HB aP)⟩ (fun hHeld=>?_)
  clear hK K
  refine aav (a':=?_) ?_ ?_
  rotate_left
  ·show Act.put _ (some 18) _=_
   simp only [Act.put,List.setIfInBounds_toArray,List.set_cons_zero,List.set_cons_succ,aau,aaD]
   rfl
  refine jp 8 19 (jb 17 16383) ?_
  refine ad6 (i:=14) (N:=some 25) (jb 17 32767) rfl rfl (aaT HT_.out (by kernel_rfl)) (by decide) (fun K hK=>?_)
  refine abn func74 (by kernel_rfl) rfl #[.slice aZ ((aaj l0 aa).f5).length bg] (by rfl) rfl rfl qM ?_
  with_reducible refine (ih k1 (by have:=cu.out;omega) _ _ ((aaj l0 aa).f5) bN _ ?bK ?bL A5.out).mono ?_
  (case bK=>exact kb bH HB)
  (case bL=>exact bU.out)
  rintro e w8 ⟨rfl,hb⟩
  refine⟨_,rfl,?_⟩
  replace HB:=kH hb
  (try clear hb)
  (try clear hb2)
  (try clear hk)
  (try clear hi)
  refine hK.out _ _ ⟨(kx HB aO),(kx HB aN),(kx HB aL),(kx HB aK),(kx HB aJ),(kx HB aI),(kx HB aH),(kx HB aG),(kx HB aW),(kx HB aV),(kx HB aU),(kx HB aT),(kx HB aS),(kx HB aR),(kx HB aQ),(kx HB aP)⟩ (fun hHeld=>?_)
  clear hK K
  refine aav (a':=?_) ?_ ?_
  rotate_left
  ·show Act.put _ (some 25) _=_
   simp only [Act.put,List.setIfInBounds_toArray,List.set_cons_zero,List.set_cons_succ,aau,aaD]
   rfl
  refine jp 15 26 (jb 17 65535) ?_
  refine jp 16 3 (jb 17 131071) ?_
  refine acG (abr HT_.out (by kernel_rfl)) ?_
  try go_wp2
  go_roundg k1
  case measure=>have:=cu.out;omega
  exact⟨(wrap64 ((wrap64 ((wrap64 (bO+1))+bM))+bN)),(wrap64 (aa+1)),qZ,qZ,H',⟨by have:=cu.out;omega⟩,⟨qB⟩⟩
 obtain rfl:=oJ H
 go_wp2
 go_ret
 exact⟨qW,qB⟩
def adA (a0 a1 a2:Int):Option (Bool):=if a0>=a1 then (some (decide (a0<=a2))) else (some false)
theorem Sbp.calls (a0 a1 a2:Int) (r:Bool) (w:World) (h:adA a0 a1 a2=some r) :
  Calls prog 46 #[iV a0,iV a1,iV a2] w fun e w'=>e = .returned (.bool r)/\aaA w w':=by
 have H:(if a0>=a1 then (some (decide (a0<=a2))) else (some false))=some r:=h
 clear h
 replace H:=jD H;rcases H with ⟨aa,H⟩ | ⟨aa,H⟩
 ·obtain rfl:=oJ H
  go_enter func46,ntmps46
  go_wp2
  go_ret
  exact⟨qZ,qU⟩
 obtain rfl:=oJ H
 go_enter func46,ntmps46
 go_wp2
 go_ret
 exact⟨qZ,qU⟩
def agB (ax aa ay az aA:Int) (ae:List S90) (af ag:List S92) (a1:Bool):Option (Bool):=if a1=true then ((adA aa 0 3).bind fun t201=>(some t201)) else (some (aa == 0))
theorem aqz {G:Prop} (h:G:=by
  go_enter func106,ntmps106
  go_wp2_with (first|((with_reducible refine jd 2 ?_);refine jY _ 92 ?_;intro aJ hg aS aB hb;have aK:=kG hg;replace HB:=kH hb;clear hb hg;have aT:=jz8 aB)|((with_reducible refine jc 46 8 ?_);refine jG func46 #[iV aa,iV 0,iV 3] ?_;refine (Sbp.calls _ _ _ _ _ (aa1.out (by assumption))).mono ?_;rintro e w' ⟨rfl,⟨nd,rfl⟩⟩;refine⟨_,rfl,?_⟩))
  go_ret
  exact⟨qW,qB⟩):G:=h
theorem aaQ (ax aa ay az aA:Int) (aC:Option Addr) (aD:Nat) (ae:List S90) (aF:Option Addr) (aG:Nat) (af:List S92) (aH:Option Addr) (aI:Nat) (ag:List S92) (a1 r:Bool) (w:World) (ah:Kd.C k90 w aC ae.length ae) (ai:ae.length<=aD) (aj:Kd.C k92 w aF af.length af) (ak:af.length<=aG) (au:Kd.C k92 w aH ag.length ag) (av:ag.length<=aI) (h:agB ax aa ay az aA ae af ag a1=some r) :
  Calls prog 106 #[.agg #[iV ax,iV aa,iV ay,iV az,iV aA,.slice aC ae.length aD,.slice aF af.length aG,.slice aH ag.length aI],.bool a1] w fun e w'=>e = .returned (.bool r)/\Below w.heap.size w w':=by
 have aU:=underlying92
 have aL:=aM ah
 have aN:=aM ai
 clear ah ai
 have aO:=aM aj
 have aP:=aM ak
 clear aj ak
 have aQ:=aM au
 have aR:=aM av
 clear au av
 have HB:=jb_ w
 have H:=h;unfold agB at H
 clear h
 replace H:=jB H;rcases H with ⟨rfl,H⟩ | ⟨rfl,H⟩
 ·obtain⟨t201,A4,H⟩:=qE H
  try dsimp only at H
  obtain rfl:=oJ H
  exact aqz
 obtain rfl:=oJ H
 exact aqz
def agD (ax ay aa az aA:Int) (ae:List S90) (af ag:List S92) (a1:Bool):Option (Bool):=if a1=true then ((adA aa 0 2).bind fun t203=>(some t203)) else (some (aa == 0))
theorem aqB {G:Prop} (h:G:=by
  go_enter func107,ntmps107
  go_wp2_with (first|((with_reducible refine jd 2 ?_);refine jY _ 92 ?_;intro aJ hg aS aB hb;have aK:=kG hg;replace HB:=kH hb;clear hb hg;have aT:=jz8 aB)|((with_reducible refine jc 46 8 ?_);refine jG func46 #[iV aa,iV 0,iV 2] ?_;refine (Sbp.calls _ _ _ _ _ (aa1.out (by assumption))).mono ?_;rintro e w' ⟨rfl,⟨nd,rfl⟩⟩;refine⟨_,rfl,?_⟩))
  go_ret
  exact⟨qW,qB⟩):G:=h
theorem abh (ax ay aa az aA:Int) (aC:Option Addr) (aD:Nat) (ae:List S90) (aF:Option Addr) (aG:Nat) (af:List S92) (aH:Option Addr) (aI:Nat) (ag:List S92) (a1 r:Bool) (w:World) (ah:Kd.C k90 w aC ae.length ae) (ai:ae.length<=aD) (aj:Kd.C k92 w aF af.length af) (ak:af.length<=aG) (au:Kd.C k92 w aH ag.length ag) (av:ag.length<=aI) (h:agD ax ay aa az aA ae af ag a1=some r) :
  Calls prog 107 #[.agg #[iV ax,iV ay,iV aa,iV az,iV aA,.slice aC ae.length aD,.slice aF af.length aG,.slice aH ag.length aI],.bool a1] w fun e w'=>e = .returned (.bool r)/\Below w.heap.size w w':=by
 have aU:=underlying92
 have aL:=aM ah
 have aN:=aM ai
 clear ah ai
 have aO:=aM aj
 have aP:=aM ak
 clear aj ak
 have aQ:=aM au
 have aR:=aM av
 clear au av
 have HB:=jb_ w
 have H:=h;unfold agD at H
 clear h
 replace H:=jB H;rcases H with ⟨rfl,H⟩ | ⟨rfl,H⟩
 ·obtain⟨t203,A4,H⟩:=qE H
  try dsimp only at H
  obtain rfl:=oJ H
  exact aqB
 obtain rfl:=oJ H
 exact aqB
def aj0 (a0:Int):Option (Bool):=(adA a0 1 12).bind fun aa=>(some aa)
theorem acl (a0:Int) (r:Bool) (w:World) (h:aj0 a0=some r) :
  Calls prog 67 #[iV a0] w fun e w'=>e = .returned (.bool r)/\aaA w w':=by
 have H:((adA a0 1 12).bind fun aa=>(some aa))=some r:=h
 clear h
 obtain⟨aa,A2,H⟩:=qE H
 try dsimp only at H
 obtain rfl:=oJ H
 go_enter func67,ntmps67
 go_wp2_with (first|((with_reducible refine jc 46 4 ?_);refine jK func46 (Sbp.calls a0 1 12 aa _ A2.out) ?_;rintro w' ⟨nd,rfl⟩))
 go_ret
 exact⟨qZ,qU⟩
def ahx:Nat->Int->Int->List S90->Int->Option (Bool)
 | 0,_,_,_,_=>none
 | k+1,ai,aj,ae,a1=>if a1 < 1 then (some false) else (if ai=0 then ((adA aj 0 99999).bind fun t206=>(if t206=true then (some ((ae.length:Int) == 0)) else (some false))) else (if ai=13 then ((adA aj 0 3).bind fun aX=>(if aX=true then (some ((ae.length:Int) == 0)) else (some false))) else ((aj0 ai).bind fun t208=>(if t208=true then (if aj=0 then (if (ae.length:Int)=2 then (if 0 < (ae.length:Int) then ((ahx k ((aaK ae 0).f0) ((aaK ae 0).f1) ((aaK ae 0).f2) (wrap64 (a1 - 1))).bind fun t210=>(if t210=true then (if 1 < (ae.length:Int) then ((ahx k ((aaK ae 1).f0) ((aaK ae 1).f1) ((aaK ae 1).f2) (wrap64 (a1 - 1))).bind fun t212=>(some t212)) else (none)) else (some false))) else (none)) else (some false)) else (some false)) else (some false)))))
theorem alD (k:Nat):∀ (ai:Int) (aj:Int) (aR:Option Addr) (aS:Nat) (ae:List S90) (a1:Int) (r:Bool) (w:World) (aK:Kd.C k90 w aR ae.length ae) (aL:ae.length<=aS) (h:ahx k ai aj ae a1=some r),
  Calls prog 119 #[.agg #[iV ai,iV aj,.slice aR ae.length aS],iV a1] w fun e w'=>e = .returned (.bool r)/\Below w.heap.size w w':=by
 induction k using Nat.strongRecOn with
 | _ k ih =>
 intro ai aj aR aS ae a1 r w aK aL h
 cases k with
 | zero=>exact absurd h (by simp [ahx])
 | succ k =>
 simp only [ahx] at h
 have bP:=underlying90
 have aN:=aM aK
 have bG:=aM aL
 clear aK aL
 have HB:=jb_ w
 have H:=h
 clear h
 replace H:=jD H;rcases H with ⟨bA,H⟩ | ⟨bA,H⟩
 ·obtain rfl:=oJ H
  go_enter func119,ntmps119
  go_wp2_with (first|((with_reducible refine jd 2 ?_);(try (refine aah (by rfl) ?_;dsimp only));refine jY _ 90 ?_;intro ak hg w4 aa hb;have au:=kG hg;replace HB:=kH hb;clear hb hg))
  go_ret
  exact⟨qW,qB⟩
 replace H:=jE H;rcases H with ⟨bB,bC,H⟩ | ⟨c5,bB,bC,H⟩
 ·obtain⟨t206,A6,H⟩:=qE H
  try dsimp only at H
  replace H:=jB H;rcases H with ⟨rfl,H⟩ | ⟨rfl,H⟩
  ·obtain rfl:=oJ H
   go_enter func119,ntmps119
   go_wp2_with (first|((with_reducible refine jd 2 ?_);(try (refine aah (by rfl) ?_;dsimp only));refine jY _ 90 ?_;intro ak hg w8 aa hb;have au:=kG hg;replace HB:=kH hb;clear hb hg;have cu:=jz3 aa)|((with_reducible refine jc 46 12 ?_);refine jK func46 (Sbp.calls aj 0 99999 true _ A6.out) ?_;rintro w' ⟨nd,rfl⟩))
   go_ret
   exact⟨qW,qB⟩
  obtain rfl:=oJ H
  go_enter func119,ntmps119
  go_wp2_with (first|((with_reducible refine jd 2 ?_);(try (refine aah (by rfl) ?_;dsimp only));refine jY _ 90 ?_;intro ak hg cz aa hb;have au:=kG hg;replace HB:=kH hb;clear hb hg;have bQ:=jz3 aa)|((with_reducible refine jc 46 12 ?_);refine jK func46 (Sbp.calls aj 0 99999 false _ A6.out) ?_;rintro w' ⟨nd,rfl⟩))
  go_ret
  exact⟨qW,qB⟩
 replace H:=jE H;rcases H with ⟨aY,aZ,H⟩ | ⟨c12,aY,aZ,H⟩
 ·obtain⟨aX,bH,H⟩:=qE H
  try dsimp only at H
  replace H:=jB H;rcases H with ⟨rfl,H⟩ | ⟨rfl,H⟩
  ·obtain rfl:=oJ H
   go_enter func119,ntmps119
   go_wp2_with (first|((with_reducible refine jd 2 ?_);(try (refine aah (by rfl) ?_;dsimp only));refine jY _ 90 ?_;intro ak hg cB aa hb;have au:=kG hg;replace HB:=kH hb;clear hb hg;have bR:=jz3 aa)|((with_reducible refine jc 46 24 ?_);refine jK func46 (Sbp.calls aj 0 3 true _ bH.out) ?_;rintro w' ⟨nd,rfl⟩))
   go_ret
   exact⟨qW,qB⟩
  obtain rfl:=oJ H
  go_enter func119,ntmps119
  go_wp2_with (first|((with_reducible refine jd 2 ?_);(try (refine aah (by rfl) ?_;dsimp only));refine jY _ 90 ?_;intro ak hg cK aa hb;have au:=kG hg;replace HB:=kH hb;clear hb hg;have bS:=jz3 aa)|((with_reducible refine jc 46 24 ?_);refine jK func46 (Sbp.calls aj 0 3 false _ bH.out) ?_;rintro w' ⟨nd,rfl⟩))
  go_ret
  exact⟨qW,qB⟩
 obtain⟨t208,bg,H⟩:=qE H
 try dsimp only at H
 replace H:=jB H;rcases H with ⟨rfl,H⟩ | ⟨rfl,H⟩
 ·replace H:=jE H;rcases H with ⟨bi,bn,H⟩ | ⟨c21,bi,bn,H⟩
  ·replace H:=jE H;rcases H with ⟨bq,bu,H⟩ | ⟨cO,bq,bu,H⟩
   ·replace H:=jU H;obtain⟨c23,H⟩:=H
    have bI:=decide_eq_true c23
    have bJ:decide (0 < ae.length)=true:=decide_eq_true (by omega)
    clear c23
    obtain⟨t210,bK,H⟩:=qE H
    try dsimp only at H
    replace H:=jB H;rcases H with ⟨rfl,H⟩ | ⟨rfl,H⟩
    ·replace H:=jU H;obtain⟨bL,H⟩:=H
     have bM:=decide_eq_true bL
     have bN:decide (1 < ae.length)=true:=decide_eq_true (by omega)
     clear bL
     obtain⟨t212,bT,H⟩:=qE H
     try dsimp only at H
     obtain rfl:=oJ H
     go_enter func119,ntmps119
     go_wp2_with (first|((with_reducible refine jd 2 ?_);(try (refine aah (by rfl) ?_;dsimp only));refine jY _ 90 ?_;intro ak hg df aa hb;have au:=kG hg;replace HB:=kH hb;clear hb hg;have bU:=jz3 aa)|((with_reducible refine jc 67 33 ?_);refine jK func67 (acl ai true _ bg.out) ?_;rintro w' ⟨nd,rfl⟩;have aG:0<=(0:Int):=(by omega);have aH:0 < (ae.length:Int):=qD;obtain⟨aQ,aT,aU,e209,af,ag,ah,av,ax⟩:=ai2 aN.out 0 aG aH;cases e209;have bv:(0 < ae.length)=True:=eq_true (by omega);(try rw [show ((0:Int)).toNat=0 from rfl] at af);(try rw [show 0*3=0 from rfl] at af);(try rw [Addr.add_zero'] at af);(try rw [show ((0:Int)).toNat=0 from rfl] at ag);(try rw [show 0*3=0 from rfl] at ag);(try rw [Addr.add_zero'] at ag);(try rw [show ((0:Int)).toNat=0 from rfl] at ah);(try rw [show 0*3=0 from rfl] at ah);(try rw [Addr.add_zero'] at ah);replace af:=kx HB af;replace ag:=kx HB ag;replace ah:=kx HB ah;have aB:=aM ax;have aC:=aM av;clear ax av;replace aG:=eq_true aG;replace aH:=eq_true aH)|(go_at_call 119;(with_reducible refine (ih k (by omega) ((aaK ae 0).f0) ((aaK ae 0).f1) _ _ ((aaK ae 0).f2) (wrap64 (a1 - 1)) true _ ?aD ?aF bK.out).mono ?_);(case aD=>exact kC (Kd.C_below aB.out qB));(case aF=>exact aC.out);rintro e dh ⟨rfl,hb⟩;replace aa:=kB aa hb;replace HB:=kH hb;clear hb;have bV:=jz3 aa;have aV:0<=(1:Int):=(by omega);have aW:1 < (ae.length:Int):=qD;obtain⟨bz,bD,bE,e211,ay,az,aA,aI,aJ⟩:=ai2 aN.out 1 aV aW;obtain rfl:aQ=bz:=(by injection e211);(try simp only [show (1:Int).toNat=1 from rfl,Nat.reduceMul,Nat.reduceEqDiff,Go.Addr.add,↓reduceIte] at ay);(try simp only [show (1:Int).toNat=1 from rfl,Nat.reduceMul,Nat.reduceEqDiff,Go.Addr.add,↓reduceIte] at az);(try simp only [show (1:Int).toNat=1 from rfl,Nat.reduceMul,Nat.reduceEqDiff,Go.Addr.add,↓reduceIte] at aA);have bO:(1 < ae.length)=True:=eq_true (by omega);(try rw [show ((1:Int)).toNat=1 from rfl] at ay);(try rw [show 1*3=3 from rfl] at ay);(try rw [show ((1:Int)).toNat=1 from rfl] at az);(try rw [show 1*3=3 from rfl] at az);(try rw [show ((1:Int)).toNat=1 from rfl] at aA);(try rw [show 1*3=3 from rfl] at aA);replace ay:=kx HB ay;replace az:=kx HB az;replace aA:=kx HB aA;have aO:=aM aJ;have aP:=aM aI;clear aJ aI;replace aV:=eq_true aV;replace aW:=eq_true aW)|(go_at_call 119;(with_reducible refine (ih k (by omega) ((aaK ae 1).f0) ((aaK ae 1).f1) _ _ ((aaK ae 1).f2) (wrap64 (a1 - 1)) t212 _ ?aD ?aF bT.out).mono ?_);(case aD=>exact kb aO HB);(case aF=>exact aP.out);rintro e w32 ⟨rfl,hb⟩;replace aa:=kB aa hb;replace HB:=kH hb;clear hb))
     go_ret
     exact⟨qW,qB⟩
    obtain rfl:=oJ H
    go_enter func119,ntmps119
    go_wp2_with (first|((with_reducible refine jd 2 ?_);(try (refine aah (by rfl) ?_;dsimp only));refine jY _ 90 ?_;intro ak hg di aa hb;have au:=kG hg;replace HB:=kH hb;clear hb hg;have bW:=jz3 aa)|((with_reducible refine jc 67 33 ?_);refine jK func67 (acl ai true _ bg.out) ?_;rintro w' ⟨nd,rfl⟩;have aG:0<=(0:Int):=(by omega);have aH:0 < (ae.length:Int):=qD;obtain⟨aQ,aT,aU,e209,af,ag,ah,av,ax⟩:=ai2 aN.out 0 aG aH;cases e209;have bv:(0 < ae.length)=True:=eq_true (by omega);(try rw [show ((0:Int)).toNat=0 from rfl] at af);(try rw [show 0*3=0 from rfl] at af);(try rw [Addr.add_zero'] at af);(try rw [show ((0:Int)).toNat=0 from rfl] at ag);(try rw [show 0*3=0 from rfl] at ag);(try rw [Addr.add_zero'] at ag);(try rw [show ((0:Int)).toNat=0 from rfl] at ah);(try rw [show 0*3=0 from rfl] at ah);(try rw [Addr.add_zero'] at ah);replace af:=kx HB af;replace ag:=kx HB ag;replace ah:=kx HB ah;have aB:=aM ax;have aC:=aM av;clear ax av;replace aG:=eq_true aG;replace aH:=eq_true aH)|(go_at_call 119;(with_reducible refine (ih k (by omega) ((aaK ae 0).f0) ((aaK ae 0).f1) _ _ ((aaK ae 0).f2) (wrap64 (a1 - 1)) false _ ?aD ?aF bK.out).mono ?_);(case aD=>exact kC (Kd.C_below aB.out qB));(case aF=>exact aC.out);rintro e dn ⟨rfl,hb⟩;replace aa:=kB aa hb;replace HB:=kH hb;clear hb))
    go_ret
    exact⟨qW,qB⟩
   obtain rfl:=oJ H
   go_enter func119,ntmps119
   go_wp2_with (first|((with_reducible refine jd 2 ?_);(try (refine aah (by rfl) ?_;dsimp only));refine jY _ 90 ?_;intro ak hg dw aa hb;have au:=kG hg;replace HB:=kH hb;clear hb hg;have bX:=jz3 aa)|((with_reducible refine jc 67 33 ?_);refine jK func67 (acl ai true _ bg.out) ?_;rintro w' ⟨nd,rfl⟩))
   go_ret
   exact⟨qW,qB⟩
  obtain rfl:=oJ H
  go_enter func119,ntmps119
  go_wp2_with (first|((with_reducible refine jd 2 ?_);(try (refine aah (by rfl) ?_;dsimp only));refine jY _ 90 ?_;intro ak hg dx aa hb;have au:=kG hg;replace HB:=kH hb;clear hb hg;have bY:=jz3 aa)|((with_reducible refine jc 67 33 ?_);refine jK func67 (acl ai true _ bg.out) ?_;rintro w' ⟨nd,rfl⟩))
  go_ret
  exact⟨qW,qB⟩
 obtain rfl:=oJ H
 go_enter func119,ntmps119
 go_wp2_with (first|((with_reducible refine jd 2 ?_);(try (refine aah (by rfl) ?_;dsimp only));refine jY _ 90 ?_;intro ak hg dz aa hb;have au:=kG hg;replace HB:=kH hb;clear hb hg;have bZ:=jz3 aa)|((with_reducible refine jc 67 33 ?_);refine jK func67 (acl ai false _ bg.out) ?_;rintro w' ⟨nd,rfl⟩))
 go_ret
 exact⟨qW,qB⟩
def aj2 (k:Nat) (ae af:Int) (aa:List S90):Option (Bool):=(ahx k ae af aa 5).bind fun ag=>(some ag)
theorem acM (k:Nat) (ae af:Int) (ak:Option Addr) (au:Nat) (aa:List S90) (r:Bool) (w:World) (ai:Kd.C k90 w ak aa.length aa) (aj:aa.length<=au) (h:aj2 k ae af aa=some r) :
  Calls prog 108 #[.agg #[iV ae,iV af,.slice ak aa.length au]] w fun e w'=>e = .returned (.bool r)/\Below w.heap.size w w':=by
 have aC:=underlying90
 have av:=aM ai
 have ax:=aM aj
 clear ai aj
 have HB:=jb_ w
 have H:((ahx k ae af aa 5).bind fun ag=>(some ag))=some r:=h
 clear h
 obtain⟨ag,A2,H⟩:=qE H
 try dsimp only at H
 obtain rfl:=oJ H
 go_enter func108,ntmps108
 go_wp2_with (first|((with_reducible refine jd 1 ?_);refine jY _ 90 ?_;intro aA hg w3 ah hb;have aB:=kG hg;replace HB:=kH hb;clear hb hg;have aD:=jz3 ah)|((with_reducible refine jc 119 4 ?_);refine jK func119 (alD k ae af _ _ aa 5 ag _ (kb av HB) ax.out A2.out) ?_;intro w5 hb;replace ah:=kB ah hb;replace HB:=kH hb;clear hb))
 go_ret
 exact⟨qW,qB⟩
def amH (ae af:Int) (aa:List S90):Option (Bool):=if ae=0 then (if af=0 then (some ((aa.length:Int) == 0)) else (some false)) else (some false)
theorem apc {G:Prop} (h:G:=by
  go_enter func118,ntmps118
  go_wp2_with (first|((with_reducible refine jd 1 ?_);(try (refine aah (by rfl) ?_;dsimp only));refine jY _ 90 ?_;intro az hg aD ai hb;have aA:=kG hg;replace HB:=kH hb;clear hb hg;have aF:=jz3 ai))
  go_ret
  exact⟨qW,qB⟩):G:=h
theorem aij (ae af:Int) (aj:Option Addr) (ak:Nat) (aa:List S90) (r:Bool) (w:World) (ag:Kd.C k90 w aj aa.length aa) (ah:aa.length<=ak) (h:amH ae af aa=some r) :
  Calls prog 118 #[.agg #[iV ae,iV af,.slice aj aa.length ak]] w fun e w'=>e = .returned (.bool r)/\Below w.heap.size w w':=by
 have aG:=underlying90
 have aB:=aM ag
 have aC:=aM ah
 clear ag ah
 have HB:=jb_ w
 have H:=h;unfold amH at H
 clear h
 replace H:=jE H;rcases H with ⟨au,av,H⟩ | ⟨c2,au,av,H⟩
 ·replace H:=jE H;rcases H with ⟨ax,ay,H⟩ | ⟨c3,ax,ay,H⟩
  ·obtain rfl:=oJ H
   exact apc
  obtain rfl:=oJ H
  exact apc
 obtain rfl:=oJ H
 exact apc
def ah6:Nat->Bool->Int->Int->Int->Int->Int->List S90->List S92->List S92->Option (Bool)
 | 0,_,_,_,_,_,_,_,_,_=>none
 | k+1,bY,xa,xb,xc,xd,xe,xf,xg,xh=>if bY=true then (some false) else (if xa=1 then ((agB xa xb xc xd xe xf xg xh true).bind fun bi=>(if bi=true then ((agD xa xb xc xd xe xf xg xh false).bind fun t218=>(if t218=true then ((aj2 k xd xe xf).bind fun aY=>(some aY)) else (some false))) else (some false))) else (if xa=4 then ((agB xa xb xc xd xe xf xg xh false).bind fun bn=>(if bn=true then ((agD xa xb xc xd xe xf xg xh true).bind fun bq=>(if bq=true then ((aj2 k xd xe xf).bind fun t222=>(some t222)) else (some false))) else (some false))) else (if xa=5 then ((agB xa xb xc xd xe xf xg xh true).bind fun bu=>(if bu=true then ((agD xa xb xc xd xe xf xg xh true).bind fun bv=>(if bv=true then ((amH xd xe xf).bind fun aZ=>(some aZ)) else (some false))) else (some false))) else (if xa=6 then ((agB xa xb xc xd xe xf xg xh false).bind fun t226=>(if t226=true then ((agD xa xb xc xd xe xf xg xh false).bind fun t227=>(if t227=true then ((amH xd xe xf).bind fun t228=>(some t228)) else (some false))) else (some false))) else (if xa=7 then ((agB xa xb xc xd xe xf xg xh false).bind fun t229=>(if t229=true then ((agD xa xb xc xd xe xf xg xh false).bind fun bz=>(if bz=true then ((aj2 k xd xe xf).bind fun bg=>(some bg)) else (some false))) else (some false))) else (some false))))))
def anE (k:Nat) (az aA aB av ax:Int) (ak:List S90) (au ay:List S92):Option (Bool):=if (au.length:Int) > 0 then (ah6 k true az aA aB av ax ak au ay) else (ah6 k (decide ((ay.length:Int) > 0)) az aA aB av ax ak au ay)
theorem amG (k:Nat) (az aA aB av ax:Int) (aJ:Option Addr) (aK:Nat) (ak:List S90) (aL:Option Addr) (aN:Nat) (au:List S92) (aO:Option Addr) (aP:Nat) (ay:List S92) (r:Bool) (w:World) (aS:Kd.C k90 w aJ ak.length ak) (aT:ak.length<=aK) (aU:Kd.C k92 w aL au.length au) (aV:au.length<=aN) (aW:Kd.C k92 w aO ay.length ay) (aX:ay.length<=aP) (h:anE k az aA aB av ax ak au ay=some r) :
  Calls prog 105 #[.agg #[iV az,iV aA,iV aB,iV av,iV ax,.slice aJ ak.length aK,.slice aL au.length aN,.slice aO ay.length aP]] w fun e w'=>e = .returned (.bool r)/\Below w.heap.size w w':=by
 have cu:=underlying92
 have cz:=underlying90
 have aC:=aM aS
 have aD:=aM aT
 clear aS aT
 have aF:=aM aU
 have aG:=aM aV
 clear aU aV
 have aH:=aM aW
 have aI:=aM aX
 clear aW aX
 have HB:=jb_ w
 have H:=h;unfold anE at H
 clear h
 have bJ:=aM H
 clear H
 go_enter func105,ntmps105
 go_upto_region 1 with (first|((with_reducible refine jd 1 ?_);(try (refine aah (by rfl) ?_;dsimp only));refine jY _ 92 ?_;intro bA hg w3 aa hb;have bS:=kG hg;replace HB:=kH hb;clear hb hg))
 (try simp only [Act.put,List.setIfInBounds_toArray,List.set_cons_zero,List.set_cons_succ])
 go_cut [12] (fun v12 wc=>∃ (kq:Nat) (aQ:Bool),v12 = .bool aQ/\aa1 (ah6 kq aQ az aA aB av ax ak au ay=some r)/\aa1 (kq<=k)/\aa1 (wc.heap[bA]?=some (.cells #[iV az,iV aA,iV aB,iV av,iV ax,(.slice aJ ak.length aK),(.slice aL au.length aN),(.slice aO ay.length aP)] 92 (0,0)))/\aa1 (Below w.heap.size w wc))
 case first =>
  have H:=bJ.out
  clear bJ
  by_cases c4:(au.length:Int) > 0
  ·rw [if_pos c4] at H
   have aR:=decide_eq_true c4
   have bK:decide (0 < au.length)=true:=decide_eq_true (by omega)
   clear c4
   (first|rw [aR]|(simp only [aau,aaD];rw [aR])|skip)
   have H':=aM H
   clear H
   have ed:=jz8 aa
   go_wp2
   go_meet
   exact⟨_,(true),qZ,H',⟨by first|omega|exact Nat.le_refl _⟩,⟨qK aa⟩,⟨qB⟩⟩
  rw [if_neg c4] at H
  have aR:=decide_eq_false c4
  have bK:decide (0 < au.length)=false:=decide_eq_false (by omega)
  clear c4
  (first|rw [aR]|(simp only [aau,aaD];rw [aR])|skip)
  have H':=aM H
  clear H
  have ek:=jz8 aa
  go_wp2
  go_meet
  exact⟨_,(decide ((ay.length:Int) > 0)),qZ,H',⟨by first|omega|exact Nat.le_refl _⟩,⟨qK aa⟩,⟨qB⟩⟩
 clear bJ
 obtain⟨kq,aQ,rfl,HA,eu,aa,HB⟩:=hcut
 cases kq with
 | zero=>exact absurd HA.out (by simp [ah6])
 | succ bL =>
  have H:=HA.out
  clear HA
  simp only [ah6] at H
  replace H:=jB H;rcases H with ⟨rfl,H⟩ | ⟨rfl,H⟩
  ·obtain rfl:=oJ H
   go_wp2
   go_ret
   exact⟨qW,qB⟩
  replace H:=jE H;rcases H with ⟨bM,bN,H⟩ | ⟨c8,bM,bN,H⟩
  ·obtain⟨bi,A9,H⟩:=qE H
   try dsimp only at H
   replace H:=jB H;rcases H with ⟨rfl,H⟩ | ⟨rfl,H⟩
   ·obtain⟨t218,bT,H⟩:=qE H
    try dsimp only at H
    replace H:=jB H;rcases H with ⟨rfl,H⟩ | ⟨rfl,H⟩
    ·obtain⟨aY,cB,H⟩:=qE H
     try dsimp only at H
     obtain rfl:=oJ H
     have cK:=jz8 aa
     go_wp2_with (first|((with_reducible refine jc 106 18 ?_);refine jK func106 (aaQ az aA aB av ax _ _ ak _ _ au _ _ ay true true _ (kb aC HB) aD.out (kb aF HB) aG.out (kb aH HB) aI.out A9.out) ?_;intro eB hb;replace aa:=kB aa hb;replace HB:=kH hb;clear hb;have cO:=jz8 aa)|(go_at_call 107;(with_reducible refine (abh az aA aB av ax _ _ ak _ _ au _ _ ay false true _ ?ae ?af ?ag ?ah ?ai ?aj bT.out).mono ?_);(case ae=>exact kb aC HB);(case af=>exact aD.out);(case ag=>exact kb aF HB);(case ah=>exact aG.out);(case ai=>exact kb aH HB);(case aj=>exact aI.out);rintro e eD ⟨rfl,hb⟩;replace aa:=kB aa hb;replace HB:=kH hb;clear hb;have df:=jz8 aa)|(go_at_call 108;(with_reducible refine (acM bL av ax _ _ ak aY _ ?ae ?af cB.out).mono ?_);(case ae=>exact kb aC HB);(case af=>exact aD.out);rintro e eF ⟨rfl,hb⟩;replace aa:=kB aa hb;replace HB:=kH hb;clear hb))
     go_ret
     exact⟨qW,qB⟩
    obtain rfl:=oJ H
    have dh:=jz8 aa
    go_wp2_with (first|((with_reducible refine jc 106 18 ?_);refine jK func106 (aaQ az aA aB av ax _ _ ak _ _ au _ _ ay true true _ (kb aC HB) aD.out (kb aF HB) aG.out (kb aH HB) aI.out A9.out) ?_;intro eG hb;replace aa:=kB aa hb;replace HB:=kH hb;clear hb;have di:=jz8 aa)|(go_at_call 107;(with_reducible refine (abh az aA aB av ax _ _ ak _ _ au _ _ ay false false _ ?ae ?af ?ag ?ah ?ai ?aj bT.out).mono ?_);(case ae=>exact kb aC HB);(case af=>exact aD.out);(case ag=>exact kb aF HB);(case ah=>exact aG.out);(case ai=>exact kb aH HB);(case aj=>exact aI.out);rintro e eH ⟨rfl,hb⟩;replace aa:=kB aa hb;replace HB:=kH hb;clear hb))
    go_ret
    exact⟨qW,qB⟩
   obtain rfl:=oJ H
   have dn:=jz8 aa
   go_wp2_with (first|((with_reducible refine jc 106 18 ?_);refine jK func106 (aaQ az aA aB av ax _ _ ak _ _ au _ _ ay true false _ (kb aC HB) aD.out (kb aF HB) aG.out (kb aH HB) aI.out A9.out) ?_;intro eO hb;replace aa:=kB aa hb;replace HB:=kH hb;clear hb))
   go_ret
   exact⟨qW,qB⟩
  replace H:=jE H;rcases H with ⟨bB,bC,H⟩ | ⟨eP,bB,bC,H⟩
  ·obtain⟨bn,bO,H⟩:=qE H
   try dsimp only at H
   replace H:=jB H;rcases H with ⟨rfl,H⟩ | ⟨rfl,H⟩
   ·obtain⟨bq,bU,H⟩:=qE H
    try dsimp only at H
    replace H:=jB H;rcases H with ⟨rfl,H⟩ | ⟨rfl,H⟩
    ·obtain⟨t222,dw,H⟩:=qE H
     try dsimp only at H
     obtain rfl:=oJ H
     have dx:=jz8 aa
     go_wp2_with (first|((with_reducible refine jc 106 31 ?_);refine jK func106 (aaQ az aA aB av ax _ _ ak _ _ au _ _ ay false true _ (kb aC HB) aD.out (kb aF HB) aG.out (kb aH HB) aI.out bO.out) ?_;intro eQ hb;replace aa:=kB aa hb;replace HB:=kH hb;clear hb;have dz:=jz8 aa)|(go_at_call 107;(with_reducible refine (abh az aA aB av ax _ _ ak _ _ au _ _ ay true true _ ?ae ?af ?ag ?ah ?ai ?aj bU.out).mono ?_);(case ae=>exact kb aC HB);(case af=>exact aD.out);(case ag=>exact kb aF HB);(case ah=>exact aG.out);(case ai=>exact kb aH HB);(case aj=>exact aI.out);rintro e eT ⟨rfl,hb⟩;replace aa:=kB aa hb;replace HB:=kH hb;clear hb;have dA:=jz8 aa)|(go_at_call 108;(with_reducible refine (acM bL av ax _ _ ak t222 _ ?ae ?af dw.out).mono ?_);(case ae=>exact kb aC HB);(case af=>exact aD.out);rintro e eU ⟨rfl,hb⟩;replace aa:=kB aa hb;replace HB:=kH hb;clear hb))
     go_ret
     exact⟨qW,qB⟩
    obtain rfl:=oJ H
    have dB:=jz8 aa
    go_wp2_with (first|((with_reducible refine jc 106 31 ?_);refine jK func106 (aaQ az aA aB av ax _ _ ak _ _ au _ _ ay false true _ (kb aC HB) aD.out (kb aF HB) aG.out (kb aH HB) aI.out bO.out) ?_;intro eX hb;replace aa:=kB aa hb;replace HB:=kH hb;clear hb;have dC:=jz8 aa)|(go_at_call 107;(with_reducible refine (abh az aA aB av ax _ _ ak _ _ au _ _ ay true false _ ?ae ?af ?ag ?ah ?ai ?aj bU.out).mono ?_);(case ae=>exact kb aC HB);(case af=>exact aD.out);(case ag=>exact kb aF HB);(case ah=>exact aG.out);(case ai=>exact kb aH HB);(case aj=>exact aI.out);rintro e eY ⟨rfl,hb⟩;replace aa:=kB aa hb;replace HB:=kH hb;clear hb))
    go_ret
    exact⟨qW,qB⟩
   obtain rfl:=oJ H
   have dD:=jz8 aa
   go_wp2_with (first|((with_reducible refine jc 106 31 ?_);refine jK func106 (aaQ az aA aB av ax _ _ ak _ _ au _ _ ay false false _ (kb aC HB) aD.out (kb aF HB) aG.out (kb aH HB) aI.out bO.out) ?_;intro eZ hb;replace aa:=kB aa hb;replace HB:=kH hb;clear hb))
   go_ret
   exact⟨qW,qB⟩
  replace H:=jE H;rcases H with ⟨bD,bE,H⟩ | ⟨fe,bD,bE,H⟩
  ·obtain⟨bu,bP,H⟩:=qE H
   try dsimp only at H
   replace H:=jB H;rcases H with ⟨rfl,H⟩ | ⟨rfl,H⟩
   ·obtain⟨bv,bV,H⟩:=qE H
    try dsimp only at H
    replace H:=jB H;rcases H with ⟨rfl,H⟩ | ⟨rfl,H⟩
    ·obtain⟨aZ,dE,H⟩:=qE H
     try dsimp only at H
     obtain rfl:=oJ H
     have dF:=jz8 aa
     go_wp2_with (first|((with_reducible refine jc 106 44 ?_);refine jK func106 (aaQ az aA aB av ax _ _ ak _ _ au _ _ ay true true _ (kb aC HB) aD.out (kb aF HB) aG.out (kb aH HB) aI.out bP.out) ?_;intro fo hb;replace aa:=kB aa hb;replace HB:=kH hb;clear hb;have dG:=jz8 aa)|(go_at_call 107;(with_reducible refine (abh az aA aB av ax _ _ ak _ _ au _ _ ay true true _ ?ae ?af ?ag ?ah ?ai ?aj bV.out).mono ?_);(case ae=>exact kb aC HB);(case af=>exact aD.out);(case ag=>exact kb aF HB);(case ah=>exact aG.out);(case ai=>exact kb aH HB);(case aj=>exact aI.out);rintro e fq ⟨rfl,hb⟩;replace aa:=kB aa hb;replace HB:=kH hb;clear hb;have dH:=jz8 aa)|(go_at_call 118;(with_reducible refine (aij av ax _ _ ak aZ _ ?ae ?af dE.out).mono ?_);(case ae=>exact kb aC HB);(case af=>exact aD.out);rintro e fu ⟨rfl,hb⟩;replace aa:=kB aa hb;replace HB:=kH hb;clear hb))
     go_ret
     exact⟨qW,qB⟩
    obtain rfl:=oJ H
    have dI:=jz8 aa
    go_wp2_with (first|((with_reducible refine jc 106 44 ?_);refine jK func106 (aaQ az aA aB av ax _ _ ak _ _ au _ _ ay true true _ (kb aC HB) aD.out (kb aF HB) aG.out (kb aH HB) aI.out bP.out) ?_;intro fw hb;replace aa:=kB aa hb;replace HB:=kH hb;clear hb;have dJ:=jz8 aa)|(go_at_call 107;(with_reducible refine (abh az aA aB av ax _ _ ak _ _ au _ _ ay true false _ ?ae ?af ?ag ?ah ?ai ?aj bV.out).mono ?_);(case ae=>exact kb aC HB);(case af=>exact aD.out);(case ag=>exact kb aF HB);(case ah=>exact aG.out);(case ai=>exact kb aH HB);(case aj=>exact aI.out);rintro e fA ⟨rfl,hb⟩;replace aa:=kB aa hb;replace HB:=kH hb;clear hb))
    go_ret
    exact⟨qW,qB⟩
   obtain rfl:=oJ H
   have dK:=jz8 aa
   go_wp2_with (first|((with_reducible refine jc 106 44 ?_);refine jK func106 (aaQ az aA aB av ax _ _ ak _ _ au _ _ ay true false _ (kb aC HB) aD.out (kb aF HB) aG.out (kb aH HB) aI.out bP.out) ?_;intro fB hb;replace aa:=kB aa hb;replace HB:=kH hb;clear hb))
   go_ret
   exact⟨qW,qB⟩
  replace H:=jE H;rcases H with ⟨bF,bG,H⟩ | ⟨fC,bF,bG,H⟩
  ·obtain⟨t226,bQ,H⟩:=qE H
   try dsimp only at H
   replace H:=jB H;rcases H with ⟨rfl,H⟩ | ⟨rfl,H⟩
   ·obtain⟨t227,bW,H⟩:=qE H
    try dsimp only at H
    replace H:=jB H;rcases H with ⟨rfl,H⟩ | ⟨rfl,H⟩
    ·obtain⟨t228,dL,H⟩:=qE H
     try dsimp only at H
     obtain rfl:=oJ H
     have dM:=jz8 aa
     go_wp2_with (first|((with_reducible refine jc 106 57 ?_);refine jK func106 (aaQ az aA aB av ax _ _ ak _ _ au _ _ ay false true _ (kb aC HB) aD.out (kb aF HB) aG.out (kb aH HB) aI.out bQ.out) ?_;intro fD hb;replace aa:=kB aa hb;replace HB:=kH hb;clear hb;have dN:=jz8 aa)|(go_at_call 107;(with_reducible refine (abh az aA aB av ax _ _ ak _ _ au _ _ ay false true _ ?ae ?af ?ag ?ah ?ai ?aj bW.out).mono ?_);(case ae=>exact kb aC HB);(case af=>exact aD.out);(case ag=>exact kb aF HB);(case ah=>exact aG.out);(case ai=>exact kb aH HB);(case aj=>exact aI.out);rintro e fE ⟨rfl,hb⟩;replace aa:=kB aa hb;replace HB:=kH hb;clear hb;have dO:=jz8 aa)|(go_at_call 118;(with_reducible refine (aij av ax _ _ ak t228 _ ?ae ?af dL.out).mono ?_);(case ae=>exact kb aC HB);(case af=>exact aD.out);rintro e fF ⟨rfl,hb⟩;replace aa:=kB aa hb;replace HB:=kH hb;clear hb))
     go_ret
     exact⟨qW,qB⟩
    obtain rfl:=oJ H
    have dP:=jz8 aa
    go_wp2_with (first|((with_reducible refine jc 106 57 ?_);refine jK func106 (aaQ az aA aB av ax _ _ ak _ _ au _ _ ay false true _ (kb aC HB) aD.out (kb aF HB) aG.out (kb aH HB) aI.out bQ.out) ?_;intro fG hb;replace aa:=kB aa hb;replace HB:=kH hb;clear hb;have dQ:=jz8 aa)|(go_at_call 107;(with_reducible refine (abh az aA aB av ax _ _ ak _ _ au _ _ ay false false _ ?ae ?af ?ag ?ah ?ai ?aj bW.out).mono ?_);(case ae=>exact kb aC HB);(case af=>exact aD.out);(case ag=>exact kb aF HB);(case ah=>exact aG.out);(case ai=>exact kb aH HB);(case aj=>exact aI.out);rintro e fH ⟨rfl,hb⟩;replace aa:=kB aa hb;replace HB:=kH hb;clear hb))
    go_ret
    exact⟨qW,qB⟩
   obtain rfl:=oJ H
   have dR:=jz8 aa
   go_wp2_with (first|((with_reducible refine jc 106 57 ?_);refine jK func106 (aaQ az aA aB av ax _ _ ak _ _ au _ _ ay false false _ (kb aC HB) aD.out (kb aF HB) aG.out (kb aH HB) aI.out bQ.out) ?_;intro fI hb;replace aa:=kB aa hb;replace HB:=kH hb;clear hb))
   go_ret
   exact⟨qW,qB⟩
  replace H:=jE H;rcases H with ⟨bH,bI,H⟩ | ⟨c80,bH,bI,H⟩
  ·obtain⟨t229,bR,H⟩:=qE H
   try dsimp only at H
   replace H:=jB H;rcases H with ⟨rfl,H⟩ | ⟨rfl,H⟩
   ·obtain⟨bz,bX,H⟩:=qE H
    try dsimp only at H
    replace H:=jB H;rcases H with ⟨rfl,H⟩ | ⟨rfl,H⟩
    ·obtain⟨bg,dS,H⟩:=qE H
     try dsimp only at H
     obtain rfl:=oJ H
     have dU:=jz8 aa
     go_wp2_with (first|((with_reducible refine jc 106 70 ?_);refine jK func106 (aaQ az aA aB av ax _ _ ak _ _ au _ _ ay false true _ (kb aC HB) aD.out (kb aF HB) aG.out (kb aH HB) aI.out bR.out) ?_;intro fJ hb;replace aa:=kB aa hb;replace HB:=kH hb;clear hb;have dV:=jz8 aa)|(go_at_call 107;(with_reducible refine (abh az aA aB av ax _ _ ak _ _ au _ _ ay false true _ ?ae ?af ?ag ?ah ?ai ?aj bX.out).mono ?_);(case ae=>exact kb aC HB);(case af=>exact aD.out);(case ag=>exact kb aF HB);(case ah=>exact aG.out);(case ai=>exact kb aH HB);(case aj=>exact aI.out);rintro e fK ⟨rfl,hb⟩;replace aa:=kB aa hb;replace HB:=kH hb;clear hb;have dW:=jz8 aa)|(go_at_call 108;(with_reducible refine (acM bL av ax _ _ ak bg _ ?ae ?af dS.out).mono ?_);(case ae=>exact kb aC HB);(case af=>exact aD.out);rintro e fM ⟨rfl,hb⟩;replace aa:=kB aa hb;replace HB:=kH hb;clear hb))
     go_ret
     exact⟨qW,qB⟩
    obtain rfl:=oJ H
    have dX:=jz8 aa
    go_wp2_with (first|((with_reducible refine jc 106 70 ?_);refine jK func106 (aaQ az aA aB av ax _ _ ak _ _ au _ _ ay false true _ (kb aC HB) aD.out (kb aF HB) aG.out (kb aH HB) aI.out bR.out) ?_;intro fO hb;replace aa:=kB aa hb;replace HB:=kH hb;clear hb;have dY:=jz8 aa)|(go_at_call 107;(with_reducible refine (abh az aA aB av ax _ _ ak _ _ au _ _ ay false false _ ?ae ?af ?ag ?ah ?ai ?aj bX.out).mono ?_);(case ae=>exact kb aC HB);(case af=>exact aD.out);(case ag=>exact kb aF HB);(case ah=>exact aG.out);(case ai=>exact kb aH HB);(case aj=>exact aI.out);rintro e fP ⟨rfl,hb⟩;replace aa:=kB aa hb;replace HB:=kH hb;clear hb))
    go_ret
    exact⟨qW,qB⟩
   obtain rfl:=oJ H
   have dZ:=jz8 aa
   go_wp2_with (first|((with_reducible refine jc 106 70 ?_);refine jK func106 (aaQ az aA aB av ax _ _ ak _ _ au _ _ ay false false _ (kb aC HB) aD.out (kb aF HB) aG.out (kb aH HB) aI.out bR.out) ?_;intro fQ hb;replace aa:=kB aa hb;replace HB:=kH hb;clear hb))
   go_ret
   exact⟨qW,qB⟩
  obtain rfl:=oJ H
  have d9:=jz8 aa
  go_wp2
  go_ret
  exact⟨qW,qB⟩
mutual
def adL:Nat->Int->Bool->Int->Int->Int->Int->Int->List S90->List S92->List S92->Option (Bool)
 | 0,_,_,_,_,_,_,_,_,_,_=>none
 | k+1,x1,dL,xa,xb,xc,xd,xe,xf,xg,xh=>if dL=true then ((anE k xa xb xc xd xe xf xg xh).bind fun t233=>(some t233)) else (if x1 < 1 then (afh k x1 true xa xb xc xd xe xf xg xh) else (if xa=3 then (afh k x1 (decide ((xh.length:Int) > 0)) xa xb xc xd xe xf xg xh) else (afh k x1 false xa xb xc xd xe xf xg xh)))
def afh:Nat->Int->Bool->Int->Int->Int->Int->Int->List S90->List S92->List S92->Option (Bool)
 | 0,_,_,_,_,_,_,_,_,_,_=>none
 | k+1,x1,x27,xa,xb,xc,xd,xe,xf,xg,xh=>if x27=true then (some false) else ((agB xa xb xc xd xe xf xg xh false).bind fun t234=>(if t234=true then ((agD xa xb xc xd xe xf xg xh false).bind fun cO=>(if cO=true then ((aj2 k xd xe xf).bind fun t236=>(if t236=true then ((SaD.f k xg (wrap64 (x1 - 1))).bind fun df=>(if df=true then ((SaD.f k xh (wrap64 (x1 - 1))).bind fun cu=>(some cu)) else (some false))) else (some false))) else (some false))) else (some false)))
def agC:Nat->Int->Int->Int->Int->Int->List S90->List S92->List S92->Int->Option (Bool)
 | 0,_,_,_,_,_,_,_,_,_=>none
 | k+1,av,aC,aD,az,aA,au,ax,ay,a1=>if av=2 then (adL k a1 false av aC aD az aA au ax ay) else (adL k a1 (av != 3) av aC aD az aA au ax ay)
def aeH:Nat->List S92->Int->Int->Option (Bool)
 | 0,_,_,_=>none
 | k+1,x0,x1,x5=>if x5 < (x0.length:Int) then (if 0<=x5 then ((agC k ((aaj x0 x5).f0) ((aaj x0 x5).f1) ((aaj x0 x5).f2) ((aaj x0 x5).f3.f0) ((aaj x0 x5).f3.f1) ((aaj x0 x5).f3.f2) ((aaj x0 x5).f4) ((aaj x0 x5).f5) x1).bind fun dh=>(if dh=true then (aeH k x0 x1 (wrap64 (x5+1))) else (some false))) else (none)) else (some true)
def SaD.f:Nat->List S92->Int->Option (Bool)
 | 0,_,_=>none
 | k+1,l0,a1=>aeH k l0 a1 0
end
@[reducible] def afB (k:Nat):Prop:=∀ (av:Int) (aC:Int) (aD:Int) (az:Int) (aA:Int) (bi:Option Addr) (bn:Nat) (au:List S90) (bq:Option Addr) (bu:Nat) (ax:List S92) (bv:Option Addr) (bz:Nat) (ay:List S92) (a1:Int) (r:Bool) (w:World) (bR:Kd.C k90 w bi au.length au) (bS:au.length<=bn) (bT:Kd.C k92 w bq ax.length ax) (bU:ax.length<=bu) (bV:Kd.C k92 w bv ay.length ay) (bW:ay.length<=bz) (h:agC k av aC aD az aA au ax ay a1=some r),
  Calls prog 88 #[.agg #[iV av,iV aC,iV aD,iV az,iV aA,.slice bi au.length bn,.slice bq ax.length bu,.slice bv ay.length bz],iV a1] w fun e w'=>e = .returned (.bool r)/\Below w.heap.size w w'
@[reducible] def SaD.stmt (k:Nat):Prop:=∀ (A0:Option Addr) (c0:Nat) (l0:List S92) (a1:Int) (r:Bool) (w:World) (hr0:Kd.C k92 w A0 l0.length l0) (hc0:l0.length<=c0) (h:SaD.f k l0 a1=some r),
  Calls prog 80 #[.slice A0 l0.length c0,iV a1] w fun e w'=>e = .returned (.bool r)/\Below w.heap.size w w'
theorem SaG.step (k:Nat) (aB:∀ m_,m_ < k->SaD.stmt m_) (ih:∀ m_,m_ < k->afB m_):afB k:=by
 intro av aC aD az aA bi bn au bq bu ax bv bz ay a1 r w bR bS bT bU bV bW h
 cases k with
 | zero=>exact absurd h (by simp [agC])
 | succ k =>
 simp only [agC] at h
 have dB:=underlying92
 have dM:=underlying90
 have aF:=aM bR
 have aG:=aM bS
 clear bR bS
 have aH:=aM bT
 have aI:=aM bU
 clear bT bU
 have aJ:=aM bV
 have aK:=aM bW
 clear bV bW
 have HB:=jb_ w
 have H:(if av=2 then (adL k a1 false av aC aD az aA au ax ay) else (adL k a1 (av != 3) av aC aD az aA au ax ay))=some r:=h
 clear h
 have dC:=aM H
 clear H
 go_enter func88,ntmps88
 go_upto_region 1 with (first|((with_reducible refine jd 2 ?_);(try (refine aah (by rfl) ?_;dsimp only));refine jY _ 92 ?_;intro bZ hg w4 aa hb;have dH:=kG hg;replace HB:=kH hb;clear hb hg))
 (try simp only [Act.put,List.setIfInBounds_toArray,List.set_cons_zero,List.set_cons_succ])
 go_cut [12] (fun v12 wc=>∃ (kq:Nat) (bX:Bool),v12 = .bool bX/\aa1 (adL kq a1 bX av aC aD az aA au ax ay=some r)/\aa1 (kq<=k)/\aa1 (wc.heap[bZ]?=some (.cells #[iV av,iV aC,iV aD,iV az,iV aA,(.slice bi au.length bn),(.slice bq ax.length bu),(.slice bv ay.length bz)] 92 (0,0)))/\aa1 (Below w.heap.size w wc))
 case first =>
  have H:=dC.out
  clear dC
  replace H:=jE H;rcases H with ⟨bY,dD,H⟩ | ⟨c5,bY,dD,H⟩
  ·(first|rw [bY]|(simp only [aau,aaD];rw [bY])|skip)
   have H':=aM H
   clear H
   have eP:=jz8 aa
   go_wp2
   go_meet
   exact⟨_,(false),qZ,H',⟨by first|omega|exact Nat.le_refl _⟩,⟨qK aa⟩,⟨qB⟩⟩
  (first|rw [bY]|(simp only [aau,aaD];rw [bY])|skip)
  have H':=aM H
  clear H
  have eQ:=jz8 aa
  go_wp2
  go_meet
  exact⟨_,((av != 3)),qZ,H',⟨by first|omega|exact Nat.le_refl _⟩,⟨qK aa⟩,⟨qB⟩⟩
 clear dC
 obtain⟨kq,bX,rfl,HA,HJ2,aa,HB⟩:=hcut
 cases kq with
 | zero=>exact absurd HA.out (by simp [adL])
 | succ dI =>
  have H:=HA.out
  clear HA
  simp only [adL] at H
  replace H:=jB H;rcases H with ⟨rfl,H⟩ | ⟨rfl,H⟩
  ·obtain⟨t233,A9,H⟩:=qE H
   try dsimp only at H
   obtain rfl:=oJ H
   have dN:=jz8 aa
   go_wp2_with (first|((with_reducible refine jc 105 14 ?_);refine jK func105 (amG dI av aC aD az aA _ _ au _ _ ax _ _ ay t233 _ (kb aF HB) aG.out (kb aH HB) aI.out (kb aJ HB) aK.out A9.out) ?_;intro eT hb;replace aa:=kB aa hb;replace HB:=kH hb;clear hb))
   go_ret
   exact⟨qW,qB⟩
  have cz:=aM H
  clear H
  go_upto_region 3 with (fail)
  go_cut [27] (fun v27 wc=>∃ (kq:Nat) (bH:Bool),v27 = .bool bH/\aa1 (afh kq a1 bH av aC aD az aA au ax ay=some r)/\aa1 (kq<=dI)/\aa1 (wc.heap[bZ]?=some (.cells #[iV av,iV aC,iV aD,iV az,iV aA,(.slice bi au.length bn),(.slice bq ax.length bu),(.slice bv ay.length bz)] 92 (0,0)))/\aa1 (Below w.heap.size w wc))
  case first =>
   have H:=cz.out
   clear cz
   replace H:=jD H;rcases H with ⟨bG,H⟩ | ⟨bG,H⟩
   ·(first|rw [bG]|(simp only [aau,aaD];rw [bG])|skip)
    have H':=aM H
    clear H
    go_wp2
    go_meet
    exact⟨_,(true),qZ,H',⟨by have:=HJ2.out;first|omega|exact Nat.le_refl _⟩,⟨qK aa⟩,⟨qB⟩⟩
   (first|rw [bG]|(simp only [aau,aaD];rw [bG])|skip)
   replace H:=jE H;rcases H with ⟨di,dn,H⟩ | ⟨c14,di,dn,H⟩
   ·have H':=aM H
    clear H
    have dO:=jz8 aa
    go_wp2
    go_meet
    exact⟨_,(decide ((ay.length:Int) > 0)),qZ,H',⟨by have:=HJ2.out;first|omega|exact Nat.le_refl _⟩,⟨qK aa⟩,⟨qB⟩⟩
   have H':=aM H
   clear H
   have dP:=jz8 aa
   go_wp2
   go_meet
   exact⟨_,(false),qZ,H',⟨by have:=HJ2.out;first|omega|exact Nat.le_refl _⟩,⟨qK aa⟩,⟨qB⟩⟩
  clear cz
  obtain⟨kq,bH,rfl,HA,cB,aa,HB⟩:=hcut
  cases kq with
  | zero=>exact absurd HA.out (by simp [afh])
  | succ bQ =>
   have H:=HA.out
   clear HA
   simp only [afh] at H
   replace H:=jB H;rcases H with ⟨rfl,H⟩ | ⟨rfl,H⟩
   ·obtain rfl:=oJ H
    go_wp2
    go_ret
    exact⟨qW,qB⟩
   obtain⟨t234,dw,H⟩:=qE H
   try dsimp only at H
   replace H:=jB H;rcases H with ⟨rfl,H⟩ | ⟨rfl,H⟩
   ·obtain⟨cO,dz,H⟩:=qE H
    try dsimp only at H
    replace H:=jB H;rcases H with ⟨rfl,H⟩ | ⟨rfl,H⟩
    ·obtain⟨t236,dE,H⟩:=qE H
     try dsimp only at H
     replace H:=jB H;rcases H with ⟨rfl,H⟩ | ⟨rfl,H⟩
     ·obtain⟨df,dJ,H⟩:=qE H
      try dsimp only at H
      replace H:=jB H;rcases H with ⟨rfl,H⟩ | ⟨rfl,H⟩
      ·obtain⟨cu,dQ,H⟩:=qE H
       try dsimp only at H
       obtain rfl:=oJ H
       have dR:=jz8 aa
       go_wp2_with (first|((with_reducible refine jc 106 29 ?_);refine jK func106 (aaQ av aC aD az aA _ _ au _ _ ax _ _ ay false true _ (kb aF HB) aG.out (kb aH HB) aI.out (kb aJ HB) aK.out dw.out) ?_;intro eU hb;replace aa:=kB aa hb;replace HB:=kH hb;clear hb;have dS:=jz8 aa)|(go_at_call 107;(with_reducible refine (abh av aC aD az aA _ _ au _ _ ax _ _ ay false true _ ?ae ?af ?ah ?ai ?aj ?ak dz.out).mono ?_);(case ae=>exact kb aF HB);(case af=>exact aG.out);(case ah=>exact kb aH HB);(case ai=>exact aI.out);(case aj=>exact kb aJ HB);(case ak=>exact aK.out);rintro e eX ⟨rfl,hb⟩;replace aa:=kB aa hb;replace HB:=kH hb;clear hb;have dU:=jz8 aa)|(go_at_call 108;(with_reducible refine (acM bQ az aA _ _ au true _ ?ae ?af dE.out).mono ?_);(case ae=>exact kb aF HB);(case af=>exact aG.out);rintro e w32 ⟨rfl,hb⟩;replace aa:=kB aa hb;replace HB:=kH hb;clear hb;have dV:=jz8 aa)|(go_at_call 80;(with_reducible refine (aB bQ (by have:=HJ2.out;have:=cB.out;omega) _ _ ax (wrap64 (a1 - 1)) true _ ?ae ?af dJ.out).mono ?_);(case ae=>exact kb aH HB);(case af=>exact aI.out);rintro e eY ⟨rfl,hb⟩;replace aa:=kB aa hb;replace HB:=kH hb;clear hb;have dW:=jz8 aa)|(go_at_call 80;(with_reducible refine (aB bQ (by have:=HJ2.out;have:=cB.out;omega) _ _ ay (wrap64 (a1 - 1)) cu _ ?ae ?af dQ.out).mono ?_);(case ae=>exact kb aJ HB);(case af=>exact aK.out);rintro e eZ ⟨rfl,hb⟩;replace aa:=kB aa hb;replace HB:=kH hb;clear hb))
       go_ret
       exact⟨qW,qB⟩
      obtain rfl:=oJ H
      have dX:=jz8 aa
      go_wp2_with (first|((with_reducible refine jc 106 29 ?_);refine jK func106 (aaQ av aC aD az aA _ _ au _ _ ax _ _ ay false true _ (kb aF HB) aG.out (kb aH HB) aI.out (kb aJ HB) aK.out dw.out) ?_;intro fe hb;replace aa:=kB aa hb;replace HB:=kH hb;clear hb;have dY:=jz8 aa)|(go_at_call 107;(with_reducible refine (abh av aC aD az aA _ _ au _ _ ax _ _ ay false true _ ?ae ?af ?ah ?ai ?aj ?ak dz.out).mono ?_);(case ae=>exact kb aF HB);(case af=>exact aG.out);(case ah=>exact kb aH HB);(case ai=>exact aI.out);(case aj=>exact kb aJ HB);(case ak=>exact aK.out);rintro e fo ⟨rfl,hb⟩;replace aa:=kB aa hb;replace HB:=kH hb;clear hb;have dZ:=jz8 aa)|(go_at_call 108;(with_reducible refine (acM bQ az aA _ _ au true _ ?ae ?af dE.out).mono ?_);(case ae=>exact kb aF HB);(case af=>exact aG.out);rintro e fq ⟨rfl,hb⟩;replace aa:=kB aa hb;replace HB:=kH hb;clear hb;have d9:=jz8 aa)|(go_at_call 80;(with_reducible refine (aB bQ (by have:=HJ2.out;have:=cB.out;omega) _ _ ax (wrap64 (a1 - 1)) false _ ?ae ?af dJ.out).mono ?_);(case ae=>exact kb aH HB);(case af=>exact aI.out);rintro e fu ⟨rfl,hb⟩;replace aa:=kB aa hb;replace HB:=kH hb;clear hb))
      go_ret
      exact⟨qW,qB⟩
     obtain rfl:=oJ H
     have ed:=jz8 aa
     go_wp2_with (first|((with_reducible refine jc 106 29 ?_);refine jK func106 (aaQ av aC aD az aA _ _ au _ _ ax _ _ ay false true _ (kb aF HB) aG.out (kb aH HB) aI.out (kb aJ HB) aK.out dw.out) ?_;intro fw hb;replace aa:=kB aa hb;replace HB:=kH hb;clear hb;have ek:=jz8 aa)|(go_at_call 107;(with_reducible refine (abh av aC aD az aA _ _ au _ _ ax _ _ ay false true _ ?ae ?af ?ah ?ai ?aj ?ak dz.out).mono ?_);(case ae=>exact kb aF HB);(case af=>exact aG.out);(case ah=>exact kb aH HB);(case ai=>exact aI.out);(case aj=>exact kb aJ HB);(case ak=>exact aK.out);rintro e fA ⟨rfl,hb⟩;replace aa:=kB aa hb;replace HB:=kH hb;clear hb;have eu:=jz8 aa)|(go_at_call 108;(with_reducible refine (acM bQ az aA _ _ au false _ ?ae ?af dE.out).mono ?_);(case ae=>exact kb aF HB);(case af=>exact aG.out);rintro e fB ⟨rfl,hb⟩;replace aa:=kB aa hb;replace HB:=kH hb;clear hb))
     go_ret
     exact⟨qW,qB⟩
    obtain rfl:=oJ H
    have eB:=jz8 aa
    go_wp2_with (first|((with_reducible refine jc 106 29 ?_);refine jK func106 (aaQ av aC aD az aA _ _ au _ _ ax _ _ ay false true _ (kb aF HB) aG.out (kb aH HB) aI.out (kb aJ HB) aK.out dw.out) ?_;intro fC hb;replace aa:=kB aa hb;replace HB:=kH hb;clear hb;have eD:=jz8 aa)|(go_at_call 107;(with_reducible refine (abh av aC aD az aA _ _ au _ _ ax _ _ ay false false _ ?ae ?af ?ah ?ai ?aj ?ak dz.out).mono ?_);(case ae=>exact kb aF HB);(case af=>exact aG.out);(case ah=>exact kb aH HB);(case ai=>exact aI.out);(case aj=>exact kb aJ HB);(case ak=>exact aK.out);rintro e fD ⟨rfl,hb⟩;replace aa:=kB aa hb;replace HB:=kH hb;clear hb))
    go_ret
    exact⟨qW,qB⟩
   obtain rfl:=oJ H
   have eF:=jz8 aa
   go_wp2_with (first|((with_reducible refine jc 106 29 ?_);refine jK func106 (aaQ av aC aD az aA _ _ au _ _ ax _ _ ay false false _ (kb aF HB) aG.out (kb aH HB) aI.out (kb aJ HB) aK.out dw.out) ?_;intro fE hb;replace aa:=kB aa hb;replace HB:=kH hb;clear hb))
   go_ret
   exact⟨qW,qB⟩
theorem SaD.step (k:Nat) (ih:∀ m_,m_ < k->SaD.stmt m_) (aL:∀ m_,m_ < k->afB m_):SaD.stmt k:=by
 intro A0 c0 l0 a1 r w hr0 hc0 h
 cases k with
 | zero=>exact absurd h (by simp [SaD.f])
 | succ k =>
 simp only [SaD.f] at h
 have dB:=underlying92
 have dK:=aM hr0
 have fF:=aM hc0
 clear hr0 hc0
 have HB:=jb_ w
 have H:(aeH k l0 a1 0)=some r:=h
 clear h
 have H':=aM H
 clear H
 go_enter func80,ntmps80
 go_wp2
 go_loopg [5] k (fun kq v5 w'=>∃ (ag:Int),v5 = iV ag/\aa1 (aeH kq l0 a1 ag=some r)/\aa1 (kq<=k)/\aa1 (Below w.heap.size w w'))
 case atStart=>exact⟨(0),qZ,H',⟨Nat.le_refl _⟩,⟨qB⟩⟩
 clear H'
 obtain⟨ag,rfl,HA,dA,HB⟩:=hrel
 rcases gk with _|k1
 ·exact absurd HA.out (by simp [aeH])
 have H:=HA.out
 clear HA
 simp only [aeH] at H
 replace H:=jD H;rcases H with ⟨dF,H⟩ | ⟨dF,H⟩
 ·replace H:=jI H;obtain⟨eG,H⟩:=H
  obtain⟨dh,A5,H⟩:=qE H
  try dsimp only at H
  replace H:=jB H;rcases H with ⟨rfl,H⟩ | ⟨rfl,H⟩
  ·have H':=aM H
   clear H
   have bI:0<=(ag:Int):=qD
   have bJ:ag < (l0.length:Int):=qD
   obtain⟨dx,bK,bL,bM,bN,bO,bP,cK,aN,aO,aP,aQ,aR,aS,aT,aU,aV,aW,aX,aY,aZ,bg⟩:=ai1 dK.out ag bI bJ
   cases cK
   replace aN:=kx HB aN
   replace aO:=kx HB aO
   replace aP:=kx HB aP
   replace aQ:=kx HB aQ
   replace aR:=kx HB aR
   replace aS:=kx HB aS
   replace aT:=kx HB aT
   replace aU:=kx HB aU
   have bA:=aM aW
   have bB:=aM aV
   clear aW aV
   have bC:=aM aY
   have bD:=aM aX
   clear aY aX
   have bE:=aM bg
   have bF:=aM aZ
   clear bg aZ
   replace bI:=eq_true bI
   replace bJ:=eq_true bJ
   go_wp2_with (first|((with_reducible refine jc 88 17 ?_);refine jK func88 (aL k1 (by have:=dA.out;omega) ((aaj l0 ag).f0) ((aaj l0 ag).f1) ((aaj l0 ag).f2) ((aaj l0 ag).f3.f0) ((aaj l0 ag).f3.f1) _ _ ((aaj l0 ag).f3.f2) _ _ ((aaj l0 ag).f4) _ _ ((aaj l0 ag).f5) a1 true _ (kb bA HB) bB.out (kb bC HB) bD.out (kb bE HB) bF.out A5.out) ?_;intro dG hb;replace HB:=kH hb;clear hb))
   go_roundg k1
   case measure=>have:=dA.out;omega
   exact⟨_,qZ,H',⟨by have:=dA.out;omega⟩,⟨qB⟩⟩
  obtain rfl:=oJ H
  have bI:0<=(ag:Int):=qD
  have bJ:ag < (l0.length:Int):=qD
  obtain⟨dx,bK,bL,bM,bN,bO,bP,cK,aN,aO,aP,aQ,aR,aS,aT,aU,aV,aW,aX,aY,aZ,bg⟩:=ai1 dK.out ag bI bJ
  cases cK
  replace aN:=kx HB aN
  replace aO:=kx HB aO
  replace aP:=kx HB aP
  replace aQ:=kx HB aQ
  replace aR:=kx HB aR
  replace aS:=kx HB aS
  replace aT:=kx HB aT
  replace aU:=kx HB aU
  have bA:=aM aW
  have bB:=aM aV
  clear aW aV
  have bC:=aM aY
  have bD:=aM aX
  clear aY aX
  have bE:=aM bg
  have bF:=aM aZ
  clear bg aZ
  replace bI:=eq_true bI
  replace bJ:=eq_true bJ
  go_wp2_with (first|((with_reducible refine jc 88 17 ?_);refine jK func88 (aL k1 (by have:=dA.out;omega) ((aaj l0 ag).f0) ((aaj l0 ag).f1) ((aaj l0 ag).f2) ((aaj l0 ag).f3.f0) ((aaj l0 ag).f3.f1) _ _ ((aaj l0 ag).f3.f2) _ _ ((aaj l0 ag).f4) _ _ ((aaj l0 ag).f5) a1 false _ (kb bA HB) bB.out (kb bC HB) bD.out (kb bE HB) bF.out A5.out) ?_;intro dG hb;replace HB:=kH hb;clear hb))
  go_ret
  exact⟨qW,qB⟩
 obtain rfl:=oJ H
 go_wp2
 go_ret
 exact⟨qW,qB⟩
theorem SaG.grp.calls (k:Nat):afB k/\SaD.stmt k:=by
 induction k using Nat.strongRecOn with
 | _ k ih=>exact⟨SaG.step k (fun m_ h_=>(ih m_ h_).2) (fun m_ h_=>(ih m_ h_).1),SaD.step k (fun m_ h_=>(ih m_ h_).2) (fun m_ h_=>(ih m_ h_).1)⟩
theorem aik (k:Nat):SaD.stmt k:=(SaG.grp.calls k).2
def amJ (k:Nat) (l0:List S92):Option (Bool):=(SaD.f k l0 3).bind fun ag=>(if ag=true then ((SaF.f k l0).bind fun af=>(some (decide (af<=16)))) else (some false))
theorem aim (k:Nat) (A0:Option Addr) (c0:Nat) (l0:List S92) (r:Bool) (w:World) (hr0:Kd.C k92 w A0 l0.length l0) (hc0:l0.length<=c0) (h:amJ k l0=some r) :
  Calls prog 71 #[.slice A0 l0.length c0] w fun e w'=>e = .returned (.bool r)/\Below w.heap.size w w':=by
 have ah:=aM hr0
 have ai:=aM hc0
 clear hr0 hc0
 have HB:=jb_ w
 have H:=h;unfold amJ at H
 clear h
 obtain⟨ag,A2,H⟩:=qE H
 try dsimp only at H
 replace H:=jB H;rcases H with ⟨rfl,H⟩ | ⟨rfl,H⟩
 ·obtain⟨af,A4,H⟩:=qE H
  try dsimp only at H
  obtain rfl:=oJ H
  go_enter func71,ntmps71
  go_wp2_with (first|((with_reducible refine jc 80 4 ?_);refine jK func80 (aik k _ _ l0 3 true _ (kC ah.out) ai.out A2.out) ?_;intro w5 hb;replace HB:=kH hb;clear hb)|(go_at_call 74;(with_reducible refine (SaF.calls k _ _ l0 af _ ?aa ?ae A4.out).mono ?_);(case aa=>exact kb ah HB);(case ae=>exact ai.out);rintro e w6 ⟨rfl,hb⟩;replace HB:=kH hb;clear hb))
  go_ret
  exact⟨qW,qB⟩
 obtain rfl:=oJ H
 go_enter func71,ntmps71
 go_wp2_with (first|((with_reducible refine jc 80 4 ?_);refine jK func80 (aik k _ _ l0 3 false _ (kC ah.out) ai.out A2.out) ?_;intro w7 hb;replace HB:=kH hb;clear hb))
 go_ret
 exact⟨qW,qB⟩
end Go.Proofs.YtebpplallecogaaGreat.M
namespace Go.Proofs.YtebpplallecogaaGreat.M
open Go.Proofs.Tryz Go.RowKit Go.Proofs.YtebpplallecogaaGreatW.PrintWords Go.Proofs.YtebpplallecogaaGreatW.PrintLast Go.Proofs.YtebpplallecogaaGreatW.PrintMore Kd
attribute [local go_sem] aan aal aay aax aaf aae aam aak
def adS:Nat->Int->Int->List S90->Int->Option ((List S27))
 | 0,_,_,_,_=>none
 | k+1,aG,ag,ae,a1=>if aG=0 then (some (([(⟨1,a1,0,0,ag⟩:S27)]:List S27))) else (if aG=13 then (some (([(⟨2,a1,ag,0,0⟩:S27)]:List S27))) else (if 0 < (ae.length:Int) then ((adS k ((aaK ae 0).f0) ((aaK ae 0).f1) ((aaK ae 0).f2) a1).bind fun aZ=>(if 1 < (ae.length:Int) then ((adS k ((aaK ae 1).f0) ((aaK ae 1).f1) ((aaK ae 1).f2) (wrap64 (a1+1))).bind fun aK=>(if aZ.length+aK.length < 3518437208883 then ((some (aZ ++ aK:List S27)).bind fun bi=>(if bi.length < 3518437208883 then (some (bi ++ [(⟨3,a1,a1,wrap64 (a1+1),aG⟩:S27)])) else (none))) else (none))) else (none))) else (none)))
def aoo:Bool × List (List Nat × List Nat):=(true,[([],[]),([0],[0]),([1],[1]),([2],[2]),([],[]),([3,4],[3,4]),([],[]),([6],[6]),([7],[7]),([8],[8]),([],[]),([10],[10]),([9,11,5],[9,11]),([5,12,12],[5,12]),([13,13,0,1,2,3,4,5,6,7,8,9,10,11,12,13],[13])])
def aqy:List Nat:=[0,1,3,7,0,31,0,64,192,448,0,1024,4095,8191,16383]
theorem anD:abL .any (opsOf f89 5)=aoo:=by kernel_rfl
theorem amF:ab0 aoo.2 aqy=true:=by kernel_rfl
theorem abB (k:Nat):∀ (aG:Int) (ag:Int) (bL:Option Addr) (bg:Nat) (ae:List S90) (a1:Int) (r:List S27) (w:World) (bn:Kd.C k90 w bL ae.length ae) (bq:ae.length<=bg) (h:adS k aG ag ae a1=some r),
  Calls prog 89 #[.agg #[iV aG,iV ag,.slice bL ae.length bg],iV a1] w fun e w'=>∃ di:Value,e = .returned (di)/\Kd.R k27 27 w' w.heap.size (fun _=>True) di r/\Below w.heap.size w w':=by
 induction k using Nat.strongRecOn with
 | _ k ih =>
 intro aG ag bL bg ae a1 r w bn bq h
 cases k with
 | zero=>exact absurd h (by simp [adS])
 | succ k =>
 simp only [adS] at h
 have dF:=underlying90
 have dG:=underlying27
 have bJ:=aM bn
 have dn:=aM bq
 clear bn bq
 have HB:=jb_ w
 have H:=h
 clear h
 replace H:=jE H;rcases H with ⟨cu,cz,H⟩ | ⟨c3,cu,cz,H⟩
 ·obtain⟨dH,aN⟩:=ky ((([(⟨1,a1,0,0,ag⟩:S27)]:List S27)):List S27)
  replace H:=kv aN H
  obtain rfl:=oJ H
  go_enter func89,ntmps89
  go_wp2_with (first|((with_reducible refine jd 2 ?_);refine jY _ 90 ?_;intro aI hg w4 aa hb;have bK:=kG hg;replace HB:=kH hb;clear hb hg;have dY:=jz3 aa)|((with_reducible refine jd 13 ?_);refine jV k27 27 ([(⟨1,a1,0,0,ag⟩:S27)]:List S27) [iV 1,iV a1,iV 0,iV 0,iV ag] (ahA (show Kd.M k27 _ _ _ (⟨1,a1,0,0,ag⟩:S27) [iV 1,iV a1,iV 0,iV 0,iV ag] from (aaU _ _ _ (⟨1,a1,0,0,ag⟩:S27) )) (aa9 _ _)) ?_;intro dI w6 bQ hb;replace bQ:=kr aN bQ;have bR:=kL bQ;replace aa:=kB aa hb;replace HB:=kH hb;clear hb bQ))
  go_ret
  exact⟨_,qW,qR bR,qB⟩
 replace H:=jE H;rcases H with ⟨cB,cK,H⟩ | ⟨c8,cB,cK,H⟩
 ·obtain⟨dJ,aQ⟩:=ky ((([(⟨2,a1,ag,0,0⟩:S27)]:List S27)):List S27)
  replace H:=kv aQ H
  obtain rfl:=oJ H
  go_enter func89,ntmps89
  go_wp2_with (first|((with_reducible refine jd 2 ?_);refine jY _ 90 ?_;intro aI hg w9 aa hb;have bK:=kG hg;replace HB:=kH hb;clear hb hg;have dK:=jz3 aa)|((with_reducible refine jd 21 ?_);refine jV k27 27 ([(⟨2,a1,ag,0,0⟩:S27)]:List S27) [iV 2,iV a1,iV ag,iV 0,iV 0] (ahA (show Kd.M k27 _ _ _ (⟨2,a1,ag,0,0⟩:S27) [iV 2,iV a1,iV ag,iV 0,iV 0] from (aaU _ _ _ (⟨2,a1,ag,0,0⟩:S27) )) (aa9 _ _)) ?_;intro dL dZ bu hb;replace bu:=kr aQ bu;have bS:=kL bu;replace aa:=kB aa hb;replace HB:=kH hb;clear hb bu))
  go_ret
  exact⟨_,qW,qR bS,qB⟩
 replace H:=jU H;obtain⟨c13,H⟩:=H
 have dw:=decide_eq_true c13
 have dx:decide (0 < ae.length)=true:=decide_eq_true (by omega)
 clear c13
 obtain⟨aZ,dM,H⟩:=qE H
 try dsimp only at H
 replace H:=jU H;obtain⟨c15,H⟩:=H
 have dz:=decide_eq_true c15
 have dA:decide (1 < ae.length)=true:=decide_eq_true (by omega)
 clear c15
 obtain⟨aK,dN,H⟩:=qE H
 try dsimp only at H
 replace H:=jL H;obtain⟨bT,H⟩:=H
 obtain⟨bi,bv⟩:=ky ((aZ ++ aK):List S27)
 replace H:=kv bv H
 replace H:=jL H;obtain⟨bU,H⟩:=H
 obtain⟨dO,bz⟩:=ky ((bi ++ [(⟨3,a1,a1,wrap64 (a1+1),aG⟩:S27)]):List S27)
 replace H:=kv bz H
 obtain rfl:=oJ H
 go_enter func89,ntmps89
 try go_wp2_with (first|((with_reducible refine jd 2 ?_);refine jY _ 90 ?_;intro aI hg dP aa hb;have bK:=kG hg;replace HB:=kH hb;clear hb hg;have dQ:=jz3 aa))
 replace aa:=aM (ab4 aa.out)
 replace HB:=aM (aai HB.out)
 have bM:0<=(0:Int):=(by omega)
 have bN:0 < (ae.length:Int):=qD
 obtain⟨af,bA,bB,e250,ah,ai,aj,aT,aU⟩:=ai2 bJ.out 0 bM bN
 have ak:=aj
 (try rw [show ((0:Int)).toNat=0 from rfl] at ak)
 (try rw [show 0*3=0 from rfl] at ak)
 (try rw [Addr.add_zero'] at ak)
 have au:=ai
 (try rw [show ((0:Int)).toNat=0 from rfl] at au)
 (try rw [show 0*3=0 from rfl] at au)
 (try rw [Addr.add_zero'] at au)
 have av:=ah
 (try rw [show ((0:Int)).toNat=0 from rfl] at av)
 (try rw [show 0*3=0 from rfl] at av)
 (try rw [Addr.add_zero'] at av)
 cases e250
 have dB:(0 < ae.length)=True:=eq_true (by omega)
 (try rw [show ((0:Int)).toNat=0 from rfl] at ah)
 (try rw [show 0*3=0 from rfl] at ah)
 (try rw [Addr.add_zero'] at ah)
 (try rw [show ((0:Int)).toNat=0 from rfl] at ai)
 (try rw [show 0*3=0 from rfl] at ai)
 (try rw [Addr.add_zero'] at ai)
 (try rw [show ((0:Int)).toNat=0 from rfl] at aj)
 (try rw [show 0*3=0 from rfl] at aj)
 (try rw [Addr.add_zero'] at aj)
 replace ah:=kx HB ah
 replace ai:=kx HB ai
 replace aj:=kx HB aj
 have aV:=aM aU
 have bH:=aM aT
 clear aU aT
 replace bM:=eq_true bM
 replace bN:=eq_true bN
 have bO:0<=(1:Int):=(by omega)
 have bP:1 < (ae.length:Int):=qD
 obtain⟨bV,bC,bD,e254,ax,ay,az,aW,aX⟩:=ai2 bJ.out 1 bO bP
 have aA:=az
 (try rw [show ((1:Int)).toNat=1 from rfl] at aA)
 (try rw [show 1*3=3 from rfl] at aA)
 (try simp only [Nat.reduceMul,Nat.reduceEqDiff,Go.Addr.add,↓reduceIte] at aA)
 have aC:=ay
 (try rw [show ((1:Int)).toNat=1 from rfl] at aC)
 (try rw [show 1*3=3 from rfl] at aC)
 (try simp only [Nat.reduceMul,Nat.reduceEqDiff,Go.Addr.add,↓reduceIte] at aC)
 have aD:=ax
 (try rw [show ((1:Int)).toNat=1 from rfl] at aD)
 (try rw [show 1*3=3 from rfl] at aD)
 (try simp only [Nat.reduceMul,Nat.reduceEqDiff,Go.Addr.add,↓reduceIte] at aD)
 obtain rfl:af=bV:=(by injection e254)
 (try simp only [show (1:Int).toNat=1 from rfl,Nat.reduceMul,Nat.reduceEqDiff,Go.Addr.add,↓reduceIte] at ax)
 (try simp only [show (1:Int).toNat=1 from rfl,Nat.reduceMul,Nat.reduceEqDiff,Go.Addr.add,↓reduceIte] at ay)
 (try simp only [show (1:Int).toNat=1 from rfl,Nat.reduceMul,Nat.reduceEqDiff,Go.Addr.add,↓reduceIte] at az)
 have dC:(1 < ae.length)=True:=eq_true (by omega)
 (try rw [show ((1:Int)).toNat=1 from rfl] at ax)
 (try rw [show 1*3=3 from rfl] at ax)
 (try rw [show ((1:Int)).toNat=1 from rfl] at ay)
 (try rw [show 1*3=3 from rfl] at ay)
 (try rw [show ((1:Int)).toNat=1 from rfl] at az)
 (try rw [show 1*3=3 from rfl] at az)
 replace ax:=kx HB ax
 replace ay:=kx HB ay
 replace az:=kx HB az
 have aY:=aM aX
 have bI:=aM aW
 clear aX aW
 replace bO:=eq_true bO
 replace bP:=eq_true bP
 refine abF (n:=15) (S:=fun w'=>w'.cell? ⟨aI,0,none⟩=some (iV aG)/\w'.cell? ⟨aI,1,none⟩=some (iV ag)/\w'.cell? ⟨aI,2,none⟩=some (.slice (some af) ae.length bg)/\w'.cell? af=some (iV ((aaK ae 0).f0))/\w'.cell? ⟨af.block,af.off+1,none⟩=some (iV ((aaK ae 0).f1))/\w'.cell? ⟨af.block,af.off+2,none⟩=some (.slice bA ((aaK ae 0).f2).length bB)/\w'.cell? ⟨af.block,af.off+3,none⟩=some (iV ((aaK ae 1).f0))/\w'.cell? ⟨af.block,af.off+3+1,none⟩=some (iV ((aaK ae 1).f1))/\w'.cell? ⟨af.block,af.off+3+2,none⟩=some (.slice bC ((aaK ae 1).f2).length bD)) (ds:=[]) (jb 15 0) (by kernel_rfl) rfl rfl ⟨(aa3 aa.out 0).trans rfl,(aa3 aa.out 1).trans rfl,(aa3 aa.out 2).trans rfl,(kx HB av),(kx HB au),(kx HB ak),(kx HB aD),(kx HB aC),(kx HB aA)⟩ (fun hHeld=>?_);refine aaZ anD amF (fun HT_ HW_=>?_)
 generalize dP.drew=d9 at aa HB aV aY ah ai aj ax ay az hHeld ⊢
 refine jp 0 22 (jb 15 1) ?_
 refine jp 4 26 (jb 15 17) ?_
 refine jp 6 28 (jb 15 81) ?_
 refine jp 10 32 (jb 15 1105) ?_
 refine jp 11 33 (jb 15 3153) ?_
 refine jt 1 23 (jb 15 3155) ?_
 refine jp 2 24 (jb 15 3159) ?_
 refine jt 3 25 (jb 15 3167) ?_
 refine jt 7 29 (jb 15 3295) ?_
 refine jp 8 30 (jb 15 3551) ?_
 refine jt 9 31 (jb 15 4063) ?_
 refine ad6 (i:=5) (N:=some 27) (jb 15 4095) rfl rfl (aaT HT_.out (by kernel_rfl)) (by decide) (fun K hK=>?_)
 refine abn func89 (by kernel_rfl) rfl #[.agg #[iV ((aaK ae 0).f0),iV ((aaK ae 0).f1),.slice bA ((aaK ae 0).f2).length bB],iV a1] (by rfl) rfl rfl qM ?_
 with_reducible refine (ih k (by omega) ((aaK ae 0).f0) ((aaK ae 0).f1) _ _ ((aaK ae 0).f2) a1 aZ _ ?bE ?bF dM.out).mono ?_
 (case bE=>exact kb aV HB)
 (case bF=>exact bH.out)
 rintro e ed ⟨cO,rfl,ho0,hb⟩
 refine⟨_,rfl,?_⟩
 have aJ:=kL ho0
 replace aa:=kB aa hb
 replace HB:=kH hb
 (try clear hb)
 (try clear hb2)
 (try clear hk)
 (try clear hi)
 (try clear ho0)
 refine hK.out _ _ ⟨(aa3 aa.out 0).trans rfl,(aa3 aa.out 1).trans rfl,(aa3 aa.out 2).trans rfl,(kx HB av),(kx HB au),(kx HB ak),(kx HB aD),(kx HB aC),(kx HB aA)⟩ (fun hHeld=>?_)
 clear hK K
 refine aav (a':=?_) ?_ ?_
 rotate_left
 ·show Act.put _ (some 27) _=_
  simp only [Act.put,List.setIfInBounds_toArray,List.set_cons_zero,List.set_cons_succ,aau,aaD]
  rfl
 refine ad6 (i:=12) (N:=some 34) (jb 15 8191) rfl rfl (aaT HT_.out (by kernel_rfl)) (by decide) (fun K hK=>?_)
 refine abn func89 (by kernel_rfl) rfl #[.agg #[iV ((aaK ae 1).f0),iV ((aaK ae 1).f1),.slice bC ((aaK ae 1).f2).length bD],iV (wrap64 (a1+1))] (by rfl) rfl rfl qM ?_
 with_reducible refine (ih k (by omega) ((aaK ae 1).f0) ((aaK ae 1).f1) _ _ ((aaK ae 1).f2) (wrap64 (a1+1)) aK _ ?bE ?bF dN.out).mono ?_
 (case bE=>exact kb aY HB)
 (case bF=>exact bI.out)
 rintro e ek ⟨dR,rfl,ho0,hb⟩
 refine⟨_,rfl,?_⟩
 have aH:=aM (R_lower (R_new' ho0 (R_lt (qR aJ))) (aa4 qB))
 replace aJ:=kO aJ ho0 hb
 replace aa:=kB aa hb
 replace HB:=kH hb
 (try clear hb)
 (try clear hb2)
 (try clear hk)
 (try clear hi)
 (try clear ho0)
 obtain⟨bW,bX,bY⟩:=R_slice aH.out
 (first|subst bY|(injection bY with dD dS dE;have dU:=dD.symm;have dV:=dE.symm;clear dD dS dE;subst dU;subst dV))
 refine hK.out _ _ ⟨(aa3 aa.out 0).trans rfl,(aa3 aa.out 1).trans rfl,(aa3 aa.out 2).trans rfl,(kx HB av),(kx HB au),(kx HB ak),(kx HB aD),(kx HB aC),(kx HB aA)⟩ (fun hHeld=>?_)
 clear hK K
 refine aav (a':=?_) ?_ ?_
 rotate_left
 ·show Act.put _ (some 34) _=_
  simp only [Act.put,List.setIfInBounds_toArray,List.set_cons_zero,List.set_cons_succ,aau,aaD]
  rfl
 refine ad6 (i:=13) (N:=some 35) (jb 15 16383) rfl rfl (aaT HT_.out (by kernel_rfl)) (by decide) (fun K hK=>?_)
 refine R_append_rows_step k27 (w0:=w) w.heap.size (by rfl) (.tmp 27) (.tmp 34) 23 27 (.agg #[(iV 0),(iV 0),(iV 0),(iV 0),(iV 0)]) 40 rfl underlying23 abb rfl (by decide) (by omega) cO aZ aK _ _ _ (fun k_=>some k_≠(.slice bW aK.length bX:Value).ownBlock) (fun _=>False) rfl rfl ?aO ?aR (fun _ _ h=>h) (fun _ h=>h.elim) ?aF ?aB ?aS ?aL ?_
 (case aR=>exact kJ aH)
 (case aB=>exact qB)
 (case aF=>exact (fun k_ hk=>Kd.fresh' (R_lt (qR aH)) k_ hk))
 (case aO=>exact (by (with_reducible repeat (first|apply R_alloc|apply R_drewN|apply R_drew));exact R_mono aJ.out (fun _ hk=>hk.2)))
 (case aS=>exact (aa4 qB))
 (case aL=>have:=bT.out;omega)
 intro df eu ho hb hg hat
 rw [<- bv.out] at ho
 have bG:=aM ho
 replace aa:=aM (aaq (g:=aI) (qK aa) hg (R_ne aJ.out aa.out (by decide)))
 replace aH:=aM (R_after (ok:=(fun _=>True)) (qR aH) hg hat)
 replace HB:=aM hb
 clear aJ
 clear ho hb hg hat
 refine hK.out _ _ ⟨(aa3 aa.out 0).trans rfl,(aa3 aa.out 1).trans rfl,(aa3 aa.out 2).trans rfl,(kx HB av),(kx HB au),(kx HB ak),(kx HB aD),(kx HB aC),(kx HB aA)⟩ (fun hHeld=>?_)
 clear hK K
 refine aav (a':=?_) ?_ ?_
 rotate_left
 ·show Act.put _ (some 35) _=_
  simp only [Act.put,List.setIfInBounds_toArray,List.set_cons_zero,List.set_cons_succ,aau,aaD]
  rfl
 refine jp 14 5 (jb 15 32767) ?_
 refine acG (abr HT_.out (by kernel_rfl)) ?_
 have dW:=jz3 aa
 try go_wp2_with (first|((with_reducible refine aaa (b:=.append) (xs:=#[.tmp 36,.tmp 44]) rfl ?_);at_builtin;refine R_append k27 (w0:=w) w.heap.size rfl (.tmp 36) (.tmp 44) 23 27 (.agg #[(iV 0),(iV 0),(iV 0),(iV 0),(iV 0)]) 40 rfl underlying23 abb rfl (by decide) (by omega) df bi (⟨3,a1,a1,wrap64 (a1+1),aG⟩:S27) [iV 3,iV a1,iV a1,iV (wrap64 (a1+1)),iV aG] (fun k_=>some k_≠(.slice bW aK.length bX:Value).ownBlock) (fun _=>False) rfl rfl ?aP (fun _ hk=>hk.elim) ?aF ?aO ?aB ?aS ?aL ?_;(case aP=>exact aaU _ _ _ (⟨3,a1,a1,wrap64 (a1+1),aG⟩:S27));(case aB=>exact qB);(case aF=>exact (fun k_ hk=>Kd.fresh' (R_lt (qR aH)) k_ hk));(case aO=>exact (qR bG));(case aS=>exact (aa4 qB));(case aL=>have:=bU.out;omega);intro dX eB ho hb hg hat;rw [<- bz.out] at ho;have bZ:=aM ho;replace aa:=aM (aaq (g:=aI) (qK aa) hg (R_ne bG.out aa.out (by decide)));replace aH:=aM (R_after (ok:=(fun _=>True)) (qR aH) hg hat);replace HB:=aM hb;clear bG;clear ho hb hg hat))
 go_ret
 exact⟨_,qW,by (with_reducible repeat (first|apply R_alloc|apply R_drewN|apply R_drew));exact R_mono bZ.out (fun _ hk=>trivial),qB⟩
mutual
def akj:Nat->Int->Int->Int->Int->Int->List S90->List S92->List S92->Int->Option ((List S27))
 | 0,_,_,_,_,_,_,_,_,_=>none
 | k+1,az,av,ax,af,ag,ae,ah,aj,a1=>(adS k af ag ae 4).bind fun aA=>((SaO.f k ah (wrap64 ((wrap64 (a1+(aA.length:Int)))+1))).bind fun ay=>(if (aj.length:Int)=0 then (if aA.length < 3518437208883 then ((some (aA ++ [(⟨5,0,4,0,wrap64 ((wrap64 ((wrap64 (a1+(aA.length:Int)))+1))+(ay.length:Int))⟩:S27)]:List S27)).bind fun bN=>(if bN.length+ay.length < 3518437208883 then (some (bN ++ ay)) else (none))) else (none)) else ((SaO.f k aj (wrap64 ((wrap64 ((wrap64 ((wrap64 (a1+(aA.length:Int)))+1))+(ay.length:Int)))+1))).bind fun bu=>(if aA.length < 3518437208883 then ((some (aA ++ [(⟨5,0,4,0,wrap64 ((wrap64 ((wrap64 ((wrap64 (a1+(aA.length:Int)))+1))+(ay.length:Int)))+1)⟩:S27)]:List S27)).bind fun bO=>(if bO.length+ay.length < 3518437208883 then ((some (bO ++ ay:List S27)).bind fun bP=>(if bP.length < 3518437208883 then ((some (bP ++ [(⟨4,0,0,0,wrap64 ((wrap64 ((wrap64 ((wrap64 ((wrap64 (a1+(aA.length:Int)))+1))+(ay.length:Int)))+1))+(bu.length:Int))⟩:S27)]:List S27)).bind fun bQ=>(if bQ.length+bu.length < 3518437208883 then (some (bQ ++ bu)) else (none))) else (none))) else (none))) else (none)))))
def aki:Nat->Int->Int->Int->Int->Int->List S90->List S92->List S92->Int->Option ((List S27))
 | 0,_,_,_,_,_,_,_,_,_=>none
 | k+1,az,av,ax,af,ag,ae,ah,aj,a1=>(adS k af ag ae 4).bind fun bq=>((SaO.f k ah (wrap64 ((wrap64 (a1+(bq.length:Int)))+1))).bind fun bv=>(if bq.length < 3518437208883 then ((some (bq ++ [(⟨5,0,4,0,wrap64 ((wrap64 ((wrap64 ((wrap64 (a1+(bq.length:Int)))+1))+(bv.length:Int)))+1)⟩:S27)]:List S27)).bind fun bR=>(if bR.length+bv.length < 3518437208883 then ((some (bR ++ bv:List S27)).bind fun bS=>(if bS.length < 3518437208883 then (some (bS ++ [(⟨4,0,0,0,a1⟩:S27)])) else (none))) else (none))) else (none)))
def aj6:Nat->Int->Int->Int->Int->Int->List S90->List S92->List S92->Int->Option ((List S27))
 | 0,_,_,_,_,_,_,_,_,_=>none
 | k+1,az,av,ax,af,ag,ae,ah,aj,a1=>(adS k af ag ae 4).bind fun aQ=>(if az=2 then ((akj k az av ax af ag ae ah aj a1).bind fun dO=>(some dO)) else (if az=3 then ((aki k az av ax af ag ae ah aj a1).bind fun dP=>(some dP)) else (if az=1 then (if aQ.length < 3518437208883 then (some (aQ ++ [(⟨2,av,4,0,0⟩:S27)])) else (none)) else (if az=4 then (if aQ.length < 3518437208883 then (some (aQ ++ [(⟨6,0,4,0,ax⟩:S27)])) else (none)) else (if az=7 then (if aQ.length < 3518437208883 then (some (aQ ++ [(⟨9,0,4,0,0⟩:S27)])) else (none)) else (if az=5 then (some (([(⟨7,av,0,0,ax⟩:S27)]:List S27))) else (some (([(⟨8,0,0,0,0⟩:S27)]:List S27)))))))))
def aeE:Nat->List S92->Int->List S27->Int->Option ((List S27))
 | 0,_,_,_,_=>none
 | k+1,x0,x1,x5,x6=>if x6 < (x0.length:Int) then (if 0<=x6 then ((aj6 k ((aaj x0 x6).f0) ((aaj x0 x6).f1) ((aaj x0 x6).f2) ((aaj x0 x6).f3.f0) ((aaj x0 x6).f3.f1) ((aaj x0 x6).f3.f2) ((aaj x0 x6).f4) ((aaj x0 x6).f5) (wrap64 (x1+(x5.length:Int)))).bind fun cK=>(if x5.length+cK.length < 3518437208883 then (aeE k x0 x1 (x5 ++ cK) (wrap64 (x6+1))) else (none))) else (none)) else (some x5)
def SaO.f:Nat->List S92->Int->Option ((List S27))
 | 0,_,_=>none
 | k+1,l0,a1=>aeE k l0 a1 (([]:List S27)) 0
end
@[reducible] def ady (k:Nat):Prop:=∀ (az:Int) (av:Int) (ax:Int) (af:Int) (ag:Int) (aH:Option Addr) (aI:Nat) (ae:List S90) (aJ:Option Addr) (aK:Nat) (ah:List S92) (aU:Option Addr) (aV:Nat) (aj:List S92) (a1:Int) (r:List S27) (w:World) (bz:Kd.C k90 w aH ae.length ae) (bA:ae.length<=aI) (bB:Kd.C k92 w aJ ah.length ah) (bC:ah.length<=aK) (bD:Kd.C k92 w aU aj.length aj) (bE:aj.length<=aV) (h:akj k az av ax af ag ae ah aj a1=some r),
  Calls prog 90 #[.agg #[iV az,iV av,iV ax,iV af,iV ag,.slice aH ae.length aI,.slice aJ ah.length aK,.slice aU aj.length aV],iV a1] w fun e w'=>∃ dQ:Value,e = .returned (dQ)/\Kd.R k27 27 w' w.heap.size (fun _=>True) dQ r/\Below w.heap.size w w'
@[reducible] def adw (k:Nat):Prop:=∀ (az:Int) (av:Int) (ax:Int) (af:Int) (ag:Int) (aH:Option Addr) (aI:Nat) (ae:List S90) (aJ:Option Addr) (aK:Nat) (ah:List S92) (aU:Option Addr) (aV:Nat) (aj:List S92) (a1:Int) (r:List S27) (w:World) (bz:Kd.C k90 w aH ae.length ae) (bA:ae.length<=aI) (bB:Kd.C k92 w aJ ah.length ah) (bC:ah.length<=aK) (bD:Kd.C k92 w aU aj.length aj) (bE:aj.length<=aV) (h:aki k az av ax af ag ae ah aj a1=some r),
  Calls prog 91 #[.agg #[iV az,iV av,iV ax,iV af,iV ag,.slice aH ae.length aI,.slice aJ ah.length aK,.slice aU aj.length aV],iV a1] w fun e w'=>∃ dQ:Value,e = .returned (dQ)/\Kd.R k27 27 w' w.heap.size (fun _=>True) dQ r/\Below w.heap.size w w'
@[reducible] def adx (k:Nat):Prop:=∀ (az:Int) (av:Int) (ax:Int) (af:Int) (ag:Int) (aH:Option Addr) (aI:Nat) (ae:List S90) (aJ:Option Addr) (aK:Nat) (ah:List S92) (aU:Option Addr) (aV:Nat) (aj:List S92) (a1:Int) (r:List S27) (w:World) (bz:Kd.C k90 w aH ae.length ae) (bA:ae.length<=aI) (bB:Kd.C k92 w aJ ah.length ah) (bC:ah.length<=aK) (bD:Kd.C k92 w aU aj.length aj) (bE:aj.length<=aV) (h:aj6 k az av ax af ag ae ah aj a1=some r),
  Calls prog 81 #[.agg #[iV az,iV av,iV ax,iV af,iV ag,.slice aH ae.length aI,.slice aJ ah.length aK,.slice aU aj.length aV],iV a1] w fun e w'=>∃ dQ:Value,e = .returned (dQ)/\Kd.R k27 27 w' w.heap.size (fun _=>True) dQ r/\Below w.heap.size w w'
@[reducible] def SaO.stmt (k:Nat):Prop:=∀ (A0:Option Addr) (c0:Nat) (l0:List S92) (a1:Int) (r:List S27) (w:World) (hr0:Kd.C k92 w A0 l0.length l0) (hc0:l0.length<=c0) (h:SaO.f k l0 a1=some r),
  Calls prog 72 #[.slice A0 l0.length c0,iV a1] w fun e w'=>∃ dQ:Value,e = .returned (dQ)/\Kd.R k27 27 w' w.heap.size (fun _=>True) dQ r/\Below w.heap.size w w'
theorem SaN.step (k:Nat) (aC:∀ m_,m_ < k->SaO.stmt m_) (aW:∀ m_,m_ < k->adx m_) (ih:∀ m_,m_ < k->ady m_) (aT:∀ m_,m_ < k->adw m_):ady k:=by
 intro az av ax af ag aH aI ae aJ aK ah aU aV aj a1 r w bz bA bB bC bD bE h
 cases k with
 | zero=>exact absurd h (by simp [akj])
 | succ k =>
 simp only [akj] at h
 have fA:=underlying92
 have fV:=underlying90
 have fZ:=underlying27
 have aZ:=aM bz
 have bg:=aM bA
 clear bz bA
 have bH:=aM bB
 have bI:=aM bC
 clear bB bC
 have bT:=aM bD
 have bU:=aM bE
 clear bD bE
 have HB:=jb_ w
 have H:((adS k af ag ae 4).bind fun aA=>((SaO.f k ah (wrap64 ((wrap64 (a1+(aA.length:Int)))+1))).bind fun ay=>(if (aj.length:Int)=0 then (if aA.length < 3518437208883 then ((some (aA ++ [(⟨5,0,4,0,wrap64 ((wrap64 ((wrap64 (a1+(aA.length:Int)))+1))+(ay.length:Int))⟩:S27)]:List S27)).bind fun bN=>(if bN.length+ay.length < 3518437208883 then (some (bN ++ ay)) else (none))) else (none)) else ((SaO.f k aj (wrap64 ((wrap64 ((wrap64 ((wrap64 (a1+(aA.length:Int)))+1))+(ay.length:Int)))+1))).bind fun bu=>(if aA.length < 3518437208883 then ((some (aA ++ [(⟨5,0,4,0,wrap64 ((wrap64 ((wrap64 ((wrap64 (a1+(aA.length:Int)))+1))+(ay.length:Int)))+1)⟩:S27)]:List S27)).bind fun bO=>(if bO.length+ay.length < 3518437208883 then ((some (bO ++ ay:List S27)).bind fun bP=>(if bP.length < 3518437208883 then ((some (bP ++ [(⟨4,0,0,0,wrap64 ((wrap64 ((wrap64 ((wrap64 ((wrap64 (a1+(aA.length:Int)))+1))+(ay.length:Int)))+1))+(bu.length:Int))⟩:S27)]:List S27)).bind fun bQ=>(if bQ.length+bu.length < 3518437208883 then (some (bQ ++ bu)) else (none))) else (none))) else (none))) else (none))))))=some r:=h
 clear h
 obtain⟨aA,A3,H⟩:=qE H
 try dsimp only at H
 obtain⟨ay,A4,H⟩:=qE H
 try dsimp only at H
 replace H:=jE H;rcases H with ⟨fB,ik,H⟩ | ⟨c5,fB,ik,H⟩
 ·replace H:=jL H;obtain⟨fC,H⟩:=H
  obtain⟨bN,dR⟩:=ky ((aA ++ [(⟨5,0,4,0,wrap64 ((wrap64 ((wrap64 (a1+(aA.length:Int)))+1))+(ay.length:Int))⟩:S27)]):List S27)
  replace H:=kv dR H
  replace H:=jL H;obtain⟨fD,H⟩:=H
  obtain⟨jf,dS⟩:=ky ((bN ++ ay):List S27)
  replace H:=kv dS H
  obtain rfl:=oJ H
  go_enter func90,ntmps90
  go_wp2_with (first|((with_reducible refine jd 2 ?_);refine jY _ 92 ?_;intro bJ hg w8 ai hb;have gm:=kG hg;replace HB:=kH hb;clear hb hg;have iW:=jz8 ai)|((with_reducible refine jc 89 11 ?_);refine jM func89 (abB k af ag _ _ ae 4 aA _ (kb aZ HB) bg.out A3.out) ?_;rintro il iX ⟨ho0,hb⟩;have aN:=kL ho0;replace ai:=kB ai hb;replace HB:=kH hb;clear hb;(try clear ho0);have iq:=jz8 ai;obtain⟨fE,fF,fG⟩:=R_slice aN.out;subst fG)|((with_reducible refine jc 72 19 ?_);refine jM func72 (aC k (by omega) _ _ ah (wrap64 ((wrap64 (a1+(aA.length:Int)))+1)) ay _ (kb bH HB) bI.out A4.out) ?_;rintro iw iY ⟨ho0,hb⟩;have aG:=aM (R_lower (R_new' ho0 (R_lt (qR aN))) (aa4 qB));replace aN:=kO aN ho0 hb;replace ai:=kB ai hb;replace HB:=kH hb;clear hb;(try clear ho0);obtain⟨dK,dL,fH⟩:=R_slice aG.out;subst fH;have jg:=jz8 ai)|((with_reducible refine aaa (b:=.append) (xs:=#[.tmp 32,.tmp 35]) rfl ?_);at_builtin;refine R_append k27 (w0:=w) w.heap.size rfl (.tmp 32) (.tmp 35) 23 27 (.agg #[(iV 0),(iV 0),(iV 0),(iV 0),(iV 0)]) 40 rfl underlying23 abb rfl (by decide) (by omega) (.slice fE aA.length fF) aA (⟨5,0,4,0,wrap64 ((wrap64 ((wrap64 (a1+(aA.length:Int)))+1))+(ay.length:Int))⟩:S27) [iV 5,iV 0,iV 4,iV 0,iV (wrap64 ((wrap64 ((wrap64 (a1+(aA.length:Int)))+1))+(ay.length:Int)))] (fun k_=>some k_≠(.slice dK ay.length dL:Value).ownBlock) (fun _=>False) rfl rfl ?aP (fun _ hk=>hk.elim) ?aF ?aO ?aB ?aS ?aL ?_;(case aP=>exact aaU _ _ _ (⟨5,0,4,0,wrap64 ((wrap64 ((wrap64 (a1+(aA.length:Int)))+1))+(ay.length:Int))⟩:S27));(case aB=>exact qB);(case aF=>exact (fun k_ hk=>Kd.fresh' (R_lt (qR aG)) k_ hk));(case aO=>exact (by (with_reducible repeat (first|apply R_alloc|apply R_drewN|apply R_drew));exact R_mono aN.out (fun _ hk=>hk.2)));(case aS=>exact (aa4 qB));(case aL=>have:=fC.out;omega);intro iy w16 ho hb hg hat;rw [<- dR.out] at ho;have dU:=aM ho;replace ai:=aM (aaq (g:=bJ) (qK ai) hg (R_ne aN.out ai.out (by decide)));replace aG:=aM (R_after (ok:=(fun _=>True)) (qR aG) hg hat);replace HB:=aM hb;clear aN;clear ho hb hg hat)|((with_reducible refine aaa (b:=.append) (xs:=#[.tmp 37,.tmp 38]) rfl ?_);at_builtin;refine R_append_rows k27 (w0:=w) w.heap.size rfl (.tmp 37) (.tmp 38) 23 27 (.agg #[(iV 0),(iV 0),(iV 0),(iV 0),(iV 0)]) 40 rfl underlying23 abb rfl (by decide) (by omega) iy bN ay _ _ _ (fun k_=>some k_≠(.slice dK ay.length dL:Value).ownBlock) (fun _=>False) rfl rfl ?aO ?aR (fun _ _ h=>h) (fun _ h=>h.elim) ?aF ?aB ?aS ?aL ?_;(case aR=>exact kJ aG);(case aB=>exact qB);(case aF=>exact (fun k_ hk=>Kd.fresh' (R_lt (qR aG)) k_ hk));(case aO=>exact (qR dU));(case aS=>exact (aa4 qB));(case aL=>have:=fD.out;omega);intro jh iZ ho hb hg hat;rw [<- dS.out] at ho;have gp:=aM ho;replace ai:=aM (aaq (g:=bJ) (qK ai) hg (R_ne dU.out ai.out (by decide)));replace aG:=aM (R_after (ok:=(fun _=>True)) (qR aG) hg hat);replace HB:=aM hb;clear dU;clear ho hb hg hat))
  go_ret
  exact⟨_,qW,by (with_reducible repeat (first|apply R_alloc|apply R_drewN|apply R_drew));exact R_mono gp.out (fun _ hk=>trivial),qB⟩
 have ji:¬ (aj=[]):=fun h_=>c5 (by rw [h_];rfl)
 obtain⟨bu,jk,H⟩:=qE H
 try dsimp only at H
 replace H:=jL H;obtain⟨dV,H⟩:=H
 obtain⟨bO,dW⟩:=ky ((aA ++ [(⟨5,0,4,0,wrap64 ((wrap64 ((wrap64 ((wrap64 (a1+(aA.length:Int)))+1))+(ay.length:Int)))+1)⟩:S27)]):List S27)
 replace H:=kv dW H
 replace H:=jL H;obtain⟨gq,H⟩:=H
 obtain⟨bP,dX⟩:=ky ((bO ++ ay):List S27)
 replace H:=kv dX H
 replace H:=jL H;obtain⟨gu,H⟩:=H
 obtain⟨bQ,dY⟩:=ky ((bP ++ [(⟨4,0,0,0,wrap64 ((wrap64 ((wrap64 ((wrap64 ((wrap64 (a1+(aA.length:Int)))+1))+(ay.length:Int)))+1))+(bu.length:Int))⟩:S27)]):List S27)
 replace H:=kv dY H
 replace H:=jL H;obtain⟨gy,H⟩:=H
 obtain⟨jl,dZ⟩:=ky ((bQ ++ bu):List S27)
 replace H:=kv dZ H
 obtain rfl:=oJ H
 go_enter func90,ntmps90
 go_wp2_with (first|((with_reducible refine jd 2 ?_);refine jY _ 92 ?_;intro bJ hg lT ai hb;have gm:=kG hg;replace HB:=kH hb;clear hb hg;have jm:=jz8 ai)|((with_reducible refine jc 89 11 ?_);refine jM func89 (abB k af ag _ _ ae 4 aA _ (kb aZ HB) bg.out A3.out) ?_;rintro il lU ⟨ho0,hb⟩;have aN:=kL ho0;replace ai:=kB ai hb;replace HB:=kH hb;clear hb;(try clear ho0);have jo:=jz8 ai;obtain⟨iA,iB,iC⟩:=R_slice aN.out;subst iC)|((with_reducible refine jc 72 19 ?_);refine jM func72 (aC k (by omega) _ _ ah (wrap64 ((wrap64 (a1+(aA.length:Int)))+1)) ay _ (kb bH HB) bI.out A4.out) ?_;rintro iw lV ⟨ho0,hb⟩;have aG:=aM (R_lower (R_new' ho0 (R_lt (qR aN))) (aa4 qB));replace aN:=kO aN ho0 hb;replace ai:=kB ai hb;replace HB:=kH hb;clear hb;(try clear ho0);obtain⟨bV,bW,iD⟩:=R_slice aG.out;subst iD;have iE:=jz8 ai)|((with_reducible refine jc 72 44 ?_);refine jM func72 (aC k (by omega) _ _ aj (wrap64 ((wrap64 ((wrap64 ((wrap64 (a1+(aA.length:Int)))+1))+(ay.length:Int)))+1)) bu _ (kb bT HB) bU.out jk.out) ?_;rintro eU jr ⟨ho0,hb⟩;have bi:=aM (R_lower (R_new' (R_new' ho0 (R_lt (qR aN))) (R_lt (qR aG))) (aa4 qB));replace aN:=kO aN ho0 hb;replace aG:=kO aG ho0 hb;replace ai:=kB ai hb;replace HB:=kH hb;clear hb;(try clear ho0))|((with_reducible refine aaa (b:=.append) (xs:=#[.tmp 45,.tmp 49]) rfl ?_);at_builtin;refine R_append k27 (w0:=w) w.heap.size rfl (.tmp 45) (.tmp 49) 23 27 (.agg #[(iV 0),(iV 0),(iV 0),(iV 0),(iV 0)]) 40 rfl underlying23 abb rfl (by decide) (by omega) (.slice iA aA.length iB) aA (⟨5,0,4,0,wrap64 ((wrap64 ((wrap64 ((wrap64 (a1+(aA.length:Int)))+1))+(ay.length:Int)))+1)⟩:S27) [iV 5,iV 0,iV 4,iV 0,iV (wrap64 ((wrap64 ((wrap64 ((wrap64 (a1+(aA.length:Int)))+1))+(ay.length:Int)))+1))] (fun k_=>some k_≠(.slice bV ay.length bW:Value).ownBlock/\some k_≠(eU:Value).ownBlock) (fun _=>False) rfl rfl ?aP (fun _ hk=>hk.elim) ?aF ?aO ?aB ?aS ?aL ?_;(case aP=>exact aaU _ _ _ (⟨5,0,4,0,wrap64 ((wrap64 ((wrap64 ((wrap64 (a1+(aA.length:Int)))+1))+(ay.length:Int)))+1)⟩:S27));(case aB=>exact qB);(case aF=>exact (fun k_ hk=>⟨Kd.fresh' (R_lt (qR aG)) k_ hk,Kd.fresh' (R_lt (qR bi)) k_ hk⟩));(case aO=>exact (by (with_reducible repeat (first|apply R_alloc|apply R_drewN|apply R_drew));exact R_mono aN.out (fun _ hk=>⟨hk.1.2,hk.2⟩)));(case aS=>exact (aa4 qB));(case aL=>have:=dV.out;omega);intro iF w32 ho hb hg hat;rw [<- dW.out] at ho;have d9:=aM ho;replace ai:=aM (aaq (g:=bJ) (qK ai) hg (R_ne aN.out ai.out (by decide)));replace aG:=aM (R_after (ok:=(fun k_=>some k_≠(eU:Value).ownBlock)) (by (with_reducible repeat (first|apply R_alloc|apply R_drewN|apply R_drew));exact R_mono aG.out (fun _ hk=>⟨hk.2,hk.1.2⟩)) hg hat);replace bi:=aM (R_after (ok:=(fun k_=>some k_≠(.slice bV ay.length bW:Value).ownBlock)) (by (with_reducible repeat (first|apply R_alloc|apply R_drewN|apply R_drew));exact R_mono bi.out (fun _ hk=>⟨hk.2,hk.1.2⟩)) hg hat);replace HB:=aM hb;clear aN;clear ho hb hg hat)|((with_reducible refine aaa (b:=.append) (xs:=#[.tmp 51,.tmp 52]) rfl ?_);at_builtin;refine R_append_rows k27 (w0:=w) w.heap.size rfl (.tmp 51) (.tmp 52) 23 27 (.agg #[(iV 0),(iV 0),(iV 0),(iV 0),(iV 0)]) 40 rfl underlying23 abb rfl (by decide) (by omega) iF bO ay _ _ _ (fun k_=>some k_≠(.slice bV ay.length bW:Value).ownBlock/\some k_≠(eU:Value).ownBlock) (fun _=>False) rfl rfl ?aO ?aR (fun _ _ h=>h) (fun _ h=>h.elim) ?aF ?aB ?aS ?aL ?_;(case aR=>exact kJ aG);(case aB=>exact qB);(case aF=>exact (fun k_ hk=>⟨Kd.fresh' (R_lt (qR aG)) k_ hk,Kd.fresh' (R_lt (qR bi)) k_ hk⟩));(case aO=>exact (qR d9));(case aS=>exact (aa4 qB));(case aL=>have:=gq.out;omega);intro iG lW ho hb hg hat;rw [<- dX.out] at ho;have ed:=aM ho;replace ai:=aM (aaq (g:=bJ) (qK ai) hg (R_ne d9.out ai.out (by decide)));replace aG:=aM (R_after (ok:=(fun k_=>some k_≠(eU:Value).ownBlock)) (qR aG) hg hat);replace bi:=aM (R_after (ok:=(fun k_=>some k_≠(.slice bV ay.length bW:Value).ownBlock)) (qR bi) hg hat);replace HB:=aM hb;clear d9;clear ho hb hg hat;obtain⟨eX,eY,iH⟩:=R_slice bi.out;subst iH)|((with_reducible refine aaa (b:=.append) (xs:=#[.tmp 54,.tmp 61]) rfl ?_);at_builtin;refine R_append k27 (w0:=w) w.heap.size rfl (.tmp 54) (.tmp 61) 23 27 (.agg #[(iV 0),(iV 0),(iV 0),(iV 0),(iV 0)]) 40 rfl underlying23 abb rfl (by decide) (by omega) iG bP (⟨4,0,0,0,wrap64 ((wrap64 ((wrap64 ((wrap64 ((wrap64 (a1+(aA.length:Int)))+1))+(ay.length:Int)))+1))+(bu.length:Int))⟩:S27) [iV 4,iV 0,iV 0,iV 0,iV (wrap64 ((wrap64 ((wrap64 ((wrap64 ((wrap64 (a1+(aA.length:Int)))+1))+(ay.length:Int)))+1))+(bu.length:Int)))] (fun k_=>some k_≠(.slice bV ay.length bW:Value).ownBlock/\some k_≠(.slice eX bu.length eY:Value).ownBlock) (fun _=>False) rfl rfl ?aP (fun _ hk=>hk.elim) ?aF ?aO ?aB ?aS ?aL ?_;(case aP=>exact aaU _ _ _ (⟨4,0,0,0,wrap64 ((wrap64 ((wrap64 ((wrap64 ((wrap64 (a1+(aA.length:Int)))+1))+(ay.length:Int)))+1))+(bu.length:Int))⟩:S27));(case aB=>exact qB);(case aF=>exact (fun k_ hk=>⟨Kd.fresh' (R_lt (qR aG)) k_ hk,Kd.fresh' (R_lt (qR bi)) k_ hk⟩));(case aO=>exact (qR ed));(case aS=>exact (aa4 qB));(case aL=>have:=gu.out;omega);intro iI lX ho hb hg hat;rw [<- dY.out] at ho;have ek:=aM ho;replace ai:=aM (aaq (g:=bJ) (qK ai) hg (R_ne ed.out ai.out (by decide)));replace aG:=aM (R_after (ok:=(fun k_=>some k_≠(.slice eX bu.length eY:Value).ownBlock)) (qR aG) hg hat);replace bi:=aM (R_after (ok:=(fun k_=>some k_≠(.slice bV ay.length bW:Value).ownBlock)) (qR bi) hg hat);replace HB:=aM hb;clear ed;clear ho hb hg hat)|((with_reducible refine aaa (b:=.append) (xs:=#[.tmp 63,.tmp 64]) rfl ?_);at_builtin;refine R_append_rows k27 (w0:=w) w.heap.size rfl (.tmp 63) (.tmp 64) 23 27 (.agg #[(iV 0),(iV 0),(iV 0),(iV 0),(iV 0)]) 40 rfl underlying23 abb rfl (by decide) (by omega) iI bQ bu _ _ _ (fun k_=>some k_≠(.slice bV ay.length bW:Value).ownBlock/\some k_≠(.slice eX bu.length eY:Value).ownBlock) (fun _=>False) rfl rfl ?aO ?aR (fun _ _ h=>h) (fun _ h=>h.elim) ?aF ?aB ?aS ?aL ?_;(case aR=>exact kJ bi);(case aB=>exact qB);(case aF=>exact (fun k_ hk=>⟨Kd.fresh' (R_lt (qR aG)) k_ hk,Kd.fresh' (R_lt (qR bi)) k_ hk⟩));(case aO=>exact (qR ek));(case aS=>exact (aa4 qB));(case aL=>have:=gy.out;omega);intro jv jw ho hb hg hat;rw [<- dZ.out] at ho;have gz:=aM ho;replace ai:=aM (aaq (g:=bJ) (qK ai) hg (R_ne ek.out ai.out (by decide)));replace aG:=aM (R_after (ok:=(fun k_=>some k_≠(.slice eX bu.length eY:Value).ownBlock)) (qR aG) hg hat);replace bi:=aM (R_after (ok:=(fun k_=>some k_≠(.slice bV ay.length bW:Value).ownBlock)) (qR bi) hg hat);replace HB:=aM hb;clear ek;clear ho hb hg hat))
 go_ret
 exact⟨_,qW,by (with_reducible repeat (first|apply R_alloc|apply R_drewN|apply R_drew));exact R_mono gz.out (fun _ hk=>trivial),qB⟩
theorem SaQ.step (k:Nat) (aC:∀ m_,m_ < k->SaO.stmt m_) (aW:∀ m_,m_ < k->adx m_) (bn:∀ m_,m_ < k->ady m_) (ih:∀ m_,m_ < k->adw m_):adw k:=by
 intro az av ax af ag aH aI ae aJ aK ah aU aV aj a1 r w bz bA bB bC bD bE h
 cases k with
 | zero=>exact absurd h (by simp [aki])
 | succ k =>
 simp only [aki] at h
 have fA:=underlying92
 have fV:=underlying90
 have fZ:=underlying27
 have aZ:=aM bz
 have bg:=aM bA
 clear bz bA
 have bH:=aM bB
 have bI:=aM bC
 clear bB bC
 have bT:=aM bD
 have bU:=aM bE
 clear bD bE
 have HB:=jb_ w
 have H:((adS k af ag ae 4).bind fun bq=>((SaO.f k ah (wrap64 ((wrap64 (a1+(bq.length:Int)))+1))).bind fun bv=>(if bq.length < 3518437208883 then ((some (bq ++ [(⟨5,0,4,0,wrap64 ((wrap64 ((wrap64 ((wrap64 (a1+(bq.length:Int)))+1))+(bv.length:Int)))+1)⟩:S27)]:List S27)).bind fun bR=>(if bR.length+bv.length < 3518437208883 then ((some (bR ++ bv:List S27)).bind fun bS=>(if bS.length < 3518437208883 then (some (bS ++ [(⟨4,0,0,0,a1⟩:S27)])) else (none))) else (none))) else (none))))=some r:=h
 clear h
 obtain⟨bq,A3,H⟩:=qE H
 try dsimp only at H
 obtain⟨bv,A4,H⟩:=qE H
 try dsimp only at H
 replace H:=jL H;obtain⟨iJ,H⟩:=H
 obtain⟨bR,eu⟩:=ky ((bq ++ [(⟨5,0,4,0,wrap64 ((wrap64 ((wrap64 ((wrap64 (a1+(bq.length:Int)))+1))+(bv.length:Int)))+1)⟩:S27)]):List S27)
 replace H:=kv eu H
 replace H:=jL H;obtain⟨fC,H⟩:=H
 obtain⟨bS,eB⟩:=ky ((bR ++ bv):List S27)
 replace H:=kv eB H
 replace H:=jL H;obtain⟨fD,H⟩:=H
 obtain⟨jy,eD⟩:=ky ((bS ++ [(⟨4,0,0,0,a1⟩:S27)]):List S27)
 replace H:=kv eD H
 obtain rfl:=oJ H
 go_enter func91,ntmps91
 go_wp2_with (first|((with_reducible refine jd 2 ?_);refine jY _ 92 ?_;intro eF hg w8 aX hb;have ja:=kG hg;replace HB:=kH hb;clear hb hg;have iW:=jz8 aX)|((with_reducible refine jc 89 9 ?_);refine jM func89 (abB k af ag _ _ ae 4 bq _ (kb aZ HB) bg.out A3.out) ?_;rintro jA iX ⟨ho0,hb⟩;have bK:=kL ho0;replace aX:=kB aX hb;replace HB:=kH hb;clear hb;(try clear ho0);have iq:=jz8 aX;obtain⟨fE,fF,fG⟩:=R_slice bK.out;subst fG)|((with_reducible refine jc 72 17 ?_);refine jM func72 (aC k (by omega) _ _ ah (wrap64 ((wrap64 (a1+(bq.length:Int)))+1)) bv _ (kb bH HB) bI.out A4.out) ?_;rintro jH iY ⟨ho0,hb⟩;have bF:=aM (R_lower (R_new' ho0 (R_lt (qR bK))) (aa4 qB));replace bK:=kO bK ho0 hb;replace aX:=kB aX hb;replace HB:=kH hb;clear hb;(try clear ho0);obtain⟨dK,dL,fH⟩:=R_slice bF.out;subst fH)|((with_reducible refine aaa (b:=.append) (xs:=#[.tmp 18,.tmp 29]) rfl ?_);at_builtin;refine R_append k27 (w0:=w) w.heap.size rfl (.tmp 18) (.tmp 29) 23 27 (.agg #[(iV 0),(iV 0),(iV 0),(iV 0),(iV 0)]) 40 rfl underlying23 abb rfl (by decide) (by omega) (.slice fE bq.length fF) bq (⟨5,0,4,0,wrap64 ((wrap64 ((wrap64 ((wrap64 (a1+(bq.length:Int)))+1))+(bv.length:Int)))+1)⟩:S27) [iV 5,iV 0,iV 4,iV 0,iV (wrap64 ((wrap64 ((wrap64 ((wrap64 (a1+(bq.length:Int)))+1))+(bv.length:Int)))+1))] (fun k_=>some k_≠(.slice dK bv.length dL:Value).ownBlock) (fun _=>False) rfl rfl ?aP (fun _ hk=>hk.elim) ?aF ?aO ?aB ?aS ?aL ?_;(case aP=>exact aaU _ _ _ (⟨5,0,4,0,wrap64 ((wrap64 ((wrap64 ((wrap64 (a1+(bq.length:Int)))+1))+(bv.length:Int)))+1)⟩:S27));(case aB=>exact qB);(case aF=>exact (fun k_ hk=>Kd.fresh' (R_lt (qR bF)) k_ hk));(case aO=>exact (by (with_reducible repeat (first|apply R_alloc|apply R_drewN|apply R_drew));exact R_mono bK.out (fun _ hk=>hk.2)));(case aS=>exact (aa4 qB));(case aL=>have:=iJ.out;omega);intro iK jN ho hb hg hat;rw [<- eu.out] at ho;have eG:=aM ho;replace aX:=aM (aaq (g:=eF) (qK aX) hg (R_ne bK.out aX.out (by decide)));replace bF:=aM (R_after (ok:=(fun _=>True)) (qR bF) hg hat);replace HB:=aM hb;clear bK;clear ho hb hg hat)|((with_reducible refine aaa (b:=.append) (xs:=#[.tmp 31,.tmp 32]) rfl ?_);at_builtin;refine R_append_rows k27 (w0:=w) w.heap.size rfl (.tmp 31) (.tmp 32) 23 27 (.agg #[(iV 0),(iV 0),(iV 0),(iV 0),(iV 0)]) 40 rfl underlying23 abb rfl (by decide) (by omega) iK bR bv _ _ _ (fun k_=>some k_≠(.slice dK bv.length dL:Value).ownBlock) (fun _=>False) rfl rfl ?aO ?aR (fun _ _ h=>h) (fun _ h=>h.elim) ?aF ?aB ?aS ?aL ?_;(case aR=>exact kJ bF);(case aB=>exact qB);(case aF=>exact (fun k_ hk=>Kd.fresh' (R_lt (qR bF)) k_ hk));(case aO=>exact (qR eG));(case aS=>exact (aa4 qB));(case aL=>have:=fC.out;omega);intro iL w16 ho hb hg hat;rw [<- eB.out] at ho;have eH:=aM ho;replace aX:=aM (aaq (g:=eF) (qK aX) hg (R_ne eG.out aX.out (by decide)));replace bF:=aM (R_after (ok:=(fun _=>True)) (qR bF) hg hat);replace HB:=aM hb;clear eG;clear ho hb hg hat)|((with_reducible refine aaa (b:=.append) (xs:=#[.tmp 34,.tmp 37]) rfl ?_);at_builtin;refine R_append k27 (w0:=w) w.heap.size rfl (.tmp 34) (.tmp 37) 23 27 (.agg #[(iV 0),(iV 0),(iV 0),(iV 0),(iV 0)]) 40 rfl underlying23 abb rfl (by decide) (by omega) iL bS (⟨4,0,0,0,a1⟩:S27) [iV 4,iV 0,iV 0,iV 0,iV a1] (fun k_=>some k_≠(.slice dK bv.length dL:Value).ownBlock) (fun _=>False) rfl rfl ?aP (fun _ hk=>hk.elim) ?aF ?aO ?aB ?aS ?aL ?_;(case aP=>exact aaU _ _ _ (⟨4,0,0,0,a1⟩:S27));(case aB=>exact qB);(case aF=>exact (fun k_ hk=>Kd.fresh' (R_lt (qR bF)) k_ hk));(case aO=>exact (qR eH));(case aS=>exact (aa4 qB));(case aL=>have:=fD.out;omega);intro jQ iZ ho hb hg hat;rw [<- eD.out] at ho;have gB:=aM ho;replace aX:=aM (aaq (g:=eF) (qK aX) hg (R_ne eH.out aX.out (by decide)));replace bF:=aM (R_after (ok:=(fun _=>True)) (qR bF) hg hat);replace HB:=aM hb;clear eH;clear ho hb hg hat))
 go_ret
 exact⟨_,qW,by (with_reducible repeat (first|apply R_alloc|apply R_drewN|apply R_drew));exact R_mono gB.out (fun _ hk=>trivial),qB⟩
theorem SaP.step (k:Nat) (aC:∀ m_,m_ < k->SaO.stmt m_) (ih:∀ m_,m_ < k->adx m_) (bn:∀ m_,m_ < k->ady m_) (aT:∀ m_,m_ < k->adw m_):adx k:=by
 intro az av ax af ag aH aI ae aJ aK ah aU aV aj a1 r w bz bA bB bC bD bE h
 cases k with
 | zero=>exact absurd h (by simp [aj6])
 | succ k =>
 simp only [aj6] at h
 have fA:=underlying92
 have fV:=underlying90
 have fZ:=underlying27
 have aZ:=aM bz
 have bg:=aM bA
 clear bz bA
 have bH:=aM bB
 have bI:=aM bC
 clear bB bC
 have bT:=aM bD
 have bU:=aM bE
 clear bD bE
 have HB:=jb_ w
 have H:((adS k af ag ae 4).bind fun aQ=>(if az=2 then ((akj k az av ax af ag ae ah aj a1).bind fun dO=>(some dO)) else (if az=3 then ((aki k az av ax af ag ae ah aj a1).bind fun dP=>(some dP)) else (if az=1 then (if aQ.length < 3518437208883 then (some (aQ ++ [(⟨2,av,4,0,0⟩:S27)])) else (none)) else (if az=4 then (if aQ.length < 3518437208883 then (some (aQ ++ [(⟨6,0,4,0,ax⟩:S27)])) else (none)) else (if az=7 then (if aQ.length < 3518437208883 then (some (aQ ++ [(⟨9,0,4,0,0⟩:S27)])) else (none)) else (if az=5 then (some (([(⟨7,av,0,0,ax⟩:S27)]:List S27))) else (some (([(⟨8,0,0,0,0⟩:S27)]:List S27))))))))))=some r:=h
 clear h
 obtain⟨aQ,A3,H⟩:=qE H
 try dsimp only at H
 replace H:=jE H;rcases H with ⟨iM,iN,H⟩ | ⟨c4,iM,iN,H⟩
 ·obtain⟨dO,A5,H⟩:=qE H
  try dsimp only at H
  obtain rfl:=oJ H
  go_enter func81,ntmps81
  go_wp2_with (first|((with_reducible refine jd 2 ?_);refine jY _ 92 ?_;intro bG hg w6 aa hb;have bL:=kG hg;replace HB:=kH hb;clear hb hg;have lY:=jz8 aa)|((with_reducible refine jc 89 8 ?_);refine jM func89 (abB k af ag _ _ ae 4 aQ _ (kb aZ HB) bg.out A3.out) ?_;rintro bM w8 ⟨ho0,hb⟩;have aD:=kL ho0;replace aa:=kB aa hb;replace HB:=kH hb;clear hb;(try clear ho0);have iW:=jz8 aa)|((with_reducible refine jc 90 15 ?_);refine jM func90 (bn k (by omega) az av ax af ag _ _ ae _ _ ah _ _ aj a1 dO _ (kb aZ HB) bg.out (kb bH HB) bI.out (kb bT HB) bU.out A5.out) ?_;rintro jS iX ⟨ho0,hb⟩;have gD:=aM (R_lower (R_new' ho0 (R_lt (qR aD))) (aa4 qB));replace aD:=kO aD ho0 hb;replace aa:=kB aa hb;replace HB:=kH hb;clear hb;(try clear ho0)))
  go_ret
  exact⟨_,qW,by (with_reducible repeat (first|apply R_alloc|apply R_drewN|apply R_drew));exact R_mono gD.out (fun _ hk=>trivial),qB⟩
 replace H:=jE H;rcases H with ⟨gF,gG,H⟩ | ⟨c11,gF,gG,H⟩
 ·obtain⟨dP,jT,H⟩:=qE H
  try dsimp only at H
  obtain rfl:=oJ H
  go_enter func81,ntmps81
  go_wp2_with (first|((with_reducible refine jd 2 ?_);refine jY _ 92 ?_;intro bG hg iY aa hb;have bL:=kG hg;replace HB:=kH hb;clear hb hg;have jW:=jz8 aa)|((with_reducible refine jc 89 8 ?_);refine jM func89 (abB k af ag _ _ ae 4 aQ _ (kb aZ HB) bg.out A3.out) ?_;rintro bM jN ⟨ho0,hb⟩;have aD:=kL ho0;replace aa:=kB aa hb;replace HB:=kH hb;clear hb;(try clear ho0);have jZ:=jz8 aa)|((with_reducible refine jc 91 20 ?_);refine jM func91 (aT k (by omega) az av ax af ag _ _ ae _ _ ah _ _ aj a1 dP _ (kb aZ HB) bg.out (kb bH HB) bI.out (kb bT HB) bU.out jT.out) ?_;rintro j4 iZ ⟨ho0,hb⟩;have gH:=aM (R_lower (R_new' ho0 (R_lt (qR aD))) (aa4 qB));replace aD:=kO aD ho0 hb;replace aa:=kB aa hb;replace HB:=kH hb;clear hb;(try clear ho0)))
  go_ret
  exact⟨_,qW,by (with_reducible repeat (first|apply R_alloc|apply R_drewN|apply R_drew));exact R_mono gH.out (fun _ hk=>trivial),qB⟩
 replace H:=jE H;rcases H with ⟨gI,gJ,H⟩ | ⟨c18,gI,gJ,H⟩
 ·replace H:=jL H;obtain⟨dV,H⟩:=H
  obtain⟨j5,eO⟩:=ky ((aQ ++ [(⟨2,av,4,0,0⟩:S27)]):List S27)
  replace H:=kv eO H
  obtain rfl:=oJ H
  go_enter func81,ntmps81
  go_wp2_with (first|((with_reducible refine jd 2 ?_);refine jY _ 92 ?_;intro bG hg lZ aa hb;have bL:=kG hg;replace HB:=kH hb;clear hb hg;have j6:=jz8 aa)|((with_reducible refine jc 89 8 ?_);refine jM func89 (abB k af ag _ _ ae 4 aQ _ (kb aZ HB) bg.out A3.out) ?_;rintro bM l8 ⟨ho0,hb⟩;have aD:=kL ho0;replace aa:=kB aa hb;replace HB:=kH hb;clear hb;(try clear ho0);have kg:=jz8 aa)|((with_reducible refine aaa (b:=.append) (xs:=#[.tmp 23,.tmp 27]) rfl ?_);at_builtin;refine R_append k27 (w0:=w) w.heap.size rfl (.tmp 23) (.tmp 27) 23 27 (.agg #[(iV 0),(iV 0),(iV 0),(iV 0),(iV 0)]) 40 rfl underlying23 abb rfl (by decide) (by omega) bM aQ (⟨2,av,4,0,0⟩:S27) [iV 2,iV av,iV 4,iV 0,iV 0] (fun _=>True) (fun _=>False) rfl rfl ?aP (fun _ hk=>hk.elim) ?aF ?aO ?aB ?aS ?aL ?_;(case aP=>exact aaU _ _ _ (⟨2,av,4,0,0⟩:S27));(case aB=>exact qB);(case aF=>exact (fun _ _=>trivial));(case aO=>exact (qR aD));(case aS=>exact (aa4 qB));(case aL=>have:=dV.out;omega);intro ko l9 ho hb hg hat;rw [<- eO.out] at ho;have gK:=aM ho;replace aa:=aM (aaq (g:=bG) (qK aa) hg (R_ne aD.out aa.out (by decide)));replace HB:=aM hb;clear aD;clear ho hb hg hat))
  go_ret
  exact⟨_,qW,qR gK,qB⟩
 replace H:=jE H;rcases H with ⟨gL,gM,H⟩ | ⟨ma,gL,gM,H⟩
 ·replace H:=jL H;obtain⟨gN,H⟩:=H
  obtain⟨ku,eP⟩:=ky ((aQ ++ [(⟨6,0,4,0,ax⟩:S27)]):List S27)
  replace H:=kv eP H
  obtain rfl:=oJ H
  go_enter func81,ntmps81
  go_wp2_with (first|((with_reducible refine jd 2 ?_);refine jY _ 92 ?_;intro bG hg mf aa hb;have bL:=kG hg;replace HB:=kH hb;clear hb hg;have kD:=jz8 aa)|((with_reducible refine jc 89 8 ?_);refine jM func89 (abB k af ag _ _ ae 4 aQ _ (kb aZ HB) bg.out A3.out) ?_;rintro bM mg ⟨ho0,hb⟩;have aD:=kL ho0;replace aa:=kB aa hb;replace HB:=kH hb;clear hb;(try clear ho0);have iE:=jz8 aa)|((with_reducible refine aaa (b:=.append) (xs:=#[.tmp 31,.tmp 35]) rfl ?_);at_builtin;refine R_append k27 (w0:=w) w.heap.size rfl (.tmp 31) (.tmp 35) 23 27 (.agg #[(iV 0),(iV 0),(iV 0),(iV 0),(iV 0)]) 40 rfl underlying23 abb rfl (by decide) (by omega) bM aQ (⟨6,0,4,0,ax⟩:S27) [iV 6,iV 0,iV 4,iV 0,iV ax] (fun _=>True) (fun _=>False) rfl rfl ?aP (fun _ hk=>hk.elim) ?aF ?aO ?aB ?aS ?aL ?_;(case aP=>exact aaU _ _ _ (⟨6,0,4,0,ax⟩:S27));(case aB=>exact qB);(case aF=>exact (fun _ _=>trivial));(case aO=>exact (qR aD));(case aS=>exact (aa4 qB));(case aL=>have:=gN.out;omega);intro kE jr ho hb hg hat;rw [<- eP.out] at ho;have gP:=aM ho;replace aa:=aM (aaq (g:=bG) (qK aa) hg (R_ne aD.out aa.out (by decide)));replace HB:=aM hb;clear aD;clear ho hb hg hat))
  go_ret
  exact⟨_,qW,qR gP,qB⟩
 replace H:=jE H;rcases H with ⟨gQ,gT,H⟩ | ⟨c32,gQ,gT,H⟩
 ·replace H:=jL H;obtain⟨gU,H⟩:=H
  obtain⟨kF,eQ⟩:=ky ((aQ ++ [(⟨9,0,4,0,0⟩:S27)]):List S27)
  replace H:=kv eQ H
  obtain rfl:=oJ H
  go_enter func81,ntmps81
  go_wp2_with (first|((with_reducible refine jd 2 ?_);refine jY _ 92 ?_;intro bG hg mh aa hb;have bL:=kG hg;replace HB:=kH hb;clear hb hg;have kP:=jz8 aa)|((with_reducible refine jc 89 8 ?_);refine jM func89 (abB k af ag _ _ ae 4 aQ _ (kb aZ HB) bg.out A3.out) ?_;rintro bM jw ⟨ho0,hb⟩;have aD:=kL ho0;replace aa:=kB aa hb;replace HB:=kH hb;clear hb;(try clear ho0);have kV:=jz8 aa)|((with_reducible refine aaa (b:=.append) (xs:=#[.tmp 39,.tmp 41]) rfl ?_);at_builtin;refine R_append k27 (w0:=w) w.heap.size rfl (.tmp 39) (.tmp 41) 23 27 (.agg #[(iV 0),(iV 0),(iV 0),(iV 0),(iV 0)]) 40 rfl underlying23 abb rfl (by decide) (by omega) bM aQ (⟨9,0,4,0,0⟩:S27) [iV 9,iV 0,iV 4,iV 0,iV 0] (fun _=>True) (fun _=>False) rfl rfl ?aP (fun _ hk=>hk.elim) ?aF ?aO ?aB ?aS ?aL ?_;(case aP=>exact aaU _ _ _ (⟨9,0,4,0,0⟩:S27));(case aB=>exact qB);(case aF=>exact (fun _ _=>trivial));(case aO=>exact (qR aD));(case aS=>exact (aa4 qB));(case aL=>have:=gU.out;omega);intro kX mi ho hb hg hat;rw [<- eQ.out] at ho;have gV:=aM ho;replace aa:=aM (aaq (g:=bG) (qK aa) hg (R_ne aD.out aa.out (by decide)));replace HB:=aM hb;clear aD;clear ho hb hg hat))
  go_ret
  exact⟨_,qW,qR gV,qB⟩
 replace H:=jE H;rcases H with ⟨gW,gX,H⟩ | ⟨mo,gW,gX,H⟩
 ·obtain⟨kZ,df⟩:=ky ((([(⟨7,av,0,0,ax⟩:S27)]:List S27)):List S27)
  replace H:=kv df H
  obtain rfl:=oJ H
  go_enter func81,ntmps81
  go_wp2_with (first|((with_reducible refine jd 2 ?_);refine jY _ 92 ?_;intro bG hg mq aa hb;have bL:=kG hg;replace HB:=kH hb;clear hb hg;have lc:=jz8 aa)|((with_reducible refine jc 89 8 ?_);refine jM func89 (abB k af ag _ _ ae 4 aQ _ (kb aZ HB) bg.out A3.out) ?_;rintro bM mr ⟨ho0,hb⟩;have aD:=kL ho0;replace aa:=kB aa hb;replace HB:=kH hb;clear hb;(try clear ho0);have lg:=jz8 aa)|((with_reducible refine jd 50 ?_);refine jV k27 27 ([(⟨7,av,0,0,ax⟩:S27)]:List S27) [iV 7,iV av,iV 0,iV 0,iV ax] (ahA (show Kd.M k27 _ _ _ (⟨7,av,0,0,ax⟩:S27) [iV 7,iV av,iV 0,iV 0,iV ax] from (aaU _ _ _ (⟨7,av,0,0,ax⟩:S27) )) (aa9 _ _)) ?_;intro lh mD dM hb;replace dM:=kr df dM;have gY:=aM (R_lower (R_new' dM (R_lt (qR aD))) (aa4 qB));replace aD:=kO aD dM hb;replace aa:=kB aa hb;replace HB:=kH hb;clear hb dM))
  go_ret
  exact⟨_,qW,by (with_reducible repeat (first|apply R_alloc|apply R_drewN|apply R_drew));exact R_mono gY.out (fun _ hk=>trivial),qB⟩
 obtain⟨ll,dh⟩:=ky ((([(⟨8,0,0,0,0⟩:S27)]:List S27)):List S27)
 replace H:=kv dh H
 obtain rfl:=oJ H
 go_enter func81,ntmps81
 go_wp2_with (first|((with_reducible refine jd 2 ?_);refine jY _ 92 ?_;intro bG hg mE aa hb;have bL:=kG hg;replace HB:=kH hb;clear hb hg;have lu:=jz8 aa)|((with_reducible refine jc 89 8 ?_);refine jM func89 (abB k af ag _ _ ae 4 aQ _ (kb aZ HB) bg.out A3.out) ?_;rintro bM mF ⟨ho0,hb⟩;have aD:=kL ho0;replace aa:=kB aa hb;replace HB:=kH hb;clear hb;(try clear ho0);have lv:=jz8 aa)|((with_reducible refine jd 52 ?_);refine jV k27 27 ([(⟨8,0,0,0,0⟩:S27)]:List S27) [iV 8,iV 0,iV 0,iV 0,iV 0] (ahA (show Kd.M k27 _ _ _ (⟨8,0,0,0,0⟩:S27) [iV 8,iV 0,iV 0,iV 0,iV 0] from (aaU _ _ _ (⟨8,0,0,0,0⟩:S27) )) (aa9 _ _)) ?_;intro lw mG dN hb;replace dN:=kr dh dN;have gZ:=aM (R_lower (R_new' dN (R_lt (qR aD))) (aa4 qB));replace aD:=kO aD dN hb;replace aa:=kB aa hb;replace HB:=kH hb;clear hb dN))
 go_ret
 exact⟨_,qW,by (with_reducible repeat (first|apply R_alloc|apply R_drewN|apply R_drew));exact R_mono gZ.out (fun _ hk=>trivial),qB⟩
theorem SaO.step (k:Nat) (ih:∀ m_,m_ < k->SaO.stmt m_) (aW:∀ m_,m_ < k->adx m_) (bn:∀ m_,m_ < k->ady m_) (aT:∀ m_,m_ < k->adw m_):SaO.stmt k:=by
 intro A0 c0 l0 a1 r w hr0 hc0 h
 cases k with
 | zero=>exact absurd h (by simp [SaO.f])
 | succ k =>
 simp only [SaO.f] at h
 have fA:=underlying92
 have lC:=aM hr0
 have mH:=aM hc0
 clear hr0 hc0
 have HB:=jb_ w
 have H:(aeE k l0 a1 (([]:List S27)) 0)=some r:=h
 clear h
 obtain⟨iO,di⟩:=ky ([]:List S27)
 replace H:=kv di H
 have H':=aM H
 clear H
 go_enter func72,ntmps72
 go_wp2_with (first|((with_reducible refine jd 7 ?_);refine jV k27 27 ([]:List S27) [] (aa9 _ _) ?_;intro lD w3 ib hb;replace ib:=kr di ib;have ic:=kL ib;replace HB:=kH hb;clear hb ib))
 go_loopg [5,6] k (fun kq v5 v6 w'=>∃ (cz:List S27) (aY:Int),v6 = iV aY/\aa1 (aeE kq l0 a1 cz aY=some r)/\aa1 (kq<=k)/\aa1 (Kd.R k27 27 w' w.heap.size (fun _=>True) v5 cz)/\aa1 (Below w.heap.size w w'))
 case atStart=>exact⟨(iO),(0),qZ,H',⟨Nat.le_refl _⟩,⟨qR ic⟩,⟨qB⟩⟩
 clear H'
 obtain⟨cz,aY,rfl,HA,iP,cO,HB⟩:=hrel
 rcases gk with _|k1
 ·exact absurd HA.out (by simp [aeE])
 have H:=HA.out
 clear HA
 simp only [aeE] at H
 replace H:=jD H;rcases H with ⟨fB,H⟩ | ⟨fB,H⟩
 ·replace H:=jI H;obtain⟨lF,H⟩:=H
  obtain⟨cK,A7,H⟩:=qE H
  try dsimp only at H
  replace H:=jL H;obtain⟨iQ,H⟩:=H
  obtain⟨lG,eT⟩:=ky ((cz ++ cK):List S27)
  replace H:=kv eT H
  have H':=aM H
  clear H
  have fI:0<=(aY:Int):=qD
  have fJ:aY < (l0.length:Int):=qD
  obtain⟨je,fK,fM,fO,fP,fQ,fT,e336,dn,dw,dx,dz,dA,dB,dC,dD,dE,dF,dG,dH,dI,dJ⟩:=ai1 lC.out aY fI fJ
  cases e336
  replace dn:=kx HB dn
  replace dw:=kx HB dw
  replace dx:=kx HB dx
  replace dz:=kx HB dz
  replace dA:=kx HB dA
  replace dB:=kx HB dB
  replace dC:=kx HB dC
  replace dD:=kx HB dD
  have eZ:=aM dF
  have fe:=aM dE
  clear dF dE
  have fo:=aM dH
  have fq:=aM dG
  clear dH dG
  have fu:=aM dJ
  have fw:=aM dI
  clear dJ dI
  replace fI:=eq_true fI
  replace fJ:=eq_true fJ
  obtain⟨lH,lI,lJ⟩:=R_slice cO.out
  subst lJ
  go_wp2_with (first|((with_reducible refine jc 81 23 ?_);refine jM func81 (aW k1 (by have:=iP.out;omega) ((aaj l0 aY).f0) ((aaj l0 aY).f1) ((aaj l0 aY).f2) ((aaj l0 aY).f3.f0) ((aaj l0 aY).f3.f1) _ _ ((aaj l0 aY).f3.f2) _ _ ((aaj l0 aY).f4) _ _ ((aaj l0 aY).f5) (wrap64 (a1+(cz.length:Int))) cK _ (kb eZ HB) fe.out (kb fo HB) fq.out (kb fu HB) fw.out A7.out) ?_;rintro lL lK ⟨fU,hb⟩;have cB:=aM (R_lower (R_new' fU (R_lt (qR cO))) (aa4 qB));replace cO:=kO cO fU hb;replace HB:=kH hb;clear hb;(try clear fU);obtain⟨iR,iT,iU⟩:=R_slice cB.out;subst iU)|((with_reducible refine aaa (b:=.append) (xs:=#[.tmp 14,.tmp 23]) rfl ?_);at_builtin;refine R_append_rows k27 (w0:=w) w.heap.size rfl (.tmp 14) (.tmp 23) 23 27 (.agg #[(iV 0),(iV 0),(iV 0),(iV 0),(iV 0)]) 40 rfl underlying23 abb rfl (by decide) (by omega) (.slice lH cz.length lI) cz cK _ _ _ (fun k_=>some k_≠(.slice iR cK.length iT:Value).ownBlock) (fun _=>False) rfl rfl ?aO ?aR (fun _ _ h=>h) (fun _ h=>h.elim) ?aF ?aB ?aS ?aL ?_;(case aR=>exact kJ cB);(case aB=>exact qB);(case aF=>exact (fun k_ hk=>Kd.fresh' (R_lt (qR cB)) k_ hk));(case aO=>exact (by (with_reducible repeat (first|apply R_alloc|apply R_drewN|apply R_drew));exact R_mono cO.out (fun _ hk=>hk.2)));(case aS=>exact (aa4 qB));(case aL=>have:=iQ.out;omega);intro lM lN ho hb hg hat;rw [<- eT.out] at ho;have ig:=aM ho;replace cB:=aM (R_after (ok:=(fun _=>True)) (qR cB) hg hat);replace HB:=aM hb;clear cO;clear ho hb hg hat))
  go_roundg k1
  case measure=>have:=iP.out;omega
  exact⟨_,_,qZ,H',⟨by have:=iP.out;omega⟩,⟨by (with_reducible repeat (first|apply R_alloc|apply R_drewN|apply R_drew));exact R_mono ig.out (fun _ hk=>trivial)⟩,⟨qB⟩⟩
 obtain rfl:=oJ H
 go_wp2
 go_ret
 exact⟨_,qW,qR cO,qB⟩
theorem SaN.grp.calls (k:Nat):ady k/\adw k/\adx k/\SaO.stmt k:=by
 induction k using Nat.strongRecOn with
 | _ k ih=>exact⟨SaN.step k (fun m_ h_=>(ih m_ h_).2.2.2) (fun m_ h_=>(ih m_ h_).2.2.1) (fun m_ h_=>(ih m_ h_).1) (fun m_ h_=>(ih m_ h_).2.1),SaQ.step k (fun m_ h_=>(ih m_ h_).2.2.2) (fun m_ h_=>(ih m_ h_).2.2.1) (fun m_ h_=>(ih m_ h_).1) (fun m_ h_=>(ih m_ h_).2.1),SaP.step k (fun m_ h_=>(ih m_ h_).2.2.2) (fun m_ h_=>(ih m_ h_).2.2.1) (fun m_ h_=>(ih m_ h_).1) (fun m_ h_=>(ih m_ h_).2.1),SaO.step k (fun m_ h_=>(ih m_ h_).2.2.2) (fun m_ h_=>(ih m_ h_).2.2.1) (fun m_ h_=>(ih m_ h_).1) (fun m_ h_=>(ih m_ h_).2.1)⟩
theorem amE (k:Nat):SaO.stmt k:=(SaN.grp.calls k).2.2.2
end Go.Proofs.YtebpplallecogaaGreat.M
