/- Part 1 of the proof: A function as plain Lean and its contract: written by a program of this session's, turned from the kit's print. -/
import Derived.Test.YtebpplallecogaaGreatProg
import Derived.Below
import Derived.Deep.Draws
import Derived.Deep.AppendLies
import Derived.Maps.AppendAt
import Derived.OwnWalk
import Derived.Laws.BytesArg
import Derived.Laws.MakeOwn
import Derived.Laws.OwnMore
import Derived.Deep.OwnRows
import Derived.Tactics
import Derived.Lib.ConvBytes
import Derived.Laws.Slices
import Derived.WalkKit
import Derived.KernelRfl
import Derived.RowKit3
import Derived.Deep.LoopGhost
import Derived.Deep.QuietTactic
import Derived.BigQuiet
import Derived.WideLaws
import Derived.Deep.DeepCutAuto
import Derived.Deep.CutBlock
import Derived.Deep.RegionHeld3
import Derived.Laws.Rows
import Derived.Lib.AppendStr
import Derived.ArgAppend
import Derived.Laws.IdiomCopy
import Derived.OrdersHeld
import Derived.Laws.BitsLemmas
import Derived.RowKit
import Derived.Test.YtebpplallecogaaGreatDIWWords
import Derived.Test.YtebpplallecogaaGreatDIWLast
import Derived.Test.YtebpplallecogaaGreatDIWTab
import Derived.Test.YtebpplallecogaaGreatDIWFour
import Derived.Test.YtebpplallecogaaGreatDIWQPut
import Derived.Test.YtebpplallecogaaGreatDIWApart
import Derived.Test.YtebpplallecogaaGreatDIWArr
import Derived.Test.YtebpplallecogaaGreatDIWZeros
import Derived.Test.YtebpplallecogaaGreatDIWFoot
import Derived.Test.YtebpplallecogaaGreatDIWKept
import Derived.Test.YtebpplallecogaaGreatDIWShare
import Derived.Test.YtebpplallecogaaGreatDIWN
import Derived.Test.YtebpplallecogaaGreatDIWFootNe
import Derived.Test.YtebpplallecogaaGreatDIWAt
import Derived.Test.YtebpplallecogaaGreatDIWEqStruct
import Derived.Test.YtebpplallecogaaGreatDIWRepsOne
import Derived.Test.YtebpplallecogaaGreatDIWInv
import Derived.Test.YtebpplallecogaaGreatDIWInvWords
import Derived.Test.YtebpplallecogaaGreatDIWGuard
import Derived.Test.YtebpplallecogaaGreatDIWNEv
import Derived.Test.YtebpplallecogaaGreatDIWMore
set_option linter.unusedVariables false
set_option linter.unusedSimpArgs false
set_option maxHeartbeats 8000000
set_option maxRecDepth 100000
namespace Go.Proofs.YtebpplallecogaaGreat.M
open Go.RowKit Go.Proofs.YtebpplallecogaaGreatW.PrintWords Go.Proofs.YtebpplallecogaaGreatW.PrintLast Go.Proofs.YtebpplallecogaaGreatW.PrintMore
attribute [local go_sem] aal aaj aaz aay aae aad aak aai
def aqJ:Option Int->Value
  | none=>.nilIface
  | some c=>.iface 0 (.int .i64 c)
theorem aan:aqJ none = .nilIface:=rfl
theorem aam (c:Int):aqJ (some c) = .iface 0 (.int .i64 c):=rfl
theorem akD:(Tryz.prog.info? 3).map (fun i=>(i.zero,i.size,i.bytes))=some (some (.int .i64 0),1,8):=by kernel_rfl
theorem akC:(Tryz.prog.info? 4).map (fun i=>(i.zero,i.size,i.bytes))=some (some (.bool false),1,1):=by kernel_rfl
theorem aqw:(Tryz.prog.info? 5).map (fun i=>(i.zero,i.size,i.bytes))=some (some (.int .u8 0),1,1):=by kernel_rfl
theorem aba:(Tryz.prog.info? 27).map (fun i=>(i.zero,i.size,i.bytes))=some (some (.agg #[(.int .i64 0),(.int .i64 0),(.int .i64 0),(.int .i64 0),(.int .i64 0)]),5,40):=by kernel_rfl
theorem apg:(Tryz.prog.info? 37).map (fun i=>(i.zero,i.size,i.bytes))=some (some (.slice none 0 0),1,24):=by kernel_rfl
theorem apf:(Tryz.prog.info? 43).map (fun i=>(i.zero,i.size,i.bytes))=some (some (.slice none 0 0),1,24):=by kernel_rfl
theorem ape:(Tryz.prog.info? 60).map (fun i=>(i.zero,i.size,i.bytes))=some (some (.int .u16 0),1,2):=by kernel_rfl
theorem akB:(Tryz.prog.info? 92).map (fun i=>(i.zero,i.size,i.bytes))=some (some (.agg #[(.int .i64 0),(.int .i64 0),(.int .i64 0),(.int .i64 0),(.int .i64 0),(.slice none 0 0),(.slice none 0 0),(.slice none 0 0)]),8,112):=by kernel_rfl
theorem aow:(Tryz.prog.info? 104).map (fun i=>(i.zero,i.size,i.bytes))=some (some (.slice none 0 0),1,24):=by kernel_rfl
theorem aeM:(Tryz.prog.info? 118).map (fun i=>(i.zero,i.size,i.bytes))=some (some (.agg #[(.int .i64 0),(.int .i64 0)]),2,16):=by kernel_rfl
-- the values' own types
structure S27 where
  f0:Int
  f1:Int
  f2:Int
  f3:Int
  f4:Int
def z27:S27:=⟨(0:Int),(0:Int),(0:Int),(0:Int),(0:Int)⟩
def k27:Kd S27:=Kd.iso (Kd.pair (Kd.int .i64) (Kd.pair (Kd.int .i64) (Kd.pair (Kd.int .i64) (Kd.pair (Kd.int .i64) (Kd.int .i64))))) (fun x:S27=>(x.f0,x.f1,x.f2,x.f3,x.f4))
theorem acp:Kd.Heap k27:=Kd.heap_iso _ (Kd.heap_pair (Kd.heap_int .i64) (Kd.heap_pair (Kd.heap_int .i64) (Kd.heap_pair (Kd.heap_int .i64) (Kd.heap_pair (Kd.heap_int .i64) (Kd.heap_int .i64)))))
theorem amH {w:World} {x:S27} {cs:List Value} (h:k27.K w x cs):cs=[.int .i64 x.f0,.int .i64 x.f1,.int .i64 x.f2,.int .i64 x.f3,.int .i64 x.f4]:=by
  obtain⟨_,_,rfl,rfl,⟨_,_,rfl,rfl,⟨_,_,rfl,rfl,⟨_,_,rfl,rfl,rfl⟩⟩⟩⟩:=h
  exact rfl
theorem acB {w:World} {base:Nat} {ok:Nat->Prop} {x:S27} {cs:List Value} (h:k27.M w base ok x cs):cs=[.int .i64 x.f0,.int .i64 x.f1,.int .i64 x.f2,.int .i64 x.f3,.int .i64 x.f4]:=by
  obtain⟨_,_,rfl,rfl,⟨_,_,rfl,rfl,⟨_,_,rfl,rfl,⟨_,_,rfl,rfl,rfl⟩⟩⟩⟩:=h
  exact rfl
theorem aaV (w:World) (base:Nat) (ok:Nat->Prop) (x:S27)  : k27.M w base ok x [.int .i64 x.f0,.int .i64 x.f1,.int .i64 x.f2,.int .i64 x.f3,.int .i64 x.f4]:=⟨[.int .i64 x.f0],[.int .i64 x.f1,.int .i64 x.f2,.int .i64 x.f3,.int .i64 x.f4],rfl,rfl,⟨[.int .i64 x.f1],[.int .i64 x.f2,.int .i64 x.f3,.int .i64 x.f4],rfl,rfl,⟨[.int .i64 x.f2],[.int .i64 x.f3,.int .i64 x.f4],rfl,rfl,⟨[.int .i64 x.f3],[.int .i64 x.f4],rfl,rfl,rfl⟩⟩⟩⟩
def aa0 (xs:List S27) (i:Int):S27:=xs.getD i.toNat z27
theorem aaG {w:World} {A:Option Addr} {n:Nat} {xs:List S27} (h:Kd.C k27 w A n xs) (i:Int) (h0:0<=i) (h1:i < n):∃ ad ,A=some ad/\w.cell? (ad.add (i.toNat*5))=some (.int .i64 (aa0 xs i).f0)/\w.cell? ⟨(ad.add (i.toNat*5)).block,(ad.add (i.toNat*5)).off+1,none⟩=some (.int .i64 (aa0 xs i).f1)/\w.cell? ⟨(ad.add (i.toNat*5)).block,(ad.add (i.toNat*5)).off+2,none⟩=some (.int .i64 (aa0 xs i).f2)/\w.cell? ⟨(ad.add (i.toNat*5)).block,(ad.add (i.toNat*5)).off+3,none⟩=some (.int .i64 (aa0 xs i).f3)/\w.cell? ⟨(ad.add (i.toNat*5)).block,(ad.add (i.toNat*5)).off+4,none⟩=some (.int .i64 (aa0 xs i).f4):=by
  obtain⟨ad,c,e,_,hK,hc0⟩:=Kd.C_get h z27 i h0 h1
  have hc:∀ j u,c[j]?=some u->w.cell? (ad.add (i.toNat*5+j))=some u:=hc0
  obtain rfl:=amH hK
  exact⟨ad,e,hc 0 _ rfl,by rw [<- abh _ _ 1 (by omega)];exact hc 1 _ rfl,by rw [<- abh _ _ 2 (by omega)];exact hc 2 _ rfl,by rw [<- abh _ _ 3 (by omega)];exact hc 3 _ rfl,by rw [<- abh _ _ 4 (by omega)];exact hc 4 _ rfl⟩
structure S90 where
  f0:Int
  f1:Int
  f2:(List S90)
def z90:S90:=⟨(0:Int),(0:Int),([]:List S90)⟩
def F90 (d:Kd S90):Kd S90:=Kd.iso (Kd.pair (Kd.int .i64) (Kd.pair (Kd.int .i64) (Kd.slice 90 d))) (fun x:S90=>(x.f0,x.f1,x.f2))
theorem anp:Kd.Mono F90:=Kd.mono_iso _ (Kd.mono_pair (Kd.mono_const _) (Kd.mono_pair (Kd.mono_const _) (Kd.mono_slice 90 Kd.mono_id)))
theorem aqo:Kd.Sub F90 [90]:=Kd.sub_iso _ (Kd.sub_pair (Kd.sub_const _ (by decide)) (Kd.sub_pair (Kd.sub_const _ (by decide)) (Kd.sub_slice 90 (by decide) Kd.sub_id)))
theorem aqI:∀ n,(Kd.upto F90 3 [90] n).sz=3:=Kd.upto_sz (fun _=>rfl)
def k90:Kd S90:=Kd.fix F90 3 [90] aqI (Kd.upto_E aqo)
theorem aj7 {w:World} {x:S90} {cs:List Value} (h:k90.K w x cs):∃ A2 c2,cs=[.int .i64 x.f0,.int .i64 x.f1,.slice A2 x.f2.length c2]/\x.f2.length<=c2/\k90.C w A2 x.f2.length x.f2:=by
  obtain⟨n,h⟩:=h
  cases n with
  | zero=>exact h.elim
  | succ n =>
    obtain⟨_,_,rfl,rfl,⟨_,_,rfl,rfl,⟨A2,c2,rfl,l2,g2⟩⟩⟩:=h
    exact⟨A2,c2,rfl,l2,Kd.fix_C g2⟩
theorem anq (w:World) (x:S90) {A2:Option Addr} {c2:Nat} (l2:x.f2.length<=c2) (g2:k90.C w A2 x.f2.length x.f2):k90.K w x [.int .i64 x.f0,.int .i64 x.f1,.slice A2 x.f2.length c2]:=by
  obtain⟨n2,q2⟩:=Kd.fix_C_back anp g2
  have r2:=Kd.upto_C_le anp aqI (show n2<=n2 by omega) q2
  exact⟨n2+1,⟨[.int .i64 x.f0],[.int .i64 x.f1,.slice A2 x.f2.length c2],rfl,rfl,⟨[.int .i64 x.f1],[.slice A2 x.f2.length c2],rfl,rfl,⟨A2,c2,rfl,l2,r2⟩⟩⟩⟩
theorem akw (W:World) (ok:Nat->Prop) (x:S90) {A2:Option Addr} {c2:Nat} (l2:x.f2.length<=c2) (g2:Kd.F k90 W ok A2 x.f2.length x.f2):Kd.FK k90 W ok x [.int .i64 x.f0,.int .i64 x.f1,.slice A2 x.f2.length c2]:=fun W2 hW=>anq W2 x l2 (g2 W2 hW)
def aaN (xs:List S90) (i:Int):S90:=xs.getD i.toNat z90
theorem ahN {w:World} {A:Option Addr} {n:Nat} {xs:List S90} (h:Kd.C k90 w A n xs) (i:Int) (h0:0<=i) (h1:i < n):∃ ad A2 c2,A=some ad/\w.cell? (ad.add (i.toNat*3))=some (.int .i64 (aaN xs i).f0)/\w.cell? ⟨(ad.add (i.toNat*3)).block,(ad.add (i.toNat*3)).off+1,none⟩=some (.int .i64 (aaN xs i).f1)/\w.cell? ⟨(ad.add (i.toNat*3)).block,(ad.add (i.toNat*3)).off+2,none⟩=some (.slice A2 (aaN xs i).f2.length c2)/\(aaN xs i).f2.length<=c2/\k90.C w A2 (aaN xs i).f2.length (aaN xs i).f2:=by
  obtain⟨ad,c,e,_,hK,hc0⟩:=Kd.C_get h z90 i h0 h1
  have hc:∀ j u,c[j]?=some u->w.cell? (ad.add (i.toNat*3+j))=some u:=hc0
  obtain⟨A2,c2,rfl,l2,g2⟩:=aj7 hK
  exact⟨ad,A2,c2,e,hc 0 _ rfl,by rw [<- abh _ _ 1 (by omega)];exact hc 1 _ rfl,by rw [<- abh _ _ 2 (by omega)];exact hc 2 _ rfl,l2,g2⟩
structure S92 where
  f0:Int
  f1:Int
  f2:Int
  f3:S90
  f4:(List S92)
  f5:(List S92)
def z92:S92:=⟨(0:Int),(0:Int),(0:Int),z90,([]:List S92),([]:List S92)⟩
def F92 (d:Kd S92):Kd S92:=Kd.iso (Kd.pair (Kd.int .i64) (Kd.pair (Kd.int .i64) (Kd.pair (Kd.int .i64) (Kd.pair k90 (Kd.pair (Kd.slice 92 d) (Kd.slice 92 d)))))) (fun x:S92=>(x.f0,x.f1,x.f2,x.f3,x.f4,x.f5))
theorem aj0:Kd.Mono F92:=Kd.mono_iso _ (Kd.mono_pair (Kd.mono_const _) (Kd.mono_pair (Kd.mono_const _) (Kd.mono_pair (Kd.mono_const _) (Kd.mono_pair (Kd.mono_const _) (Kd.mono_pair (Kd.mono_slice 92 Kd.mono_id) (Kd.mono_slice 92 Kd.mono_id))))))
theorem aqn:Kd.Sub F92 [90,92]:=Kd.sub_iso _ (Kd.sub_pair (Kd.sub_const _ (by decide)) (Kd.sub_pair (Kd.sub_const _ (by decide)) (Kd.sub_pair (Kd.sub_const _ (by decide)) (Kd.sub_pair (Kd.sub_const _ (by decide)) (Kd.sub_pair (Kd.sub_slice 92 (by decide) Kd.sub_id) (Kd.sub_slice 92 (by decide) Kd.sub_id))))))
theorem aqm:∀ n,(Kd.upto F92 8 [90,92] n).sz=8:=Kd.upto_sz (fun _=>rfl)
def k92:Kd S92:=Kd.fix F92 8 [90,92] aqm (Kd.upto_E aqn)
theorem amG {w:World} {x:S92} {cs:List Value} (h:k92.K w x cs):∃ A5 c5 A6 c6 A7 c7,cs=[.int .i64 x.f0,.int .i64 x.f1,.int .i64 x.f2,.int .i64 x.f3.f0,.int .i64 x.f3.f1,.slice A5 x.f3.f2.length c5,.slice A6 x.f4.length c6,.slice A7 x.f5.length c7]/\x.f3.f2.length<=c5/\k90.C w A5 x.f3.f2.length x.f3.f2/\x.f4.length<=c6/\k92.C w A6 x.f4.length x.f4/\x.f5.length<=c7/\k92.C w A7 x.f5.length x.f5:=by
  obtain⟨n,h⟩:=h
  cases n with
  | zero=>exact h.elim
  | succ n =>
    obtain⟨_,_,rfl,rfl,⟨_,_,rfl,rfl,⟨_,_,rfl,rfl,⟨_,_,rfl,s3,⟨_,_,rfl,⟨A6,c6,rfl,l6,g6⟩,⟨A7,c7,rfl,l7,g7⟩⟩⟩⟩⟩⟩:=h
    obtain⟨A5,c5,rfl,l5,g5⟩:=aj7 s3
    exact⟨A5,c5,A6,c6,A7,c7,rfl,l5,g5,l6,Kd.fix_C g6,l7,Kd.fix_C g7⟩
theorem ap9 (w:World) (x:S92) {A5:Option Addr} {c5:Nat} (l5:x.f3.f2.length<=c5) (g5:k90.C w A5 x.f3.f2.length x.f3.f2) {A6:Option Addr} {c6:Nat} (l6:x.f4.length<=c6) (g6:k92.C w A6 x.f4.length x.f4) {A7:Option Addr} {c7:Nat} (l7:x.f5.length<=c7) (g7:k92.C w A7 x.f5.length x.f5):k92.K w x [.int .i64 x.f0,.int .i64 x.f1,.int .i64 x.f2,.int .i64 x.f3.f0,.int .i64 x.f3.f1,.slice A5 x.f3.f2.length c5,.slice A6 x.f4.length c6,.slice A7 x.f5.length c7]:=by
  obtain⟨n6,q6⟩:=Kd.fix_C_back aj0 g6
  obtain⟨n7,q7⟩:=Kd.fix_C_back aj0 g7
  have r6:=Kd.upto_C_le aj0 aqm (show n6<=(max n6 n7) by omega) q6
  have r7:=Kd.upto_C_le aj0 aqm (show n7<=(max n6 n7) by omega) q7
  exact⟨(max n6 n7)+1,⟨[.int .i64 x.f0],[.int .i64 x.f1,.int .i64 x.f2,.int .i64 x.f3.f0,.int .i64 x.f3.f1,.slice A5 x.f3.f2.length c5,.slice A6 x.f4.length c6,.slice A7 x.f5.length c7],rfl,rfl,⟨[.int .i64 x.f1],[.int .i64 x.f2,.int .i64 x.f3.f0,.int .i64 x.f3.f1,.slice A5 x.f3.f2.length c5,.slice A6 x.f4.length c6,.slice A7 x.f5.length c7],rfl,rfl,⟨[.int .i64 x.f2],[.int .i64 x.f3.f0,.int .i64 x.f3.f1,.slice A5 x.f3.f2.length c5,.slice A6 x.f4.length c6,.slice A7 x.f5.length c7],rfl,rfl,⟨[.int .i64 x.f3.f0,.int .i64 x.f3.f1,.slice A5 x.f3.f2.length c5],[.slice A6 x.f4.length c6,.slice A7 x.f5.length c7],rfl,(anq w x.f3 l5 g5),⟨[.slice A6 x.f4.length c6],[.slice A7 x.f5.length c7],rfl,⟨A6,c6,rfl,l6,r6⟩,⟨A7,c7,rfl,l7,r7⟩⟩⟩⟩⟩⟩⟩
theorem acw (W:World) (ok:Nat->Prop) (x:S92) {A5:Option Addr} {c5:Nat} (l5:x.f3.f2.length<=c5) (g5:Kd.F k90 W ok A5 x.f3.f2.length x.f3.f2) {A6:Option Addr} {c6:Nat} (l6:x.f4.length<=c6) (g6:Kd.F k92 W ok A6 x.f4.length x.f4) {A7:Option Addr} {c7:Nat} (l7:x.f5.length<=c7) (g7:Kd.F k92 W ok A7 x.f5.length x.f5):Kd.FK k92 W ok x [.int .i64 x.f0,.int .i64 x.f1,.int .i64 x.f2,.int .i64 x.f3.f0,.int .i64 x.f3.f1,.slice A5 x.f3.f2.length c5,.slice A6 x.f4.length c6,.slice A7 x.f5.length c7]:=fun W2 hW=>ap9 W2 x l5 (g5 W2 hW) l6 (g6 W2 hW) l7 (g7 W2 hW)
def aao (xs:List S92) (i:Int):S92:=xs.getD i.toNat z92
theorem ahM {w:World} {A:Option Addr} {n:Nat} {xs:List S92} (h:Kd.C k92 w A n xs) (i:Int) (h0:0<=i) (h1:i < n):∃ ad A5 c5 A6 c6 A7 c7,A=some ad/\w.cell? (ad.add (i.toNat*8))=some (.int .i64 (aao xs i).f0)/\w.cell? ⟨(ad.add (i.toNat*8)).block,(ad.add (i.toNat*8)).off+1,none⟩=some (.int .i64 (aao xs i).f1)/\w.cell? ⟨(ad.add (i.toNat*8)).block,(ad.add (i.toNat*8)).off+2,none⟩=some (.int .i64 (aao xs i).f2)/\w.cell? ⟨(ad.add (i.toNat*8)).block,(ad.add (i.toNat*8)).off+3,none⟩=some (.int .i64 (aao xs i).f3.f0)/\w.cell? ⟨(ad.add (i.toNat*8)).block,(ad.add (i.toNat*8)).off+4,none⟩=some (.int .i64 (aao xs i).f3.f1)/\w.cell? ⟨(ad.add (i.toNat*8)).block,(ad.add (i.toNat*8)).off+5,none⟩=some (.slice A5 (aao xs i).f3.f2.length c5)/\w.cell? ⟨(ad.add (i.toNat*8)).block,(ad.add (i.toNat*8)).off+6,none⟩=some (.slice A6 (aao xs i).f4.length c6)/\w.cell? ⟨(ad.add (i.toNat*8)).block,(ad.add (i.toNat*8)).off+7,none⟩=some (.slice A7 (aao xs i).f5.length c7)/\(aao xs i).f3.f2.length<=c5/\k90.C w A5 (aao xs i).f3.f2.length (aao xs i).f3.f2/\(aao xs i).f4.length<=c6/\k92.C w A6 (aao xs i).f4.length (aao xs i).f4/\(aao xs i).f5.length<=c7/\k92.C w A7 (aao xs i).f5.length (aao xs i).f5:=by
  obtain⟨ad,c,e,_,hK,hc0⟩:=Kd.C_get h z92 i h0 h1
  have hc:∀ j u,c[j]?=some u->w.cell? (ad.add (i.toNat*8+j))=some u:=hc0
  obtain⟨A5,c5,A6,c6,A7,c7,rfl,l5,g5,l6,g6,l7,g7⟩:=amG hK
  exact⟨ad,A5,c5,A6,c6,A7,c7,e,hc 0 _ rfl,by rw [<- abh _ _ 1 (by omega)];exact hc 1 _ rfl,by rw [<- abh _ _ 2 (by omega)];exact hc 2 _ rfl,by rw [<- abh _ _ 3 (by omega)];exact hc 3 _ rfl,by rw [<- abh _ _ 4 (by omega)];exact hc 4 _ rfl,by rw [<- abh _ _ 5 (by omega)];exact hc 5 _ rfl,by rw [<- abh _ _ 6 (by omega)];exact hc 6 _ rfl,by rw [<- abh _ _ 7 (by omega)];exact hc 7 _ rfl,l5,g5,l6,g6,l7,g7⟩
def acA (xs:List (List Bool)) (i:Int):(List Bool):=xs.getD i.toNat ([]:List Bool)
theorem apm {w:World} {A:Option Addr} {n:Nat} {xs:List (List Bool)} (h:Kd.C (Kd.slice 4 Kd.bool) w A n xs) (i:Int) (h0:0<=i) (h1:i < n):∃ ad A0 c0,A=some ad/\w.cell? (ad.add i.toNat)=some (.slice A0 (acA xs i).length c0)/\(acA xs i).length<=c0/\Kd.bool.C w A0 (acA xs i).length (acA xs i):=by
  obtain⟨ad,c,e,_,hK,hc0⟩:=Kd.C_get h ([]:List Bool) i h0 h1
  have hc:∀ j u,c[j]?=some u->w.cell? (ad.add (i.toNat*1+j))=some u:=hc0
  obtain⟨A0,c0,rfl,l0,g0⟩:=hK
  exact⟨ad,A0,c0,e,by have hq:=hc 0 _ rfl;rwa [Nat.mul_one,Nat.add_zero] at hq,l0,g0⟩
structure ab3 where
  f0:Int
  f1:Int
def agX:ab3:=⟨(0:Int),(0:Int)⟩
def abk:Kd ab3:=Kd.iso (Kd.pair (Kd.int .i64) (Kd.int .i64)) (fun x:ab3=>(x.f0,x.f1))
theorem akx {w:World} {x:ab3} {cs:List Value} (h:abk.K w x cs):cs=[.int .i64 x.f0,.int .i64 x.f1]:=by
  obtain⟨_,_,rfl,rfl,rfl⟩:=h
  exact rfl
theorem abe {w:World} {base:Nat} {ok:Nat->Prop} {x:ab3} {cs:List Value} (h:abk.M w base ok x cs):cs=[.int .i64 x.f0,.int .i64 x.f1]:=by
  obtain⟨_,_,rfl,rfl,rfl⟩:=h
  exact rfl
theorem acL (w:World) (base:Nat) (ok:Nat->Prop) (x:ab3)  : abk.M w base ok x [.int .i64 x.f0,.int .i64 x.f1]:=⟨[.int .i64 x.f0],[.int .i64 x.f1],rfl,rfl,rfl⟩
def aa8 (xs:List ab3) (i:Int):ab3:=xs.getD i.toNat agX
theorem aaW {w:World} {A:Option Addr} {n:Nat} {xs:List ab3} (h:Kd.C abk w A n xs) (i:Int) (h0:0<=i) (h1:i < n):∃ ad ,A=some ad/\w.cell? (ad.add (i.toNat*2))=some (.int .i64 (aa8 xs i).f0)/\w.cell? ⟨(ad.add (i.toNat*2)).block,(ad.add (i.toNat*2)).off+1,none⟩=some (.int .i64 (aa8 xs i).f1):=by
  obtain⟨ad,c,e,_,hK,hc0⟩:=Kd.C_get h agX i h0 h1
  have hc:∀ j u,c[j]?=some u->w.cell? (ad.add (i.toNat*2+j))=some u:=hc0
  obtain rfl:=akx hK
  exact⟨ad,e,hc 0 _ rfl,by rw [<- abh _ _ 1 (by omega)];exact hc 1 _ rfl⟩
def aaC (xs:List (List ab3)) (i:Int):(List ab3):=xs.getD i.toNat ([]:List ab3)
theorem ahj {w:World} {A:Option Addr} {n:Nat} {xs:List (List ab3)} (h:Kd.C (Kd.slice 118 abk) w A n xs) (i:Int) (h0:0<=i) (h1:i < n):∃ ad A0 c0,A=some ad/\w.cell? (ad.add i.toNat)=some (.slice A0 (aaC xs i).length c0)/\(aaC xs i).length<=c0/\abk.C w A0 (aaC xs i).length (aaC xs i):=by
  obtain⟨ad,c,e,_,hK,hc0⟩:=Kd.C_get h ([]:List ab3) i h0 h1
  have hc:∀ j u,c[j]?=some u->w.cell? (ad.add (i.toNat*1+j))=some u:=hc0
  obtain⟨A0,c0,rfl,l0,g0⟩:=hK
  exact⟨ad,A0,c0,e,by have hq:=hc 0 _ rfl;rwa [Nat.mul_one,Nat.add_zero] at hq,l0,g0⟩
def aaY (xs:List (List Int)) (i:Int):(List Int):=xs.getD i.toNat ([]:List Int)
theorem afh {w:World} {A:Option Addr} {n:Nat} {xs:List (List Int)} (h:Kd.C (Kd.slice 3 (Kd.int .i64)) w A n xs) (i:Int) (h0:0<=i) (h1:i < n):∃ ad A0 c0,A=some ad/\w.cell? (ad.add i.toNat)=some (.slice A0 (aaY xs i).length c0)/\(aaY xs i).length<=c0/\(Kd.int .i64).C w A0 (aaY xs i).length (aaY xs i):=by
  obtain⟨ad,c,e,_,hK,hc0⟩:=Kd.C_get h ([]:List Int) i h0 h1
  have hc:∀ j u,c[j]?=some u->w.cell? (ad.add (i.toNat*1+j))=some u:=hc0
  obtain⟨A0,c0,rfl,l0,g0⟩:=hK
  exact⟨ad,A0,c0,e,by have hq:=hc 0 _ rfl;rwa [Nat.mul_one,Nat.add_zero] at hq,l0,g0⟩
theorem qE {α β:Type} {o:Option α} {f:α->Option β} {r:β} (h:o.bind f=some r):∃ a,aa1 (o=some a)/\f a=some r:=by
  obtain⟨a,h1,h2⟩:=Option.bind_eq_some_iff.mp h
  exact⟨a,⟨h1⟩,h2⟩
theorem qB {B:Nat} {w W:World} (h:Below B w W:=by repeat (first|(with_reducible first|exact HB.out|apply aaE|apply aat|apply aaf|refine aac ?_ (aa1.out (by assumption)))|exact HB.out)):Below B w W:=h
theorem qD {p:Prop} [d:Decidable p] (h:decide p=true:=by first|(with_reducible assumption)|assumption):p:=of_decide_eq_true h
theorem qZ {p:Prop} (h:p:=by first|rfl|(simp;done)|(simp [*];done)):p:=h
theorem qM {p:Prop} (h:p:=by (try simp only [List.map_toArray,List.map_cons,List.map_nil]);first|done|rfl|(simp only [List.length_drop,List.length_take];rfl)):p:=h
theorem qK {p q:Prop} (h:aa1 p) (f:p->q:=by intro h_;(with_reducible repeat (first|refine acb ?_ _|refine ab2 ?_|refine acd ?_ _));exact h_):q:=f h.out
theorem qR {p q:Prop} (h:aa1 p) (f:p->q:=by intro h_;(with_reducible repeat (first|apply Kd.R_alloc|apply Kd.R_drewN|apply Kd.R_drew));exact h_):q:=f h.out
theorem qH {p:Prop} (h:p:=by repeat (first|(with_reducible first|exact HK.out|apply afg|apply agA|apply ae5|apply agB|refine ahc ?_ (aa1.out (by assumption)) _)|exact HK.out)):p:=h
theorem qT {p:Prop} (h:p:=by repeat (first|(with_reducible first|exact HK.out|apply Kept.alloc|apply Kept.drewN|apply Kept.drew)|exact HK.out)):p:=h
theorem qN {p q:Prop} (h:aa1 p) (f:p->q:=by intro h_;(with_reducible repeat (first|apply Kd.N_alloc|apply Kd.N_drewN|apply Kd.N_drew));exact h_):q:=f h.out
theorem qV {p q:Prop} (h:aa1 p) (f:p->q:=by intro h_;(with_reducible repeat (first|apply Kd.V_alloc|apply Kd.V_drewN|apply Kd.V_drew));exact h_):q:=f h.out
theorem qS {p q:Prop} (h:aa1 p) (f:p->q:=by intro h_;(with_reducible repeat (first|apply Kd.S_alloc|apply Kd.S_drewN|apply Kd.S_drew));exact h_):q:=f h.out
theorem abP {w:World} {ad:Addr} {n:Nat} {xs:List S27} (h:Kd.C k27 w (some ad) n xs) (i:Int) (h0:0<=i) (h1:i < n):w.cell? (ad.add (i.toNat*5))=some (.int .i64 (aa0 xs i).f0):=by
  obtain⟨ad2,e,h_0,h_1,h_2,h_3,h_4⟩:=aaG h i h0 h1
  injection e with e
  subst e
  exact h_0
theorem abO {w:World} {ad:Addr} {n:Nat} {xs:List S27} (h:Kd.C k27 w (some ad) n xs) (i:Int) (h0:0<=i) (h1:i < n):w.cell? ⟨(ad.add (i.toNat*5)).block,(ad.add (i.toNat*5)).off+1,none⟩=some (.int .i64 (aa0 xs i).f1):=by
  obtain⟨ad2,e,h_0,h_1,h_2,h_3,h_4⟩:=aaG h i h0 h1
  injection e with e
  subst e
  exact h_1
theorem abN {w:World} {ad:Addr} {n:Nat} {xs:List S27} (h:Kd.C k27 w (some ad) n xs) (i:Int) (h0:0<=i) (h1:i < n):w.cell? ⟨(ad.add (i.toNat*5)).block,(ad.add (i.toNat*5)).off+2,none⟩=some (.int .i64 (aa0 xs i).f2):=by
  obtain⟨ad2,e,h_0,h_1,h_2,h_3,h_4⟩:=aaG h i h0 h1
  injection e with e
  subst e
  exact h_2
theorem abM {w:World} {ad:Addr} {n:Nat} {xs:List S27} (h:Kd.C k27 w (some ad) n xs) (i:Int) (h0:0<=i) (h1:i < n):w.cell? ⟨(ad.add (i.toNat*5)).block,(ad.add (i.toNat*5)).off+3,none⟩=some (.int .i64 (aa0 xs i).f3):=by
  obtain⟨ad2,e,h_0,h_1,h_2,h_3,h_4⟩:=aaG h i h0 h1
  injection e with e
  subst e
  exact h_3
theorem abL {w:World} {ad:Addr} {n:Nat} {xs:List S27} (h:Kd.C k27 w (some ad) n xs) (i:Int) (h0:0<=i) (h1:i < n):w.cell? ⟨(ad.add (i.toNat*5)).block,(ad.add (i.toNat*5)).off+4,none⟩=some (.int .i64 (aa0 xs i).f4):=by
  obtain⟨ad2,e,h_0,h_1,h_2,h_3,h_4⟩:=aaG h i h0 h1
  injection e with e
  subst e
  exact h_4
theorem abR {w:World} {ad:Addr} {n:Nat} {xs:List ab3} (h:Kd.C abk w (some ad) n xs) (i:Int) (h0:0<=i) (h1:i < n):w.cell? (ad.add (i.toNat*2))=some (.int .i64 (aa8 xs i).f0):=by
  obtain⟨ad2,e,h_0,h_1⟩:=aaW h i h0 h1
  injection e with e
  subst e
  exact h_0
theorem abQ {w:World} {ad:Addr} {n:Nat} {xs:List ab3} (h:Kd.C abk w (some ad) n xs) (i:Int) (h0:0<=i) (h1:i < n):w.cell? ⟨(ad.add (i.toNat*2)).block,(ad.add (i.toNat*2)).off+1,none⟩=some (.int .i64 (aa8 xs i).f1):=by
  obtain⟨ad2,e,h_0,h_1⟩:=aaW h i h0 h1
  injection e with e
  subst e
  exact h_1
theorem afI {W w':World} {n:Nat} (hq:W.drewN n=w') {a:Addr} {b:Bool} (h:W.frozen? a=b):w'.frozen? a=b:=by
  rw [<- hq,World.frozen?_drewN];exact h
theorem ajS {α β:Type} {d:Kd α} {d':Kd β} {e e':Nat} {w:World} {base:Nat} {ok:Nat->Prop} {v:Value} {xs:List α} (h:d.R e w base ok v xs) (hne:∀ q,q∈e' :: d'.E->q≠e) {k:Nat} (hk:some k=v.ownBlock) (hs:∃ q,q∈e' :: d'.E/\∃ cells,w.heap[k]?=some (.cells cells q (0,0))):False:=by
  obtain⟨q,hq,c,hc⟩:=hs
  obtain⟨c',hc'⟩:=Kd.R_typed h k hk.symm
  rw [hc] at hc'
  injection hc' with hc'
  injection hc' with _ hc'
  exact hne q hq hc'
def jb (n k:Nat):Array Bool:=((List.range n).map fun i=>k.testBit i).toArray
theorem jI {c:Prop} [Decidable c] {α:Type} {A:Option α} {r:α} (h:(if c then A else none)=some r):decide c=true/\A=some r:=by
  by_cases x:c
  · exact⟨decide_eq_true x,by rwa [if_pos x] at h⟩
  · rw [if_neg x] at h;cases h
theorem jU {c:Prop} [Decidable c] {α:Type} {A:Option α} {r:α} (h:(if c then A else none)=some r):c/\A=some r:=⟨of_decide_eq_true (jI h).1,(jI h).2⟩
theorem jJ {c:Prop} [Decidable c] {α:Type} {A:Option α} {r:α} (h:(if c then A else none)=some r):c=True/\decide c=true/\A=some r:=⟨eq_true (jU h).1,jI h⟩
theorem jL {c:Prop} [Decidable c] {α:Type} {A:Option α} {r:α} (h:(if c then A else none)=some r):aa1 c/\A=some r:=⟨⟨(jU h).1⟩,(jU h).2⟩
theorem jD {c:Prop} [Decidable c] {α:Type} {A B:Option α} {r:α} (h:(if c then A else B)=some r):(decide c=true/\A=some r)\/(decide c=false/\B=some r):=by
  by_cases x:c
  · exact .inl ⟨decide_eq_true x,by rwa [if_pos x] at h⟩
  · exact .inr ⟨decide_eq_false x,by rwa [if_neg x] at h⟩
theorem jE {β:Type} [BEq β] [LawfulBEq β] {x y:β} [Decidable (x=y)] {α:Type} {A B:Option α} {r:α} (h:(if x=y then A else B)=some r):((x == y)=true/\(x != y)=false/\A=some r)\/(¬ x=y/\(x == y)=false/\(x != y)=true/\B=some r):=by
  by_cases c:x=y
  · exact .inl ⟨beq_iff_eq.mpr c,bne_eq_false_iff_eq.mpr c,by rwa [if_pos c] at h⟩
  · exact .inr ⟨c,beq_eq_false_iff_ne.mpr c,bne_iff_ne.mpr c,by rwa [if_neg c] at h⟩
theorem jB {b:Bool} {α:Type} {A B:Option α} {r:α} (h:(if b=true then A else B)=some r):(b=true/\A=some r)\/(b=false/\B=some r):=by
  cases b
  · exact .inr ⟨rfl,h⟩
  · exact .inl ⟨rfl,h⟩
theorem afr {w:World} {g g' j:Nat} {o:Option Obj} (h:w.heap[g]?=o) (hp:g≠g') (u:Value):(w.setCell ⟨g',j,none⟩ u).heap[g]?=o:=(Below.heap_setCell w ⟨g',j,none⟩ u g hp).trans h
theorem amQ {w:World} {g g' j:Nat} {o:Option Obj} {u:Value} (h:w.heap[g]?=o) (hp:aa1 (g≠g')):(w.setCell ⟨g',j,none⟩ u).heap[g]?=o:=(Below.heap_setCell w ⟨g',j,none⟩ u g hp.out).trans h
theorem amP {w:World} {g t j:Nat} {cs:Array Value} {v:Value} (h:w.heap[g]?=some (.cells cs t (0,0))):(w.setCell ⟨g,j,none⟩ v).heap[g]?=some (.cells (cs.setIfInBounds j v) t (0,0)):=akQ h j v rfl
theorem qF {p q:Prop} (h:aa1 p) (f:p->q:=by
    intro h_
    apply Eq.trans
    · repeat (with_reducible first|exact h_|assumption|apply amP|apply amQ|apply acb|apply ab2|apply acd)
    · rfl):q:=f h.out
theorem qL {p q:Prop} (h:aa1 p) (f:p->q:=by intro h_;(with_reducible repeat (first|refine acb ?_ _|refine ab2 ?_|refine acd ?_ _|refine afr ?_ (aa1.out (by assumption)) _));exact h_):q:=f h.out
theorem mM {α:Type} {x y:Option α} (h:LeO x y:=by repeat' (first|(with_reducible first|exact aeD _|exact acu _|refine adr ?_ ?_|refine LeO.bind ?_ (fun _=>?_)|apply_assumption)|exact acu _|apply_assumption|refine adr ?_ ?_|refine LeO.bind ?_ (fun _=>?_))):LeO x y:=h
theorem kC {p q:Prop} (h:p) (f:p->q:=by intro h_;repeat (first|exact h_|(with_reducible refine Kd.C_alloc ?_ _)|(with_reducible refine Kd.C_drewN ?_ _)|(with_reducible refine Kd.C_drew ?_))):q:=f h
theorem kn {w:World} {a:Addr} {v:Value} {b g:Nat} (h:w.cell? a=some v) (hg:aa1 (w.heap.size<=g)) (e:a.block=b:=by first|rfl|exact add_block _ _):b≠g:=Nat.ne_of_lt (Nat.lt_of_lt_of_le (e ▸ World.block_lt_of_cell? _ _ h) hg.out)
theorem kx {w W:World} {a:Addr} {v:Value} (hb:aa1 (Below w.heap.size w W)) (h:w.cell? a=some v):W.cell? a=some v:=(hb.out.cell (World.block_lt_of_cell? w _ h)).trans h
theorem ky {α:Type} (E:α):∃ y,aa1 (y=E):=⟨E,⟨rfl⟩⟩
theorem kz {α β:Type} {y E:α} {f:α->Option β} {r:β} (N:aa1 (y=E)) (h:(some E).bind f=some r):f y=some r:=by rw [N.out];exact h
theorem kQ {α:Type} {d:Kd α} {A:Option Addr} {n:Nat} {xs:List α} {w0 W w1:World} (h:aa1 (d.C w0 A n xs)) (hb:Below W.heap.size W w1) (f:d.C w0 A n xs->d.C W A n xs:=by intro h_;exact kC h_):aa1 (d.C w1 A n xs):=⟨Kd.C_below (f h.out) hb⟩
theorem kT {w W w1:World} {S:Nat->Prop} (hb:Below W.heap.size W w1) (h:Kept w W S:=by exact qT):aa1 (Kept w w1 S):=⟨Kept.below h hb⟩
theorem kW {W w1:World} {a:Addr} {v:Value} (hb:Below W.heap.size W w1) (h:aa1 (W.cell? a=some v)):aa1 (w1.cell? a=some v):=⟨abo hb h.out⟩
theorem kL {α:Type} {d:Kd α} {e:Nat} {ok:Nat->Prop} {v:Value} {xs:List α} {w W w1:World} (h:d.R e w1 W.heap.size ok v xs) (hb:w.heap.size<=W.heap.size:=by exact aa4 qB):aa1 (d.R e w1 w.heap.size ok v xs):=⟨Kd.R_lower h hb⟩
theorem kO {α β:Type} {d:Kd α} {d':Kd β} {e e' base:Nat} {ok ok':Nat->Prop} {u v:Value} {xs:List α} {ys:List β} {w0 W w1 w2:World} (h:aa1 (d.R e w0 base ok u xs)) (ho:d'.R e' w2 W.heap.size ok' v ys) (hb:Below W.heap.size W w1) (f:d.R e w0 base ok u xs->d.R e W base ok u xs:=by intro h_;(with_reducible repeat (first|apply Kd.R_alloc|apply Kd.R_drewN|apply Kd.R_drew));exact h_):aa1 (d.R e w1 base (fun k=>ok k/\some k≠v.ownBlock) u xs):=⟨Kd.R_elder' (f h.out) (Kd.R_base ho) hb⟩
theorem kf {p q:Prop} (h:p) (f:p->q:=by intro h_;first|exact h_|(rw [add_block];exact h_)|(show (Addr.add _ _).block≠_;rw [add_block];exact h_)|(dsimp only;exact h_)):q:=f h
theorem qW {p:Prop} (h:p:=by first|rfl|(simp [aan,aam] <;> rfl)|(simp [*,aan,aam] <;> rfl)):p:=h
theorem qU {p:Prop} (h:p:=by repeat (first|exact aaO _|apply aaD.step)):p:=h
theorem kH {w W w1:World} (hb:Below W.heap.size W w1) (h:Below w.heap.size w W:=by exact qB):aa1 (Below w.heap.size w w1):=⟨abS h hb⟩
theorem kB {w0 W w1:World} {g:Nat} {o:Obj} (h:aa1 (w0.heap[g]?=some o)) (hb:Below W.heap.size W w1) (f:w0.heap[g]?=some o->W.heap[g]?=some o:=by intro h_;(with_reducible repeat (first|refine acb ?_ _|refine ab2 ?_|refine acd ?_ _|refine afr ?_ (aa1.out (by assumption)) _));exact h_):aa1 (w1.heap[g]?=some o):=⟨abC (f h.out) hb⟩
theorem kR {α:Type} {d:Kd α} {e base:Nat} {ok:Nat->Prop} {v:Value} {xs:List α} {w0 W w1:World} (h:aa1 (d.R e w0 base ok v xs)) (hb:Below W.heap.size W w1) (f:d.R e w0 base ok v xs->d.R e W base ok v xs:=by intro h_;(with_reducible repeat (first|apply Kd.R_alloc|apply Kd.R_drewN|apply Kd.R_drew));exact h_):aa1 (d.R e w1 base ok v xs):=⟨Kd.R_below (f h.out) hb⟩
theorem kG {w W:World} {g:Nat} (hg:g=W.heap.size) (h:w.heap.size<=W.heap.size:=by exact aa4 qB):aa1 (w.heap.size<=g):=⟨hg ▸ h⟩
theorem kN {w0 W:World} {g g1:Nat} {o:Obj} (hg:g1=W.heap.size) (h:aa1 (w0.heap[g]?=some o)) (f:w0.heap[g]?=some o->W.heap[g]?=some o:=by intro h_;(with_reducible repeat (first|refine acb ?_ _|refine ab2 ?_|refine acd ?_ _|refine afr ?_ (aa1.out (by assumption)) _));exact h_):aa1 (g≠g1):=⟨by rw [hg];exact Nat.ne_of_lt (acC (f h.out))⟩
theorem kM {w0 W:World} {g g1:Nat} {o:Obj} (hg:g1=W.heap.size) (h:aa1 (w0.heap[g]?=some o)) (f:w0.heap[g]?=some o->W.heap[g]?=some o:=by intro h_;(with_reducible repeat (first|refine acb ?_ _|refine ab2 ?_|refine acd ?_ _|refine afr ?_ (aa1.out (by assumption)) _));exact h_):aa1 (g1≠g):=⟨by rw [hg];exact Nat.ne_of_gt (acC (f h.out))⟩
theorem kS {α:Type} {d:Kd α} {e base:Nat} {ok:Nat->Prop} {v:Value} {xs:List α} {w0 W w1:World} (h:aa1 (d.S e w0 base ok v xs)) (hb:Below W.heap.size W w1) (f:d.S e w0 base ok v xs->d.S e W base ok v xs:=by intro h_;(with_reducible repeat (first|apply Kd.S_alloc|apply Kd.S_drewN|apply Kd.S_drew));exact h_):aa1 (d.S e w1 base ok v xs):=⟨Kd.S_below (f h.out) hb⟩
section
variable {P:Program} {ops:Array Oper} {rest:List Oper} {o:Oper} {a:Act} {Q:Exit->Act->World->Prop}
theorem jV {α:Type} (d:Kd α) {W:World} (e:Nat) (xs:List α) (inner:List Value) {N:Tmp} (hrep:aax (d.M W W.heap.size (fun _=>True)) d.sz xs inner) (h:∀ v1 w1,d.R e w1 W.heap.size (fun _=>True) v1 xs->Below W.heap.size W w1->wpList P ops Q rest (a.put o.dst v1) w1) (hgd:o.guard=none:=by rfl) (hd:o.dst=some N:=by rfl)
    (hrun:(execOp a.eval o).run P W = .ok (.value (.slice (some ⟨W.heap.size,0,none⟩) xs.length xs.length)) (W.alloc (.cells inner.toArray e)):=by first|(go_simp;done)|(go_simp;rfl)) (hm:xs.length<=9223372036854775807:=by simp):wpList P ops Q (o :: rest) a W :=
  Kd.R_lit d _ e hgd hd hrun hrep (fun _ hk=>hk) trivial (Below.refl _ _) (Nat.le_refl _) hm (fun v1 w1 h1 h2 _ _=>h v1 w1 h1 h2)
theorem jc {w:World} (f m:Nat) {xs:Array Operand} {ts:Array TypeId} (h:wpList P ops Q (o :: rest) a w) (_h:o.op = .call { callee:=.value (.func f),args:=xs,argTypes:=ts }:=by rfl) (_g:o.dst=some m:=by rfl):wpList P ops Q (o :: rest) a w:=h
theorem jd {w:World} (m:Nat) (h:wpList P ops Q (o :: rest) a w) (_g:o.dst=some m:=by rfl):wpList P ops Q (o :: rest) a w:=h
theorem jX {W:World} (cs:Array Value) (t:TypeId) {N:Tmp} (h:∀ g,g=W.heap.size->∀ w1,w1.heap[g]?=some (.cells cs t (0,0))->Below W.heap.size W w1->wpList P ops Q rest (a.put o.dst (.pointer (some ⟨g,0,none⟩))) w1) (hgd:o.guard=none:=by rfl) (hd:o.dst=some N:=by rfl)
    (hrun:(execOp a.eval o).run P W = .ok (.value (.pointer (some ⟨W.heap.size,0,none⟩))) (W.alloc (.cells cs t (0,0))):=by first|(go_simp;done)|(go_simp;rfl)):wpList P ops Q (o :: rest) a W:=aeb hgd hd hrun h
theorem jG {w:World} {f:FuncId} {fn:Func} {xs:Array Operand} {ts:Array TypeId} {N:Option Tmp} (hf:P.funcs[f]?=some fn) (args:Array Value) (h:Calls P f args w fun e w'=>∃ v,e = .returned v/\wpList P ops Q rest (a.put N v) w') (hd:o.dst=N:=by rfl) (hg:o.guard=none:=by rfl) (hname:(fn.name == "runtime.NumGoroutine")=false:=by kernel_rfl) (hb:fn.body.isSome=true:=by rfl)
    (hop:o.op = .call { callee:=.value (.func f),args:=xs,argTypes:=ts }:=by rfl) (hargs:xs.map a.eval=args:=by exact qM):wpList P ops Q (o :: rest) a w:=ae6 N hd hg hf hname hb args hop hargs h
theorem jK {w:World} {f:FuncId} {fn:Func} {xs:Array Operand} {ts:Array TypeId} {N:Option Tmp} {args:Array Value} {v:Value} {R:World->Prop} (hf:P.funcs[f]?=some fn) (hc:Calls P f args w fun e w'=>e = .returned v/\R w') (h:∀ w',R w'->wpList P ops Q rest (a.put N v) w') (hd:o.dst=N:=by rfl) (hg:o.guard=none:=by rfl) (hname:(fn.name == "runtime.NumGoroutine")=false:=by kernel_rfl) (hb:fn.body.isSome=true:=by rfl)
    (hop:o.op = .call { callee:=.value (.func f),args:=xs,argTypes:=ts }:=by rfl) (hargs:xs.map a.eval=args:=by exact qM):wpList P ops Q (o :: rest) a w:=ae6 N hd hg hf hname hb args hop hargs (hc.mono fun _ w' k=>⟨v,k.1,h w' k.2⟩)
theorem jM {w:World} {f:FuncId} {fn:Func} {xs:Array Operand} {ts:Array TypeId} {N:Option Tmp} {args:Array Value} {β:Type} {v:β->Value} {R:β->World->Prop} (hf:P.funcs[f]?=some fn) (hc:Calls P f args w fun e w'=>∃ u,e = .returned (v u)/\R u w') (h:∀ u w',R u w'->wpList P ops Q rest (a.put N (v u)) w') (hd:o.dst=N:=by rfl) (hg:o.guard=none:=by rfl) (hname:(fn.name == "runtime.NumGoroutine")=false:=by kernel_rfl) (hb:fn.body.isSome=true:=by rfl)
    (hop:o.op = .call { callee:=.value (.func f),args:=xs,argTypes:=ts }:=by rfl) (hargs:xs.map a.eval=args:=by exact qM):wpList P ops Q (o :: rest) a w:=ae6 N hd hg hf hname hb args hop hargs (hc.mono fun _ w' ⟨u,k,r⟩=>⟨v u,k,h u w' r⟩)
theorem jO {w:World} {f:FuncId} {fn:Func} {xs:Array Operand} {ts:Array TypeId} {N:Option Tmp} {args:Array Value} {R:Ending->World->Prop} (hf:P.funcs[f]?=some fn) (hc:Calls P f args w R) (h:∀ e w',R e w'->∃ v,e = .returned v/\wpList P ops Q rest (a.put N v) w') (hd:o.dst=N:=by rfl) (hg:o.guard=none:=by rfl) (hname:(fn.name == "runtime.NumGoroutine")=false:=by kernel_rfl) (hb:fn.body.isSome=true:=by rfl)
    (hop:o.op = .call { callee:=.value (.func f),args:=xs,argTypes:=ts }:=by rfl) (hargs:xs.map a.eval=args:=by exact qM):wpList P ops Q (o :: rest) a w:=ae6 N hd hg hf hname hb args hop hargs (hc.mono h)
theorem jY {W:World} (cs:Array Value) (t:TypeId) {N:Tmp} (h:∀ g,g=W.heap.size->∀ w1,aa1 (w1.heap[g]?=some (.cells cs t (0,0)))->Below W.heap.size W w1->wpList P ops Q rest (a.put o.dst (.pointer (some ⟨g,0,none⟩))) w1) (hgd:o.guard=none:=by rfl) (hd:o.dst=some N:=by rfl)
    (hrun:(execOp a.eval o).run P W = .ok (.value (.pointer (some ⟨W.heap.size,0,none⟩))) (W.alloc (.cells cs t (0,0))):=by first|(go_simp;done)|(go_simp;rfl)):wpList P ops Q (o :: rest) a W:=aeb hgd hd hrun fun g e w1 b=>h g e w1 ⟨b⟩
theorem jp {md:Region.Mode} {S:World->Prop} {ds:List Nat} (i m:Nat) {oi:Oper} {v:Value} {fuel:Nat} {l:Array Bool} {w:World} (l':Array Bool) {a':Act} (h:aah P md ops Q S ds fuel l' a' w) (hi:ops[i]?=some oi:=by rfl) (hN:oi.dst=some m:=by rfl) (hc:apn md ops l l' i=true:=by exact acS HT_.out (by kernel_rfl))
    (hQ:∀ c a w,Q (.panic c) (a.put oi.dst v) w->Q (.panic c) a w:=by exact fun _ _ _ h=>h) (hy:Yields P ops oi v a:=by refine Or.inl ⟨by rfl,?_⟩;intro w';go_simp;with_reducible rfl) (ha:a.put (some m) v=a':=by simp only [Act.put,List.setIfInBounds_toArray,List.set_cons_zero,List.set_cons_succ,aas,aaw];rfl):aah P md ops Q S ds (fuel+1) l a w:=acZ l' hi hN hc hQ hy ha h
theorem jt {md:Region.Mode} {S:World->Prop} {ds:List Nat} (i m:Nat) {oi:Oper} {v:Value} {fuel:Nat} {l:Array Bool} {w:World} (l':Array Bool) {a':Act} (h:aah P md ops Q S ds fuel l' a' w) (hi:ops[i]?=some oi:=by rfl) (hN:oi.dst=some m:=by rfl) (hc:takeB md ops ds l l' i=true:=by exact aiN HT_.out HW_.out (by kernel_rfl))
    (hQ:∀ c a w,Q (.panic c) (a.put oi.dst v) w->Q (.panic c) a w:=by exact fun _ _ _ h=>h) (hy:YieldsIf P ops S oi v a:=by refine Or.inl ⟨by rfl,?_⟩;intro w' hS_;repeat (obtain⟨s_,hS_⟩:=hS_);go_simp;with_reducible rfl) (hS:S w:=by exact hHeld) (ha:a.put (some m) v=a':=by simp only [Act.put,List.setIfInBounds_toArray,List.set_cons_zero,List.set_cons_succ,aas,aaw];rfl):aah P md ops Q S ds (fuel+1) l a w:=take_ l' hi hN hc hQ hy hS ha h
end
theorem jz2 {w:World} {g t:Nat} {a0 a1:Value} (h:aa1 (w.heap[g]?=some (.cells #[a0,a1] t (0,0)))):w.cell? ⟨g,0,none⟩=some a0/\w.cell? ⟨g,1,none⟩=some a1/\w.frozen? ⟨g,0,none⟩=false/\w.frozen? ⟨g,1,none⟩=false:=⟨(aa3 h.out 0).trans rfl,(aa3 h.out 1).trans rfl,aa7 h.out 0,aa7 h.out 1⟩
theorem jz3 {w:World} {g t:Nat} {a0 a1 a2:Value} (h:aa1 (w.heap[g]?=some (.cells #[a0,a1,a2] t (0,0)))):w.cell? ⟨g,0,none⟩=some a0/\w.cell? ⟨g,1,none⟩=some a1/\w.cell? ⟨g,2,none⟩=some a2/\w.frozen? ⟨g,0,none⟩=false/\w.frozen? ⟨g,1,none⟩=false/\w.frozen? ⟨g,2,none⟩=false:=⟨(aa3 h.out 0).trans rfl,(aa3 h.out 1).trans rfl,(aa3 h.out 2).trans rfl,aa7 h.out 0,aa7 h.out 1,aa7 h.out 2⟩
theorem jz5 {w:World} {g t:Nat} {a0 a1 a2 a3 a4:Value} (h:aa1 (w.heap[g]?=some (.cells #[a0,a1,a2,a3,a4] t (0,0)))):w.cell? ⟨g,0,none⟩=some a0/\w.cell? ⟨g,1,none⟩=some a1/\w.cell? ⟨g,2,none⟩=some a2/\w.cell? ⟨g,3,none⟩=some a3/\w.cell? ⟨g,4,none⟩=some a4/\w.frozen? ⟨g,0,none⟩=false/\w.frozen? ⟨g,1,none⟩=false/\w.frozen? ⟨g,2,none⟩=false/\w.frozen? ⟨g,3,none⟩=false/\w.frozen? ⟨g,4,none⟩=false:=⟨(aa3 h.out 0).trans rfl,(aa3 h.out 1).trans rfl,(aa3 h.out 2).trans rfl,(aa3 h.out 3).trans rfl,(aa3 h.out 4).trans rfl,aa7 h.out 0,aa7 h.out 1,aa7 h.out 2,aa7 h.out 3,aa7 h.out 4⟩
theorem jz8 {w:World} {g t:Nat} {a0 a1 a2 a3 a4 a5 a6 a7:Value} (h:aa1 (w.heap[g]?=some (.cells #[a0,a1,a2,a3,a4,a5,a6,a7] t (0,0)))):w.cell? ⟨g,0,none⟩=some a0/\w.cell? ⟨g,1,none⟩=some a1/\w.cell? ⟨g,2,none⟩=some a2/\w.cell? ⟨g,3,none⟩=some a3/\w.cell? ⟨g,4,none⟩=some a4/\w.cell? ⟨g,5,none⟩=some a5/\w.cell? ⟨g,6,none⟩=some a6/\w.cell? ⟨g,7,none⟩=some a7/\w.frozen? ⟨g,0,none⟩=false/\w.frozen? ⟨g,1,none⟩=false/\w.frozen? ⟨g,2,none⟩=false/\w.frozen? ⟨g,3,none⟩=false/\w.frozen? ⟨g,4,none⟩=false/\w.frozen? ⟨g,5,none⟩=false/\w.frozen? ⟨g,6,none⟩=false/\w.frozen? ⟨g,7,none⟩=false:=⟨(aa3 h.out 0).trans rfl,(aa3 h.out 1).trans rfl,(aa3 h.out 2).trans rfl,(aa3 h.out 3).trans rfl,(aa3 h.out 4).trans rfl,(aa3 h.out 5).trans rfl,(aa3 h.out 6).trans rfl,(aa3 h.out 7).trans rfl,aa7 h.out 0,aa7 h.out 1,aa7 h.out 2,aa7 h.out 3,aa7 h.out 4,aa7 h.out 5,aa7 h.out 6,aa7 h.out 7⟩
theorem aky {w:World} {A:Option Addr} {n:Nat} {xs:List S27} (hr:aa1 (Kd.C k27 w A n xs)) (i:Int) (p:decide (0<=i)=true:=by first|(with_reducible assumption)|assumption) (q:decide (i < (n:Int))=true:=by first|(with_reducible assumption)|assumption):∃ ad,A=some ad/\w.cell? (ad.add (i.toNat*5))=some (.int .i64 (aa0 xs i).f0)/\w.cell? ⟨(ad.add (i.toNat*5)).block,(ad.add (i.toNat*5)).off+1,none⟩=some (.int .i64 (aa0 xs i).f1)/\w.cell? ⟨(ad.add (i.toNat*5)).block,(ad.add (i.toNat*5)).off+2,none⟩=some (.int .i64 (aa0 xs i).f2)/\w.cell? ⟨(ad.add (i.toNat*5)).block,(ad.add (i.toNat*5)).off+3,none⟩=some (.int .i64 (aa0 xs i).f3)/\w.cell? ⟨(ad.add (i.toNat*5)).block,(ad.add (i.toNat*5)).off+4,none⟩=some (.int .i64 (aa0 xs i).f4)/\(0<=i)=True/\(i < (n:Int))=True:=by
  obtain⟨ad,e,h0,h1,h2,h3,h4⟩:=aaG hr.out i (of_decide_eq_true p) (of_decide_eq_true q)
  exact⟨ad,e,h0,h1,h2,h3,h4,eq_true (of_decide_eq_true p),eq_true (of_decide_eq_true q)⟩
theorem aM {p:Prop} (h:p):aa1 p:=⟨h⟩
abbrev iV (n:Int):Go.Value:=.int .i64 n
theorem oJ {α:Type} {a b:α} (h:some a=some b):a=b:=Option.some.inj h
theorem oJ2 {T0:Type} {a0 b0:T0} {T1:Type} {a1 b1:T1} (H:some (a0,a1)=some (b0,b1)):a0=b0 ∧ a1=b1:=by
 simp only [Option.some.injEq,Prod.mk.injEq] at H;exact H
theorem oJ3 {T0:Type} {a0 b0:T0} {T1:Type} {a1 b1:T1} {T2:Type} {a2 b2:T2} (H:some (a0,a1,a2)=some (b0,b1,b2)):a0=b0 ∧ a1=b1 ∧ a2=b2:=by
 simp only [Option.some.injEq,Prod.mk.injEq] at H;exact H
theorem oJ4 {T0:Type} {a0 b0:T0} {T1:Type} {a1 b1:T1} {T2:Type} {a2 b2:T2} {T3:Type} {a3 b3:T3} (H:some (a0,a1,a2,a3)=some (b0,b1,b2,b3)):a0=b0 ∧ a1=b1 ∧ a2=b2 ∧ a3=b3:=by
 simp only [Option.some.injEq,Prod.mk.injEq] at H;exact H
theorem oJ5 {T0:Type} {a0 b0:T0} {T1:Type} {a1 b1:T1} {T2:Type} {a2 b2:T2} {T3:Type} {a3 b3:T3} {T4:Type} {a4 b4:T4} (H:some (a0,a1,a2,a3,a4)=some (b0,b1,b2,b3,b4)):a0=b0 ∧ a1=b1 ∧ a2=b2 ∧ a3=b3 ∧ a4=b4:=by
 simp only [Option.some.injEq,Prod.mk.injEq] at H;exact H
theorem oJ6 {T0:Type} {a0 b0:T0} {T1:Type} {a1 b1:T1} {T2:Type} {a2 b2:T2} {T3:Type} {a3 b3:T3} {T4:Type} {a4 b4:T4} {T5:Type} {a5 b5:T5} (H:some (a0,a1,a2,a3,a4,a5)=some (b0,b1,b2,b3,b4,b5)):a0=b0 ∧ a1=b1 ∧ a2=b2 ∧ a3=b3 ∧ a4=b4 ∧ a5=b5:=by
 simp only [Option.some.injEq,Prod.mk.injEq] at H;exact H
theorem oJ9 {T0:Type} {a0 b0:T0} {T1:Type} {a1 b1:T1} {T2:Type} {a2 b2:T2} {T3:Type} {a3 b3:T3} {T4:Type} {a4 b4:T4} {T5:Type} {a5 b5:T5} {T6:Type} {a6 b6:T6} {T7:Type} {a7 b7:T7} {T8:Type} {a8 b8:T8} (H:some (a0,a1,a2,a3,a4,a5,a6,a7,a8)=some (b0,b1,b2,b3,b4,b5,b6,b7,b8)):a0=b0 ∧ a1=b1 ∧ a2=b2 ∧ a3=b3 ∧ a4=b4 ∧ a5=b5 ∧ a6=b6 ∧ a7=b7 ∧ a8=b8:=by
 simp only [Option.some.injEq,Prod.mk.injEq] at H;exact H
theorem kI {w W W1:World} {g:Nat} (k:aa6 W W1 g none) (h:aa6 w W g none:=by repeat (first|(with_reducible first|exact HK.out|apply afg|apply agA|apply ae5|apply agB|refine ahc ?_ (aa1.out (by assumption)) _)|exact HK.out)):aa1 (aa6 w W1 g none):=⟨h.trans k (.inl rfl)⟩
theorem kr {p q r:Prop} (x:aa1 p) (y:q) (f:p->q->r:=by intro x y;(first|rw [<- x] at y|(simp only [Int.reduceToNat] at y;rw [<- x] at y));exact y):r:=f x.out y
theorem kv {p q r:Prop} (x:aa1 p) (y:q) (f:p->q->r:=by intro x y;first|exact kz ⟨x⟩ y|(rw [<- x] at y;exact y)):r:=f x.out y
theorem kb {α:Type} {d:Kd α} {A:Option Addr} {n:Nat} {xs:List α} {w W:World} {q:Prop} (h:aa1 (d.C w A n xs)) (hb:aa1 (Below w.heap.size w W)) (f:d.C W A n xs->q:=by intro h_;repeat (first|exact h_|(with_reducible refine Kd.C_alloc ?_ _)|(with_reducible refine Kd.C_drewN ?_ _)|(with_reducible refine Kd.C_drew ?_))):q:=f (Kd.C_below h.out hb.out)
theorem kY {w W w1:World} {g:Nat} (hb:Below W.heap.size W w1) (h:aa6 w W g none:=by exact qH):aa1 (aa6 w w1 g none):=⟨h.trans (acY hb g none) (.inl rfl)⟩
theorem kU {w W:World} {g:Nat} (h:aa6 w W g none:=by exact qH):w.heap.size<=W.heap.size:=ae4 h
theorem kw {w W W1:World} {g g1:Nat} {o:Obj} (k:aa6 W W1 g none) (h:aa1 (w.heap[g1]?=some o)) (n:aa1 (g1≠g)) (f:w.heap[g1]?=some o->W.heap[g1]?=some o:=by intro h_;(with_reducible repeat (first|refine acb ?_ _|refine ab2 ?_|refine acd ?_ _));exact h_):aa1 (W1.heap[g1]?=some o):=⟨acR k (f h.out) n.out (by simp)⟩
theorem kJ {α:Type} {d:Kd α} {e base:Nat} {w:World} {ok:Nat->Prop} {A:Option Addr} {n c:Nat} {xs:List α} {q:Prop} (h:aa1 (d.R e w base ok (.slice A n c) xs)) (f:d.C w A xs.length xs->q:=by intro h_;exact kC h_):q:=f (Kd.R_reads' h.out).2.2
theorem kp {α:Type} {d:Kd α} {e base:Nat} {w:World} {ok:Nat->Prop} {A:Option Addr} {n c:Nat} {xs:List α} (h:aa1 (d.R e w base ok (.slice A n c) xs)):n<=c:=(Kd.R_reads' h.out).2.1
theorem jb_ (w:World):aa1 (Below w.heap.size w w):=⟨Below.refl _ _⟩
end Go.Proofs.YtebpplallecogaaGreat.M
namespace Go.Proofs.YtebpplallecogaaGreat.M
open Go.Proofs.Tryz Go.RowKit Go.Proofs.YtebpplallecogaaGreatW.PrintWords Go.Proofs.YtebpplallecogaaGreatW.PrintLast Go.Proofs.YtebpplallecogaaGreatW.PrintMore
attribute [local go_sem] aal aaj aaz aay aae aad aak aai
theorem aph (d:Nat) (w:World) (x0 y0 x1 y1 x2 y2 x3 y3 x4 y4:Int) :
  (Op.equalIn (d+2) 27 (.agg #[iV x0,iV x1,iV x2,iV x3,iV x4]) (.agg #[iV y0,iV y1,iV y2,iV y3,iV y4])).run prog w = .ok (x0 == y0 && (x1 == y1 && (x2 == y2 && (x3 == y3 && (x4 == y4))))) w:=by
 refine anu underlying27 (by kernel_rfl) ?_
 refine ae7 (by rfl) (by go_simp;rfl) (by go_simp;rfl) (by go_simp) ?_
 refine ae7 (by rfl) (by go_simp;rfl) (by go_simp;rfl) (by go_simp) ?_
 refine ae7 (by rfl) (by go_simp;rfl) (by go_simp;rfl) (by go_simp) ?_
 refine ae7 (by rfl) (by go_simp;rfl) (by go_simp;rfl) (by go_simp) ?_
 exact ajc (by rfl) (by go_simp;rfl) (by go_simp;rfl) (by go_simp)
def adC (a0 a1 a2:Int):Option (Bool):=if a0>=a1 then (some (decide (a0<=a2))) else (some false)
theorem Sbn.calls (a0 a1 a2:Int) (r:Bool) (w:World) (h:adC a0 a1 a2=some r) :
  Calls prog 46 #[iV a0,iV a1,iV a2] w fun e w'=>e = .returned (.bool r)/\aaD w w':=by
 have H:(if a0>=a1 then (some (decide (a0<=a2))) else (some false))=some r:=h
 clear h
 replace H:=jD H;rcases H with ⟨aa,H⟩ | ⟨aa,H⟩
 ·obtain rfl:=oJ H
  go_enter func46,ntmps46
  go_wp2
  go_ret
  exact⟨qZ,qU⟩
 obtain rfl:=oJ H
 go_enter func46,ntmps46
 go_wp2
 go_ret
 exact⟨qZ,qU⟩
def aiC (a0:Int):Option (Bool):=(adC a0 1 12).bind fun aa=>(some aa)
theorem acg (a0:Int) (r:Bool) (w:World) (h:aiC a0=some r) :
  Calls prog 67 #[iV a0] w fun e w'=>e = .returned (.bool r)/\aaD w w':=by
 have H:((adC a0 1 12).bind fun aa=>(some aa))=some r:=h
 clear h
 obtain⟨aa,A2,H⟩:=qE H
 try dsimp only at H
 obtain rfl:=oJ H
 go_enter func67,ntmps67
 go_wp2_with (first|((with_reducible refine jc 46 4 ?_);refine jK func46 (Sbn.calls a0 1 12 aa _ A2.out) ?_;rintro w' ⟨nd,rfl⟩))
 go_ret
 exact⟨qZ,qU⟩
def aiI (a0:Int) (a1:Bool):Option (Bool):=if a1=true then ((adC a0 0 11).bind fun aa=>(some aa)) else (some (a0 == 0))
theorem SaI.calls (a0:Int) (a1 r:Bool) (w:World) (h:aiI a0 a1=some r) :
  Calls prog 76 #[iV a0,.bool a1] w fun e w'=>e = .returned (.bool r)/\aaD w w':=by
 have H:=h;unfold aiI at H
 clear h
 replace H:=jB H;rcases H with ⟨rfl,H⟩ | ⟨rfl,H⟩
 ·obtain⟨aa,A4,H⟩:=qE H
  try dsimp only at H
  obtain rfl:=oJ H
  go_enter func76,ntmps76
  go_wp2_with (first|((with_reducible refine jc 46 7 ?_);refine jK func46 (Sbn.calls a0 0 11 aa _ A4.out) ?_;rintro w' ⟨nd,rfl⟩))
  go_ret
  exact⟨qZ,qU⟩
 obtain rfl:=oJ H
 go_enter func76,ntmps76
 go_wp2
 go_ret
 exact⟨qZ,qU⟩
def aeA (ag aa ae af ah:Int) (a1 a2 a3:Bool):Option (Bool):=(aiI aa a1).bind fun ai=>(if ai=true then ((aiI ae a2).bind fun aj=>(if aj=true then ((aiI af a3).bind fun ak=>(some ak)) else (some false))) else (some false))
theorem aoM {G:Prop} (h:G:=by
  go_enter func65,ntmps65
  go_wp2_with (first|((with_reducible refine jd 4 ?_);refine jY _ 27 ?_;intro av hg ay au hb;have ax:=kG hg;replace HB:=kH hb;clear hb hg;have az:=jz5 au)|((with_reducible refine jc 76 12 ?_);refine jG func76 #[iV aa,.bool a1] ?_;refine (SaI.calls _ _ _ _ (aa1.out (by assumption))).mono ?_;rintro e w' ⟨rfl,⟨nd,rfl⟩⟩;refine⟨_,rfl,?_⟩)|(go_at_call 76;(with_reducible refine (SaI.calls _ _ _ _ (aa1.out (by assumption))).mono ?_);rintro e w' ⟨rfl,⟨nd,rfl⟩⟩))
  go_ret
  exact⟨qW,qB⟩):G:=h
theorem SaJ.calls (ag aa ae af ah:Int) (a1 a2 a3 r:Bool) (w:World) (h:aeA ag aa ae af ah a1 a2 a3=some r) :
  Calls prog 65 #[.agg #[iV ag,iV aa,iV ae,iV af,iV ah],.bool a1,.bool a2,.bool a3] w fun e w'=>e = .returned (.bool r)/\Below w.heap.size w w':=by
 have aA:=underlying27
 have HB:=jb_ w
 have H:=h;unfold aeA at H
 clear h
 obtain⟨ai,A5,H⟩:=qE H
 try dsimp only at H
 replace H:=jB H;rcases H with ⟨rfl,H⟩ | ⟨rfl,H⟩
 ·obtain⟨aj,A7,H⟩:=qE H
  try dsimp only at H
  replace H:=jB H;rcases H with ⟨rfl,H⟩ | ⟨rfl,H⟩
  ·obtain⟨ak,A9,H⟩:=qE H
   try dsimp only at H
   obtain rfl:=oJ H
   exact aoM
  obtain rfl:=oJ H
  exact aoM
 obtain rfl:=oJ H
 exact aoM
def aiz (a0:Int):Option (Bool):=(adC a0 (-2147483648) 2147483647).bind fun aa=>(some aa)
theorem ahX (a0:Int) (r:Bool) (w:World) (h:aiz a0=some r) :
  Calls prog 66 #[iV a0] w fun e w'=>e = .returned (.bool r)/\aaD w w':=by
 have H:=h;unfold aiz at H
 clear h
 obtain⟨aa,A2,H⟩:=qE H
 try dsimp only at H
 obtain rfl:=oJ H
 go_enter func66,ntmps66
 go_wp2_with (first|((with_reducible refine jc 46 4 ?_);refine jG func46 #[iV a0,iV (-2147483648),iV 2147483647] ?_;refine (Sbn.calls _ _ _ _ _ (aa1.out (by assumption))).mono ?_;rintro e w' ⟨rfl,⟨nd,rfl⟩⟩;refine⟨_,rfl,?_⟩))
 go_ret
 exact⟨qZ,qU⟩
def aiA (af ag ah ai ae a1:Int):Option (Bool):=if af=1 then ((aeA af ag ah ai ae true false false).bind fun au=>(if au=true then ((aiz ae).bind fun av=>(some av)) else (some false))) else (if af=2 then ((aeA af ag ah ai ae true true false).bind fun ax=>(if ax=true then (some (ae == 0)) else (some false))) else (if af=3 then ((aeA af ag ah ai ae true true true).bind fun ay=>(if ay=true then ((aiC ae).bind fun az=>(some az)) else (some false))) else (if af=4 then ((aeA af ag ah ai ae false false false).bind fun aA=>(if aA=true then (if ae>=0 then (some (decide (ae < a1))) else (some false)) else (some false))) else (if af=5 then ((aeA af ag ah ai ae false true false).bind fun aB=>(if aB=true then (if ae>=0 then (some (decide (ae < a1))) else (some false)) else (some false))) else (if af=6 then ((aeA af ag ah ai ae false true false).bind fun aC=>(if aC=true then ((adC ae 0 2).bind fun aD=>(some aD)) else (some false))) else (if af=7 then ((aeA af ag ah ai ae true false false).bind fun aF=>(if aF=true then ((adC ae 0 2).bind fun aG=>(some aG)) else (some false))) else (if af=9 then ((aeA af ag ah ai ae false true false).bind fun aH=>(if aH=true then (some (ae == 0)) else (some false))) else (if af=8 then ((aeA af ag ah ai ae false false false).bind fun aI=>(if aI=true then (some (ae == 0)) else (some false))) else (if af=10 then ((aeA af ag ah ai ae false false false).bind fun aJ=>(if aJ=true then (some (ae == 0)) else (some false))) else (some false))))))))))
theorem acf {G:Prop} (h:G:=by
  go_enter func54,ntmps54
  go_wp2_with (first|((with_reducible refine jd 2 ?_);refine jY _ 27 ?_;intro bv hg bA aa hb;have bz:=kG hg;replace HB:=kH hb;clear hb hg;have bB:=jz5 aa)|((with_reducible refine jc 65 10 ?_);refine jG func65 #[.agg #[iV af,iV ag,iV ah,iV ai,iV ae],.bool true,.bool false,.bool false] ?_;refine (SaJ.calls _ _ _ _ _ _ _ _ _ _ (aa1.out (by assumption))).mono ?_;rintro e bC ⟨rfl,hb⟩;refine⟨_,rfl,?_⟩;replace aa:=kB aa hb;replace HB:=kH hb;clear hb;have bD:=jz5 aa)|(go_at_call 66;(with_reducible refine (ahX _ _ _ (aa1.out (by assumption))).mono ?_);rintro e w' ⟨rfl,⟨nd,rfl⟩⟩)|((with_reducible refine jc 65 19 ?_);refine jG func65 #[.agg #[iV af,iV ag,iV ah,iV ai,iV ae],.bool true,.bool true,.bool false] ?_;refine (SaJ.calls _ _ _ _ _ _ _ _ _ _ (aa1.out (by assumption))).mono ?_;rintro e bE ⟨rfl,hb⟩;refine⟨_,rfl,?_⟩;replace aa:=kB aa hb;replace HB:=kH hb;clear hb;have bF:=jz5 aa)|((with_reducible refine jc 65 28 ?_);refine jG func65 #[.agg #[iV af,iV ag,iV ah,iV ai,iV ae],.bool true,.bool true,.bool true] ?_;refine (SaJ.calls _ _ _ _ _ _ _ _ _ _ (aa1.out (by assumption))).mono ?_;rintro e bG ⟨rfl,hb⟩;refine⟨_,rfl,?_⟩;replace aa:=kB aa hb;replace HB:=kH hb;clear hb;have bH:=jz5 aa)|(go_at_call 67;(with_reducible refine (acg _ _ _ (aa1.out (by assumption))).mono ?_);rintro e w' ⟨rfl,⟨nd,rfl⟩⟩)|((with_reducible refine jc 65 37 ?_);refine jG func65 #[.agg #[iV af,iV ag,iV ah,iV ai,iV ae],.bool false,.bool false,.bool false] ?_;refine (SaJ.calls _ _ _ _ _ _ _ _ _ _ (aa1.out (by assumption))).mono ?_;rintro e bI ⟨rfl,hb⟩;refine⟨_,rfl,?_⟩;replace aa:=kB aa hb;replace HB:=kH hb;clear hb;have bJ:=jz5 aa)|((with_reducible refine jc 65 52 ?_);refine jG func65 #[.agg #[iV af,iV ag,iV ah,iV ai,iV ae],.bool false,.bool true,.bool false] ?_;refine (SaJ.calls _ _ _ _ _ _ _ _ _ _ (aa1.out (by assumption))).mono ?_;rintro e bK ⟨rfl,hb⟩;refine⟨_,rfl,?_⟩;replace aa:=kB aa hb;replace HB:=kH hb;clear hb;have bL:=jz5 aa)|((with_reducible refine jc 65 67 ?_);refine jG func65 #[.agg #[iV af,iV ag,iV ah,iV ai,iV ae],.bool false,.bool true,.bool false] ?_;refine (SaJ.calls _ _ _ _ _ _ _ _ _ _ (aa1.out (by assumption))).mono ?_;rintro e bM ⟨rfl,hb⟩;refine⟨_,rfl,?_⟩;replace aa:=kB aa hb;replace HB:=kH hb;clear hb;have bN:=jz5 aa)|(go_at_call 46;(with_reducible refine (Sbn.calls _ _ _ _ _ (aa1.out (by assumption))).mono ?_);rintro e w' ⟨rfl,⟨nd,rfl⟩⟩)|((with_reducible refine jc 65 76 ?_);refine jG func65 #[.agg #[iV af,iV ag,iV ah,iV ai,iV ae],.bool true,.bool false,.bool false] ?_;refine (SaJ.calls _ _ _ _ _ _ _ _ _ _ (aa1.out (by assumption))).mono ?_;rintro e bO ⟨rfl,hb⟩;refine⟨_,rfl,?_⟩;replace aa:=kB aa hb;replace HB:=kH hb;clear hb;have bP:=jz5 aa)|((with_reducible refine jc 65 85 ?_);refine jG func65 #[.agg #[iV af,iV ag,iV ah,iV ai,iV ae],.bool false,.bool true,.bool false] ?_;refine (SaJ.calls _ _ _ _ _ _ _ _ _ _ (aa1.out (by assumption))).mono ?_;rintro e bQ ⟨rfl,hb⟩;refine⟨_,rfl,?_⟩;replace aa:=kB aa hb;replace HB:=kH hb;clear hb;have bR:=jz5 aa)|((with_reducible refine jc 65 95 ?_);refine jG func65 #[.agg #[iV af,iV ag,iV ah,iV ai,iV ae],.bool false,.bool false,.bool false] ?_;refine (SaJ.calls _ _ _ _ _ _ _ _ _ _ (aa1.out (by assumption))).mono ?_;rintro e bS ⟨rfl,hb⟩;refine⟨_,rfl,?_⟩;replace aa:=kB aa hb;replace HB:=kH hb;clear hb;have bT:=jz5 aa))
  go_ret
  exact⟨qW,qB⟩):G:=h
theorem Saw.calls (af ag ah ai ae a1:Int) (r:Bool) (w:World) (h:aiA af ag ah ai ae a1=some r) :
  Calls prog 54 #[.agg #[iV af,iV ag,iV ah,iV ai,iV ae],iV a1] w fun e w'=>e = .returned (.bool r)/\Below w.heap.size w w':=by
 have bU:=underlying27
 have HB:=jb_ w
 have H:=h;unfold aiA at H
 clear h
 replace H:=jE H;rcases H with ⟨bq,bu,H⟩ | ⟨c3,bq,bu,H⟩
 ·obtain⟨au,A4,H⟩:=qE H
  try dsimp only at H
  replace H:=jB H;rcases H with ⟨rfl,H⟩ | ⟨rfl,H⟩
  ·obtain⟨av,A6,H⟩:=qE H
   try dsimp only at H
   obtain rfl:=oJ H
   exact acf
  obtain rfl:=oJ H
  exact acf
 replace H:=jE H;rcases H with ⟨aK,aL,H⟩ | ⟨c14,aK,aL,H⟩
 ·obtain⟨ax,bW,H⟩:=qE H
  try dsimp only at H
  replace H:=jB H;rcases H with ⟨rfl,H⟩ | ⟨rfl,H⟩
  ·obtain rfl:=oJ H
   exact acf
  obtain rfl:=oJ H
  exact acf
 replace H:=jE H;rcases H with ⟨aN,aO,H⟩ | ⟨c24,aN,aO,H⟩
 ·obtain⟨ay,bX,H⟩:=qE H
  try dsimp only at H
  replace H:=jB H;rcases H with ⟨rfl,H⟩ | ⟨rfl,H⟩
  ·obtain⟨az,bY,H⟩:=qE H
   try dsimp only at H
   obtain rfl:=oJ H
   exact acf
  obtain rfl:=oJ H
  exact acf
 replace H:=jE H;rcases H with ⟨aP,aQ,H⟩ | ⟨bZ,aP,aQ,H⟩
 ·obtain⟨aA,cu,H⟩:=qE H
  try dsimp only at H
  replace H:=jB H;rcases H with ⟨rfl,H⟩ | ⟨rfl,H⟩
  ·replace H:=jD H;rcases H with ⟨aR,H⟩ | ⟨aR,H⟩
   ·obtain rfl:=oJ H
    exact acf
   obtain rfl:=oJ H
   exact acf
  obtain rfl:=oJ H
  exact acf
 replace H:=jE H;rcases H with ⟨aS,aT,H⟩ | ⟨cz,aS,aT,H⟩
 ·obtain⟨aB,cB,H⟩:=qE H
  try dsimp only at H
  replace H:=jB H;rcases H with ⟨rfl,H⟩ | ⟨rfl,H⟩
  ·replace H:=jD H;rcases H with ⟨aU,H⟩ | ⟨aU,H⟩
   ·obtain rfl:=oJ H
    exact acf
   obtain rfl:=oJ H
   exact acf
  obtain rfl:=oJ H
  exact acf
 replace H:=jE H;rcases H with ⟨aV,aW,H⟩ | ⟨cK,aV,aW,H⟩
 ·obtain⟨aC,cO,H⟩:=qE H
  try dsimp only at H
  replace H:=jB H;rcases H with ⟨rfl,H⟩ | ⟨rfl,H⟩
  ·obtain⟨aD,df,H⟩:=qE H
   try dsimp only at H
   obtain rfl:=oJ H
   exact acf
  obtain rfl:=oJ H
  exact acf
 replace H:=jE H;rcases H with ⟨aX,aY,H⟩ | ⟨c76,aX,aY,H⟩
 ·obtain⟨aF,dh,H⟩:=qE H
  try dsimp only at H
  replace H:=jB H;rcases H with ⟨rfl,H⟩ | ⟨rfl,H⟩
  ·obtain⟨aG,di,H⟩:=qE H
   try dsimp only at H
   obtain rfl:=oJ H
   exact acf
  obtain rfl:=oJ H
  exact acf
 replace H:=jE H;rcases H with ⟨aZ,bg,H⟩ | ⟨c87,aZ,bg,H⟩
 ·obtain⟨aH,dn,H⟩:=qE H
  try dsimp only at H
  replace H:=jB H;rcases H with ⟨rfl,H⟩ | ⟨rfl,H⟩
  ·obtain rfl:=oJ H
   exact acf
  obtain rfl:=oJ H
  exact acf
 replace H:=jE H;rcases H with ⟨bi,bn,H⟩ | ⟨dw,bi,bn,H⟩
 ·obtain⟨aI,dx,H⟩:=qE H
  try dsimp only at H
  replace H:=jB H;rcases H with ⟨rfl,H⟩ | ⟨rfl,H⟩
  ·obtain rfl:=oJ H
   exact acf
  obtain rfl:=oJ H
  exact acf
 replace H:=jE H;rcases H with ⟨aj,ak,H⟩ | ⟨c107,aj,ak,H⟩
 ·obtain⟨aJ,bV,H⟩:=qE H
  try dsimp only at H
  replace H:=jB H;rcases H with ⟨rfl,H⟩ | ⟨rfl,H⟩
  ·obtain rfl:=oJ H
   exact acf
  obtain rfl:=oJ H
  exact acf
 obtain rfl:=oJ H
 exact acf
def acV:Nat->List S27->Int->Int->Option (Bool)
 | 0,_,_,_=>none
 | k+1,x0,x3,x4=>if x4 < x3 then (if 0<=x4 then (if x4 < (x0.length:Int) then ((aiA ((aa0 x0 x4).f0) ((aa0 x0 x4).f1) ((aa0 x0 x4).f2) ((aa0 x0 x4).f3) ((aa0 x0 x4).f4) x3).bind fun aQ=>(if aQ=true then (acV k x0 x3 (wrap64 (x4+1))) else (some false))) else (none)) else (none)) else (if 0<=(wrap64 (x3 - 1)) then (if (wrap64 (x3 - 1)) < (x0.length:Int) then (if ((aa0 x0 (wrap64 (x3 - 1))).f0)=10 then (some true) else (some (((aa0 x0 (wrap64 (x3 - 1))).f0) == 4))) else (none)) else (none))
def Sag.f (k:Nat) (l0:List S27):Option (Bool):=(adC (l0.length:Int) 1 600).bind fun aR=>(if aR=true then (acV k l0 (l0.length:Int) 0) else (some false))
theorem agP:∀ k,(∀ y0 y1 y2,LeO (acV k y0 y1 y2) (acV (k+1) y0 y1 y2))
 | 0=>fun _ _ _ r h=>by simp [acV] at h
 | k+1=>by
  have bu:=agP k
  intros;unfold acV;exact mM
theorem Sag.mono:∀ a0 k,LeO (Sag.f k a0) (Sag.f (k+1) a0):=by
 intro a0 k;have bu:=agP k;unfold Sag.f;exact mM
theorem Sag.calls (k:Nat) (A0:Option Addr) (c0:Nat) (l0:List S27) (r:Bool) (w:World) (hr0:Kd.C k27 w A0 l0.length l0) (hc0:l0.length<=c0) (h:Sag.f k l0=some r) :
  Calls prog 36 #[.slice A0 l0.length c0] w fun e w'=>e = .returned (.bool r)/\Below w.heap.size w w':=by
 have bv:=underlying27
 have aS:=aM hr0
 have bB:=aM hc0
 clear hr0 hc0
 have HB:=jb_ w
 have H:=h;unfold Sag.f at H
 clear h
 obtain⟨aR,A2,H⟩:=qE H
 try dsimp only at H
 replace H:=jB H;rcases H with ⟨rfl,H⟩ | ⟨rfl,H⟩
 ·have H':=aM H
  clear H
  go_enter func36,ntmps36
  go_wp2_with (first|((with_reducible refine jc 46 8 ?_);refine jK func46 (Sbn.calls (l0.length:Int) 1 600 true _ A2.out) ?_;rintro w' ⟨nd,rfl⟩))
  go_loopg [4] k (fun kq v4 w'=>∃ (aa:Int),v4 = iV aa/\aa1 (acV kq l0 (l0.length:Int) aa=some r)/\aa1 (kq<=k)/\aa1 (Below w.heap.size w w'))
  case atStart=>exact⟨(0),qZ,H',⟨Nat.le_refl _⟩,⟨qB⟩⟩
  clear H'
  obtain⟨aa,rfl,HA,bi,HB⟩:=hrel
  rcases gk with _|k1
  ·exact absurd HA.out (by simp [acV])
  have H:=HA.out
  clear HA
  simp only [acV] at H
  replace H:=jD H;rcases H with ⟨aX,H⟩ | ⟨aX,H⟩
  ·replace H:=jI H;obtain⟨bz,H⟩:=H
   replace H:=jI H;obtain⟨bA,H⟩:=H
   obtain⟨aQ,A7,H⟩:=qE H
   try dsimp only at H
   replace H:=jB H;rcases H with ⟨rfl,H⟩ | ⟨rfl,H⟩
   ·have H':=aM H
    clear H
    have aA:0<=(aa:Int):=qD
    have aB:aa < (l0.length:Int):=qD
    obtain⟨aT,aL,ae,af,ag,ah,ai⟩:=aaG aS.out aa aA aB
    cases aL
    replace ae:=kx HB ae
    replace af:=kx HB af
    replace ag:=kx HB ag
    replace ah:=kx HB ah
    replace ai:=kx HB ai
    replace aA:=eq_true aA
    replace aB:=eq_true aB
    go_wp2_with (first|((with_reducible refine jc 54 20 ?_);refine jG func54 #[.agg #[iV ((aa0 l0 aa).f0),iV ((aa0 l0 aa).f1),iV ((aa0 l0 aa).f2),iV ((aa0 l0 aa).f3),iV ((aa0 l0 aa).f4)],iV (l0.length:Int)] ?_;refine (Saw.calls _ _ _ _ _ _ _ _ (aa1.out (by assumption))).mono ?_;rintro e aY ⟨rfl,hb⟩;refine⟨_,rfl,?_⟩;replace HB:=kH hb;clear hb))
    go_roundg k1
    case measure=>have:=bi.out;omega
    exact⟨_,qZ,H',⟨by have:=bi.out;omega⟩,⟨qB⟩⟩
   obtain rfl:=oJ H
   have aA:0<=(aa:Int):=qD
   have aB:aa < (l0.length:Int):=qD
   obtain⟨aT,aL,ae,af,ag,ah,ai⟩:=aaG aS.out aa aA aB
   cases aL
   replace ae:=kx HB ae
   replace af:=kx HB af
   replace ag:=kx HB ag
   replace ah:=kx HB ah
   replace ai:=kx HB ai
   replace aA:=eq_true aA
   replace aB:=eq_true aB
   go_wp2_with (first|((with_reducible refine jc 54 20 ?_);refine jG func54 #[.agg #[iV ((aa0 l0 aa).f0),iV ((aa0 l0 aa).f1),iV ((aa0 l0 aa).f2),iV ((aa0 l0 aa).f3),iV ((aa0 l0 aa).f4)],iV (l0.length:Int)] ?_;refine (Saw.calls _ _ _ _ _ _ _ _ (aa1.out (by assumption))).mono ?_;rintro e aY ⟨rfl,hb⟩;refine⟨_,rfl,?_⟩;replace HB:=kH hb;clear hb))
   go_ret
   exact⟨qW,qB⟩
  obtain⟨aj,az⟩:∃ j_:Int,(wrap64 ((l0.length:Int) - 1))=j_:=⟨_,rfl⟩
  replace H:(if 0<=(aj) then (if (aj) < (l0.length:Int) then (if ((aa0 l0 (aj)).f0)=10 then (some true) else (some (((aa0 l0 (aj)).f0) == 4))) else (none)) else (none))=some r:=by first|(rw [az] at H;exact H)|(simp only [az] at H ⊢;exact H)
  have aZ:(IntKind.i64.wrap ((l0.length:Int) - 1))=aj:=(aas _).trans az
  replace H:=jI H;obtain⟨bn,H⟩:=H
  replace H:=jI H;obtain⟨bq,H⟩:=H
  replace H:=jE H;rcases H with ⟨aU,aV,H⟩ | ⟨c14,aU,aV,H⟩
  ·obtain rfl:=oJ H
   have aC:0<=((aj):Int):=qD
   have aD:(aj) < (l0.length:Int):=qD
   obtain⟨aK,aN,ak,au,av,ax,ay⟩:=aaG aS.out (aj) aC aD
   cases aN
   replace ak:=kx HB ak
   replace au:=kx HB au
   replace av:=kx HB av
   replace ax:=kx HB ax
   replace ay:=kx HB ay
   replace aC:=eq_true aC
   replace aD:=eq_true aD
   go_wp2
   go_ret
   exact⟨by first|rfl|(simp [aan,aam] <;> rfl)|(simp only [<- az];first|rfl|(simp [aan,aam] <;> rfl))|(simp [*,aan,aam] <;> rfl),qB⟩
  obtain rfl:=oJ H
  have aC:0<=((aj):Int):=qD
  have aD:(aj) < (l0.length:Int):=qD
  obtain⟨aK,aN,ak,au,av,ax,ay⟩:=aaG aS.out (aj) aC aD
  cases aN
  replace ak:=kx HB ak
  replace au:=kx HB au
  replace av:=kx HB av
  replace ax:=kx HB ax
  replace ay:=kx HB ay
  replace aC:=eq_true aC
  replace aD:=eq_true aD
  have aO:0<=((aj):Int):=qD
  have aP:(aj) < (l0.length:Int):=qD
  obtain⟨aW,bg,aF,aG,aH,aI,aJ⟩:=aaG aS.out (aj) aO aP
  obtain rfl:aK=aW:=(by injection bg)
  replace aF:=kx HB aF
  replace aG:=kx HB aG
  replace aH:=kx HB aH
  replace aI:=kx HB aI
  replace aJ:=kx HB aJ
  replace aO:=eq_true aO
  replace aP:=eq_true aP
  go_wp2
  go_ret
  exact⟨by first|rfl|(simp [aan,aam] <;> rfl)|(simp only [<- az];first|rfl|(simp [aan,aam] <;> rfl))|(simp [*,aan,aam] <;> rfl),qB⟩
 obtain rfl:=oJ H
 go_enter func36,ntmps36
 go_wp2_with (first|((with_reducible refine jc 46 8 ?_);refine jG func46 #[iV (l0.length:Int),iV 1,iV 600] ?_;refine (Sbn.calls _ _ _ _ _ (aa1.out (by assumption))).mono ?_;rintro e w' ⟨rfl,⟨nd,rfl⟩⟩;refine⟨_,rfl,?_⟩))
 go_ret
 exact⟨qW,qB⟩
def adn:Nat->Int->Bool->Int->Int->Int->Int->Int->Option (List Int)
 | 0,_,_,_,_,_,_,_=>none
 | k+1,x1,bC,xa,xb,xc,xd,xe=>if bC=true then (some (([xe,wrap64 (x1+1)]:List Int))) else (if xa=5 then (if xe > (wrap64 (x1+1)) then (some (([wrap64 (x1+1),xe]:List Int))) else (some (([wrap64 (x1+1)]:List Int)))) else (some (([wrap64 (x1+1)]:List Int))))
def afk (k:Nat) (l0:List S27) (a1:Int):Option (List Int):=if 0<=a1 then (if a1 < (l0.length:Int) then (if ((aa0 l0 a1).f0)=10 then (some (([]:List Int))) else (if ((aa0 l0 a1).f0)=4 then (some (([(aa0 l0 a1).f4]:List Int))) else (if ((aa0 l0 a1).f0)=5 then (adn k a1 (decide (((aa0 l0 a1).f4) < (wrap64 (a1+1)))) ((aa0 l0 a1).f0) ((aa0 l0 a1).f1) ((aa0 l0 a1).f2) ((aa0 l0 a1).f3) ((aa0 l0 a1).f4)) else (adn k a1 false ((aa0 l0 a1).f0) ((aa0 l0 a1).f1) ((aa0 l0 a1).f2) ((aa0 l0 a1).f3) ((aa0 l0 a1).f4))))) else (none)) else (none)
theorem agT:∀ k,(∀ y0 y1 y2 y3 y4 y5 y6,LeO (adn k y0 y1 y2 y3 y4 y5 y6) (adn (k+1) y0 y1 y2 y3 y4 y5 y6))
 | 0=>fun _ _ _ _ _ _ _ r h=>by simp [adn] at h
 | k+1=>by
  have bD:=agT k
  intros;unfold adn;exact mM
theorem SaU.mono:∀ a0 a1 k,LeO (afk k a0 a1) (afk (k+1) a0 a1):=by
 intro a0 a1 k;have bD:=agT k;unfold afk;exact mM
theorem aex (k:Nat) (A0:Option Addr) (c0:Nat) (l0:List S27) (a1:Int) (r:List Int) (w:World) (hr0:Kd.C k27 w A0 l0.length l0) (hc0:l0.length<=c0) (h:afk k l0 a1=some r) :
  Calls prog 55 #[.slice A0 l0.length c0,iV a1] w fun e w'=>∃ bB:Value,e = .returned (bB)/\Kd.R (Kd.int .i64) 3 w' w.heap.size (fun _=>True) bB r/\Below w.heap.size w w':=by
 have bE:=underlying27
 have bu:=aM hr0
 have cu:=aM hc0
 clear hr0 hc0
 have HB:=jb_ w
 have H:=h;unfold afk at H
 clear h
 replace H:=jI H;obtain⟨bv,H⟩:=H
 replace H:=jI H;obtain⟨bz,H⟩:=H
 replace H:=jE H;rcases H with ⟨aR,aS,H⟩ | ⟨c5,aR,aS,H⟩
 ·obtain⟨bF,av⟩:=ky ([]:List Int)
  replace H:=kv av H
  obtain rfl:=oJ H
  obtain⟨aJ,aC,ae,af,ag,ah,ai,aO,aP⟩:=aky bu a1
  cases aC
  go_enter func55,ntmps55
  go_wp2_with (first|((with_reducible refine jd 5 ?_);refine jY _ 27 ?_;intro aj hg w6 aa hb;have aK:=kG hg;replace HB:=kH hb;clear hb hg;have cz:=jz5 aa)|((with_reducible refine jd 14 ?_);refine jV (Kd.int .i64) 3 ([]:List Int) [] (aa9 _ _) ?_;intro bG w8 aT hb;replace aT:=kr av aT;have aU:=kL aT;replace aa:=aM (abC (g:=aj) (qF aa) hb);replace HB:=kH hb;clear hb aT))
  go_ret
  exact⟨_,qW,qR aU,qB⟩
 replace H:=jE H;rcases H with ⟨aL,aN,H⟩ | ⟨c10,aL,aN,H⟩
 ·obtain⟨bH,ax⟩:=ky ((([(aa0 l0 a1).f4]:List Int)):List Int)
  replace H:=kv ax H
  obtain rfl:=oJ H
  obtain⟨aJ,aC,ae,af,ag,ah,ai,aO,aP⟩:=aky bu a1
  cases aC
  go_enter func55,ntmps55
  go_wp2_with (first|((with_reducible refine jd 5 ?_);refine jY _ 27 ?_;intro aj hg cB aa hb;have aK:=kG hg;replace HB:=kH hb;clear hb hg;have bI:=jz5 aa)|((with_reducible refine jd 21 ?_);refine jV (Kd.int .i64) 3 ([(aa0 l0 a1).f4]:List Int) [iV ((aa0 l0 a1).f4)] (aax.one (show Kd.M (Kd.int .i64) _ _ _ ((aa0 l0 a1).f4) [iV ((aa0 l0 a1).f4)] from rfl) (aa9 _ _)) ?_;intro bJ cK aD hb;replace aD:=kr ax aD;have aV:=kL aD;replace aa:=aM (abC (g:=aj) (qF aa) hb);replace HB:=kH hb;clear hb aD))
  go_ret
  exact⟨_,qW,qR aV,qB⟩
 have aQ:=aM H
 clear H
 obtain⟨aJ,aC,ae,af,ag,ah,ai,aO,aP⟩:=aky bu a1
 cases aC
 go_enter func55,ntmps55
 go_upto_region 6 with (first|((with_reducible refine jd 5 ?_);refine jY _ 27 ?_;intro aj hg w16 aa hb;have aK:=kG hg;replace HB:=kH hb;clear hb hg;have bA:=jz5 aa))
 (try simp only [Act.put,List.setIfInBounds_toArray,List.set_cons_zero,List.set_cons_succ])
 go_cut [22] (fun v22 wc=>∃ (kq:Nat) (au:Bool),v22 = .bool au/\aa1 (adn kq a1 au ((aa0 l0 a1).f0) ((aa0 l0 a1).f1) ((aa0 l0 a1).f2) ((aa0 l0 a1).f3) ((aa0 l0 a1).f4)=some r)/\aa1 (kq<=k)/\aa1 (wc.heap[aj]?=some (.cells #[iV ((aa0 l0 a1).f0),iV ((aa0 l0 a1).f1),iV ((aa0 l0 a1).f2),iV ((aa0 l0 a1).f3),iV ((aa0 l0 a1).f4)] 27 (0,0)))/\aa1 (Below w.heap.size w wc))
 case first =>
  have H:=aQ.out
  clear aQ
  replace H:=jE H;rcases H with ⟨ak,aW,H⟩ | ⟨c18,ak,aW,H⟩
  ·(first|rw [ak]|(simp only [aas,aaw];rw [ak])|skip)
   have H':=aM H
   clear H
   have bK:=jz5 aa
   go_wp2
   go_meet
   exact⟨_,(decide (((aa0 l0 a1).f4) < (wrap64 (a1+1)))),qZ,H',⟨by first|omega|exact Nat.le_refl _⟩,⟨qF aa⟩,⟨qB⟩⟩
  (first|rw [ak]|(simp only [aas,aaw];rw [ak])|skip)
  have H':=aM H
  clear H
  have bL:=jz5 aa
  go_wp2
  go_meet
  exact⟨_,(false),qZ,H',⟨by first|omega|exact Nat.le_refl _⟩,⟨qF aa⟩,⟨qB⟩⟩
 clear aQ
 try clear bv;try clear bz;try clear c5;try clear aR;try clear aS;try clear c10;try clear aL;try clear aN;try clear bA;try clear ae;try clear af;try clear ag;try clear ah;try clear ai;try clear aO;try clear aP
 obtain⟨kq,au,rfl,HA,bM,aa,HB⟩:=hcut
 cases kq with
 | zero=>exact absurd HA.out (by simp [adn])
 | succ bN =>
  have H:=HA.out
  clear HA
  simp only [adn] at H
  replace H:=jB H;rcases H with ⟨rfl,H⟩ | ⟨rfl,H⟩
  ·obtain⟨bO,ay⟩:=ky ((([((aa0 l0 a1).f4),wrap64 (a1+1)]:List Int)):List Int)
   replace H:=kv ay H
   obtain rfl:=oJ H
   have bP:=jz5 aa
   go_wp2_with (first|((with_reducible refine jd 37 ?_);refine jV (Kd.int .i64) 3 ([((aa0 l0 a1).f4),wrap64 (a1+1)]:List Int) [iV ((aa0 l0 a1).f4),iV (wrap64 (a1+1))] (aax.one (show Kd.M (Kd.int .i64) _ _ _ ((aa0 l0 a1).f4) [iV ((aa0 l0 a1).f4)] from rfl) (aax.one (show Kd.M (Kd.int .i64) _ _ _ (wrap64 (a1+1)) [iV (wrap64 (a1+1))] from rfl) (aa9 _ _))) ?_;intro bQ cO aF hb;replace aF:=kr ay aF;have aX:=kL aF;replace aa:=kB aa hb;replace HB:=kH hb;clear hb aF))
   go_ret
   exact⟨_,qW,qR aX,qB⟩
  replace H:=jE H;rcases H with ⟨aY,aZ,H⟩ | ⟨df,aY,aZ,H⟩
  ·replace H:=jD H;rcases H with ⟨bg,H⟩ | ⟨bg,H⟩
   ·obtain⟨bR,az⟩:=ky ((([wrap64 (a1+1),((aa0 l0 a1).f4)]:List Int)):List Int)
    replace H:=kv az H
    obtain rfl:=oJ H
    have bS:=jz5 aa
    go_wp2_with (first|((with_reducible refine jd 53 ?_);refine jV (Kd.int .i64) 3 ([wrap64 (a1+1),((aa0 l0 a1).f4)]:List Int) [iV (wrap64 (a1+1)),iV ((aa0 l0 a1).f4)] (aax.one (show Kd.M (Kd.int .i64) _ _ _ (wrap64 (a1+1)) [iV (wrap64 (a1+1))] from rfl) (aax.one (show Kd.M (Kd.int .i64) _ _ _ ((aa0 l0 a1).f4) [iV ((aa0 l0 a1).f4)] from rfl) (aa9 _ _))) ?_;intro bT dh aG hb;replace aG:=kr az aG;have bi:=kL aG;replace aa:=kB aa hb;replace HB:=kH hb;clear hb aG))
    go_ret
    exact⟨_,qW,qR bi,qB⟩
   obtain⟨bU,aA⟩:=ky ((([wrap64 (a1+1)]:List Int)):List Int)
   replace H:=kv aA H
   obtain rfl:=oJ H
   have bV:=jz5 aa
   go_wp2_with (first|((with_reducible refine jd 56 ?_);refine jV (Kd.int .i64) 3 ([wrap64 (a1+1)]:List Int) [iV (wrap64 (a1+1))] (aax.one (show Kd.M (Kd.int .i64) _ _ _ (wrap64 (a1+1)) [iV (wrap64 (a1+1))] from rfl) (aa9 _ _)) ?_;intro bW di aH hb;replace aH:=kr aA aH;have bn:=kL aH;replace aa:=kB aa hb;replace HB:=kH hb;clear hb aH))
   go_ret
   exact⟨_,qW,qR bn,qB⟩
  obtain⟨bX,aB⟩:=ky ((([wrap64 (a1+1)]:List Int)):List Int)
  replace H:=kv aB H
  obtain rfl:=oJ H
  have bY:=jz5 aa
  go_wp2_with (first|((with_reducible refine jd 56 ?_);refine jV (Kd.int .i64) 3 ([wrap64 (a1+1)]:List Int) [iV (wrap64 (a1+1))] (aax.one (show Kd.M (Kd.int .i64) _ _ _ (wrap64 (a1+1)) [iV (wrap64 (a1+1))] from rfl) (aa9 _ _)) ?_;intro bZ dn aI hb;replace aI:=kr aB aI;have bq:=kL aI;replace aa:=kB aa hb;replace HB:=kH hb;clear hb aI))
  go_ret
  exact⟨_,qW,qR bq,qB⟩
end Go.Proofs.YtebpplallecogaaGreat.M
namespace Go.Proofs.YtebpplallecogaaGreat.M
open Go.Proofs.Tryz Go.RowKit Go.Proofs.YtebpplallecogaaGreatW.PrintWords Go.Proofs.YtebpplallecogaaGreatW.PrintLast Go.Proofs.YtebpplallecogaaGreatW.PrintMore Kd
attribute [local go_sem] aal aaj aaz aay aae aad aak aai
mutual
def aew:Nat->List (List Bool)->List Bool->List Int->Int->Option (List Bool)
 | 0,_,_,_,_=>none
 | k+1,x1,x7,x8,x9=>if x9 < (x8.length:Int) then (acX k x1 x7 x8 x9 0) else (some x7)
def acX:Nat->List (List Bool)->List Bool->List Int->Int->Int->Option (List Bool)
 | 0,_,_,_,_,_=>none
 | k+1,x1,x7,x8,x9,aI=>if aI < 12 then (if 0<=aI then (if aI < (x7.length:Int) then (if abJ false x7 aI=true then (acX k x1 (x7.set (aI:Int).toNat true) x8 x9 (wrap64 (aI+1))) else (if 0<=x9 then (if x9 < (x8.length:Int) then (if 0<=(rd x8 x9) then (if (rd x8 x9) < (x1.length:Int) then (if aI < ((acA x1 (rd x8 x9)).length:Int) then (acX k x1 (x7.set (aI:Int).toNat (abJ false (acA x1 (rd x8 x9)) aI)) x8 x9 (wrap64 (aI+1))) else (none)) else (none)) else (none)) else (none)) else (none))) else (none)) else (none)) else (aew k x1 x7 x8 (wrap64 (x9+1)))
end
def SaW.f (k:Nat) (l0:List S27) (l1:List (List Bool)) (a2:Int):Option (List Bool):=if 12<=281474976710656 then ((afk k l0 a2).bind fun ae=>(aew k l1 (List.replicate 12 false) ae 0)) else (none)
theorem SaW.calls (k:Nat) (A0:Option Addr) (c0:Nat) (l0:List S27) (A1:Option Addr) (c1:Nat) (l1:List (List Bool)) (a2:Int) (r:List Bool) (w:World) (hr0:Kd.C k27 w A0 l0.length l0) (hc0:l0.length<=c0) (hr1:Kd.C (Kd.slice 4 Kd.bool) w A1 l1.length l1) (hc1:l1.length<=c1) (h:SaW.f k l0 l1 a2=some r) :
  Calls prog 38 #[.slice A0 l0.length c0,.slice A1 l1.length c1,iV a2] w fun e w'=>∃ dB:Value,e = .returned (dB)/\Kd.R Kd.bool 4 w' w.heap.size (fun _=>True) dB r/\Below w.heap.size w w':=by
 have dN:=aM hr0
 have dO:=aM hc0
 clear hr0 hc0
 have HR1:=aM hr1
 have d9:=aM hc1
 clear hr1 hc1
 have HB:=jb_ w
 have H:=h;unfold SaW.f at H
 clear h
 replace H:=jJ H;obtain⟨aZ,bg,H⟩:=H
 obtain⟨bM,ay⟩:=ky ((List.replicate 12 false):List Bool)
 replace H:=kv ay H
 obtain⟨ae,A5,H⟩:=qE H
 try dsimp only at H
 have H':=aM H
 clear H
 go_enter func38,ntmps38
 go_wp2_with (first|((with_reducible refine jd 11 ?_);refine R_make Kd.bool _ 4 rfl (N:=11) rfl 37 _ _ rfl 12 rfl rfl underlying37 (.bool false) 1 akC rfl (by decide) (by omega) false (ok:=fun _=>True) (okp:=fun _=>True) rfl (fun _ hk=>hk) trivial (by omega) (by omega) (Below.refl _ _) (Nat.le_refl _) ?_;intro bi w6 bn hb hg_ hnew_;clear hg_ hnew_;replace bn:=kr ay bn;have aC:=kL bn;replace HB:=kH hb;clear hb bn)|((with_reducible refine jc 55 14 ?_);refine jM func55 (aex k _ _ l0 a2 ae _ (kb dN HB) dO.out A5.out) ?_;rintro bN w8 ⟨ho0,hb⟩;have bv:=kL ho0;replace aC:=kR aC hb;replace HB:=kH hb;clear hb;(try clear ho0)))
 go_loopg [9] k (fun kq v9 w'=>∃ (aJ:List Bool) (af:Int),v9 = iV af/\aa1 (aew kq l1 aJ ae af=some r)/\aa1 (kq<=k)/\aa1 (Kd.R Kd.bool 4 w' w.heap.size (fun _=>True) bi aJ)/\aa1 (Kd.R (Kd.int .i64) 3 w' w.heap.size (fun _=>True) bN ae)/\aa1 (Below w.heap.size w w'))
 case atStart=>exact⟨(bM),(0),qZ,H',⟨Nat.le_refl _⟩,⟨qR aC⟩,⟨qR bv⟩,⟨qB⟩⟩
 clear H'
 try clear c1;try clear aZ;try clear bg
 obtain⟨aJ,af,rfl,HA,aX,ag,aj,HB⟩:=hrel
 rcases gk with _|k1
 ·exact absurd HA.out (by simp [aew])
 have H:=HA.out
 clear HA
 simp only [aew] at H
 replace H:=jD H;rcases H with ⟨bz,H⟩ | ⟨bz,H⟩
 ·have H':=aM H
  clear H
  obtain⟨bO,bP,bQ⟩:=R_slice aj.out
  subst bQ
  go_wp2
  go_loopg [10] k1 (fun kq v10 w'=>∃ (ah:List Bool) (aa:Int),v10 = iV aa/\aa1 (acX kq l1 ah ae af aa=some r)/\aa1 (kq<=k1)/\aa1 (Kd.R Kd.bool 4 w' w.heap.size (fun _=>True) bi ah)/\aa1 (Kd.R (Kd.int .i64) 3 w' w.heap.size (fun _=>True) (.slice bO ae.length bP) ae)/\aa1 (Below w.heap.size w w'))
  case atStart=>exact⟨(aJ),(0),qZ,H',⟨Nat.le_refl _⟩,⟨qR ag⟩,⟨qR aj⟩,⟨qB⟩⟩
  clear H'
  try clear c1;try clear aZ;try clear bg;try clear bz
  obtain⟨ah,aa,rfl,HA,aY,ag,aj,HB⟩:=hrel
  rcases gk with _|k2
  ·exact absurd HA.out (by simp [acX])
  have H:=HA.out
  clear HA
  simp only [acX] at H
  replace H:=jD H;rcases H with ⟨bA,H⟩ | ⟨bA,H⟩
  ·replace H:=jI H;obtain⟨dC,H⟩:=H
   replace H:=jI H;obtain⟨dD,H⟩:=H
   obtain⟨bR,aD⟩:∃ b_:Bool,b_=(abJ false ah aa):=⟨_,rfl⟩
   replace H:(if bR=true then (acX k2 l1 (ah.set (aa:Int).toNat true) ae af (wrap64 (aa+1))) else (if 0<=af then (if af < (ae.length:Int) then (if 0<=(rd ae af) then (if (rd ae af) < (l1.length:Int) then (if aa < ((acA l1 (rd ae af)).length:Int) then (acX k2 l1 (ah.set (aa:Int).toNat (abJ false (acA l1 (rd ae af)) aa)) ae af (wrap64 (aa+1))) else (none)) else (none)) else (none)) else (none)) else (none)))=some r:=by rw [<- aD] at H;exact H
   have aF:=aM aD;clear aD
   replace H:=jB H;rcases H with ⟨rfl,H⟩ | ⟨rfl,H⟩
   ·obtain⟨bS,aG⟩:=ky ((ah.set (aa:Int).toNat true):List Bool)
    replace H:=kv aG H
    have H':=aM H
    clear H
    obtain⟨dP,bB,bT⟩:=R_slice ag.out
    subst bT
    have au:0<=(aa:Int):=qD
    have av:aa < (ah.length:Int):=qD
    obtain⟨bC,aO,ai⟩:=Kd.at_bool (R_reads' ag.out).2.2 aa au av
    (try rw [<- aF.out] at ai)
    cases aO
    replace au:=eq_true au
    replace av:=eq_true av
    have p16:0<=(aa:Int):=qD
    have q16:(aa:Int) < ((ah.length:Int):Int):=qD
    obtain⟨aK,dQ,bD,bE,bU,dR,bF⟩:=R_form ag.out (by omega)
    (first|cases bD|(injection bD with ea_ en_ ec_;(first|subst ea_|(injection ea_ with ea_;subst ea_));subst ec_;clear en_))
    have bV:=aM bE
    have dS:=aM bF
    clear bE bU bF
    (first|simp only [add_plain] at ai|skip)
    obtain⟨bW,bX⟩:=R_celln false ag.out (aa:Int) p16 q16
    replace p16:=eq_true p16
    replace q16:=eq_true q16
    have aP:=R_putg ag.out (aa:Int) true
    go_wp2_with (first|((with_reducible refine aaB (t:=4) (p:=43) rfl ?_);refine aar (t:=4) (p:=43) (v:=?bY) (w1:=(wr.setCell ⟨aK,(aa:Int).toNat,none⟩ (.bool true))) ?hg ?ho ?hn ?hr ?_;(case ho=>rfl);(case hg=>rfl);(case hn=>rfl);(case hr=>first|(go_simp;done)|(go_simp;rfl));intro ax hw;have hg:wr.grownBy ax (some aK):=(by rw [hw];exact aP.2);have hp_:Kd.R Kd.bool 4 ax w.heap.size (fun _=>True) (.slice (some ⟨aK,0,none⟩) ah.length bB) bS:=(by rw [hw,aG.out];exact aP.1);clear aP;replace aj:=aM (R_over' (v:=(.slice (some ⟨aK,0,none⟩) ah.length bB)) (qR aj) (R_typed ag.out) (by decide) hg);replace ag:=aM hp_;replace HB:=aM ((by rw [hw];exact aac (HB.out) bV.out:Below w.heap.size w ax));clear hg hw hp_))
    go_roundg k2
    case measure=>have:=aX.out;have:=aY.out;omega
    exact⟨_,_,qZ,H',⟨by have:=aX.out;have:=aY.out;omega⟩,⟨qR ag⟩,⟨qR aj⟩,⟨qB⟩⟩
   replace H:=jI H;obtain⟨dE,H⟩:=H
   replace H:=jI H;obtain⟨dF,H⟩:=H
   replace H:=jI H;obtain⟨dG,H⟩:=H
   replace H:=jI H;obtain⟨dH,H⟩:=H
   replace H:=jI H;obtain⟨dI,H⟩:=H
   obtain⟨bZ,aH⟩:=ky ((ah.set (aa:Int).toNat (abJ false (acA l1 (rd ae af)) aa)):List Bool)
   replace H:=kv aH H
   have H':=aM H
   clear H
   obtain⟨dU,bG,cu⟩:=R_slice ag.out
   subst cu
   have au:0<=(aa:Int):=qD
   have av:aa < (ah.length:Int):=qD
   obtain⟨bC,aO,ai⟩:=Kd.at_bool (R_reads' ag.out).2.2 aa au av
   (try rw [<- aF.out] at ai)
   cases aO
   replace au:=eq_true au
   replace av:=eq_true av
   have aQ:0<=(af:Int):=qD
   have aR:af < (ae.length:Int):=qD
   obtain⟨dJ,cz,bK⟩:=Kd.at_int (R_reads' aj.out).2.2 af aQ aR
   cases cz
   replace aQ:=eq_true aQ
   replace aR:=eq_true aR
   have aS:0<=((rd ae af):Int):=qD
   have aT:(rd ae af) < (l1.length:Int):=qD
   obtain⟨dK,cB,cK,cO,az,aA,aB⟩:=apm HR1.out (rd ae af) aS aT
   cases cO
   replace az:=kx HB az
   have aL:=aM aB
   have bL:=aM aA
   clear aB aA
   replace aS:=eq_true aS
   replace aT:=eq_true aT
   have aU:0<=(aa:Int):=qD
   have aV:aa < ((acA l1 (rd ae af)).length:Int):=qD
   obtain⟨dL,df,ak⟩:=Kd.at_bool aL.out aa aU aV
   (try rw [<- aF.out] at ak)
   cases df
   replace ak:=kx HB ak
   replace aU:=eq_true aU
   replace aV:=eq_true aV
   have p25:0<=(aa:Int):=qD
   have dh:(aa:Int) < ((ah.length:Int):Int):=qD
   obtain⟨aN,dV,bH,bI,di,dW,bJ⟩:=R_form ag.out (by omega)
   (first|cases bH|(injection bH with ea_ en_ ec_;(first|subst ea_|(injection ea_ with ea_;subst ea_));subst ec_;clear en_))
   have dn:=aM bI
   have dX:=aM bJ
   clear bI di bJ
   (first|simp only [add_plain] at ai|skip)
   obtain⟨dw,dx⟩:=R_celln false ag.out (aa:Int) p25 dh
   replace p25:=eq_true p25
   replace dh:=eq_true dh
   have aW:=R_putg ag.out (aa:Int) (abJ false (acA l1 (rd ae af)) aa)
   go_wp2_with (first|((with_reducible refine aaB (t:=4) (p:=43) rfl ?_);refine aar (t:=4) (p:=43) (v:=?dz) (w1:=(wr.setCell ⟨aN,(aa:Int).toNat,none⟩ (.bool (abJ false (acA l1 (rd ae af)) aa)))) ?hg ?ho ?hn ?hr ?_;(case ho=>rfl);(case hg=>rfl);(case hn=>rfl);(case hr=>first|(go_simp;done)|(go_simp;rfl));intro ax hw;have hg:wr.grownBy ax (some aN):=(by rw [hw];exact aW.2);have hp_:Kd.R Kd.bool 4 ax w.heap.size (fun _=>True) (.slice (some ⟨aN,0,none⟩) ah.length bG) bZ:=(by rw [hw,aH.out];exact aW.1);clear aW;replace aj:=aM (R_over' (v:=(.slice (some ⟨aN,0,none⟩) ah.length bG)) (qR aj) (R_typed ag.out) (by decide) hg);replace ag:=aM hp_;replace HB:=aM ((by rw [hw];exact aac (HB.out) dn.out:Below w.heap.size w ax));clear hg hw hp_))
   go_roundg k2
   case measure=>have:=aX.out;have:=aY.out;omega
   exact⟨_,_,qZ,H',⟨by have:=aX.out;have:=aY.out;omega⟩,⟨qR ag⟩,⟨qR aj⟩,⟨qB⟩⟩
  have H':=aM H
  clear H
  go_wp2
  go_roundg k2
  case measure=>have:=aX.out;have:=aY.out;omega
  exact⟨(ah),(wrap64 (af+1)),qZ,H',⟨by have:=aX.out;have:=aY.out;omega⟩,⟨qR ag⟩,⟨qR aj⟩,⟨qB⟩⟩
 obtain rfl:=oJ H
 obtain⟨dY,dZ,dA⟩:=R_slice aj.out
 subst dA
 go_wp2
 go_ret
 exact⟨_,qW,qR ag,qB⟩
end Go.Proofs.YtebpplallecogaaGreat.M
namespace Go.Proofs.YtebpplallecogaaGreat.M
open Go.Proofs.Tryz Go.RowKit Go.Proofs.YtebpplallecogaaGreatW.PrintWords Go.Proofs.YtebpplallecogaaGreatW.PrintLast Go.Proofs.YtebpplallecogaaGreatW.PrintMore
attribute [local go_sem] aal aaj aaz aay aae aad aak aai
def aiB (aa ae ag ah ai:Int):Option (Int):=(aiA aa ae ag ah ai 600).bind fun aj=>(if aj=true then (if aa=1 then (some ae) else (if aa=2 then (some ae) else (if aa=3 then (some ae) else (if aa=7 then (some ae) else (some (-1)))))) else (some (-1)))
theorem ajN {G:Prop} (h:G:=by
  go_enter func68,ntmps68
  go_wp2_with (first|((with_reducible refine jd 1 ?_);refine jY _ 27 ?_;intro aC hg aF af hb;have aD:=kG hg;replace HB:=kH hb;clear hb hg;have aG:=jz5 af)|((with_reducible refine jc 54 4 ?_);refine jG func54 #[.agg #[iV aa,iV ae,iV ag,iV ah,iV ai],iV 600] ?_;refine (Saw.calls _ _ _ _ _ _ _ _ (aa1.out (by assumption))).mono ?_;rintro e aH ⟨rfl,hb⟩;refine⟨_,rfl,?_⟩;replace af:=kB af hb;replace HB:=kH hb;clear hb;have aI:=jz5 af))
  go_ret
  exact⟨qW,qB⟩):G:=h
theorem Sau.calls (aa ae ag ah ai r:Int) (w:World) (h:aiB aa ae ag ah ai=some r) :
  Calls prog 68 #[.agg #[iV aa,iV ae,iV ag,iV ah,iV ai]] w fun e w'=>e = .returned (iV r)/\Below w.heap.size w w':=by
 have aJ:=underlying27
 have HB:=jb_ w
 have H:=h;unfold aiB at H
 clear h
 obtain⟨aj,A2,H⟩:=qE H
 try dsimp only at H
 replace H:=jB H;rcases H with ⟨rfl,H⟩ | ⟨rfl,H⟩
 ·replace H:=jE H;rcases H with ⟨ay,az,H⟩ | ⟨c4,ay,az,H⟩
  ·obtain rfl:=oJ H
   exact ajN
  replace H:=jE H;rcases H with ⟨aA,aB,H⟩ | ⟨c9,aA,aB,H⟩
  ·obtain rfl:=oJ H
   exact ajN
  replace H:=jE H;rcases H with ⟨ak,au,H⟩ | ⟨c14,ak,au,H⟩
  ·obtain rfl:=oJ H
   exact ajN
  replace H:=jE H;rcases H with ⟨av,ax,H⟩ | ⟨c19,av,ax,H⟩
  ·obtain rfl:=oJ H
   exact ajN
  obtain rfl:=oJ H
  exact ajN
 obtain rfl:=oJ H
 exact ajN
def aen:Nat->Int->Bool->Int->Int->Int->Int->Int->Option (List Int)
 | 0,_,_,_,_,_,_,_=>none
 | k+1,x8,x9,xa,xb,xc,xd,xe=>if x9=true then (some (([xc]:List Int))) else (if x8=3 then (if xc=xd then (some (([xc]:List Int))) else (some (([mn xc xd,mx xc xd]:List Int)))) else (some (([]:List Int))))
def alV (k:Nat) (af ah ae ag ai:Int):Option (List Int):=(aiA af ah ae ag ai 600).bind fun aL=>(if aL=true then (if af=2 then (aen k af (af == 2) af ah ae ag ai) else (if af=5 then (aen k af (af == 5) af ah ae ag ai) else (if af=6 then (aen k af (af == 6) af ah ae ag ai) else (aen k af (af == 9) af ah ae ag ai)))) else (some (([]:List Int))))
theorem alW (k:Nat) (af ah ae ag ai:Int) (r:List Int) (w:World) (h:alV k af ah ae ag ai=some r) :
  Calls prog 69 #[.agg #[iV af,iV ah,iV ae,iV ag,iV ai]] w fun e w'=>∃ bv:Value,e = .returned (bv)/\Kd.R (Kd.int .i64) 3 w' w.heap.size (fun _=>True) bv r/\Below w.heap.size w w':=by
 have bA:=underlying27
 have HB:=jb_ w
 have H:=h;unfold alV at H
 clear h
 obtain⟨aL,A2,H⟩:=qE H
 try dsimp only at H
 replace H:=jB H;rcases H with ⟨rfl,H⟩ | ⟨rfl,H⟩
 ·have bi:=aM H
  clear H
  go_enter func69,ntmps69
  go_upto_if 9 with (first|((with_reducible refine jd 1 ?_);refine jY _ 27 ?_;intro aJ hg w5 aa hb;have aN:=kG hg;replace HB:=kH hb;clear hb hg;have bB:=jz5 aa)|((with_reducible refine jc 54 4 ?_);refine jK func54 (Saw.calls af ah ae ag ai 600 true _ A2.out) ?_;intro w7 hb;replace aa:=kB aa hb;replace HB:=kH hb;clear hb;have bC:=jz5 aa))
  (try simp only [Act.put,List.setIfInBounds_toArray,List.set_cons_zero,List.set_cons_succ])
  go_cut [9] (fun v9 wc=>∃ (kq:Nat) (aK:Bool),v9 = .bool aK/\aa1 (aen kq af aK af ah ae ag ai=some r)/\aa1 (kq<=k)/\aa1 (wc.heap[aJ]?=some (.cells #[iV af,iV ah,iV ae,iV ag,iV ai] 27 (0,0)))/\aa1 (Below w.heap.size w wc))
  case first =>
   have H:=bi.out
   clear bi
   replace H:=jE H;rcases H with ⟨aC,bn,H⟩ | ⟨c9,aC,bn,H⟩
   ·(first|rw [aC]|(simp only [aas,aaw];rw [aC])|skip)
    have H':=aM H
    clear H
    go_wp2
    go_meet
    exact⟨_,((af == 2)),qZ,H',⟨by first|omega|exact Nat.le_refl _⟩,⟨qK aa⟩,⟨qB⟩⟩
   (first|rw [aC]|(simp only [aas,aaw];rw [aC])|skip)
   replace H:=jE H;rcases H with ⟨aO,aP,H⟩ | ⟨c10,aO,aP,H⟩
   ·have H':=aM H
    clear H
    go_wp2
    go_meet
    exact⟨_,((af == 5)),qZ,H',⟨by first|omega|exact Nat.le_refl _⟩,⟨qK aa⟩,⟨qB⟩⟩
   replace H:=jE H;rcases H with ⟨aQ,aR,H⟩ | ⟨c11,aQ,aR,H⟩
   ·have H':=aM H
    clear H
    go_wp2
    go_meet
    exact⟨_,((af == 6)),qZ,H',⟨by first|omega|exact Nat.le_refl _⟩,⟨qK aa⟩,⟨qB⟩⟩
   have H':=aM H
   clear H
   go_wp2
   go_meet
   exact⟨_,((af == 9)),qZ,H',⟨by first|omega|exact Nat.le_refl _⟩,⟨qK aa⟩,⟨qB⟩⟩
  clear bi
  try clear bB;try clear bC
  obtain⟨kq,aK,rfl,HA,bR,aa,HB⟩:=hcut
  cases kq with
  | zero=>exact absurd HA.out (by simp [aen])
  | succ bS =>
   have H:=HA.out
   clear HA
   simp only [aen] at H
   replace H:=jB H;rcases H with ⟨rfl,H⟩ | ⟨rfl,H⟩
   ·obtain⟨bD,au⟩:=ky ((([ae]:List Int)):List Int)
    replace H:=kv au H
    obtain rfl:=oJ H
    have bE:=jz5 aa
    go_wp2_with (first|((with_reducible refine jd 16 ?_);refine jV (Kd.int .i64) 3 ([ae]:List Int) [iV ae] (aax.one (show Kd.M (Kd.int .i64) _ _ _ ae [iV ae] from rfl) (aa9 _ _)) ?_;intro bF bT aD hb;replace aD:=kr au aD;have aS:=kL aD;replace aa:=kB aa hb;replace HB:=kH hb;clear hb aD))
    go_ret
    exact⟨_,qW,qR aS,qB⟩
   replace H:=jE H;rcases H with ⟨aT,aU,H⟩ | ⟨c16,aT,aU,H⟩
   ·replace H:=jE H;rcases H with ⟨aV,aW,H⟩ | ⟨c17,aV,aW,H⟩
    ·obtain⟨bG,av⟩:=ky ((([ae]:List Int)):List Int)
     replace H:=kv av H
     obtain rfl:=oJ H
     have bH:=jz5 aa
     go_wp2_with (first|((with_reducible refine jd 26 ?_);refine jV (Kd.int .i64) 3 ([ae]:List Int) [iV ae] (aax.one (show Kd.M (Kd.int .i64) _ _ _ ae [iV ae] from rfl) (aa9 _ _)) ?_;intro bI bU aF hb;replace aF:=kr av aF;have aX:=kL aF;replace aa:=kB aa hb;replace HB:=kH hb;clear hb aF))
     go_ret
     exact⟨_,qW,qR aX,qB⟩
    obtain⟨aj,ax⟩:∃ j_:Int,(mn ae ag)=j_:=⟨_,rfl⟩
    replace H:(some (([aj,mx ae ag]:List Int)))=some r:=by first|(rw [ax] at H;exact H)|(simp only [ax] at H ⊢;exact H)
    have bq:(if ag < ae then ag else ae)=aj:=ax
    obtain⟨ak,ay⟩:∃ j_:Int,(mx ae ag)=j_:=⟨_,rfl⟩
    replace H:(some (([aj,ak]:List Int)))=some r:=by first|(rw [ay] at H;exact H)|(simp only [ay] at H ⊢;exact H)
    have bu:(if ae < ag then ag else ae)=ak:=ay
    obtain⟨bJ,az⟩:=ky ((([aj,ak]:List Int)):List Int)
    replace H:=kv az H
    obtain rfl:=oJ H
    have bK:=jz5 aa
    go_wp2_with (first|((with_reducible refine jd 37 ?_);refine jV (Kd.int .i64) 3 ([aj,ak]:List Int) [iV aj,iV ak] (aax.one (show Kd.M (Kd.int .i64) _ _ _ aj [iV aj] from rfl) (aax.one (show Kd.M (Kd.int .i64) _ _ _ ak [iV ak] from rfl) (aa9 _ _))) ?_;intro bL bV aG hb;replace aG:=kr az aG;have aY:=kL aG;replace aa:=kB aa hb;replace HB:=kH hb;clear hb aG))
    go_ret
    exact⟨_,by first|rfl|(simp [aan,aam] <;> rfl)|(simp only [<- ax,<- ay];first|rfl|(simp [aan,aam] <;> rfl))|(simp [*,aan,aam] <;> rfl),qR aY,qB⟩
   obtain⟨bM,aA⟩:=ky ([]:List Int)
   replace H:=kv aA H
   obtain rfl:=oJ H
   go_wp2_with (first|((with_reducible refine jd 38 ?_);refine jV (Kd.int .i64) 3 ([]:List Int) [] (aa9 _ _) ?_;intro bN bW aH hb;replace aH:=kr aA aH;have aZ:=kL aH;replace aa:=kB aa hb;replace HB:=kH hb;clear hb aH))
   go_ret
   exact⟨_,qW,qR aZ,qB⟩
 obtain⟨bO,aB⟩:=ky ([]:List Int)
 replace H:=kv aB H
 obtain rfl:=oJ H
 go_enter func69,ntmps69
 go_wp2_with (first|((with_reducible refine jd 1 ?_);refine jY _ 27 ?_;intro aJ hg bX aa hb;have aN:=kG hg;replace HB:=kH hb;clear hb hg;have bP:=jz5 aa)|((with_reducible refine jc 54 4 ?_);refine jK func54 (Saw.calls af ah ae ag ai 600 false _ A2.out) ?_;intro bY hb;replace aa:=kB aa hb;replace HB:=kH hb;clear hb)|((with_reducible refine jd 6 ?_);refine jV (Kd.int .i64) 3 ([]:List Int) [] (aa9 _ _) ?_;intro bQ bZ aI hb;replace aI:=kr aB aI;have bg:=kL aI;replace aa:=kB aa hb;replace HB:=kH hb;clear hb aI))
 go_ret
 exact⟨_,qW,qR bg,qB⟩
end Go.Proofs.YtebpplallecogaaGreat.M
namespace Go.Proofs.YtebpplallecogaaGreat.M
open Go.Proofs.Tryz Go.RowKit Go.Proofs.YtebpplallecogaaGreatW.PrintWords Go.Proofs.YtebpplallecogaaGreatW.PrintLast Go.Proofs.YtebpplallecogaaGreatW.PrintMore Kd
attribute [local go_sem] aal aaj aaz aay aae aad aak aai
mutual
def ag4:Nat->List Bool->Int->Int->Int->Int->Int->Option (List Bool)
 | 0,_,_,_,_,_,_=>none
 | k+1,x5,xa,xb,xc,xd,xe=>(alV k xa xb xc xd xe).bind fun ak=>(af9 k x5 ak 0)
def af9:Nat->List Bool->List Int->Int->Option (List Bool)
 | 0,_,_,_=>none
 | k+1,x5,x6,x7=>if x7 < (x6.length:Int) then (if 0<=x7 then (if 0<=(rd x6 x7) then (if (rd x6 x7) < (x5.length:Int) then (af9 k (x5.set ((rd x6 x7):Int).toNat true) x6 (wrap64 (x7+1))) else (none)) else (none)) else (none)) else (some x5)
end
def am9 (k:Nat) (af ag ah ai aj:Int) (l1:List Bool):Option (List Bool):=(some (([]:List Bool):List Bool)).bind fun aH=>(if aH.length+l1.length < 140737488355328 then ((some (aH ++ l1:List Bool)).bind fun ay=>((aiB af ag ah ai aj).bind fun aT=>(if aT>=0 then ((aiB af ag ah ai aj).bind fun ax=>(if 0<=ax then (if ax < (ay.length:Int) then (ag4 k (ay.set (ax:Int).toNat false) af ag ah ai aj) else (none)) else (none))) else (ag4 k ay af ag ah ai aj)))) else (none))
theorem ama (k:Nat) (af ag ah ai aj:Int) (A1:Option Addr) (c1:Nat) (l1 r:List Bool) (w:World) (hr1:Kd.C Kd.bool w A1 l1.length l1) (hc1:l1.length<=c1) (h:am9 k af ag ah ai aj l1=some r) :
  Calls prog 59 #[.agg #[iV af,iV ag,iV ah,iV ai,iV aj],.slice A1 l1.length c1] w fun e w'=>∃ df:Value,e = .returned (df)/\Kd.R Kd.bool 4 w' w.heap.size (fun _=>True) df r/\Below w.heap.size w w':=by
 have dG:=underlying27
 have HR1:=aM hr1
 have dR:=aM hc1
 clear hr1 hc1
 have HB:=jb_ w
 have H:=h;unfold am9 at H
 clear h
 obtain⟨aH,aD⟩:=ky ([]:List Bool)
 replace H:=kv aD H
 replace H:=jL H;obtain⟨bI,H⟩:=H
 obtain⟨ay,aI⟩:=ky ((aH ++ l1):List Bool)
 replace H:=kv aI H
 obtain⟨aT,A4,H⟩:=qE H
 try dsimp only at H
 have bJ:=aM H
 clear H
 go_enter func59,ntmps59
 go_upto_if 13 with (first|((with_reducible refine jd 2 ?_);refine jY _ 27 ?_;intro az hg w6 aa hb;have dh:=kG hg;replace HB:=kH hb;clear hb hg)|((with_reducible refine jd 8 ?_);refine jV Kd.bool 4 ([]:List Bool) [] (aa9 _ _) ?_;intro bK w7 bi hb;replace bi:=kr aD bi;have aJ:=kL bi;replace aa:=kB aa hb;replace HB:=kH hb;clear hb bi)|((with_reducible refine aaa (b:=.append) (xs:=#[.tmp 8,.tmp 9]) rfl ?_);at_builtin;refine R_append_rows Kd.bool (w0:=w) w.heap.size rfl (.tmp 8) (.tmp 9) 37 4 (.bool false) 1 rfl underlying37 akC rfl (by decide) (by omega) bK aH l1 _ _ _ (fun _=>True) (fun _=>False) rfl rfl ?aO ?aR (fun _ _ h=>h) (fun _ h=>h.elim) ?aF ?aB ?aS ?aL ?_;(case aR=>exact kb HR1 HB);(case aB=>exact qB);(case aF=>exact (fun _ _=>trivial));(case aO=>exact (qR aJ));(case aS=>exact (aa4 qB));(case aL=>have:=bI.out;omega);intro bn w9 ho hb hg hat;rw [<- aI.out] at ho;have ae:=aM ho;replace aa:=aM (aaq (g:=az) (qK aa) hg (R_ne aJ.out aa.out (by decide)));replace HB:=aM hb;clear aJ;clear ho hb hg hat;have bq:=jz5 aa)|((with_reducible refine jc 68 12 ?_);refine jK func68 (Sau.calls af ag ah ai aj aT _ A4.out) ?_;intro dS hb;replace ae:=kR ae hb;replace aa:=kB aa hb;replace HB:=kH hb;clear hb))
 (try simp only [Act.put,List.setIfInBounds_toArray,List.set_cons_zero,List.set_cons_succ])
 go_cut [] (fun wc=>∃ (kq:Nat) (aP:List Bool),aa1 (ag4 kq aP af ag ah ai aj=some r)/\aa1 (kq<=k)/\aa1 (Kd.R Kd.bool 4 wc w.heap.size (fun _=>True) bn aP)/\aa1 (wc.heap[az]?=some (.cells #[iV af,iV ag,iV ah,iV ai,iV aj] 27 (0,0)))/\aa1 (Below w.heap.size w wc))
 case first =>
  have H:=bJ.out
  clear bJ
  replace H:=jD H;rcases H with ⟨aA,H⟩ | ⟨aA,H⟩
  ·(first|rw [aA]|(simp only [aas,aaw];rw [aA])|skip)
   obtain⟨ax,dU,H⟩:=qE H
   try dsimp only at H
   replace H:=jI H;obtain⟨di,H⟩:=H
   replace H:=jI H;obtain⟨dn,H⟩:=H
   obtain⟨bL,aK⟩:=ky ((ay.set (ax:Int).toNat false):List Bool)
   replace H:=kv aK H
   have H':=aM H
   clear H
   have dH:=jz5 aa
   go_wp2_with (first|((with_reducible refine jc 68 16 ?_);refine jG func68 #[.agg #[iV af,iV ag,iV ah,iV ai,iV aj]] ?_;refine (Sau.calls _ _ _ _ _ _ _ (aa1.out (by assumption))).mono ?_;rintro e bu ⟨rfl,hb⟩;refine⟨_,rfl,?_⟩;replace ae:=kR ae hb;replace aa:=kB aa hb;replace HB:=kH hb;clear hb;have p16:0<=(ax:Int):=qD;have q16:(ax:Int) < ((ay.length:Int):Int):=qD;obtain⟨aU,bM,bv,bz,bN,dI,bA⟩:=R_form ae.out (by omega);(first|cases bv|(injection bv with ea_ en_ ec_;(first|subst ea_|(injection ea_ with ea_;subst ea_));subst ec_;clear en_));have bO:=aM bz;have dJ:=aM bA;clear bz bN bA;obtain⟨bP,bQ⟩:=R_celln false ae.out (ax:Int) p16 q16;replace p16:=eq_true p16;replace q16:=eq_true q16;obtain⟨dw,dx⟩:=R_celln false ae.out (ax:Int) (qD) (qD);have aV:=R_putg ae.out (ax:Int) false)|((with_reducible refine aaB (t:=4) (p:=17) rfl ?_);refine aar (t:=4) (p:=17) (v:=?bR) (w1:=(bu.setCell ⟨aU,(ax:Int).toNat,none⟩ (.bool false))) ?hg ?ho ?hn ?hr ?_;(case ho=>rfl);(case hg=>rfl);(case hn=>rfl);(case hr=>first|(go_simp;done)|(go_simp;rfl));intro aW hw;have hg:bu.grownBy aW (some aU):=(by rw [hw];exact aV.2);have hp_:Kd.R Kd.bool 4 aW w.heap.size (fun _=>True) (.slice (some ⟨aU,0,none⟩) ay.length bM) bL:=(by rw [hw,aK.out];exact aV.1);clear aV;replace aa:=aM (aaq (g:=az) (qK aa) hg (R_ne ae.out aa.out (by decide)));replace ae:=aM hp_;replace HB:=aM ((by rw [hw];exact aac (HB.out) bO.out:Below w.heap.size w aW));clear hg hw hp_))
   go_meet
   exact⟨_,_,H',⟨by first|omega|exact Nat.le_refl _⟩,⟨qR ae⟩,⟨qK aa⟩,⟨qB⟩⟩
  (first|rw [aA]|(simp only [aas,aaw];rw [aA])|skip)
  have H':=aM H
  clear H
  go_wp2
  go_meet
  exact⟨_,(ay),H',⟨by first|omega|exact Nat.le_refl _⟩,⟨qR ae⟩,⟨qK aa⟩,⟨qB⟩⟩
 clear bJ
 try clear c1;try clear bq
 obtain⟨kq,aP,HA,dz,au,aa,HB⟩:=hcut
 cases kq with
 | zero=>exact absurd HA.out (by simp [ag4])
 | succ bS =>
  have H:=HA.out
  clear HA
  simp only [ag4] at H
  obtain⟨ak,dK,H⟩:=qE H
  try dsimp only at H
  have H':=aM H
  clear H
  have bT:=jz5 aa
  go_wp2_with (first|((with_reducible refine jc 69 19 ?_);refine jM func69 (alW bS af ag ah ai aj ak _ dK.out) ?_;rintro bU dV ⟨ho0,hb⟩;have bB:=kL ho0;replace au:=kR au hb;replace aa:=kB aa hb;replace HB:=kH hb;clear hb;(try clear ho0)))
  go_loopg [7] bS (fun kq v7 w'=>∃ (aC:List Bool) (av:Int),v7 = iV av/\aa1 (af9 kq aC ak av=some r)/\aa1 (kq<=bS)/\aa1 (Kd.R Kd.bool 4 w' w.heap.size (fun _=>True) bn aC)/\aa1 (Kd.R (Kd.int .i64) 3 w' w.heap.size (fun _=>True) bU ak)/\aa1 (w'.heap[az]?=some (.cells #[iV af,iV ag,iV ah,iV ai,iV aj] 27 (0,0)))/\aa1 (Below w.heap.size w w'))
  case atStart=>exact⟨(aP),(0),qZ,H',⟨Nat.le_refl _⟩,⟨qR au⟩,⟨qR bB⟩,⟨qK aa⟩,⟨qB⟩⟩
  clear H'
  try clear c1;try clear bq;try clear bT
  obtain⟨aC,av,rfl,HA,dA,au,aG,aa,HB⟩:=hrel
  rcases gk with _|k2
  ·exact absurd HA.out (by simp [af9])
  have H:=HA.out
  clear HA
  simp only [af9] at H
  replace H:=jD H;rcases H with ⟨bC,H⟩ | ⟨bC,H⟩
  ·replace H:=jI H;obtain⟨dB,H⟩:=H
   replace H:=jI H;obtain⟨dC,H⟩:=H
   replace H:=jI H;obtain⟨dD,H⟩:=H
   obtain⟨bV,aN⟩:=ky ((aC.set ((rd ak av):Int).toNat true):List Bool)
   replace H:=kv aN H
   have H':=aM H
   clear H
   obtain⟨dL,dM,bW⟩:=R_slice aG.out
   subst bW
   have aX:0<=(av:Int):=qD
   have aY:av < (ak.length:Int):=qD
   obtain⟨dE,bX,bH⟩:=Kd.at_int (R_reads' aG.out).2.2 av aX aY
   cases bX
   replace aX:=eq_true aX
   replace aY:=eq_true aY
   have p28:0<=((rd ak av):Int):=qD
   have bY:((rd ak av):Int) < ((aC.length:Int):Int):=qD
   obtain⟨aQ,bD,bE,bF,bZ,dN,bG⟩:=R_form au.out (by omega)
   (first|cases bE|(injection bE with ea_ en_ ec_;(first|subst ea_|(injection ea_ with ea_;subst ea_));subst ec_;clear en_))
   have cu:=aM bF
   have dO:=aM bG
   clear bF bZ bG
   obtain⟨cz,cB⟩:=R_celln false au.out ((rd ak av):Int) p28 bY
   replace p28:=eq_true p28
   replace bY:=eq_true bY
   have aZ:=R_putg au.out ((rd ak av):Int) true
   go_wp2_with (first|((with_reducible refine aaB (t:=4) (p:=31) rfl ?_);refine aar (t:=4) (p:=31) (v:=?cK) (w1:=(wr.setCell ⟨aQ,((rd ak av):Int).toNat,none⟩ (.bool true))) ?hg ?ho ?hn ?hr ?_;(case ho=>rfl);(case hg=>rfl);(case hn=>rfl);(case hr=>first|(go_simp;done)|(go_simp;rfl));intro bg hw;have hg:wr.grownBy bg (some aQ):=(by rw [hw];exact aZ.2);have hp_:Kd.R Kd.bool 4 bg w.heap.size (fun _=>True) (.slice (some ⟨aQ,0,none⟩) aC.length bD) bV:=(by rw [hw,aN.out];exact aZ.1);clear aZ;replace aG:=aM (R_over' (v:=(.slice (some ⟨aQ,0,none⟩) aC.length bD)) (qR aG) (R_typed au.out) (by decide) hg);replace aa:=aM (aaq (g:=az) (qK aa) hg (R_ne au.out aa.out (by decide)));replace au:=aM hp_;replace HB:=aM ((by rw [hw];exact aac (HB.out) cu.out:Below w.heap.size w bg));clear hg hw hp_))
   go_roundg k2
   case measure=>have:=dz.out;have:=dA.out;omega
   exact⟨_,_,qZ,H',⟨by have:=dz.out;have:=dA.out;omega⟩,⟨qR au⟩,⟨qR aG⟩,⟨qK aa⟩,⟨qB⟩⟩
  obtain rfl:=oJ H
  obtain⟨dP,dQ,cO⟩:=R_slice aG.out
  subst cO
  go_wp2
  go_ret
  exact⟨_,qW,qR au,qB⟩
end Go.Proofs.YtebpplallecogaaGreat.M
namespace Go.Proofs.YtebpplallecogaaGreat.M
open Go.Proofs.Tryz Go.RowKit Go.Proofs.YtebpplallecogaaGreatW.PrintWords Go.Proofs.YtebpplallecogaaGreatW.PrintLast Go.Proofs.YtebpplallecogaaGreatW.PrintMore
attribute [local go_sem] aal aaj aaz aay aae aad aak aai
def aeu:Nat->List Bool->List Bool->Int->Option (Bool)
 | 0,_,_,_=>none
 | k+1,x0,x1,x5=>if x5 < (x0.length:Int) then (if 0<=x5 then (if x5 < (x1.length:Int) then (if ((abJ false x0 x5) != (abJ false x1 x5))=true then (some false) else (aeu k x0 x1 (wrap64 (x5+1)))) else (none)) else (none)) else (some ((x0.length:Int) == (x1.length:Int)))
def SaZ.f (k:Nat) (l0 l1:List Bool):Option (Bool):=aeu k l0 l1 0
theorem SaZ.calls (k:Nat) (A0:Option Addr) (c0:Nat) (l0:List Bool) (A1:Option Addr) (c1:Nat) (l1:List Bool) (r:Bool) (w:World) (hr0:Kd.C Kd.bool w A0 l0.length l0) (hc0:l0.length<=c0) (hr1:Kd.C Kd.bool w A1 l1.length l1) (hc1:l1.length<=c1) (h:SaZ.f k l0 l1=some r) :
  Calls prog 60 #[.slice A0 l0.length c0,.slice A1 l1.length c1] w fun e w'=>e = .returned (.bool r)/\aaD w w':=by
 have aC:=aM hr0
 have aJ:=aM hc0
 clear hr0 hc0
 have HR1:=aM hr1
 have aK:=aM hc1
 clear hr1 hc1
 have H:(aeu k l0 l1 0)=some r:=h
 clear h
 have H':=aM H
 clear H
 go_enter func60,ntmps60
 go_wp2
 repeat (go_quiet (fail);try go_wp2)
 go_loopg [5] k (fun kq v5 w'=>∃ (aa:Int),v5 = iV aa/\aa1 (aeu kq l0 l1 aa=some r)/\aa1 (kq<=k)/\aaD w w')
 case atStart=>exact⟨(0),qZ,H',⟨Nat.le_refl _⟩,by repeat (first|exact aaO _|apply aaD.step)⟩
 clear H'
 try clear c1
 obtain⟨aa,rfl,HA,aD,⟨m1,rfl⟩⟩:=hrel
 rcases gk with _|k1
 ·exact absurd HA.out (by simp [aeu])
 have H:=HA.out
 clear HA
 simp only [aeu] at H
 replace H:=jD H;rcases H with ⟨ay,H⟩ | ⟨ay,H⟩
 ·replace H:=jI H;obtain⟨aG,H⟩:=H
  replace H:=jI H;obtain⟨aH,H⟩:=H
  by_cases c6:((abJ false l0 aa) != (abJ false l1 aa))=true
  ·rw [if_pos c6] at H
   have az:((abJ false l0 aa) != (abJ false l1 aa))=true:=c6
   (try (have aA:decide ((abJ false l0 aa)=(abJ false l1 aa))=false:=by simpa using c6))
   (try (have aB:((abJ false l0 aa) == (abJ false l1 aa))=false:=by simpa using c6))
   (try (have aI:¬ ((abJ false l0 aa)=(abJ false l1 aa)):=by simpa using c6))
   clear c6
   obtain rfl:=oJ H
   have ae:0<=(aa:Int):=qD
   have af:aa < (l0.length:Int):=qD
   obtain⟨av,ak,ai⟩:=Kd.at_bool aC.out aa ae af
   cases ak
   replace ae:=eq_true ae
   replace af:=eq_true af
   have ag:0<=(aa:Int):=qD
   have ah:aa < (l1.length:Int):=qD
   obtain⟨ax,au,aj⟩:=Kd.at_bool HR1.out aa ag ah
   cases au
   replace ag:=eq_true ag
   replace ah:=eq_true ah
   go_wp2
   repeat (go_quiet (fail);try go_wp2)
   go_ret
   exact⟨qZ,qU⟩
  rw [if_neg c6] at H
  have az:((abJ false l0 aa) != (abJ false l1 aa))=false:=by simpa using c6
  (try (have aA:decide ((abJ false l0 aa)=(abJ false l1 aa))=true:=by simpa using c6))
  (try (have aB:((abJ false l0 aa) == (abJ false l1 aa))=true:=by simpa using c6))
  clear c6
  have H':=aM H
  clear H
  have ae:0<=(aa:Int):=qD
  have af:aa < (l0.length:Int):=qD
  obtain⟨av,ak,ai⟩:=Kd.at_bool aC.out aa ae af
  cases ak
  replace ae:=eq_true ae
  replace af:=eq_true af
  have ag:0<=(aa:Int):=qD
  have ah:aa < (l1.length:Int):=qD
  obtain⟨ax,au,aj⟩:=Kd.at_bool HR1.out aa ag ah
  cases au
  replace ag:=eq_true ag
  replace ah:=eq_true ah
  go_wp2
  repeat (go_quiet (fail);try go_wp2)
  go_roundg k1
  case measure=>have:=aD.out;omega
  exact⟨(wrap64 (aa+1)),qZ,H',⟨by have:=aD.out;omega⟩,by repeat (first|exact aaO _|apply aaD.step)⟩
 obtain rfl:=oJ H
 go_wp2
 repeat (go_quiet (fail);try go_wp2)
 go_ret
 exact⟨qZ,qU⟩
end Go.Proofs.YtebpplallecogaaGreat.M
namespace Go.Proofs.YtebpplallecogaaGreat.M
open Go.Proofs.Tryz Go.RowKit Go.Proofs.YtebpplallecogaaGreatW.PrintWords Go.Proofs.YtebpplallecogaaGreatW.PrintLast Go.Proofs.YtebpplallecogaaGreatW.PrintMore Kd
attribute [local go_sem] aal aaj aaz aay aae aad aak aai
def aev:Nat->List S27->List (List Bool)->Bool->Int->Option (Bool × (List (List Bool)))
 | 0,_,_,_,_=>none
 | k+1,x0,x1,x5,x6=>if x6>=0 then (if 0<=x6 then (if x6 < (x0.length:Int) then ((SaW.f k x0 x1 x6).bind fun az=>((am9 k ((aa0 x0 x6).f0) ((aa0 x0 x6).f1) ((aa0 x0 x6).f2) ((aa0 x0 x6).f3) ((aa0 x0 x6).f4) az).bind fun au=>(if x6 < (x1.length:Int) then ((SaZ.f k au (acA x1 x6)).bind fun bM=>(if bM=true then (aev k x0 x1 x5 (wrap64 (x6 - 1))) else (aev k x0 (x1.set (x6:Int).toNat au) true (wrap64 (x6 - 1))))) else (none)))) else (none)) else (none)) else (some (x5,x1))
def SaY.f (k:Nat) (l0:List S27) (l1:List (List Bool)):Option (Bool × (List (List Bool))):=aev k l0 l1 false (wrap64 ((l0.length:Int) - 1))
def anW:Bool × List (List Nat × List Nat):=(true,[([],[]),([],[]),([0,1],[0,1]),([2],[2]),([],[]),([],[]),([],[]),([4,5,6],[4,5,6]),([3,7,7],[3,7]),([8,8,0,1,2,3,4,5,6,7,8],[8])])
def aq8:List Nat:=[0,0,3,7,0,0,0,112,255,511]
theorem ana:acz .any (opsOf f43 5)=anW:=by kernel_rfl
theorem am8:ab9 anW.2 aq8=true:=by kernel_rfl
theorem SaY.calls (k:Nat) (A0:Option Addr) (c0:Nat) (l0:List S27) (aF:Nat->Prop) (aA:Value) (l1:List (List Bool)) (r1:Bool) (r2:List (List Bool)) (w0 w:World) (hB:Below w0.heap.size w0 w) (hr0:∀ W_,Kept w W_ (fun k_=>aF k_)->Kd.C k27 W_ A0 l0.length l0) (hc0:l0.length<=c0) (ho1:Kd.S (Kd.slice 4 Kd.bool) 37 w w0.heap.size aF aA l1) (h:SaY.f k l0 l1=some (r1,r2)) :
  Calls prog 43 #[.slice A0 l0.length c0,aA] w fun e w'=>e = .returned (.bool r1)/\Kd.S (Kd.slice 4 Kd.bool) 37 w' w0.heap.size (fun k_=>(aF k_\/w.heap.size<=k_)) aA r2/\Below w0.heap.size w0 w'/\Kept w w' (fun k_=>aF k_):=by
 have ek:=underlying27
 have aH:=aM hr0
 have eu:=aM hc0
 clear hr0 hc0
 have eB:=aM (show Kd.S (Kd.slice 4 Kd.bool) 37 w w0.heap.size (fun k_=>(aF k_\/w.heap.size<=k_)) aA l1 from S_mono ho1 (fun k_ hk=>(.inl hk)))
 have HK:=aM (acF w (fun k_=>aF k_))
 have HW0:=aM hB.size
 have HB:=aM hB
 clear hB
 have H:=h;unfold SaY.f at H
 clear h
 have H':=aM H
 clear H
 go_enter func43,ntmps43
 go_wp2
 go_loopg [5,6] k (fun kq v5 v6 w'=>∃ (af:List (List Bool)) (bq:Bool) (aa:Int),v5 = .bool bq/\v6 = iV aa/\aa1 (aev kq l0 af bq aa=some (r1,r2))/\aa1 (kq<=k)/\aa1 (Kd.S (Kd.slice 4 Kd.bool) 37 w' w0.heap.size (fun k_=>(aF k_\/w.heap.size<=k_)) aA af)/\aa1 (Kept w w' (fun k_=>aF k_))/\aa1 (Below w0.heap.size w0 w'))
 case atStart=>exact⟨(l1),(false),(wrap64 ((l0.length:Int) - 1)),qZ,qZ,H',⟨Nat.le_refl _⟩,⟨qS eB⟩,⟨qT⟩,⟨qB⟩⟩
 clear H'
 obtain⟨af,bq,aa,rfl,rfl,HA,cz,ae,HK,HB⟩:=hrel
 rcases gk with _|k1
 ·exact absurd HA.out (by simp [aev])
 have H:=HA.out
 clear HA
 simp only [aev] at H
 replace H:=jD H;rcases H with ⟨dn,H⟩ | ⟨dn,H⟩
 ·replace H:=jI H;obtain⟨eD,H⟩:=H
  replace H:=jI H;obtain⟨eF,H⟩:=H
  obtain⟨az,A6,H⟩:=qE H
  try dsimp only at H
  obtain⟨au,A7,H⟩:=qE H
  try dsimp only at H
  replace H:=jI H;obtain⟨eG,H⟩:=H
  obtain⟨bM,A9,H⟩:=qE H
  try dsimp only at H
  have bN:=aM H;clear H
  try go_wp2
  replace ae:=aM (S_drew ae.out)
  replace HK:=aM (Kept.drew HK.out)
  replace HB:=aM (aaf HB.out)
  have ag:0<=(aa:Int):=qD
  have ah:aa < (l0.length:Int):=qD
  obtain⟨ak,dw,aQ,aR,aS,aT,aU⟩:=aaG (C_kept_now aH.out HK.out) aa ag ah
  have cB:=aU
  have cK:=aT
  have cO:=aS
  have df:=aR
  have dh:=aQ
  cases dw
  replace ag:=eq_true ag
  replace ah:=eq_true ah
  obtain⟨dx,aZ,bO⟩:=S_slice ae.out
  (first|subst bO|(injection bO with bP dz bQ;have dA:=bP.symm;have dB:=bQ.symm;clear bP dz bQ;subst dA;subst dB))
  refine abl (n:=10) (S:=fun w'=>w'.cell? (ak.add ((aa).toNat*5))=some (iV ((aa0 l0 aa).f0))/\w'.cell? ⟨(ak.add ((aa).toNat*5)).block,(ak.add ((aa).toNat*5)).off+1,none⟩=some (iV ((aa0 l0 aa).f1))/\w'.cell? ⟨(ak.add ((aa).toNat*5)).block,(ak.add ((aa).toNat*5)).off+2,none⟩=some (iV ((aa0 l0 aa).f2))/\w'.cell? ⟨(ak.add ((aa).toNat*5)).block,(ak.add ((aa).toNat*5)).off+3,none⟩=some (iV ((aa0 l0 aa).f3))/\w'.cell? ⟨(ak.add ((aa).toNat*5)).block,(ak.add ((aa).toNat*5)).off+4,none⟩=some (iV ((aa0 l0 aa).f4))) (ds:=[]) (jb 10 0) (by kernel_rfl) rfl rfl ⟨(abP (aH.out _ (by repeat (first|exact HK.out|apply Kept.alloc|apply Kept.drewN|apply Kept.drew))) aa (of_eq_true ag) (of_eq_true ah)),(abO (aH.out _ (by repeat (first|exact HK.out|apply Kept.alloc|apply Kept.drewN|apply Kept.drew))) aa (of_eq_true ag) (of_eq_true ah)),(abN (aH.out _ (by repeat (first|exact HK.out|apply Kept.alloc|apply Kept.drewN|apply Kept.drew))) aa (of_eq_true ag) (of_eq_true ah)),(abM (aH.out _ (by repeat (first|exact HK.out|apply Kept.alloc|apply Kept.drewN|apply Kept.drew))) aa (of_eq_true ag) (of_eq_true ah)),(abL (aH.out _ (by repeat (first|exact HK.out|apply Kept.alloc|apply Kept.drewN|apply Kept.drew))) aa (of_eq_true ag) (of_eq_true ah))⟩ (fun hHeld=>?_);refine aaL ana am8 (fun HT_ HW_=>?_)
  generalize wr.drew=eY at ae HK HB aQ aR aS aT aU hHeld ⊢
  refine jp 0 15 (jb 10 1) ?_
  refine jp 1 16 (jb 10 3) ?_
  refine jp 2 17 (jb 10 7) ?_
  refine jp 4 19 (jb 10 23) ?_
  refine jp 5 20 (jb 10 55) ?_
  refine jp 6 21 (jb 10 119) ?_
  refine jt 3 18 (jb 10 127) ?_
  refine acK (i:=7) (N:=some 22) (jb 10 255) rfl rfl (aaR HT_.out (by kernel_rfl)) (by decide) (fun K hK=>?_)
  refine abn func38 (by kernel_rfl) rfl #[.slice (some ak) l0.length c0,.slice dx af.length aZ,iV aa] (by rfl) rfl rfl qM ?_
  with_reducible refine (SaW.calls k1 _ _ l0 _ _ af aa az _ ?aB ?aC ?aI ?aJ A6.out).mono ?_
  (case aB=>exact C_kept_now aH.out qT)
  (case aC=>exact eu.out)
  (case aI=>exact kC (S_reads' ae.out).2.2)
  (case aJ=>exact (S_reads' ae.out).2.1)
  rintro e eZ ⟨eH,rfl,ho0,hb⟩
  refine⟨_,rfl,?_⟩
  have ai:=aM (R_lower (R_newM (M:=fun k_=>(aF k_\/w.heap.size<=k_)) ho0 (by first|exact HK.out.1|exact (show Kept w _ (fun k_=>aF k_) from qT).1) (fun k_ h_=>.inr h_)) (aa4 qB))
  replace ae:=aM (S_elder' (qS ae) (R_base ho0) hb)
  replace HK:=kT hb
  replace HB:=kH hb
  (try clear hb)
  (try clear hb2)
  (try clear hk)
  (try clear hi)
  (try clear ho0)
  obtain⟨aK,aL,bR⟩:=R_slice ai.out
  (first|subst bR|(injection bR with bP dz bQ;have dA:=bP.symm;have dB:=bQ.symm;clear bP dz bQ;subst dA;subst dB))
  refine hK.out _ _ ⟨(abP (aH.out _ (by repeat (first|exact HK.out|apply Kept.alloc|apply Kept.drewN|apply Kept.drew))) aa (of_eq_true ag) (of_eq_true ah)),(abO (aH.out _ (by repeat (first|exact HK.out|apply Kept.alloc|apply Kept.drewN|apply Kept.drew))) aa (of_eq_true ag) (of_eq_true ah)),(abN (aH.out _ (by repeat (first|exact HK.out|apply Kept.alloc|apply Kept.drewN|apply Kept.drew))) aa (of_eq_true ag) (of_eq_true ah)),(abM (aH.out _ (by repeat (first|exact HK.out|apply Kept.alloc|apply Kept.drewN|apply Kept.drew))) aa (of_eq_true ag) (of_eq_true ah)),(abL (aH.out _ (by repeat (first|exact HK.out|apply Kept.alloc|apply Kept.drewN|apply Kept.drew))) aa (of_eq_true ag) (of_eq_true ah))⟩ (fun hHeld=>?_)
  clear hK K
  refine aaA (a':=?_) ?_ ?_
  rotate_left
  ·show Act.put _ (some 22) _=_
   simp only [Act.put,List.setIfInBounds_toArray,List.set_cons_zero,List.set_cons_succ,aas,aaw]
   rfl
  refine acK (i:=8) (N:=some 23) (jb 10 511) rfl rfl (aaR HT_.out (by kernel_rfl)) (by decide) (fun K hK=>?_)
  refine abn func59 (by kernel_rfl) rfl #[.agg #[iV ((aa0 l0 aa).f0),iV ((aa0 l0 aa).f1),iV ((aa0 l0 aa).f2),iV ((aa0 l0 aa).f3),iV ((aa0 l0 aa).f4)],.slice aK az.length aL] (by rfl) rfl rfl qM ?_
  with_reducible refine (ama k1 ((aa0 l0 aa).f0) ((aa0 l0 aa).f1) ((aa0 l0 aa).f2) ((aa0 l0 aa).f3) ((aa0 l0 aa).f4) _ _ az au _ ?aB ?aC A7.out).mono ?_
  (case aB=>exact kJ ai)
  (case aC=>exact (kp ai))
  rintro e bu ⟨eO,rfl,ho0,hb⟩
  refine⟨_,rfl,?_⟩
  have aj:=aM (R_lower (R_new' (R_newM (M:=fun k_=>(aF k_\/w.heap.size<=k_)) ho0 (by first|exact HK.out.1|exact (show Kept w _ (fun k_=>aF k_) from qT).1) (fun k_ h_=>.inr h_)) (R_lt (qR ai))) (aa4 qB))
  replace ae:=aM (S_elder' (qS ae) (R_base ho0) hb)
  replace ai:=kO ai ho0 hb
  replace HK:=kT hb
  replace HB:=kH hb
  (try clear hb)
  (try clear hb2)
  (try clear hk)
  (try clear hi)
  (try clear ho0)
  refine hK.out _ _ ⟨(abP (aH.out _ (by repeat (first|exact HK.out|apply Kept.alloc|apply Kept.drewN|apply Kept.drew))) aa (of_eq_true ag) (of_eq_true ah)),(abO (aH.out _ (by repeat (first|exact HK.out|apply Kept.alloc|apply Kept.drewN|apply Kept.drew))) aa (of_eq_true ag) (of_eq_true ah)),(abN (aH.out _ (by repeat (first|exact HK.out|apply Kept.alloc|apply Kept.drewN|apply Kept.drew))) aa (of_eq_true ag) (of_eq_true ah)),(abM (aH.out _ (by repeat (first|exact HK.out|apply Kept.alloc|apply Kept.drewN|apply Kept.drew))) aa (of_eq_true ag) (of_eq_true ah)),(abL (aH.out _ (by repeat (first|exact HK.out|apply Kept.alloc|apply Kept.drewN|apply Kept.drew))) aa (of_eq_true ag) (of_eq_true ah))⟩ (fun hHeld=>?_)
  clear hK K
  refine aaA (a':=?_) ?_ ?_
  rotate_left
  ·show Act.put _ (some 23) _=_
   simp only [Act.put,List.setIfInBounds_toArray,List.set_cons_zero,List.set_cons_succ,aas,aaw]
   rfl
  refine jp 9 7 (jb 10 1023) ?_
  refine abI (ab5 HT_.out (by kernel_rfl)) ?_
  have bv:0<=(aa:Int):=qD
  have bz:aa < (af.length:Int):=qD
  obtain⟨dV,aN,bg,dC,aV,aW,aX⟩:=apm (S_reads' ae.out).2.2 aa bv bz
  cases dC
  obtain⟨dW,bF,bG,bi⟩:=S_get ae.out [] aa bv (by first|exact bz|exact qD|(have e_:=(S_reads' ae.out).1;omega))
  obtain⟨di,rfl,aG⟩:=bG
  have av:=bi 0 _ rfl
  rw [Nat.add_zero,show ((Kd.slice 4 Kd.bool)).sz=1 from rfl,Nat.mul_one] at av
  replace av:=Option.some.inj (av.symm.trans aV)
  rw [av] at aG
  have ax:=aM (show Kd.R Kd.bool 4 _ _ _ _ (acA af aa) from aG)
  clear av aG
  clear bi bF
  have ay:=aM aX
  have aY:=aM aW
  clear aX aW
  replace bv:=eq_true bv
  replace bz:=eq_true bz
  obtain⟨aO,aP,dD⟩:=R_slice aj.out
  subst dD
  have H:=bN.out;clear bN
  replace H:=jB H;rcases H with ⟨rfl,H⟩ | ⟨rfl,H⟩
  ·have H':=aM H
   clear H
   try go_wp2_with (first|((with_reducible refine jc 60 29 ?_);refine jK func60 (SaZ.calls k1 _ _ au _ _ (acA af aa) true _ (kJ aj) (kp aj) (by repeat (first|exact (kC ay.out)|(with_reducible refine C_alloc ?_ _)|(with_reducible refine C_drewN ?_ _)|(with_reducible refine C_drew ?_))) aY.out A9.out) ?_;rintro w' ⟨nd,rfl⟩))
   go_roundg k1
   case measure=>have:=cz.out;omega
   exact⟨(af),(bq),(wrap64 (aa - 1)),qZ,qZ,H',⟨by have:=cz.out;omega⟩,⟨by (with_reducible repeat (first|apply S_alloc|apply S_drewN|apply S_drew));exact S_mono ae.out (fun _ hk=>hk.1.1)⟩,⟨qT⟩,⟨qB⟩⟩
  obtain⟨bS,bn⟩:=ky ((af.set (aa:Int).toNat au):List (List Bool))
  replace H:=kv bn H
  have H':=aM H
  clear H
  try go_wp2_with (first|((with_reducible refine jc 60 29 ?_);refine jK func60 (SaZ.calls k1 _ _ au _ _ (acA af aa) false _ (kJ aj) (kp aj) (by repeat (first|exact (kC ay.out)|(with_reducible refine C_alloc ?_ _)|(with_reducible refine C_drewN ?_ _)|(with_reducible refine C_drew ?_))) aY.out A9.out) ?_;rintro w' ⟨nd,rfl⟩;(try (rw [abm bu];generalize hq_:World.drewN bu _=bu;have dE:=aM (R_drewN ax.out nd);rw [hq_] at dE;have dF:=aM (R_drewN ai.out nd);rw [hq_] at dF;have dG:=aM (R_drewN aj.out nd);rw [hq_] at dG;have dH:=aM (S_drewN ae.out nd);rw [hq_] at dH;have dX:aa1 (Kept w bu (fun k_=>aF k_)):=⟨by rw [<- hq_];exact qT⟩;have dY:aa1 (Below w0.heap.size w0 bu):=⟨by rw [<- hq_];exact qB⟩;have dZ:aa1 (Kd.C Kd.bool bu aN (acA af aa).length (acA af aa)):=⟨by rw [<- hq_];exact (kC ay.out)⟩;clear ax ai aj ae HK HB ay hq_;have ax:=dE;have ai:=dF;have aj:=dG;have ae:=dH;have HK:=dX;have HB:=dY;have ay:=dZ;clear dE dF dG dH dX dY dZ));have dI:0<=(aa:Int):=qD;have dJ:(aa:Int) < ((af.length:Int):Int):=qD;obtain⟨aD,eP,bT,bU,dK,eQ,bV⟩:=S_form ae.out (by omega);(first|cases bT|(injection bT with ea_ en_ ec_;(first|subst ea_|(injection ea_ with ea_;subst ea_));subst ec_;clear en_));have dL:=aM bU;have eT:=aM bV;clear bU dK bV;have dM:=aM (show (aF aD\/w.heap.size<=aD) from ((S_R ae.out).1 _ rfl).1.1);(first|simp only [add_plain] at aV|skip);obtain⟨_,eU,bW,bX,bB,bC,_,_⟩:=S_elem ae.out [] (aa:Int) dI dJ;obtain⟨dN,rfl,dO⟩:=bX;have bH:=bB 0 _ rfl;have bI:=bC 0;(try simp only [show ((Kd.slice 4 Kd.bool)).sz=1 from rfl,Nat.mul_one,Nat.add_zero] at bH);(try simp only [show ((Kd.slice 4 Kd.bool)).sz=1 from rfl,Nat.mul_one,Nat.add_zero] at bI);clear bW bB bC;(try clear bX);replace dI:=eq_true dI;replace dJ:=eq_true dJ;have n_:=aM (S_mono (ok':=(fun k_=>(aF k_\/w.heap.size<=k_)/\some k_≠(.slice aK az.length aL:Value).ownBlock/\some k_≠(.slice aO au.length aP:Value).ownBlock)) ae.out (by first|exact fun k_ hk=>⟨hk.1.1,⟨hk.1.2,hk.2⟩⟩|exact fun k_ hk=>hk));clear ae;have ae:=n_;clear n_;have dP:=aM (show Kd.S (Kd.slice 4 Kd.bool) 37 bu w0.heap.size (fun k_=>((fun k_=>(aF k_\/w.heap.size<=k_)/\some k_≠(.slice aK az.length aL:Value).ownBlock)) k_/\¬ ((fun k_=>some k_=(.slice aO au.length aP:Value).ownBlock)) k_) (.slice (some ⟨aD,0,none⟩) af.length aZ) af from (by (with_reducible repeat (first|apply S_alloc|apply S_drewN|apply S_drew));exact S_mono ae.out (by first|exact fun k_ hk=>⟨⟨hk.1,hk.2.1⟩,fun e_=>hk.2.2 e_⟩|exact fun k_ hk=>hk)));obtain⟨d9,eX,bY,bZ,bD,bE,bJ,cu⟩:=S_elem dP.out [] (aa:Int) (qD) (by have h_:(aa:Int) < ((af.length:Int):Int):=qD;first|exact h_|(have e_:=(S_reads' ae.out).1;omega)|simpa using h_);obtain⟨dQ,rfl,dR⟩:=bZ;have bA:=S_seg cu (qD) (by have h_:(aa:Int) < ((af.length:Int):Int):=qD;first|exact h_|(have e_:=(S_reads' ae.out).1;omega)|simpa using h_) (seg:=[.slice aO au.length aP]) (j:=0) (show 1<=1 from by decide) (x':=au) (M_row (R_mono (R_tight rfl (R_mono (ok':=fun k_=>((fun k_=>(aF k_\/w.heap.size<=k_)/\some k_≠(.slice aK az.length aL:Value).ownBlock)) k_/\k_≠aD) (R_apart' (aj.out) (S_typed ae.out) (by decide)) (by first|exact fun k_ hk=>⟨⟨hk.1.1.1,hk.1.2⟩,fun e_=>(hk.2) (by rw [e_];rfl)⟩|exact fun k_ hk=>⟨⟨hk.1.1,hk.1.2⟩,fun e_=>(hk.2) (by rw [e_];rfl)⟩))) (fun _ h_=>Or.inr (h_)))) (fun _ hk=>hk) (fun k_ hk_=>((R_mono (ok':=fun k_=>((fun k_=>(aF k_\/w.heap.size<=k_)/\some k_≠(.slice aK az.length aL:Value).ownBlock)) k_/\k_≠aD) (R_apart' (aj.out) (S_typed ae.out) (by decide)) (by first|exact fun k_ hk=>⟨⟨hk.1.1.1,hk.1.2⟩,fun e_=>(hk.2) (by rw [e_];rfl)⟩|exact fun k_ hk=>⟨⟨hk.1.1,hk.1.2⟩,fun e_=>(hk.2) (by rw [e_];rfl)⟩))).1 k_ hk_.symm);have bK:=bD 0 _ rfl;(try simp only [show ((Kd.slice 4 Kd.bool)).sz=1 from rfl,Nat.mul_one,Nat.add_zero] at bK);have bL:=bE 0;(try simp only [show ((Kd.slice 4 Kd.bool)).sz=1 from rfl,Nat.mul_one,Nat.add_zero] at bL);clear bY bD bE bJ cu;(try clear bZ);(try simp only [show ((Kd.slice 4 Kd.bool)).sz=1 from rfl,Nat.mul_one,Nat.add_zero] at bA))|((with_reducible refine aaB (t:=37) (p:=34) rfl ?_);refine aar (t:=37) (p:=34) (v:=?dS) (w1:=(bu.setCell ⟨aD,(aa:Int).toNat,none⟩ (.slice aO au.length aP))) ?hg ?ho ?hn ?hr ?_;(case ho=>rfl);(case hg=>rfl);(case hn=>rfl);(case hr=>first|(go_simp;done)|(go_simp;rfl));intro dU hw;have hg:bu.grownBy dU (some aD):=(by rw [hw];exact bA.2);have hp_:Kd.S (Kd.slice 4 Kd.bool) 37 dU w0.heap.size (fun k_=>(aF k_\/w.heap.size<=k_)/\some k_≠(.slice aK az.length aL:Value).ownBlock) (.slice (some ⟨aD,0,none⟩) af.length aZ) bS:=(by rw [hw,bn.out];exact bA.1);clear bA;replace ai:=aM (R_over' (v:=(.slice (some ⟨aD,0,none⟩) af.length aZ)) (qR ai) (S_typed ae.out) (by decide) hg);replace ax:=aM (R_after (v:=(.slice (some ⟨aD,0,none⟩) af.length aZ)) (v1:=(.slice (some ⟨aD,0,none⟩) af.length aZ)) (ok:=(fun k_=>(aF k_\/w.heap.size<=k_)/\some k_≠(.slice aK az.length aL:Value).ownBlock/\some k_≠(.slice aO au.length aP:Value).ownBlock)) (by (with_reducible repeat (first|apply R_alloc|apply R_drewN|apply R_drew));exact R_mono ax.out (fun _ hk=>⟨⟨hk.1.1.1,⟨hk.1.1.2,hk.1.2⟩⟩,hk.2⟩)) hg (.inl rfl));replace HB:=aM ((by rw [hw];exact aac (HB.out) dL.out:Below w0.heap.size w0 dU));replace HK:=aM (abq (S:=(fun k_=>aF k_)) hg qT (fun k_ e_=>((S_R ae.out).1 k_ e_).1));replace ae:=aM hp_;clear aj;clear hg hw hp_))
  go_roundg k1
  case measure=>have:=cz.out;omega
  exact⟨(bS),(true),(wrap64 (aa - 1)),qZ,qZ,H',⟨by have:=cz.out;omega⟩,⟨by (with_reducible repeat (first|apply S_alloc|apply S_drewN|apply S_drew));exact S_mono ae.out (fun _ hk=>hk.1)⟩,⟨qT⟩,⟨qB⟩⟩
 obtain⟨rfl,rfl⟩:=oJ2 H
 go_wp2
 go_ret
 exact⟨qW,qS ae,qB,qT⟩
mutual
def af3:Nat->List S27->List (List Bool)->Int->Option ((List (List Bool)))
 | 0,_,_,_=>none
 | k+1,x0,x3,x4=>if x4 < (x0.length:Int) then (if 12<=281474976710656 then (if x3.length < 5864062014805 then (af3 k x0 (x3 ++ [(List.replicate 12 false)]) (wrap64 (x4+1))) else (none)) else (none)) else (aeo k x0 x3)
def aeo:Nat->List S27->List (List Bool)->Option ((List (List Bool)))
 | 0,_,_=>none
 | k+1,x0,x3=>(SaY.f k x0 x3).bind fun ax=>(if ax.1=true then (aeo k x0 ax.2) else (some ax.2))
end
def Saq.f (k:Nat) (l0:List S27):Option ((List (List Bool))):=(some (([]:List (List Bool)):List (List Bool))).bind fun aD=>((Sag.f k l0).bind fun aI=>(if aI=true then (af3 k l0 aD 0) else (some aD)))
theorem Saq.calls (k:Nat) (A0:Option Addr) (c0:Nat) (l0:List S27) (r:List (List Bool)) (w:World) (hr0:Kd.C k27 w A0 l0.length l0) (hc0:l0.length<=c0) (h:Saq.f k l0=some r) :
  Calls prog 21 #[.slice A0 l0.length c0] w fun e w'=>∃ bA:Value,e = .returned (bA)/\Kd.S (Kd.slice 4 Kd.bool) 37 w' w.heap.size (fun _=>True) bA r/\Below w.heap.size w w':=by
 have aY:=aM hr0
 have aZ:=aM hc0
 clear hr0 hc0
 have HB:=jb_ w
 have H:=h;unfold Saq.f at H
 clear h
 obtain⟨aD,ah⟩:=ky ((([]:List (List Bool))):List (List Bool))
 replace H:=kv ah H
 obtain⟨aI,A2,H⟩:=qE H
 try dsimp only at H
 replace H:=jB H;rcases H with ⟨rfl,H⟩ | ⟨rfl,H⟩
 ·have H':=aM H
  clear H
  go_enter func21,ntmps21
  go_wp2_with (first|((with_reducible refine jd 5 ?_);refine S_lit (Kd.slice 4 Kd.bool) _ 37 ?hg (N:=5) ?hd (xs:=([]:List (List Bool))) (inner:=[]) (ok:=fun _=>True) (okp:=fun _=>True) ?hr ?hp (fun _ hk=>hk) trivial (Below.refl _ _) (Nat.le_refl _) (by simp) ?_;(case hd=>rfl);(case hg=>rfl);(case hr=>first|(go_simp;done)|(go_simp;rfl));(case hp=>exact (aa9 _ _));intro bi w4 aJ hb hg_ hnew_;clear hg_ hnew_;replace aJ:=kr ah aJ;have ae:=aM (S_lower aJ (aa4 qB));replace HB:=kH hb;clear hb aJ)|((with_reducible refine jc 36 7 ?_);refine jK func36 (Sag.calls k _ _ l0 true _ (kb aY HB) aZ.out A2.out) ?_;intro w6 hb;replace ae:=kS ae hb;replace HB:=kH hb;clear hb))
  go_loopg [3,4] k (fun kq v3 v4 w'=>∃ (au:List (List Bool)) (aH:Int),v4 = iV aH/\aa1 (af3 kq l0 au aH=some r)/\aa1 (kq<=k)/\aa1 (Kd.S (Kd.slice 4 Kd.bool) 37 w' w.heap.size (fun _=>True) v3 au)/\aa1 (Below w.heap.size w w'))
  case atStart=>exact⟨(aD),(0),qZ,H',⟨Nat.le_refl _⟩,⟨qS ae⟩,⟨qB⟩⟩
  clear H'
  obtain⟨au,aH,rfl,HA,bg,aa,HB⟩:=hrel
  rcases gk with _|k1
  ·exact absurd HA.out (by simp [af3])
  have H:=HA.out
  clear HA
  simp only [af3] at H
  replace H:=jD H;rcases H with ⟨aK,H⟩ | ⟨aK,H⟩
  ·replace H:=jJ H;obtain⟨bG,bH,H⟩:=H
   obtain⟨aG,aj⟩:=ky ((List.replicate 12 false):List Bool)
   replace H:=kv aj H
   replace H:=jL H;obtain⟨bn,H⟩:=H
   obtain⟨bI,ay⟩:=ky ((au ++ [aG]):List (List Bool))
   replace H:=kv ay H
   have H':=aM H
   clear H
   go_wp2_with (first|((with_reducible refine jd 17 ?_);refine R_make Kd.bool _ 4 rfl (N:=17) rfl 37 _ _ rfl 12 rfl rfl underlying37 (.bool false) 1 akC rfl (by decide) (by omega) false (ok:=fun _=>True) (okp:=fun _=>True) rfl (fun _ hk=>hk) trivial (by omega) (by omega) (Below.refl _ _) (Nat.le_refl _) ?_;intro bJ bK av hb hg_ hnew_;clear hg_ hnew_;replace av:=kr aj av;have ak:=kL av;replace aa:=aM (S_elder' (qS aa) (R_base av) hb);replace HB:=kH hb;clear hb av;obtain⟨aN,aQ,bq⟩:=R_slice ak.out;subst bq)|((with_reducible refine aaa (b:=.append) (xs:=#[.tmp 16,.tmp 18]) rfl ?_);at_builtin;refine S_append (Kd.slice 4 Kd.bool) (w0:=w) w.heap.size rfl (.tmp 16) (.tmp 18) 33 37 (.slice none 0 0) 24 rfl underlying33 apg rfl (by decide) (by omega) u3 au aG [.slice aN aG.length aQ] (fun _=>True) (fun k_=>some k_=(.slice aN aG.length aQ:Value).ownBlock) rfl rfl ?aP (fun k_ hk_=>((R_mono (ok':=fun k_=>((fun _=>True)) k_/\some k_≠(u3:Value).ownBlock) (R_apart' (ak.out) (S_typed aa.out) (by decide)) (fun k_ hk=>⟨trivial,hk.2⟩))).1 k_ hk_.symm) ?aF ?aO ?aB ?aS ?aL ?_;(case aP=>exact M_row (R_mono (R_tight rfl (R_mono (ok':=fun k_=>((fun _=>True)) k_/\some k_≠(u3:Value).ownBlock) (R_apart' (ak.out) (S_typed aa.out) (by decide)) (fun k_ hk=>⟨trivial,hk.2⟩))) (fun _ h_=>h_)));(case aB=>exact qB);(case aF=>exact (fun _ _=>trivial));(case aO=>exact (by (with_reducible repeat (first|apply S_alloc|apply S_drewN|apply S_drew));exact S_mono aa.out (by first|exact fun k_ hk=>⟨trivial,fun e_=>hk.2 e_⟩|exact fun k_ hk=>hk)));(case aS=>exact (aa4 qB));(case aL=>have:=bn.out;omega);intro bL bM ho hb hg hat;rw [<- ay.out] at ho;have aR:=aM ho;replace HB:=aM hb;clear aa ak;clear ho hb hg hat))
   go_roundg k1
   case measure=>have:=bg.out;omega
   exact⟨_,_,qZ,H',⟨by have:=bg.out;omega⟩,⟨qS aR⟩,⟨qB⟩⟩
  have H':=aM H
  clear H
  go_wp2
  go_loopg [] k1 (fun kq w'=>∃ (ai:List (List Bool)),aa1 (aeo kq l0 ai=some r)/\aa1 (kq<=k1)/\aa1 (Kd.S (Kd.slice 4 Kd.bool) 37 w' w.heap.size (fun _=>True) u3 ai)/\aa1 (Below w.heap.size w w'))
  case atStart=>exact⟨(au),H',⟨Nat.le_refl _⟩,⟨qS aa⟩,⟨qB⟩⟩
  clear H'
  try clear aK
  obtain⟨ai,HA,bB,aa,HB⟩:=hrel
  rcases gk with _|k2
  ·exact absurd HA.out (by simp [aeo])
  have H:=HA.out
  clear HA
  simp only [aeo] at H
  obtain⟨⟨bN,aT⟩,bC,H⟩:=qE H
  try dsimp only at H
  replace H:=jB H;rcases H with ⟨rfl,H⟩ | ⟨rfl,H⟩
  ·have H':=aM H
   clear H
   obtain⟨aU,aV,bu⟩:=S_slice aa.out
   subst bu
   go_wp2_with (first|((with_reducible refine jc 43 22 ?_);refine jG func43 #[.slice A0 l0.length c0,.slice aU ai.length aV] ?_;refine (SaY.calls k2 _ _ l0 ?bD (.slice aU ai.length aV) ai true aT w _ ?af ?ag ?az ?aA bC.out).mono ?_;(case aA=>exact S_bound aa.out);(case af=>exact qB);(case ag=>exact C_kept_came acp aY.out qB (fun k_ hs_=>(by first|exact R_base aa.out k_ hs_.symm|exact hs_.2.1)));(case az=>exact aZ.out);rintro e bv ⟨rfl,hy0,hb,hkp⟩;refine⟨_,rfl,?_⟩;replace aa:=aM ((by first|exact S_mono (ok':=fun k_=>True) hy0 (fun k_ h_=>Or.elim h_ (fun h_=>h_.1) (fun h_=>.inr (by first|exact Nat.le_trans HK.out.1 h_|exact Nat.le_trans (aa4 HB.out) h_)))|exact S_mono (ok':=fun k_=>True) hy0 (fun _ _=>trivial)));replace HB:=aM hb;(try clear hb);(try clear hkp);(try clear hy0)))
   go_roundg k2
   case measure=>have:=bg.out;have:=bB.out;omega
   exact⟨_,H',⟨by have:=bg.out;have:=bB.out;omega⟩,⟨qS aa⟩,⟨qB⟩⟩
  obtain rfl:=oJ H
  obtain⟨aW,aX,bz⟩:=S_slice aa.out
  subst bz
  go_wp2_with (first|((with_reducible refine jc 43 22 ?_);refine jG func43 #[.slice A0 l0.length c0,.slice aW ai.length aX] ?_;refine (SaY.calls k2 _ _ l0 ?bE (.slice aW ai.length aX) ai false aT w _ ?af ?ag ?az ?aA bC.out).mono ?_;(case aA=>exact S_bound aa.out);(case af=>exact qB);(case ag=>exact C_kept_came acp aY.out qB (fun k_ hs_=>(by first|exact R_base aa.out k_ hs_.symm|exact hs_.2.1)));(case az=>exact aZ.out);rintro e bv ⟨rfl,hy0,hb,hkp⟩;refine⟨_,rfl,?_⟩;replace aa:=aM ((by first|exact S_mono (ok':=fun k_=>True) hy0 (fun k_ h_=>Or.elim h_ (fun h_=>h_.1) (fun h_=>.inr (by first|exact Nat.le_trans HK.out.1 h_|exact Nat.le_trans (aa4 HB.out) h_)))|exact S_mono (ok':=fun k_=>True) hy0 (fun _ _=>trivial)));replace HB:=aM hb;(try clear hb);(try clear hkp);(try clear hy0)))
  go_ret
  exact⟨_,qW,qS aa,qB⟩
 obtain rfl:=oJ H
 go_enter func21,ntmps21
 go_wp2_with (first|((with_reducible refine jd 5 ?_);refine S_lit (Kd.slice 4 Kd.bool) _ 37 ?hg (N:=5) ?hd (xs:=([]:List (List Bool))) (inner:=[]) (ok:=fun _=>True) (okp:=fun _=>True) ?hr ?hp (fun _ hk=>hk) trivial (Below.refl _ _) (Nat.le_refl _) (by simp) ?_;(case hd=>rfl);(case hg=>rfl);(case hr=>first|(go_simp;done)|(go_simp;rfl));(case hp=>exact (aa9 _ _));intro bi bO aC hb hg_ hnew_;clear hg_ hnew_;replace aC:=kr ah aC;have ae:=aM (S_lower aC (aa4 qB));replace HB:=kH hb;clear hb aC)|((with_reducible refine jc 36 7 ?_);refine jK func36 (Sag.calls k _ _ l0 false _ (kb aY HB) aZ.out A2.out) ?_;intro bP hb;replace ae:=kS ae hb;replace HB:=kH hb;clear hb))
 go_ret
 exact⟨_,qW,qS ae,qB⟩
end Go.Proofs.YtebpplallecogaaGreat.M
namespace Go.Proofs.YtebpplallecogaaGreat.M
open Go.Proofs.Tryz Go.RowKit Go.Proofs.YtebpplallecogaaGreatW.PrintWords Go.Proofs.YtebpplallecogaaGreatW.PrintLast Go.Proofs.YtebpplallecogaaGreatW.PrintMore
attribute [local go_sem] aal aaj aaz aay aae aad aak aai
def ale (ai aa au av ax:Int) (l1:List Bool):Option (Bool):=if ai=1 then (if 0<=aa then (if aa < (l1.length:Int) then (some (!(abJ false l1 aa))) else (none)) else (none)) else (if ai=2 then (if 0<=aa then (if aa < (l1.length:Int) then (some (!(abJ false l1 aa))) else (none)) else (none)) else (if ai=3 then (if 0<=aa then (if aa < (l1.length:Int) then (some (!(abJ false l1 aa))) else (none)) else (none)) else (some false)))
theorem apu {G:Prop} (h:G:=by
  go_enter func37,ntmps37
  go_wp2_with (first|((with_reducible refine jd 2 ?_);refine jY _ 27 ?_;intro aj hg aF ae hb;have ak:=kG hg;replace HB:=kH hb;clear hb hg;have aG:=jz5 ae;have ay:0<=(aa:Int):=qD;have az:aa < (l1.length:Int):=qD;obtain⟨aR,aJ,af⟩:=Kd.at_bool HR1.out aa ay az;cases aJ;replace af:=kx HB af;replace ay:=eq_true ay;replace az:=eq_true az))
  go_ret
  exact⟨qW,qB⟩):G:=h
theorem Sbf.calls (ai aa au av ax:Int) (A1:Option Addr) (c1:Nat) (l1:List Bool) (r:Bool) (w:World) (hr1:Kd.C Kd.bool w A1 l1.length l1) (hc1:l1.length<=c1) (h:ale ai aa au av ax l1=some r) :
  Calls prog 37 #[.agg #[iV ai,iV aa,iV au,iV av,iV ax],.slice A1 l1.length c1] w fun e w'=>e = .returned (.bool r)/\Below w.heap.size w w':=by
 have aX:=underlying27
 have HR1:=aM hr1
 have bi:=aM hc1
 clear hr1 hc1
 have HB:=jb_ w
 have H:=h;unfold ale at H
 clear h
 replace H:=jE H;rcases H with ⟨aK,aL,H⟩ | ⟨c3,aK,aL,H⟩
 ·replace H:=jI H;obtain⟨aY,H⟩:=H
  replace H:=jI H;obtain⟨aZ,H⟩:=H
  obtain rfl:=oJ H
  exact apu
 replace H:=jE H;rcases H with ⟨aN,aO,H⟩ | ⟨c8,aN,aO,H⟩
 ·replace H:=jI H;obtain⟨bg,H⟩:=H
  replace H:=jI H;obtain⟨aS,H⟩:=H
  obtain rfl:=oJ H
  go_enter func37,ntmps37
  go_wp2_with (first|((with_reducible refine jd 2 ?_);refine jY _ 27 ?_;intro aj hg aF ae hb;have ak:=kG hg;replace HB:=kH hb;clear hb hg;have aG:=jz5 ae;have aA:0<=(aa:Int):=qD;have aB:aa < (l1.length:Int):=qD;obtain⟨aT,aP,ag⟩:=Kd.at_bool HR1.out aa aA aB;cases aP;replace ag:=kx HB ag;replace aA:=eq_true aA;replace aB:=eq_true aB))
  go_ret
  exact⟨qW,qB⟩
 replace H:=jE H;rcases H with ⟨aH,aI,H⟩ | ⟨c13,aH,aI,H⟩
 ·replace H:=jI H;obtain⟨aU,H⟩:=H
  replace H:=jI H;obtain⟨aV,H⟩:=H
  obtain rfl:=oJ H
  go_enter func37,ntmps37
  go_wp2_with (first|((with_reducible refine jd 2 ?_);refine jY _ 27 ?_;intro aj hg aF ae hb;have ak:=kG hg;replace HB:=kH hb;clear hb hg;have aG:=jz5 ae;have aC:0<=(aa:Int):=qD;have aD:aa < (l1.length:Int):=qD;obtain⟨aW,aQ,ah⟩:=Kd.at_bool HR1.out aa aC aD;cases aQ;replace ah:=kx HB ah;replace aC:=eq_true aC;replace aD:=eq_true aD))
  go_ret
  exact⟨qW,qB⟩
 obtain rfl:=oJ H
 exact apu
end Go.Proofs.YtebpplallecogaaGreat.M
namespace Go.Proofs.YtebpplallecogaaGreat.M
open Go.Proofs.Tryz Go.RowKit Go.Proofs.YtebpplallecogaaGreatW.PrintWords Go.Proofs.YtebpplallecogaaGreatW.PrintLast Go.Proofs.YtebpplallecogaaGreatW.PrintMore Kd
attribute [local go_sem] aal aaj aaz aay aae aad aak aai
def aep:Nat->List S27->List S27->List (List Bool)->Int->Option ((List S27) × Bool)
 | 0,_,_,_,_=>none
 | k+1,x0,x4,x5,x6=>if x6 < (x0.length:Int) then (if 0<=x6 then ((SaW.f k x0 x5 x6).bind fun aH=>((ale ((aa0 x0 x6).f0) ((aa0 x0 x6).f1) ((aa0 x0 x6).f2) ((aa0 x0 x6).f3) ((aa0 x0 x6).f4) aH).bind fun aU=>(if aU=true then (if x4.length < 3518437208883 then (aep k x0 (x4 ++ [(⟨4,0,0,0,wrap64 (x6+1)⟩:S27)]) x5 (wrap64 (x6+1))) else (none)) else (if x4.length < 3518437208883 then (aep k x0 (x4 ++ [(⟨(aa0 x0 x6).f0,(aa0 x0 x6).f1,(aa0 x0 x6).f2,(aa0 x0 x6).f3,(aa0 x0 x6).f4⟩:S27)]) x5 (wrap64 (x6+1))) else (none))))) else (none)) else (some (x4,true))
def Sak.f (k:Nat) (l0:List S27):Option ((List S27) × Bool):=(some (([]:List S27):List S27)).bind fun aN=>((Sag.f k l0).bind fun aV=>(if aV=true then ((Saq.f k l0).bind fun ax=>(aep k l0 aN ax 0)) else (some (aN,false))))
theorem Sak.calls (k:Nat) (A0:Option Addr) (c0:Nat) (l0 r1:List S27) (r2:Bool) (w:World) (hr0:Kd.C k27 w A0 l0.length l0) (hc0:l0.length<=c0) (h:Sak.f k l0=some (r1,r2)) :
  Calls prog 16 #[.slice A0 l0.length c0] w fun e w'=>∃ bX:Value,e = .returned (.tuple #[bX,.bool r2])/\Kd.R k27 27 w' w.heap.size (fun _=>True) bX r1/\Below w.heap.size w w':=by
 have cB:=underlying27
 have aW:=aM hr0
 have bF:=aM hc0
 clear hr0 hc0
 have HB:=jb_ w
 have H:=h;unfold Sak.f at H
 clear h
 obtain⟨aN,av⟩:=ky ([]:List S27)
 replace H:=kv av H
 obtain⟨aV,A2,H⟩:=qE H
 try dsimp only at H
 replace H:=jB H;rcases H with ⟨rfl,H⟩ | ⟨rfl,H⟩
 ·obtain⟨ax,A4,H⟩:=qE H
  try dsimp only at H
  have H':=aM H
  clear H
  go_enter func16,ntmps16
  go_wp2_with (first|((with_reducible refine jd 8 ?_);refine jV k27 27 ([]:List S27) [] (aa9 _ _) ?_;intro bH w5 aX hb;replace aX:=kr av aX;have au:=kL aX;replace HB:=kH hb;clear hb aX)|((with_reducible refine jc 36 10 ?_);refine jK func36 (Sag.calls k _ _ l0 true _ (kb aW HB) bF.out A2.out) ?_;intro w7 hb;replace au:=kR au hb;replace HB:=kH hb;clear hb)|((with_reducible refine jc 21 14 ?_);refine jM func21 (Saq.calls k _ _ l0 ax _ (kb aW HB) bF.out A4.out) ?_;rintro aY w8 ⟨ho0,hb⟩;have aZ:=aM (S_lower ho0 (aa4 qB));replace au:=kR au hb;replace HB:=kH hb;clear hb;(try clear ho0)))
  go_loopg [4,6] k (fun kq v4 v6 w'=>∃ (ay:List S27) (ae:Int),v6 = iV ae/\aa1 (aep kq l0 ay ax ae=some (r1,r2))/\aa1 (kq<=k)/\aa1 (Kd.R k27 27 w' w.heap.size (fun _=>True) v4 ay)/\aa1 (Kd.S (Kd.slice 4 Kd.bool) 37 w' w.heap.size (fun _=>True) aY ax)/\aa1 (Below w.heap.size w w'))
  case atStart=>exact⟨(aN),(0),qZ,H',⟨Nat.le_refl _⟩,⟨qR au⟩,⟨qS aZ⟩,⟨qB⟩⟩
  clear H'
  obtain⟨ay,ae,rfl,HA,bG,ag,ah,HB⟩:=hrel
  rcases gk with _|k1
  ·exact absurd HA.out (by simp [aep])
  have H:=HA.out
  clear HA
  simp only [aep] at H
  replace H:=jD H;rcases H with ⟨bI,H⟩ | ⟨bI,H⟩
  ·replace H:=jI H;obtain⟨bY,H⟩:=H
   obtain⟨aH,cK,H⟩:=qE H
   try dsimp only at H
   obtain⟨aU,bZ,H⟩:=qE H
   try dsimp only at H
   have aQ:=aM H;clear H
   have aR:0<=(ae:Int):=qD
   have aT:ae < (l0.length:Int):=qD
   obtain⟨bg,bJ,az,aA,aC,aD,aG⟩:=aaG aW.out ae aR aT
   cases bJ
   replace az:=kx HB az
   replace aA:=kx HB aA
   replace aC:=kx HB aC
   replace aD:=kx HB aD
   replace aG:=kx HB aG
   replace aR:=eq_true aR
   replace aT:=eq_true aT
   try go_wp2_with (first|((with_reducible refine jd 7 ?_);refine jY _ 27 ?_;intro aa hg bi af hb;have cu:=kG hg;replace ag:=aM (R_below (R_elderB (qR ag) aa (Nat.le_of_eq hg.symm)) hb);replace ah:=kS ah hb;replace HB:=kH hb;clear hb hg;have cO:=jz5 af))
   have bK:aa1 (Kd.R k27 27 (((((bi.setCell ⟨aa,0,none⟩ (iV ((aa0 l0 ae).f0))).setCell ⟨aa,1,none⟩ (iV ((aa0 l0 ae).f1))).setCell ⟨aa,2,none⟩ (iV ((aa0 l0 ae).f2))).setCell ⟨aa,3,none⟩ (iV ((aa0 l0 ae).f3))).setCell ⟨aa,4,none⟩ (iV ((aa0 l0 ae).f4))) w.heap.size (fun k_=>k_≠aa) u4 ay):=⟨by (with_reducible repeat (first|apply R_alloc|apply R_drewN|apply R_drew));exact R_mono (R_far (p:=⟨aa,4,none⟩) (R_far (p:=⟨aa,3,none⟩) (R_far (p:=⟨aa,2,none⟩) (R_far (p:=⟨aa,1,none⟩) (R_far (p:=⟨aa,0,none⟩) (R_mono ag.out (fun k_ hk=>(⟨hk,hk.2⟩:_/\k_≠aa))) (fun _ hk=>hk.2) (iV ((aa0 l0 ae).f0))) (fun _ hk=>hk.2) (iV ((aa0 l0 ae).f1))) (fun _ hk=>hk.2) (iV ((aa0 l0 ae).f2))) (fun _ hk=>hk.2) (iV ((aa0 l0 ae).f3))) (fun _ hk=>hk.2) (iV ((aa0 l0 ae).f4))) (fun _ hk=>hk.1.2)⟩
   have bL:aa1 (Kd.S (Kd.slice 4 Kd.bool) 37 (((((bi.setCell ⟨aa,0,none⟩ (iV ((aa0 l0 ae).f0))).setCell ⟨aa,1,none⟩ (iV ((aa0 l0 ae).f1))).setCell ⟨aa,2,none⟩ (iV ((aa0 l0 ae).f2))).setCell ⟨aa,3,none⟩ (iV ((aa0 l0 ae).f3))).setCell ⟨aa,4,none⟩ (iV ((aa0 l0 ae).f4))) w.heap.size (fun _=>True) aY ax):=⟨by (with_reducible repeat (first|apply S_alloc|apply S_drewN|apply S_drew));exact S_mono (S_far (p:=⟨aa,4,none⟩) (S_far (p:=⟨aa,3,none⟩) (S_far (p:=⟨aa,2,none⟩) (S_far (p:=⟨aa,1,none⟩) (S_far (p:=⟨aa,0,none⟩) (S_types ah.out af.out (by decide)) (fun _ hk=>hk.2) (iV ((aa0 l0 ae).f0))) (fun _ hk=>hk.2) (iV ((aa0 l0 ae).f1))) (fun _ hk=>hk.2) (iV ((aa0 l0 ae).f2))) (fun _ hk=>hk.2) (iV ((aa0 l0 ae).f3))) (fun _ hk=>hk.2) (iV ((aa0 l0 ae).f4))) (fun _ hk=>trivial)⟩
   have bM:aa1 ((((((bi.setCell ⟨aa,0,none⟩ (iV ((aa0 l0 ae).f0))).setCell ⟨aa,1,none⟩ (iV ((aa0 l0 ae).f1))).setCell ⟨aa,2,none⟩ (iV ((aa0 l0 ae).f2))).setCell ⟨aa,3,none⟩ (iV ((aa0 l0 ae).f3))).setCell ⟨aa,4,none⟩ (iV ((aa0 l0 ae).f4))).heap[aa]?=some (.cells #[iV ((aa0 l0 ae).f0),iV ((aa0 l0 ae).f1),iV ((aa0 l0 ae).f2),iV ((aa0 l0 ae).f3),iV ((aa0 l0 ae).f4)] 27 (0,0))):=⟨qF af⟩
   have bN:aa1 (Below w.heap.size w (((((bi.setCell ⟨aa,0,none⟩ (iV ((aa0 l0 ae).f0))).setCell ⟨aa,1,none⟩ (iV ((aa0 l0 ae).f1))).setCell ⟨aa,2,none⟩ (iV ((aa0 l0 ae).f2))).setCell ⟨aa,3,none⟩ (iV ((aa0 l0 ae).f3))).setCell ⟨aa,4,none⟩ (iV ((aa0 l0 ae).f4)))):=⟨qB⟩
   (try clear ag)
   (try clear ah)
   (try clear af)
   (try clear HB)
   generalize (((((bi.setCell ⟨aa,0,none⟩ (iV ((aa0 l0 ae).f0))).setCell ⟨aa,1,none⟩ (iV ((aa0 l0 ae).f1))).setCell ⟨aa,2,none⟩ (iV ((aa0 l0 ae).f2))).setCell ⟨aa,3,none⟩ (iV ((aa0 l0 ae).f3))).setCell ⟨aa,4,none⟩ (iV ((aa0 l0 ae).f4)))=df at bK bL bM bN ⊢
   have ag:=bK
   have ah:=bL
   have af:=bM
   have HB:=bN
   clear bK bL bM bN
   replace ag:=aM (R_drew ag.out)
   replace ah:=aM (S_drew ah.out)
   replace af:=aM (ab2 af.out)
   replace HB:=aM (aaf HB.out)
   obtain⟨bO,bP,bn⟩:=S_slice ah.out
   (first|subst bn|(injection bn with bq bQ bu;have bR:=bq.symm;have bS:=bu.symm;clear bq bQ bu;subst bR;subst bS))
   refine abl (n:=6) (S:=fun w'=>w'.cell? ⟨aa,0,none⟩=some (iV ((aa0 l0 ae).f0))/\w'.cell? ⟨aa,1,none⟩=some (iV ((aa0 l0 ae).f1))/\w'.cell? ⟨aa,2,none⟩=some (iV ((aa0 l0 ae).f2))/\w'.cell? ⟨aa,3,none⟩=some (iV ((aa0 l0 ae).f3))/\w'.cell? ⟨aa,4,none⟩=some (iV ((aa0 l0 ae).f4))) (ds:=[]) (jb 6 0) (by kernel_rfl) rfl rfl ⟨(aa3 af.out 0).trans rfl,(aa3 af.out 1).trans rfl,(aa3 af.out 2).trans rfl,(aa3 af.out 3).trans rfl,(aa3 af.out 4).trans rfl⟩ (fun hHeld=>?_)
   generalize df.drew=dz at ag ah af HB hHeld ⊢
   refine acZ (i:=1) (N:=some 26) (v:=?_) (a':=?_) (jb 6 2) rfl rfl (by kernel_rfl) (fun _ _ _ h=>h) (Or.inl ⟨by rfl,?_⟩) ?_ ?_
   rotate_left
   ·intro w'
    go_simp
    with_reducible rfl
   rotate_left
   ·simp only [Act.put,List.setIfInBounds_toArray,List.set_cons_zero,List.set_cons_succ,aas,aaw]
    rfl
   refine acZ (i:=2) (N:=some 27) (v:=?_) (a':=?_) (jb 6 6) rfl rfl (by kernel_rfl) (fun _ _ _ h=>h) (Or.inl ⟨by rfl,?_⟩) ?_ ?_
   rotate_left
   ·intro w'
    go_simp
    with_reducible rfl
   rotate_left
   ·simp only [Act.put,List.setIfInBounds_toArray,List.set_cons_zero,List.set_cons_succ,aas,aaw]
    rfl
   refine acZ (i:=3) (N:=some 28) (v:=?_) (a':=?_) (jb 6 14) rfl rfl (by kernel_rfl) (fun _ _ _ h=>h) (Or.inl ⟨by rfl,?_⟩) ?_ ?_
   rotate_left
   ·intro w'
    go_simp
    with_reducible rfl
   rotate_left
   ·simp only [Act.put,List.setIfInBounds_toArray,List.set_cons_zero,List.set_cons_succ,aas,aaw]
    rfl
   refine take_ (i:=0) (N:=some 25) (v:=?_) (a':=?_) (jb 6 15) rfl rfl (by kernel_rfl) (fun _ _ _ h=>h) (Or.inl ⟨by rfl,?_⟩) hHeld ?_ ?_
   rotate_left
   ·rintro w' ⟨s0,s1,s2,s3,s4⟩
    go_simp
    with_reducible rfl
   rotate_left
   ·simp only [Act.put,List.setIfInBounds_toArray,List.set_cons_zero,List.set_cons_succ,aas,aaw]
    rfl
   refine acK (i:=4) (N:=some 29) (jb 6 31) rfl rfl (by kernel_rfl) (by decide) (fun K hK=>?_)
   refine abn func38 (by kernel_rfl) rfl #[.slice (some bg) l0.length c0,.slice bO ax.length bP,iV ae] (by rfl) rfl rfl qM ?_
   with_reducible refine (SaW.calls k1 _ _ l0 _ _ ax ae aH _ ?aj ?ak ?bv ?bz cK.out).mono ?_
   (case aj=>exact kb aW HB)
   (case ak=>exact bF.out)
   (case bv=>exact kC (S_reads' ah.out).2.2)
   (case bz=>exact (S_reads' ah.out).2.1)
   rintro e dA ⟨dh,rfl,ho0,hb⟩
   refine⟨_,rfl,?_⟩
   have ai:=kL ho0
   replace ag:=kR ag hb
   replace ah:=aM (S_elder' (qS ah) (R_base ho0) hb)
   replace af:=kB af hb
   replace HB:=kH hb
   (try clear hb)
   (try clear hb2)
   (try clear hk)
   (try clear hi)
   (try clear ho0)
   obtain⟨bT,bU,bA⟩:=R_slice ai.out
   (first|subst bA|(injection bA with bq bQ bu;have bR:=bq.symm;have bS:=bu.symm;clear bq bQ bu;subst bR;subst bS))
   refine hK.out _ _ ⟨(aa3 af.out 0).trans rfl,(aa3 af.out 1).trans rfl,(aa3 af.out 2).trans rfl,(aa3 af.out 3).trans rfl,(aa3 af.out 4).trans rfl⟩ (fun hHeld=>?_)
   clear hK K
   refine aaA (a':=?_) ?_ ?_
   rotate_left
   ·show Act.put _ (some 29) _=_
    simp only [Act.put,List.setIfInBounds_toArray,List.set_cons_zero,List.set_cons_succ,aas,aaw]
    rfl
   refine acK (i:=5) (N:=some 30) (jb 6 63) rfl rfl (by kernel_rfl) (by decide) (fun K hK=>?_)
   refine abn func37 (by kernel_rfl) rfl #[.agg #[iV ((aa0 l0 ae).f0),iV ((aa0 l0 ae).f1),iV ((aa0 l0 ae).f2),iV ((aa0 l0 ae).f3),iV ((aa0 l0 ae).f4)],.slice bT aH.length bU] (by rfl) rfl rfl qM ?_
   have H:=aQ.out;clear aQ
   replace H:=jB H;rcases H with ⟨rfl,H⟩ | ⟨rfl,H⟩
   ·replace H:=jL H;obtain⟨bB,H⟩:=H
    obtain⟨bV,aI⟩:=ky ((ay ++ [(⟨4,0,0,0,wrap64 (ae+1)⟩:S27)]):List S27)
    replace H:=kv aI H
    have H':=aM H
    clear H
    with_reducible refine (Sbf.calls ((aa0 l0 ae).f0) ((aa0 l0 ae).f1) ((aa0 l0 ae).f2) ((aa0 l0 ae).f3) ((aa0 l0 ae).f4) _ _ aH true _ ?aj ?ak bZ.out).mono ?_
    (case aj=>exact kJ ai)
    (case ak=>exact (kp ai))
    rintro e dB ⟨rfl,hb⟩
    refine⟨_,rfl,?_⟩
    replace ag:=kR ag hb
    replace ah:=kS ah hb
    replace ai:=kR ai hb
    replace af:=kB af hb
    replace HB:=kH hb
    (try clear hb)
    (try clear hb2)
    (try clear hk)
    (try clear hi)
    refine hK.out _ _ ⟨(aa3 af.out 0).trans rfl,(aa3 af.out 1).trans rfl,(aa3 af.out 2).trans rfl,(aa3 af.out 3).trans rfl,(aa3 af.out 4).trans rfl⟩ (fun hHeld=>?_)
    clear hK K
    refine aaA (a':=?_) ?_ ?_
    rotate_left
    ·show Act.put _ (some 30) _=_
     simp only [Act.put,List.setIfInBounds_toArray,List.set_cons_zero,List.set_cons_succ,aas,aaw]
     rfl
    refine abI (by kernel_rfl) ?_
    have di:=jz5 af
    try go_wp2_with (first|((with_reducible refine aaa (b:=.append) (xs:=#[.tmp 34,.tmp 36]) rfl ?_);at_builtin;refine R_append k27 (w0:=w) w.heap.size rfl (.tmp 34) (.tmp 36) 23 27 (.agg #[(iV 0),(iV 0),(iV 0),(iV 0),(iV 0)]) 40 rfl underlying23 aba rfl (by decide) (by omega) u4 ay (⟨4,0,0,0,wrap64 (ae+1)⟩:S27) [iV 4,iV 0,iV 0,iV 0,iV (wrap64 (ae+1))] (fun k_=>k_≠aa) (fun _=>False) rfl (by first|(go_simp;done)|(go_simp;rfl)) ?aP (fun _ hk=>hk.elim) ?aF ?aO ?aB ?aS ?aL ?_;(case aP=>exact aaV _ _ _ (⟨4,0,0,0,wrap64 (ae+1)⟩:S27));(case aB=>exact qB);(case aF=>exact (fun k_ hk=>Kd.freshB (g:=aa) (o:=.cells #[iV 4,iV 0,iV 0,iV 0,iV (wrap64 (ae+1))] 27 (0,0)) (qF af) k_ hk));(case aO=>exact (by (with_reducible repeat (first|apply R_alloc|apply R_drewN|apply R_drew));exact R_mono (R_far (p:=⟨aa,4,none⟩) (R_far (p:=⟨aa,3,none⟩) (R_far (p:=⟨aa,2,none⟩) (R_far (p:=⟨aa,1,none⟩) (R_far (p:=⟨aa,0,none⟩) (R_mono ag.out (fun k_ hk=>(⟨hk,hk⟩:_/\k_≠aa))) (fun _ hk=>hk.2) (iV 4)) (fun _ hk=>hk.2) (iV 0)) (fun _ hk=>hk.2) (iV 0)) (fun _ hk=>hk.2) (iV 0)) (fun _ hk=>hk.2) (iV (wrap64 (ae+1)))) (fun _ hk=>hk.1)));(case aS=>exact (aa4 qB));(case aL=>have:=bB.out;omega);intro dn dC ho hb hg hat;rw [<- aI.out] at ho;have bC:=aM ho;replace ah:=aM (S_over' (by (with_reducible repeat (first|apply S_alloc|apply S_drewN|apply S_drew));exact (S_mono (S_far (p:=⟨aa,4,none⟩) (S_far (p:=⟨aa,3,none⟩) (S_far (p:=⟨aa,2,none⟩) (S_far (p:=⟨aa,1,none⟩) (S_far (p:=⟨aa,0,none⟩) (S_types ah.out af.out (by decide)) (fun _ hk=>hk.2) (iV 4)) (fun _ hk=>hk.2) (iV 0)) (fun _ hk=>hk.2) (iV 0)) (fun _ hk=>hk.2) (iV 0)) (fun _ hk=>hk.2) (iV (wrap64 (ae+1)))) (fun _ h_=>h_.1))) (R_typed (by (with_reducible repeat (first|apply R_alloc|apply R_drewN|apply R_drew));exact (R_mono (R_far (p:=⟨aa,4,none⟩) (R_far (p:=⟨aa,3,none⟩) (R_far (p:=⟨aa,2,none⟩) (R_far (p:=⟨aa,1,none⟩) (R_far (p:=⟨aa,0,none⟩) (R_mono ag.out (fun k_ hk=>(⟨hk,hk⟩:_/\k_≠aa))) (fun _ hk=>hk.2) (iV 4)) (fun _ hk=>hk.2) (iV 0)) (fun _ hk=>hk.2) (iV 0)) (fun _ hk=>hk.2) (iV 0)) (fun _ hk=>hk.2) (iV (wrap64 (ae+1)))) (fun _ h_=>h_.1)))) (by decide) hg);replace ai:=aM (R_over' (by (with_reducible repeat (first|apply R_alloc|apply R_drewN|apply R_drew));exact (R_mono (R_far (p:=⟨aa,4,none⟩) (R_far (p:=⟨aa,3,none⟩) (R_far (p:=⟨aa,2,none⟩) (R_far (p:=⟨aa,1,none⟩) (R_far (p:=⟨aa,0,none⟩) (R_types ai.out af.out (by decide)) (fun _ hk=>hk.2) (iV 4)) (fun _ hk=>hk.2) (iV 0)) (fun _ hk=>hk.2) (iV 0)) (fun _ hk=>hk.2) (iV 0)) (fun _ hk=>hk.2) (iV (wrap64 (ae+1)))) (fun _ h_=>h_.1))) (R_typed (by (with_reducible repeat (first|apply R_alloc|apply R_drewN|apply R_drew));exact (R_mono (R_far (p:=⟨aa,4,none⟩) (R_far (p:=⟨aa,3,none⟩) (R_far (p:=⟨aa,2,none⟩) (R_far (p:=⟨aa,1,none⟩) (R_far (p:=⟨aa,0,none⟩) (R_mono ag.out (fun k_ hk=>(⟨hk,hk⟩:_/\k_≠aa))) (fun _ hk=>hk.2) (iV 4)) (fun _ hk=>hk.2) (iV 0)) (fun _ hk=>hk.2) (iV 0)) (fun _ hk=>hk.2) (iV 0)) (fun _ hk=>hk.2) (iV (wrap64 (ae+1)))) (fun _ h_=>h_.1)))) (by decide) hg);replace af:=aM (aaq (g:=aa) (qF af) hg (R_away ag.out (fun _ hk=>hk)));replace HB:=aM hb;clear ag;clear ho hb hg hat))
    go_roundg k1
    case measure=>have:=bG.out;omega
    exact⟨(bV),(wrap64 (ae+1)),qZ,H',⟨by have:=bG.out;omega⟩,⟨by (with_reducible repeat (first|apply R_alloc|apply R_drewN|apply R_drew));exact R_mono bC.out (fun _ hk=>trivial)⟩,⟨by (with_reducible repeat (first|apply S_alloc|apply S_drewN|apply S_drew));exact S_mono ah.out (fun _ hk=>trivial)⟩,⟨qB⟩⟩
   replace H:=jL H;obtain⟨bD,H⟩:=H
   obtain⟨bW,aJ⟩:=ky ((ay ++ [(⟨(aa0 l0 ae).f0,(aa0 l0 ae).f1,(aa0 l0 ae).f2,(aa0 l0 ae).f3,(aa0 l0 ae).f4⟩:S27)]):List S27)
   replace H:=kv aJ H
   have H':=aM H
   clear H
   with_reducible refine (Sbf.calls ((aa0 l0 ae).f0) ((aa0 l0 ae).f1) ((aa0 l0 ae).f2) ((aa0 l0 ae).f3) ((aa0 l0 ae).f4) _ _ aH false _ ?aj ?ak bZ.out).mono ?_
   (case aj=>exact kJ ai)
   (case ak=>exact (kp ai))
   rintro e dD ⟨rfl,hb⟩
   refine⟨_,rfl,?_⟩
   replace ag:=kR ag hb
   replace ah:=kS ah hb
   replace ai:=kR ai hb
   replace af:=kB af hb
   replace HB:=kH hb
   (try clear hb)
   (try clear hb2)
   (try clear hk)
   (try clear hi)
   refine hK.out _ _ ⟨(aa3 af.out 0).trans rfl,(aa3 af.out 1).trans rfl,(aa3 af.out 2).trans rfl,(aa3 af.out 3).trans rfl,(aa3 af.out 4).trans rfl⟩ (fun hHeld=>?_)
   clear hK K
   refine aaA (a':=?_) ?_ ?_
   rotate_left
   ·show Act.put _ (some 30) _=_
    simp only [Act.put,List.setIfInBounds_toArray,List.set_cons_zero,List.set_cons_succ,aas,aaw]
    rfl
   refine abI (by kernel_rfl) ?_
   have dw:=jz5 af
   try go_wp2_with (first|((with_reducible refine aaa (b:=.append) (xs:=#[.tmp 34,.tmp 36]) rfl ?_);at_builtin;refine R_append k27 (w0:=w) w.heap.size rfl (.tmp 34) (.tmp 36) 23 27 (.agg #[(iV 0),(iV 0),(iV 0),(iV 0),(iV 0)]) 40 rfl underlying23 aba rfl (by decide) (by omega) u4 ay (⟨(aa0 l0 ae).f0,(aa0 l0 ae).f1,(aa0 l0 ae).f2,(aa0 l0 ae).f3,(aa0 l0 ae).f4⟩:S27) [iV ((aa0 l0 ae).f0),iV ((aa0 l0 ae).f1),iV ((aa0 l0 ae).f2),iV ((aa0 l0 ae).f3),iV ((aa0 l0 ae).f4)] (fun k_=>k_≠aa) (fun _=>False) rfl rfl ?aP (fun _ hk=>hk.elim) ?aF ?aO ?aB ?aS ?aL ?_;(case aP=>exact aaV _ _ _ (⟨(aa0 l0 ae).f0,(aa0 l0 ae).f1,(aa0 l0 ae).f2,(aa0 l0 ae).f3,(aa0 l0 ae).f4⟩:S27));(case aB=>exact qB);(case aF=>exact (fun k_ hk=>Kd.freshB (g:=aa) (o:=.cells #[iV ((aa0 l0 ae).f0),iV ((aa0 l0 ae).f1),iV ((aa0 l0 ae).f2),iV ((aa0 l0 ae).f3),iV ((aa0 l0 ae).f4)] 27 (0,0)) (qK af) k_ hk));(case aO=>exact (qR ag));(case aS=>exact (aa4 qB));(case aL=>have:=bD.out;omega);intro dx dE ho hb hg hat;rw [<- aJ.out] at ho;have bE:=aM ho;replace ah:=aM (S_over' (qS ah) (R_typed (qR ag)) (by decide) hg);replace af:=aM (aaq (g:=aa) (qK af) hg (R_away ag.out (fun _ hk=>hk)));replace ai:=aM (R_over' (qR ai) (R_typed (qR ag)) (by decide) hg);replace HB:=aM hb;clear ag;clear ho hb hg hat))
   go_roundg k1
   case measure=>have:=bG.out;omega
   exact⟨(bW),(wrap64 (ae+1)),qZ,H',⟨by have:=bG.out;omega⟩,⟨by (with_reducible repeat (first|apply R_alloc|apply R_drewN|apply R_drew));exact R_mono bE.out (fun _ hk=>trivial)⟩,⟨by (with_reducible repeat (first|apply S_alloc|apply S_drewN|apply S_drew));exact S_mono ah.out (fun _ hk=>trivial)⟩,⟨qB⟩⟩
  obtain⟨rfl,rfl⟩:=oJ2 H
  go_wp2
  go_ret2
  exact⟨_,qW,qR ag,qB⟩
 obtain⟨rfl,rfl⟩:=oJ2 H
 go_enter func16,ntmps16
 go_wp2_with (first|((with_reducible refine jd 8 ?_);refine jV k27 27 ([]:List S27) [] (aa9 _ _) ?_;intro bH dF aK hb;replace aK:=kr av aK;have au:=kL aK;replace HB:=kH hb;clear hb aK)|((with_reducible refine jc 36 10 ?_);refine jK func36 (Sag.calls k _ _ l0 false _ (kb aW HB) bF.out A2.out) ?_;intro dG hb;replace au:=kR au hb;replace HB:=kH hb;clear hb))
 go_ret2
 exact⟨_,qW,qR au,qB⟩
end Go.Proofs.YtebpplallecogaaGreat.M
namespace Go.Proofs.YtebpplallecogaaGreat.M
open Go.Proofs.Tryz Go.RowKit Go.Proofs.YtebpplallecogaaGreatW.PrintWords Go.Proofs.YtebpplallecogaaGreatW.PrintLast Go.Proofs.YtebpplallecogaaGreatW.PrintMore
attribute [local go_sem] aal aaj aaz aay aae aad aak aai
/-- A state of type 71 at block g of W;what its slices lead to came in by w0. -/
def Sab (w0 W:World) (g:Nat) (f0:List Int) (f1:Int):Prop:=∃ A0 c0,W.heap[g]?=some (.cells #[.slice A0 f0.length c0,iV f1] 71 (0,0))/\w0.heap.size<=g/\Kd.C (Kd.int .u8) w0 A0 f0.length f0
theorem Sab.grown {w0 W:World} {g:Nat} {f0:List Int} {f1:Int} {W1:World} {row:Option Nat} (h:Sab w0 W g f0 f1) (hw:W.grownBy W1 row) (hne:some g≠row):Sab w0 W1 g f0 f1:=by
 obtain⟨A0,c0,hb,hg,hr0⟩:=h
 exact⟨A0,c0,aaq hb hw hne,hg,hr0⟩
theorem aiG {w0 W:World} {g:Nat} {f0:List Int} {f1:Int} {α:Type} {d:Kd α} {e base:Nat} {ok:Nat->Prop} {v:Value} {xs:List α} (h:Sab w0 W g f0 f1) (ho:Kd.N d e W base ok v xs) (ht:e≠71):some g≠v.ownBlock:=by
 obtain⟨A0,c0,hb,hg,hr0⟩:=h
 exact Kd.N_ne ho hb ht
theorem Sab.fresh {w0 W:World} {g:Nat} {f0:List Int} {f1:Int} (h:Sab w0 W g f0 f1):∀ k,W.heap.size<=k->k≠g:=by
 obtain⟨A0,c0,hb,hg,hr0⟩:=h
 exact Kd.freshB hb
theorem Sab.below {w0 W:World} {g:Nat} {f0:List Int} {f1:Int} {W1:World} (h:Sab w0 W g f0 f1) (hw:Below W.heap.size W W1):Sab w0 W1 g f0 f1:=h.grown (adE hw none) (by simp)
theorem Sab.alloc {w0 W:World} {g:Nat} {f0:List Int} {f1:Int} (h:Sab w0 W g f0 f1) (o:Obj):Sab w0 (W.alloc o) g f0 f1:=h.below (aaE (Below.refl _ _) o)
theorem Sab.drewN {w0 W:World} {g:Nat} {f0:List Int} {f1:Int} (h:Sab w0 W g f0 f1) (m:Nat):Sab w0 (W.drewN m) g f0 f1:=h
theorem Sab.drew {w0 W:World} {g:Nat} {f0:List Int} {f1:Int} (h:Sab w0 W g f0 f1):Sab w0 W.drew g f0 f1:=h
theorem Sab.at_ {w0 W:World} {g:Nat} {f0:List Int} {f1:Int} {w':World} {m:Nat} (hq:W.drewN m=w') (h:Sab w0 W g f0 f1):Sab w0 w' g f0 f1:=by subst hq;exact Sab.drewN h m
theorem Sab.apart {w0 W:World} {g:Nat} {f0:List Int} {f1:Int} {α:Type} {d:Kd α} {e base:Nat} {ok:Nat->Prop} {v:Value} {xs:List α} (h:Sab w0 W g f0 f1) (ho:d.R e W base ok v xs) (ht:∀ q,q∈e :: d.E->q≠71):d.R e W base (fun k=>ok k/\k≠g) v xs:=by
 obtain⟨A0,c0,hb,hg,hr0⟩:=h
 exact Kd.R_types ho hb ht
theorem ac5 {w0 W:World} {g:Nat} {f0:List Int} {f1:Int} {α:Type} {d:Kd α} {e base:Nat} {ok:Nat->Prop} {v:Value} {xs:List α} (h:Sab w0 W g f0 f1) (ho:d.R e W base ok v xs) (ht:e≠71):some g≠v.ownBlock:=by
 obtain⟨A0,c0,hb,hg,hr0⟩:=h
 exact Kd.R_ne ho hb ht
theorem abt {w0 W:World} {g:Nat} {f0:List Int} {f1:Int} (h:Sab w0 W g f0 f1):g < W.heap.size:=by
 obtain⟨A0,c0,hb,hg,hr0⟩:=h
 exact acC hb
theorem aq6 {w0 W:World} {g:Nat} {f0:List Int} {f1:Int} (h:Sab w0 W g f0 f1):w0.heap.size<=g:=by
 obtain⟨A0,c0,hb,hg,hr0⟩:=h
 exact hg
theorem am7 {w0 W:World} {g:Nat} {f0:List Int} {f1:Int} {p:Addr} (h:Sab w0 W g f0 f1) (hne:g≠p.block) (u:Value):Sab w0 (W.setCell p u) g f0 f1:=by
 obtain⟨A0,c0,hb,hg,hr0⟩:=h
 exact⟨A0,c0,akS hb hne u,hg,hr0⟩
theorem aea {W:World} {g:Nat} {A0:Option Addr} {c0:Nat} {f0:List Int} {f1:Int} (h:W.heap[g]?=some (.cells #[.slice A0 f0.length c0,iV f1] 71 (0,0))):W.cell? ⟨g,0,none⟩=some (.slice A0 f0.length c0):=(aa3 h 0).trans rfl
theorem ae9 {W:World} {g:Nat} {A0:Option Addr} {c0:Nat} {f0:List Int} {f1:Int} (h:W.heap[g]?=some (.cells #[.slice A0 f0.length c0,iV f1] 71 (0,0))):W.cell? ⟨g,1,none⟩=some (iV f1):=(aa3 h 1).trans rfl
theorem am6 {w0 W:World} {g:Nat} {f0:List Int} {f1:Int} (h:Sab w0 W g f0 f1) (x:Int):Sab w0 (W.setCell ⟨g,1,none⟩ (iV x)) g f0 x:=by
 obtain⟨A0,c0,hb,hg,hr0⟩:=h
 exact⟨A0,c0,by simpa using afS hb 1 (iV x),hg,hr0⟩
theorem qI {p q:Prop} (h:aa1 p) (f:p->q:=by intro h_;repeat (first|(with_reducible first|exact h_|apply Sab.alloc|apply Sab.drewN|apply Sab.drew|apply am6|refine am7 ?_ (aa1.out (by assumption)) _)|exact h_)):q:=f h.out
theorem qBI {B:Nat} {w W:World} (h:Below B w W:=by repeat (first|(with_reducible first|exact HB.out|apply aaE|apply aat|apply aaf|refine aac ?_ (aq6 (aa1.out (by assumption))))|exact HB.out)):Below B w W:=h
def aeX:Nat->Int->Bool->List Int->Int->Option (Int × Int)
 | 0,_,_,_,_=>none
 | k+1,x1,x24,x1000,ae=>if x24=true then (some (0,ae)) else (if (wrap64 (ae - 1)) < (x1000.length:Int) then (if 0<=(wrap64 (ae - 1)) then (if x1=0 then (none) else (some (Int.tmod (wrap64 (rd x1000 (wrap64 (ae - 1)))) x1,ae))) else (none)) else (if (x1000.length:Int)=0 then (none) else (if 0<=(Int.tmod (wrap64 (ae - 1)) (x1000.length:Int)) then (if (Int.tmod (wrap64 (ae - 1)) (x1000.length:Int)) < (x1000.length:Int) then (if 0<=(Int.tmod (wrap64 ((wrap64 ((wrap64 (ae - 1))*7))+3)) (x1000.length:Int)) then (if (Int.tmod (wrap64 ((wrap64 ((wrap64 (ae - 1))*7))+3)) (x1000.length:Int)) < (x1000.length:Int) then (if x1=0 then (none) else (some (Int.tmod (Go.bits .xor .i64 (wrap64 ((wrap64 ((wrap64 ((wrap64 ((wrap64 (rd x1000 (Int.tmod (wrap64 (ae - 1)) (x1000.length:Int))))*131))+(wrap64 ((wrap64 (rd x1000 (Int.tmod (wrap64 ((wrap64 ((wrap64 (ae - 1))*7))+3)) (x1000.length:Int))))*1117))))+(wrap64 ((wrap64 (ae - 1))*29))))+(wrap64 ((wrap64 (Int.tdiv (wrap64 (ae - 1)) (x1000.length:Int)))*53)))) (wrap64 (Int.tdiv (wrap64 ((wrap64 ((wrap64 ((wrap64 ((wrap64 (rd x1000 (Int.tmod (wrap64 (ae - 1)) (x1000.length:Int))))*131))+(wrap64 ((wrap64 (rd x1000 (Int.tmod (wrap64 ((wrap64 ((wrap64 (ae - 1))*7))+3)) (x1000.length:Int))))*1117))))+(wrap64 ((wrap64 (ae - 1))*29))))+(wrap64 ((wrap64 (Int.tdiv (wrap64 (ae - 1)) (x1000.length:Int)))*53)))) 64))) x1,ae))) else (none)) else (none)) else (none)) else (none))))
def aaZ (k:Nat) (aa:List Int) (af a1:Int):Option (Int × Int):=if a1 < 1 then (aeX k a1 true aa (wrap64 (af+1))) else (aeX k a1 ((aa.length:Int) == 0) aa (wrap64 (af+1)))
theorem aab (k g:Nat) (aa:List Int) (af a1 r1 r2:Int) (w0 w:World) (hI:Sab w0 w g aa af) (hB:Below w0.heap.size w0 w) (h:aaZ k aa af a1=some (r1,r2)) :
  Calls prog 52 #[.pointer (some ⟨g,0,none⟩),iV a1] w fun e w'=>e = .returned (iV r1)/\Sab w0 w' g aa r2/\Below w0.heap.size w0 w'/\aa6 w w' g none:=by
 have HI0:=aM hI
 have HK:=aM (aaJ w g none)
 have HL:=aM hB.size
 clear hI
 have HW0:=aM hB.size
 have HB:=aM hB
 clear hB
 have H:=h;unfold aaZ at H
 clear h
 have aY:=aM H
 clear H
 obtain⟨aZ,bg,aD,bi,bn⟩:=HI0.out
 have bY:=aea aD
 have bZ:=ae9 aD
 have cu:=aa7 aD 1
 clear aD bi
 go_enter func52,ntmps52
 go_upto_region 2 with (fail)
 repeat (go_quiet (fail);go_upto_region 2 with (fail))
 go_cut [24] (fun v24 wc=>∃ (kq:Nat) (ay:Bool),v24 = .bool ay/\aa1 (aeX kq a1 ay aa (wrap64 (af+1))=some (r1,r2))/\aa1 (kq<=k)/\aa1 (Sab w0 wc g aa (wrap64 (af+1)))/\aa1 (aa6 w wc g none)/\aa1 (Below w0.heap.size w0 wc))
 case first =>
  have H:=aY.out
  clear aY
  replace H:=jD H;rcases H with ⟨az,H⟩ | ⟨az,H⟩
  ·(first|rw [az]|(simp only [aas,aaw];rw [az])|skip)
   have H':=aM H
   clear H
   go_wp2
   repeat (go_quiet (fail);try go_wp2)
   go_meet
   exact⟨_,(true),qZ,H',⟨by first|omega|exact Nat.le_refl _⟩,⟨qI HI0⟩,⟨qH⟩,⟨qBI⟩⟩
  (first|rw [az]|(simp only [aas,aaw];rw [az])|skip)
  have H':=aM H
  clear H
  obtain⟨bq,bu,aF,bv,bz⟩:=HI0.out
  have cz:=aea aF
  have cB:=ae9 aF
  have cK:=aa7 aF 1
  clear aF bv
  go_wp2
  repeat (go_quiet (fail);try go_wp2)
  go_meet
  exact⟨_,(((aa.length:Int) == 0)),qZ,H',⟨by first|omega|exact Nat.le_refl _⟩,⟨qI HI0⟩,⟨qH⟩,⟨qBI⟩⟩
 clear aY
 obtain⟨kq,ay,rfl,HA,HJ2,HI0,HK,HB⟩:=hcut
 cases kq with
 | zero=>exact absurd HA.out (by simp [aeX])
 | succ cO =>
  have H:=HA.out
  clear HA
  simp only [aeX] at H
  replace H:=jB H;rcases H with ⟨rfl,H⟩ | ⟨rfl,H⟩
  ·obtain⟨rfl,rfl⟩:=oJ2 H
   go_wp2
   repeat (go_quiet (fail);try go_wp2)
   go_ret
   exact⟨qW,qI HI0,qBI,qH⟩
  replace H:=jD H;rcases H with ⟨aP,H⟩ | ⟨aP,H⟩
  ·obtain⟨aO,aA⟩:∃ j_:Int,(wrap64 ((wrap64 (af+1)) - 1))=j_:=⟨_,rfl⟩
   replace H:(if 0<=(aO) then (if a1=0 then (none) else (some (Int.tmod (wrap64 (rd aa (aO))) a1,(wrap64 (af+1))))) else (none))=some (r1,r2):=by first|(rw [aA] at H;exact H)|(simp only [aA] at H ⊢;exact H)
   (try rw [aA] at aP)
   have bD:(IntKind.i64.wrap ((wrap64 (af+1)) - 1))=aO:=(aas _).trans aA
   replace H:=jI H;obtain⟨bE,H⟩:=H
   by_cases c11:a1=0
   ·rw [if_pos c11] at H
    exact absurd H (by simp)
   rw [if_neg c11] at H
   have bF:(a1 == 0)=false:=beq_eq_false_iff_ne.mpr c11
   have bG:(a1 != 0)=true:=bne_iff_ne.mpr c11
   obtain⟨rfl,rfl⟩:=oJ2 H
   obtain⟨aU,aV,ai,aQ,aG⟩:=HI0.out
   have bH:=aea ai
   have bI:=ae9 ai
   have bJ:=aa7 ai 1
   clear ai aQ
   have aH:0<=((aO):Int):=qD
   have aI:(aO) < (aa.length:Int):=qD
   obtain⟨bK,bA,aj⟩:=Kd.at_int aG (aO) aH aI
   cases bA
   replace aj:=abo HB.out aj
   replace aH:=eq_true aH
   replace aI:=eq_true aI
   go_wp2
   repeat (go_quiet (fail);try go_wp2)
   go_ret
   exact⟨by first|rfl|(simp [aan,aam] <;> rfl)|(simp only [<- aA];first|rfl|(simp [aan,aam] <;> rfl))|(simp [*,aan,aam] <;> rfl),qI HI0,qBI,qH⟩
  by_cases c13:(aa.length:Int)=0
  ·rw [if_pos c13] at H
   exact absurd H (by simp)
  rw [if_neg c13] at H
  have bL:((aa.length:Int) == 0)=false:=beq_eq_false_iff_ne.mpr c13
  have bM:((aa.length:Int) != 0)=true:=bne_iff_ne.mpr c13
  have bN:¬ (aa=[]):=fun h_=>c13 (by rw [h_];rfl)
  obtain⟨ag,aB⟩:∃ j_:Int,(Int.tmod (wrap64 ((wrap64 (af+1)) - 1)) (aa.length:Int))=j_:=⟨_,rfl⟩
  replace H:(if 0<=(ag) then (if (ag) < (aa.length:Int) then (if 0<=(Int.tmod (wrap64 ((wrap64 ((wrap64 ((wrap64 (af+1)) - 1))*7))+3)) (aa.length:Int)) then (if (Int.tmod (wrap64 ((wrap64 ((wrap64 ((wrap64 (af+1)) - 1))*7))+3)) (aa.length:Int)) < (aa.length:Int) then (if a1=0 then (none) else (some (Int.tmod (Go.bits .xor .i64 (wrap64 ((wrap64 ((wrap64 ((wrap64 ((wrap64 (rd aa (ag)))*131))+(wrap64 ((wrap64 (rd aa (Int.tmod (wrap64 ((wrap64 ((wrap64 ((wrap64 (af+1)) - 1))*7))+3)) (aa.length:Int))))*1117))))+(wrap64 ((wrap64 ((wrap64 (af+1)) - 1))*29))))+(wrap64 ((wrap64 (Int.tdiv (wrap64 ((wrap64 (af+1)) - 1)) (aa.length:Int)))*53)))) (wrap64 (Int.tdiv (wrap64 ((wrap64 ((wrap64 ((wrap64 ((wrap64 (rd aa (ag)))*131))+(wrap64 ((wrap64 (rd aa (Int.tmod (wrap64 ((wrap64 ((wrap64 ((wrap64 (af+1)) - 1))*7))+3)) (aa.length:Int))))*1117))))+(wrap64 ((wrap64 ((wrap64 (af+1)) - 1))*29))))+(wrap64 ((wrap64 (Int.tdiv (wrap64 ((wrap64 (af+1)) - 1)) (aa.length:Int)))*53)))) 64))) a1,(wrap64 (af+1))))) else (none)) else (none)) else (none)) else (none))=some (r1,r2):=by first|(rw [aB] at H;exact H)|(simp only [aB] at H ⊢;exact H)
  replace H:=jI H;obtain⟨bO,H⟩:=H
  replace H:=jI H;obtain⟨bP,H⟩:=H
  obtain⟨ah,aC⟩:∃ j_:Int,(Int.tmod (wrap64 ((wrap64 ((wrap64 ((wrap64 (af+1)) - 1))*7))+3)) (aa.length:Int))=j_:=⟨_,rfl⟩
  replace H:(if 0<=(ah) then (if (ah) < (aa.length:Int) then (if a1=0 then (none) else (some (Int.tmod (Go.bits .xor .i64 (wrap64 ((wrap64 ((wrap64 ((wrap64 ((wrap64 (rd aa (ag)))*131))+(wrap64 ((wrap64 (rd aa (ah)))*1117))))+(wrap64 ((wrap64 ((wrap64 (af+1)) - 1))*29))))+(wrap64 ((wrap64 (Int.tdiv (wrap64 ((wrap64 (af+1)) - 1)) (aa.length:Int)))*53)))) (wrap64 (Int.tdiv (wrap64 ((wrap64 ((wrap64 ((wrap64 ((wrap64 (rd aa (ag)))*131))+(wrap64 ((wrap64 (rd aa (ah)))*1117))))+(wrap64 ((wrap64 ((wrap64 (af+1)) - 1))*29))))+(wrap64 ((wrap64 (Int.tdiv (wrap64 ((wrap64 (af+1)) - 1)) (aa.length:Int)))*53)))) 64))) a1,(wrap64 (af+1))))) else (none)) else (none))=some (r1,r2):=by first|(rw [aC] at H;exact H)|(simp only [aC] at H ⊢;exact H)
  replace H:=jI H;obtain⟨bQ,H⟩:=H
  replace H:=jI H;obtain⟨bR,H⟩:=H
  by_cases c20:a1=0
  ·rw [if_pos c20] at H
   exact absurd H (by simp)
  rw [if_neg c20] at H
  have bS:(a1 == 0)=false:=beq_eq_false_iff_ne.mpr c20
  have bT:(a1 != 0)=true:=bne_iff_ne.mpr c20
  obtain⟨rfl,rfl⟩:=oJ2 H
  obtain⟨aW,aX,ak,aR,au⟩:=HI0.out
  have bU:=aea ak
  have bV:=ae9 ak
  have bW:=aa7 ak 1
  clear ak aR
  have aJ:0<=((ag):Int):=qD
  have aK:(ag) < (aa.length:Int):=qD
  obtain⟨aS,bB,av⟩:=Kd.at_int au (ag) aJ aK
  cases bB
  replace av:=abo HB.out av
  replace aJ:=eq_true aJ
  replace aK:=eq_true aK
  have aL:0<=((ah):Int):=qD
  have aN:(ah) < (aa.length:Int):=qD
  obtain⟨aT,bC,ax⟩:=Kd.at_int au (ah) aL aN
  obtain rfl:aS=aT:=(by injection bC)
  replace ax:=abo HB.out ax
  replace aL:=eq_true aL
  replace aN:=eq_true aN
  go_wp2
  repeat (go_quiet (fail);try go_wp2)
  go_ret
  exact⟨by first|rfl|(simp [aan,aam] <;> rfl)|(simp only [<- aB,<- aC];first|rfl|(simp [aan,aam] <;> rfl))|(simp [*,aan,aam] <;> rfl),qI HI0,qBI,qH⟩
def ael (k:Nat) (aa:List Int) (ae:Int):Option (Int × Int):=(aaZ k aa ae 6).bind fun af=>(some (af.1,af.2))
theorem abD (k g:Nat) (aa:List Int) (ae r1 r2:Int) (w0 w:World) (hI:Sab w0 w g aa ae) (hB:Below w0.heap.size w0 w) (h:ael k aa ae=some (r1,r2)) :
  Calls prog 77 #[.pointer (some ⟨g,0,none⟩)] w fun e w'=>e = .returned (iV r1)/\Sab w0 w' g aa r2/\Below w0.heap.size w0 w'/\aa6 w w' g none:=by
 have HI0:=aM hI
 have HK:=aM (aaJ w g none)
 have HL:=aM hB.size
 clear hI
 have HW0:=aM hB.size
 have HB:=aM hB
 clear hB
 have H:=h;unfold ael at H
 clear h
 obtain⟨⟨ai,t105⟩,A2,H⟩:=qE H
 try dsimp only at H
 obtain⟨rfl,rfl⟩:=oJ2 H
 go_enter func77,ntmps77
 go_wp2_with (first|((with_reducible refine jc 52 4 ?_);refine jK func52 (aab k g aa ae 6 ai t105 w0 _ (qI HI0) qB A2.out) ?_;rintro w3 ⟨hi,hb,hk⟩;replace HK:=kI hk;replace HB:=aM hb;replace HI0:=aM hi;clear hb hk hi))
 go_ret
 exact⟨qW,qI HI0,qB,qH⟩
def aeQ (a0:Int):Option (Int):=if (Int.tmod a0 4294967296) > 2147483647 then (some (wrap64 ((Int.tmod a0 4294967296) - 4294967296))) else (if (Int.tmod a0 4294967296) < (-2147483648) then (some (wrap64 ((Int.tmod a0 4294967296)+4294967296))) else (some (Int.tmod a0 4294967296)))
theorem SaA.calls (a0 r:Int) (w:World) (h:aeQ a0=some r) :
  Calls prog 87 #[iV a0] w fun e w'=>e = .returned (iV r)/\aaD w w':=by
 have H:=h;unfold aeQ at H
 clear h
 replace H:=jD H;rcases H with ⟨aa,H⟩ | ⟨aa,H⟩
 ·obtain rfl:=oJ H
  go_enter func87,ntmps87
  go_wp2
  go_ret
  exact⟨qZ,qU⟩
 replace H:=jD H;rcases H with ⟨ae,H⟩ | ⟨ae,H⟩
 ·obtain rfl:=oJ H
  go_enter func87,ntmps87
  go_wp2
  go_ret
  exact⟨qZ,qU⟩
 obtain rfl:=oJ H
 go_enter func87,ntmps87
 go_wp2
 go_ret
 exact⟨qZ,qU⟩
def al3 (k:Nat) (af:List Int) (ak:Int):Option (Int × Int):=(aaZ k af ak 6).bind fun ag=>(if ag.1=0 then ((some (([(-2147483648),2147483647,(-1),0,1,(-2147483647),65536,(-65536)]:List Int):List Int)).bind fun av=>((aaZ k af ag.2 8).bind fun ah=>(if 0<=ah.1 then (if ah.1 < (av.length:Int) then (some (rd av ah.1,ah.2)) else (none)) else (none)))) else (if ag.1=1 then ((aaZ k af ag.2 256).bind fun ay=>((aaZ k af ay.2 256).bind fun az=>((aaZ k af az.2 256).bind fun aA=>((aaZ k af aA.2 200).bind fun aB=>((aeQ (wrap64 ((wrap64 ((wrap64 ((wrap64 (ay.1*65536))+(wrap64 (az.1*256))))+aA.1))*(wrap64 (1+aB.1))))).bind fun aF=>(some (aF,aB.2))))))) else (if ag.1=2 then ((aaZ k af ag.2 200).bind fun aC=>(some (wrap64 (-aC.1),aC.2))) else ((aaZ k af ag.2 20).bind fun aD=>(some (aD.1,aD.2))))))
theorem amU {G:Prop} (h:G:=by
  go_enter func78,ntmps78
  go_wp2_with (first|((with_reducible refine jc 52 4 ?_);refine jK func52 (aab k g af ak 6 aS t107 w0 _ (qI HI0) qB A2.out) ?_;rintro bq ⟨hi,hb,hk⟩;replace HK:=kI hk;replace HB:=aM hb;replace HI0:=aM hi;clear hb hk hi)|((with_reducible refine jd 7 ?_);refine jV (Kd.int .i64) 3 ([(-2147483648),2147483647,(-1),0,1,(-2147483647),65536,(-65536)]:List Int) [iV (-2147483648),iV 2147483647,iV (-1),iV 0,iV 1,iV (-2147483647),iV 65536,iV (-65536)] (aax.one (show Kd.M (Kd.int .i64) _ _ _ (-2147483648) [iV (-2147483648)] from rfl) (aax.one (show Kd.M (Kd.int .i64) _ _ _ 2147483647 [iV 2147483647] from rfl) (aax.one (show Kd.M (Kd.int .i64) _ _ _ (-1) [iV (-1)] from rfl) (aax.one (show Kd.M (Kd.int .i64) _ _ _ 0 [iV 0] from rfl) (aax.one (show Kd.M (Kd.int .i64) _ _ _ 1 [iV 1] from rfl) (aax.one (show Kd.M (Kd.int .i64) _ _ _ (-2147483647) [iV (-2147483647)] from rfl) (aax.one (show Kd.M (Kd.int .i64) _ _ _ 65536 [iV 65536] from rfl) (aax.one (show Kd.M (Kd.int .i64) _ _ _ (-65536) [iV (-65536)] from rfl) (aa9 _ _))))))))) ?_;intro v109 bu au hb;replace au:=kr ai au;have aj:=aM (Kd.R_lower au kU);replace HI0:=aM (Sab.below (qI HI0) hb);replace HK:=kY hb;replace HB:=kH hb;clear hb au)|((with_reducible refine jc 52 9 ?_);refine jK func52 (aab k g af t107 8 ax aT w0 _ (qI HI0) qB A4.out) ?_;rintro bv ⟨hi,hb,hk⟩;replace aj:=aM (Kd.R_mono (Kd.R_keep (Sab.apart (show Sab w0 _ g af t107 from qI HI0) (qR aj) (by decide)) hk (fun _ h=>h.2)) (fun _ h=>h.1));replace HK:=kI hk;replace HB:=aM hb;replace HI0:=aM hi;clear hb hk hi;obtain⟨bz,bA,aU⟩:=Kd.R_slice aj.out;subst aU;have aG:0<=(ax:Int):=qD;have aH:ax < (av.length:Int):=qD;obtain⟨bn,aV,aR⟩:=Kd.at_int (Kd.R_reads' aj.out).2.2 ax aG aH;cases aV;replace aG:=eq_true aG;replace aH:=eq_true aH)|((with_reducible refine jc 52 15 ?_);refine jK func52 (aab k g af t107 256 aI aL w0 _ (qI HI0) qB bB.out) ?_;rintro bC ⟨hi,hb,hk⟩;replace HK:=kI hk;replace HB:=aM hb;replace HI0:=aM hi;clear hb hk hi)|((with_reducible refine jc 52 18 ?_);refine jK func52 (aab k g af aL 256 t116 t117 w0 _ (qI HI0) qB bD.out) ?_;rintro bE ⟨hi,hb,hk⟩;replace HK:=kI hk;replace HB:=aM hb;replace HI0:=aM hi;clear hb hk hi)|((with_reducible refine jc 52 22 ?_);refine jK func52 (aab k g af t117 256 aJ t119 w0 _ (qI HI0) qB bF.out) ?_;rintro bG ⟨hi,hb,hk⟩;replace HK:=kI hk;replace HB:=aM hb;replace HI0:=aM hi;clear hb hk hi)|((with_reducible refine jc 52 25 ?_);refine jK func52 (aab k g af t119 200 aK aW w0 _ (qI HI0) qB bH.out) ?_;rintro bI ⟨hi,hb,hk⟩;replace HK:=kI hk;replace HB:=aM hb;replace HI0:=aM hi;clear hb hk hi)|((with_reducible refine jc 87 28 ?_);refine jK func87 (SaA.calls (wrap64 ((wrap64 ((wrap64 ((wrap64 (aI*65536))+(wrap64 (t116*256))))+aJ))*(wrap64 (1+aK)))) aF _ bJ.out) ?_;rintro w' ⟨nd,rfl⟩)|((with_reducible refine jc 52 32 ?_);refine jK func52 (aab k g af t107 200 aX t124 w0 _ (qI HI0) qB bK.out) ?_;rintro bL ⟨hi,hb,hk⟩;replace HK:=kI hk;replace HB:=aM hb;replace HI0:=aM hi;clear hb hk hi)|((with_reducible refine jc 52 35 ?_);refine jK func52 (aab k g af t107 20 aY aZ w0 _ (qI HI0) qB bM.out) ?_;rintro bN ⟨hi,hb,hk⟩;replace HK:=kI hk;replace HB:=aM hb;replace HI0:=aM hi;clear hb hk hi))
  go_ret
  exact⟨qW,qI HI0,qB,qH⟩):G:=h
theorem al4 (k g:Nat) (af:List Int) (ak r1 r2:Int) (w0 w:World) (hI:Sab w0 w g af ak) (hB:Below w0.heap.size w0 w) (h:al3 k af ak=some (r1,r2)) :
  Calls prog 78 #[.pointer (some ⟨g,0,none⟩)] w fun e w'=>e = .returned (iV r1)/\Sab w0 w' g af r2/\Below w0.heap.size w0 w'/\aa6 w w' g none:=by
 have HI0:=aM hI
 have HK:=aM (aaJ w g none)
 have HL:=aM hB.size
 clear hI
 have HW0:=aM hB.size
 have HB:=aM hB
 clear hB
 have H:=h;unfold al3 at H
 clear h
 obtain⟨⟨aS,t107⟩,A2,H⟩:=qE H
 try dsimp only at H
 replace H:=jE H;rcases H with ⟨bg,bi,H⟩ | ⟨c3,bg,bi,H⟩
 ·obtain⟨av,ai⟩:=ky ((([(-2147483648),2147483647,(-1),0,1,(-2147483647),65536,(-65536)]:List Int)):List Int)
  replace H:=kv ai H
  obtain⟨⟨ax,aT⟩,A4,H⟩:=qE H
  try dsimp only at H
  replace H:=jI H;obtain⟨bO,H⟩:=H
  replace H:=jI H;obtain⟨bP,H⟩:=H
  obtain⟨rfl,rfl⟩:=oJ2 H
  exact amU
 replace H:=jE H;rcases H with ⟨aN,aO,H⟩ | ⟨c12,aN,aO,H⟩
 ·obtain⟨⟨aI,aL⟩,bB,H⟩:=qE H
  try dsimp only at H
  obtain⟨⟨t116,t117⟩,bD,H⟩:=qE H
  try dsimp only at H
  obtain⟨⟨aJ,t119⟩,bF,H⟩:=qE H
  try dsimp only at H
  obtain⟨⟨aK,aW⟩,bH,H⟩:=qE H
  try dsimp only at H
  obtain⟨aF,bJ,H⟩:=qE H
  try dsimp only at H
  obtain⟨rfl,rfl⟩:=oJ2 H
  exact amU
 replace H:=jE H;rcases H with ⟨aP,aQ,H⟩ | ⟨c23,aP,aQ,H⟩
 ·obtain⟨⟨aX,t124⟩,bK,H⟩:=qE H
  try dsimp only at H
  obtain⟨rfl,rfl⟩:=oJ2 H
  exact amU
 obtain⟨⟨aY,aZ⟩,bM,H⟩:=qE H
 try dsimp only at H
 obtain⟨rfl,rfl⟩:=oJ2 H
 exact amU
def ajJ (k:Nat) (aa:List Int) (ae:Int):Option (Int × Int):=(aaZ k aa ae 12).bind fun af=>(some (wrap64 (1+af.1),af.2))
theorem ahQ (k g:Nat) (aa:List Int) (ae r1 r2:Int) (w0 w:World) (hI:Sab w0 w g aa ae) (hB:Below w0.heap.size w0 w) (h:ajJ k aa ae=some (r1,r2)) :
  Calls prog 79 #[.pointer (some ⟨g,0,none⟩)] w fun e w'=>e = .returned (iV r1)/\Sab w0 w' g aa r2/\Below w0.heap.size w0 w'/\aa6 w w' g none:=by
 have HI0:=aM hI
 have HK:=aM (aaJ w g none)
 have HL:=aM hB.size
 clear hI
 have HW0:=aM hB.size
 have HB:=aM hB
 clear hB
 have H:=h;unfold ajJ at H
 clear h
 obtain⟨⟨t127,ai⟩,A2,H⟩:=qE H
 try dsimp only at H
 obtain⟨rfl,rfl⟩:=oJ2 H
 go_enter func79,ntmps79
 go_wp2_with (first|((with_reducible refine jc 52 4 ?_);refine jK func52 (aab k g aa ae 12 t127 ai w0 _ (qI HI0) qB A2.out) ?_;rintro w3 ⟨hi,hb,hk⟩;replace HK:=kI hk;replace HB:=aM hb;replace HI0:=aM hi;clear hb hk hi))
 go_ret
 exact⟨qW,qI HI0,qB,qH⟩
mutual
def afW:Nat->Int->Int->Bool->List Int->Int->Option (Int × Int × Int × Int × Int × Int)
 | 0,_,_,_,_,_=>none
 | k+1,x1,ax,eB,x1000,ak=>if eB=true then ((ael k x1000 ak).bind fun aO=>((al3 k x1000 aO.2).bind fun aP=>((some (([0,1,2,aP.1]:List Int):List Int)).bind fun aI=>((aaZ k x1000 aP.2 4).bind fun aD=>(if 0<=aD.1 then (if aD.1 < (aI.length:Int) then (some (1,aO.1,0,0,rd aI aD.1,aD.2)) else (none)) else (none)))))) else (if ax=2 then (afV k x1 ax (ax == 2) x1000 ak) else (afV k x1 ax (ax == 3) x1000 ak))
def afV:Nat->Int->Int->Bool->List Int->Int->Option (Int × Int × Int × Int × Int × Int)
 | 0,_,_,_,_,_=>none
 | k+1,x1,ax,x27,x1000,ak=>if x27=true then ((ael k x1000 ak).bind fun aQ=>((ael k x1000 aQ.2).bind fun aR=>(some (2,aQ.1,aR.1,0,0,aR.2)))) else (if ax=4 then (af1 k x1 ax (ax == 4) x1000 ak) else (if ax=5 then (af1 k x1 ax (ax == 5) x1000 ak) else (af1 k x1 ax (ax == 6) x1000 ak)))
def af1:Nat->Int->Int->Bool->List Int->Int->Option (Int × Int × Int × Int × Int × Int)
 | 0,_,_,_,_,_=>none
 | k+1,x1,ax,eD,x1000,ak=>if eD=true then ((ael k x1000 ak).bind fun aS=>((ael k x1000 aS.2).bind fun aT=>((ael k x1000 aT.2).bind fun aU=>((ajJ k x1000 aU.2).bind fun aV=>(some (3,aS.1,aT.1,aU.1,aV.1,aV.2)))))) else (if ax=7 then ((aaZ k x1000 ak x1).bind fun aW=>(some (4,0,0,0,aW.1,aW.2))) else (if ax=8 then ((ael k x1000 ak).bind fun aX=>((aaZ k x1000 aX.2 x1).bind fun aY=>(some (5,0,aX.1,0,aY.1,aY.2)))) else (if ax=9 then ((ael k x1000 ak).bind fun aZ=>((aaZ k x1000 aZ.2 2).bind fun bg=>(some (6,0,aZ.1,0,bg.1,bg.2)))) else (if ax=10 then ((ael k x1000 ak).bind fun bi=>((aaZ k x1000 bi.2 2).bind fun bn=>(some (7,bi.1,0,0,bn.1,bn.2)))) else ((aaZ k x1000 ak 4).bind fun aJ=>(if aJ.1=0 then (some (8,0,0,0,0,aJ.2)) else ((ael k x1000 aJ.2).bind fun bq=>(some (9,0,bq.1,0,0,bq.2)))))))))
end
def alp (k:Nat) (ai:List Int) (aA a1:Int):Option (Int × Int × Int × Int × Int × Int):=(aaZ k ai aA 12).bind fun av=>(if av.1=0 then (afW k a1 av.1 (av.1 == 0) ai av.2) else (afW k a1 av.1 (av.1 == 1) ai av.2))
theorem alq (k g:Nat) (ai:List Int) (aA a1 r1 r2 r3 r4 r5 r6:Int) (w0 w:World) (hI:Sab w0 w g ai aA) (hB:Below w0.heap.size w0 w) (h:alp k ai aA a1=some (r1,r2,r3,r4,r5,r6)) :
  Calls prog 70 #[.pointer (some ⟨g,0,none⟩),iV a1] w fun e w'=>e = .returned (.agg #[iV r1,iV r2,iV r3,iV r4,iV r5])/\Sab w0 w' g ai r6/\Below w0.heap.size w0 w'/\aa6 w w' g none:=by
 have eG:=underlying27
 have HI0:=aM hI
 have HK:=aM (aaJ w g none)
 have HL:=aM hB.size
 clear hI
 have HW0:=aM hB.size
 have HB:=aM hB
 clear hB
 have H:=h;unfold alp at H
 clear h
 obtain⟨⟨t130,t131⟩,A3,H⟩:=qE H
 try dsimp only at H
 have dw:=aM H
 clear H
 go_enter func70,ntmps70
 go_upto_if 14 with (first|((with_reducible refine jd 4 ?_);refine jY _ 27 ?_;intro ah hg w5 aa hb;have dF:=aM ((by rw [hg];exact kU:w.heap.size<=ah));have dG:=aM ((Nat.le_trans HW0.out (by rw [hg];exact kU:w.heap.size<=ah):w0.heap.size<=ah));have aj:=aM ((by rw [hg];exact Nat.ne_of_lt (abt (show Sab w0 _ g ai aA from qI HI0)):g≠ah));have ae:=aM ((by rw [hg];exact Nat.ne_of_gt (abt (show Sab w0 _ g ai aA from qI HI0)):ah≠g));replace HI0:=aM (Sab.below (qI HI0) hb);replace HK:=kY hb;replace HB:=kH hb;clear hb hg)|((with_reducible refine jc 52 13 ?_);refine jK func52 (aab k g ai aA 12 t130 t131 w0 _ (qI HI0) qB A3.out) ?_;rintro w6 ⟨hi,hb,hk⟩;replace aa:=kw hk aa ae;replace HK:=kI hk;replace HB:=aM hb;replace HI0:=aM hi;clear hb hk hi))
 (try simp only [Act.put,List.setIfInBounds_toArray,List.set_cons_zero,List.set_cons_succ])
 go_cut [14] (fun v14 wc=>∃ (kq:Nat) (aK:Bool),v14 = .bool aK/\aa1 (afW kq a1 t130 aK ai t131=some (r1,r2,r3,r4,r5,r6))/\aa1 (kq<=k)/\aa1 (wc.heap[ah]?=some (.cells #[iV 0,iV 0,iV 0,iV 0,iV 0] 27 (0,0)))/\aa1 (Sab w0 wc g ai t131)/\aa1 (aa6 w wc g none)/\aa1 (Below w0.heap.size w0 wc))
 case first =>
  have H:=dw.out
  clear dw
  replace H:=jE H;rcases H with ⟨aL,dx,H⟩ | ⟨c7,aL,dx,H⟩
  ·(first|rw [aL]|(simp only [aas,aaw];rw [aL])|skip)
   have H':=aM H
   clear H
   go_wp2
   go_meet
   exact⟨_,((t130 == 0)),qZ,H',⟨by first|omega|exact Nat.le_refl _⟩,⟨qK aa⟩,⟨qI HI0⟩,⟨qH⟩,⟨qB⟩⟩
  (first|rw [aL]|(simp only [aas,aaw];rw [aL])|skip)
  have H':=aM H
  clear H
  go_wp2
  go_meet
  exact⟨_,((t130 == 1)),qZ,H',⟨by first|omega|exact Nat.le_refl _⟩,⟨qK aa⟩,⟨qI HI0⟩,⟨qH⟩,⟨qB⟩⟩
 clear dw
 obtain⟨kq,aK,rfl,HA,bF,aa,HI0,HK,HB⟩:=hcut
 cases kq with
 | zero=>exact absurd HA.out (by simp [afW])
 | succ di =>
  have H:=HA.out
  clear HA
  simp only [afW] at H
  replace H:=jB H;rcases H with ⟨rfl,H⟩ | ⟨rfl,H⟩
  ·obtain⟨⟨bG,bH⟩,A9,H⟩:=qE H
   try dsimp only at H
   obtain⟨⟨aH,bu⟩,eH,H⟩:=qE H
   try dsimp only at H
   obtain⟨aI,aF⟩:=ky ((([0,1,2,aH]:List Int)):List Int)
   replace H:=kv aF H
   obtain⟨⟨t139,dz⟩,eO,H⟩:=qE H
   try dsimp only at H
   replace H:=jI H;obtain⟨dH,H⟩:=H
   replace H:=jI H;obtain⟨dI,H⟩:=H
   obtain⟨rfl,rfl,rfl,rfl,rfl,rfl⟩:=oJ6 H
   go_wp2_with (first|((with_reducible refine jc 77 18 ?_);refine jK func77 (abD di g ai t131 bG bH w0 _ (qI HI0) qB A9.out) ?_;rintro fT ⟨hi,hb,hk⟩;replace aa:=kw hk aa ae;replace HK:=kI hk;replace HB:=aM hb;replace HI0:=aM hi;clear hb hk hi)|((with_reducible refine jc 78 20 ?_);refine jK func78 (al4 di g ai bH aH bu w0 _ (qI HI0) qB eH.out) ?_;rintro fU ⟨hi,hb,hk⟩;replace aa:=kw hk aa ae;replace HK:=kI hk;replace HB:=aM hb;replace HI0:=aM hi;clear hb hk hi)|((with_reducible refine jd 21 ?_);refine jV (Kd.int .i64) 3 ([0,1,2,aH]:List Int) [iV 0,iV 1,iV 2,iV aH] (aax.one (show Kd.M (Kd.int .i64) _ _ _ 0 [iV 0] from rfl) (aax.one (show Kd.M (Kd.int .i64) _ _ _ 1 [iV 1] from rfl) (aax.one (show Kd.M (Kd.int .i64) _ _ _ 2 [iV 2] from rfl) (aax.one (show Kd.M (Kd.int .i64) _ _ _ aH [iV aH] from rfl) (aa9 _ _))))) ?_;intro eP w16 aN hb;replace aN:=kr aF aN;have aG:=aM (Kd.R_lower aN kU);replace aa:=kB aa hb;replace HI0:=aM (Sab.below (qI HI0) hb);replace HK:=kY hb;replace HB:=kH hb;clear hb aN)|((with_reducible refine jc 52 23 ?_);refine jK func52 (aab di g ai bu 4 t139 dz w0 _ (qI HI0) qB eO.out) ?_;rintro fV ⟨hi,hb,hk⟩;replace aa:=kw hk aa ae;replace aG:=aM (Kd.R_mono (Kd.R_keep (Sab.apart (show Sab w0 _ g ai bu from qI HI0) (qR aG) (by decide)) hk (fun _ h=>h.2)) (fun _ h=>h.1));replace HK:=kI hk;replace HB:=aM hb;replace HI0:=aM hi;clear hb hk hi;obtain⟨eQ,eT,dA⟩:=Kd.R_slice aG.out;subst dA;have bv:0<=(t139:Int):=qD;have bz:t139 < (aI.length:Int):=qD;obtain⟨dJ,dB,dn⟩:=Kd.at_int (Kd.R_reads' aG.out).2.2 t139 bv bz;cases dB;replace bv:=eq_true bv;replace bz:=eq_true bz;have dK:=ae.out;have dL:=aj.out;have eU:=jz5 aa))
   refine bodyPost_ret (results_cell_row rfl _ _ ah 27 #[iV 1,iV bG,iV 0,iV 0,iV (rd aI t139)] (0,0) _ rfl (qF aa) underlying27 rfl (by kernel_rfl)) rfl ?_
   exact⟨qW,qI HI0,qB,qH⟩
  have bA:=aM H
  clear H
  go_upto_if 27 with (fail)
  go_cut [27] (fun v27 wc=>∃ (kq:Nat) (aB:Bool),v27 = .bool aB/\aa1 (afV kq a1 t130 aB ai t131=some (r1,r2,r3,r4,r5,r6))/\aa1 (kq<=di)/\aa1 (wc.heap[ah]?=some (.cells #[iV 0,iV 0,iV 0,iV 0,iV 0] 27 (0,0)))/\aa1 (Sab w0 wc g ai t131)/\aa1 (aa6 w wc g none)/\aa1 (Below w0.heap.size w0 wc))
  case first =>
   have H:=bA.out
   clear bA
   replace H:=jE H;rcases H with ⟨ay,bI,H⟩ | ⟨c23,ay,bI,H⟩
   ·(first|rw [ay]|(simp only [aas,aaw];rw [ay])|skip)
    have H':=aM H
    clear H
    go_wp2
    go_meet
    exact⟨_,((t130 == 2)),qZ,H',⟨by have:=bF.out;first|omega|exact Nat.le_refl _⟩,⟨qK aa⟩,⟨qI HI0⟩,⟨qH⟩,⟨qB⟩⟩
   (first|rw [ay]|(simp only [aas,aaw];rw [ay])|skip)
   have H':=aM H
   clear H
   go_wp2
   go_meet
   exact⟨_,((t130 == 3)),qZ,H',⟨by have:=bF.out;first|omega|exact Nat.le_refl _⟩,⟨qK aa⟩,⟨qI HI0⟩,⟨qH⟩,⟨qB⟩⟩
  clear bA
  obtain⟨kq,aB,rfl,HA,bB,aa,HI0,HK,HB⟩:=hcut
  cases kq with
  | zero=>exact absurd HA.out (by simp [afV])
  | succ bC =>
   have H:=HA.out
   clear HA
   simp only [afV] at H
   replace H:=jB H;rcases H with ⟨rfl,H⟩ | ⟨rfl,H⟩
   ·obtain⟨⟨bJ,t143⟩,eX,H⟩:=qE H
    try dsimp only at H
    obtain⟨⟨bK,t145⟩,eY,H⟩:=qE H
    try dsimp only at H
    obtain⟨rfl,rfl,rfl,rfl,rfl,rfl⟩:=oJ6 H
    go_wp2_with (first|((with_reducible refine jc 77 31 ?_);refine jK func77 (abD bC g ai t131 bJ t143 w0 _ (qI HI0) qB eX.out) ?_;rintro fZ ⟨hi,hb,hk⟩;replace aa:=kw hk aa ae;replace HK:=kI hk;replace HB:=aM hb;replace HI0:=aM hi;clear hb hk hi)|((with_reducible refine jc 77 34 ?_);refine jK func77 (abD bC g ai t143 bK t145 w0 _ (qI HI0) qB eY.out) ?_;rintro gm ⟨hi,hb,hk⟩;replace aa:=kw hk aa ae;replace HK:=kI hk;replace HB:=aM hb;replace HI0:=aM hi;clear hb hk hi;have dM:=ae.out;have dN:=aj.out;have eZ:=jz5 aa))
    refine bodyPost_ret (results_cell_row rfl _ _ ah 27 #[iV 2,iV bJ,iV bK,iV 0,iV 0] (0,0) _ rfl (qF aa) underlying27 rfl (by kernel_rfl)) rfl ?_
    exact⟨qW,qI HI0,qB,qH⟩
   have bD:=aM H
   clear H
   go_upto_if 36 with (fail)
   go_cut [36] (fun v36 wc=>∃ (kq:Nat) (aC:Bool),v36 = .bool aC/\aa1 (af1 kq a1 t130 aC ai t131=some (r1,r2,r3,r4,r5,r6))/\aa1 (kq<=bC)/\aa1 (wc.heap[ah]?=some (.cells #[iV 0,iV 0,iV 0,iV 0,iV 0] 27 (0,0)))/\aa1 (Sab w0 wc g ai t131)/\aa1 (aa6 w wc g none)/\aa1 (Below w0.heap.size w0 wc))
   case first =>
    have H:=bD.out
    clear bD
    replace H:=jE H;rcases H with ⟨az,bL,H⟩ | ⟨c32,az,bL,H⟩
    ·(first|rw [az]|(simp only [aas,aaw];rw [az])|skip)
     have H':=aM H
     clear H
     go_wp2
     go_meet
     exact⟨_,((t130 == 4)),qZ,H',⟨by have:=bF.out;have:=bB.out;first|omega|exact Nat.le_refl _⟩,⟨qK aa⟩,⟨qI HI0⟩,⟨qH⟩,⟨qB⟩⟩
    (first|rw [az]|(simp only [aas,aaw];rw [az])|skip)
    replace H:=jE H;rcases H with ⟨bM,bN,H⟩ | ⟨gp,bM,bN,H⟩
    ·have H':=aM H
     clear H
     go_wp2
     go_meet
     exact⟨_,((t130 == 5)),qZ,H',⟨by have:=bF.out;have:=bB.out;first|omega|exact Nat.le_refl _⟩,⟨qK aa⟩,⟨qI HI0⟩,⟨qH⟩,⟨qB⟩⟩
    have H':=aM H
    clear H
    go_wp2
    go_meet
    exact⟨_,((t130 == 6)),qZ,H',⟨by have:=bF.out;have:=bB.out;first|omega|exact Nat.le_refl _⟩,⟨qK aa⟩,⟨qI HI0⟩,⟨qH⟩,⟨qB⟩⟩
   clear bD
   obtain⟨kq,aC,rfl,HA,fe,aa,HI0,HK,HB⟩:=hcut
   cases kq with
   | zero=>exact absurd HA.out (by simp [af1])
   | succ au =>
    have H:=HA.out
    clear HA
    simp only [af1] at H
    replace H:=jB H;rcases H with ⟨rfl,H⟩ | ⟨rfl,H⟩
    ·obtain⟨⟨t146,bO⟩,fo,H⟩:=qE H
     try dsimp only at H
     obtain⟨⟨t148,bP⟩,fq,H⟩:=qE H
     try dsimp only at H
     obtain⟨⟨bQ,bR⟩,fu,H⟩:=qE H
     try dsimp only at H
     obtain⟨⟨t152,dC⟩,fw,H⟩:=qE H
     try dsimp only at H
     obtain⟨rfl,rfl,rfl,rfl,rfl,rfl⟩:=oJ6 H
     go_wp2_with (first|((with_reducible refine jc 77 41 ?_);refine jK func77 (abD au g ai t131 t146 bO w0 _ (qI HI0) qB fo.out) ?_;rintro gq ⟨hi,hb,hk⟩;replace aa:=kw hk aa ae;replace HK:=kI hk;replace HB:=aM hb;replace HI0:=aM hi;clear hb hk hi)|((with_reducible refine jc 77 43 ?_);refine jK func77 (abD au g ai bO t148 bP w0 _ (qI HI0) qB fq.out) ?_;rintro gu ⟨hi,hb,hk⟩;replace aa:=kw hk aa ae;replace HK:=kI hk;replace HB:=aM hb;replace HI0:=aM hi;clear hb hk hi)|((with_reducible refine jc 77 45 ?_);refine jK func77 (abD au g ai bP bQ bR w0 _ (qI HI0) qB fu.out) ?_;rintro gy ⟨hi,hb,hk⟩;replace aa:=kw hk aa ae;replace HK:=kI hk;replace HB:=aM hb;replace HI0:=aM hi;clear hb hk hi)|((with_reducible refine jc 79 50 ?_);refine jK func79 (ahQ au g ai bR t152 dC w0 _ (qI HI0) qB fw.out) ?_;rintro gz ⟨hi,hb,hk⟩;replace aa:=kw hk aa ae;replace HK:=kI hk;replace HB:=aM hb;replace HI0:=aM hi;clear hb hk hi;have dO:=ae.out;have dP:=aj.out;have fA:=jz5 aa))
     refine bodyPost_ret (results_cell_row rfl _ _ ah 27 #[iV 3,iV t146,iV t148,iV bQ,iV t152] (0,0) _ rfl (qF aa) underlying27 rfl (by kernel_rfl)) rfl ?_
     exact⟨qW,qI HI0,qB,qH⟩
    replace H:=jE H;rcases H with ⟨bS,bT,H⟩ | ⟨gB,bS,bT,H⟩
    ·obtain⟨⟨t154,dD⟩,fB,H⟩:=qE H
     try dsimp only at H
     obtain⟨rfl,rfl,rfl,rfl,rfl,rfl⟩:=oJ6 H
     go_wp2_with (first|((with_reducible refine jc 52 56 ?_);refine jK func52 (aab au g ai t131 a1 t154 dD w0 _ (qI HI0) qB fB.out) ?_;rintro gD ⟨hi,hb,hk⟩;replace aa:=kw hk aa ae;replace HK:=kI hk;replace HB:=aM hb;replace HI0:=aM hi;clear hb hk hi;have dQ:=ae.out;have dR:=aj.out;have fC:=jz5 aa))
     refine bodyPost_ret (results_cell_row rfl _ _ ah 27 #[iV 4,iV 0,iV 0,iV 0,iV t154] (0,0) _ rfl (qF aa) underlying27 rfl (by kernel_rfl)) rfl ?_
     exact⟨qW,qI HI0,qB,qH⟩
    replace H:=jE H;rcases H with ⟨bU,bV,H⟩ | ⟨gF,bU,bV,H⟩
    ·obtain⟨⟨t156,t157⟩,fD,H⟩:=qE H
     try dsimp only at H
     obtain⟨⟨bW,t159⟩,fE,H⟩:=qE H
     try dsimp only at H
     obtain⟨rfl,rfl,rfl,rfl,rfl,rfl⟩:=oJ6 H
     go_wp2_with (first|((with_reducible refine jc 77 61 ?_);refine jK func77 (abD au g ai t131 t156 t157 w0 _ (qI HI0) qB fD.out) ?_;rintro gG ⟨hi,hb,hk⟩;replace aa:=kw hk aa ae;replace HK:=kI hk;replace HB:=aM hb;replace HI0:=aM hi;clear hb hk hi)|((with_reducible refine jc 52 65 ?_);refine jK func52 (aab au g ai t157 a1 bW t159 w0 _ (qI HI0) qB fE.out) ?_;rintro gH ⟨hi,hb,hk⟩;replace aa:=kw hk aa ae;replace HK:=kI hk;replace HB:=aM hb;replace HI0:=aM hi;clear hb hk hi;have dS:=ae.out;have dU:=aj.out;have fF:=jz5 aa))
     refine bodyPost_ret (results_cell_row rfl _ _ ah 27 #[iV 5,iV 0,iV t156,iV 0,iV bW] (0,0) _ rfl (qF aa) underlying27 rfl (by kernel_rfl)) rfl ?_
     exact⟨qW,qI HI0,qB,qH⟩
    replace H:=jE H;rcases H with ⟨bX,bY,H⟩ | ⟨gI,bX,bY,H⟩
    ·obtain⟨⟨t160,bZ⟩,fG,H⟩:=qE H
     try dsimp only at H
     obtain⟨⟨t162,dE⟩,fH,H⟩:=qE H
     try dsimp only at H
     obtain⟨rfl,rfl,rfl,rfl,rfl,rfl⟩:=oJ6 H
     go_wp2_with (first|((with_reducible refine jc 77 70 ?_);refine jK func77 (abD au g ai t131 t160 bZ w0 _ (qI HI0) qB fG.out) ?_;rintro gJ ⟨hi,hb,hk⟩;replace aa:=kw hk aa ae;replace HK:=kI hk;replace HB:=aM hb;replace HI0:=aM hi;clear hb hk hi)|((with_reducible refine jc 52 73 ?_);refine jK func52 (aab au g ai bZ 2 t162 dE w0 _ (qI HI0) qB fH.out) ?_;rintro gK ⟨hi,hb,hk⟩;replace aa:=kw hk aa ae;replace HK:=kI hk;replace HB:=aM hb;replace HI0:=aM hi;clear hb hk hi;have dV:=ae.out;have dW:=aj.out;have fI:=jz5 aa))
     refine bodyPost_ret (results_cell_row rfl _ _ ah 27 #[iV 6,iV 0,iV t160,iV 0,iV t162] (0,0) _ rfl (qF aa) underlying27 rfl (by kernel_rfl)) rfl ?_
     exact⟨qW,qI HI0,qB,qH⟩
    replace H:=jE H;rcases H with ⟨cu,cz,H⟩ | ⟨c64,cu,cz,H⟩
    ·obtain⟨⟨t164,cB⟩,fJ,H⟩:=qE H
     try dsimp only at H
     obtain⟨⟨cK,t167⟩,fK,H⟩:=qE H
     try dsimp only at H
     obtain⟨rfl,rfl,rfl,rfl,rfl,rfl⟩:=oJ6 H
     go_wp2_with (first|((with_reducible refine jc 77 78 ?_);refine jK func77 (abD au g ai t131 t164 cB w0 _ (qI HI0) qB fJ.out) ?_;rintro gL ⟨hi,hb,hk⟩;replace aa:=kw hk aa ae;replace HK:=kI hk;replace HB:=aM hb;replace HI0:=aM hi;clear hb hk hi)|((with_reducible refine jc 52 81 ?_);refine jK func52 (aab au g ai cB 2 cK t167 w0 _ (qI HI0) qB fK.out) ?_;rintro gM ⟨hi,hb,hk⟩;replace aa:=kw hk aa ae;replace HK:=kI hk;replace HB:=aM hb;replace HI0:=aM hi;clear hb hk hi;have dX:=ae.out;have dY:=aj.out;have fM:=jz5 aa))
     refine bodyPost_ret (results_cell_row rfl _ _ ah 27 #[iV 7,iV t164,iV 0,iV 0,iV cK] (0,0) _ rfl (qF aa) underlying27 rfl (by kernel_rfl)) rfl ?_
     exact⟨qW,qI HI0,qB,qH⟩
    obtain⟨⟨t168,bE⟩,dZ,H⟩:=qE H
    try dsimp only at H
    replace H:=jE H;rcases H with ⟨cO,df,H⟩ | ⟨c72,cO,df,H⟩
    ·obtain⟨rfl,rfl,rfl,rfl,rfl,rfl⟩:=oJ6 H
     go_wp2_with (first|((with_reducible refine jc 52 84 ?_);refine jK func52 (aab au g ai t131 4 t168 bE w0 _ (qI HI0) qB dZ.out) ?_;rintro gN ⟨hi,hb,hk⟩;replace aa:=kw hk aa ae;replace HK:=kI hk;replace HB:=aM hb;replace HI0:=aM hi;clear hb hk hi;have d9:=ae.out;have ed:=aj.out;have fO:=jz5 aa))
     refine bodyPost_ret (results_cell_row rfl _ _ ah 27 #[iV 8,iV 0,iV 0,iV 0,iV 0] (0,0) _ rfl (qF aa) underlying27 rfl (by kernel_rfl)) rfl ?_
     exact⟨qW,qI HI0,qB,qH⟩
    obtain⟨⟨dh,t171⟩,fP,H⟩:=qE H
    try dsimp only at H
    obtain⟨rfl,rfl,rfl,rfl,rfl,rfl⟩:=oJ6 H
    go_wp2_with (first|((with_reducible refine jc 52 84 ?_);refine jK func52 (aab au g ai t131 4 t168 bE w0 _ (qI HI0) qB dZ.out) ?_;rintro gP ⟨hi,hb,hk⟩;replace aa:=kw hk aa ae;replace HK:=kI hk;replace HB:=aM hb;replace HI0:=aM hi;clear hb hk hi)|((with_reducible refine jc 77 88 ?_);refine jK func77 (abD au g ai bE dh t171 w0 _ (qI HI0) qB fP.out) ?_;rintro gQ ⟨hi,hb,hk⟩;replace aa:=kw hk aa ae;replace HK:=kI hk;replace HB:=aM hb;replace HI0:=aM hi;clear hb hk hi;have ek:=ae.out;have eu:=aj.out;have fQ:=jz5 aa))
    refine bodyPost_ret (results_cell_row rfl _ _ ah 27 #[iV 9,iV 0,iV dh,iV 0,iV 0] (0,0) _ rfl (qF aa) underlying27 rfl (by kernel_rfl)) rfl ?_
    exact⟨qW,qI HI0,qB,qH⟩
end Go.Proofs.YtebpplallecogaaGreat.M
namespace Go.Proofs.YtebpplallecogaaGreat.M
open Go.Proofs.Tryz Go.RowKit Go.Proofs.YtebpplallecogaaGreatW.PrintWords Go.Proofs.YtebpplallecogaaGreatW.PrintLast Go.Proofs.YtebpplallecogaaGreatW.PrintMore Kd
attribute [local go_sem] aal aaj aaz aay aae aad aak aai
def af0:Nat->Int->List S27->Int->List Int->Int->Option ((List S27) × Int)
 | 0,_,_,_,_,_=>none
 | k+1,x3,x4,x5,x1000,aK=>if (wrap64 (x5+1)) < x3 then ((alp k x1000 aK x3).bind fun ai=>(if x4.length < 3518437208883 then (af0 k x3 (x4 ++ [(⟨ai.1,ai.2.1,ai.2.2.1,ai.2.2.2.1,ai.2.2.2.2.1⟩:S27)]) (wrap64 (x5+1)) x1000 ai.2.2.2.2.2) else (none))) else ((aaZ k x1000 aK 3).bind fun av=>(if av.1=0 then ((aaZ k x1000 av.2 x3).bind fun aN=>(if x4.length < 3518437208883 then (some ((x4 ++ [(⟨4,0,0,0,aN.1⟩:S27)]),aN.2)) else (none))) else (if x4.length < 3518437208883 then (some ((x4 ++ [(⟨10,0,0,0,0⟩:S27)]),av.2)) else (none))))
def ajK (k:Nat) (af:List Int) (ax:Int):Option ((List S27) × Int):=(aaZ k af ax 14).bind fun aQ=>(af0 k (wrap64 (1+aQ.1)) (([]:List S27)) 0 af aQ.2)
theorem ahV (k g:Nat) (af:List Int) (ax:Int) (r1:List S27) (r2:Int) (w0 w:World) (hI:Sab w0 w g af ax) (hB:Below w0.heap.size w0 w) (h:ajK k af ax=some (r1,r2)) :
  Calls prog 61 #[.pointer (some ⟨g,0,none⟩)] w fun e w'=>∃ bB:Value,e = .returned (bB)/\Kd.R k27 27 w' w.heap.size (fun _=>True) bB r1/\Sab w0 w' g af r2/\Below w0.heap.size w0 w'/\aa6 w w' g none:=by
 have bF:=underlying27
 have HI0:=aM hI
 have HK:=aM (aaJ w g none)
 have HL:=aM hB.size
 clear hI
 have HW0:=aM hB.size
 have HB:=aM hB
 clear hB
 have H:=h;unfold ajK at H
 clear h
 obtain⟨⟨au,t173⟩,A2,H⟩:=qE H
 try dsimp only at H
 obtain⟨bq,ak⟩:=ky ([]:List S27)
 replace H:=kv ak H
 have H':=aM H
 clear H
 go_enter func61,ntmps61
 go_wp2_with (first|((with_reducible refine jc 52 7 ?_);refine jK func52 (aab k g af ax 14 au t173 w0 _ (qI HI0) qB A2.out) ?_;rintro w3 ⟨hi,hb,hk⟩;replace HK:=kI hk;replace HB:=aM hb;replace HI0:=aM hi;clear hb hk hi)|((with_reducible refine jd 9 ?_);refine jV k27 27 ([]:List S27) [] (aa9 _ _) ?_;intro v175 w4 aT hb;replace aT:=kr ak aT;have aU:=aM (R_lower aT kU);replace HI0:=aM (Sab.below (qI HI0) hb);replace HK:=kY hb;replace HB:=kH hb;clear hb aT))
 go_loopg [4,5] k (fun kq v4 v5 w'=>∃ (aj:List S27) (aR:Int) (aa:Int),v5 = iV aR/\aa1 (af0 kq (wrap64 (1+au)) aj aR af aa=some (r1,r2))/\aa1 (kq<=k)/\aa1 (Kd.R k27 27 w' w.heap.size (fun _=>True) v4 aj)/\aa1 (Sab w0 w' g af aa)/\aa1 (aa6 w w' g none)/\aa1 (Below w0.heap.size w0 w'))
 case atStart=>exact⟨(bq),(0),(t173),qZ,H',⟨Nat.le_refl _⟩,⟨qR aU⟩,⟨qI HI0⟩,⟨qH⟩,⟨qB⟩⟩
 clear H'
 obtain⟨aj,aR,aa,rfl,HA,bC,ae,HI0,HK,HB⟩:=hrel
 rcases gk with _|k1
 ·exact absurd HA.out (by simp [af0])
 have H:=HA.out
 clear HA
 simp only [af0] at H
 replace H:=jD H;rcases H with ⟨bu,H⟩ | ⟨bu,H⟩
 ·obtain⟨⟨ay,az,aA,aB,aC,t182⟩,A7,H⟩:=qE H
  try dsimp only at H
  replace H:=jL H;obtain⟨bv,H⟩:=H
  obtain⟨bG,aD⟩:=ky ((aj ++ [(⟨ay,az,aA,aB,aC⟩:S27)]):List S27)
  replace H:=kv aD H
  have H':=aM H
  clear H
  go_wp2_with (first|((with_reducible refine jc 70 19 ?_);refine jK func70 (alq k1 g af aa (wrap64 (1+au)) ay az aA aB aC t182 w0 _ (qI HI0) qB A7.out) ?_;rintro bH ⟨hi,hb,hk⟩;replace ae:=aM (R_mono (R_keep (Sab.apart (show Sab w0 _ g af aa from qI HI0) (qR ae) (by decide)) hk (fun _ h=>h.2)) (fun _ h=>h.1));replace HK:=kI hk;replace HB:=aM hb;replace HI0:=aM hi;clear hb hk hi)|((with_reducible refine aaa (b:=.append) (xs:=#[.tmp 16,.tmp 20]) rfl ?_);at_builtin;refine R_append k27 w.heap.size rfl (.tmp 16) (.tmp 20) 23 27 (.agg #[(iV 0),(iV 0),(iV 0),(iV 0),(iV 0)]) 40 rfl underlying23 aba rfl (by decide) (by omega) u4 aj (⟨ay,az,aA,aB,aC⟩:S27) [iV ay,iV az,iV aA,iV aB,iV aC] (fun _=>True) (fun _=>False) rfl rfl ?aP (fun _ hk=>hk.elim) ?aF ?aO (Below.refl _ _) ?aS ?aL ?_;(case aP=>exact aaV _ _ _ (⟨ay,az,aA,aB,aC⟩:S27));(case aF=>exact (fun _ _=>trivial));(case aO=>exact (qR ae));(case aS=>exact kU);(case aL=>have:=bv.out;omega);intro bI bJ ho hb hg hat;rw [<- aD.out] at ho;have aV:=aM ho;replace HI0:=aM (Sab.grown (qI HI0) hg (ac5 HI0.out ae.out (by decide)));replace HB:=aM (abG qB HL.out hb);replace HK:=aM (aa6.trans qH (aaQ hg g) (R_base2 ae.out));clear ae;clear ho hb hg hat))
  go_roundg k1
  case measure=>have:=bC.out;omega
  exact⟨_,_,_,qZ,H',⟨by have:=bC.out;omega⟩,⟨qR aV⟩,⟨qI HI0⟩,⟨qH⟩,⟨qB⟩⟩
 obtain⟨⟨aW,aJ⟩,bD,H⟩:=qE H
 try dsimp only at H
 replace H:=jE H;rcases H with ⟨aX,aY,H⟩ | ⟨c12,aX,aY,H⟩
 ·obtain⟨⟨aG,bz⟩,bK,H⟩:=qE H
  try dsimp only at H
  replace H:=jL H;obtain⟨aZ,H⟩:=H
  obtain⟨bL,aH⟩:=ky ((aj ++ [(⟨4,0,0,0,aG⟩:S27)]):List S27)
  replace H:=kv aH H
  obtain⟨rfl,rfl⟩:=oJ2 H
  go_wp2_with (first|((with_reducible refine jc 52 23 ?_);refine jK func52 (aab k1 g af aa 3 aW aJ w0 _ (qI HI0) qB bD.out) ?_;rintro bA ⟨hi,hb,hk⟩;replace ae:=aM (R_mono (R_keep (Sab.apart (show Sab w0 _ g af aa from qI HI0) (qR ae) (by decide)) hk (fun _ h=>h.2)) (fun _ h=>h.1));replace HK:=kI hk;replace HB:=aM hb;replace HI0:=aM hi;clear hb hk hi)|((with_reducible refine jc 52 28 ?_);refine jK func52 (aab k1 g af aJ (wrap64 (1+au)) aG bz w0 _ (qI HI0) qB bK.out) ?_;rintro bM ⟨hi,hb,hk⟩;replace ae:=aM (R_mono (R_keep (Sab.apart (show Sab w0 _ g af aJ from qI HI0) (qR ae) (by decide)) hk (fun _ h=>h.2)) (fun _ h=>h.1));replace HK:=kI hk;replace HB:=aM hb;replace HI0:=aM hi;clear hb hk hi)|((with_reducible refine aaa (b:=.append) (xs:=#[.tmp 25,.tmp 30]) rfl ?_);at_builtin;refine R_append k27 w.heap.size rfl (.tmp 25) (.tmp 30) 23 27 (.agg #[(iV 0),(iV 0),(iV 0),(iV 0),(iV 0)]) 40 rfl underlying23 aba rfl (by decide) (by omega) u4 aj (⟨4,0,0,0,aG⟩:S27) [iV 4,iV 0,iV 0,iV 0,iV aG] (fun _=>True) (fun _=>False) rfl rfl ?aP (fun _ hk=>hk.elim) ?aF ?aO (Below.refl _ _) ?aS ?aL ?_;(case aP=>exact aaV _ _ _ (⟨4,0,0,0,aG⟩:S27));(case aF=>exact (fun _ _=>trivial));(case aO=>exact (qR ae));(case aS=>exact kU);(case aL=>have:=aZ.out;omega);intro bN bO ho hb hg hat;rw [<- aH.out] at ho;have bg:=aM ho;replace HI0:=aM (Sab.grown (qI HI0) hg (ac5 HI0.out ae.out (by decide)));replace HB:=aM (abG qB HL.out hb);replace HK:=aM (aa6.trans qH (aaQ hg g) (R_base2 ae.out));clear ae;clear ho hb hg hat))
  go_ret
  exact⟨_,qW,qR bg,qI HI0,qB,qH⟩
 replace H:=jL H;obtain⟨bi,H⟩:=H
 obtain⟨bP,aI⟩:=ky ((aj ++ [(⟨10,0,0,0,0⟩:S27)]):List S27)
 replace H:=kv aI H
 obtain⟨rfl,rfl⟩:=oJ2 H
 go_wp2_with (first|((with_reducible refine jc 52 23 ?_);refine jK func52 (aab k1 g af aa 3 aW aJ w0 _ (qI HI0) qB bD.out) ?_;rintro bA ⟨hi,hb,hk⟩;replace ae:=aM (R_mono (R_keep (Sab.apart (show Sab w0 _ g af aa from qI HI0) (qR ae) (by decide)) hk (fun _ h=>h.2)) (fun _ h=>h.1));replace HK:=kI hk;replace HB:=aM hb;replace HI0:=aM hi;clear hb hk hi)|((with_reducible refine aaa (b:=.append) (xs:=#[.tmp 32,.tmp 34]) rfl ?_);at_builtin;refine R_append k27 w.heap.size rfl (.tmp 32) (.tmp 34) 23 27 (.agg #[(iV 0),(iV 0),(iV 0),(iV 0),(iV 0)]) 40 rfl underlying23 aba rfl (by decide) (by omega) u4 aj (⟨10,0,0,0,0⟩:S27) [iV 10,iV 0,iV 0,iV 0,iV 0] (fun _=>True) (fun _=>False) rfl rfl ?aP (fun _ hk=>hk.elim) ?aF ?aO (Below.refl _ _) ?aS ?aL ?_;(case aP=>exact aaV _ _ _ (⟨10,0,0,0,0⟩:S27));(case aF=>exact (fun _ _=>trivial));(case aO=>exact (qR ae));(case aS=>exact kU);(case aL=>have:=bi.out;omega);intro v194 bQ ho hb hg hat;rw [<- aI.out] at ho;have bn:=aM ho;replace HI0:=aM (Sab.grown (qI HI0) hg (ac5 HI0.out ae.out (by decide)));replace HB:=aM (abG qB HL.out hb);replace HK:=aM (aa6.trans qH (aaQ hg g) (R_base2 ae.out));clear ae;clear ho hb hg hat))
 go_ret
 exact⟨_,qW,qR bn,qI HI0,qB,qH⟩
end Go.Proofs.YtebpplallecogaaGreat.M
namespace Go.Proofs.YtebpplallecogaaGreat.M
open Go.Proofs.Tryz Go.RowKit Go.Proofs.YtebpplallecogaaGreatW.PrintWords Go.Proofs.YtebpplallecogaaGreatW.PrintLast Go.Proofs.YtebpplallecogaaGreatW.PrintMore
attribute [local go_sem] aal aaj aaz aay aae aad aak aai
mutual
def aeB:Nat->List S92->Int->Int->Option (Int)
 | 0,_,_,_=>none
 | k+1,x0,x3,x4=>if x4 < (x0.length:Int) then (if 0<=x4 then ((SaD.f k ((aao x0 x4).f4)).bind fun bM=>((SaD.f k ((aao x0 x4).f5)).bind fun bN=>(aeB k x0 (wrap64 ((wrap64 ((wrap64 (x3+1))+bM))+bN)) (wrap64 (x4+1))))) else (none)) else (some x3)
def SaD.f:Nat->List S92->Option (Int)
 | 0,_=>none
 | k+1,l0=>aeB k l0 0 0
end
def ao0:Bool × List (List Nat × List Nat):=(true,[([],[]),([0],[0]),([],[]),([],[]),([2,3],[2,3]),([4],[4]),([5],[5]),([6],[6]),([1,7],[1,7]),([],[]),([],[]),([9,10],[9,10]),([11],[11]),([12],[12]),([13,7],[13]),([8,14],[8,14]),([15,14,0,1,2,3,4,5,6,7,8,9,10,11,12,13,14,15],[0,15])])
def aqc:List Nat:=[0,1,0,0,12,28,60,124,255,0,0,1536,3584,7680,16124,32767,65535]
theorem ang:acz .any (opsOf f74 5)=ao0:=by kernel_rfl
theorem amj:ab9 ao0.2 aqc=true:=by kernel_rfl
theorem SaD.calls (k:Nat):∀ (A0:Option Addr) (c0:Nat) (l0:List S92) (r:Int) (w:World) (hr0:Kd.C k92 w A0 l0.length l0) (hc0:l0.length<=c0) (h:SaD.f k l0=some r),
  Calls prog 74 #[.slice A0 l0.length c0] w fun e w'=>e = .returned (iV r)/\Below w.heap.size w w':=by
 induction k using Nat.strongRecOn with
 | _ k ih =>
 intro A0 c0 l0 r w hr0 hc0 h
 cases k with
 | zero=>exact absurd h (by simp [SaD.f])
 | succ k =>
 simp only [SaD.f] at h
 have dD:=aM hr0
 have dF:=aM hc0
 clear hr0 hc0
 have HB:=jb_ w
 have H:(aeB k l0 0 0)=some r:=h
 clear h
 have H':=aM H
 clear H
 go_enter func74,ntmps74
 go_wp2
 go_loopg [3,4] k (fun kq v3 v4 w'=>∃ (bO:Int) (aa:Int),v3 = iV bO/\v4 = iV aa/\aa1 (aeB kq l0 bO aa=some r)/\aa1 (kq<=k)/\aa1 (Below w.heap.size w w'))
 case atStart=>exact⟨(0),(0),qZ,qZ,H',⟨Nat.le_refl _⟩,⟨qB⟩⟩
 clear H'
 obtain⟨bO,aa,rfl,rfl,HA,cu,HB⟩:=hrel
 rcases gk with _|k1
 ·exact absurd HA.out (by simp [aeB])
 have H:=HA.out
 clear HA
 simp only [aeB] at H
 replace H:=jD H;rcases H with ⟨df,H⟩ | ⟨df,H⟩
 ·replace H:=jI H;obtain⟨dE,H⟩:=H
  obtain⟨bM,A4,H⟩:=qE H
  try dsimp only at H
  obtain⟨bN,A5,H⟩:=qE H
  try dsimp only at H
  have H':=aM H
  clear H
  try go_wp2
  replace HB:=aM (aaf HB.out)
  have bV:0<=(aa:Int):=qD
  have bW:aa < (l0.length:Int):=qD
  obtain⟨ae,bI,bJ,aX,aY,aZ,bg,dh,au,av,ax,ay,az,af,ag,ah,bi,bn,bq,bu,bv,bz⟩:=ahM dD.out aa bV bW
  have aG:=ah
  have aH:=ag
  have aI:=af
  have aJ:=az
  have aK:=ay
  have aL:=ax
  have aN:=av
  have aO:=au
  cases dh
  replace au:=kx HB au
  replace av:=kx HB av
  replace ax:=kx HB ax
  replace ay:=kx HB ay
  replace az:=kx HB az
  replace af:=kx HB af
  replace ag:=kx HB ag
  replace ah:=kx HB ah
  have bP:=aM bn
  have cz:=aM bi
  clear bn bi
  have bA:=aM bu
  have bQ:=aM bq
  clear bu bq
  have bR:=aM bz
  have cB:=aM bv
  clear bz bv
  replace bV:=eq_true bV
  replace bW:=eq_true bW
  have bX:0<=(aa:Int):=qD
  have bY:aa < (l0.length:Int):=qD
  obtain⟨bZ,di,dn,dw,dx,dz,dA,dB,aA,aB,aC,aD,aF,ai,aj,ak,bB,bC,bD,bE,bF,bG⟩:=ahM dD.out aa bX bY
  have aP:=ak
  have aQ:=aj
  have aR:=ai
  have aS:=aF
  have aT:=aD
  have aU:=aC
  have aV:=aB
  have aW:=aA
  obtain rfl:ae=bZ:=(by injection dB)
  replace aA:=kx HB aA
  replace aB:=kx HB aB
  replace aC:=kx HB aC
  replace aD:=kx HB aD
  replace aF:=kx HB aF
  replace ai:=kx HB ai
  replace aj:=kx HB aj
  replace ak:=kx HB ak
  have bS:=aM bC
  have cK:=aM bB
  clear bC bB
  have bT:=aM bE
  have cO:=aM bD
  clear bE bD
  have bH:=aM bG
  have bU:=aM bF
  clear bG bF
  replace bX:=eq_true bX
  replace bY:=eq_true bY
  have ea_:=Option.some.inj (af.symm.trans ai)
  injection ea_ with ea_ en_ ec_
  subst ea_
  subst ec_
  clear en_
  have ea_:=Option.some.inj (ag.symm.trans aj)
  injection ea_ with ea_ en_ ec_
  subst ea_
  subst ec_
  clear en_
  have ea_:=Option.some.inj (ah.symm.trans ak)
  injection ea_ with ea_ en_ ec_
  subst ea_
  subst ec_
  clear en_
  refine abl (n:=17) (S:=fun w'=>w'.cell? (ae.add ((aa).toNat*8))=some (iV ((aao l0 aa).f0))/\w'.cell? ⟨(ae.add ((aa).toNat*8)).block,(ae.add ((aa).toNat*8)).off+1,none⟩=some (iV ((aao l0 aa).f1))/\w'.cell? ⟨(ae.add ((aa).toNat*8)).block,(ae.add ((aa).toNat*8)).off+2,none⟩=some (iV ((aao l0 aa).f2))/\w'.cell? ⟨(ae.add ((aa).toNat*8)).block,(ae.add ((aa).toNat*8)).off+3,none⟩=some (iV ((aao l0 aa).f3.f0))/\w'.cell? ⟨(ae.add ((aa).toNat*8)).block,(ae.add ((aa).toNat*8)).off+4,none⟩=some (iV ((aao l0 aa).f3.f1))/\w'.cell? ⟨(ae.add ((aa).toNat*8)).block,(ae.add ((aa).toNat*8)).off+5,none⟩=some (.slice bI ((aao l0 aa).f3.f2).length bJ)/\w'.cell? ⟨(ae.add ((aa).toNat*8)).block,(ae.add ((aa).toNat*8)).off+6,none⟩=some (.slice aX ((aao l0 aa).f4).length aY)/\w'.cell? ⟨(ae.add ((aa).toNat*8)).block,(ae.add ((aa).toNat*8)).off+7,none⟩=some (.slice aZ ((aao l0 aa).f5).length bg)/\w'.cell? (ae.add ((aa).toNat*8))=some (iV ((aao l0 aa).f0))/\w'.cell? ⟨(ae.add ((aa).toNat*8)).block,(ae.add ((aa).toNat*8)).off+1,none⟩=some (iV ((aao l0 aa).f1))/\w'.cell? ⟨(ae.add ((aa).toNat*8)).block,(ae.add ((aa).toNat*8)).off+2,none⟩=some (iV ((aao l0 aa).f2))/\w'.cell? ⟨(ae.add ((aa).toNat*8)).block,(ae.add ((aa).toNat*8)).off+3,none⟩=some (iV ((aao l0 aa).f3.f0))/\w'.cell? ⟨(ae.add ((aa).toNat*8)).block,(ae.add ((aa).toNat*8)).off+4,none⟩=some (iV ((aao l0 aa).f3.f1))/\w'.cell? ⟨(ae.add ((aa).toNat*8)).block,(ae.add ((aa).toNat*8)).off+5,none⟩=some (.slice bI ((aao l0 aa).f3.f2).length bJ)/\w'.cell? ⟨(ae.add ((aa).toNat*8)).block,(ae.add ((aa).toNat*8)).off+6,none⟩=some (.slice aX ((aao l0 aa).f4).length aY)/\w'.cell? ⟨(ae.add ((aa).toNat*8)).block,(ae.add ((aa).toNat*8)).off+7,none⟩=some (.slice aZ ((aao l0 aa).f5).length bg)) (ds:=[]) (jb 17 0) (by kernel_rfl) rfl rfl ⟨(kx HB aO),(kx HB aN),(kx HB aL),(kx HB aK),(kx HB aJ),(kx HB aI),(kx HB aH),(kx HB aG),(kx HB aW),(kx HB aV),(kx HB aU),(kx HB aT),(kx HB aS),(kx HB aR),(kx HB aQ),(kx HB aP)⟩ (fun hHeld=>?_);refine aaL ang amj (fun HT_ HW_=>?_)
  generalize wr.drew=w6 at HB bP bA bR bS bT bH au av ax ay az af ag ah aA aB aC aD aF ai aj ak hHeld ⊢
  refine jp 0 11 (jb 17 1) ?_
  refine jp 1 12 (jb 17 3) ?_
  refine jp 2 13 (jb 17 7) ?_
  refine jp 3 14 (jb 17 15) ?_
  refine jp 4 15 (jb 17 31) ?_
  refine jp 5 16 (jb 17 63) ?_
  refine jp 9 20 (jb 17 575) ?_
  refine jp 10 21 (jb 17 1599) ?_
  refine jp 11 22 (jb 17 3647) ?_
  refine jp 12 23 (jb 17 7743) ?_
  refine jt 6 17 (jb 17 7807) ?_
  refine jt 13 24 (jb 17 15999) ?_
  refine acK (i:=7) (N:=some 18) (jb 17 16127) rfl rfl (aaR HT_.out (by kernel_rfl)) (by decide) (fun K hK=>?_)
  refine abn func74 (by kernel_rfl) rfl #[.slice aX ((aao l0 aa).f4).length aY] (by rfl) rfl rfl qM ?_
  with_reducible refine (ih k1 (by have:=cu.out;omega) _ _ ((aao l0 aa).f4) bM _ ?bK ?bL A4.out).mono ?_
  (case bK=>exact kb bA HB)
  (case bL=>exact bQ.out)
  rintro e w7 ⟨rfl,hb⟩
  refine⟨_,rfl,?_⟩
  replace HB:=kH hb
  (try clear hb)
  (try clear hb2)
  (try clear hk)
  (try clear hi)
  refine hK.out _ _ ⟨(kx HB aO),(kx HB aN),(kx HB aL),(kx HB aK),(kx HB aJ),(kx HB aI),(kx HB aH),(kx HB aG),(kx HB aW),(kx HB aV),(kx HB aU),(kx HB aT),(kx HB aS),(kx HB aR),(kx HB aQ),(kx HB aP)⟩ (fun hHeld=>?_)
  clear hK K
  refine aaA (a':=?_) ?_ ?_
  rotate_left
  ·show Act.put _ (some 18) _=_
   simp only [Act.put,List.setIfInBounds_toArray,List.set_cons_zero,List.set_cons_succ,aas,aaw]
   rfl
  refine jp 8 19 (jb 17 16383) ?_
  refine acK (i:=14) (N:=some 25) (jb 17 32767) rfl rfl (aaR HT_.out (by kernel_rfl)) (by decide) (fun K hK=>?_)
  refine abn func74 (by kernel_rfl) rfl #[.slice aZ ((aao l0 aa).f5).length bg] (by rfl) rfl rfl qM ?_
  with_reducible refine (ih k1 (by have:=cu.out;omega) _ _ ((aao l0 aa).f5) bN _ ?bK ?bL A5.out).mono ?_
  (case bK=>exact kb bH HB)
  (case bL=>exact bU.out)
  rintro e w8 ⟨rfl,hb⟩
  refine⟨_,rfl,?_⟩
  replace HB:=kH hb
  (try clear hb)
  (try clear hb2)
  (try clear hk)
  (try clear hi)
  refine hK.out _ _ ⟨(kx HB aO),(kx HB aN),(kx HB aL),(kx HB aK),(kx HB aJ),(kx HB aI),(kx HB aH),(kx HB aG),(kx HB aW),(kx HB aV),(kx HB aU),(kx HB aT),(kx HB aS),(kx HB aR),(kx HB aQ),(kx HB aP)⟩ (fun hHeld=>?_)
  clear hK K
  refine aaA (a':=?_) ?_ ?_
  rotate_left
  ·show Act.put _ (some 25) _=_
   simp only [Act.put,List.setIfInBounds_toArray,List.set_cons_zero,List.set_cons_succ,aas,aaw]
   rfl
  refine jp 15 26 (jb 17 65535) ?_
  refine jp 16 3 (jb 17 131071) ?_
  refine abI (ab5 HT_.out (by kernel_rfl)) ?_
  try go_wp2
  go_roundg k1
  case measure=>have:=cu.out;omega
  exact⟨(wrap64 ((wrap64 ((wrap64 (bO+1))+bM))+bN)),(wrap64 (aa+1)),qZ,qZ,H',⟨by have:=cu.out;omega⟩,⟨qB⟩⟩
 obtain rfl:=oJ H
 go_wp2
 go_ret
 exact⟨qW,qB⟩
def agp (ax aa ay az aA:Int) (ae:List S90) (af ag:List S92) (a1:Bool):Option (Bool):=if a1=true then ((adC aa 0 3).bind fun t201=>(some t201)) else (some (aa == 0))
theorem aqb {G:Prop} (h:G:=by
  go_enter func106,ntmps106
  go_wp2_with (first|((with_reducible refine jd 2 ?_);refine jY _ 92 ?_;intro aJ hg aS aB hb;have aK:=kG hg;replace HB:=kH hb;clear hb hg;have aT:=jz8 aB)|((with_reducible refine jc 46 8 ?_);refine jG func46 #[iV aa,iV 0,iV 3] ?_;refine (Sbn.calls _ _ _ _ _ (aa1.out (by assumption))).mono ?_;rintro e w' ⟨rfl,⟨nd,rfl⟩⟩;refine⟨_,rfl,?_⟩))
  go_ret
  exact⟨qW,qB⟩):G:=h
theorem aaT (ax aa ay az aA:Int) (aC:Option Addr) (aD:Nat) (ae:List S90) (aF:Option Addr) (aG:Nat) (af:List S92) (aH:Option Addr) (aI:Nat) (ag:List S92) (a1 r:Bool) (w:World) (ah:Kd.C k90 w aC ae.length ae) (ai:ae.length<=aD) (aj:Kd.C k92 w aF af.length af) (ak:af.length<=aG) (au:Kd.C k92 w aH ag.length ag) (av:ag.length<=aI) (h:agp ax aa ay az aA ae af ag a1=some r) :
  Calls prog 106 #[.agg #[iV ax,iV aa,iV ay,iV az,iV aA,.slice aC ae.length aD,.slice aF af.length aG,.slice aH ag.length aI],.bool a1] w fun e w'=>e = .returned (.bool r)/\Below w.heap.size w w':=by
 have aU:=underlying92
 have aL:=aM ah
 have aN:=aM ai
 clear ah ai
 have aO:=aM aj
 have aP:=aM ak
 clear aj ak
 have aQ:=aM au
 have aR:=aM av
 clear au av
 have HB:=jb_ w
 have H:=h;unfold agp at H
 clear h
 replace H:=jB H;rcases H with ⟨rfl,H⟩ | ⟨rfl,H⟩
 ·obtain⟨t201,A4,H⟩:=qE H
  try dsimp only at H
  obtain rfl:=oJ H
  exact aqb
 obtain rfl:=oJ H
 exact aqb
def agr (ax ay aa az aA:Int) (ae:List S90) (af ag:List S92) (a1:Bool):Option (Bool):=if a1=true then ((adC aa 0 2).bind fun t203=>(some t203)) else (some (aa == 0))
theorem aqd {G:Prop} (h:G:=by
  go_enter func107,ntmps107
  go_wp2_with (first|((with_reducible refine jd 2 ?_);refine jY _ 92 ?_;intro aJ hg aS aB hb;have aK:=kG hg;replace HB:=kH hb;clear hb hg;have aT:=jz8 aB)|((with_reducible refine jc 46 8 ?_);refine jG func46 #[iV aa,iV 0,iV 2] ?_;refine (Sbn.calls _ _ _ _ _ (aa1.out (by assumption))).mono ?_;rintro e w' ⟨rfl,⟨nd,rfl⟩⟩;refine⟨_,rfl,?_⟩))
  go_ret
  exact⟨qW,qB⟩):G:=h
theorem abj (ax ay aa az aA:Int) (aC:Option Addr) (aD:Nat) (ae:List S90) (aF:Option Addr) (aG:Nat) (af:List S92) (aH:Option Addr) (aI:Nat) (ag:List S92) (a1 r:Bool) (w:World) (ah:Kd.C k90 w aC ae.length ae) (ai:ae.length<=aD) (aj:Kd.C k92 w aF af.length af) (ak:af.length<=aG) (au:Kd.C k92 w aH ag.length ag) (av:ag.length<=aI) (h:agr ax ay aa az aA ae af ag a1=some r) :
  Calls prog 107 #[.agg #[iV ax,iV ay,iV aa,iV az,iV aA,.slice aC ae.length aD,.slice aF af.length aG,.slice aH ag.length aI],.bool a1] w fun e w'=>e = .returned (.bool r)/\Below w.heap.size w w':=by
 have aU:=underlying92
 have aL:=aM ah
 have aN:=aM ai
 clear ah ai
 have aO:=aM aj
 have aP:=aM ak
 clear aj ak
 have aQ:=aM au
 have aR:=aM av
 clear au av
 have HB:=jb_ w
 have H:=h;unfold agr at H
 clear h
 replace H:=jB H;rcases H with ⟨rfl,H⟩ | ⟨rfl,H⟩
 ·obtain⟨t203,A4,H⟩:=qE H
  try dsimp only at H
  obtain rfl:=oJ H
  exact aqd
 obtain rfl:=oJ H
 exact aqd
def ahm:Nat->Int->Int->List S90->Int->Option (Bool)
 | 0,_,_,_,_=>none
 | k+1,ai,aj,ae,a1=>if a1 < 1 then (some false) else (if ai=0 then ((adC aj 0 99999).bind fun t206=>(if t206=true then (some ((ae.length:Int) == 0)) else (some false))) else (if ai=13 then ((adC aj 0 3).bind fun aX=>(if aX=true then (some ((ae.length:Int) == 0)) else (some false))) else ((aiC ai).bind fun t208=>(if t208=true then (if aj=0 then (if (ae.length:Int)=2 then (if 0 < (ae.length:Int) then ((ahm k ((aaN ae 0).f0) ((aaN ae 0).f1) ((aaN ae 0).f2) (wrap64 (a1 - 1))).bind fun t210=>(if t210=true then (if 1 < (ae.length:Int) then ((ahm k ((aaN ae 1).f0) ((aaN ae 1).f1) ((aaN ae 1).f2) (wrap64 (a1 - 1))).bind fun t212=>(some t212)) else (none)) else (some false))) else (none)) else (some false)) else (some false)) else (some false)))))
theorem ala (k:Nat):∀ (ai:Int) (aj:Int) (aR:Option Addr) (aS:Nat) (ae:List S90) (a1:Int) (r:Bool) (w:World) (aK:Kd.C k90 w aR ae.length ae) (aL:ae.length<=aS) (h:ahm k ai aj ae a1=some r),
  Calls prog 119 #[.agg #[iV ai,iV aj,.slice aR ae.length aS],iV a1] w fun e w'=>e = .returned (.bool r)/\Below w.heap.size w w':=by
 induction k using Nat.strongRecOn with
 | _ k ih =>
 intro ai aj aR aS ae a1 r w aK aL h
 cases k with
 | zero=>exact absurd h (by simp [ahm])
 | succ k =>
 simp only [ahm] at h
 have bP:=underlying90
 have aN:=aM aK
 have bG:=aM aL
 clear aK aL
 have HB:=jb_ w
 have H:=h
 clear h
 replace H:=jD H;rcases H with ⟨bA,H⟩ | ⟨bA,H⟩
 ·obtain rfl:=oJ H
  go_enter func119,ntmps119
  go_wp2_with (first|((with_reducible refine jd 2 ?_);(try (refine aap (by rfl) ?_;dsimp only));refine jY _ 90 ?_;intro ak hg w4 aa hb;have au:=kG hg;replace HB:=kH hb;clear hb hg))
  go_ret
  exact⟨qW,qB⟩
 replace H:=jE H;rcases H with ⟨bB,bC,H⟩ | ⟨c5,bB,bC,H⟩
 ·obtain⟨t206,A6,H⟩:=qE H
  try dsimp only at H
  replace H:=jB H;rcases H with ⟨rfl,H⟩ | ⟨rfl,H⟩
  ·obtain rfl:=oJ H
   go_enter func119,ntmps119
   go_wp2_with (first|((with_reducible refine jd 2 ?_);(try (refine aap (by rfl) ?_;dsimp only));refine jY _ 90 ?_;intro ak hg w8 aa hb;have au:=kG hg;replace HB:=kH hb;clear hb hg;have cu:=jz3 aa)|((with_reducible refine jc 46 12 ?_);refine jK func46 (Sbn.calls aj 0 99999 true _ A6.out) ?_;rintro w' ⟨nd,rfl⟩))
   go_ret
   exact⟨qW,qB⟩
  obtain rfl:=oJ H
  go_enter func119,ntmps119
  go_wp2_with (first|((with_reducible refine jd 2 ?_);(try (refine aap (by rfl) ?_;dsimp only));refine jY _ 90 ?_;intro ak hg cz aa hb;have au:=kG hg;replace HB:=kH hb;clear hb hg;have bQ:=jz3 aa)|((with_reducible refine jc 46 12 ?_);refine jK func46 (Sbn.calls aj 0 99999 false _ A6.out) ?_;rintro w' ⟨nd,rfl⟩))
  go_ret
  exact⟨qW,qB⟩
 replace H:=jE H;rcases H with ⟨aY,aZ,H⟩ | ⟨c12,aY,aZ,H⟩
 ·obtain⟨aX,bH,H⟩:=qE H
  try dsimp only at H
  replace H:=jB H;rcases H with ⟨rfl,H⟩ | ⟨rfl,H⟩
  ·obtain rfl:=oJ H
   go_enter func119,ntmps119
   go_wp2_with (first|((with_reducible refine jd 2 ?_);(try (refine aap (by rfl) ?_;dsimp only));refine jY _ 90 ?_;intro ak hg cB aa hb;have au:=kG hg;replace HB:=kH hb;clear hb hg;have bR:=jz3 aa)|((with_reducible refine jc 46 24 ?_);refine jK func46 (Sbn.calls aj 0 3 true _ bH.out) ?_;rintro w' ⟨nd,rfl⟩))
   go_ret
   exact⟨qW,qB⟩
  obtain rfl:=oJ H
  go_enter func119,ntmps119
  go_wp2_with (first|((with_reducible refine jd 2 ?_);(try (refine aap (by rfl) ?_;dsimp only));refine jY _ 90 ?_;intro ak hg cK aa hb;have au:=kG hg;replace HB:=kH hb;clear hb hg;have bS:=jz3 aa)|((with_reducible refine jc 46 24 ?_);refine jK func46 (Sbn.calls aj 0 3 false _ bH.out) ?_;rintro w' ⟨nd,rfl⟩))
  go_ret
  exact⟨qW,qB⟩
 obtain⟨t208,bg,H⟩:=qE H
 try dsimp only at H
 replace H:=jB H;rcases H with ⟨rfl,H⟩ | ⟨rfl,H⟩
 ·replace H:=jE H;rcases H with ⟨bi,bn,H⟩ | ⟨c21,bi,bn,H⟩
  ·replace H:=jE H;rcases H with ⟨bq,bu,H⟩ | ⟨cO,bq,bu,H⟩
   ·replace H:=jU H;obtain⟨c23,H⟩:=H
    have bI:=decide_eq_true c23
    have bJ:decide (0 < ae.length)=true:=decide_eq_true (by omega)
    clear c23
    obtain⟨t210,bK,H⟩:=qE H
    try dsimp only at H
    replace H:=jB H;rcases H with ⟨rfl,H⟩ | ⟨rfl,H⟩
    ·replace H:=jU H;obtain⟨bL,H⟩:=H
     have bM:=decide_eq_true bL
     have bN:decide (1 < ae.length)=true:=decide_eq_true (by omega)
     clear bL
     obtain⟨t212,bT,H⟩:=qE H
     try dsimp only at H
     obtain rfl:=oJ H
     go_enter func119,ntmps119
     go_wp2_with (first|((with_reducible refine jd 2 ?_);(try (refine aap (by rfl) ?_;dsimp only));refine jY _ 90 ?_;intro ak hg df aa hb;have au:=kG hg;replace HB:=kH hb;clear hb hg;have bU:=jz3 aa)|((with_reducible refine jc 67 33 ?_);refine jK func67 (acg ai true _ bg.out) ?_;rintro w' ⟨nd,rfl⟩;have aG:0<=(0:Int):=(by omega);have aH:0 < (ae.length:Int):=qD;obtain⟨aQ,aT,aU,e209,af,ag,ah,av,ax⟩:=ahN aN.out 0 aG aH;cases e209;have bv:(0 < ae.length)=True:=eq_true (by omega);(try rw [show ((0:Int)).toNat=0 from rfl] at af);(try rw [show 0*3=0 from rfl] at af);(try rw [Addr.add_zero'] at af);(try rw [show ((0:Int)).toNat=0 from rfl] at ag);(try rw [show 0*3=0 from rfl] at ag);(try rw [Addr.add_zero'] at ag);(try rw [show ((0:Int)).toNat=0 from rfl] at ah);(try rw [show 0*3=0 from rfl] at ah);(try rw [Addr.add_zero'] at ah);replace af:=kx HB af;replace ag:=kx HB ag;replace ah:=kx HB ah;have aB:=aM ax;have aC:=aM av;clear ax av;replace aG:=eq_true aG;replace aH:=eq_true aH)|(go_at_call 119;(with_reducible refine (ih k (by omega) ((aaN ae 0).f0) ((aaN ae 0).f1) _ _ ((aaN ae 0).f2) (wrap64 (a1 - 1)) true _ ?aD ?aF bK.out).mono ?_);(case aD=>exact kC (Kd.C_below aB.out qB));(case aF=>exact aC.out);rintro e dh ⟨rfl,hb⟩;replace aa:=kB aa hb;replace HB:=kH hb;clear hb;have bV:=jz3 aa;have aV:0<=(1:Int):=(by omega);have aW:1 < (ae.length:Int):=qD;obtain⟨bz,bD,bE,e211,ay,az,aA,aI,aJ⟩:=ahN aN.out 1 aV aW;obtain rfl:aQ=bz:=(by injection e211);(try simp only [show (1:Int).toNat=1 from rfl,Nat.reduceMul,Nat.reduceEqDiff,Go.Addr.add,↓reduceIte] at ay);(try simp only [show (1:Int).toNat=1 from rfl,Nat.reduceMul,Nat.reduceEqDiff,Go.Addr.add,↓reduceIte] at az);(try simp only [show (1:Int).toNat=1 from rfl,Nat.reduceMul,Nat.reduceEqDiff,Go.Addr.add,↓reduceIte] at aA);have bO:(1 < ae.length)=True:=eq_true (by omega);(try rw [show ((1:Int)).toNat=1 from rfl] at ay);(try rw [show 1*3=3 from rfl] at ay);(try rw [show ((1:Int)).toNat=1 from rfl] at az);(try rw [show 1*3=3 from rfl] at az);(try rw [show ((1:Int)).toNat=1 from rfl] at aA);(try rw [show 1*3=3 from rfl] at aA);replace ay:=kx HB ay;replace az:=kx HB az;replace aA:=kx HB aA;have aO:=aM aJ;have aP:=aM aI;clear aJ aI;replace aV:=eq_true aV;replace aW:=eq_true aW)|(go_at_call 119;(with_reducible refine (ih k (by omega) ((aaN ae 1).f0) ((aaN ae 1).f1) _ _ ((aaN ae 1).f2) (wrap64 (a1 - 1)) t212 _ ?aD ?aF bT.out).mono ?_);(case aD=>exact kb aO HB);(case aF=>exact aP.out);rintro e w32 ⟨rfl,hb⟩;replace aa:=kB aa hb;replace HB:=kH hb;clear hb))
     go_ret
     exact⟨qW,qB⟩
    obtain rfl:=oJ H
    go_enter func119,ntmps119
    go_wp2_with (first|((with_reducible refine jd 2 ?_);(try (refine aap (by rfl) ?_;dsimp only));refine jY _ 90 ?_;intro ak hg di aa hb;have au:=kG hg;replace HB:=kH hb;clear hb hg;have bW:=jz3 aa)|((with_reducible refine jc 67 33 ?_);refine jK func67 (acg ai true _ bg.out) ?_;rintro w' ⟨nd,rfl⟩;have aG:0<=(0:Int):=(by omega);have aH:0 < (ae.length:Int):=qD;obtain⟨aQ,aT,aU,e209,af,ag,ah,av,ax⟩:=ahN aN.out 0 aG aH;cases e209;have bv:(0 < ae.length)=True:=eq_true (by omega);(try rw [show ((0:Int)).toNat=0 from rfl] at af);(try rw [show 0*3=0 from rfl] at af);(try rw [Addr.add_zero'] at af);(try rw [show ((0:Int)).toNat=0 from rfl] at ag);(try rw [show 0*3=0 from rfl] at ag);(try rw [Addr.add_zero'] at ag);(try rw [show ((0:Int)).toNat=0 from rfl] at ah);(try rw [show 0*3=0 from rfl] at ah);(try rw [Addr.add_zero'] at ah);replace af:=kx HB af;replace ag:=kx HB ag;replace ah:=kx HB ah;have aB:=aM ax;have aC:=aM av;clear ax av;replace aG:=eq_true aG;replace aH:=eq_true aH)|(go_at_call 119;(with_reducible refine (ih k (by omega) ((aaN ae 0).f0) ((aaN ae 0).f1) _ _ ((aaN ae 0).f2) (wrap64 (a1 - 1)) false _ ?aD ?aF bK.out).mono ?_);(case aD=>exact kC (Kd.C_below aB.out qB));(case aF=>exact aC.out);rintro e dn ⟨rfl,hb⟩;replace aa:=kB aa hb;replace HB:=kH hb;clear hb))
    go_ret
    exact⟨qW,qB⟩
   obtain rfl:=oJ H
   go_enter func119,ntmps119
   go_wp2_with (first|((with_reducible refine jd 2 ?_);(try (refine aap (by rfl) ?_;dsimp only));refine jY _ 90 ?_;intro ak hg dw aa hb;have au:=kG hg;replace HB:=kH hb;clear hb hg;have bX:=jz3 aa)|((with_reducible refine jc 67 33 ?_);refine jK func67 (acg ai true _ bg.out) ?_;rintro w' ⟨nd,rfl⟩))
   go_ret
   exact⟨qW,qB⟩
  obtain rfl:=oJ H
  go_enter func119,ntmps119
  go_wp2_with (first|((with_reducible refine jd 2 ?_);(try (refine aap (by rfl) ?_;dsimp only));refine jY _ 90 ?_;intro ak hg dx aa hb;have au:=kG hg;replace HB:=kH hb;clear hb hg;have bY:=jz3 aa)|((with_reducible refine jc 67 33 ?_);refine jK func67 (acg ai true _ bg.out) ?_;rintro w' ⟨nd,rfl⟩))
  go_ret
  exact⟨qW,qB⟩
 obtain rfl:=oJ H
 go_enter func119,ntmps119
 go_wp2_with (first|((with_reducible refine jd 2 ?_);(try (refine aap (by rfl) ?_;dsimp only));refine jY _ 90 ?_;intro ak hg dz aa hb;have au:=kG hg;replace HB:=kH hb;clear hb hg;have bZ:=jz3 aa)|((with_reducible refine jc 67 33 ?_);refine jK func67 (acg ai false _ bg.out) ?_;rintro w' ⟨nd,rfl⟩))
 go_ret
 exact⟨qW,qB⟩
def aiD (k:Nat) (ae af:Int) (aa:List S90):Option (Bool):=(ahm k ae af aa 5).bind fun ag=>(some ag)
theorem acE (k:Nat) (ae af:Int) (ak:Option Addr) (au:Nat) (aa:List S90) (r:Bool) (w:World) (ai:Kd.C k90 w ak aa.length aa) (aj:aa.length<=au) (h:aiD k ae af aa=some r) :
  Calls prog 108 #[.agg #[iV ae,iV af,.slice ak aa.length au]] w fun e w'=>e = .returned (.bool r)/\Below w.heap.size w w':=by
 have aC:=underlying90
 have av:=aM ai
 have ax:=aM aj
 clear ai aj
 have HB:=jb_ w
 have H:((ahm k ae af aa 5).bind fun ag=>(some ag))=some r:=h
 clear h
 obtain⟨ag,A2,H⟩:=qE H
 try dsimp only at H
 obtain rfl:=oJ H
 go_enter func108,ntmps108
 go_wp2_with (first|((with_reducible refine jd 1 ?_);refine jY _ 90 ?_;intro aA hg w3 ah hb;have aB:=kG hg;replace HB:=kH hb;clear hb hg;have aD:=jz3 ah)|((with_reducible refine jc 119 4 ?_);refine jK func119 (ala k ae af _ _ aa 5 ag _ (kb av HB) ax.out A2.out) ?_;intro w5 hb;replace ah:=kB ah hb;replace HB:=kH hb;clear hb))
 go_ret
 exact⟨qW,qB⟩
def ami (ae af:Int) (aa:List S90):Option (Bool):=if ae=0 then (if af=0 then (some ((aa.length:Int) == 0)) else (some false)) else (some false)
theorem aoN {G:Prop} (h:G:=by
  go_enter func118,ntmps118
  go_wp2_with (first|((with_reducible refine jd 1 ?_);(try (refine aap (by rfl) ?_;dsimp only));refine jY _ 90 ?_;intro az hg aD ai hb;have aA:=kG hg;replace HB:=kH hb;clear hb hg;have aF:=jz3 ai))
  go_ret
  exact⟨qW,qB⟩):G:=h
theorem ai3 (ae af:Int) (aj:Option Addr) (ak:Nat) (aa:List S90) (r:Bool) (w:World) (ag:Kd.C k90 w aj aa.length aa) (ah:aa.length<=ak) (h:ami ae af aa=some r) :
  Calls prog 118 #[.agg #[iV ae,iV af,.slice aj aa.length ak]] w fun e w'=>e = .returned (.bool r)/\Below w.heap.size w w':=by
 have aG:=underlying90
 have aB:=aM ag
 have aC:=aM ah
 clear ag ah
 have HB:=jb_ w
 have H:=h;unfold ami at H
 clear h
 replace H:=jE H;rcases H with ⟨au,av,H⟩ | ⟨c2,au,av,H⟩
 ·replace H:=jE H;rcases H with ⟨ax,ay,H⟩ | ⟨c3,ax,ay,H⟩
  ·obtain rfl:=oJ H
   exact aoN
  obtain rfl:=oJ H
  exact aoN
 obtain rfl:=oJ H
 exact aoN
def agU:Nat->Bool->Int->Int->Int->Int->Int->List S90->List S92->List S92->Option (Bool)
 | 0,_,_,_,_,_,_,_,_,_=>none
 | k+1,bY,xa,xb,xc,xd,xe,xf,xg,xh=>if bY=true then (some false) else (if xa=1 then ((agp xa xb xc xd xe xf xg xh true).bind fun bi=>(if bi=true then ((agr xa xb xc xd xe xf xg xh false).bind fun t218=>(if t218=true then ((aiD k xd xe xf).bind fun aY=>(some aY)) else (some false))) else (some false))) else (if xa=4 then ((agp xa xb xc xd xe xf xg xh false).bind fun bn=>(if bn=true then ((agr xa xb xc xd xe xf xg xh true).bind fun bq=>(if bq=true then ((aiD k xd xe xf).bind fun t222=>(some t222)) else (some false))) else (some false))) else (if xa=5 then ((agp xa xb xc xd xe xf xg xh true).bind fun bu=>(if bu=true then ((agr xa xb xc xd xe xf xg xh true).bind fun bv=>(if bv=true then ((ami xd xe xf).bind fun aZ=>(some aZ)) else (some false))) else (some false))) else (if xa=6 then ((agp xa xb xc xd xe xf xg xh false).bind fun t226=>(if t226=true then ((agr xa xb xc xd xe xf xg xh false).bind fun t227=>(if t227=true then ((ami xd xe xf).bind fun t228=>(some t228)) else (some false))) else (some false))) else (if xa=7 then ((agp xa xb xc xd xe xf xg xh false).bind fun t229=>(if t229=true then ((agr xa xb xc xd xe xf xg xh false).bind fun bz=>(if bz=true then ((aiD k xd xe xf).bind fun bg=>(some bg)) else (some false))) else (some false))) else (some false))))))
def anf (k:Nat) (az aA aB av ax:Int) (ak:List S90) (au ay:List S92):Option (Bool):=if (au.length:Int) > 0 then (agU k true az aA aB av ax ak au ay) else (agU k (decide ((ay.length:Int) > 0)) az aA aB av ax ak au ay)
theorem amh (k:Nat) (az aA aB av ax:Int) (aJ:Option Addr) (aK:Nat) (ak:List S90) (aL:Option Addr) (aN:Nat) (au:List S92) (aO:Option Addr) (aP:Nat) (ay:List S92) (r:Bool) (w:World) (aS:Kd.C k90 w aJ ak.length ak) (aT:ak.length<=aK) (aU:Kd.C k92 w aL au.length au) (aV:au.length<=aN) (aW:Kd.C k92 w aO ay.length ay) (aX:ay.length<=aP) (h:anf k az aA aB av ax ak au ay=some r) :
  Calls prog 105 #[.agg #[iV az,iV aA,iV aB,iV av,iV ax,.slice aJ ak.length aK,.slice aL au.length aN,.slice aO ay.length aP]] w fun e w'=>e = .returned (.bool r)/\Below w.heap.size w w':=by
 have cu:=underlying92
 have cz:=underlying90
 have aC:=aM aS
 have aD:=aM aT
 clear aS aT
 have aF:=aM aU
 have aG:=aM aV
 clear aU aV
 have aH:=aM aW
 have aI:=aM aX
 clear aW aX
 have HB:=jb_ w
 have H:=h;unfold anf at H
 clear h
 have bJ:=aM H
 clear H
 go_enter func105,ntmps105
 go_upto_region 1 with (first|((with_reducible refine jd 1 ?_);(try (refine aap (by rfl) ?_;dsimp only));refine jY _ 92 ?_;intro bA hg w3 aa hb;have bS:=kG hg;replace HB:=kH hb;clear hb hg))
 (try simp only [Act.put,List.setIfInBounds_toArray,List.set_cons_zero,List.set_cons_succ])
 go_cut [12] (fun v12 wc=>∃ (kq:Nat) (aQ:Bool),v12 = .bool aQ/\aa1 (agU kq aQ az aA aB av ax ak au ay=some r)/\aa1 (kq<=k)/\aa1 (wc.heap[bA]?=some (.cells #[iV az,iV aA,iV aB,iV av,iV ax,(.slice aJ ak.length aK),(.slice aL au.length aN),(.slice aO ay.length aP)] 92 (0,0)))/\aa1 (Below w.heap.size w wc))
 case first =>
  have H:=bJ.out
  clear bJ
  by_cases c4:(au.length:Int) > 0
  ·rw [if_pos c4] at H
   have aR:=decide_eq_true c4
   have bK:decide (0 < au.length)=true:=decide_eq_true (by omega)
   clear c4
   (first|rw [aR]|(simp only [aas,aaw];rw [aR])|skip)
   have H':=aM H
   clear H
   have ed:=jz8 aa
   go_wp2
   go_meet
   exact⟨_,(true),qZ,H',⟨by first|omega|exact Nat.le_refl _⟩,⟨qK aa⟩,⟨qB⟩⟩
  rw [if_neg c4] at H
  have aR:=decide_eq_false c4
  have bK:decide (0 < au.length)=false:=decide_eq_false (by omega)
  clear c4
  (first|rw [aR]|(simp only [aas,aaw];rw [aR])|skip)
  have H':=aM H
  clear H
  have ek:=jz8 aa
  go_wp2
  go_meet
  exact⟨_,(decide ((ay.length:Int) > 0)),qZ,H',⟨by first|omega|exact Nat.le_refl _⟩,⟨qK aa⟩,⟨qB⟩⟩
 clear bJ
 obtain⟨kq,aQ,rfl,HA,eu,aa,HB⟩:=hcut
 cases kq with
 | zero=>exact absurd HA.out (by simp [agU])
 | succ bL =>
  have H:=HA.out
  clear HA
  simp only [agU] at H
  replace H:=jB H;rcases H with ⟨rfl,H⟩ | ⟨rfl,H⟩
  ·obtain rfl:=oJ H
   go_wp2
   go_ret
   exact⟨qW,qB⟩
  replace H:=jE H;rcases H with ⟨bM,bN,H⟩ | ⟨c8,bM,bN,H⟩
  ·obtain⟨bi,A9,H⟩:=qE H
   try dsimp only at H
   replace H:=jB H;rcases H with ⟨rfl,H⟩ | ⟨rfl,H⟩
   ·obtain⟨t218,bT,H⟩:=qE H
    try dsimp only at H
    replace H:=jB H;rcases H with ⟨rfl,H⟩ | ⟨rfl,H⟩
    ·obtain⟨aY,cB,H⟩:=qE H
     try dsimp only at H
     obtain rfl:=oJ H
     have cK:=jz8 aa
     go_wp2_with (first|((with_reducible refine jc 106 18 ?_);refine jK func106 (aaT az aA aB av ax _ _ ak _ _ au _ _ ay true true _ (kb aC HB) aD.out (kb aF HB) aG.out (kb aH HB) aI.out A9.out) ?_;intro eB hb;replace aa:=kB aa hb;replace HB:=kH hb;clear hb;have cO:=jz8 aa)|(go_at_call 107;(with_reducible refine (abj az aA aB av ax _ _ ak _ _ au _ _ ay false true _ ?ae ?af ?ag ?ah ?ai ?aj bT.out).mono ?_);(case ae=>exact kb aC HB);(case af=>exact aD.out);(case ag=>exact kb aF HB);(case ah=>exact aG.out);(case ai=>exact kb aH HB);(case aj=>exact aI.out);rintro e eD ⟨rfl,hb⟩;replace aa:=kB aa hb;replace HB:=kH hb;clear hb;have df:=jz8 aa)|(go_at_call 108;(with_reducible refine (acE bL av ax _ _ ak aY _ ?ae ?af cB.out).mono ?_);(case ae=>exact kb aC HB);(case af=>exact aD.out);rintro e eF ⟨rfl,hb⟩;replace aa:=kB aa hb;replace HB:=kH hb;clear hb))
     go_ret
     exact⟨qW,qB⟩
    obtain rfl:=oJ H
    have dh:=jz8 aa
    go_wp2_with (first|((with_reducible refine jc 106 18 ?_);refine jK func106 (aaT az aA aB av ax _ _ ak _ _ au _ _ ay true true _ (kb aC HB) aD.out (kb aF HB) aG.out (kb aH HB) aI.out A9.out) ?_;intro eG hb;replace aa:=kB aa hb;replace HB:=kH hb;clear hb;have di:=jz8 aa)|(go_at_call 107;(with_reducible refine (abj az aA aB av ax _ _ ak _ _ au _ _ ay false false _ ?ae ?af ?ag ?ah ?ai ?aj bT.out).mono ?_);(case ae=>exact kb aC HB);(case af=>exact aD.out);(case ag=>exact kb aF HB);(case ah=>exact aG.out);(case ai=>exact kb aH HB);(case aj=>exact aI.out);rintro e eH ⟨rfl,hb⟩;replace aa:=kB aa hb;replace HB:=kH hb;clear hb))
    go_ret
    exact⟨qW,qB⟩
   obtain rfl:=oJ H
   have dn:=jz8 aa
   go_wp2_with (first|((with_reducible refine jc 106 18 ?_);refine jK func106 (aaT az aA aB av ax _ _ ak _ _ au _ _ ay true false _ (kb aC HB) aD.out (kb aF HB) aG.out (kb aH HB) aI.out A9.out) ?_;intro eO hb;replace aa:=kB aa hb;replace HB:=kH hb;clear hb))
   go_ret
   exact⟨qW,qB⟩
  replace H:=jE H;rcases H with ⟨bB,bC,H⟩ | ⟨eP,bB,bC,H⟩
  ·obtain⟨bn,bO,H⟩:=qE H
   try dsimp only at H
   replace H:=jB H;rcases H with ⟨rfl,H⟩ | ⟨rfl,H⟩
   ·obtain⟨bq,bU,H⟩:=qE H
    try dsimp only at H
    replace H:=jB H;rcases H with ⟨rfl,H⟩ | ⟨rfl,H⟩
    ·obtain⟨t222,dw,H⟩:=qE H
     try dsimp only at H
     obtain rfl:=oJ H
     have dx:=jz8 aa
     go_wp2_with (first|((with_reducible refine jc 106 31 ?_);refine jK func106 (aaT az aA aB av ax _ _ ak _ _ au _ _ ay false true _ (kb aC HB) aD.out (kb aF HB) aG.out (kb aH HB) aI.out bO.out) ?_;intro eQ hb;replace aa:=kB aa hb;replace HB:=kH hb;clear hb;have dz:=jz8 aa)|(go_at_call 107;(with_reducible refine (abj az aA aB av ax _ _ ak _ _ au _ _ ay true true _ ?ae ?af ?ag ?ah ?ai ?aj bU.out).mono ?_);(case ae=>exact kb aC HB);(case af=>exact aD.out);(case ag=>exact kb aF HB);(case ah=>exact aG.out);(case ai=>exact kb aH HB);(case aj=>exact aI.out);rintro e eT ⟨rfl,hb⟩;replace aa:=kB aa hb;replace HB:=kH hb;clear hb;have dA:=jz8 aa)|(go_at_call 108;(with_reducible refine (acE bL av ax _ _ ak t222 _ ?ae ?af dw.out).mono ?_);(case ae=>exact kb aC HB);(case af=>exact aD.out);rintro e eU ⟨rfl,hb⟩;replace aa:=kB aa hb;replace HB:=kH hb;clear hb))
     go_ret
     exact⟨qW,qB⟩
    obtain rfl:=oJ H
    have dB:=jz8 aa
    go_wp2_with (first|((with_reducible refine jc 106 31 ?_);refine jK func106 (aaT az aA aB av ax _ _ ak _ _ au _ _ ay false true _ (kb aC HB) aD.out (kb aF HB) aG.out (kb aH HB) aI.out bO.out) ?_;intro eX hb;replace aa:=kB aa hb;replace HB:=kH hb;clear hb;have dC:=jz8 aa)|(go_at_call 107;(with_reducible refine (abj az aA aB av ax _ _ ak _ _ au _ _ ay true false _ ?ae ?af ?ag ?ah ?ai ?aj bU.out).mono ?_);(case ae=>exact kb aC HB);(case af=>exact aD.out);(case ag=>exact kb aF HB);(case ah=>exact aG.out);(case ai=>exact kb aH HB);(case aj=>exact aI.out);rintro e eY ⟨rfl,hb⟩;replace aa:=kB aa hb;replace HB:=kH hb;clear hb))
    go_ret
    exact⟨qW,qB⟩
   obtain rfl:=oJ H
   have dD:=jz8 aa
   go_wp2_with (first|((with_reducible refine jc 106 31 ?_);refine jK func106 (aaT az aA aB av ax _ _ ak _ _ au _ _ ay false false _ (kb aC HB) aD.out (kb aF HB) aG.out (kb aH HB) aI.out bO.out) ?_;intro eZ hb;replace aa:=kB aa hb;replace HB:=kH hb;clear hb))
   go_ret
   exact⟨qW,qB⟩
  replace H:=jE H;rcases H with ⟨bD,bE,H⟩ | ⟨fe,bD,bE,H⟩
  ·obtain⟨bu,bP,H⟩:=qE H
   try dsimp only at H
   replace H:=jB H;rcases H with ⟨rfl,H⟩ | ⟨rfl,H⟩
   ·obtain⟨bv,bV,H⟩:=qE H
    try dsimp only at H
    replace H:=jB H;rcases H with ⟨rfl,H⟩ | ⟨rfl,H⟩
    ·obtain⟨aZ,dE,H⟩:=qE H
     try dsimp only at H
     obtain rfl:=oJ H
     have dF:=jz8 aa
     go_wp2_with (first|((with_reducible refine jc 106 44 ?_);refine jK func106 (aaT az aA aB av ax _ _ ak _ _ au _ _ ay true true _ (kb aC HB) aD.out (kb aF HB) aG.out (kb aH HB) aI.out bP.out) ?_;intro fo hb;replace aa:=kB aa hb;replace HB:=kH hb;clear hb;have dG:=jz8 aa)|(go_at_call 107;(with_reducible refine (abj az aA aB av ax _ _ ak _ _ au _ _ ay true true _ ?ae ?af ?ag ?ah ?ai ?aj bV.out).mono ?_);(case ae=>exact kb aC HB);(case af=>exact aD.out);(case ag=>exact kb aF HB);(case ah=>exact aG.out);(case ai=>exact kb aH HB);(case aj=>exact aI.out);rintro e fq ⟨rfl,hb⟩;replace aa:=kB aa hb;replace HB:=kH hb;clear hb;have dH:=jz8 aa)|(go_at_call 118;(with_reducible refine (ai3 av ax _ _ ak aZ _ ?ae ?af dE.out).mono ?_);(case ae=>exact kb aC HB);(case af=>exact aD.out);rintro e fu ⟨rfl,hb⟩;replace aa:=kB aa hb;replace HB:=kH hb;clear hb))
     go_ret
     exact⟨qW,qB⟩
    obtain rfl:=oJ H
    have dI:=jz8 aa
    go_wp2_with (first|((with_reducible refine jc 106 44 ?_);refine jK func106 (aaT az aA aB av ax _ _ ak _ _ au _ _ ay true true _ (kb aC HB) aD.out (kb aF HB) aG.out (kb aH HB) aI.out bP.out) ?_;intro fw hb;replace aa:=kB aa hb;replace HB:=kH hb;clear hb;have dJ:=jz8 aa)|(go_at_call 107;(with_reducible refine (abj az aA aB av ax _ _ ak _ _ au _ _ ay true false _ ?ae ?af ?ag ?ah ?ai ?aj bV.out).mono ?_);(case ae=>exact kb aC HB);(case af=>exact aD.out);(case ag=>exact kb aF HB);(case ah=>exact aG.out);(case ai=>exact kb aH HB);(case aj=>exact aI.out);rintro e fA ⟨rfl,hb⟩;replace aa:=kB aa hb;replace HB:=kH hb;clear hb))
    go_ret
    exact⟨qW,qB⟩
   obtain rfl:=oJ H
   have dK:=jz8 aa
   go_wp2_with (first|((with_reducible refine jc 106 44 ?_);refine jK func106 (aaT az aA aB av ax _ _ ak _ _ au _ _ ay true false _ (kb aC HB) aD.out (kb aF HB) aG.out (kb aH HB) aI.out bP.out) ?_;intro fB hb;replace aa:=kB aa hb;replace HB:=kH hb;clear hb))
   go_ret
   exact⟨qW,qB⟩
  replace H:=jE H;rcases H with ⟨bF,bG,H⟩ | ⟨fC,bF,bG,H⟩
  ·obtain⟨t226,bQ,H⟩:=qE H
   try dsimp only at H
   replace H:=jB H;rcases H with ⟨rfl,H⟩ | ⟨rfl,H⟩
   ·obtain⟨t227,bW,H⟩:=qE H
    try dsimp only at H
    replace H:=jB H;rcases H with ⟨rfl,H⟩ | ⟨rfl,H⟩
    ·obtain⟨t228,dL,H⟩:=qE H
     try dsimp only at H
     obtain rfl:=oJ H
     have dM:=jz8 aa
     go_wp2_with (first|((with_reducible refine jc 106 57 ?_);refine jK func106 (aaT az aA aB av ax _ _ ak _ _ au _ _ ay false true _ (kb aC HB) aD.out (kb aF HB) aG.out (kb aH HB) aI.out bQ.out) ?_;intro fD hb;replace aa:=kB aa hb;replace HB:=kH hb;clear hb;have dN:=jz8 aa)|(go_at_call 107;(with_reducible refine (abj az aA aB av ax _ _ ak _ _ au _ _ ay false true _ ?ae ?af ?ag ?ah ?ai ?aj bW.out).mono ?_);(case ae=>exact kb aC HB);(case af=>exact aD.out);(case ag=>exact kb aF HB);(case ah=>exact aG.out);(case ai=>exact kb aH HB);(case aj=>exact aI.out);rintro e fE ⟨rfl,hb⟩;replace aa:=kB aa hb;replace HB:=kH hb;clear hb;have dO:=jz8 aa)|(go_at_call 118;(with_reducible refine (ai3 av ax _ _ ak t228 _ ?ae ?af dL.out).mono ?_);(case ae=>exact kb aC HB);(case af=>exact aD.out);rintro e fF ⟨rfl,hb⟩;replace aa:=kB aa hb;replace HB:=kH hb;clear hb))
     go_ret
     exact⟨qW,qB⟩
    obtain rfl:=oJ H
    have dP:=jz8 aa
    go_wp2_with (first|((with_reducible refine jc 106 57 ?_);refine jK func106 (aaT az aA aB av ax _ _ ak _ _ au _ _ ay false true _ (kb aC HB) aD.out (kb aF HB) aG.out (kb aH HB) aI.out bQ.out) ?_;intro fG hb;replace aa:=kB aa hb;replace HB:=kH hb;clear hb;have dQ:=jz8 aa)|(go_at_call 107;(with_reducible refine (abj az aA aB av ax _ _ ak _ _ au _ _ ay false false _ ?ae ?af ?ag ?ah ?ai ?aj bW.out).mono ?_);(case ae=>exact kb aC HB);(case af=>exact aD.out);(case ag=>exact kb aF HB);(case ah=>exact aG.out);(case ai=>exact kb aH HB);(case aj=>exact aI.out);rintro e fH ⟨rfl,hb⟩;replace aa:=kB aa hb;replace HB:=kH hb;clear hb))
    go_ret
    exact⟨qW,qB⟩
   obtain rfl:=oJ H
   have dR:=jz8 aa
   go_wp2_with (first|((with_reducible refine jc 106 57 ?_);refine jK func106 (aaT az aA aB av ax _ _ ak _ _ au _ _ ay false false _ (kb aC HB) aD.out (kb aF HB) aG.out (kb aH HB) aI.out bQ.out) ?_;intro fI hb;replace aa:=kB aa hb;replace HB:=kH hb;clear hb))
   go_ret
   exact⟨qW,qB⟩
  replace H:=jE H;rcases H with ⟨bH,bI,H⟩ | ⟨c80,bH,bI,H⟩
  ·obtain⟨t229,bR,H⟩:=qE H
   try dsimp only at H
   replace H:=jB H;rcases H with ⟨rfl,H⟩ | ⟨rfl,H⟩
   ·obtain⟨bz,bX,H⟩:=qE H
    try dsimp only at H
    replace H:=jB H;rcases H with ⟨rfl,H⟩ | ⟨rfl,H⟩
    ·obtain⟨bg,dS,H⟩:=qE H
     try dsimp only at H
     obtain rfl:=oJ H
     have dU:=jz8 aa
     go_wp2_with (first|((with_reducible refine jc 106 70 ?_);refine jK func106 (aaT az aA aB av ax _ _ ak _ _ au _ _ ay false true _ (kb aC HB) aD.out (kb aF HB) aG.out (kb aH HB) aI.out bR.out) ?_;intro fJ hb;replace aa:=kB aa hb;replace HB:=kH hb;clear hb;have dV:=jz8 aa)|(go_at_call 107;(with_reducible refine (abj az aA aB av ax _ _ ak _ _ au _ _ ay false true _ ?ae ?af ?ag ?ah ?ai ?aj bX.out).mono ?_);(case ae=>exact kb aC HB);(case af=>exact aD.out);(case ag=>exact kb aF HB);(case ah=>exact aG.out);(case ai=>exact kb aH HB);(case aj=>exact aI.out);rintro e fK ⟨rfl,hb⟩;replace aa:=kB aa hb;replace HB:=kH hb;clear hb;have dW:=jz8 aa)|(go_at_call 108;(with_reducible refine (acE bL av ax _ _ ak bg _ ?ae ?af dS.out).mono ?_);(case ae=>exact kb aC HB);(case af=>exact aD.out);rintro e fM ⟨rfl,hb⟩;replace aa:=kB aa hb;replace HB:=kH hb;clear hb))
     go_ret
     exact⟨qW,qB⟩
    obtain rfl:=oJ H
    have dX:=jz8 aa
    go_wp2_with (first|((with_reducible refine jc 106 70 ?_);refine jK func106 (aaT az aA aB av ax _ _ ak _ _ au _ _ ay false true _ (kb aC HB) aD.out (kb aF HB) aG.out (kb aH HB) aI.out bR.out) ?_;intro fO hb;replace aa:=kB aa hb;replace HB:=kH hb;clear hb;have dY:=jz8 aa)|(go_at_call 107;(with_reducible refine (abj az aA aB av ax _ _ ak _ _ au _ _ ay false false _ ?ae ?af ?ag ?ah ?ai ?aj bX.out).mono ?_);(case ae=>exact kb aC HB);(case af=>exact aD.out);(case ag=>exact kb aF HB);(case ah=>exact aG.out);(case ai=>exact kb aH HB);(case aj=>exact aI.out);rintro e fP ⟨rfl,hb⟩;replace aa:=kB aa hb;replace HB:=kH hb;clear hb))
    go_ret
    exact⟨qW,qB⟩
   obtain rfl:=oJ H
   have dZ:=jz8 aa
   go_wp2_with (first|((with_reducible refine jc 106 70 ?_);refine jK func106 (aaT az aA aB av ax _ _ ak _ _ au _ _ ay false false _ (kb aC HB) aD.out (kb aF HB) aG.out (kb aH HB) aI.out bR.out) ?_;intro fQ hb;replace aa:=kB aa hb;replace HB:=kH hb;clear hb))
   go_ret
   exact⟨qW,qB⟩
  obtain rfl:=oJ H
  have d9:=jz8 aa
  go_wp2
  go_ret
  exact⟨qW,qB⟩
mutual
def adN:Nat->Int->Bool->Int->Int->Int->Int->Int->List S90->List S92->List S92->Option (Bool)
 | 0,_,_,_,_,_,_,_,_,_,_=>none
 | k+1,x1,dL,xa,xb,xc,xd,xe,xf,xg,xh=>if dL=true then ((anf k xa xb xc xd xe xf xg xh).bind fun t233=>(some t233)) else (if x1 < 1 then (afa k x1 true xa xb xc xd xe xf xg xh) else (if xa=3 then (afa k x1 (decide ((xh.length:Int) > 0)) xa xb xc xd xe xf xg xh) else (afa k x1 false xa xb xc xd xe xf xg xh)))
def afa:Nat->Int->Bool->Int->Int->Int->Int->Int->List S90->List S92->List S92->Option (Bool)
 | 0,_,_,_,_,_,_,_,_,_,_=>none
 | k+1,x1,x27,xa,xb,xc,xd,xe,xf,xg,xh=>if x27=true then (some false) else ((agp xa xb xc xd xe xf xg xh false).bind fun t234=>(if t234=true then ((agr xa xb xc xd xe xf xg xh false).bind fun cO=>(if cO=true then ((aiD k xd xe xf).bind fun t236=>(if t236=true then ((SaB.f k xg (wrap64 (x1 - 1))).bind fun df=>(if df=true then ((SaB.f k xh (wrap64 (x1 - 1))).bind fun cu=>(some cu)) else (some false))) else (some false))) else (some false))) else (some false)))
def agq:Nat->Int->Int->Int->Int->Int->List S90->List S92->List S92->Int->Option (Bool)
 | 0,_,_,_,_,_,_,_,_,_=>none
 | k+1,av,aC,aD,az,aA,au,ax,ay,a1=>if av=2 then (adN k a1 false av aC aD az aA au ax ay) else (adN k a1 (av != 3) av aC aD az aA au ax ay)
def aeC:Nat->List S92->Int->Int->Option (Bool)
 | 0,_,_,_=>none
 | k+1,x0,x1,x5=>if x5 < (x0.length:Int) then (if 0<=x5 then ((agq k ((aao x0 x5).f0) ((aao x0 x5).f1) ((aao x0 x5).f2) ((aao x0 x5).f3.f0) ((aao x0 x5).f3.f1) ((aao x0 x5).f3.f2) ((aao x0 x5).f4) ((aao x0 x5).f5) x1).bind fun dh=>(if dh=true then (aeC k x0 x1 (wrap64 (x5+1))) else (some false))) else (none)) else (some true)
def SaB.f:Nat->List S92->Int->Option (Bool)
 | 0,_,_=>none
 | k+1,l0,a1=>aeC k l0 a1 0
end
@[reducible] def afu (k:Nat):Prop:=∀ (av:Int) (aC:Int) (aD:Int) (az:Int) (aA:Int) (bi:Option Addr) (bn:Nat) (au:List S90) (bq:Option Addr) (bu:Nat) (ax:List S92) (bv:Option Addr) (bz:Nat) (ay:List S92) (a1:Int) (r:Bool) (w:World) (bR:Kd.C k90 w bi au.length au) (bS:au.length<=bn) (bT:Kd.C k92 w bq ax.length ax) (bU:ax.length<=bu) (bV:Kd.C k92 w bv ay.length ay) (bW:ay.length<=bz) (h:agq k av aC aD az aA au ax ay a1=some r),
  Calls prog 88 #[.agg #[iV av,iV aC,iV aD,iV az,iV aA,.slice bi au.length bn,.slice bq ax.length bu,.slice bv ay.length bz],iV a1] w fun e w'=>e = .returned (.bool r)/\Below w.heap.size w w'
@[reducible] def SaB.stmt (k:Nat):Prop:=∀ (A0:Option Addr) (c0:Nat) (l0:List S92) (a1:Int) (r:Bool) (w:World) (hr0:Kd.C k92 w A0 l0.length l0) (hc0:l0.length<=c0) (h:SaB.f k l0 a1=some r),
  Calls prog 80 #[.slice A0 l0.length c0,iV a1] w fun e w'=>e = .returned (.bool r)/\Below w.heap.size w w'
theorem SaE.step (k:Nat) (aB:∀ m_,m_ < k->SaB.stmt m_) (ih:∀ m_,m_ < k->afu m_):afu k:=by
 intro av aC aD az aA bi bn au bq bu ax bv bz ay a1 r w bR bS bT bU bV bW h
 cases k with
 | zero=>exact absurd h (by simp [agq])
 | succ k =>
 simp only [agq] at h
 have dB:=underlying92
 have dM:=underlying90
 have aF:=aM bR
 have aG:=aM bS
 clear bR bS
 have aH:=aM bT
 have aI:=aM bU
 clear bT bU
 have aJ:=aM bV
 have aK:=aM bW
 clear bV bW
 have HB:=jb_ w
 have H:(if av=2 then (adN k a1 false av aC aD az aA au ax ay) else (adN k a1 (av != 3) av aC aD az aA au ax ay))=some r:=h
 clear h
 have dC:=aM H
 clear H
 go_enter func88,ntmps88
 go_upto_region 1 with (first|((with_reducible refine jd 2 ?_);(try (refine aap (by rfl) ?_;dsimp only));refine jY _ 92 ?_;intro bZ hg w4 aa hb;have dH:=kG hg;replace HB:=kH hb;clear hb hg))
 (try simp only [Act.put,List.setIfInBounds_toArray,List.set_cons_zero,List.set_cons_succ])
 go_cut [12] (fun v12 wc=>∃ (kq:Nat) (bX:Bool),v12 = .bool bX/\aa1 (adN kq a1 bX av aC aD az aA au ax ay=some r)/\aa1 (kq<=k)/\aa1 (wc.heap[bZ]?=some (.cells #[iV av,iV aC,iV aD,iV az,iV aA,(.slice bi au.length bn),(.slice bq ax.length bu),(.slice bv ay.length bz)] 92 (0,0)))/\aa1 (Below w.heap.size w wc))
 case first =>
  have H:=dC.out
  clear dC
  replace H:=jE H;rcases H with ⟨bY,dD,H⟩ | ⟨c5,bY,dD,H⟩
  ·(first|rw [bY]|(simp only [aas,aaw];rw [bY])|skip)
   have H':=aM H
   clear H
   have eP:=jz8 aa
   go_wp2
   go_meet
   exact⟨_,(false),qZ,H',⟨by first|omega|exact Nat.le_refl _⟩,⟨qK aa⟩,⟨qB⟩⟩
  (first|rw [bY]|(simp only [aas,aaw];rw [bY])|skip)
  have H':=aM H
  clear H
  have eQ:=jz8 aa
  go_wp2
  go_meet
  exact⟨_,((av != 3)),qZ,H',⟨by first|omega|exact Nat.le_refl _⟩,⟨qK aa⟩,⟨qB⟩⟩
 clear dC
 obtain⟨kq,bX,rfl,HA,HJ2,aa,HB⟩:=hcut
 cases kq with
 | zero=>exact absurd HA.out (by simp [adN])
 | succ dI =>
  have H:=HA.out
  clear HA
  simp only [adN] at H
  replace H:=jB H;rcases H with ⟨rfl,H⟩ | ⟨rfl,H⟩
  ·obtain⟨t233,A9,H⟩:=qE H
   try dsimp only at H
   obtain rfl:=oJ H
   have dN:=jz8 aa
   go_wp2_with (first|((with_reducible refine jc 105 14 ?_);refine jK func105 (amh dI av aC aD az aA _ _ au _ _ ax _ _ ay t233 _ (kb aF HB) aG.out (kb aH HB) aI.out (kb aJ HB) aK.out A9.out) ?_;intro eT hb;replace aa:=kB aa hb;replace HB:=kH hb;clear hb))
   go_ret
   exact⟨qW,qB⟩
  have cz:=aM H
  clear H
  go_upto_region 3 with (fail)
  go_cut [27] (fun v27 wc=>∃ (kq:Nat) (bH:Bool),v27 = .bool bH/\aa1 (afa kq a1 bH av aC aD az aA au ax ay=some r)/\aa1 (kq<=dI)/\aa1 (wc.heap[bZ]?=some (.cells #[iV av,iV aC,iV aD,iV az,iV aA,(.slice bi au.length bn),(.slice bq ax.length bu),(.slice bv ay.length bz)] 92 (0,0)))/\aa1 (Below w.heap.size w wc))
  case first =>
   have H:=cz.out
   clear cz
   replace H:=jD H;rcases H with ⟨bG,H⟩ | ⟨bG,H⟩
   ·(first|rw [bG]|(simp only [aas,aaw];rw [bG])|skip)
    have H':=aM H
    clear H
    go_wp2
    go_meet
    exact⟨_,(true),qZ,H',⟨by have:=HJ2.out;first|omega|exact Nat.le_refl _⟩,⟨qK aa⟩,⟨qB⟩⟩
   (first|rw [bG]|(simp only [aas,aaw];rw [bG])|skip)
   replace H:=jE H;rcases H with ⟨di,dn,H⟩ | ⟨c14,di,dn,H⟩
   ·have H':=aM H
    clear H
    have dO:=jz8 aa
    go_wp2
    go_meet
    exact⟨_,(decide ((ay.length:Int) > 0)),qZ,H',⟨by have:=HJ2.out;first|omega|exact Nat.le_refl _⟩,⟨qK aa⟩,⟨qB⟩⟩
   have H':=aM H
   clear H
   have dP:=jz8 aa
   go_wp2
   go_meet
   exact⟨_,(false),qZ,H',⟨by have:=HJ2.out;first|omega|exact Nat.le_refl _⟩,⟨qK aa⟩,⟨qB⟩⟩
  clear cz
  obtain⟨kq,bH,rfl,HA,cB,aa,HB⟩:=hcut
  cases kq with
  | zero=>exact absurd HA.out (by simp [afa])
  | succ bQ =>
   have H:=HA.out
   clear HA
   simp only [afa] at H
   replace H:=jB H;rcases H with ⟨rfl,H⟩ | ⟨rfl,H⟩
   ·obtain rfl:=oJ H
    go_wp2
    go_ret
    exact⟨qW,qB⟩
   obtain⟨t234,dw,H⟩:=qE H
   try dsimp only at H
   replace H:=jB H;rcases H with ⟨rfl,H⟩ | ⟨rfl,H⟩
   ·obtain⟨cO,dz,H⟩:=qE H
    try dsimp only at H
    replace H:=jB H;rcases H with ⟨rfl,H⟩ | ⟨rfl,H⟩
    ·obtain⟨t236,dE,H⟩:=qE H
     try dsimp only at H
     replace H:=jB H;rcases H with ⟨rfl,H⟩ | ⟨rfl,H⟩
     ·obtain⟨df,dJ,H⟩:=qE H
      try dsimp only at H
      replace H:=jB H;rcases H with ⟨rfl,H⟩ | ⟨rfl,H⟩
      ·obtain⟨cu,dQ,H⟩:=qE H
       try dsimp only at H
       obtain rfl:=oJ H
       have dR:=jz8 aa
       go_wp2_with (first|((with_reducible refine jc 106 29 ?_);refine jK func106 (aaT av aC aD az aA _ _ au _ _ ax _ _ ay false true _ (kb aF HB) aG.out (kb aH HB) aI.out (kb aJ HB) aK.out dw.out) ?_;intro eU hb;replace aa:=kB aa hb;replace HB:=kH hb;clear hb;have dS:=jz8 aa)|(go_at_call 107;(with_reducible refine (abj av aC aD az aA _ _ au _ _ ax _ _ ay false true _ ?ae ?af ?ah ?ai ?aj ?ak dz.out).mono ?_);(case ae=>exact kb aF HB);(case af=>exact aG.out);(case ah=>exact kb aH HB);(case ai=>exact aI.out);(case aj=>exact kb aJ HB);(case ak=>exact aK.out);rintro e eX ⟨rfl,hb⟩;replace aa:=kB aa hb;replace HB:=kH hb;clear hb;have dU:=jz8 aa)|(go_at_call 108;(with_reducible refine (acE bQ az aA _ _ au true _ ?ae ?af dE.out).mono ?_);(case ae=>exact kb aF HB);(case af=>exact aG.out);rintro e w32 ⟨rfl,hb⟩;replace aa:=kB aa hb;replace HB:=kH hb;clear hb;have dV:=jz8 aa)|(go_at_call 80;(with_reducible refine (aB bQ (by have:=HJ2.out;have:=cB.out;omega) _ _ ax (wrap64 (a1 - 1)) true _ ?ae ?af dJ.out).mono ?_);(case ae=>exact kb aH HB);(case af=>exact aI.out);rintro e eY ⟨rfl,hb⟩;replace aa:=kB aa hb;replace HB:=kH hb;clear hb;have dW:=jz8 aa)|(go_at_call 80;(with_reducible refine (aB bQ (by have:=HJ2.out;have:=cB.out;omega) _ _ ay (wrap64 (a1 - 1)) cu _ ?ae ?af dQ.out).mono ?_);(case ae=>exact kb aJ HB);(case af=>exact aK.out);rintro e eZ ⟨rfl,hb⟩;replace aa:=kB aa hb;replace HB:=kH hb;clear hb))
       go_ret
       exact⟨qW,qB⟩
      obtain rfl:=oJ H
      have dX:=jz8 aa
      go_wp2_with (first|((with_reducible refine jc 106 29 ?_);refine jK func106 (aaT av aC aD az aA _ _ au _ _ ax _ _ ay false true _ (kb aF HB) aG.out (kb aH HB) aI.out (kb aJ HB) aK.out dw.out) ?_;intro fe hb;replace aa:=kB aa hb;replace HB:=kH hb;clear hb;have dY:=jz8 aa)|(go_at_call 107;(with_reducible refine (abj av aC aD az aA _ _ au _ _ ax _ _ ay false true _ ?ae ?af ?ah ?ai ?aj ?ak dz.out).mono ?_);(case ae=>exact kb aF HB);(case af=>exact aG.out);(case ah=>exact kb aH HB);(case ai=>exact aI.out);(case aj=>exact kb aJ HB);(case ak=>exact aK.out);rintro e fo ⟨rfl,hb⟩;replace aa:=kB aa hb;replace HB:=kH hb;clear hb;have dZ:=jz8 aa)|(go_at_call 108;(with_reducible refine (acE bQ az aA _ _ au true _ ?ae ?af dE.out).mono ?_);(case ae=>exact kb aF HB);(case af=>exact aG.out);rintro e fq ⟨rfl,hb⟩;replace aa:=kB aa hb;replace HB:=kH hb;clear hb;have d9:=jz8 aa)|(go_at_call 80;(with_reducible refine (aB bQ (by have:=HJ2.out;have:=cB.out;omega) _ _ ax (wrap64 (a1 - 1)) false _ ?ae ?af dJ.out).mono ?_);(case ae=>exact kb aH HB);(case af=>exact aI.out);rintro e fu ⟨rfl,hb⟩;replace aa:=kB aa hb;replace HB:=kH hb;clear hb))
      go_ret
      exact⟨qW,qB⟩
     obtain rfl:=oJ H
     have ed:=jz8 aa
     go_wp2_with (first|((with_reducible refine jc 106 29 ?_);refine jK func106 (aaT av aC aD az aA _ _ au _ _ ax _ _ ay false true _ (kb aF HB) aG.out (kb aH HB) aI.out (kb aJ HB) aK.out dw.out) ?_;intro fw hb;replace aa:=kB aa hb;replace HB:=kH hb;clear hb;have ek:=jz8 aa)|(go_at_call 107;(with_reducible refine (abj av aC aD az aA _ _ au _ _ ax _ _ ay false true _ ?ae ?af ?ah ?ai ?aj ?ak dz.out).mono ?_);(case ae=>exact kb aF HB);(case af=>exact aG.out);(case ah=>exact kb aH HB);(case ai=>exact aI.out);(case aj=>exact kb aJ HB);(case ak=>exact aK.out);rintro e fA ⟨rfl,hb⟩;replace aa:=kB aa hb;replace HB:=kH hb;clear hb;have eu:=jz8 aa)|(go_at_call 108;(with_reducible refine (acE bQ az aA _ _ au false _ ?ae ?af dE.out).mono ?_);(case ae=>exact kb aF HB);(case af=>exact aG.out);rintro e fB ⟨rfl,hb⟩;replace aa:=kB aa hb;replace HB:=kH hb;clear hb))
     go_ret
     exact⟨qW,qB⟩
    obtain rfl:=oJ H
    have eB:=jz8 aa
    go_wp2_with (first|((with_reducible refine jc 106 29 ?_);refine jK func106 (aaT av aC aD az aA _ _ au _ _ ax _ _ ay false true _ (kb aF HB) aG.out (kb aH HB) aI.out (kb aJ HB) aK.out dw.out) ?_;intro fC hb;replace aa:=kB aa hb;replace HB:=kH hb;clear hb;have eD:=jz8 aa)|(go_at_call 107;(with_reducible refine (abj av aC aD az aA _ _ au _ _ ax _ _ ay false false _ ?ae ?af ?ah ?ai ?aj ?ak dz.out).mono ?_);(case ae=>exact kb aF HB);(case af=>exact aG.out);(case ah=>exact kb aH HB);(case ai=>exact aI.out);(case aj=>exact kb aJ HB);(case ak=>exact aK.out);rintro e fD ⟨rfl,hb⟩;replace aa:=kB aa hb;replace HB:=kH hb;clear hb))
    go_ret
    exact⟨qW,qB⟩
   obtain rfl:=oJ H
   have eF:=jz8 aa
   go_wp2_with (first|((with_reducible refine jc 106 29 ?_);refine jK func106 (aaT av aC aD az aA _ _ au _ _ ax _ _ ay false false _ (kb aF HB) aG.out (kb aH HB) aI.out (kb aJ HB) aK.out dw.out) ?_;intro fE hb;replace aa:=kB aa hb;replace HB:=kH hb;clear hb))
   go_ret
   exact⟨qW,qB⟩
theorem SaB.step (k:Nat) (ih:∀ m_,m_ < k->SaB.stmt m_) (aL:∀ m_,m_ < k->afu m_):SaB.stmt k:=by
 intro A0 c0 l0 a1 r w hr0 hc0 h
 cases k with
 | zero=>exact absurd h (by simp [SaB.f])
 | succ k =>
 simp only [SaB.f] at h
 have dB:=underlying92
 have dK:=aM hr0
 have fF:=aM hc0
 clear hr0 hc0
 have HB:=jb_ w
 have H:(aeC k l0 a1 0)=some r:=h
 clear h
 have H':=aM H
 clear H
 go_enter func80,ntmps80
 go_wp2
 go_loopg [5] k (fun kq v5 w'=>∃ (ag:Int),v5 = iV ag/\aa1 (aeC kq l0 a1 ag=some r)/\aa1 (kq<=k)/\aa1 (Below w.heap.size w w'))
 case atStart=>exact⟨(0),qZ,H',⟨Nat.le_refl _⟩,⟨qB⟩⟩
 clear H'
 obtain⟨ag,rfl,HA,dA,HB⟩:=hrel
 rcases gk with _|k1
 ·exact absurd HA.out (by simp [aeC])
 have H:=HA.out
 clear HA
 simp only [aeC] at H
 replace H:=jD H;rcases H with ⟨dF,H⟩ | ⟨dF,H⟩
 ·replace H:=jI H;obtain⟨eG,H⟩:=H
  obtain⟨dh,A5,H⟩:=qE H
  try dsimp only at H
  replace H:=jB H;rcases H with ⟨rfl,H⟩ | ⟨rfl,H⟩
  ·have H':=aM H
   clear H
   have bI:0<=(ag:Int):=qD
   have bJ:ag < (l0.length:Int):=qD
   obtain⟨dx,bK,bL,bM,bN,bO,bP,cK,aN,aO,aP,aQ,aR,aS,aT,aU,aV,aW,aX,aY,aZ,bg⟩:=ahM dK.out ag bI bJ
   cases cK
   replace aN:=kx HB aN
   replace aO:=kx HB aO
   replace aP:=kx HB aP
   replace aQ:=kx HB aQ
   replace aR:=kx HB aR
   replace aS:=kx HB aS
   replace aT:=kx HB aT
   replace aU:=kx HB aU
   have bA:=aM aW
   have bB:=aM aV
   clear aW aV
   have bC:=aM aY
   have bD:=aM aX
   clear aY aX
   have bE:=aM bg
   have bF:=aM aZ
   clear bg aZ
   replace bI:=eq_true bI
   replace bJ:=eq_true bJ
   go_wp2_with (first|((with_reducible refine jc 88 17 ?_);refine jK func88 (aL k1 (by have:=dA.out;omega) ((aao l0 ag).f0) ((aao l0 ag).f1) ((aao l0 ag).f2) ((aao l0 ag).f3.f0) ((aao l0 ag).f3.f1) _ _ ((aao l0 ag).f3.f2) _ _ ((aao l0 ag).f4) _ _ ((aao l0 ag).f5) a1 true _ (kb bA HB) bB.out (kb bC HB) bD.out (kb bE HB) bF.out A5.out) ?_;intro dG hb;replace HB:=kH hb;clear hb))
   go_roundg k1
   case measure=>have:=dA.out;omega
   exact⟨_,qZ,H',⟨by have:=dA.out;omega⟩,⟨qB⟩⟩
  obtain rfl:=oJ H
  have bI:0<=(ag:Int):=qD
  have bJ:ag < (l0.length:Int):=qD
  obtain⟨dx,bK,bL,bM,bN,bO,bP,cK,aN,aO,aP,aQ,aR,aS,aT,aU,aV,aW,aX,aY,aZ,bg⟩:=ahM dK.out ag bI bJ
  cases cK
  replace aN:=kx HB aN
  replace aO:=kx HB aO
  replace aP:=kx HB aP
  replace aQ:=kx HB aQ
  replace aR:=kx HB aR
  replace aS:=kx HB aS
  replace aT:=kx HB aT
  replace aU:=kx HB aU
  have bA:=aM aW
  have bB:=aM aV
  clear aW aV
  have bC:=aM aY
  have bD:=aM aX
  clear aY aX
  have bE:=aM bg
  have bF:=aM aZ
  clear bg aZ
  replace bI:=eq_true bI
  replace bJ:=eq_true bJ
  go_wp2_with (first|((with_reducible refine jc 88 17 ?_);refine jK func88 (aL k1 (by have:=dA.out;omega) ((aao l0 ag).f0) ((aao l0 ag).f1) ((aao l0 ag).f2) ((aao l0 ag).f3.f0) ((aao l0 ag).f3.f1) _ _ ((aao l0 ag).f3.f2) _ _ ((aao l0 ag).f4) _ _ ((aao l0 ag).f5) a1 false _ (kb bA HB) bB.out (kb bC HB) bD.out (kb bE HB) bF.out A5.out) ?_;intro dG hb;replace HB:=kH hb;clear hb))
  go_ret
  exact⟨qW,qB⟩
 obtain rfl:=oJ H
 go_wp2
 go_ret
 exact⟨qW,qB⟩
theorem SaE.grp.calls (k:Nat):afu k/\SaB.stmt k:=by
 induction k using Nat.strongRecOn with
 | _ k ih=>exact⟨SaE.step k (fun m_ h_=>(ih m_ h_).2) (fun m_ h_=>(ih m_ h_).1),SaB.step k (fun m_ h_=>(ih m_ h_).2) (fun m_ h_=>(ih m_ h_).1)⟩
theorem ai4 (k:Nat):SaB.stmt k:=(SaE.grp.calls k).2
def alT (k:Nat) (l0:List S92):Option (Bool):=(SaB.f k l0 3).bind fun ag=>(if ag=true then ((SaD.f k l0).bind fun af=>(some (decide (af<=16)))) else (some false))
theorem ahY (k:Nat) (A0:Option Addr) (c0:Nat) (l0:List S92) (r:Bool) (w:World) (hr0:Kd.C k92 w A0 l0.length l0) (hc0:l0.length<=c0) (h:alT k l0=some r) :
  Calls prog 71 #[.slice A0 l0.length c0] w fun e w'=>e = .returned (.bool r)/\Below w.heap.size w w':=by
 have ah:=aM hr0
 have ai:=aM hc0
 clear hr0 hc0
 have HB:=jb_ w
 have H:=h;unfold alT at H
 clear h
 obtain⟨ag,A2,H⟩:=qE H
 try dsimp only at H
 replace H:=jB H;rcases H with ⟨rfl,H⟩ | ⟨rfl,H⟩
 ·obtain⟨af,A4,H⟩:=qE H
  try dsimp only at H
  obtain rfl:=oJ H
  go_enter func71,ntmps71
  go_wp2_with (first|((with_reducible refine jc 80 4 ?_);refine jK func80 (ai4 k _ _ l0 3 true _ (kC ah.out) ai.out A2.out) ?_;intro w5 hb;replace HB:=kH hb;clear hb)|(go_at_call 74;(with_reducible refine (SaD.calls k _ _ l0 af _ ?aa ?ae A4.out).mono ?_);(case aa=>exact kb ah HB);(case ae=>exact ai.out);rintro e w6 ⟨rfl,hb⟩;replace HB:=kH hb;clear hb))
  go_ret
  exact⟨qW,qB⟩
 obtain rfl:=oJ H
 go_enter func71,ntmps71
 go_wp2_with (first|((with_reducible refine jc 80 4 ?_);refine jK func80 (ai4 k _ _ l0 3 false _ (kC ah.out) ai.out A2.out) ?_;intro w7 hb;replace HB:=kH hb;clear hb))
 go_ret
 exact⟨qW,qB⟩
end Go.Proofs.YtebpplallecogaaGreat.M
namespace Go.Proofs.YtebpplallecogaaGreat.M
open Go.Proofs.Tryz Go.RowKit Go.Proofs.YtebpplallecogaaGreatW.PrintWords Go.Proofs.YtebpplallecogaaGreatW.PrintLast Go.Proofs.YtebpplallecogaaGreatW.PrintMore Kd
attribute [local go_sem] aal aaj aaz aay aae aad aak aai
def adT:Nat->Int->Int->List S90->Int->Option ((List S27))
 | 0,_,_,_,_=>none
 | k+1,aG,ag,ae,a1=>if aG=0 then (some (([(⟨1,a1,0,0,ag⟩:S27)]:List S27))) else (if aG=13 then (some (([(⟨2,a1,ag,0,0⟩:S27)]:List S27))) else (if 0 < (ae.length:Int) then ((adT k ((aaN ae 0).f0) ((aaN ae 0).f1) ((aaN ae 0).f2) a1).bind fun aZ=>(if 1 < (ae.length:Int) then ((adT k ((aaN ae 1).f0) ((aaN ae 1).f1) ((aaN ae 1).f2) (wrap64 (a1+1))).bind fun aK=>(if aZ.length+aK.length < 3518437208883 then ((some (aZ ++ aK:List S27)).bind fun bi=>(if bi.length < 3518437208883 then (some (bi ++ [(⟨3,a1,a1,wrap64 (a1+1),aG⟩:S27)])) else (none))) else (none))) else (none))) else (none)))
def anZ:Bool × List (List Nat × List Nat):=(true,[([],[]),([0],[0]),([1],[1]),([2],[2]),([],[]),([3,4],[3,4]),([],[]),([6],[6]),([7],[7]),([8],[8]),([],[]),([10],[10]),([9,11,5],[9,11]),([5,12,12],[5,12]),([13,13,0,1,2,3,4,5,6,7,8,9,10,11,12,13],[13])])
def aqa:List Nat:=[0,1,3,7,0,31,0,64,192,448,0,1024,4095,8191,16383]
theorem ane:acz .any (opsOf f89 5)=anZ:=by kernel_rfl
theorem amg:ab9 anZ.2 aqa=true:=by kernel_rfl
theorem abE (k:Nat):∀ (aG:Int) (ag:Int) (bL:Option Addr) (bg:Nat) (ae:List S90) (a1:Int) (r:List S27) (w:World) (bn:Kd.C k90 w bL ae.length ae) (bq:ae.length<=bg) (h:adT k aG ag ae a1=some r),
  Calls prog 89 #[.agg #[iV aG,iV ag,.slice bL ae.length bg],iV a1] w fun e w'=>∃ di:Value,e = .returned (di)/\Kd.R k27 27 w' w.heap.size (fun _=>True) di r/\Below w.heap.size w w':=by
 induction k using Nat.strongRecOn with
 | _ k ih =>
 intro aG ag bL bg ae a1 r w bn bq h
 cases k with
 | zero=>exact absurd h (by simp [adT])
 | succ k =>
 simp only [adT] at h
 have dF:=underlying90
 have dG:=underlying27
 have bJ:=aM bn
 have dn:=aM bq
 clear bn bq
 have HB:=jb_ w
 have H:=h
 clear h
 replace H:=jE H;rcases H with ⟨cu,cz,H⟩ | ⟨c3,cu,cz,H⟩
 ·obtain⟨dH,aN⟩:=ky ((([(⟨1,a1,0,0,ag⟩:S27)]:List S27)):List S27)
  replace H:=kv aN H
  obtain rfl:=oJ H
  go_enter func89,ntmps89
  go_wp2_with (first|((with_reducible refine jd 2 ?_);refine jY _ 90 ?_;intro aI hg w4 aa hb;have bK:=kG hg;replace HB:=kH hb;clear hb hg;have dY:=jz3 aa)|((with_reducible refine jd 13 ?_);refine jV k27 27 ([(⟨1,a1,0,0,ag⟩:S27)]:List S27) [iV 1,iV a1,iV 0,iV 0,iV ag] (ahp (show Kd.M k27 _ _ _ (⟨1,a1,0,0,ag⟩:S27) [iV 1,iV a1,iV 0,iV 0,iV ag] from (aaV _ _ _ (⟨1,a1,0,0,ag⟩:S27) )) (aa9 _ _)) ?_;intro dI w6 bQ hb;replace bQ:=kr aN bQ;have bR:=kL bQ;replace aa:=kB aa hb;replace HB:=kH hb;clear hb bQ))
  go_ret
  exact⟨_,qW,qR bR,qB⟩
 replace H:=jE H;rcases H with ⟨cB,cK,H⟩ | ⟨c8,cB,cK,H⟩
 ·obtain⟨dJ,aQ⟩:=ky ((([(⟨2,a1,ag,0,0⟩:S27)]:List S27)):List S27)
  replace H:=kv aQ H
  obtain rfl:=oJ H
  go_enter func89,ntmps89
  go_wp2_with (first|((with_reducible refine jd 2 ?_);refine jY _ 90 ?_;intro aI hg w9 aa hb;have bK:=kG hg;replace HB:=kH hb;clear hb hg;have dK:=jz3 aa)|((with_reducible refine jd 21 ?_);refine jV k27 27 ([(⟨2,a1,ag,0,0⟩:S27)]:List S27) [iV 2,iV a1,iV ag,iV 0,iV 0] (ahp (show Kd.M k27 _ _ _ (⟨2,a1,ag,0,0⟩:S27) [iV 2,iV a1,iV ag,iV 0,iV 0] from (aaV _ _ _ (⟨2,a1,ag,0,0⟩:S27) )) (aa9 _ _)) ?_;intro dL dZ bu hb;replace bu:=kr aQ bu;have bS:=kL bu;replace aa:=kB aa hb;replace HB:=kH hb;clear hb bu))
  go_ret
  exact⟨_,qW,qR bS,qB⟩
 replace H:=jU H;obtain⟨c13,H⟩:=H
 have dw:=decide_eq_true c13
 have dx:decide (0 < ae.length)=true:=decide_eq_true (by omega)
 clear c13
 obtain⟨aZ,dM,H⟩:=qE H
 try dsimp only at H
 replace H:=jU H;obtain⟨c15,H⟩:=H
 have dz:=decide_eq_true c15
 have dA:decide (1 < ae.length)=true:=decide_eq_true (by omega)
 clear c15
 obtain⟨aK,dN,H⟩:=qE H
 try dsimp only at H
 replace H:=jL H;obtain⟨bT,H⟩:=H
 obtain⟨bi,bv⟩:=ky ((aZ ++ aK):List S27)
 replace H:=kv bv H
 replace H:=jL H;obtain⟨bU,H⟩:=H
 obtain⟨dO,bz⟩:=ky ((bi ++ [(⟨3,a1,a1,wrap64 (a1+1),aG⟩:S27)]):List S27)
 replace H:=kv bz H
 obtain rfl:=oJ H
 go_enter func89,ntmps89
 try go_wp2_with (first|((with_reducible refine jd 2 ?_);refine jY _ 90 ?_;intro aI hg dP aa hb;have bK:=kG hg;replace HB:=kH hb;clear hb hg;have dQ:=jz3 aa))
 replace aa:=aM (ab2 aa.out)
 replace HB:=aM (aaf HB.out)
 have bM:0<=(0:Int):=(by omega)
 have bN:0 < (ae.length:Int):=qD
 obtain⟨af,bA,bB,e250,ah,ai,aj,aT,aU⟩:=ahN bJ.out 0 bM bN
 have ak:=aj
 (try rw [show ((0:Int)).toNat=0 from rfl] at ak)
 (try rw [show 0*3=0 from rfl] at ak)
 (try rw [Addr.add_zero'] at ak)
 have au:=ai
 (try rw [show ((0:Int)).toNat=0 from rfl] at au)
 (try rw [show 0*3=0 from rfl] at au)
 (try rw [Addr.add_zero'] at au)
 have av:=ah
 (try rw [show ((0:Int)).toNat=0 from rfl] at av)
 (try rw [show 0*3=0 from rfl] at av)
 (try rw [Addr.add_zero'] at av)
 cases e250
 have dB:(0 < ae.length)=True:=eq_true (by omega)
 (try rw [show ((0:Int)).toNat=0 from rfl] at ah)
 (try rw [show 0*3=0 from rfl] at ah)
 (try rw [Addr.add_zero'] at ah)
 (try rw [show ((0:Int)).toNat=0 from rfl] at ai)
 (try rw [show 0*3=0 from rfl] at ai)
 (try rw [Addr.add_zero'] at ai)
 (try rw [show ((0:Int)).toNat=0 from rfl] at aj)
 (try rw [show 0*3=0 from rfl] at aj)
 (try rw [Addr.add_zero'] at aj)
 replace ah:=kx HB ah
 replace ai:=kx HB ai
 replace aj:=kx HB aj
 have aV:=aM aU
 have bH:=aM aT
 clear aU aT
 replace bM:=eq_true bM
 replace bN:=eq_true bN
 have bO:0<=(1:Int):=(by omega)
 have bP:1 < (ae.length:Int):=qD
 obtain⟨bV,bC,bD,e254,ax,ay,az,aW,aX⟩:=ahN bJ.out 1 bO bP
 have aA:=az
 (try rw [show ((1:Int)).toNat=1 from rfl] at aA)
 (try rw [show 1*3=3 from rfl] at aA)
 (try simp only [Nat.reduceMul,Nat.reduceEqDiff,Go.Addr.add,↓reduceIte] at aA)
 have aC:=ay
 (try rw [show ((1:Int)).toNat=1 from rfl] at aC)
 (try rw [show 1*3=3 from rfl] at aC)
 (try simp only [Nat.reduceMul,Nat.reduceEqDiff,Go.Addr.add,↓reduceIte] at aC)
 have aD:=ax
 (try rw [show ((1:Int)).toNat=1 from rfl] at aD)
 (try rw [show 1*3=3 from rfl] at aD)
 (try simp only [Nat.reduceMul,Nat.reduceEqDiff,Go.Addr.add,↓reduceIte] at aD)
 obtain rfl:af=bV:=(by injection e254)
 (try simp only [show (1:Int).toNat=1 from rfl,Nat.reduceMul,Nat.reduceEqDiff,Go.Addr.add,↓reduceIte] at ax)
 (try simp only [show (1:Int).toNat=1 from rfl,Nat.reduceMul,Nat.reduceEqDiff,Go.Addr.add,↓reduceIte] at ay)
 (try simp only [show (1:Int).toNat=1 from rfl,Nat.reduceMul,Nat.reduceEqDiff,Go.Addr.add,↓reduceIte] at az)
 have dC:(1 < ae.length)=True:=eq_true (by omega)
 (try rw [show ((1:Int)).toNat=1 from rfl] at ax)
 (try rw [show 1*3=3 from rfl] at ax)
 (try rw [show ((1:Int)).toNat=1 from rfl] at ay)
 (try rw [show 1*3=3 from rfl] at ay)
 (try rw [show ((1:Int)).toNat=1 from rfl] at az)
 (try rw [show 1*3=3 from rfl] at az)
 replace ax:=kx HB ax
 replace ay:=kx HB ay
 replace az:=kx HB az
 have aY:=aM aX
 have bI:=aM aW
 clear aX aW
 replace bO:=eq_true bO
 replace bP:=eq_true bP
 refine abl (n:=15) (S:=fun w'=>w'.cell? ⟨aI,0,none⟩=some (iV aG)/\w'.cell? ⟨aI,1,none⟩=some (iV ag)/\w'.cell? ⟨aI,2,none⟩=some (.slice (some af) ae.length bg)/\w'.cell? af=some (iV ((aaN ae 0).f0))/\w'.cell? ⟨af.block,af.off+1,none⟩=some (iV ((aaN ae 0).f1))/\w'.cell? ⟨af.block,af.off+2,none⟩=some (.slice bA ((aaN ae 0).f2).length bB)/\w'.cell? ⟨af.block,af.off+3,none⟩=some (iV ((aaN ae 1).f0))/\w'.cell? ⟨af.block,af.off+3+1,none⟩=some (iV ((aaN ae 1).f1))/\w'.cell? ⟨af.block,af.off+3+2,none⟩=some (.slice bC ((aaN ae 1).f2).length bD)) (ds:=[]) (jb 15 0) (by kernel_rfl) rfl rfl ⟨(aa3 aa.out 0).trans rfl,(aa3 aa.out 1).trans rfl,(aa3 aa.out 2).trans rfl,(kx HB av),(kx HB au),(kx HB ak),(kx HB aD),(kx HB aC),(kx HB aA)⟩ (fun hHeld=>?_);refine aaL ane amg (fun HT_ HW_=>?_)
 generalize dP.drew=d9 at aa HB aV aY ah ai aj ax ay az hHeld ⊢
 refine jp 0 22 (jb 15 1) ?_
 refine jp 4 26 (jb 15 17) ?_
 refine jp 6 28 (jb 15 81) ?_
 refine jp 10 32 (jb 15 1105) ?_
 refine jp 11 33 (jb 15 3153) ?_
 refine jt 1 23 (jb 15 3155) ?_
 refine jp 2 24 (jb 15 3159) ?_
 refine jt 3 25 (jb 15 3167) ?_
 refine jt 7 29 (jb 15 3295) ?_
 refine jp 8 30 (jb 15 3551) ?_
 refine jt 9 31 (jb 15 4063) ?_
 refine acK (i:=5) (N:=some 27) (jb 15 4095) rfl rfl (aaR HT_.out (by kernel_rfl)) (by decide) (fun K hK=>?_)
 refine abn func89 (by kernel_rfl) rfl #[.agg #[iV ((aaN ae 0).f0),iV ((aaN ae 0).f1),.slice bA ((aaN ae 0).f2).length bB],iV a1] (by rfl) rfl rfl qM ?_
 with_reducible refine (ih k (by omega) ((aaN ae 0).f0) ((aaN ae 0).f1) _ _ ((aaN ae 0).f2) a1 aZ _ ?bE ?bF dM.out).mono ?_
 (case bE=>exact kb aV HB)
 (case bF=>exact bH.out)
 rintro e ed ⟨cO,rfl,ho0,hb⟩
 refine⟨_,rfl,?_⟩
 have aJ:=kL ho0
 replace aa:=kB aa hb
 replace HB:=kH hb
 (try clear hb)
 (try clear hb2)
 (try clear hk)
 (try clear hi)
 (try clear ho0)
 refine hK.out _ _ ⟨(aa3 aa.out 0).trans rfl,(aa3 aa.out 1).trans rfl,(aa3 aa.out 2).trans rfl,(kx HB av),(kx HB au),(kx HB ak),(kx HB aD),(kx HB aC),(kx HB aA)⟩ (fun hHeld=>?_)
 clear hK K
 refine aaA (a':=?_) ?_ ?_
 rotate_left
 ·show Act.put _ (some 27) _=_
  simp only [Act.put,List.setIfInBounds_toArray,List.set_cons_zero,List.set_cons_succ,aas,aaw]
  rfl
 refine acK (i:=12) (N:=some 34) (jb 15 8191) rfl rfl (aaR HT_.out (by kernel_rfl)) (by decide) (fun K hK=>?_)
 refine abn func89 (by kernel_rfl) rfl #[.agg #[iV ((aaN ae 1).f0),iV ((aaN ae 1).f1),.slice bC ((aaN ae 1).f2).length bD],iV (wrap64 (a1+1))] (by rfl) rfl rfl qM ?_
 with_reducible refine (ih k (by omega) ((aaN ae 1).f0) ((aaN ae 1).f1) _ _ ((aaN ae 1).f2) (wrap64 (a1+1)) aK _ ?bE ?bF dN.out).mono ?_
 (case bE=>exact kb aY HB)
 (case bF=>exact bI.out)
 rintro e ek ⟨dR,rfl,ho0,hb⟩
 refine⟨_,rfl,?_⟩
 have aH:=aM (R_lower (R_new' ho0 (R_lt (qR aJ))) (aa4 qB))
 replace aJ:=kO aJ ho0 hb
 replace aa:=kB aa hb
 replace HB:=kH hb
 (try clear hb)
 (try clear hb2)
 (try clear hk)
 (try clear hi)
 (try clear ho0)
 obtain⟨bW,bX,bY⟩:=R_slice aH.out
 (first|subst bY|(injection bY with dD dS dE;have dU:=dD.symm;have dV:=dE.symm;clear dD dS dE;subst dU;subst dV))
 refine hK.out _ _ ⟨(aa3 aa.out 0).trans rfl,(aa3 aa.out 1).trans rfl,(aa3 aa.out 2).trans rfl,(kx HB av),(kx HB au),(kx HB ak),(kx HB aD),(kx HB aC),(kx HB aA)⟩ (fun hHeld=>?_)
 clear hK K
 refine aaA (a':=?_) ?_ ?_
 rotate_left
 ·show Act.put _ (some 34) _=_
  simp only [Act.put,List.setIfInBounds_toArray,List.set_cons_zero,List.set_cons_succ,aas,aaw]
  rfl
 refine acK (i:=13) (N:=some 35) (jb 15 16383) rfl rfl (aaR HT_.out (by kernel_rfl)) (by decide) (fun K hK=>?_)
 refine R_append_rows_step k27 (w0:=w) w.heap.size (by rfl) (.tmp 27) (.tmp 34) 23 27 (.agg #[(iV 0),(iV 0),(iV 0),(iV 0),(iV 0)]) 40 rfl underlying23 aba rfl (by decide) (by omega) cO aZ aK _ _ _ (fun k_=>some k_≠(.slice bW aK.length bX:Value).ownBlock) (fun _=>False) rfl rfl ?aO ?aR (fun _ _ h=>h) (fun _ h=>h.elim) ?aF ?aB ?aS ?aL ?_
 (case aR=>exact kJ aH)
 (case aB=>exact qB)
 (case aF=>exact (fun k_ hk=>Kd.fresh' (R_lt (qR aH)) k_ hk))
 (case aO=>exact (by (with_reducible repeat (first|apply R_alloc|apply R_drewN|apply R_drew));exact R_mono aJ.out (fun _ hk=>hk.2)))
 (case aS=>exact (aa4 qB))
 (case aL=>have:=bT.out;omega)
 intro df eu ho hb hg hat
 rw [<- bv.out] at ho
 have bG:=aM ho
 replace aa:=aM (aaq (g:=aI) (qK aa) hg (R_ne aJ.out aa.out (by decide)))
 replace aH:=aM (R_after (ok:=(fun _=>True)) (qR aH) hg hat)
 replace HB:=aM hb
 clear aJ
 clear ho hb hg hat
 refine hK.out _ _ ⟨(aa3 aa.out 0).trans rfl,(aa3 aa.out 1).trans rfl,(aa3 aa.out 2).trans rfl,(kx HB av),(kx HB au),(kx HB ak),(kx HB aD),(kx HB aC),(kx HB aA)⟩ (fun hHeld=>?_)
 clear hK K
 refine aaA (a':=?_) ?_ ?_
 rotate_left
 ·show Act.put _ (some 35) _=_
  simp only [Act.put,List.setIfInBounds_toArray,List.set_cons_zero,List.set_cons_succ,aas,aaw]
  rfl
 refine jp 14 5 (jb 15 32767) ?_
 refine abI (ab5 HT_.out (by kernel_rfl)) ?_
 have dW:=jz3 aa
 try go_wp2_with (first|((with_reducible refine aaa (b:=.append) (xs:=#[.tmp 36,.tmp 44]) rfl ?_);at_builtin;refine R_append k27 (w0:=w) w.heap.size rfl (.tmp 36) (.tmp 44) 23 27 (.agg #[(iV 0),(iV 0),(iV 0),(iV 0),(iV 0)]) 40 rfl underlying23 aba rfl (by decide) (by omega) df bi (⟨3,a1,a1,wrap64 (a1+1),aG⟩:S27) [iV 3,iV a1,iV a1,iV (wrap64 (a1+1)),iV aG] (fun k_=>some k_≠(.slice bW aK.length bX:Value).ownBlock) (fun _=>False) rfl rfl ?aP (fun _ hk=>hk.elim) ?aF ?aO ?aB ?aS ?aL ?_;(case aP=>exact aaV _ _ _ (⟨3,a1,a1,wrap64 (a1+1),aG⟩:S27));(case aB=>exact qB);(case aF=>exact (fun k_ hk=>Kd.fresh' (R_lt (qR aH)) k_ hk));(case aO=>exact (qR bG));(case aS=>exact (aa4 qB));(case aL=>have:=bU.out;omega);intro dX eB ho hb hg hat;rw [<- bz.out] at ho;have bZ:=aM ho;replace aa:=aM (aaq (g:=aI) (qK aa) hg (R_ne bG.out aa.out (by decide)));replace aH:=aM (R_after (ok:=(fun _=>True)) (qR aH) hg hat);replace HB:=aM hb;clear bG;clear ho hb hg hat))
 go_ret
 exact⟨_,qW,by (with_reducible repeat (first|apply R_alloc|apply R_drewN|apply R_drew));exact R_mono bZ.out (fun _ hk=>trivial),qB⟩
end Go.Proofs.YtebpplallecogaaGreat.M
