/- Part 1 of the proof: A function as plain Lean and its contract: written by a program of this session's, turned from the kit's print. -/
import Derived.Test.YtebpplallecogaaGreatProg
import Derived.Below
import Derived.Deep.Draws
import Derived.Deep.AppendLies
import Derived.Maps.AppendAt
import Derived.OwnWalk
import Derived.Laws.BytesArg
import Derived.Laws.MakeOwn
import Derived.Laws.OwnMore
import Derived.Deep.OwnRows
import Derived.Tactics
import Derived.Lib.ConvBytes
import Derived.Laws.Slices
import Derived.WalkKit
import Derived.KernelRfl
import Derived.RowKit3
import Derived.Deep.LoopGhost
import Derived.Deep.QuietTactic
import Derived.BigQuiet
import Derived.WideLaws
import Derived.Deep.DeepCutAuto
import Derived.Deep.CutBlock
import Derived.Deep.RegionHeld3
import Derived.Laws.Rows
import Derived.Lib.AppendStr
import Derived.ArgAppend
import Derived.Laws.IdiomCopy
import Derived.OrdersHeld
import Derived.Laws.BitsLemmas
import Derived.RowKit
import Derived.Test.YtebpplallecogaaGreatDBWWords
import Derived.Test.YtebpplallecogaaGreatDBWLast
import Derived.Test.YtebpplallecogaaGreatDBWTab
import Derived.Test.YtebpplallecogaaGreatDBWFour
import Derived.Test.YtebpplallecogaaGreatDBWQPut
import Derived.Test.YtebpplallecogaaGreatDBWApart
import Derived.Test.YtebpplallecogaaGreatDBWArr
import Derived.Test.YtebpplallecogaaGreatDBWZeros
import Derived.Test.YtebpplallecogaaGreatDBWFoot
import Derived.Test.YtebpplallecogaaGreatDBWKept
import Derived.Test.YtebpplallecogaaGreatDBWShare
import Derived.Test.YtebpplallecogaaGreatDBWN
import Derived.Test.YtebpplallecogaaGreatDBWFootNe
import Derived.Test.YtebpplallecogaaGreatDBWAt
import Derived.Test.YtebpplallecogaaGreatDBWEqStruct
import Derived.Test.YtebpplallecogaaGreatDBWRepsOne
import Derived.Test.YtebpplallecogaaGreatDBWInv
import Derived.Test.YtebpplallecogaaGreatDBWInvWords
import Derived.Test.YtebpplallecogaaGreatDBWGuard
import Derived.Test.YtebpplallecogaaGreatDBWNEv
import Derived.Test.YtebpplallecogaaGreatDBWMore
import Derived.Test.YtebpplallecogaaGreatRows
set_option linter.unusedVariables false
set_option linter.unusedSimpArgs false
set_option maxHeartbeats 8000000
set_option maxRecDepth 100000
namespace Go.Proofs.YtebpplallecogaaGreat.M
open Go.RowKit Go.Proofs.YtebpplallecogaaGreatW.PrintWords Go.Proofs.YtebpplallecogaaGreatW.PrintLast Go.Proofs.YtebpplallecogaaGreatW.PrintMore
attribute [local go_sem] max2_int min2_int max_two min_two max_three min_three max_four min_four
def errW:Option Int->Value
  | none=>.nilIface
  | some c=>.iface 0 (.int .i64 c)
theorem errW_none:errW none = .nilIface:=rfl
theorem errW_some (c:Int):errW (some c) = .iface 0 (.int .i64 c):=rfl
theorem info3:(Tryz.prog.info? 3).map (fun i=>(i.zero,i.size,i.bytes))=some (some (.int .i64 0),1,8):=by kernel_rfl
theorem info4:(Tryz.prog.info? 4).map (fun i=>(i.zero,i.size,i.bytes))=some (some (.bool false),1,1):=by kernel_rfl
theorem info5:(Tryz.prog.info? 5).map (fun i=>(i.zero,i.size,i.bytes))=some (some (.int .u8 0),1,1):=by kernel_rfl
theorem info27:(Tryz.prog.info? 27).map (fun i=>(i.zero,i.size,i.bytes))=some (some (.agg #[(.int .i64 0),(.int .i64 0),(.int .i64 0),(.int .i64 0),(.int .i64 0)]),5,40):=by kernel_rfl
theorem info37:(Tryz.prog.info? 37).map (fun i=>(i.zero,i.size,i.bytes))=some (some (.slice none 0 0),1,24):=by kernel_rfl
theorem info43:(Tryz.prog.info? 43).map (fun i=>(i.zero,i.size,i.bytes))=some (some (.slice none 0 0),1,24):=by kernel_rfl
theorem info60:(Tryz.prog.info? 60).map (fun i=>(i.zero,i.size,i.bytes))=some (some (.int .u16 0),1,2):=by kernel_rfl
theorem info92:(Tryz.prog.info? 92).map (fun i=>(i.zero,i.size,i.bytes))=some (some (.agg #[(.int .i64 0),(.int .i64 0),(.int .i64 0),(.int .i64 0),(.int .i64 0),(.slice none 0 0),(.slice none 0 0),(.slice none 0 0)]),8,112):=by kernel_rfl
theorem info104:(Tryz.prog.info? 104).map (fun i=>(i.zero,i.size,i.bytes))=some (some (.slice none 0 0),1,24):=by kernel_rfl
theorem info118:(Tryz.prog.info? 118).map (fun i=>(i.zero,i.size,i.bytes))=some (some (.agg #[(.int .i64 0),(.int .i64 0)]),2,16):=by kernel_rfl
-- the values' own types
structure S27 where
  f0:Int
  f1:Int
  f2:Int
  f3:Int
  f4:Int
def z27:S27:=⟨(0:Int),(0:Int),(0:Int),(0:Int),(0:Int)⟩
def k27:Kd S27:=Kd.iso (Kd.pair (Kd.int .i64) (Kd.pair (Kd.int .i64) (Kd.pair (Kd.int .i64) (Kd.pair (Kd.int .i64) (Kd.int .i64))))) (fun x:S27=>(x.f0,x.f1,x.f2,x.f3,x.f4))
theorem k27_heap:Kd.Heap k27:=Kd.heap_iso _ (Kd.heap_pair (Kd.heap_int .i64) (Kd.heap_pair (Kd.heap_int .i64) (Kd.heap_pair (Kd.heap_int .i64) (Kd.heap_pair (Kd.heap_int .i64) (Kd.heap_int .i64)))))
theorem k27_open {w:World} {x:S27} {cs:List Value} (h:k27.K w x cs):cs=[.int .i64 x.f0,.int .i64 x.f1,.int .i64 x.f2,.int .i64 x.f3,.int .i64 x.f4]:=by
  obtain⟨_,_,rfl,rfl,⟨_,_,rfl,rfl,⟨_,_,rfl,rfl,⟨_,_,rfl,rfl,rfl⟩⟩⟩⟩:=h
  exact rfl
theorem k27_openM {w:World} {base:Nat} {ok:Nat->Prop} {x:S27} {cs:List Value} (h:k27.M w base ok x cs):cs=[.int .i64 x.f0,.int .i64 x.f1,.int .i64 x.f2,.int .i64 x.f3,.int .i64 x.f4]:=by
  obtain⟨_,_,rfl,rfl,⟨_,_,rfl,rfl,⟨_,_,rfl,rfl,⟨_,_,rfl,rfl,rfl⟩⟩⟩⟩:=h
  exact rfl
theorem k27_mkM (w:World) (base:Nat) (ok:Nat->Prop) (x:S27)  : k27.M w base ok x [.int .i64 x.f0,.int .i64 x.f1,.int .i64 x.f2,.int .i64 x.f3,.int .i64 x.f4]:=⟨[.int .i64 x.f0],[.int .i64 x.f1,.int .i64 x.f2,.int .i64 x.f3,.int .i64 x.f4],rfl,rfl,⟨[.int .i64 x.f1],[.int .i64 x.f2,.int .i64 x.f3,.int .i64 x.f4],rfl,rfl,⟨[.int .i64 x.f2],[.int .i64 x.f3,.int .i64 x.f4],rfl,rfl,⟨[.int .i64 x.f3],[.int .i64 x.f4],rfl,rfl,rfl⟩⟩⟩⟩
def rd_T27 (xs:List S27) (i:Int):S27:=xs.getD i.toNat z27
theorem at_T27 {w:World} {A:Option Addr} {n:Nat} {xs:List S27} (h:Kd.C k27 w A n xs) (i:Int) (h0:0<=i) (h1:i < n):∃ ad ,A=some ad/\w.cell? (ad.add (i.toNat*5))=some (.int .i64 (rd_T27 xs i).f0)/\w.cell? ⟨(ad.add (i.toNat*5)).block,(ad.add (i.toNat*5)).off+1,none⟩=some (.int .i64 (rd_T27 xs i).f1)/\w.cell? ⟨(ad.add (i.toNat*5)).block,(ad.add (i.toNat*5)).off+2,none⟩=some (.int .i64 (rd_T27 xs i).f2)/\w.cell? ⟨(ad.add (i.toNat*5)).block,(ad.add (i.toNat*5)).off+3,none⟩=some (.int .i64 (rd_T27 xs i).f3)/\w.cell? ⟨(ad.add (i.toNat*5)).block,(ad.add (i.toNat*5)).off+4,none⟩=some (.int .i64 (rd_T27 xs i).f4):=by
  obtain⟨ad,c,e,_,hK,hc0⟩:=Kd.C_get h z27 i h0 h1
  have hc:∀ j u,c[j]?=some u->w.cell? (ad.add (i.toNat*5+j))=some u:=hc0
  obtain rfl:=k27_open hK
  exact⟨ad,e,hc 0 _ rfl,by rw [<- add_field _ _ 1 (by omega)];exact hc 1 _ rfl,by rw [<- add_field _ _ 2 (by omega)];exact hc 2 _ rfl,by rw [<- add_field _ _ 3 (by omega)];exact hc 3 _ rfl,by rw [<- add_field _ _ 4 (by omega)];exact hc 4 _ rfl⟩
structure S90 where
  f0:Int
  f1:Int
  f2:(List S90)
def z90:S90:=⟨(0:Int),(0:Int),([]:List S90)⟩
def F90 (d:Kd S90):Kd S90:=Kd.iso (Kd.pair (Kd.int .i64) (Kd.pair (Kd.int .i64) (Kd.slice 90 d))) (fun x:S90=>(x.f0,x.f1,x.f2))
theorem mono90:Kd.Mono F90:=Kd.mono_iso _ (Kd.mono_pair (Kd.mono_const _) (Kd.mono_pair (Kd.mono_const _) (Kd.mono_slice 90 Kd.mono_id)))
theorem sub90:Kd.Sub F90 [90]:=Kd.sub_iso _ (Kd.sub_pair (Kd.sub_const _ (by decide)) (Kd.sub_pair (Kd.sub_const _ (by decide)) (Kd.sub_slice 90 (by decide) Kd.sub_id)))
theorem sz90:∀ n,(Kd.upto F90 3 [90] n).sz=3:=Kd.upto_sz (fun _=>rfl)
def k90:Kd S90:=Kd.fix F90 3 [90] sz90 (Kd.upto_E sub90)
theorem k90_open {w:World} {x:S90} {cs:List Value} (h:k90.K w x cs):∃ A2 c2,cs=[.int .i64 x.f0,.int .i64 x.f1,.slice A2 x.f2.length c2]/\x.f2.length<=c2/\k90.C w A2 x.f2.length x.f2:=by
  obtain⟨n,h⟩:=h
  cases n with
  | zero=>exact h.elim
  | succ n =>
    obtain⟨_,_,rfl,rfl,⟨_,_,rfl,rfl,⟨A2,c2,rfl,l2,g2⟩⟩⟩:=h
    exact⟨A2,c2,rfl,l2,Kd.fix_C g2⟩
theorem k90_mk (w:World) (x:S90) {A2:Option Addr} {c2:Nat} (l2:x.f2.length<=c2) (g2:k90.C w A2 x.f2.length x.f2):k90.K w x [.int .i64 x.f0,.int .i64 x.f1,.slice A2 x.f2.length c2]:=by
  obtain⟨n2,q2⟩:=Kd.fix_C_back mono90 g2
  have r2:=Kd.upto_C_le mono90 sz90 (show n2<=n2 by omega) q2
  exact⟨n2+1,⟨[.int .i64 x.f0],[.int .i64 x.f1,.slice A2 x.f2.length c2],rfl,rfl,⟨[.int .i64 x.f1],[.slice A2 x.f2.length c2],rfl,rfl,⟨A2,c2,rfl,l2,r2⟩⟩⟩⟩
theorem k90_mkF (W:World) (ok:Nat->Prop) (x:S90) {A2:Option Addr} {c2:Nat} (l2:x.f2.length<=c2) (g2:Kd.F k90 W ok A2 x.f2.length x.f2):Kd.FK k90 W ok x [.int .i64 x.f0,.int .i64 x.f1,.slice A2 x.f2.length c2]:=fun W2 hW=>k90_mk W2 x l2 (g2 W2 hW)
def rd_T90 (xs:List S90) (i:Int):S90:=xs.getD i.toNat z90
theorem at_T90 {w:World} {A:Option Addr} {n:Nat} {xs:List S90} (h:Kd.C k90 w A n xs) (i:Int) (h0:0<=i) (h1:i < n):∃ ad A2 c2,A=some ad/\w.cell? (ad.add (i.toNat*3))=some (.int .i64 (rd_T90 xs i).f0)/\w.cell? ⟨(ad.add (i.toNat*3)).block,(ad.add (i.toNat*3)).off+1,none⟩=some (.int .i64 (rd_T90 xs i).f1)/\w.cell? ⟨(ad.add (i.toNat*3)).block,(ad.add (i.toNat*3)).off+2,none⟩=some (.slice A2 (rd_T90 xs i).f2.length c2)/\(rd_T90 xs i).f2.length<=c2/\k90.C w A2 (rd_T90 xs i).f2.length (rd_T90 xs i).f2:=by
  obtain⟨ad,c,e,_,hK,hc0⟩:=Kd.C_get h z90 i h0 h1
  have hc:∀ j u,c[j]?=some u->w.cell? (ad.add (i.toNat*3+j))=some u:=hc0
  obtain⟨A2,c2,rfl,l2,g2⟩:=k90_open hK
  exact⟨ad,A2,c2,e,hc 0 _ rfl,by rw [<- add_field _ _ 1 (by omega)];exact hc 1 _ rfl,by rw [<- add_field _ _ 2 (by omega)];exact hc 2 _ rfl,l2,g2⟩
structure S92 where
  f0:Int
  f1:Int
  f2:Int
  f3:S90
  f4:(List S92)
  f5:(List S92)
def z92:S92:=⟨(0:Int),(0:Int),(0:Int),z90,([]:List S92),([]:List S92)⟩
def F92 (d:Kd S92):Kd S92:=Kd.iso (Kd.pair (Kd.int .i64) (Kd.pair (Kd.int .i64) (Kd.pair (Kd.int .i64) (Kd.pair k90 (Kd.pair (Kd.slice 92 d) (Kd.slice 92 d)))))) (fun x:S92=>(x.f0,x.f1,x.f2,x.f3,x.f4,x.f5))
theorem mono92:Kd.Mono F92:=Kd.mono_iso _ (Kd.mono_pair (Kd.mono_const _) (Kd.mono_pair (Kd.mono_const _) (Kd.mono_pair (Kd.mono_const _) (Kd.mono_pair (Kd.mono_const _) (Kd.mono_pair (Kd.mono_slice 92 Kd.mono_id) (Kd.mono_slice 92 Kd.mono_id))))))
theorem sub92:Kd.Sub F92 [90,92]:=Kd.sub_iso _ (Kd.sub_pair (Kd.sub_const _ (by decide)) (Kd.sub_pair (Kd.sub_const _ (by decide)) (Kd.sub_pair (Kd.sub_const _ (by decide)) (Kd.sub_pair (Kd.sub_const _ (by decide)) (Kd.sub_pair (Kd.sub_slice 92 (by decide) Kd.sub_id) (Kd.sub_slice 92 (by decide) Kd.sub_id))))))
theorem sz92:∀ n,(Kd.upto F92 8 [90,92] n).sz=8:=Kd.upto_sz (fun _=>rfl)
def k92:Kd S92:=Kd.fix F92 8 [90,92] sz92 (Kd.upto_E sub92)
theorem k92_open {w:World} {x:S92} {cs:List Value} (h:k92.K w x cs):∃ A5 c5 A6 c6 A7 c7,cs=[.int .i64 x.f0,.int .i64 x.f1,.int .i64 x.f2,.int .i64 x.f3.f0,.int .i64 x.f3.f1,.slice A5 x.f3.f2.length c5,.slice A6 x.f4.length c6,.slice A7 x.f5.length c7]/\x.f3.f2.length<=c5/\k90.C w A5 x.f3.f2.length x.f3.f2/\x.f4.length<=c6/\k92.C w A6 x.f4.length x.f4/\x.f5.length<=c7/\k92.C w A7 x.f5.length x.f5:=by
  obtain⟨n,h⟩:=h
  cases n with
  | zero=>exact h.elim
  | succ n =>
    obtain⟨_,_,rfl,rfl,⟨_,_,rfl,rfl,⟨_,_,rfl,rfl,⟨_,_,rfl,s3,⟨_,_,rfl,⟨A6,c6,rfl,l6,g6⟩,⟨A7,c7,rfl,l7,g7⟩⟩⟩⟩⟩⟩:=h
    obtain⟨A5,c5,rfl,l5,g5⟩:=k90_open s3
    exact⟨A5,c5,A6,c6,A7,c7,rfl,l5,g5,l6,Kd.fix_C g6,l7,Kd.fix_C g7⟩
theorem k92_mk (w:World) (x:S92) {A5:Option Addr} {c5:Nat} (l5:x.f3.f2.length<=c5) (g5:k90.C w A5 x.f3.f2.length x.f3.f2) {A6:Option Addr} {c6:Nat} (l6:x.f4.length<=c6) (g6:k92.C w A6 x.f4.length x.f4) {A7:Option Addr} {c7:Nat} (l7:x.f5.length<=c7) (g7:k92.C w A7 x.f5.length x.f5):k92.K w x [.int .i64 x.f0,.int .i64 x.f1,.int .i64 x.f2,.int .i64 x.f3.f0,.int .i64 x.f3.f1,.slice A5 x.f3.f2.length c5,.slice A6 x.f4.length c6,.slice A7 x.f5.length c7]:=by
  obtain⟨n6,q6⟩:=Kd.fix_C_back mono92 g6
  obtain⟨n7,q7⟩:=Kd.fix_C_back mono92 g7
  have r6:=Kd.upto_C_le mono92 sz92 (show n6<=(max n6 n7) by omega) q6
  have r7:=Kd.upto_C_le mono92 sz92 (show n7<=(max n6 n7) by omega) q7
  exact⟨(max n6 n7)+1,⟨[.int .i64 x.f0],[.int .i64 x.f1,.int .i64 x.f2,.int .i64 x.f3.f0,.int .i64 x.f3.f1,.slice A5 x.f3.f2.length c5,.slice A6 x.f4.length c6,.slice A7 x.f5.length c7],rfl,rfl,⟨[.int .i64 x.f1],[.int .i64 x.f2,.int .i64 x.f3.f0,.int .i64 x.f3.f1,.slice A5 x.f3.f2.length c5,.slice A6 x.f4.length c6,.slice A7 x.f5.length c7],rfl,rfl,⟨[.int .i64 x.f2],[.int .i64 x.f3.f0,.int .i64 x.f3.f1,.slice A5 x.f3.f2.length c5,.slice A6 x.f4.length c6,.slice A7 x.f5.length c7],rfl,rfl,⟨[.int .i64 x.f3.f0,.int .i64 x.f3.f1,.slice A5 x.f3.f2.length c5],[.slice A6 x.f4.length c6,.slice A7 x.f5.length c7],rfl,(k90_mk w x.f3 l5 g5),⟨[.slice A6 x.f4.length c6],[.slice A7 x.f5.length c7],rfl,⟨A6,c6,rfl,l6,r6⟩,⟨A7,c7,rfl,l7,r7⟩⟩⟩⟩⟩⟩⟩
theorem k92_mkF (W:World) (ok:Nat->Prop) (x:S92) {A5:Option Addr} {c5:Nat} (l5:x.f3.f2.length<=c5) (g5:Kd.F k90 W ok A5 x.f3.f2.length x.f3.f2) {A6:Option Addr} {c6:Nat} (l6:x.f4.length<=c6) (g6:Kd.F k92 W ok A6 x.f4.length x.f4) {A7:Option Addr} {c7:Nat} (l7:x.f5.length<=c7) (g7:Kd.F k92 W ok A7 x.f5.length x.f5):Kd.FK k92 W ok x [.int .i64 x.f0,.int .i64 x.f1,.int .i64 x.f2,.int .i64 x.f3.f0,.int .i64 x.f3.f1,.slice A5 x.f3.f2.length c5,.slice A6 x.f4.length c6,.slice A7 x.f5.length c7]:=fun W2 hW=>k92_mk W2 x l5 (g5 W2 hW) l6 (g6 W2 hW) l7 (g7 W2 hW)
def rd_T92 (xs:List S92) (i:Int):S92:=xs.getD i.toNat z92
theorem at_T92 {w:World} {A:Option Addr} {n:Nat} {xs:List S92} (h:Kd.C k92 w A n xs) (i:Int) (h0:0<=i) (h1:i < n):∃ ad A5 c5 A6 c6 A7 c7,A=some ad/\w.cell? (ad.add (i.toNat*8))=some (.int .i64 (rd_T92 xs i).f0)/\w.cell? ⟨(ad.add (i.toNat*8)).block,(ad.add (i.toNat*8)).off+1,none⟩=some (.int .i64 (rd_T92 xs i).f1)/\w.cell? ⟨(ad.add (i.toNat*8)).block,(ad.add (i.toNat*8)).off+2,none⟩=some (.int .i64 (rd_T92 xs i).f2)/\w.cell? ⟨(ad.add (i.toNat*8)).block,(ad.add (i.toNat*8)).off+3,none⟩=some (.int .i64 (rd_T92 xs i).f3.f0)/\w.cell? ⟨(ad.add (i.toNat*8)).block,(ad.add (i.toNat*8)).off+4,none⟩=some (.int .i64 (rd_T92 xs i).f3.f1)/\w.cell? ⟨(ad.add (i.toNat*8)).block,(ad.add (i.toNat*8)).off+5,none⟩=some (.slice A5 (rd_T92 xs i).f3.f2.length c5)/\w.cell? ⟨(ad.add (i.toNat*8)).block,(ad.add (i.toNat*8)).off+6,none⟩=some (.slice A6 (rd_T92 xs i).f4.length c6)/\w.cell? ⟨(ad.add (i.toNat*8)).block,(ad.add (i.toNat*8)).off+7,none⟩=some (.slice A7 (rd_T92 xs i).f5.length c7)/\(rd_T92 xs i).f3.f2.length<=c5/\k90.C w A5 (rd_T92 xs i).f3.f2.length (rd_T92 xs i).f3.f2/\(rd_T92 xs i).f4.length<=c6/\k92.C w A6 (rd_T92 xs i).f4.length (rd_T92 xs i).f4/\(rd_T92 xs i).f5.length<=c7/\k92.C w A7 (rd_T92 xs i).f5.length (rd_T92 xs i).f5:=by
  obtain⟨ad,c,e,_,hK,hc0⟩:=Kd.C_get h z92 i h0 h1
  have hc:∀ j u,c[j]?=some u->w.cell? (ad.add (i.toNat*8+j))=some u:=hc0
  obtain⟨A5,c5,A6,c6,A7,c7,rfl,l5,g5,l6,g6,l7,g7⟩:=k92_open hK
  exact⟨ad,A5,c5,A6,c6,A7,c7,e,hc 0 _ rfl,by rw [<- add_field _ _ 1 (by omega)];exact hc 1 _ rfl,by rw [<- add_field _ _ 2 (by omega)];exact hc 2 _ rfl,by rw [<- add_field _ _ 3 (by omega)];exact hc 3 _ rfl,by rw [<- add_field _ _ 4 (by omega)];exact hc 4 _ rfl,by rw [<- add_field _ _ 5 (by omega)];exact hc 5 _ rfl,by rw [<- add_field _ _ 6 (by omega)];exact hc 6 _ rfl,by rw [<- add_field _ _ 7 (by omega)];exact hc 7 _ rfl,l5,g5,l6,g6,l7,g7⟩
def rd_L6 (xs:List (List Bool)) (i:Int):(List Bool):=xs.getD i.toNat ([]:List Bool)
theorem at_L6 {w:World} {A:Option Addr} {n:Nat} {xs:List (List Bool)} (h:Kd.C (Kd.slice 4 Kd.bool) w A n xs) (i:Int) (h0:0<=i) (h1:i < n):∃ ad A0 c0,A=some ad/\w.cell? (ad.add i.toNat)=some (.slice A0 (rd_L6 xs i).length c0)/\(rd_L6 xs i).length<=c0/\Kd.bool.C w A0 (rd_L6 xs i).length (rd_L6 xs i):=by
  obtain⟨ad,c,e,_,hK,hc0⟩:=Kd.C_get h ([]:List Bool) i h0 h1
  have hc:∀ j u,c[j]?=some u->w.cell? (ad.add (i.toNat*1+j))=some u:=hc0
  obtain⟨A0,c0,rfl,l0,g0⟩:=hK
  exact⟨ad,A0,c0,e,by have hq:=hc 0 _ rfl;rwa [Nat.mul_one,Nat.add_zero] at hq,l0,g0⟩
structure S118 where
  f0:Int
  f1:Int
def z118:S118:=⟨(0:Int),(0:Int)⟩
def k118:Kd S118:=Kd.iso (Kd.pair (Kd.int .i64) (Kd.int .i64)) (fun x:S118=>(x.f0,x.f1))
theorem k118_open {w:World} {x:S118} {cs:List Value} (h:k118.K w x cs):cs=[.int .i64 x.f0,.int .i64 x.f1]:=by
  obtain⟨_,_,rfl,rfl,rfl⟩:=h
  exact rfl
theorem k118_openM {w:World} {base:Nat} {ok:Nat->Prop} {x:S118} {cs:List Value} (h:k118.M w base ok x cs):cs=[.int .i64 x.f0,.int .i64 x.f1]:=by
  obtain⟨_,_,rfl,rfl,rfl⟩:=h
  exact rfl
theorem k118_mkM (w:World) (base:Nat) (ok:Nat->Prop) (x:S118)  : k118.M w base ok x [.int .i64 x.f0,.int .i64 x.f1]:=⟨[.int .i64 x.f0],[.int .i64 x.f1],rfl,rfl,rfl⟩
def rd_T118 (xs:List S118) (i:Int):S118:=xs.getD i.toNat z118
theorem at_T118 {w:World} {A:Option Addr} {n:Nat} {xs:List S118} (h:Kd.C k118 w A n xs) (i:Int) (h0:0<=i) (h1:i < n):∃ ad ,A=some ad/\w.cell? (ad.add (i.toNat*2))=some (.int .i64 (rd_T118 xs i).f0)/\w.cell? ⟨(ad.add (i.toNat*2)).block,(ad.add (i.toNat*2)).off+1,none⟩=some (.int .i64 (rd_T118 xs i).f1):=by
  obtain⟨ad,c,e,_,hK,hc0⟩:=Kd.C_get h z118 i h0 h1
  have hc:∀ j u,c[j]?=some u->w.cell? (ad.add (i.toNat*2+j))=some u:=hc0
  obtain rfl:=k118_open hK
  exact⟨ad,e,hc 0 _ rfl,by rw [<- add_field _ _ 1 (by omega)];exact hc 1 _ rfl⟩
def rd_L8 (xs:List (List S118)) (i:Int):(List S118):=xs.getD i.toNat ([]:List S118)
theorem at_L8 {w:World} {A:Option Addr} {n:Nat} {xs:List (List S118)} (h:Kd.C (Kd.slice 118 k118) w A n xs) (i:Int) (h0:0<=i) (h1:i < n):∃ ad A0 c0,A=some ad/\w.cell? (ad.add i.toNat)=some (.slice A0 (rd_L8 xs i).length c0)/\(rd_L8 xs i).length<=c0/\k118.C w A0 (rd_L8 xs i).length (rd_L8 xs i):=by
  obtain⟨ad,c,e,_,hK,hc0⟩:=Kd.C_get h ([]:List S118) i h0 h1
  have hc:∀ j u,c[j]?=some u->w.cell? (ad.add (i.toNat*1+j))=some u:=hc0
  obtain⟨A0,c0,rfl,l0,g0⟩:=hK
  exact⟨ad,A0,c0,e,by have hq:=hc 0 _ rfl;rwa [Nat.mul_one,Nat.add_zero] at hq,l0,g0⟩
def rd_L9 (xs:List (List Int)) (i:Int):(List Int):=xs.getD i.toNat ([]:List Int)
theorem at_L9 {w:World} {A:Option Addr} {n:Nat} {xs:List (List Int)} (h:Kd.C (Kd.slice 3 (Kd.int .i64)) w A n xs) (i:Int) (h0:0<=i) (h1:i < n):∃ ad A0 c0,A=some ad/\w.cell? (ad.add i.toNat)=some (.slice A0 (rd_L9 xs i).length c0)/\(rd_L9 xs i).length<=c0/\(Kd.int .i64).C w A0 (rd_L9 xs i).length (rd_L9 xs i):=by
  obtain⟨ad,c,e,_,hK,hc0⟩:=Kd.C_get h ([]:List Int) i h0 h1
  have hc:∀ j u,c[j]?=some u->w.cell? (ad.add (i.toNat*1+j))=some u:=hc0
  obtain⟨A0,c0,rfl,l0,g0⟩:=hK
  exact⟨ad,A0,c0,e,by have hq:=hc 0 _ rfl;rwa [Nat.mul_one,Nat.add_zero] at hq,l0,g0⟩
theorem qE {α β:Type} {o:Option α} {f:α->Option β} {r:β} (h:o.bind f=some r):∃ a,Aside0 (o=some a)/\f a=some r:=by
  obtain⟨a,h1,h2⟩:=Option.bind_eq_some_iff.mp h
  exact⟨a,⟨h1⟩,h2⟩
theorem qB {B:Nat} {w W:World} (h:Below B w W:=by repeat (first|(with_reducible first|exact HB.out|apply below_alloc|apply pw_below_drewN|apply below_drew1|refine below_set ?_ (Aside0.out (by assumption)))|exact HB.out)):Below B w W:=h
theorem qD {p:Prop} [d:Decidable p] (h:decide p=true:=by first|(with_reducible assumption)|assumption):p:=of_decide_eq_true h
theorem qZ {p:Prop} (h:p:=by first|rfl|(simp;done)|(simp [*];done)):p:=h
theorem qM {p:Prop} (h:p:=by (try simp only [List.map_toArray,List.map_cons,List.map_nil]);first|done|rfl|(simp only [List.length_drop,List.length_take];rfl)):p:=h
theorem qK {p q:Prop} (h:Aside0 p) (f:p->q:=by intro h_;(with_reducible repeat (first|refine blk_drewN ?_ _|refine blk_drew ?_|refine blk_alloc ?_ _));exact h_):q:=f h.out
theorem qR {p q:Prop} (h:Aside0 p) (f:p->q:=by intro h_;(with_reducible repeat (first|apply Kd.R_alloc|apply Kd.R_drewN|apply Kd.R_drew));exact h_):q:=f h.out
theorem qH {p:Prop} (h:p:=by repeat (first|(with_reducible first|exact HK.out|apply KeepBut.set_|apply keep_drewN|apply keep_drew|apply keep_alloc|refine keep_far ?_ (Aside0.out (by assumption)) _)|exact HK.out)):p:=h
theorem qT {p:Prop} (h:p:=by repeat (first|(with_reducible first|exact HK.out|apply Kept.alloc|apply Kept.drewN|apply Kept.drew)|exact HK.out)):p:=h
theorem qN {p q:Prop} (h:Aside0 p) (f:p->q:=by intro h_;(with_reducible repeat (first|apply Kd.N_alloc|apply Kd.N_drewN|apply Kd.N_drew));exact h_):q:=f h.out
theorem qV {p q:Prop} (h:Aside0 p) (f:p->q:=by intro h_;(with_reducible repeat (first|apply Kd.V_alloc|apply Kd.V_drewN|apply Kd.V_drew));exact h_):q:=f h.out
theorem qS {p q:Prop} (h:Aside0 p) (f:p->q:=by intro h_;(with_reducible repeat (first|apply Kd.S_alloc|apply Kd.S_drewN|apply Kd.S_drew));exact h_):q:=f h.out
theorem foot_T27_0 {w:World} {ad:Addr} {n:Nat} {xs:List S27} (h:Kd.C k27 w (some ad) n xs) (i:Int) (h0:0<=i) (h1:i < n):w.cell? (ad.add (i.toNat*5))=some (.int .i64 (rd_T27 xs i).f0):=by
  obtain⟨ad2,e,h_0,h_1,h_2,h_3,h_4⟩:=at_T27 h i h0 h1
  injection e with e
  subst e
  exact h_0
theorem foot_T27_1 {w:World} {ad:Addr} {n:Nat} {xs:List S27} (h:Kd.C k27 w (some ad) n xs) (i:Int) (h0:0<=i) (h1:i < n):w.cell? ⟨(ad.add (i.toNat*5)).block,(ad.add (i.toNat*5)).off+1,none⟩=some (.int .i64 (rd_T27 xs i).f1):=by
  obtain⟨ad2,e,h_0,h_1,h_2,h_3,h_4⟩:=at_T27 h i h0 h1
  injection e with e
  subst e
  exact h_1
theorem foot_T27_2 {w:World} {ad:Addr} {n:Nat} {xs:List S27} (h:Kd.C k27 w (some ad) n xs) (i:Int) (h0:0<=i) (h1:i < n):w.cell? ⟨(ad.add (i.toNat*5)).block,(ad.add (i.toNat*5)).off+2,none⟩=some (.int .i64 (rd_T27 xs i).f2):=by
  obtain⟨ad2,e,h_0,h_1,h_2,h_3,h_4⟩:=at_T27 h i h0 h1
  injection e with e
  subst e
  exact h_2
theorem foot_T27_3 {w:World} {ad:Addr} {n:Nat} {xs:List S27} (h:Kd.C k27 w (some ad) n xs) (i:Int) (h0:0<=i) (h1:i < n):w.cell? ⟨(ad.add (i.toNat*5)).block,(ad.add (i.toNat*5)).off+3,none⟩=some (.int .i64 (rd_T27 xs i).f3):=by
  obtain⟨ad2,e,h_0,h_1,h_2,h_3,h_4⟩:=at_T27 h i h0 h1
  injection e with e
  subst e
  exact h_3
theorem foot_T27_4 {w:World} {ad:Addr} {n:Nat} {xs:List S27} (h:Kd.C k27 w (some ad) n xs) (i:Int) (h0:0<=i) (h1:i < n):w.cell? ⟨(ad.add (i.toNat*5)).block,(ad.add (i.toNat*5)).off+4,none⟩=some (.int .i64 (rd_T27 xs i).f4):=by
  obtain⟨ad2,e,h_0,h_1,h_2,h_3,h_4⟩:=at_T27 h i h0 h1
  injection e with e
  subst e
  exact h_4
theorem foot_T118_0 {w:World} {ad:Addr} {n:Nat} {xs:List S118} (h:Kd.C k118 w (some ad) n xs) (i:Int) (h0:0<=i) (h1:i < n):w.cell? (ad.add (i.toNat*2))=some (.int .i64 (rd_T118 xs i).f0):=by
  obtain⟨ad2,e,h_0,h_1⟩:=at_T118 h i h0 h1
  injection e with e
  subst e
  exact h_0
theorem foot_T118_1 {w:World} {ad:Addr} {n:Nat} {xs:List S118} (h:Kd.C k118 w (some ad) n xs) (i:Int) (h0:0<=i) (h1:i < n):w.cell? ⟨(ad.add (i.toNat*2)).block,(ad.add (i.toNat*2)).off+1,none⟩=some (.int .i64 (rd_T118 xs i).f1):=by
  obtain⟨ad2,e,h_0,h_1⟩:=at_T118 h i h0 h1
  injection e with e
  subst e
  exact h_1
theorem frozen_at {W w':World} {n:Nat} (hq:W.drewN n=w') {a:Addr} {b:Bool} (h:W.frozen? a=b):w'.frozen? a=b:=by
  rw [<- hq,World.frozen?_drewN];exact h
theorem tyap {α β:Type} {d:Kd α} {d':Kd β} {e e':Nat} {w:World} {base:Nat} {ok:Nat->Prop} {v:Value} {xs:List α} (h:d.R e w base ok v xs) (hne:∀ q,q∈e' :: d'.E->q≠e) {k:Nat} (hk:some k=v.ownBlock) (hs:∃ q,q∈e' :: d'.E/\∃ cells,w.heap[k]?=some (.cells cells q (0,0))):False:=by
  obtain⟨q,hq,c,hc⟩:=hs
  obtain⟨c',hc'⟩:=Kd.R_typed h k hk.symm
  rw [hc] at hc'
  injection hc' with hc'
  injection hc' with _ hc'
  exact hne q hq hc'
def jb (n k:Nat):Array Bool:=((List.range n).map fun i=>k.testBit i).toArray
theorem jI {c:Prop} [Decidable c] {α:Type} {A:Option α} {r:α} (h:(if c then A else none)=some r):decide c=true/\A=some r:=by
  by_cases x:c
  · exact⟨decide_eq_true x,by rwa [if_pos x] at h⟩
  · rw [if_neg x] at h;cases h
theorem jU {c:Prop} [Decidable c] {α:Type} {A:Option α} {r:α} (h:(if c then A else none)=some r):c/\A=some r:=⟨of_decide_eq_true (jI h).1,(jI h).2⟩
theorem jJ {c:Prop} [Decidable c] {α:Type} {A:Option α} {r:α} (h:(if c then A else none)=some r):c=True/\decide c=true/\A=some r:=⟨eq_true (jU h).1,jI h⟩
theorem jL {c:Prop} [Decidable c] {α:Type} {A:Option α} {r:α} (h:(if c then A else none)=some r):Aside0 c/\A=some r:=⟨⟨(jU h).1⟩,(jU h).2⟩
theorem jD {c:Prop} [Decidable c] {α:Type} {A B:Option α} {r:α} (h:(if c then A else B)=some r):(decide c=true/\A=some r)\/(decide c=false/\B=some r):=by
  by_cases x:c
  · exact .inl ⟨decide_eq_true x,by rwa [if_pos x] at h⟩
  · exact .inr ⟨decide_eq_false x,by rwa [if_neg x] at h⟩
theorem jE {β:Type} [BEq β] [LawfulBEq β] {x y:β} [Decidable (x=y)] {α:Type} {A B:Option α} {r:α} (h:(if x=y then A else B)=some r):((x == y)=true/\(x != y)=false/\A=some r)\/(¬ x=y/\(x == y)=false/\(x != y)=true/\B=some r):=by
  by_cases c:x=y
  · exact .inl ⟨beq_iff_eq.mpr c,bne_eq_false_iff_eq.mpr c,by rwa [if_pos c] at h⟩
  · exact .inr ⟨c,beq_eq_false_iff_ne.mpr c,bne_iff_ne.mpr c,by rwa [if_neg c] at h⟩
theorem jB {b:Bool} {α:Type} {A B:Option α} {r:α} (h:(if b=true then A else B)=some r):(b=true/\A=some r)\/(b=false/\B=some r):=by
  cases b
  · exact .inr ⟨rfl,h⟩
  · exact .inl ⟨rfl,h⟩
theorem blk_farO {w:World} {g g' j:Nat} {o:Option Obj} (h:w.heap[g]?=o) (hp:g≠g') (u:Value):(w.setCell ⟨g',j,none⟩ u).heap[g]?=o:=(Below.heap_setCell w ⟨g',j,none⟩ u g hp).trans h
theorem blk_farQ {w:World} {g g' j:Nat} {o:Option Obj} {u:Value} (h:w.heap[g]?=o) (hp:Aside0 (g≠g')):(w.setCell ⟨g',j,none⟩ u).heap[g]?=o:=(Below.heap_setCell w ⟨g',j,none⟩ u g hp.out).trans h
theorem blk_putE {w:World} {g t j:Nat} {cs:Array Value} {v:Value} (h:w.heap[g]?=some (.cells cs t (0,0))):(w.setCell ⟨g,j,none⟩ v).heap[g]?=some (.cells (cs.setIfInBounds j v) t (0,0)):=blk_put h j v rfl
theorem qF {p q:Prop} (h:Aside0 p) (f:p->q:=by
    intro h_
    apply Eq.trans
    · repeat (with_reducible first|exact h_|assumption|apply blk_putE|apply blk_farQ|apply blk_drewN|apply blk_drew|apply blk_alloc)
    · rfl):q:=f h.out
theorem qL {p q:Prop} (h:Aside0 p) (f:p->q:=by intro h_;(with_reducible repeat (first|refine blk_drewN ?_ _|refine blk_drew ?_|refine blk_alloc ?_ _|refine blk_farO ?_ (Aside0.out (by assumption)) _));exact h_):q:=f h.out
theorem mM {α:Type} {x y:Option α} (h:LeO x y:=by repeat' (first|(with_reducible first|exact LeO.refl _|exact LeO.none _|refine LeO.ite ?_ ?_|refine LeO.bind ?_ (fun _=>?_)|apply_assumption)|exact LeO.none _|apply_assumption|refine LeO.ite ?_ ?_|refine LeO.bind ?_ (fun _=>?_))):LeO x y:=h
theorem kC {p q:Prop} (h:p) (f:p->q:=by intro h_;repeat (first|exact h_|(with_reducible refine Kd.C_alloc ?_ _)|(with_reducible refine Kd.C_drewN ?_ _)|(with_reducible refine Kd.C_drew ?_))):q:=f h
theorem kn {w:World} {a:Addr} {v:Value} {b g:Nat} (h:w.cell? a=some v) (hg:Aside0 (w.heap.size<=g)) (e:a.block=b:=by first|rfl|exact add_block _ _):b≠g:=Nat.ne_of_lt (Nat.lt_of_lt_of_le (e ▸ World.block_lt_of_cell? _ _ h) hg.out)
theorem kx {w W:World} {a:Addr} {v:Value} (hb:Aside0 (Below w.heap.size w W)) (h:w.cell? a=some v):W.cell? a=some v:=(hb.out.cell (World.block_lt_of_cell? w _ h)).trans h
theorem ky {α:Type} (E:α):∃ y,Aside0 (y=E):=⟨E,⟨rfl⟩⟩
theorem kz {α β:Type} {y E:α} {f:α->Option β} {r:β} (N:Aside0 (y=E)) (h:(some E).bind f=some r):f y=some r:=by rw [N.out];exact h
theorem kQ {α:Type} {d:Kd α} {A:Option Addr} {n:Nat} {xs:List α} {w0 W w1:World} (h:Aside0 (d.C w0 A n xs)) (hb:Below W.heap.size W w1) (f:d.C w0 A n xs->d.C W A n xs:=by intro h_;exact kC h_):Aside0 (d.C w1 A n xs):=⟨Kd.C_below (f h.out) hb⟩
theorem kT {w W w1:World} {S:Nat->Prop} (hb:Below W.heap.size W w1) (h:Kept w W S:=by exact qT):Aside0 (Kept w w1 S):=⟨Kept.below h hb⟩
theorem kW {W w1:World} {a:Addr} {v:Value} (hb:Below W.heap.size W w1) (h:Aside0 (W.cell? a=some v)):Aside0 (w1.cell? a=some v):=⟨pw_cell_below hb h.out⟩
theorem kL {α:Type} {d:Kd α} {e:Nat} {ok:Nat->Prop} {v:Value} {xs:List α} {w W w1:World} (h:d.R e w1 W.heap.size ok v xs) (hb:w.heap.size<=W.heap.size:=by exact below_size qB):Aside0 (d.R e w1 w.heap.size ok v xs):=⟨Kd.R_lower h hb⟩
theorem kO {α β:Type} {d:Kd α} {d':Kd β} {e e' base:Nat} {ok ok':Nat->Prop} {u v:Value} {xs:List α} {ys:List β} {w0 W w1 w2:World} (h:Aside0 (d.R e w0 base ok u xs)) (ho:d'.R e' w2 W.heap.size ok' v ys) (hb:Below W.heap.size W w1) (f:d.R e w0 base ok u xs->d.R e W base ok u xs:=by intro h_;(with_reducible repeat (first|apply Kd.R_alloc|apply Kd.R_drewN|apply Kd.R_drew));exact h_):Aside0 (d.R e w1 base (fun k=>ok k/\some k≠v.ownBlock) u xs):=⟨Kd.R_elder' (f h.out) (Kd.R_base ho) hb⟩
theorem kf {p q:Prop} (h:p) (f:p->q:=by intro h_;first|exact h_|(rw [add_block];exact h_)|(show (Addr.add _ _).block≠_;rw [add_block];exact h_)|(dsimp only;exact h_)):q:=f h
theorem qW {p:Prop} (h:p:=by first|rfl|(simp [errW_none,errW_some] <;> rfl)|(simp [*,errW_none,errW_some] <;> rfl)):p:=h
theorem qU {p:Prop} (h:p:=by repeat (first|exact Drawn0.refl _|apply Drawn0.step)):p:=h
theorem kH {w W w1:World} (hb:Below W.heap.size W w1) (h:Below w.heap.size w W:=by exact qB):Aside0 (Below w.heap.size w w1):=⟨below_step h hb⟩
theorem kB {w0 W w1:World} {g:Nat} {o:Obj} (h:Aside0 (w0.heap[g]?=some o)) (hb:Below W.heap.size W w1) (f:w0.heap[g]?=some o->W.heap[g]?=some o:=by intro h_;(with_reducible repeat (first|refine blk_drewN ?_ _|refine blk_drew ?_|refine blk_alloc ?_ _|refine blk_farO ?_ (Aside0.out (by assumption)) _));exact h_):Aside0 (w1.heap[g]?=some o):=⟨blk_below (f h.out) hb⟩
theorem kR {α:Type} {d:Kd α} {e base:Nat} {ok:Nat->Prop} {v:Value} {xs:List α} {w0 W w1:World} (h:Aside0 (d.R e w0 base ok v xs)) (hb:Below W.heap.size W w1) (f:d.R e w0 base ok v xs->d.R e W base ok v xs:=by intro h_;(with_reducible repeat (first|apply Kd.R_alloc|apply Kd.R_drewN|apply Kd.R_drew));exact h_):Aside0 (d.R e w1 base ok v xs):=⟨Kd.R_below (f h.out) hb⟩
theorem kG {w W:World} {g:Nat} (hg:g=W.heap.size) (h:w.heap.size<=W.heap.size:=by exact below_size qB):Aside0 (w.heap.size<=g):=⟨hg ▸ h⟩
theorem kN {w0 W:World} {g g1:Nat} {o:Obj} (hg:g1=W.heap.size) (h:Aside0 (w0.heap[g]?=some o)) (f:w0.heap[g]?=some o->W.heap[g]?=some o:=by intro h_;(with_reducible repeat (first|refine blk_drewN ?_ _|refine blk_drew ?_|refine blk_alloc ?_ _|refine blk_farO ?_ (Aside0.out (by assumption)) _));exact h_):Aside0 (g≠g1):=⟨by rw [hg];exact Nat.ne_of_lt (blk_lt (f h.out))⟩
theorem kM {w0 W:World} {g g1:Nat} {o:Obj} (hg:g1=W.heap.size) (h:Aside0 (w0.heap[g]?=some o)) (f:w0.heap[g]?=some o->W.heap[g]?=some o:=by intro h_;(with_reducible repeat (first|refine blk_drewN ?_ _|refine blk_drew ?_|refine blk_alloc ?_ _|refine blk_farO ?_ (Aside0.out (by assumption)) _));exact h_):Aside0 (g1≠g):=⟨by rw [hg];exact Nat.ne_of_gt (blk_lt (f h.out))⟩
theorem kS {α:Type} {d:Kd α} {e base:Nat} {ok:Nat->Prop} {v:Value} {xs:List α} {w0 W w1:World} (h:Aside0 (d.S e w0 base ok v xs)) (hb:Below W.heap.size W w1) (f:d.S e w0 base ok v xs->d.S e W base ok v xs:=by intro h_;(with_reducible repeat (first|apply Kd.S_alloc|apply Kd.S_drewN|apply Kd.S_drew));exact h_):Aside0 (d.S e w1 base ok v xs):=⟨Kd.S_below (f h.out) hb⟩
section
variable {P:Program} {ops:Array Oper} {rest:List Oper} {o:Oper} {a:Act} {Q:Exit->Act->World->Prop}
theorem jV {α:Type} (d:Kd α) {W:World} (e:Nat) (xs:List α) (inner:List Value) {N:Tmp} (hrep:Reps (d.M W W.heap.size (fun _=>True)) d.sz xs inner) (h:∀ v1 w1,d.R e w1 W.heap.size (fun _=>True) v1 xs->Below W.heap.size W w1->wpList P ops Q rest (a.put o.dst v1) w1) (hgd:o.guard=none:=by rfl) (hd:o.dst=some N:=by rfl)
    (hrun:(execOp a.eval o).run P W = .ok (.value (.slice (some ⟨W.heap.size,0,none⟩) xs.length xs.length)) (W.alloc (.cells inner.toArray e)):=by first|(go_simp;done)|(go_simp;rfl)) (hm:xs.length<=9223372036854775807:=by simp):wpList P ops Q (o :: rest) a W :=
  Kd.R_lit d _ e hgd hd hrun hrep (fun _ hk=>hk) trivial (Below.refl _ _) (Nat.le_refl _) hm (fun v1 w1 h1 h2 _ _=>h v1 w1 h1 h2)
theorem jc {w:World} (f m:Nat) {xs:Array Operand} {ts:Array TypeId} (_h:o.op = .call { callee:=.value (.func f),args:=xs,argTypes:=ts }) (_g:o.dst=some m) (h:wpList P ops Q (o :: rest) a w):wpList P ops Q (o :: rest) a w:=h
theorem jd {w:World} (m:Nat) (_g:o.dst=some m) (h:wpList P ops Q (o :: rest) a w):wpList P ops Q (o :: rest) a w:=h
theorem jX {W:World} (cs:Array Value) (t:TypeId) {N:Tmp} (h:∀ g,g=W.heap.size->∀ w1,w1.heap[g]?=some (.cells cs t (0,0))->Below W.heap.size W w1->wpList P ops Q rest (a.put o.dst (.pointer (some ⟨g,0,none⟩))) w1) (hgd:o.guard=none:=by rfl) (hd:o.dst=some N:=by rfl)
    (hrun:(execOp a.eval o).run P W = .ok (.value (.pointer (some ⟨W.heap.size,0,none⟩))) (W.alloc (.cells cs t (0,0))):=by first|(go_simp;done)|(go_simp;rfl)):wpList P ops Q (o :: rest) a W:=box_event hgd hd hrun h
theorem jG {w:World} {f:FuncId} {fn:Func} {xs:Array Operand} {ts:Array TypeId} {N:Option Tmp} (hf:P.funcs[f]?=some fn) (args:Array Value) (h:Calls P f args w fun e w'=>∃ v,e = .returned v/\wpList P ops Q rest (a.put N v) w') (hd:o.dst=N:=by rfl) (hg:o.guard=none:=by rfl) (hname:(fn.name == "runtime.NumGoroutine")=false:=by kernel_rfl) (hb:fn.body.isSome=true:=by rfl)
    (hop:o.op = .call { callee:=.value (.func f),args:=xs,argTypes:=ts }:=by rfl) (hargs:xs.map a.eval=args:=by exact qM):wpList P ops Q (o :: rest) a w:=goesL_ N hd hg hf hname hb args hop hargs h
theorem jp {md:Region.Mode} {S:World->Prop} {ds:List Nat} (i m:Nat) {oi:Oper} {v:Value} {fuel:Nat} {l:Array Bool} {w:World} (l':Array Bool) {a':Act} (h:wpAnyLast P md ops Q S ds fuel l' a' w) (hi:ops[i]?=some oi:=by rfl) (hN:oi.dst=some m:=by rfl) (hc:anyB md ops l l' i=true:=by exact any_of HT_.out (by kernel_rfl))
    (hQ:∀ c a w,Q (.panic c) (a.put oi.dst v) w->Q (.panic c) a w:=by exact fun _ _ _ h=>h) (hy:Yields P ops oi v a:=by refine Or.inl ⟨by rfl,?_⟩;intro w';go_simp;with_reducible rfl) (ha:a.put (some m) v=a':=by simp only [Act.put,List.setIfInBounds_toArray,List.set_cons_zero,List.set_cons_succ,i64_w,i32_w];rfl):wpAnyLast P md ops Q S ds (fuel+1) l a w:=pure_ l' hi hN hc hQ hy ha h
theorem jt {md:Region.Mode} {S:World->Prop} {ds:List Nat} (i m:Nat) {oi:Oper} {v:Value} {fuel:Nat} {l:Array Bool} {w:World} (l':Array Bool) {a':Act} (h:wpAnyLast P md ops Q S ds fuel l' a' w) (hi:ops[i]?=some oi:=by rfl) (hN:oi.dst=some m:=by rfl) (hc:takeB md ops ds l l' i=true:=by exact take_ofW HT_.out HW_.out (by kernel_rfl))
    (hQ:∀ c a w,Q (.panic c) (a.put oi.dst v) w->Q (.panic c) a w:=by exact fun _ _ _ h=>h) (hy:YieldsIf P ops S oi v a:=by refine Or.inl ⟨by rfl,?_⟩;intro w' hS_;repeat (obtain⟨s_,hS_⟩:=hS_);go_simp;with_reducible rfl) (hS:S w:=by exact hHeld) (ha:a.put (some m) v=a':=by simp only [Act.put,List.setIfInBounds_toArray,List.set_cons_zero,List.set_cons_succ,i64_w,i32_w];rfl):wpAnyLast P md ops Q S ds (fuel+1) l a w:=take_ l' hi hN hc hQ hy hS ha h
end
theorem jz2 {w:World} {g t:Nat} {a0 a1:Value} (h:Aside0 (w.heap[g]?=some (.cells #[a0,a1] t (0,0)))):w.cell? ⟨g,0,none⟩=some a0/\w.cell? ⟨g,1,none⟩=some a1/\w.frozen? ⟨g,0,none⟩=false/\w.frozen? ⟨g,1,none⟩=false:=⟨(blk_cell h.out 0).trans rfl,(blk_cell h.out 1).trans rfl,blk_frozen h.out 0,blk_frozen h.out 1⟩
theorem jz3 {w:World} {g t:Nat} {a0 a1 a2:Value} (h:Aside0 (w.heap[g]?=some (.cells #[a0,a1,a2] t (0,0)))):w.cell? ⟨g,0,none⟩=some a0/\w.cell? ⟨g,1,none⟩=some a1/\w.cell? ⟨g,2,none⟩=some a2/\w.frozen? ⟨g,0,none⟩=false/\w.frozen? ⟨g,1,none⟩=false/\w.frozen? ⟨g,2,none⟩=false:=⟨(blk_cell h.out 0).trans rfl,(blk_cell h.out 1).trans rfl,(blk_cell h.out 2).trans rfl,blk_frozen h.out 0,blk_frozen h.out 1,blk_frozen h.out 2⟩
theorem jz5 {w:World} {g t:Nat} {a0 a1 a2 a3 a4:Value} (h:Aside0 (w.heap[g]?=some (.cells #[a0,a1,a2,a3,a4] t (0,0)))):w.cell? ⟨g,0,none⟩=some a0/\w.cell? ⟨g,1,none⟩=some a1/\w.cell? ⟨g,2,none⟩=some a2/\w.cell? ⟨g,3,none⟩=some a3/\w.cell? ⟨g,4,none⟩=some a4/\w.frozen? ⟨g,0,none⟩=false/\w.frozen? ⟨g,1,none⟩=false/\w.frozen? ⟨g,2,none⟩=false/\w.frozen? ⟨g,3,none⟩=false/\w.frozen? ⟨g,4,none⟩=false:=⟨(blk_cell h.out 0).trans rfl,(blk_cell h.out 1).trans rfl,(blk_cell h.out 2).trans rfl,(blk_cell h.out 3).trans rfl,(blk_cell h.out 4).trans rfl,blk_frozen h.out 0,blk_frozen h.out 1,blk_frozen h.out 2,blk_frozen h.out 3,blk_frozen h.out 4⟩
theorem jz8 {w:World} {g t:Nat} {a0 a1 a2 a3 a4 a5 a6 a7:Value} (h:Aside0 (w.heap[g]?=some (.cells #[a0,a1,a2,a3,a4,a5,a6,a7] t (0,0)))):w.cell? ⟨g,0,none⟩=some a0/\w.cell? ⟨g,1,none⟩=some a1/\w.cell? ⟨g,2,none⟩=some a2/\w.cell? ⟨g,3,none⟩=some a3/\w.cell? ⟨g,4,none⟩=some a4/\w.cell? ⟨g,5,none⟩=some a5/\w.cell? ⟨g,6,none⟩=some a6/\w.cell? ⟨g,7,none⟩=some a7/\w.frozen? ⟨g,0,none⟩=false/\w.frozen? ⟨g,1,none⟩=false/\w.frozen? ⟨g,2,none⟩=false/\w.frozen? ⟨g,3,none⟩=false/\w.frozen? ⟨g,4,none⟩=false/\w.frozen? ⟨g,5,none⟩=false/\w.frozen? ⟨g,6,none⟩=false/\w.frozen? ⟨g,7,none⟩=false:=⟨(blk_cell h.out 0).trans rfl,(blk_cell h.out 1).trans rfl,(blk_cell h.out 2).trans rfl,(blk_cell h.out 3).trans rfl,(blk_cell h.out 4).trans rfl,(blk_cell h.out 5).trans rfl,(blk_cell h.out 6).trans rfl,(blk_cell h.out 7).trans rfl,blk_frozen h.out 0,blk_frozen h.out 1,blk_frozen h.out 2,blk_frozen h.out 3,blk_frozen h.out 4,blk_frozen h.out 5,blk_frozen h.out 6,blk_frozen h.out 7⟩
theorem jT27 {w:World} {A:Option Addr} {n:Nat} {xs:List S27} (hr:Aside0 (Kd.C k27 w A n xs)) (i:Int) (p:decide (0<=i)=true:=by first|(with_reducible assumption)|assumption) (q:decide (i < (n:Int))=true:=by first|(with_reducible assumption)|assumption):∃ ad,A=some ad/\w.cell? (ad.add (i.toNat*5))=some (.int .i64 (rd_T27 xs i).f0)/\w.cell? ⟨(ad.add (i.toNat*5)).block,(ad.add (i.toNat*5)).off+1,none⟩=some (.int .i64 (rd_T27 xs i).f1)/\w.cell? ⟨(ad.add (i.toNat*5)).block,(ad.add (i.toNat*5)).off+2,none⟩=some (.int .i64 (rd_T27 xs i).f2)/\w.cell? ⟨(ad.add (i.toNat*5)).block,(ad.add (i.toNat*5)).off+3,none⟩=some (.int .i64 (rd_T27 xs i).f3)/\w.cell? ⟨(ad.add (i.toNat*5)).block,(ad.add (i.toNat*5)).off+4,none⟩=some (.int .i64 (rd_T27 xs i).f4)/\(0<=i)=True/\(i < (n:Int))=True:=by
  obtain⟨ad,e,h0,h1,h2,h3,h4⟩:=at_T27 hr.out i (of_decide_eq_true p) (of_decide_eq_true q)
  exact⟨ad,e,h0,h1,h2,h3,h4,eq_true (of_decide_eq_true p),eq_true (of_decide_eq_true q)⟩
theorem aM {p:Prop} (h:p):Aside0 p:=⟨h⟩
abbrev iV (n:Int):Go.Value:=.int .i64 n
theorem oJ {α:Type} {a b:α} (h:some a=some b):a=b:=Option.some.inj h
theorem oJ2 {T0:Type} {a0 b0:T0} {T1:Type} {a1 b1:T1} (H:some (a0,a1)=some (b0,b1)):a0=b0 ∧ a1=b1:=by
 simp only [Option.some.injEq,Prod.mk.injEq] at H;exact H
theorem oJ3 {T0:Type} {a0 b0:T0} {T1:Type} {a1 b1:T1} {T2:Type} {a2 b2:T2} (H:some (a0,a1,a2)=some (b0,b1,b2)):a0=b0 ∧ a1=b1 ∧ a2=b2:=by
 simp only [Option.some.injEq,Prod.mk.injEq] at H;exact H
theorem oJ4 {T0:Type} {a0 b0:T0} {T1:Type} {a1 b1:T1} {T2:Type} {a2 b2:T2} {T3:Type} {a3 b3:T3} (H:some (a0,a1,a2,a3)=some (b0,b1,b2,b3)):a0=b0 ∧ a1=b1 ∧ a2=b2 ∧ a3=b3:=by
 simp only [Option.some.injEq,Prod.mk.injEq] at H;exact H
theorem oJ5 {T0:Type} {a0 b0:T0} {T1:Type} {a1 b1:T1} {T2:Type} {a2 b2:T2} {T3:Type} {a3 b3:T3} {T4:Type} {a4 b4:T4} (H:some (a0,a1,a2,a3,a4)=some (b0,b1,b2,b3,b4)):a0=b0 ∧ a1=b1 ∧ a2=b2 ∧ a3=b3 ∧ a4=b4:=by
 simp only [Option.some.injEq,Prod.mk.injEq] at H;exact H
theorem oJ6 {T0:Type} {a0 b0:T0} {T1:Type} {a1 b1:T1} {T2:Type} {a2 b2:T2} {T3:Type} {a3 b3:T3} {T4:Type} {a4 b4:T4} {T5:Type} {a5 b5:T5} (H:some (a0,a1,a2,a3,a4,a5)=some (b0,b1,b2,b3,b4,b5)):a0=b0 ∧ a1=b1 ∧ a2=b2 ∧ a3=b3 ∧ a4=b4 ∧ a5=b5:=by
 simp only [Option.some.injEq,Prod.mk.injEq] at H;exact H
theorem oJ9 {T0:Type} {a0 b0:T0} {T1:Type} {a1 b1:T1} {T2:Type} {a2 b2:T2} {T3:Type} {a3 b3:T3} {T4:Type} {a4 b4:T4} {T5:Type} {a5 b5:T5} {T6:Type} {a6 b6:T6} {T7:Type} {a7 b7:T7} {T8:Type} {a8 b8:T8} (H:some (a0,a1,a2,a3,a4,a5,a6,a7,a8)=some (b0,b1,b2,b3,b4,b5,b6,b7,b8)):a0=b0 ∧ a1=b1 ∧ a2=b2 ∧ a3=b3 ∧ a4=b4 ∧ a5=b5 ∧ a6=b6 ∧ a7=b7 ∧ a8=b8:=by
 simp only [Option.some.injEq,Prod.mk.injEq] at H;exact H
theorem kI {w W W1:World} {g:Nat} (k:KeepBut W W1 g none) (h:KeepBut w W g none:=by repeat (first|(with_reducible first|exact HK.out|apply KeepBut.set_|apply keep_drewN|apply keep_drew|apply keep_alloc|refine keep_far ?_ (Aside0.out (by assumption)) _)|exact HK.out)):Aside0 (KeepBut w W1 g none):=⟨h.trans k (.inl rfl)⟩
end Go.Proofs.YtebpplallecogaaGreat.M
namespace Go.Proofs.YtebpplallecogaaGreat.M
open Go.Proofs.Tryz Go.RowKit Go.Proofs.YtebpplallecogaaGreatW.PrintWords Go.Proofs.YtebpplallecogaaGreatW.PrintLast Go.Proofs.YtebpplallecogaaGreatW.PrintMore
attribute [local go_sem] max2_int min2_int max_two min_two max_three min_three max_four min_four
theorem eqA27 (d:Nat) (w:World) (x0 y0 x1 y1 x2 y2 x3 y3 x4 y4:Int) :
  (Op.equalIn (d+2) 27 (.agg #[iV x0,iV x1,iV x2,iV x3,iV x4]) (.agg #[iV y0,iV y1,iV y2,iV y3,iV y4])).run prog w = .ok (x0 == y0 && (x1 == y1 && (x2 == y2 && (x3 == y3 && (x4 == y4))))) w:=by
 refine eqA_of underlying27 (by kernel_rfl) ?_
 refine eqf_cons (by rfl) (by go_simp;rfl) (by go_simp;rfl) (by go_simp) ?_
 refine eqf_cons (by rfl) (by go_simp;rfl) (by go_simp;rfl) (by go_simp) ?_
 refine eqf_cons (by rfl) (by go_simp;rfl) (by go_simp;rfl) (by go_simp) ?_
 refine eqf_cons (by rfl) (by go_simp;rfl) (by go_simp;rfl) (by go_simp) ?_
 exact eqf_last (by rfl) (by go_simp;rfl) (by go_simp;rfl) (by go_simp)
def Sbl.f (a0 a1 a2:Int):Option (Bool):=if a0>=a1 then (some (decide (a0<=a2))) else (some false)
theorem Sbl.calls (a0 a1 a2:Int) (r:Bool) (w:World) (h:Sbl.f a0 a1 a2=some r) :
  Calls prog 46 #[iV a0,iV a1,iV a2] w fun e w'=>e = .returned (.bool r)/\Drawn0 w w':=by
 have H:(if a0>=a1 then (some (decide (a0<=a2))) else (some false))=some r:=h
 clear h
 replace H:=jD H;rcases H with ⟨aa,H⟩ | ⟨aa,H⟩
 ·obtain rfl:=oJ H
  go_enter func46,ntmps46
  go_wp2
  go_ret
  exact⟨qZ,qU⟩
 obtain rfl:=oJ H
 go_enter func46,ntmps46
 go_wp2
 go_ret
 exact⟨qZ,qU⟩
def Saq.f (a0:Int):Option (Bool):=(Sbl.f a0 1 12).bind fun aa=>(some aa)
theorem Saq.calls (a0:Int) (r:Bool) (w:World) (h:Saq.f a0=some r) :
  Calls prog 67 #[iV a0] w fun e w'=>e = .returned (.bool r)/\Drawn0 w w':=by
 have H:((Sbl.f a0 1 12).bind fun aa=>(some aa))=some r:=h
 clear h
 obtain⟨aa,A2,H⟩:=qE H
 try dsimp only at H
 obtain rfl:=oJ H
 go_enter func67,ntmps67
 go_wp2_with (first|((with_reducible refine jc 46 4 rfl rfl ?_);refine jG func46 #[iV a0,iV 1,iV 12] ?_;refine (Sbl.calls a0 1 12 aa _ A2.out).mono ?_;rintro e w' ⟨rfl,⟨nd,rfl⟩⟩;refine⟨_,rfl,?_⟩))
 go_ret
 exact⟨qZ,qU⟩
def SaG.f (a0:Int) (a1:Bool):Option (Bool):=if a1=true then ((Sbl.f a0 0 11).bind fun aa=>(some aa)) else (some (a0 == 0))
theorem SaG.calls (a0:Int) (a1 r:Bool) (w:World) (h:SaG.f a0 a1=some r) :
  Calls prog 76 #[iV a0,.bool a1] w fun e w'=>e = .returned (.bool r)/\Drawn0 w w':=by
 have H:=h;unfold SaG.f at H
 clear h
 replace H:=jB H;rcases H with ⟨rfl,H⟩ | ⟨rfl,H⟩
 ·obtain⟨aa,A4,H⟩:=qE H
  try dsimp only at H
  obtain rfl:=oJ H
  go_enter func76,ntmps76
  go_wp2_with (first|((with_reducible refine jc 46 7 rfl rfl ?_);refine jG func46 #[iV a0,iV 0,iV 11] ?_;refine (Sbl.calls a0 0 11 aa _ A4.out).mono ?_;rintro e w' ⟨rfl,⟨nd,rfl⟩⟩;refine⟨_,rfl,?_⟩))
  go_ret
  exact⟨qZ,qU⟩
 obtain rfl:=oJ H
 go_enter func76,ntmps76
 go_wp2
 go_ret
 exact⟨qZ,qU⟩
def SaH.f (ag aa ae af ah:Int) (a1 a2 a3:Bool):Option (Bool):=(SaG.f aa a1).bind fun ai=>(if ai=true then ((SaG.f ae a2).bind fun aj=>(if aj=true then ((SaG.f af a3).bind fun au=>(some au)) else (some false))) else (some false))
theorem SaH_0 {G:Prop} (h:G:=by
  go_enter func65,ntmps65
  go_wp2_with (first|((with_reducible refine jd 4 rfl ?_);refine jX _ 27 ?_;intro ax hg az hbox hb;have av:=aM hbox;have ay:=kG hg;replace HB:=kH hb;clear hb hbox hg;have aA:=jz5 av)|((with_reducible refine jc 76 12 rfl rfl ?_);refine jG func76 #[iV aa,.bool a1] ?_;refine (SaG.calls _ _ _ _ (Aside0.out (by assumption))).mono ?_;rintro e w' ⟨rfl,⟨nd,rfl⟩⟩;refine⟨_,rfl,?_⟩)|(go_at_call 76;(with_reducible refine (SaG.calls _ _ _ _ (Aside0.out (by assumption))).mono ?_);rintro e w' ⟨rfl,⟨nd,rfl⟩⟩))
  go_ret
  exact⟨qW,qB⟩):G:=h
theorem SaH.calls (ag aa ae af ah:Int) (a1 a2 a3 r:Bool) (w:World) (h:SaH.f ag aa ae af ah a1 a2 a3=some r) :
  Calls prog 65 #[.agg #[iV ag,iV aa,iV ae,iV af,iV ah],.bool a1,.bool a2,.bool a3] w fun e w'=>e = .returned (.bool r)/\Below w.heap.size w w':=by
 have aC:=underlying27
 have HB:=aM (Below.refl w.heap.size w)
 have H:=h;unfold SaH.f at H
 clear h
 obtain⟨ai,A5,H⟩:=qE H
 try dsimp only at H
 replace H:=jB H;rcases H with ⟨rfl,H⟩ | ⟨rfl,H⟩
 ·obtain⟨aj,A7,H⟩:=qE H
  try dsimp only at H
  replace H:=jB H;rcases H with ⟨rfl,H⟩ | ⟨rfl,H⟩
  ·obtain⟨au,A9,H⟩:=qE H
   try dsimp only at H
   obtain rfl:=oJ H
   exact SaH_0
  obtain rfl:=oJ H
  exact SaH_0
 obtain rfl:=oJ H
 exact SaH_0
def Sax.f (a0:Int):Option (Bool):=(Sbl.f a0 (-2147483648) 2147483647).bind fun aa=>(some aa)
theorem Sax.calls (a0:Int) (r:Bool) (w:World) (h:Sax.f a0=some r) :
  Calls prog 66 #[iV a0] w fun e w'=>e = .returned (.bool r)/\Drawn0 w w':=by
 have H:=h;unfold Sax.f at H
 clear h
 obtain⟨aa,A2,H⟩:=qE H
 try dsimp only at H
 obtain rfl:=oJ H
 go_enter func66,ntmps66
 go_wp2_with (first|((with_reducible refine jc 46 4 rfl rfl ?_);refine jG func46 #[iV a0,iV (-2147483648),iV 2147483647] ?_;refine (Sbl.calls _ _ _ _ _ (Aside0.out (by assumption))).mono ?_;rintro e w' ⟨rfl,⟨nd,rfl⟩⟩;refine⟨_,rfl,?_⟩))
 go_ret
 exact⟨qZ,qU⟩
def Sau.f (af ag ah ai ae a1:Int):Option (Bool):=if af=1 then ((SaH.f af ag ah ai ae true false false).bind fun av=>(if av=true then ((Sax.f ae).bind fun ax=>(some ax)) else (some false))) else (if af=2 then ((SaH.f af ag ah ai ae true true false).bind fun ay=>(if ay=true then (some (ae == 0)) else (some false))) else (if af=3 then ((SaH.f af ag ah ai ae true true true).bind fun az=>(if az=true then ((Saq.f ae).bind fun aA=>(some aA)) else (some false))) else (if af=4 then ((SaH.f af ag ah ai ae false false false).bind fun aC=>(if aC=true then (if ae>=0 then (some (decide (ae < a1))) else (some false)) else (some false))) else (if af=5 then ((SaH.f af ag ah ai ae false true false).bind fun aD=>(if aD=true then (if ae>=0 then (some (decide (ae < a1))) else (some false)) else (some false))) else (if af=6 then ((SaH.f af ag ah ai ae false true false).bind fun aG=>(if aG=true then ((Sbl.f ae 0 2).bind fun aH=>(some aH)) else (some false))) else (if af=7 then ((SaH.f af ag ah ai ae true false false).bind fun aI=>(if aI=true then ((Sbl.f ae 0 2).bind fun aJ=>(some aJ)) else (some false))) else (if af=9 then ((SaH.f af ag ah ai ae false true false).bind fun aK=>(if aK=true then (some (ae == 0)) else (some false))) else (if af=8 then ((SaH.f af ag ah ai ae false false false).bind fun aN=>(if aN=true then (some (ae == 0)) else (some false))) else (if af=10 then ((SaH.f af ag ah ai ae false false false).bind fun aQ=>(if aQ=true then (some (ae == 0)) else (some false))) else (some false))))))))))
theorem Sau_0 {G:Prop} (h:G:=by
  go_enter func54,ntmps54
  go_wp2_with (first|((with_reducible refine jd 2 rfl ?_);refine jX _ 27 ?_;intro bG hg bI hbox hb;have aa:=aM hbox;have bH:=kG hg;replace HB:=kH hb;clear hb hbox hg;have bJ:=jz5 aa)|((with_reducible refine jc 65 10 rfl rfl ?_);refine jG func65 #[.agg #[iV af,iV ag,iV ah,iV ai,iV ae],.bool true,.bool false,.bool false] ?_;refine (SaH.calls _ _ _ _ _ _ _ _ _ _ (Aside0.out (by assumption))).mono ?_;rintro e bK ⟨rfl,hb⟩;refine⟨_,rfl,?_⟩;replace aa:=kB aa hb;replace HB:=kH hb;clear hb;have bL:=jz5 aa)|(go_at_call 66;(with_reducible refine (Sax.calls _ _ _ (Aside0.out (by assumption))).mono ?_);rintro e w' ⟨rfl,⟨nd,rfl⟩⟩)|((with_reducible refine jc 65 19 rfl rfl ?_);refine jG func65 #[.agg #[iV af,iV ag,iV ah,iV ai,iV ae],.bool true,.bool true,.bool false] ?_;refine (SaH.calls _ _ _ _ _ _ _ _ _ _ (Aside0.out (by assumption))).mono ?_;rintro e bM ⟨rfl,hb⟩;refine⟨_,rfl,?_⟩;replace aa:=kB aa hb;replace HB:=kH hb;clear hb;have bN:=jz5 aa)|((with_reducible refine jc 65 28 rfl rfl ?_);refine jG func65 #[.agg #[iV af,iV ag,iV ah,iV ai,iV ae],.bool true,.bool true,.bool true] ?_;refine (SaH.calls _ _ _ _ _ _ _ _ _ _ (Aside0.out (by assumption))).mono ?_;rintro e bO ⟨rfl,hb⟩;refine⟨_,rfl,?_⟩;replace aa:=kB aa hb;replace HB:=kH hb;clear hb;have bP:=jz5 aa)|(go_at_call 67;(with_reducible refine (Saq.calls _ _ _ (Aside0.out (by assumption))).mono ?_);rintro e w' ⟨rfl,⟨nd,rfl⟩⟩)|((with_reducible refine jc 65 37 rfl rfl ?_);refine jG func65 #[.agg #[iV af,iV ag,iV ah,iV ai,iV ae],.bool false,.bool false,.bool false] ?_;refine (SaH.calls _ _ _ _ _ _ _ _ _ _ (Aside0.out (by assumption))).mono ?_;rintro e bQ ⟨rfl,hb⟩;refine⟨_,rfl,?_⟩;replace aa:=kB aa hb;replace HB:=kH hb;clear hb;have bR:=jz5 aa)|((with_reducible refine jc 65 52 rfl rfl ?_);refine jG func65 #[.agg #[iV af,iV ag,iV ah,iV ai,iV ae],.bool false,.bool true,.bool false] ?_;refine (SaH.calls _ _ _ _ _ _ _ _ _ _ (Aside0.out (by assumption))).mono ?_;rintro e bS ⟨rfl,hb⟩;refine⟨_,rfl,?_⟩;replace aa:=kB aa hb;replace HB:=kH hb;clear hb;have bT:=jz5 aa)|((with_reducible refine jc 65 67 rfl rfl ?_);refine jG func65 #[.agg #[iV af,iV ag,iV ah,iV ai,iV ae],.bool false,.bool true,.bool false] ?_;refine (SaH.calls _ _ _ _ _ _ _ _ _ _ (Aside0.out (by assumption))).mono ?_;rintro e bU ⟨rfl,hb⟩;refine⟨_,rfl,?_⟩;replace aa:=kB aa hb;replace HB:=kH hb;clear hb;have bV:=jz5 aa)|(go_at_call 46;(with_reducible refine (Sbl.calls _ _ _ _ _ (Aside0.out (by assumption))).mono ?_);rintro e w' ⟨rfl,⟨nd,rfl⟩⟩)|((with_reducible refine jc 65 76 rfl rfl ?_);refine jG func65 #[.agg #[iV af,iV ag,iV ah,iV ai,iV ae],.bool true,.bool false,.bool false] ?_;refine (SaH.calls _ _ _ _ _ _ _ _ _ _ (Aside0.out (by assumption))).mono ?_;rintro e bW ⟨rfl,hb⟩;refine⟨_,rfl,?_⟩;replace aa:=kB aa hb;replace HB:=kH hb;clear hb;have bX:=jz5 aa)|((with_reducible refine jc 65 85 rfl rfl ?_);refine jG func65 #[.agg #[iV af,iV ag,iV ah,iV ai,iV ae],.bool false,.bool true,.bool false] ?_;refine (SaH.calls _ _ _ _ _ _ _ _ _ _ (Aside0.out (by assumption))).mono ?_;rintro e bY ⟨rfl,hb⟩;refine⟨_,rfl,?_⟩;replace aa:=kB aa hb;replace HB:=kH hb;clear hb;have bZ:=jz5 aa)|((with_reducible refine jc 65 95 rfl rfl ?_);refine jG func65 #[.agg #[iV af,iV ag,iV ah,iV ai,iV ae],.bool false,.bool false,.bool false] ?_;refine (SaH.calls _ _ _ _ _ _ _ _ _ _ (Aside0.out (by assumption))).mono ?_;rintro e cz ⟨rfl,hb⟩;refine⟨_,rfl,?_⟩;replace aa:=kB aa hb;replace HB:=kH hb;clear hb;have cB:=jz5 aa))
  go_ret
  exact⟨qW,qB⟩):G:=h
theorem Sau.calls (af ag ah ai ae a1:Int) (r:Bool) (w:World) (h:Sau.f af ag ah ai ae a1=some r) :
  Calls prog 54 #[.agg #[iV af,iV ag,iV ah,iV ai,iV ae],iV a1] w fun e w'=>e = .returned (.bool r)/\Below w.heap.size w w':=by
 have cK:=underlying27
 have HB:=aM (Below.refl w.heap.size w)
 have H:=h;unfold Sau.f at H
 clear h
 replace H:=jE H;rcases H with ⟨bE,bF,H⟩ | ⟨c3,bE,bF,H⟩
 ·obtain⟨av,A4,H⟩:=qE H
  try dsimp only at H
  replace H:=jB H;rcases H with ⟨rfl,H⟩ | ⟨rfl,H⟩
  ·obtain⟨ax,A6,H⟩:=qE H
   try dsimp only at H
   obtain rfl:=oJ H
   exact Sau_0
  obtain rfl:=oJ H
  exact Sau_0
 replace H:=jE H;rcases H with ⟨aT,aU,H⟩ | ⟨c14,aT,aU,H⟩
 ·obtain⟨ay,df,H⟩:=qE H
  try dsimp only at H
  replace H:=jB H;rcases H with ⟨rfl,H⟩ | ⟨rfl,H⟩
  ·obtain rfl:=oJ H
   exact Sau_0
  obtain rfl:=oJ H
  exact Sau_0
 replace H:=jE H;rcases H with ⟨aV,aW,H⟩ | ⟨c24,aV,aW,H⟩
 ·obtain⟨az,dh,H⟩:=qE H
  try dsimp only at H
  replace H:=jB H;rcases H with ⟨rfl,H⟩ | ⟨rfl,H⟩
  ·obtain⟨aA,di,H⟩:=qE H
   try dsimp only at H
   obtain rfl:=oJ H
   exact Sau_0
  obtain rfl:=oJ H
  exact Sau_0
 replace H:=jE H;rcases H with ⟨aX,aY,H⟩ | ⟨dn,aX,aY,H⟩
 ·obtain⟨aC,dw,H⟩:=qE H
  try dsimp only at H
  replace H:=jB H;rcases H with ⟨rfl,H⟩ | ⟨rfl,H⟩
  ·replace H:=jD H;rcases H with ⟨aZ,H⟩ | ⟨aZ,H⟩
   ·obtain rfl:=oJ H
    exact Sau_0
   obtain rfl:=oJ H
   exact Sau_0
  obtain rfl:=oJ H
  exact Sau_0
 replace H:=jE H;rcases H with ⟨bg,bi,H⟩ | ⟨dx,bg,bi,H⟩
 ·obtain⟨aD,dz,H⟩:=qE H
  try dsimp only at H
  replace H:=jB H;rcases H with ⟨rfl,H⟩ | ⟨rfl,H⟩
  ·replace H:=jD H;rcases H with ⟨bn,H⟩ | ⟨bn,H⟩
   ·obtain rfl:=oJ H
    exact Sau_0
   obtain rfl:=oJ H
   exact Sau_0
  obtain rfl:=oJ H
  exact Sau_0
 replace H:=jE H;rcases H with ⟨bq,bu,H⟩ | ⟨dA,bq,bu,H⟩
 ·obtain⟨aG,dB,H⟩:=qE H
  try dsimp only at H
  replace H:=jB H;rcases H with ⟨rfl,H⟩ | ⟨rfl,H⟩
  ·obtain⟨aH,dC,H⟩:=qE H
   try dsimp only at H
   obtain rfl:=oJ H
   exact Sau_0
  obtain rfl:=oJ H
  exact Sau_0
 replace H:=jE H;rcases H with ⟨bv,bz,H⟩ | ⟨c76,bv,bz,H⟩
 ·obtain⟨aI,dD,H⟩:=qE H
  try dsimp only at H
  replace H:=jB H;rcases H with ⟨rfl,H⟩ | ⟨rfl,H⟩
  ·obtain⟨aJ,dE,H⟩:=qE H
   try dsimp only at H
   obtain rfl:=oJ H
   exact Sau_0
  obtain rfl:=oJ H
  exact Sau_0
 replace H:=jE H;rcases H with ⟨bA,bB,H⟩ | ⟨c87,bA,bB,H⟩
 ·obtain⟨aK,dF,H⟩:=qE H
  try dsimp only at H
  replace H:=jB H;rcases H with ⟨rfl,H⟩ | ⟨rfl,H⟩
  ·obtain rfl:=oJ H
   exact Sau_0
  obtain rfl:=oJ H
  exact Sau_0
 replace H:=jE H;rcases H with ⟨bC,bD,H⟩ | ⟨dG,bC,bD,H⟩
 ·obtain⟨aN,dH,H⟩:=qE H
  try dsimp only at H
  replace H:=jB H;rcases H with ⟨rfl,H⟩ | ⟨rfl,H⟩
  ·obtain rfl:=oJ H
   exact Sau_0
  obtain rfl:=oJ H
  exact Sau_0
 replace H:=jE H;rcases H with ⟨aj,au,H⟩ | ⟨c107,aj,au,H⟩
 ·obtain⟨aQ,cO,H⟩:=qE H
  try dsimp only at H
  replace H:=jB H;rcases H with ⟨rfl,H⟩ | ⟨rfl,H⟩
  ·obtain rfl:=oJ H
   exact Sau_0
  obtain rfl:=oJ H
  exact Sau_0
 obtain rfl:=oJ H
 exact Sau_0
def Saf.l0:Nat->List (S27)->Int->Int->Option (Bool)
 | 0,_,_,_=>none
 | k+1,x0,x3,x4=>if x4 < x3 then (if 0<=x4 then (if x4 < (x0.length:Int) then ((Sau.f ((rd_T27 x0 x4).f0) ((rd_T27 x0 x4).f1) ((rd_T27 x0 x4).f2) ((rd_T27 x0 x4).f3) ((rd_T27 x0 x4).f4) x3).bind fun aY=>(if aY=true then (Saf.l0 k x0 x3 (wrap64 (x4+1))) else (some false))) else (none)) else (none)) else (if 0<=(wrap64 (x3 - 1)) then (if (wrap64 (x3 - 1)) < (x0.length:Int) then (if ((rd_T27 x0 (wrap64 (x3 - 1))).f0)=10 then (some true) else (some (((rd_T27 x0 (wrap64 (x3 - 1))).f0) == 4))) else (none)) else (none))
def Saf.f (k:Nat) (l0:List (S27)):Option (Bool):=(Sbl.f (l0.length:Int) 1 600).bind fun aZ=>(if aZ=true then (Saf.l0 k l0 (l0.length:Int) 0) else (some false))
theorem Saf.mono_l:∀ k,(∀ y0 y1 y2,LeO (Saf.l0 k y0 y1 y2) (Saf.l0 (k+1) y0 y1 y2))
 | 0=>fun _ _ _ r h=>by simp [Saf.l0] at h
 | k+1=>by
  have bF:=Saf.mono_l k
  intros;unfold Saf.l0;exact mM
theorem Saf.mono:∀ a0 k,LeO (Saf.f k a0) (Saf.f (k+1) a0):=by
 intro a0 k;have bF:=Saf.mono_l k;unfold Saf.f;exact mM
theorem Saf.calls (k:Nat) (A0:Option Addr) (c0:Nat) (l0:List (S27)) (r:Bool) (w:World) (hr0:Kd.C k27 w A0 l0.length l0) (hc0:l0.length<=c0) (h:Saf.f k l0=some r) :
  Calls prog 36 #[.slice A0 l0.length c0] w fun e w'=>e = .returned (.bool r)/\Below w.heap.size w w':=by
 have bG:=underlying27
 have bg:=aM hr0
 have bJ:=aM hc0
 clear hr0 hc0
 have HB:=aM (Below.refl w.heap.size w)
 have H:=h;unfold Saf.f at H
 clear h
 obtain⟨aZ,A2,H⟩:=qE H
 try dsimp only at H
 replace H:=jB H;rcases H with ⟨rfl,H⟩ | ⟨rfl,H⟩
 ·have H':=aM H
  clear H
  go_enter func36,ntmps36
  go_wp2_with (first|((with_reducible refine jc 46 8 rfl rfl ?_);refine jG func46 #[iV (l0.length:Int),iV 1,iV 600] ?_;refine (Sbl.calls (l0.length:Int) 1 600 true _ A2.out).mono ?_;rintro e w' ⟨rfl,⟨nd,rfl⟩⟩;refine⟨_,rfl,?_⟩))
  go_loopg [4] k (fun kq v4 w'=>∃ (aa:Int),v4 = iV aa/\Aside0 (Saf.l0 kq l0 (l0.length:Int) aa=some r)/\Aside0 (kq<=k)/\Aside0 (Below w.heap.size w w'))
  case atStart=>exact⟨(0),qZ,H',⟨Nat.le_refl _⟩,⟨qB⟩⟩
  clear H'
  obtain⟨aa,rfl,HA,bC,HB⟩:=hrel
  rcases gk with _|k1
  ·exact absurd HA.out (by simp [Saf.l0])
  have H:=HA.out
  clear HA
  simp only [Saf.l0] at H
  replace H:=jD H;rcases H with ⟨bv,H⟩ | ⟨bv,H⟩
  ·replace H:=jI H;obtain⟨bH,H⟩:=H
   replace H:=jI H;obtain⟨bI,H⟩:=H
   obtain⟨aY,A7,H⟩:=qE H
   try dsimp only at H
   replace H:=jB H;rcases H with ⟨rfl,H⟩ | ⟨rfl,H⟩
   ·have H':=aM H
    clear H
    have aC:0<=(aa:Int):=qD
    have aD:aa < (l0.length:Int):=qD
    obtain⟨bi,aU,ae,af,ag,ah,ai⟩:=at_T27 bg.out aa aC aD
    cases aU
    replace ae:=kx HB ae
    replace af:=kx HB af
    replace ag:=kx HB ag
    replace ah:=kx HB ah
    replace ai:=kx HB ai
    replace aC:=eq_true aC
    replace aD:=eq_true aD
    go_wp2_with (first|((with_reducible refine jc 54 20 rfl rfl ?_);refine jG func54 #[.agg #[iV ((rd_T27 l0 aa).f0),iV ((rd_T27 l0 aa).f1),iV ((rd_T27 l0 aa).f2),iV ((rd_T27 l0 aa).f3),iV ((rd_T27 l0 aa).f4)],iV (l0.length:Int)] ?_;refine (Sau.calls _ _ _ _ _ _ _ _ (Aside0.out (by assumption))).mono ?_;rintro e bz ⟨rfl,hb⟩;refine⟨_,rfl,?_⟩;replace HB:=kH hb;clear hb))
    go_roundg k1
    case measure=>have:=bC.out;omega
    exact⟨_,qZ,H',⟨by have:=bC.out;omega⟩,⟨qB⟩⟩
   obtain rfl:=oJ H
   have aC:0<=(aa:Int):=qD
   have aD:aa < (l0.length:Int):=qD
   obtain⟨bi,aU,ae,af,ag,ah,ai⟩:=at_T27 bg.out aa aC aD
   cases aU
   replace ae:=kx HB ae
   replace af:=kx HB af
   replace ag:=kx HB ag
   replace ah:=kx HB ah
   replace ai:=kx HB ai
   replace aC:=eq_true aC
   replace aD:=eq_true aD
   go_wp2_with (first|((with_reducible refine jc 54 20 rfl rfl ?_);refine jG func54 #[.agg #[iV ((rd_T27 l0 aa).f0),iV ((rd_T27 l0 aa).f1),iV ((rd_T27 l0 aa).f2),iV ((rd_T27 l0 aa).f3),iV ((rd_T27 l0 aa).f4)],iV (l0.length:Int)] ?_;refine (Sau.calls _ _ _ _ _ _ _ _ (Aside0.out (by assumption))).mono ?_;rintro e bz ⟨rfl,hb⟩;refine⟨_,rfl,?_⟩;replace HB:=kH hb;clear hb))
   go_ret
   exact⟨qW,qB⟩
  obtain⟨aj,aA⟩:∃ j_:Int,(wrap64 ((l0.length:Int) - 1))=j_:=⟨_,rfl⟩
  replace H:(if 0<=(aj) then (if (aj) < (l0.length:Int) then (if ((rd_T27 l0 (aj)).f0)=10 then (some true) else (some (((rd_T27 l0 (aj)).f0) == 4))) else (none)) else (none))=some r:=by first|(rw [aA] at H;exact H)|(simp only [aA] at H ⊢;exact H)
  have bA:(IntKind.i64.wrap ((l0.length:Int) - 1))=aj:=(i64_w _).trans aA
  replace H:=jI H;obtain⟨bD,H⟩:=H
  replace H:=jI H;obtain⟨bE,H⟩:=H
  replace H:=jE H;rcases H with ⟨bn,bq,H⟩ | ⟨c14,bn,bq,H⟩
  ·obtain rfl:=oJ H
   have aG:0<=((aj):Int):=qD
   have aH:(aj) < (l0.length:Int):=qD
   obtain⟨aT,aV,au,av,ax,ay,az⟩:=at_T27 bg.out (aj) aG aH
   cases aV
   replace au:=kx HB au
   replace av:=kx HB av
   replace ax:=kx HB ax
   replace ay:=kx HB ay
   replace az:=kx HB az
   replace aG:=eq_true aG
   replace aH:=eq_true aH
   go_wp2
   go_ret
   exact⟨by first|rfl|(simp [errW_none,errW_some] <;> rfl)|(simp only [<- aA];first|rfl|(simp [errW_none,errW_some] <;> rfl))|(simp [*,errW_none,errW_some] <;> rfl),qB⟩
  obtain rfl:=oJ H
  have aG:0<=((aj):Int):=qD
  have aH:(aj) < (l0.length:Int):=qD
  obtain⟨aT,aV,au,av,ax,ay,az⟩:=at_T27 bg.out (aj) aG aH
  cases aV
  replace au:=kx HB au
  replace av:=kx HB av
  replace ax:=kx HB ax
  replace ay:=kx HB ay
  replace az:=kx HB az
  replace aG:=eq_true aG
  replace aH:=eq_true aH
  have aW:0<=((aj):Int):=qD
  have aX:(aj) < (l0.length:Int):=qD
  obtain⟨bu,bB,aI,aJ,aK,aN,aQ⟩:=at_T27 bg.out (aj) aW aX
  obtain rfl:aT=bu:=(by injection bB)
  replace aI:=kx HB aI
  replace aJ:=kx HB aJ
  replace aK:=kx HB aK
  replace aN:=kx HB aN
  replace aQ:=kx HB aQ
  replace aW:=eq_true aW
  replace aX:=eq_true aX
  go_wp2
  go_ret
  exact⟨by first|rfl|(simp [errW_none,errW_some] <;> rfl)|(simp only [<- aA];first|rfl|(simp [errW_none,errW_some] <;> rfl))|(simp [*,errW_none,errW_some] <;> rfl),qB⟩
 obtain rfl:=oJ H
 go_enter func36,ntmps36
 go_wp2_with (first|((with_reducible refine jc 46 8 rfl rfl ?_);refine jG func46 #[iV (l0.length:Int),iV 1,iV 600] ?_;refine (Sbl.calls _ _ _ _ _ (Aside0.out (by assumption))).mono ?_;rintro e w' ⟨rfl,⟨nd,rfl⟩⟩;refine⟨_,rfl,?_⟩))
 go_ret
 exact⟨qW,qB⟩
def SaS.j0:Nat->Int->Bool->Int->Int->Int->Int->Int->Option (List Int)
 | 0,_,_,_,_,_,_,_=>none
 | k+1,x1,bK,xa,xb,xc,xd,xe=>if bK=true then (some (([xe,wrap64 (x1+1)]:List Int))) else (if xa=5 then (if xe > (wrap64 (x1+1)) then (some (([wrap64 (x1+1),xe]:List Int))) else (some (([wrap64 (x1+1)]:List Int)))) else (some (([wrap64 (x1+1)]:List Int))))
def SaS.f (k:Nat) (l0:List (S27)) (a1:Int):Option (List Int):=if 0<=a1 then (if a1 < (l0.length:Int) then (if ((rd_T27 l0 a1).f0)=10 then (some (([]:List Int))) else (if ((rd_T27 l0 a1).f0)=4 then (some (([(rd_T27 l0 a1).f4]:List Int))) else (if ((rd_T27 l0 a1).f0)=5 then (SaS.j0 k a1 (decide (((rd_T27 l0 a1).f4) < (wrap64 (a1+1)))) ((rd_T27 l0 a1).f0) ((rd_T27 l0 a1).f1) ((rd_T27 l0 a1).f2) ((rd_T27 l0 a1).f3) ((rd_T27 l0 a1).f4)) else (SaS.j0 k a1 false ((rd_T27 l0 a1).f0) ((rd_T27 l0 a1).f1) ((rd_T27 l0 a1).f2) ((rd_T27 l0 a1).f3) ((rd_T27 l0 a1).f4))))) else (none)) else (none)
theorem SaS.mono_l:∀ k,(∀ y0 y1 y2 y3 y4 y5 y6,LeO (SaS.j0 k y0 y1 y2 y3 y4 y5 y6) (SaS.j0 (k+1) y0 y1 y2 y3 y4 y5 y6))
 | 0=>fun _ _ _ _ _ _ _ r h=>by simp [SaS.j0] at h
 | k+1=>by
  have bL:=SaS.mono_l k
  intros;unfold SaS.j0;exact mM
theorem SaS.mono:∀ a0 a1 k,LeO (SaS.f k a0 a1) (SaS.f (k+1) a0 a1):=by
 intro a0 a1 k;have bL:=SaS.mono_l k;unfold SaS.f;exact mM
theorem SaS.calls (k:Nat) (A0:Option Addr) (c0:Nat) (l0:List (S27)) (a1:Int) (r:List Int) (w:World) (hr0:Kd.C k27 w A0 l0.length l0) (hc0:l0.length<=c0) (h:SaS.f k l0 a1=some r) :
  Calls prog 55 #[.slice A0 l0.length c0,iV a1] w fun e w'=>∃ bJ:Value,e = .returned (bJ)/\Kd.R (Kd.int .i64) 3 w' w.heap.size (fun _=>True) bJ r/\Below w.heap.size w w':=by
 have bM:=underlying27
 have bF:=aM hr0
 have dw:=aM hc0
 clear hr0 hc0
 have HB:=aM (Below.refl w.heap.size w)
 have H:=h;unfold SaS.f at H
 clear h
 replace H:=jI H;obtain⟨bG,H⟩:=H
 replace H:=jI H;obtain⟨bH,H⟩:=H
 replace H:=jE H;rcases H with ⟨aZ,bg,H⟩ | ⟨c5,aZ,bg,H⟩
 ·obtain⟨bN,ax⟩:=ky ((([]:List Int)):List Int)
  first|replace H:=kz ax H|rw [<- ax.out] at H
  obtain rfl:=oJ H
  obtain⟨aQ,aG,ae,af,ag,ah,ai,aW,aX⟩:=jT27 bF a1
  cases aG
  go_enter func55,ntmps55
  go_wp2_with (first|((with_reducible refine jd 5 rfl ?_);refine jX _ 27 ?_;intro aj hg w6 hbox hb;have aa:=aM hbox;have aT:=kG hg;replace HB:=kH hb;clear hb hbox hg;have dx:=jz5 aa)|((with_reducible refine jd 14 rfl ?_);refine jV (Kd.int .i64) 3 ([]:List Int) [] (Reps.none _ _) ?_;intro bO w8 bi hb;(first|rw [<- ax.out] at bi|(simp only [Int.reduceToNat] at bi;rw [<- ax.out] at bi));have bn:=kL bi;replace aa:=aM (blk_below (g:=aj) (o:=.cells #[iV ((rd_T27 l0 a1).f0),iV ((rd_T27 l0 a1).f1),iV ((rd_T27 l0 a1).f2),iV ((rd_T27 l0 a1).f3),iV ((rd_T27 l0 a1).f4)] 27 (0,0)) (qF aa) hb);replace HB:=kH hb;clear hb bi))
  go_ret
  exact⟨_,qW,qR bn,qB⟩
 replace H:=jE H;rcases H with ⟨aU,aV,H⟩ | ⟨c10,aU,aV,H⟩
 ·obtain⟨bP,ay⟩:=ky ((([(rd_T27 l0 a1).f4]:List Int)):List Int)
  first|replace H:=kz ay H|rw [<- ay.out] at H
  obtain rfl:=oJ H
  obtain⟨aQ,aG,ae,af,ag,ah,ai,aW,aX⟩:=jT27 bF a1
  cases aG
  go_enter func55,ntmps55
  go_wp2_with (first|((with_reducible refine jd 5 rfl ?_);refine jX _ 27 ?_;intro aj hg dz hbox hb;have aa:=aM hbox;have aT:=kG hg;replace HB:=kH hb;clear hb hbox hg;have bQ:=jz5 aa)|((with_reducible refine jd 21 rfl ?_);refine jV (Kd.int .i64) 3 ([(rd_T27 l0 a1).f4]:List Int) [iV ((rd_T27 l0 a1).f4)] (Reps.one (show Kd.M (Kd.int .i64) _ _ _ ((rd_T27 l0 a1).f4) [iV ((rd_T27 l0 a1).f4)] from rfl) (Reps.none _ _)) ?_;intro bR dA aH hb;(first|rw [<- ay.out] at aH|(simp only [Int.reduceToNat] at aH;rw [<- ay.out] at aH));have bq:=kL aH;replace aa:=aM (blk_below (g:=aj) (o:=.cells #[iV ((rd_T27 l0 a1).f0),iV ((rd_T27 l0 a1).f1),iV ((rd_T27 l0 a1).f2),iV ((rd_T27 l0 a1).f3),iV ((rd_T27 l0 a1).f4)] 27 (0,0)) (qF aa) hb);replace HB:=kH hb;clear hb aH))
  go_ret
  exact⟨_,qW,qR bq,qB⟩
 have aY:=aM H
 clear H
 obtain⟨aQ,aG,ae,af,ag,ah,ai,aW,aX⟩:=jT27 bF a1
 cases aG
 go_enter func55,ntmps55
 go_upto_region 6 with (first|((with_reducible refine jd 5 rfl ?_);refine jX _ 27 ?_;intro aj hg w16 hbox hb;have aa:=aM hbox;have aT:=kG hg;replace HB:=kH hb;clear hb hbox hg;have bI:=jz5 aa))
 (try simp only [Act.put,List.setIfInBounds_toArray,List.set_cons_zero,List.set_cons_succ])
 go_cut [22] (fun v22 wc=>∃ (kq:Nat) (av:Bool),v22 = .bool av/\Aside0 (SaS.j0 kq a1 av ((rd_T27 l0 a1).f0) ((rd_T27 l0 a1).f1) ((rd_T27 l0 a1).f2) ((rd_T27 l0 a1).f3) ((rd_T27 l0 a1).f4)=some r)/\Aside0 (kq<=k)/\Aside0 (wc.heap[aj]?=some (.cells #[iV ((rd_T27 l0 a1).f0),iV ((rd_T27 l0 a1).f1),iV ((rd_T27 l0 a1).f2),iV ((rd_T27 l0 a1).f3),iV ((rd_T27 l0 a1).f4)] 27 (0,0)))/\Aside0 (Below w.heap.size w wc))
 case first =>
  have H:=aY.out
  clear aY
  replace H:=jE H;rcases H with ⟨au,bu,H⟩ | ⟨c18,au,bu,H⟩
  ·(first|rw [au]|(simp only [i64_w,i32_w];rw [au])|skip)
   have H':=aM H
   clear H
   have bS:=jz5 aa
   go_wp2
   go_meet
   exact⟨_,(decide (((rd_T27 l0 a1).f4) < (wrap64 (a1+1)))),qZ,H',⟨by first|omega|exact Nat.le_refl _⟩,⟨qF aa⟩,⟨qB⟩⟩
  (first|rw [au]|(simp only [i64_w,i32_w];rw [au])|skip)
  have H':=aM H
  clear H
  have bT:=jz5 aa
  go_wp2
  go_meet
  exact⟨_,(false),qZ,H',⟨by first|omega|exact Nat.le_refl _⟩,⟨qF aa⟩,⟨qB⟩⟩
 clear aY
 try clear bG;try clear bH;try clear c5;try clear aZ;try clear bg;try clear c10;try clear aU;try clear aV;try clear bI;try clear ae;try clear af;try clear ag;try clear ah;try clear ai;try clear aW;try clear aX
 obtain⟨kq,av,rfl,HA,bU,aa,HB⟩:=hcut
 cases kq with
 | zero=>exact absurd HA.out (by simp [SaS.j0])
 | succ bV =>
  have H:=HA.out
  clear HA
  simp only [SaS.j0] at H
  replace H:=jB H;rcases H with ⟨rfl,H⟩ | ⟨rfl,H⟩
  ·obtain⟨bW,az⟩:=ky ((([((rd_T27 l0 a1).f4),wrap64 (a1+1)]:List Int)):List Int)
   first|replace H:=kz az H|rw [<- az.out] at H
   obtain rfl:=oJ H
   have bX:=jz5 aa
   go_wp2_with (first|((with_reducible refine jd 37 rfl ?_);refine jV (Kd.int .i64) 3 ([((rd_T27 l0 a1).f4),wrap64 (a1+1)]:List Int) [iV ((rd_T27 l0 a1).f4),iV (wrap64 (a1+1))] (Reps.one (show Kd.M (Kd.int .i64) _ _ _ ((rd_T27 l0 a1).f4) [iV ((rd_T27 l0 a1).f4)] from rfl) (Reps.one (show Kd.M (Kd.int .i64) _ _ _ (wrap64 (a1+1)) [iV (wrap64 (a1+1))] from rfl) (Reps.none _ _))) ?_;intro bY dB aI hb;(first|rw [<- az.out] at aI|(simp only [Int.reduceToNat] at aI;rw [<- az.out] at aI));have bv:=kL aI;replace aa:=kB aa hb;replace HB:=kH hb;clear hb aI))
   go_ret
   exact⟨_,qW,qR bv,qB⟩
  replace H:=jE H;rcases H with ⟨bz,bA,H⟩ | ⟨dC,bz,bA,H⟩
  ·replace H:=jD H;rcases H with ⟨bB,H⟩ | ⟨bB,H⟩
   ·obtain⟨bZ,aA⟩:=ky ((([wrap64 (a1+1),((rd_T27 l0 a1).f4)]:List Int)):List Int)
    first|replace H:=kz aA H|rw [<- aA.out] at H
    obtain rfl:=oJ H
    have cz:=jz5 aa
    go_wp2_with (first|((with_reducible refine jd 53 rfl ?_);refine jV (Kd.int .i64) 3 ([wrap64 (a1+1),((rd_T27 l0 a1).f4)]:List Int) [iV (wrap64 (a1+1)),iV ((rd_T27 l0 a1).f4)] (Reps.one (show Kd.M (Kd.int .i64) _ _ _ (wrap64 (a1+1)) [iV (wrap64 (a1+1))] from rfl) (Reps.one (show Kd.M (Kd.int .i64) _ _ _ ((rd_T27 l0 a1).f4) [iV ((rd_T27 l0 a1).f4)] from rfl) (Reps.none _ _))) ?_;intro cB dD aJ hb;(first|rw [<- aA.out] at aJ|(simp only [Int.reduceToNat] at aJ;rw [<- aA.out] at aJ));have bC:=kL aJ;replace aa:=kB aa hb;replace HB:=kH hb;clear hb aJ))
    go_ret
    exact⟨_,qW,qR bC,qB⟩
   obtain⟨cK,aC⟩:=ky ((([wrap64 (a1+1)]:List Int)):List Int)
   first|replace H:=kz aC H|rw [<- aC.out] at H
   obtain rfl:=oJ H
   have cO:=jz5 aa
   go_wp2_with (first|((with_reducible refine jd 56 rfl ?_);refine jV (Kd.int .i64) 3 ([wrap64 (a1+1)]:List Int) [iV (wrap64 (a1+1))] (Reps.one (show Kd.M (Kd.int .i64) _ _ _ (wrap64 (a1+1)) [iV (wrap64 (a1+1))] from rfl) (Reps.none _ _)) ?_;intro df dE aK hb;(first|rw [<- aC.out] at aK|(simp only [Int.reduceToNat] at aK;rw [<- aC.out] at aK));have bD:=kL aK;replace aa:=kB aa hb;replace HB:=kH hb;clear hb aK))
   go_ret
   exact⟨_,qW,qR bD,qB⟩
  obtain⟨dh,aD⟩:=ky ((([wrap64 (a1+1)]:List Int)):List Int)
  first|replace H:=kz aD H|rw [<- aD.out] at H
  obtain rfl:=oJ H
  have di:=jz5 aa
  go_wp2_with (first|((with_reducible refine jd 56 rfl ?_);refine jV (Kd.int .i64) 3 ([wrap64 (a1+1)]:List Int) [iV (wrap64 (a1+1))] (Reps.one (show Kd.M (Kd.int .i64) _ _ _ (wrap64 (a1+1)) [iV (wrap64 (a1+1))] from rfl) (Reps.none _ _)) ?_;intro dn dF aN hb;(first|rw [<- aD.out] at aN|(simp only [Int.reduceToNat] at aN;rw [<- aD.out] at aN));have bE:=kL aN;replace aa:=kB aa hb;replace HB:=kH hb;clear hb aN))
  go_ret
  exact⟨_,qW,qR bE,qB⟩
mutual
def SaU.l0:Nat->List (List Bool)->List Bool->List Int->Int->Option (List Bool)
 | 0,_,_,_,_=>none
 | k+1,x1,x7,x8,x9=>if x9 < (x8.length:Int) then (SaU.l1 k x1 x7 x8 x9 0) else (some x7)
def SaU.l1:Nat->List (List Bool)->List Bool->List Int->Int->Int->Option (List Bool)
 | 0,_,_,_,_,_=>none
 | k+1,x1,x7,x8,x9,aN=>if aN < 12 then (if 0<=aN then (if aN < (x7.length:Int) then (if rdOf false x7 aN=true then (SaU.l1 k x1 (x7.set (aN:Int).toNat true) x8 x9 (wrap64 (aN+1))) else (if 0<=x9 then (if x9 < (x8.length:Int) then (if 0<=(rd x8 x9) then (if (rd x8 x9) < (x1.length:Int) then (if aN < ((rd_L6 x1 (rd x8 x9)).length:Int) then (SaU.l1 k x1 (x7.set (aN:Int).toNat (rdOf false (rd_L6 x1 (rd x8 x9)) aN)) x8 x9 (wrap64 (aN+1))) else (none)) else (none)) else (none)) else (none)) else (none))) else (none)) else (none)) else (SaU.l0 k x1 x7 x8 (wrap64 (x9+1)))
end
def SaU.f (k:Nat) (l0:List (S27)) (l1:List (List Bool)) (a2:Int):Option (List Bool):=if 12<=281474976710656 then ((SaS.f k l0 a2).bind fun ae=>(SaU.l0 k l1 (List.replicate 12 false) ae 0)) else (none)
theorem SaU.calls (k:Nat) (A0:Option Addr) (c0:Nat) (l0:List (S27)) (A1:Option Addr) (c1:Nat) (l1:List (List Bool)) (a2:Int) (r:List Bool) (w:World) (hr0:Kd.C k27 w A0 l0.length l0) (hc0:l0.length<=c0) (hr1:Kd.C (Kd.slice 4 Kd.bool) w A1 l1.length l1) (hc1:l1.length<=c1) (h:SaU.f k l0 l1 a2=some r) :
  Calls prog 38 #[.slice A0 l0.length c0,.slice A1 l1.length c1,iV a2] w fun e w'=>∃ dK:Value,e = .returned (dK)/\Kd.R Kd.bool 4 w' w.heap.size (fun _=>True) dK r/\Below w.heap.size w w':=by
 have dX:=aM hr0
 have dY:=aM hc0
 clear hr0 hc0
 have HR1:=aM hr1
 have eP:=aM hc1
 clear hr1 hc1
 have HB:=aM (Below.refl w.heap.size w)
 have H:=h;unfold SaU.f at H
 clear h
 replace H:=jJ H;obtain⟨bA,bB,H⟩:=H
 obtain⟨bU,az⟩:=ky ((List.replicate 12 false):List Bool)
 first|replace H:=kz az H|rw [<- az.out] at H
 obtain⟨ae,A5,H⟩:=qE H
 try dsimp only at H
 have H':=aM H
 clear H
 go_enter func38,ntmps38
 go_wp2_with (first|((with_reducible refine jd 11 rfl ?_);refine Kd.R_make Kd.bool _ 4 rfl (N:=11) rfl 37 _ _ rfl 12 rfl rfl underlying37 (.bool false) 1 info4 rfl (by decide) (by omega) false (ok:=fun _=>True) (okp:=fun _=>True) rfl (fun _ hk=>hk) trivial (by omega) (by omega) (Below.refl _ _) (Nat.le_refl _) ?_;intro bC w6 bD hb hg_ hnew_;clear hg_ hnew_;(first|rw [<- az.out] at bD|(simp only [Int.reduceToNat] at bD;rw [<- az.out] at bD));have aG:=kL bD;replace HB:=kH hb;clear hb bD)|((with_reducible refine jc 55 14 rfl rfl ?_);refine jG func55 #[.slice A0 l0.length c0,iV a2] ?_;refine (SaS.calls k _ _ l0 a2 ae _ ?bE ?bF A5.out).mono ?_;(case bE=>exact kC (Kd.C_below dX.out HB.out));(case bF=>exact dY.out);rintro e w8 ⟨bV,rfl,ho0,hb⟩;refine⟨_,rfl,?_⟩;have bG:=kL ho0;replace aG:=kR aG hb;replace HB:=kH hb;clear hb;(try clear ho0)))
 go_loopg [9] k (fun kq v9 w'=>∃ (aQ:List Bool) (af:Int),v9 = iV af/\Aside0 (SaU.l0 kq l1 aQ ae af=some r)/\Aside0 (kq<=k)/\Aside0 (Kd.R Kd.bool 4 w' w.heap.size (fun _=>True) bC aQ)/\Aside0 (Kd.R (Kd.int .i64) 3 w' w.heap.size (fun _=>True) bV ae)/\Aside0 (Below w.heap.size w w'))
 case atStart=>exact⟨(bU),(0),qZ,H',⟨Nat.le_refl _⟩,⟨qR aG⟩,⟨qR bG⟩,⟨qB⟩⟩
 clear H'
 try clear c1;try clear bA;try clear bB
 obtain⟨aQ,af,rfl,HA,bv,ag,aj,HB⟩:=hrel
 rcases gk with _|k1
 ·exact absurd HA.out (by simp [SaU.l0])
 have H:=HA.out
 clear HA
 simp only [SaU.l0] at H
 replace H:=jD H;rcases H with ⟨bH,H⟩ | ⟨bH,H⟩
 ·have H':=aM H
  clear H
  obtain⟨bW,bX,bY⟩:=Kd.R_slice aj.out
  subst bY
  go_wp2
  go_loopg [10] k1 (fun kq v10 w'=>∃ (ah:List Bool) (aa:Int),v10 = iV aa/\Aside0 (SaU.l1 kq l1 ah ae af aa=some r)/\Aside0 (kq<=k1)/\Aside0 (Kd.R Kd.bool 4 w' w.heap.size (fun _=>True) bC ah)/\Aside0 (Kd.R (Kd.int .i64) 3 w' w.heap.size (fun _=>True) (.slice bW ae.length bX) ae)/\Aside0 (Below w.heap.size w w'))
  case atStart=>exact⟨(aQ),(0),qZ,H',⟨Nat.le_refl _⟩,⟨qR ag⟩,⟨qR aj⟩,⟨qB⟩⟩
  clear H'
  try clear c1;try clear bA;try clear bB;try clear bH
  obtain⟨ah,aa,rfl,HA,bz,ag,aj,HB⟩:=hrel
  rcases gk with _|k2
  ·exact absurd HA.out (by simp [SaU.l1])
  have H:=HA.out
  clear HA
  simp only [SaU.l1] at H
  replace H:=jD H;rcases H with ⟨bI,H⟩ | ⟨bI,H⟩
  ·replace H:=jI H;obtain⟨dL,H⟩:=H
   replace H:=jI H;obtain⟨dM,H⟩:=H
   obtain⟨bZ,aH⟩:∃ b_:Bool,b_=(rdOf false ah aa):=⟨_,rfl⟩
   replace H:(if bZ=true then (SaU.l1 k2 l1 (ah.set (aa:Int).toNat true) ae af (wrap64 (aa+1))) else (if 0<=af then (if af < (ae.length:Int) then (if 0<=(rd ae af) then (if (rd ae af) < (l1.length:Int) then (if aa < ((rd_L6 l1 (rd ae af)).length:Int) then (SaU.l1 k2 l1 (ah.set (aa:Int).toNat (rdOf false (rd_L6 l1 (rd ae af)) aa)) ae af (wrap64 (aa+1))) else (none)) else (none)) else (none)) else (none)) else (none)))=some r:=by rw [<- aH] at H;exact H
   have aI:=aM aH;clear aH
   replace H:=jB H;rcases H with ⟨rfl,H⟩ | ⟨rfl,H⟩
   ·obtain⟨cz,aJ⟩:=ky ((ah.set (aa:Int).toNat true):List Bool)
    first|replace H:=kz aJ H|rw [<- aJ.out] at H
    have H':=aM H
    clear H
    obtain⟨dZ,bJ,cB⟩:=Kd.R_slice ag.out
    subst cB
    have av:0<=(aa:Int):=qD
    have ax:aa < (ah.length:Int):=qD
    obtain⟨bK,aW,ai⟩:=Kd.at_bool (Kd.R_reads' ag.out).2.2 aa av ax
    (try rw [<- aI.out] at ai)
    cases aW
    replace av:=eq_true av
    replace ax:=eq_true ax
    have p16:0<=(aa:Int):=qD
    have q16:(aa:Int) < ((ah.length:Int):Int):=qD
    obtain⟨aT,d9,bL,bM,cK,ek,bN⟩:=Kd.R_form ag.out (by omega)
    (first|cases bL|(injection bL with ea_ en_ ec_;(first|subst ea_|(injection ea_ with ea_;subst ea_));subst ec_;clear en_))
    have cO:=aM bM
    have eu:=aM bN
    clear bM cK bN
    (first|simp only [add_plain] at ai|skip)
    obtain⟨df,dh⟩:=Kd.R_celln false ag.out (aa:Int) p16 q16
    replace p16:=eq_true p16
    replace q16:=eq_true q16
    have aX:=Kd.R_putg ag.out (aa:Int) true
    go_wp2_with (first|((with_reducible refine gate_store (t:=4) (p:=43) rfl ?_);refine store_event (t:=4) (p:=43) (v:=?di) (w1:=(wr.setCell ⟨aT,(aa:Int).toNat,none⟩ (.bool true))) ?hg ?ho ?hn ?hr ?_;(case ho=>rfl);(case hg=>rfl);(case hn=>rfl);(case hr=>first|(go_simp;done)|(go_simp;rfl));intro ay hw;have hg:wr.grownBy ay (some aT):=(by rw [hw];exact aX.2);have hp_:Kd.R Kd.bool 4 ay w.heap.size (fun _=>True) (.slice (some ⟨aT,0,none⟩) ah.length bJ) cz:=(by rw [hw,aJ.out];exact aX.1);clear aX;replace aj:=aM (Kd.R_over' (v:=(.slice (some ⟨aT,0,none⟩) ah.length bJ)) (qR aj) (Kd.R_typed ag.out) (by decide) hg);replace ag:=aM hp_;replace HB:=aM ((by rw [hw];exact below_set (HB.out) cO.out:Below w.heap.size w ay));clear hg hw hp_))
    go_roundg k2
    case measure=>have:=bv.out;have:=bz.out;omega
    exact⟨_,_,qZ,H',⟨by have:=bv.out;have:=bz.out;omega⟩,⟨qR ag⟩,⟨qR aj⟩,⟨qB⟩⟩
   replace H:=jI H;obtain⟨dN,H⟩:=H
   replace H:=jI H;obtain⟨dO,H⟩:=H
   replace H:=jI H;obtain⟨dP,H⟩:=H
   replace H:=jI H;obtain⟨dQ,H⟩:=H
   replace H:=jI H;obtain⟨dR,H⟩:=H
   obtain⟨dn,aK⟩:=ky ((ah.set (aa:Int).toNat (rdOf false (rd_L6 l1 (rd ae af)) aa)):List Bool)
   first|replace H:=kz aK H|rw [<- aK.out] at H
   have H':=aM H
   clear H
   obtain⟨eB,bO,dw⟩:=Kd.R_slice ag.out
   subst dw
   have av:0<=(aa:Int):=qD
   have ax:aa < (ah.length:Int):=qD
   obtain⟨bK,aW,ai⟩:=Kd.at_bool (Kd.R_reads' ag.out).2.2 aa av ax
   (try rw [<- aI.out] at ai)
   cases aW
   replace av:=eq_true av
   replace ax:=eq_true ax
   have aY:0<=(af:Int):=qD
   have aZ:af < (ae.length:Int):=qD
   obtain⟨dS,dx,bS⟩:=Kd.at_int (Kd.R_reads' aj.out).2.2 af aY aZ
   cases dx
   replace aY:=eq_true aY
   replace aZ:=eq_true aZ
   have bg:0<=((rd ae af):Int):=qD
   have bi:(rd ae af) < (l1.length:Int):=qD
   obtain⟨dU,dz,dA,dB,aA,aC,aD⟩:=at_L6 HR1.out (rd ae af) bg bi
   cases dB
   replace aA:=kx HB aA
   have aU:=aM aD
   have bT:=aM aC
   clear aD aC
   replace bg:=eq_true bg
   replace bi:=eq_true bi
   have bn:0<=(aa:Int):=qD
   have bq:aa < ((rd_L6 l1 (rd ae af)).length:Int):=qD
   obtain⟨dV,dC,au⟩:=Kd.at_bool aU.out aa bn bq
   (try rw [<- aI.out] at au)
   cases dC
   replace au:=kx HB au
   replace bn:=eq_true bn
   replace bq:=eq_true bq
   have p25:0<=(aa:Int):=qD
   have dD:(aa:Int) < ((ah.length:Int):Int):=qD
   obtain⟨aV,eD,bP,bQ,dE,eF,bR⟩:=Kd.R_form ag.out (by omega)
   (first|cases bP|(injection bP with ea_ en_ ec_;(first|subst ea_|(injection ea_ with ea_;subst ea_));subst ec_;clear en_))
   have dF:=aM bQ
   have eG:=aM bR
   clear bQ dE bR
   (first|simp only [add_plain] at ai|skip)
   obtain⟨dG,dH⟩:=Kd.R_celln false ag.out (aa:Int) p25 dD
   replace p25:=eq_true p25
   replace dD:=eq_true dD
   have bu:=Kd.R_putg ag.out (aa:Int) (rdOf false (rd_L6 l1 (rd ae af)) aa)
   go_wp2_with (first|((with_reducible refine gate_store (t:=4) (p:=43) rfl ?_);refine store_event (t:=4) (p:=43) (v:=?dI) (w1:=(wr.setCell ⟨aV,(aa:Int).toNat,none⟩ (.bool (rdOf false (rd_L6 l1 (rd ae af)) aa)))) ?hg ?ho ?hn ?hr ?_;(case ho=>rfl);(case hg=>rfl);(case hn=>rfl);(case hr=>first|(go_simp;done)|(go_simp;rfl));intro ay hw;have hg:wr.grownBy ay (some aV):=(by rw [hw];exact bu.2);have hp_:Kd.R Kd.bool 4 ay w.heap.size (fun _=>True) (.slice (some ⟨aV,0,none⟩) ah.length bO) dn:=(by rw [hw,aK.out];exact bu.1);clear bu;replace aj:=aM (Kd.R_over' (v:=(.slice (some ⟨aV,0,none⟩) ah.length bO)) (qR aj) (Kd.R_typed ag.out) (by decide) hg);replace ag:=aM hp_;replace HB:=aM ((by rw [hw];exact below_set (HB.out) dF.out:Below w.heap.size w ay));clear hg hw hp_))
   go_roundg k2
   case measure=>have:=bv.out;have:=bz.out;omega
   exact⟨_,_,qZ,H',⟨by have:=bv.out;have:=bz.out;omega⟩,⟨qR ag⟩,⟨qR aj⟩,⟨qB⟩⟩
  have H':=aM H
  clear H
  go_wp2
  go_roundg k2
  case measure=>have:=bv.out;have:=bz.out;omega
  exact⟨(ah),(wrap64 (af+1)),qZ,H',⟨by have:=bv.out;have:=bz.out;omega⟩,⟨qR ag⟩,⟨qR aj⟩,⟨qB⟩⟩
 obtain rfl:=oJ H
 obtain⟨eH,eO,dJ⟩:=Kd.R_slice aj.out
 subst dJ
 go_wp2
 go_ret
 exact⟨_,qW,qR ag,qB⟩
def Sas.f (aa ae ag ah ai:Int):Option (Int):=(Sau.f aa ae ag ah ai 600).bind fun aj=>(if aj=true then (if aa=1 then (some ae) else (if aa=2 then (some ae) else (if aa=3 then (some ae) else (if aa=7 then (some ae) else (some (-1)))))) else (some (-1)))
theorem Sas_0 {G:Prop} (h:G:=by
  go_enter func68,ntmps68
  go_wp2_with (first|((with_reducible refine jd 1 rfl ?_);refine jX _ 27 ?_;intro aG hg aI hbox hb;have af:=aM hbox;have aH:=kG hg;replace HB:=kH hb;clear hb hbox hg;have aJ:=jz5 af)|((with_reducible refine jc 54 4 rfl rfl ?_);refine jG func54 #[.agg #[iV aa,iV ae,iV ag,iV ah,iV ai],iV 600] ?_;refine (Sau.calls _ _ _ _ _ _ _ _ (Aside0.out (by assumption))).mono ?_;rintro e aK ⟨rfl,hb⟩;refine⟨_,rfl,?_⟩;replace af:=kB af hb;replace HB:=kH hb;clear hb;have aN:=jz5 af))
  go_ret
  exact⟨qW,qB⟩):G:=h
theorem Sas.calls (aa ae ag ah ai r:Int) (w:World) (h:Sas.f aa ae ag ah ai=some r) :
  Calls prog 68 #[.agg #[iV aa,iV ae,iV ag,iV ah,iV ai]] w fun e w'=>e = .returned (iV r)/\Below w.heap.size w w':=by
 have aQ:=underlying27
 have HB:=aM (Below.refl w.heap.size w)
 have H:=h;unfold Sas.f at H
 clear h
 obtain⟨aj,A2,H⟩:=qE H
 try dsimp only at H
 replace H:=jB H;rcases H with ⟨rfl,H⟩ | ⟨rfl,H⟩
 ·replace H:=jE H;rcases H with ⟨az,aA,H⟩ | ⟨c4,az,aA,H⟩
  ·obtain rfl:=oJ H
   exact Sas_0
  replace H:=jE H;rcases H with ⟨aC,aD,H⟩ | ⟨c9,aC,aD,H⟩
  ·obtain rfl:=oJ H
   exact Sas_0
  replace H:=jE H;rcases H with ⟨au,av,H⟩ | ⟨c14,au,av,H⟩
  ·obtain rfl:=oJ H
   exact Sas_0
  replace H:=jE H;rcases H with ⟨ax,ay,H⟩ | ⟨c19,ax,ay,H⟩
  ·obtain rfl:=oJ H
   exact Sas_0
  obtain rfl:=oJ H
  exact Sas_0
 obtain rfl:=oJ H
 exact Sas_0
def Sat.j0:Nat->Int->Bool->Int->Int->Int->Int->Int->Option (List Int)
 | 0,_,_,_,_,_,_,_=>none
 | k+1,x8,x9,xa,xb,xc,xd,xe=>if x9=true then (some (([xc]:List Int))) else (if x8=3 then (if xc=xd then (some (([xc]:List Int))) else (some (([mn xc xd,mx xc xd]:List Int)))) else (some (([]:List Int))))
def Sat.f (k:Nat) (af ah ae ag ai:Int):Option (List Int):=(Sau.f af ah ae ag ai 600).bind fun aU=>(if aU=true then (if af=2 then (Sat.j0 k af (af == 2) af ah ae ag ai) else (if af=5 then (Sat.j0 k af (af == 5) af ah ae ag ai) else (if af=6 then (Sat.j0 k af (af == 6) af ah ae ag ai) else (Sat.j0 k af (af == 9) af ah ae ag ai)))) else (some (([]:List Int))))
theorem Sat.calls (k:Nat) (af ah ae ag ai:Int) (r:List Int) (w:World) (h:Sat.f k af ah ae ag ai=some r) :
  Calls prog 69 #[.agg #[iV af,iV ah,iV ae,iV ag,iV ai]] w fun e w'=>∃ bG:Value,e = .returned (bG)/\Kd.R (Kd.int .i64) 3 w' w.heap.size (fun _=>True) bG r/\Below w.heap.size w w':=by
 have bI:=underlying27
 have HB:=aM (Below.refl w.heap.size w)
 have H:=h;unfold Sat.f at H
 clear h
 obtain⟨aU,A2,H⟩:=qE H
 try dsimp only at H
 replace H:=jB H;rcases H with ⟨rfl,H⟩ | ⟨rfl,H⟩
 ·have bC:=aM H
  clear H
  go_enter func69,ntmps69
  go_upto_if 9 with (first|((with_reducible refine jd 1 rfl ?_);refine jX _ 27 ?_;intro aQ hg w5 hbox hb;have aa:=aM hbox;have aV:=kG hg;replace HB:=kH hb;clear hb hbox hg;have bJ:=jz5 aa)|((with_reducible refine jc 54 4 rfl rfl ?_);refine jG func54 #[.agg #[iV af,iV ah,iV ae,iV ag,iV ai],iV 600] ?_;refine (Sau.calls af ah ae ag ai 600 true _ A2.out).mono ?_;rintro e w7 ⟨rfl,hb⟩;refine⟨_,rfl,?_⟩;replace aa:=kB aa hb;replace HB:=kH hb;clear hb;have bK:=jz5 aa))
  (try simp only [Act.put,List.setIfInBounds_toArray,List.set_cons_zero,List.set_cons_succ])
  go_cut [9] (fun v9 wc=>∃ (kq:Nat) (aT:Bool),v9 = .bool aT/\Aside0 (Sat.j0 kq af aT af ah ae ag ai=some r)/\Aside0 (kq<=k)/\Aside0 (wc.heap[aQ]?=some (.cells #[iV af,iV ah,iV ae,iV ag,iV ai] 27 (0,0)))/\Aside0 (Below w.heap.size w wc))
  case first =>
   have H:=bC.out
   clear bC
   replace H:=jE H;rcases H with ⟨aG,bD,H⟩ | ⟨c9,aG,bD,H⟩
   ·(first|rw [aG]|(simp only [i64_w,i32_w];rw [aG])|skip)
    have H':=aM H
    clear H
    go_wp2
    go_meet
    exact⟨_,((af == 2)),qZ,H',⟨by first|omega|exact Nat.le_refl _⟩,⟨qK aa⟩,⟨qB⟩⟩
   (first|rw [aG]|(simp only [i64_w,i32_w];rw [aG])|skip)
   replace H:=jE H;rcases H with ⟨aW,aX,H⟩ | ⟨c10,aW,aX,H⟩
   ·have H':=aM H
    clear H
    go_wp2
    go_meet
    exact⟨_,((af == 5)),qZ,H',⟨by first|omega|exact Nat.le_refl _⟩,⟨qK aa⟩,⟨qB⟩⟩
   replace H:=jE H;rcases H with ⟨aY,aZ,H⟩ | ⟨c11,aY,aZ,H⟩
   ·have H':=aM H
    clear H
    go_wp2
    go_meet
    exact⟨_,((af == 6)),qZ,H',⟨by first|omega|exact Nat.le_refl _⟩,⟨qK aa⟩,⟨qB⟩⟩
   have H':=aM H
   clear H
   go_wp2
   go_meet
   exact⟨_,((af == 9)),qZ,H',⟨by first|omega|exact Nat.le_refl _⟩,⟨qK aa⟩,⟨qB⟩⟩
  clear bC
  try clear bJ;try clear bK
  obtain⟨kq,aT,rfl,HA,bZ,aa,HB⟩:=hcut
  cases kq with
  | zero=>exact absurd HA.out (by simp [Sat.j0])
  | succ cz =>
   have H:=HA.out
   clear HA
   simp only [Sat.j0] at H
   replace H:=jB H;rcases H with ⟨rfl,H⟩ | ⟨rfl,H⟩
   ·obtain⟨bL,av⟩:=ky ((([ae]:List Int)):List Int)
    first|replace H:=kz av H|rw [<- av.out] at H
    obtain rfl:=oJ H
    have bM:=jz5 aa
    go_wp2_with (first|((with_reducible refine jd 16 rfl ?_);refine jV (Kd.int .i64) 3 ([ae]:List Int) [iV ae] (Reps.one (show Kd.M (Kd.int .i64) _ _ _ ae [iV ae] from rfl) (Reps.none _ _)) ?_;intro bN cB aH hb;(first|rw [<- av.out] at aH|(simp only [Int.reduceToNat] at aH;rw [<- av.out] at aH));have bg:=kL aH;replace aa:=kB aa hb;replace HB:=kH hb;clear hb aH))
    go_ret
    exact⟨_,qW,qR bg,qB⟩
   replace H:=jE H;rcases H with ⟨bi,bn,H⟩ | ⟨c16,bi,bn,H⟩
   ·replace H:=jE H;rcases H with ⟨bq,bu,H⟩ | ⟨c17,bq,bu,H⟩
    ·obtain⟨bO,ax⟩:=ky ((([ae]:List Int)):List Int)
     first|replace H:=kz ax H|rw [<- ax.out] at H
     obtain rfl:=oJ H
     have bP:=jz5 aa
     go_wp2_with (first|((with_reducible refine jd 26 rfl ?_);refine jV (Kd.int .i64) 3 ([ae]:List Int) [iV ae] (Reps.one (show Kd.M (Kd.int .i64) _ _ _ ae [iV ae] from rfl) (Reps.none _ _)) ?_;intro bQ cK aI hb;(first|rw [<- ax.out] at aI|(simp only [Int.reduceToNat] at aI;rw [<- ax.out] at aI));have bv:=kL aI;replace aa:=kB aa hb;replace HB:=kH hb;clear hb aI))
     go_ret
     exact⟨_,qW,qR bv,qB⟩
    obtain⟨aj,ay⟩:∃ j_:Int,(mn ae ag)=j_:=⟨_,rfl⟩
    replace H:(some (([aj,mx ae ag]:List Int)))=some r:=by first|(rw [ay] at H;exact H)|(simp only [ay] at H ⊢;exact H)
    have bE:(if ag < ae then ag else ae)=aj:=ay
    obtain⟨au,az⟩:∃ j_:Int,(mx ae ag)=j_:=⟨_,rfl⟩
    replace H:(some (([aj,au]:List Int)))=some r:=by first|(rw [az] at H;exact H)|(simp only [az] at H ⊢;exact H)
    have bF:(if ae < ag then ag else ae)=au:=az
    obtain⟨bR,aA⟩:=ky ((([aj,au]:List Int)):List Int)
    first|replace H:=kz aA H|rw [<- aA.out] at H
    obtain rfl:=oJ H
    have bS:=jz5 aa
    go_wp2_with (first|((with_reducible refine jd 37 rfl ?_);refine jV (Kd.int .i64) 3 ([aj,au]:List Int) [iV aj,iV au] (Reps.one (show Kd.M (Kd.int .i64) _ _ _ aj [iV aj] from rfl) (Reps.one (show Kd.M (Kd.int .i64) _ _ _ au [iV au] from rfl) (Reps.none _ _))) ?_;intro bT cO aJ hb;(first|rw [<- aA.out] at aJ|(simp only [Int.reduceToNat] at aJ;rw [<- aA.out] at aJ));have bz:=kL aJ;replace aa:=kB aa hb;replace HB:=kH hb;clear hb aJ))
    go_ret
    exact⟨_,by first|rfl|(simp [errW_none,errW_some] <;> rfl)|(simp only [<- ay,<- az];first|rfl|(simp [errW_none,errW_some] <;> rfl))|(simp [*,errW_none,errW_some] <;> rfl),qR bz,qB⟩
   obtain⟨bU,aC⟩:=ky ((([]:List Int)):List Int)
   first|replace H:=kz aC H|rw [<- aC.out] at H
   obtain rfl:=oJ H
   go_wp2_with (first|((with_reducible refine jd 38 rfl ?_);refine jV (Kd.int .i64) 3 ([]:List Int) [] (Reps.none _ _) ?_;intro bV df aK hb;(first|rw [<- aC.out] at aK|(simp only [Int.reduceToNat] at aK;rw [<- aC.out] at aK));have bA:=kL aK;replace aa:=kB aa hb;replace HB:=kH hb;clear hb aK))
   go_ret
   exact⟨_,qW,qR bA,qB⟩
 obtain⟨bW,aD⟩:=ky ((([]:List Int)):List Int)
 first|replace H:=kz aD H|rw [<- aD.out] at H
 obtain rfl:=oJ H
 go_enter func69,ntmps69
 go_wp2_with (first|((with_reducible refine jd 1 rfl ?_);refine jX _ 27 ?_;intro aQ hg dh hbox hb;have aa:=aM hbox;have aV:=kG hg;replace HB:=kH hb;clear hb hbox hg;have bX:=jz5 aa)|((with_reducible refine jc 54 4 rfl rfl ?_);refine jG func54 #[.agg #[iV af,iV ah,iV ae,iV ag,iV ai],iV 600] ?_;refine (Sau.calls af ah ae ag ai 600 false _ A2.out).mono ?_;rintro e di ⟨rfl,hb⟩;refine⟨_,rfl,?_⟩;replace aa:=kB aa hb;replace HB:=kH hb;clear hb)|((with_reducible refine jd 6 rfl ?_);refine jV (Kd.int .i64) 3 ([]:List Int) [] (Reps.none _ _) ?_;intro bY dn aN hb;(first|rw [<- aD.out] at aN|(simp only [Int.reduceToNat] at aN;rw [<- aD.out] at aN));have bB:=kL aN;replace aa:=kB aa hb;replace HB:=kH hb;clear hb aN))
 go_ret
 exact⟨_,qW,qR bB,qB⟩
mutual
def SaV.j0:Nat->List Bool->Int->Int->Int->Int->Int->Option (List Bool)
 | 0,_,_,_,_,_,_=>none
 | k+1,x5,xa,xb,xc,xd,xe=>(Sat.f k xa xb xc xd xe).bind fun au=>(SaV.l0 k x5 au 0)
def SaV.l0:Nat->List Bool->List Int->Int->Option (List Bool)
 | 0,_,_,_=>none
 | k+1,x5,x6,x7=>if x7 < (x6.length:Int) then (if 0<=x7 then (if 0<=(rd x6 x7) then (if (rd x6 x7) < (x5.length:Int) then (SaV.l0 k (x5.set ((rd x6 x7):Int).toNat true) x6 (wrap64 (x7+1))) else (none)) else (none)) else (none)) else (some x5)
end
def SaV.f (k:Nat) (af ag ah ai aj:Int) (l1:List Bool):Option (List Bool):=(some (([]:List Bool):List Bool)).bind fun aI=>(if aI.length+l1.length < 140737488355328 then ((some (aI ++ l1:List Bool)).bind fun az=>((Sas.f af ag ah ai aj).bind fun aV=>(if aV>=0 then ((Sas.f af ag ah ai aj).bind fun ay=>(if 0<=ay then (if ay < (az.length:Int) then (SaV.j0 k (az.set (ay:Int).toNat false) af ag ah ai aj) else (none)) else (none))) else (SaV.j0 k az af ag ah ai aj)))) else (none))
theorem SaV.calls (k:Nat) (af ag ah ai aj:Int) (A1:Option Addr) (c1:Nat) (l1 r:List Bool) (w:World) (hr1:Kd.C Kd.bool w A1 l1.length l1) (hc1:l1.length<=c1) (h:SaV.f k af ag ah ai aj l1=some r) :
  Calls prog 59 #[.agg #[iV af,iV ag,iV ah,iV ai,iV aj],.slice A1 l1.length c1] w fun e w'=>∃ dn:Value,e = .returned (dn)/\Kd.R Kd.bool 4 w' w.heap.size (fun _=>True) dn r/\Below w.heap.size w w':=by
 have dJ:=underlying27
 have HR1:=aM hr1
 have dV:=aM hc1
 clear hr1 hc1
 have HB:=aM (Below.refl w.heap.size w)
 have H:=h;unfold SaV.f at H
 clear h
 obtain⟨aI,aG⟩:=ky ((([]:List Bool)):List Bool)
 first|replace H:=kz aG H|rw [<- aG.out] at H
 replace H:=jL H;obtain⟨bK,H⟩:=H
 obtain⟨az,aJ⟩:=ky ((aI ++ l1):List Bool)
 first|replace H:=kz aJ H|rw [<- aJ.out] at H
 obtain⟨aV,A4,H⟩:=qE H
 try dsimp only at H
 have bL:=aM H
 clear H
 go_enter func59,ntmps59
 go_upto_if 13 with (first|((with_reducible refine jd 2 rfl ?_);refine jX _ 27 ?_;intro aA hg w6 hbox hb;have aa:=aM hbox;have dw:=kG hg;replace HB:=kH hb;clear hb hbox hg)|((with_reducible refine jd 8 rfl ?_);refine jV Kd.bool 4 ([]:List Bool) [] (Reps.none _ _) ?_;intro bM w7 bq hb;(first|rw [<- aG.out] at bq|(simp only [Int.reduceToNat] at bq;rw [<- aG.out] at bq));have aK:=kL bq;replace aa:=kB aa hb;replace HB:=kH hb;clear hb bq)|((with_reducible refine gate_builtin (b:=.append) (xs:=#[.tmp 8,.tmp 9]) rfl ?_);at_builtin;refine Kd.R_append_rows Kd.bool (w0:=w) w.heap.size rfl (.tmp 8) (.tmp 9) 37 4 (.bool false) 1 rfl underlying37 info4 rfl (by decide) (by omega) bM aI l1 _ _ _ (fun _=>True) (fun _=>False) rfl rfl ?aO ?aR (fun _ _ h=>h) (fun _ h=>h.elim) ?aF ?aB ?aS ?aL ?_;(case aR=>exact kC (Kd.C_below HR1.out HB.out));(case aB=>exact qB);(case aF=>exact (fun _ _=>trivial));(case aO=>exact (qR aK));(case aS=>exact (below_size qB));(case aL=>have:=bK.out;omega);intro bu w9 ho hb hg hat;rw [<- aJ.out] at ho;have ae:=aM ho;replace aa:=aM (blk_grown (g:=aA) (o:=.cells #[iV af,iV ag,iV ah,iV ai,iV aj] 27 (0,0)) (qK aa) hg (Kd.R_ne aK.out aa.out (by decide)));replace HB:=aM hb;clear aK;clear ho hb hg hat;have bv:=jz5 aa)|((with_reducible refine jc 68 12 rfl rfl ?_);refine jG func68 #[.agg #[iV af,iV ag,iV ah,iV ai,iV aj]] ?_;refine (Sas.calls af ag ah ai aj aV _ A4.out).mono ?_;rintro e dW ⟨rfl,hb⟩;refine⟨_,rfl,?_⟩;replace ae:=kR ae hb;replace aa:=kB aa hb;replace HB:=kH hb;clear hb))
 (try simp only [Act.put,List.setIfInBounds_toArray,List.set_cons_zero,List.set_cons_succ])
 go_cut [] (fun wc=>∃ (kq:Nat) (aT:List Bool),Aside0 (SaV.j0 kq aT af ag ah ai aj=some r)/\Aside0 (kq<=k)/\Aside0 (Kd.R Kd.bool 4 wc w.heap.size (fun _=>True) bu aT)/\Aside0 (wc.heap[aA]?=some (.cells #[iV af,iV ag,iV ah,iV ai,iV aj] 27 (0,0)))/\Aside0 (Below w.heap.size w wc))
 case first =>
  have H:=bL.out
  clear bL
  replace H:=jD H;rcases H with ⟨aC,H⟩ | ⟨aC,H⟩
  ·(first|rw [aC]|(simp only [i64_w,i32_w];rw [aC])|skip)
   obtain⟨ay,dX,H⟩:=qE H
   try dsimp only at H
   replace H:=jI H;obtain⟨dx,H⟩:=H
   replace H:=jI H;obtain⟨dz,H⟩:=H
   obtain⟨bN,aN⟩:=ky ((az.set (ay:Int).toNat false):List Bool)
   first|replace H:=kz aN H|rw [<- aN.out] at H
   have H':=aM H
   clear H
   have dK:=jz5 aa
   go_wp2_with (first|((with_reducible refine jc 68 16 rfl rfl ?_);refine jG func68 #[.agg #[iV af,iV ag,iV ah,iV ai,iV aj]] ?_;refine (Sas.calls _ _ _ _ _ _ _ (Aside0.out (by assumption))).mono ?_;rintro e bz ⟨rfl,hb⟩;refine⟨_,rfl,?_⟩;replace ae:=kR ae hb;replace aa:=kB aa hb;replace HB:=kH hb;clear hb;have p16:0<=(ay:Int):=qD;have q16:(ay:Int) < ((az.length:Int):Int):=qD;obtain⟨aW,bO,bA,bB,bP,dL,bC⟩:=Kd.R_form ae.out (by omega);(first|cases bA|(injection bA with ea_ en_ ec_;(first|subst ea_|(injection ea_ with ea_;subst ea_));subst ec_;clear en_));have bQ:=aM bB;have dM:=aM bC;clear bB bP bC;obtain⟨bR,bS⟩:=Kd.R_celln false ae.out (ay:Int) p16 q16;replace p16:=eq_true p16;replace q16:=eq_true q16;obtain⟨dA,dB⟩:=Kd.R_celln false ae.out (ay:Int) (qD) (qD);have aX:=Kd.R_putg ae.out (ay:Int) false)|((with_reducible refine gate_store (t:=4) (p:=17) rfl ?_);refine store_event (t:=4) (p:=17) (v:=?bT) (w1:=(bz.setCell ⟨aW,(ay:Int).toNat,none⟩ (.bool false))) ?hg ?ho ?hn ?hr ?_;(case ho=>rfl);(case hg=>rfl);(case hn=>rfl);(case hr=>first|(go_simp;done)|(go_simp;rfl));intro aY hw;have hg:bz.grownBy aY (some aW):=(by rw [hw];exact aX.2);have hp_:Kd.R Kd.bool 4 aY w.heap.size (fun _=>True) (.slice (some ⟨aW,0,none⟩) az.length bO) bN:=(by rw [hw,aN.out];exact aX.1);clear aX;replace aa:=aM (blk_grown (g:=aA) (o:=.cells #[iV af,iV ag,iV ah,iV ai,iV aj] 27 (0,0)) (qK aa) hg (Kd.R_ne ae.out aa.out (by decide)));replace ae:=aM hp_;replace HB:=aM ((by rw [hw];exact below_set (HB.out) bQ.out:Below w.heap.size w aY));clear hg hw hp_))
   go_meet
   exact⟨_,_,H',⟨by first|omega|exact Nat.le_refl _⟩,⟨qR ae⟩,⟨qK aa⟩,⟨qB⟩⟩
  (first|rw [aC]|(simp only [i64_w,i32_w];rw [aC])|skip)
  have H':=aM H
  clear H
  go_wp2
  go_meet
  exact⟨_,(az),H',⟨by first|omega|exact Nat.le_refl _⟩,⟨qR ae⟩,⟨qK aa⟩,⟨qB⟩⟩
 clear bL
 try clear c1;try clear bv
 obtain⟨kq,aT,HA,dC,av,aa,HB⟩:=hcut
 cases kq with
 | zero=>exact absurd HA.out (by simp [SaV.j0])
 | succ bU =>
  have H:=HA.out
  clear HA
  simp only [SaV.j0] at H
  obtain⟨au,dN,H⟩:=qE H
  try dsimp only at H
  have H':=aM H
  clear H
  have bV:=jz5 aa
  go_wp2_with (first|((with_reducible refine jc 69 19 rfl rfl ?_);refine jG func69 #[.agg #[iV af,iV ag,iV ah,iV ai,iV aj]] ?_;refine (Sat.calls bU af ag ah ai aj au _ dN.out).mono ?_;rintro e dY ⟨bW,rfl,ho0,hb⟩;refine⟨_,rfl,?_⟩;have bD:=kL ho0;replace av:=kR av hb;replace aa:=kB aa hb;replace HB:=kH hb;clear hb;(try clear ho0)))
  go_loopg [7] bU (fun kq v7 w'=>∃ (aD:List Bool) (ax:Int),v7 = iV ax/\Aside0 (SaV.l0 kq aD au ax=some r)/\Aside0 (kq<=bU)/\Aside0 (Kd.R Kd.bool 4 w' w.heap.size (fun _=>True) bu aD)/\Aside0 (Kd.R (Kd.int .i64) 3 w' w.heap.size (fun _=>True) bW au)/\Aside0 (w'.heap[aA]?=some (.cells #[iV af,iV ag,iV ah,iV ai,iV aj] 27 (0,0)))/\Aside0 (Below w.heap.size w w'))
  case atStart=>exact⟨(aT),(0),qZ,H',⟨Nat.le_refl _⟩,⟨qR av⟩,⟨qR bD⟩,⟨qK aa⟩,⟨qB⟩⟩
  clear H'
  try clear c1;try clear bv;try clear bV
  obtain⟨aD,ax,rfl,HA,dD,av,aH,aa,HB⟩:=hrel
  rcases gk with _|k2
  ·exact absurd HA.out (by simp [SaV.l0])
  have H:=HA.out
  clear HA
  simp only [SaV.l0] at H
  replace H:=jD H;rcases H with ⟨bE,H⟩ | ⟨bE,H⟩
  ·replace H:=jI H;obtain⟨dE,H⟩:=H
   replace H:=jI H;obtain⟨dF,H⟩:=H
   replace H:=jI H;obtain⟨dG,H⟩:=H
   obtain⟨bX,aQ⟩:=ky ((aD.set ((rd au ax):Int).toNat true):List Bool)
   first|replace H:=kz aQ H|rw [<- aQ.out] at H
   have H':=aM H
   clear H
   obtain⟨dO,dP,bY⟩:=Kd.R_slice aH.out
   subst bY
   have aZ:0<=(ax:Int):=qD
   have bg:ax < (au.length:Int):=qD
   obtain⟨dH,bZ,bJ⟩:=Kd.at_int (Kd.R_reads' aH.out).2.2 ax aZ bg
   cases bZ
   replace aZ:=eq_true aZ
   replace bg:=eq_true bg
   have p28:0<=((rd au ax):Int):=qD
   have cz:((rd au ax):Int) < ((aD.length:Int):Int):=qD
   obtain⟨aU,bF,bG,bH,cB,dQ,bI⟩:=Kd.R_form av.out (by omega)
   (first|cases bG|(injection bG with ea_ en_ ec_;(first|subst ea_|(injection ea_ with ea_;subst ea_));subst ec_;clear en_))
   have cK:=aM bH
   have dR:=aM bI
   clear bH cB bI
   obtain⟨cO,df⟩:=Kd.R_celln false av.out ((rd au ax):Int) p28 cz
   replace p28:=eq_true p28
   replace cz:=eq_true cz
   have bi:=Kd.R_putg av.out ((rd au ax):Int) true
   go_wp2_with (first|((with_reducible refine gate_store (t:=4) (p:=31) rfl ?_);refine store_event (t:=4) (p:=31) (v:=?dh) (w1:=(wr.setCell ⟨aU,((rd au ax):Int).toNat,none⟩ (.bool true))) ?hg ?ho ?hn ?hr ?_;(case ho=>rfl);(case hg=>rfl);(case hn=>rfl);(case hr=>first|(go_simp;done)|(go_simp;rfl));intro bn hw;have hg:wr.grownBy bn (some aU):=(by rw [hw];exact bi.2);have hp_:Kd.R Kd.bool 4 bn w.heap.size (fun _=>True) (.slice (some ⟨aU,0,none⟩) aD.length bF) bX:=(by rw [hw,aQ.out];exact bi.1);clear bi;replace aH:=aM (Kd.R_over' (v:=(.slice (some ⟨aU,0,none⟩) aD.length bF)) (qR aH) (Kd.R_typed av.out) (by decide) hg);replace aa:=aM (blk_grown (g:=aA) (o:=.cells #[iV af,iV ag,iV ah,iV ai,iV aj] 27 (0,0)) (qK aa) hg (Kd.R_ne av.out aa.out (by decide)));replace av:=aM hp_;replace HB:=aM ((by rw [hw];exact below_set (HB.out) cK.out:Below w.heap.size w bn));clear hg hw hp_))
   go_roundg k2
   case measure=>have:=dC.out;have:=dD.out;omega
   exact⟨_,_,qZ,H',⟨by have:=dC.out;have:=dD.out;omega⟩,⟨qR av⟩,⟨qR aH⟩,⟨qK aa⟩,⟨qB⟩⟩
  obtain rfl:=oJ H
  obtain⟨dS,dU,di⟩:=Kd.R_slice aH.out
  subst di
  go_wp2
  go_ret
  exact⟨_,qW,qR av,qB⟩
def SaX.l0:Nat->List Bool->List Bool->Int->Option (Bool)
 | 0,_,_,_=>none
 | k+1,x0,x1,x5=>if x5 < (x0.length:Int) then (if 0<=x5 then (if x5 < (x1.length:Int) then (if ((rdOf false x0 x5) != (rdOf false x1 x5))=true then (some false) else (SaX.l0 k x0 x1 (wrap64 (x5+1)))) else (none)) else (none)) else (some ((x0.length:Int) == (x1.length:Int)))
def SaX.f (k:Nat) (l0 l1:List Bool):Option (Bool):=SaX.l0 k l0 l1 0
theorem SaX.calls (k:Nat) (A0:Option Addr) (c0:Nat) (l0:List Bool) (A1:Option Addr) (c1:Nat) (l1:List Bool) (r:Bool) (w:World) (hr0:Kd.C Kd.bool w A0 l0.length l0) (hc0:l0.length<=c0) (hr1:Kd.C Kd.bool w A1 l1.length l1) (hc1:l1.length<=c1) (h:SaX.f k l0 l1=some r) :
  Calls prog 60 #[.slice A0 l0.length c0,.slice A1 l1.length c1] w fun e w'=>e = .returned (.bool r)/\Drawn0 w w':=by
 have aG:=aM hr0
 have aQ:=aM hc0
 clear hr0 hc0
 have HR1:=aM hr1
 have aT:=aM hc1
 clear hr1 hc1
 have H:(SaX.l0 k l0 l1 0)=some r:=h
 clear h
 have H':=aM H
 clear H
 go_enter func60,ntmps60
 go_wp2
 repeat (go_quiet (fail);try go_wp2)
 go_loopg [5] k (fun kq v5 w'=>∃ (aa:Int),v5 = iV aa/\Aside0 (SaX.l0 kq l0 l1 aa=some r)/\Aside0 (kq<=k)/\Drawn0 w w')
 case atStart=>exact⟨(0),qZ,H',⟨Nat.le_refl _⟩,by repeat (first|exact Drawn0.refl _|apply Drawn0.step)⟩
 clear H'
 try clear c1
 obtain⟨aa,rfl,HA,aH,⟨m1,rfl⟩⟩:=hrel
 rcases gk with _|k1
 ·exact absurd HA.out (by simp [SaX.l0])
 have H:=HA.out
 clear HA
 simp only [SaX.l0] at H
 replace H:=jD H;rcases H with ⟨az,H⟩ | ⟨az,H⟩
 ·replace H:=jI H;obtain⟨aJ,H⟩:=H
  replace H:=jI H;obtain⟨aK,H⟩:=H
  by_cases c6:((rdOf false l0 aa) != (rdOf false l1 aa))=true
  ·rw [if_pos c6] at H
   have aA:((rdOf false l0 aa) != (rdOf false l1 aa))=true:=c6
   (try (have aC:decide ((rdOf false l0 aa)=(rdOf false l1 aa))=false:=by simpa using c6))
   (try (have aD:((rdOf false l0 aa) == (rdOf false l1 aa))=false:=by simpa using c6))
   (try (have aN:¬ ((rdOf false l0 aa)=(rdOf false l1 aa)):=by simpa using c6))
   clear c6
   obtain rfl:=oJ H
   have ae:0<=(aa:Int):=qD
   have af:aa < (l0.length:Int):=qD
   obtain⟨ax,au,ai⟩:=Kd.at_bool aG.out aa ae af
   cases au
   replace ae:=eq_true ae
   replace af:=eq_true af
   have ag:0<=(aa:Int):=qD
   have ah:aa < (l1.length:Int):=qD
   obtain⟨ay,av,aj⟩:=Kd.at_bool HR1.out aa ag ah
   cases av
   replace ag:=eq_true ag
   replace ah:=eq_true ah
   go_wp2
   repeat (go_quiet (fail);try go_wp2)
   go_ret
   exact⟨qZ,qU⟩
  rw [if_neg c6] at H
  have aA:((rdOf false l0 aa) != (rdOf false l1 aa))=false:=by simpa using c6
  (try (have aC:decide ((rdOf false l0 aa)=(rdOf false l1 aa))=true:=by simpa using c6))
  (try (have aD:((rdOf false l0 aa) == (rdOf false l1 aa))=true:=by simpa using c6))
  clear c6
  have H':=aM H
  clear H
  have ae:0<=(aa:Int):=qD
  have af:aa < (l0.length:Int):=qD
  obtain⟨ax,au,ai⟩:=Kd.at_bool aG.out aa ae af
  cases au
  replace ae:=eq_true ae
  replace af:=eq_true af
  have ag:0<=(aa:Int):=qD
  have ah:aa < (l1.length:Int):=qD
  obtain⟨ay,av,aj⟩:=Kd.at_bool HR1.out aa ag ah
  cases av
  replace ag:=eq_true ag
  replace ah:=eq_true ah
  go_wp2
  repeat (go_quiet (fail);try go_wp2)
  go_roundg k1
  case measure=>have:=aH.out;omega
  exact⟨(wrap64 (aa+1)),qZ,H',⟨by have:=aH.out;omega⟩,by repeat (first|exact Drawn0.refl _|apply Drawn0.step)⟩
 obtain rfl:=oJ H
 go_wp2
 repeat (go_quiet (fail);try go_wp2)
 go_ret
 exact⟨qZ,qU⟩
def SaW.l0:Nat->List (S27)->List (List Bool)->Bool->Int->Option (Bool × (List (List Bool)))
 | 0,_,_,_,_=>none
 | k+1,x0,x1,x5,x6=>if x6>=0 then (if 0<=x6 then (if x6 < (x0.length:Int) then ((SaU.f k x0 x1 x6).bind fun aA=>((SaV.f k ((rd_T27 x0 x6).f0) ((rd_T27 x0 x6).f1) ((rd_T27 x0 x6).f2) ((rd_T27 x0 x6).f3) ((rd_T27 x0 x6).f4) aA).bind fun av=>(if x6 < (x1.length:Int) then ((SaX.f k av (rd_L6 x1 x6)).bind fun bU=>(if bU=true then (SaW.l0 k x0 x1 x5 (wrap64 (x6 - 1))) else (SaW.l0 k x0 (x1.set (x6:Int).toNat av) true (wrap64 (x6 - 1))))) else (none)))) else (none)) else (none)) else (some (x5,x1))
def SaW.f (k:Nat) (l0:List (S27)) (l1:List (List Bool)):Option (Bool × (List (List Bool))):=SaW.l0 k l0 l1 false (wrap64 ((l0.length:Int) - 1))
def SaW.T5:Bool × List (List Nat × List Nat):=(true,[([],[]),([],[]),([0,1],[0,1]),([2],[2]),([],[]),([],[]),([],[]),([4,5,6],[4,5,6]),([3,7,7],[3,7]),([8,8,0,1,2,3,4,5,6,7,8],[8])])
def SaW.B5:List Nat:=[0,0,3,7,0,0,0,112,255,511]
theorem SaW.tab5:rtab .any (opsOf f43 5)=SaW.T5:=by kernel_rfl
theorem SaW.bits5:waitsOk SaW.T5.2 SaW.B5=true:=by kernel_rfl
theorem SaW.calls (k:Nat) (A0:Option Addr) (c0:Nat) (l0:List (S27)) (aI:Nat->Prop) (aC:Value) (l1:List (List Bool)) (r1:Bool) (r2:List (List Bool)) (w0 w:World) (hB:Below w0.heap.size w0 w) (hr0:∀ W_,Kept w W_ (fun k_=>aI k_)->Kd.C k27 W_ A0 l0.length l0) (hc0:l0.length<=c0) (ho1:Kd.S (Kd.slice 4 Kd.bool) 37 w w0.heap.size aI aC l1) (h:SaW.f k l0 l1=some (r1,r2)) :
  Calls prog 43 #[.slice A0 l0.length c0,aC] w fun e w'=>e = .returned (.bool r1)/\Kd.S (Kd.slice 4 Kd.bool) 37 w' w0.heap.size (fun k_=>(aI k_\/w.heap.size<=k_)) aC r2/\Below w0.heap.size w0 w'/\Kept w w' (fun k_=>aI k_):=by
 have eT:=underlying27
 have aK:=aM hr0
 have eU:=aM hc0
 clear hr0 hc0
 have eX:=aM (show Kd.S (Kd.slice 4 Kd.bool) 37 w w0.heap.size (fun k_=>(aI k_\/w.heap.size<=k_)) aC l1 from Kd.S_mono ho1 (fun k_ hk=>(.inl hk)))
 have HK:=aM (Kept.refl w (fun k_=>aI k_))
 have HW0:=aM hB.size
 have HB:=aM hB
 clear hB
 have H:=h;unfold SaW.f at H
 clear h
 have H':=aM H
 clear H
 go_enter func43,ntmps43
 go_wp2
 go_loopg [5,6] k (fun kq v5 v6 w'=>∃ (af:List (List Bool)) (bE:Bool) (aa:Int),v5 = .bool bE/\v6 = iV aa/\Aside0 (SaW.l0 kq l0 af bE aa=some (r1,r2))/\Aside0 (kq<=k)/\Aside0 (Kd.S (Kd.slice 4 Kd.bool) 37 w' w0.heap.size (fun k_=>(aI k_\/w.heap.size<=k_)) aC af)/\Aside0 (Kept w w' (fun k_=>aI k_))/\Aside0 (Below w0.heap.size w0 w'))
 case atStart=>exact⟨(l1),(false),(wrap64 ((l0.length:Int) - 1)),qZ,qZ,H',⟨Nat.le_refl _⟩,⟨qS eX⟩,⟨qT⟩,⟨qB⟩⟩
 clear H'
 obtain⟨af,bE,aa,rfl,rfl,HA,dx,ae,HK,HB⟩:=hrel
 rcases gk with _|k1
 ·exact absurd HA.out (by simp [SaW.l0])
 have H:=HA.out
 clear HA
 simp only [SaW.l0] at H
 replace H:=jD H;rcases H with ⟨dF,H⟩ | ⟨dF,H⟩
 ·replace H:=jI H;obtain⟨eY,H⟩:=H
  replace H:=jI H;obtain⟨eZ,H⟩:=H
  obtain⟨aA,A6,H⟩:=qE H
  try dsimp only at H
  obtain⟨av,A7,H⟩:=qE H
  try dsimp only at H
  replace H:=jI H;obtain⟨fe,H⟩:=H
  obtain⟨bU,A9,H⟩:=qE H
  try dsimp only at H
  have bV:=aM H;clear H
  try go_wp2
  replace ae:=aM (Kd.S_drew ae.out)
  replace HK:=aM (Kept.drew HK.out)
  replace HB:=aM (below_drew1 HB.out)
  have ag:0<=(aa:Int):=qD
  have ah:aa < (l0.length:Int):=qD
  obtain⟨au,dG,aY,aZ,bg,bi,bn⟩:=at_T27 (Kd.C_kept_now aK.out HK.out) aa ag ah
  have dz:=bn
  have dA:=bi
  have dB:=bg
  have dC:=aZ
  have dD:=aY
  cases dG
  replace ag:=eq_true ag
  replace ah:=eq_true ah
  obtain⟨dH,bA,bW⟩:=Kd.S_slice ae.out
  (first|subst bW|(injection bW with bX dI bY;have dJ:=bX.symm;have dK:=bY.symm;clear bX dI bY;subst dJ;subst dK))
  refine start_ (n:=10) (S:=fun w'=>w'.cell? (au.add ((aa).toNat*5))=some (iV ((rd_T27 l0 aa).f0))/\w'.cell? ⟨(au.add ((aa).toNat*5)).block,(au.add ((aa).toNat*5)).off+1,none⟩=some (iV ((rd_T27 l0 aa).f1))/\w'.cell? ⟨(au.add ((aa).toNat*5)).block,(au.add ((aa).toNat*5)).off+2,none⟩=some (iV ((rd_T27 l0 aa).f2))/\w'.cell? ⟨(au.add ((aa).toNat*5)).block,(au.add ((aa).toNat*5)).off+3,none⟩=some (iV ((rd_T27 l0 aa).f3))/\w'.cell? ⟨(au.add ((aa).toNat*5)).block,(au.add ((aa).toNat*5)).off+4,none⟩=some (iV ((rd_T27 l0 aa).f4))) (ds:=[]) (jb 10 0) (by kernel_rfl) rfl rfl ⟨(foot_T27_0 (aK.out _ (by repeat (first|exact HK.out|apply Kept.alloc|apply Kept.drewN|apply Kept.drew))) aa (of_eq_true ag) (of_eq_true ah)),(foot_T27_1 (aK.out _ (by repeat (first|exact HK.out|apply Kept.alloc|apply Kept.drewN|apply Kept.drew))) aa (of_eq_true ag) (of_eq_true ah)),(foot_T27_2 (aK.out _ (by repeat (first|exact HK.out|apply Kept.alloc|apply Kept.drewN|apply Kept.drew))) aa (of_eq_true ag) (of_eq_true ah)),(foot_T27_3 (aK.out _ (by repeat (first|exact HK.out|apply Kept.alloc|apply Kept.drewN|apply Kept.drew))) aa (of_eq_true ag) (of_eq_true ah)),(foot_T27_4 (aK.out _ (by repeat (first|exact HK.out|apply Kept.alloc|apply Kept.drewN|apply Kept.drew))) aa (of_eq_true ag) (of_eq_true ah))⟩ (fun hHeld=>?_);refine with_tabW SaW.tab5 SaW.bits5 (fun HT_ HW_=>?_)
  generalize wr.drew=fD at ae HK HB aY aZ bg bi bn hHeld ⊢
  refine jp 0 15 (jb 10 1) ?_
  refine jp 1 16 (jb 10 3) ?_
  refine jp 2 17 (jb 10 7) ?_
  refine jp 4 19 (jb 10 23) ?_
  refine jp 5 20 (jb 10 55) ?_
  refine jp 6 21 (jb 10 119) ?_
  refine jt 3 18 (jb 10 127) ?_
  refine one_ (i:=7) (N:=some 22) (jb 10 255) rfl rfl (one_of HT_.out (by kernel_rfl)) (by decide) (fun K hK=>?_)
  refine goes_ func38 (by kernel_rfl) rfl #[.slice (some au) l0.length c0,.slice dH af.length bA,iV aa] (by rfl) rfl rfl qM ?_
  with_reducible refine (SaU.calls k1 _ _ l0 _ _ af aa aA _ ?aD ?aG ?aN ?aQ A6.out).mono ?_
  (case aD=>exact Kd.C_kept_now aK.out qT)
  (case aG=>exact eU.out)
  (case aN=>exact kC (Kd.S_reads' ae.out).2.2)
  (case aQ=>exact (Kd.S_reads' ae.out).2.1)
  rintro e fE ⟨fo,rfl,ho0,hb⟩
  refine⟨_,rfl,?_⟩
  have ai:=aM (Kd.R_lower (Kd.R_newM (M:=fun k_=>(aI k_\/w.heap.size<=k_)) ho0 (by first|exact HK.out.1|exact (show Kept w _ (fun k_=>aI k_) from qT).1) (fun k_ h_=>.inr h_)) (below_size qB))
  replace ae:=aM (Kd.S_elder' (qS ae) (Kd.R_base ho0) hb)
  replace HK:=kT hb
  replace HB:=kH hb
  (try clear hb)
  (try clear hb2)
  (try clear hk)
  (try clear hi)
  (try clear ho0)
  obtain⟨aT,aU,bZ⟩:=Kd.R_slice ai.out
  (first|subst bZ|(injection bZ with bX dI bY;have dJ:=bX.symm;have dK:=bY.symm;clear bX dI bY;subst dJ;subst dK))
  refine hK.out _ _ ⟨(foot_T27_0 (aK.out _ (by repeat (first|exact HK.out|apply Kept.alloc|apply Kept.drewN|apply Kept.drew))) aa (of_eq_true ag) (of_eq_true ah)),(foot_T27_1 (aK.out _ (by repeat (first|exact HK.out|apply Kept.alloc|apply Kept.drewN|apply Kept.drew))) aa (of_eq_true ag) (of_eq_true ah)),(foot_T27_2 (aK.out _ (by repeat (first|exact HK.out|apply Kept.alloc|apply Kept.drewN|apply Kept.drew))) aa (of_eq_true ag) (of_eq_true ah)),(foot_T27_3 (aK.out _ (by repeat (first|exact HK.out|apply Kept.alloc|apply Kept.drewN|apply Kept.drew))) aa (of_eq_true ag) (of_eq_true ah)),(foot_T27_4 (aK.out _ (by repeat (first|exact HK.out|apply Kept.alloc|apply Kept.drewN|apply Kept.drew))) aa (of_eq_true ag) (of_eq_true ah))⟩ (fun hHeld=>?_)
  clear hK K
  refine norm_ (a':=?_) ?_ ?_
  rotate_left
  ·show Act.put _ (some 22) _=_
   simp only [Act.put,List.setIfInBounds_toArray,List.set_cons_zero,List.set_cons_succ,i64_w,i32_w]
   rfl
  refine one_ (i:=8) (N:=some 23) (jb 10 511) rfl rfl (one_of HT_.out (by kernel_rfl)) (by decide) (fun K hK=>?_)
  refine goes_ func59 (by kernel_rfl) rfl #[.agg #[iV ((rd_T27 l0 aa).f0),iV ((rd_T27 l0 aa).f1),iV ((rd_T27 l0 aa).f2),iV ((rd_T27 l0 aa).f3),iV ((rd_T27 l0 aa).f4)],.slice aT aA.length aU] (by rfl) rfl rfl qM ?_
  with_reducible refine (SaV.calls k1 ((rd_T27 l0 aa).f0) ((rd_T27 l0 aa).f1) ((rd_T27 l0 aa).f2) ((rd_T27 l0 aa).f3) ((rd_T27 l0 aa).f4) _ _ aA av _ ?aD ?aG A7.out).mono ?_
  (case aD=>exact kC (Kd.R_reads' ai.out).2.2)
  (case aG=>exact (Kd.R_reads' ai.out).2.1)
  rintro e bF ⟨fq,rfl,ho0,hb⟩
  refine⟨_,rfl,?_⟩
  have aj:=aM (Kd.R_lower (Kd.R_new' (Kd.R_newM (M:=fun k_=>(aI k_\/w.heap.size<=k_)) ho0 (by first|exact HK.out.1|exact (show Kept w _ (fun k_=>aI k_) from qT).1) (fun k_ h_=>.inr h_)) (Kd.R_lt (qR ai))) (below_size qB))
  replace ae:=aM (Kd.S_elder' (qS ae) (Kd.R_base ho0) hb)
  replace ai:=kO ai ho0 hb
  replace HK:=kT hb
  replace HB:=kH hb
  (try clear hb)
  (try clear hb2)
  (try clear hk)
  (try clear hi)
  (try clear ho0)
  refine hK.out _ _ ⟨(foot_T27_0 (aK.out _ (by repeat (first|exact HK.out|apply Kept.alloc|apply Kept.drewN|apply Kept.drew))) aa (of_eq_true ag) (of_eq_true ah)),(foot_T27_1 (aK.out _ (by repeat (first|exact HK.out|apply Kept.alloc|apply Kept.drewN|apply Kept.drew))) aa (of_eq_true ag) (of_eq_true ah)),(foot_T27_2 (aK.out _ (by repeat (first|exact HK.out|apply Kept.alloc|apply Kept.drewN|apply Kept.drew))) aa (of_eq_true ag) (of_eq_true ah)),(foot_T27_3 (aK.out _ (by repeat (first|exact HK.out|apply Kept.alloc|apply Kept.drewN|apply Kept.drew))) aa (of_eq_true ag) (of_eq_true ah)),(foot_T27_4 (aK.out _ (by repeat (first|exact HK.out|apply Kept.alloc|apply Kept.drewN|apply Kept.drew))) aa (of_eq_true ag) (of_eq_true ah))⟩ (fun hHeld=>?_)
  clear hK K
  refine norm_ (a':=?_) ?_ ?_
  rotate_left
  ·show Act.put _ (some 23) _=_
   simp only [Act.put,List.setIfInBounds_toArray,List.set_cons_zero,List.set_cons_succ,i64_w,i32_w]
   rfl
  refine jp 9 7 (jb 10 1023) ?_
  refine done_ (done_of HT_.out (by kernel_rfl)) ?_
  have bG:0<=(aa:Int):=qD
  have bH:aa < (af.length:Int):=qD
  obtain⟨eD,aV,bB,dL,bq,bu,bv⟩:=at_L6 (Kd.S_reads' ae.out).2.2 aa bG bH
  cases dL
  obtain⟨eF,bN,bO,bC⟩:=Kd.S_get ae.out [] aa bG (by first|exact bH|exact qD|(have e_:=(Kd.S_reads' ae.out).1;omega))
  obtain⟨dE,rfl,aJ⟩:=bO
  have ax:=bC 0 _ rfl
  rw [Nat.add_zero,show ((Kd.slice 4 Kd.bool)).sz=1 from rfl,Nat.mul_one] at ax
  replace ax:=Option.some.inj (ax.symm.trans bq)
  rw [ax] at aJ
  have ay:=aM (show Kd.R Kd.bool 4 _ _ _ _ (rd_L6 af aa) from aJ)
  clear ax aJ
  clear bC bN
  have az:=aM bv
  have bz:=aM bu
  clear bv bu
  replace bG:=eq_true bG
  replace bH:=eq_true bH
  obtain⟨aW,aX,dM⟩:=Kd.R_slice aj.out
  subst dM
  have H:=bV.out;clear bV
  replace H:=jB H;rcases H with ⟨rfl,H⟩ | ⟨rfl,H⟩
  ·have H':=aM H
   clear H
   try go_wp2_with (first|((with_reducible refine jc 60 29 rfl rfl ?_);refine jG func60 #[.slice aW av.length aX,.slice aV (rd_L6 af aa).length bB] ?_;refine (SaX.calls k1 _ _ av _ _ (rd_L6 af aa) true _ ?aD ?aG ?aN ?aQ A9.out).mono ?_;(case aD=>exact kC (Kd.R_reads' aj.out).2.2);(case aG=>exact (Kd.R_reads' aj.out).2.1);(case aN=>repeat (first|exact (kC az.out)|(with_reducible refine Kd.C_alloc ?_ _)|(with_reducible refine Kd.C_drewN ?_ _)|(with_reducible refine Kd.C_drew ?_)));(case aQ=>exact bz.out);rintro e w' ⟨rfl,⟨nd,rfl⟩⟩;refine⟨_,rfl,?_⟩))
   go_roundg k1
   case measure=>have:=dx.out;omega
   exact⟨(af),(bE),(wrap64 (aa - 1)),qZ,qZ,H',⟨by have:=dx.out;omega⟩,⟨by (with_reducible repeat (first|apply Kd.S_alloc|apply Kd.S_drewN|apply Kd.S_drew));exact Kd.S_mono ae.out (fun _ hk=>hk.1.1)⟩,⟨qT⟩,⟨qB⟩⟩
  obtain⟨cz,bD⟩:=ky ((af.set (aa:Int).toNat av):List (List Bool))
  first|replace H:=kz bD H|rw [<- bD.out] at H
  have H':=aM H
  clear H
  try go_wp2_with (first|((with_reducible refine jc 60 29 rfl rfl ?_);refine jG func60 #[.slice aW av.length aX,.slice aV (rd_L6 af aa).length bB] ?_;refine (SaX.calls k1 _ _ av _ _ (rd_L6 af aa) false _ ?aD ?aG ?aN ?aQ A9.out).mono ?_;(case aD=>exact kC (Kd.R_reads' aj.out).2.2);(case aG=>exact (Kd.R_reads' aj.out).2.1);(case aN=>repeat (first|exact (kC az.out)|(with_reducible refine Kd.C_alloc ?_ _)|(with_reducible refine Kd.C_drewN ?_ _)|(with_reducible refine Kd.C_drew ?_)));(case aQ=>exact bz.out);rintro e w' ⟨rfl,⟨nd,rfl⟩⟩;refine⟨_,rfl,?_⟩;(try (rw [drewN_self bF];generalize hq_:World.drewN bF _=bF;have dN:=aM (Kd.R_drewN ay.out nd);rw [hq_] at dN;have dO:=aM (Kd.R_drewN ai.out nd);rw [hq_] at dO;have dP:=aM (Kd.R_drewN aj.out nd);rw [hq_] at dP;have dQ:=aM (Kd.S_drewN ae.out nd);rw [hq_] at dQ;have eG:Aside0 (Kept w bF (fun k_=>aI k_)):=⟨by rw [<- hq_];exact qT⟩;have eH:Aside0 (Below w0.heap.size w0 bF):=⟨by rw [<- hq_];exact qB⟩;have eO:Aside0 (Kd.C Kd.bool bF aV (rd_L6 af aa).length (rd_L6 af aa)):=⟨by rw [<- hq_];exact (kC az.out)⟩;clear ay ai aj ae HK HB az hq_;have ay:=dN;have ai:=dO;have aj:=dP;have ae:=dQ;have HK:=eG;have HB:=eH;have az:=eO;clear dN dO dP dQ eG eH eO));have dR:0<=(aa:Int):=qD;have dS:(aa:Int) < ((af.length:Int):Int):=qD;obtain⟨aH,fu,cB,cK,dU,fw,cO⟩:=Kd.S_form ae.out (by omega);(first|cases cB|(injection cB with ea_ en_ ec_;(first|subst ea_|(injection ea_ with ea_;subst ea_));subst ec_;clear en_));have dV:=aM cK;have fA:=aM cO;clear cK dU cO;have dW:=aM (show (aI aH\/w.heap.size<=aH) from ((Kd.S_R ae.out).1 _ rfl).1.1);(first|simp only [add_plain] at bq|skip);obtain⟨_,fB,df,dh,bJ,bK,_,_⟩:=Kd.S_elem ae.out [] (aa:Int) dR dS;obtain⟨dX,rfl,dY⟩:=dh;have bP:=bJ 0 _ rfl;have bQ:=bK 0;(try simp only [show ((Kd.slice 4 Kd.bool)).sz=1 from rfl,Nat.mul_one,Nat.add_zero] at bP);(try simp only [show ((Kd.slice 4 Kd.bool)).sz=1 from rfl,Nat.mul_one,Nat.add_zero] at bQ);clear df bJ bK;(try clear dh);replace dR:=eq_true dR;replace dS:=eq_true dS;have n_:=aM (Kd.S_mono (ok':=(fun k_=>(aI k_\/w.heap.size<=k_)/\some k_≠(.slice aT aA.length aU:Value).ownBlock/\some k_≠(.slice aW av.length aX:Value).ownBlock)) ae.out (by first|exact fun k_ hk=>⟨hk.1.1,⟨hk.1.2,hk.2⟩⟩|exact fun k_ hk=>hk));clear ae;have ae:=n_;clear n_;have dZ:=aM (show Kd.S (Kd.slice 4 Kd.bool) 37 bF w0.heap.size (fun k_=>((fun k_=>(aI k_\/w.heap.size<=k_)/\some k_≠(.slice aT aA.length aU:Value).ownBlock)) k_/\¬ ((fun k_=>some k_=(.slice aW av.length aX:Value).ownBlock)) k_) (.slice (some ⟨aH,0,none⟩) af.length bA) af from (by (with_reducible repeat (first|apply Kd.S_alloc|apply Kd.S_drewN|apply Kd.S_drew));exact Kd.S_mono ae.out (by first|exact fun k_ hk=>⟨⟨hk.1,hk.2.1⟩,fun e_=>hk.2.2 e_⟩|exact fun k_ hk=>hk)));obtain⟨eP,fC,di,dn,bL,bM,bR,dw⟩:=Kd.S_elem dZ.out [] (aa:Int) (qD) (by have h_:(aa:Int) < ((af.length:Int):Int):=qD;first|exact h_|(have e_:=(Kd.S_reads' ae.out).1;omega)|simpa using h_);obtain⟨d9,rfl,ek⟩:=dn;have bI:=Kd.S_seg dw (qD) (by have h_:(aa:Int) < ((af.length:Int):Int):=qD;first|exact h_|(have e_:=(Kd.S_reads' ae.out).1;omega)|simpa using h_) (seg:=[.slice aW av.length aX]) (j:=0) (show 1<=1 from by decide) (x':=av) (Kd.M_row (Kd.R_mono (Kd.R_tight rfl (Kd.R_mono (ok':=fun k_=>((fun k_=>(aI k_\/w.heap.size<=k_)/\some k_≠(.slice aT aA.length aU:Value).ownBlock)) k_/\k_≠aH) (Kd.R_apart' (aj.out) (Kd.S_typed ae.out) (by decide)) (by first|exact fun k_ hk=>⟨⟨hk.1.1.1,hk.1.2⟩,fun e_=>(hk.2) (by rw [e_];rfl)⟩|exact fun k_ hk=>⟨⟨hk.1.1,hk.1.2⟩,fun e_=>(hk.2) (by rw [e_];rfl)⟩))) (fun _ h_=>Or.inr (h_)))) (fun _ hk=>hk) (fun k_ hk_=>((Kd.R_mono (ok':=fun k_=>((fun k_=>(aI k_\/w.heap.size<=k_)/\some k_≠(.slice aT aA.length aU:Value).ownBlock)) k_/\k_≠aH) (Kd.R_apart' (aj.out) (Kd.S_typed ae.out) (by decide)) (by first|exact fun k_ hk=>⟨⟨hk.1.1.1,hk.1.2⟩,fun e_=>(hk.2) (by rw [e_];rfl)⟩|exact fun k_ hk=>⟨⟨hk.1.1,hk.1.2⟩,fun e_=>(hk.2) (by rw [e_];rfl)⟩))).1 k_ hk_.symm);have bS:=bL 0 _ rfl;(try simp only [show ((Kd.slice 4 Kd.bool)).sz=1 from rfl,Nat.mul_one,Nat.add_zero] at bS);have bT:=bM 0;(try simp only [show ((Kd.slice 4 Kd.bool)).sz=1 from rfl,Nat.mul_one,Nat.add_zero] at bT);clear di bL bM bR dw;(try clear dn);(try simp only [show ((Kd.slice 4 Kd.bool)).sz=1 from rfl,Nat.mul_one,Nat.add_zero] at bI))|((with_reducible refine gate_store (t:=37) (p:=34) rfl ?_);refine store_event (t:=37) (p:=34) (v:=?eu) (w1:=(bF.setCell ⟨aH,(aa:Int).toNat,none⟩ (.slice aW av.length aX))) ?hg ?ho ?hn ?hr ?_;(case ho=>rfl);(case hg=>rfl);(case hn=>rfl);(case hr=>first|(go_simp;done)|(go_simp;rfl));intro eB hw;have hg:bF.grownBy eB (some aH):=(by rw [hw];exact bI.2);have hp_:Kd.S (Kd.slice 4 Kd.bool) 37 eB w0.heap.size (fun k_=>(aI k_\/w.heap.size<=k_)/\some k_≠(.slice aT aA.length aU:Value).ownBlock) (.slice (some ⟨aH,0,none⟩) af.length bA) cz:=(by rw [hw,bD.out];exact bI.1);clear bI;replace ai:=aM (Kd.R_over' (v:=(.slice (some ⟨aH,0,none⟩) af.length bA)) (qR ai) (Kd.S_typed ae.out) (by decide) hg);replace ay:=aM (Kd.R_after (v:=(.slice (some ⟨aH,0,none⟩) af.length bA)) (v1:=(.slice (some ⟨aH,0,none⟩) af.length bA)) (ok:=(fun k_=>(aI k_\/w.heap.size<=k_)/\some k_≠(.slice aT aA.length aU:Value).ownBlock/\some k_≠(.slice aW av.length aX:Value).ownBlock)) (by (with_reducible repeat (first|apply Kd.R_alloc|apply Kd.R_drewN|apply Kd.R_drew));exact Kd.R_mono ay.out (fun _ hk=>⟨⟨hk.1.1.1,⟨hk.1.1.2,hk.1.2⟩⟩,hk.2⟩)) hg (.inl rfl));replace HB:=aM ((by rw [hw];exact below_set (HB.out) dV.out:Below w0.heap.size w0 eB));replace HK:=aM (Kept.of_grown (S:=(fun k_=>aI k_)) hg qT (fun k_ e_=>((Kd.S_R ae.out).1 k_ e_).1));replace ae:=aM hp_;clear aj;clear hg hw hp_))
  go_roundg k1
  case measure=>have:=dx.out;omega
  exact⟨(cz),(true),(wrap64 (aa - 1)),qZ,qZ,H',⟨by have:=dx.out;omega⟩,⟨by (with_reducible repeat (first|apply Kd.S_alloc|apply Kd.S_drewN|apply Kd.S_drew));exact Kd.S_mono ae.out (fun _ hk=>hk.1)⟩,⟨qT⟩,⟨qB⟩⟩
 obtain⟨rfl,rfl⟩:=oJ2 H
 go_wp2
 go_ret
 exact⟨qW,qS ae,qB,qT⟩
mutual
def Sap.l0:Nat->List (S27)->List (List Bool)->Int->Option ((List (List Bool)))
 | 0,_,_,_=>none
 | k+1,x0,x3,x4=>if x4 < (x0.length:Int) then (if 12<=281474976710656 then (if x3.length < 5864062014805 then (Sap.l0 k x0 (x3 ++ [(List.replicate 12 false)]) (wrap64 (x4+1))) else (none)) else (none)) else (Sap.l1 k x0 x3)
def Sap.l1:Nat->List (S27)->List (List Bool)->Option ((List (List Bool)))
 | 0,_,_=>none
 | k+1,x0,x3=>(SaW.f k x0 x3).bind fun ay=>(if ay.1=true then (Sap.l1 k x0 ay.2) else (some ay.2))
end
def Sap.f (k:Nat) (l0:List (S27)):Option ((List (List Bool))):=(some (([]:List (List Bool)):List (List Bool))).bind fun aG=>((Saf.f k l0).bind fun aJ=>(if aJ=true then (Sap.l0 k l0 aG 0) else (some aG)))
theorem Sap.calls (k:Nat) (A0:Option Addr) (c0:Nat) (l0:List (S27)) (r:List (List Bool)) (w:World) (hr0:Kd.C k27 w A0 l0.length l0) (hc0:l0.length<=c0) (h:Sap.f k l0=some r) :
  Calls prog 21 #[.slice A0 l0.length c0] w fun e w'=>∃ bC:Value,e = .returned (bC)/\Kd.S (Kd.slice 4 Kd.bool) 37 w' w.heap.size (fun _=>True) bC r/\Below w.heap.size w w':=by
 have bg:=aM hr0
 have bi:=aM hc0
 clear hr0 hc0
 have HB:=aM (Below.refl w.heap.size w)
 have H:=h;unfold Sap.f at H
 clear h
 obtain⟨aG,ah⟩:=ky ((([]:List (List Bool))):List (List Bool))
 first|replace H:=kz ah H|rw [<- ah.out] at H
 obtain⟨aJ,A2,H⟩:=qE H
 try dsimp only at H
 replace H:=jB H;rcases H with ⟨rfl,H⟩ | ⟨rfl,H⟩
 ·have H':=aM H
  clear H
  go_enter func21,ntmps21
  go_wp2_with (first|((with_reducible refine jd 5 rfl ?_);refine Kd.S_lit (Kd.slice 4 Kd.bool) _ 37 ?hg (N:=5) ?hd (xs:=([]:List (List Bool))) (inner:=[]) (ok:=fun _=>True) (okp:=fun _=>True) ?hr ?hp (fun _ hk=>hk) trivial (Below.refl _ _) (Nat.le_refl _) (by simp) ?_;(case hd=>rfl);(case hg=>rfl);(case hr=>first|(go_simp;done)|(go_simp;rfl));(case hp=>exact (Reps.none _ _));intro bq w4 aK hb hg_ hnew_;clear hg_ hnew_;(first|rw [<- ah.out] at aK|(simp only [Int.reduceToNat] at aK;rw [<- ah.out] at aK));have ae:=aM (Kd.S_lower aK (below_size qB));replace HB:=kH hb;clear hb aK)|((with_reducible refine jc 36 7 rfl rfl ?_);refine jG func36 #[.slice A0 l0.length c0] ?_;refine (Saf.calls k _ _ l0 true _ ?af ?ag A2.out).mono ?_;(case af=>exact kC (Kd.C_below bg.out HB.out));(case ag=>exact bi.out);rintro e w6 ⟨rfl,hb⟩;refine⟨_,rfl,?_⟩;replace ae:=kS ae hb;replace HB:=kH hb;clear hb))
  go_loopg [3,4] k (fun kq v3 v4 w'=>∃ (av:List (List Bool)) (aI:Int),v4 = iV aI/\Aside0 (Sap.l0 kq l0 av aI=some r)/\Aside0 (kq<=k)/\Aside0 (Kd.S (Kd.slice 4 Kd.bool) 37 w' w.heap.size (fun _=>True) v3 av)/\Aside0 (Below w.heap.size w w'))
  case atStart=>exact⟨(aG),(0),qZ,H',⟨Nat.le_refl _⟩,⟨qS ae⟩,⟨qB⟩⟩
  clear H'
  obtain⟨av,aI,rfl,HA,bn,aa,HB⟩:=hrel
  rcases gk with _|k1
  ·exact absurd HA.out (by simp [Sap.l0])
  have H:=HA.out
  clear HA
  simp only [Sap.l0] at H
  replace H:=jD H;rcases H with ⟨aN,H⟩ | ⟨aN,H⟩
  ·replace H:=jJ H;obtain⟨bI,bJ,H⟩:=H
   obtain⟨aH,aj⟩:=ky ((List.replicate 12 false):List Bool)
   first|replace H:=kz aj H|rw [<- aj.out] at H
   replace H:=jL H;obtain⟨bu,H⟩:=H
   obtain⟨bK,az⟩:=ky ((av ++ [aH]):List (List Bool))
   first|replace H:=kz az H|rw [<- az.out] at H
   have H':=aM H
   clear H
   go_wp2_with (first|((with_reducible refine jd 17 rfl ?_);refine Kd.R_make Kd.bool _ 4 rfl (N:=17) rfl 37 _ _ rfl 12 rfl rfl underlying37 (.bool false) 1 info4 rfl (by decide) (by omega) false (ok:=fun _=>True) (okp:=fun _=>True) rfl (fun _ hk=>hk) trivial (by omega) (by omega) (Below.refl _ _) (Nat.le_refl _) ?_;intro bL bM ax hb hg_ hnew_;clear hg_ hnew_;(first|rw [<- aj.out] at ax|(simp only [Int.reduceToNat] at ax;rw [<- aj.out] at ax));have au:=kL ax;replace aa:=aM (Kd.S_elder' (qS aa) (Kd.R_base ax) hb);replace HB:=kH hb;clear hb ax;obtain⟨aQ,aT,bv⟩:=Kd.R_slice au.out;subst bv)|((with_reducible refine gate_builtin (b:=.append) (xs:=#[.tmp 16,.tmp 18]) rfl ?_);at_builtin;refine Kd.S_append (Kd.slice 4 Kd.bool) (w0:=w) w.heap.size rfl (.tmp 16) (.tmp 18) 33 37 (.slice none 0 0) 24 rfl underlying33 info37 rfl (by decide) (by omega) u3 av aH [.slice aQ aH.length aT] (fun _=>True) (fun k_=>some k_=(.slice aQ aH.length aT:Value).ownBlock) rfl rfl ?aP (fun k_ hk_=>((Kd.R_mono (ok':=fun k_=>((fun _=>True)) k_/\some k_≠(u3:Value).ownBlock) (Kd.R_apart' (au.out) (Kd.S_typed aa.out) (by decide)) (fun k_ hk=>⟨trivial,hk.2⟩))).1 k_ hk_.symm) ?aF ?aO ?aB ?aS ?aL ?_;(case aP=>exact Kd.M_row (Kd.R_mono (Kd.R_tight rfl (Kd.R_mono (ok':=fun k_=>((fun _=>True)) k_/\some k_≠(u3:Value).ownBlock) (Kd.R_apart' (au.out) (Kd.S_typed aa.out) (by decide)) (fun k_ hk=>⟨trivial,hk.2⟩))) (fun _ h_=>h_)));(case aB=>exact qB);(case aF=>exact (fun _ _=>trivial));(case aO=>exact (by (with_reducible repeat (first|apply Kd.S_alloc|apply Kd.S_drewN|apply Kd.S_drew));exact Kd.S_mono aa.out (by first|exact fun k_ hk=>⟨trivial,fun e_=>hk.2 e_⟩|exact fun k_ hk=>hk)));(case aS=>exact (below_size qB));(case aL=>have:=bu.out;omega);intro bN bO ho hb hg hat;rw [<- az.out] at ho;have aU:=aM ho;replace HB:=aM hb;clear aa au;clear ho hb hg hat))
   go_roundg k1
   case measure=>have:=bn.out;omega
   exact⟨_,_,qZ,H',⟨by have:=bn.out;omega⟩,⟨qS aU⟩,⟨qB⟩⟩
  have H':=aM H
  clear H
  go_wp2
  go_loopg [] k1 (fun kq w'=>∃ (ai:List (List Bool)),Aside0 (Sap.l1 kq l0 ai=some r)/\Aside0 (kq<=k1)/\Aside0 (Kd.S (Kd.slice 4 Kd.bool) 37 w' w.heap.size (fun _=>True) u3 ai)/\Aside0 (Below w.heap.size w w'))
  case atStart=>exact⟨(av),H',⟨Nat.le_refl _⟩,⟨qS aa⟩,⟨qB⟩⟩
  clear H'
  try clear aN
  obtain⟨ai,HA,bD,aa,HB⟩:=hrel
  rcases gk with _|k2
  ·exact absurd HA.out (by simp [Sap.l1])
  have H:=HA.out
  clear HA
  simp only [Sap.l1] at H
  obtain⟨⟨bP,aV⟩,bE,H⟩:=qE H
  try dsimp only at H
  replace H:=jB H;rcases H with ⟨rfl,H⟩ | ⟨rfl,H⟩
  ·have H':=aM H
   clear H
   obtain⟨aW,aX,bz⟩:=Kd.S_slice aa.out
   subst bz
   go_wp2_with (first|((with_reducible refine jc 43 22 rfl rfl ?_);refine jG func43 #[.slice A0 l0.length c0,.slice aW ai.length aX] ?_;refine (SaW.calls k2 _ _ l0 ?bF (.slice aW ai.length aX) ai true aV w _ ?af ?ag ?aA ?aC bE.out).mono ?_;(case aC=>exact Kd.S_bound aa.out);(case af=>exact qB);(case ag=>exact Kd.C_kept_came k27_heap bg.out qB (fun k_ hs_=>(by first|exact Kd.R_base aa.out k_ hs_.symm|exact hs_.2.1)));(case aA=>exact bi.out);rintro e bA ⟨rfl,hy0,hb,hkp⟩;refine⟨_,rfl,?_⟩;replace aa:=aM ((by first|exact Kd.S_mono (ok':=fun k_=>True) hy0 (fun k_ h_=>Or.elim h_ (fun h_=>h_.1) (fun h_=>.inr (by first|exact Nat.le_trans HK.out.1 h_|exact Nat.le_trans (below_size HB.out) h_)))|exact Kd.S_mono (ok':=fun k_=>True) hy0 (fun _ _=>trivial)));replace HB:=aM hb;(try clear hb);(try clear hkp);(try clear hy0)))
   go_roundg k2
   case measure=>have:=bn.out;have:=bD.out;omega
   exact⟨_,H',⟨by have:=bn.out;have:=bD.out;omega⟩,⟨qS aa⟩,⟨qB⟩⟩
  obtain rfl:=oJ H
  obtain⟨aY,aZ,bB⟩:=Kd.S_slice aa.out
  subst bB
  go_wp2_with (first|((with_reducible refine jc 43 22 rfl rfl ?_);refine jG func43 #[.slice A0 l0.length c0,.slice aY ai.length aZ] ?_;refine (SaW.calls k2 _ _ l0 ?bG (.slice aY ai.length aZ) ai false aV w _ ?af ?ag ?aA ?aC bE.out).mono ?_;(case aC=>exact Kd.S_bound aa.out);(case af=>exact qB);(case ag=>exact Kd.C_kept_came k27_heap bg.out qB (fun k_ hs_=>(by first|exact Kd.R_base aa.out k_ hs_.symm|exact hs_.2.1)));(case aA=>exact bi.out);rintro e bA ⟨rfl,hy0,hb,hkp⟩;refine⟨_,rfl,?_⟩;replace aa:=aM ((by first|exact Kd.S_mono (ok':=fun k_=>True) hy0 (fun k_ h_=>Or.elim h_ (fun h_=>h_.1) (fun h_=>.inr (by first|exact Nat.le_trans HK.out.1 h_|exact Nat.le_trans (below_size HB.out) h_)))|exact Kd.S_mono (ok':=fun k_=>True) hy0 (fun _ _=>trivial)));replace HB:=aM hb;(try clear hb);(try clear hkp);(try clear hy0)))
  go_ret
  exact⟨_,qW,qS aa,qB⟩
 obtain rfl:=oJ H
 go_enter func21,ntmps21
 go_wp2_with (first|((with_reducible refine jd 5 rfl ?_);refine Kd.S_lit (Kd.slice 4 Kd.bool) _ 37 ?hg (N:=5) ?hd (xs:=([]:List (List Bool))) (inner:=[]) (ok:=fun _=>True) (okp:=fun _=>True) ?hr ?hp (fun _ hk=>hk) trivial (Below.refl _ _) (Nat.le_refl _) (by simp) ?_;(case hd=>rfl);(case hg=>rfl);(case hr=>first|(go_simp;done)|(go_simp;rfl));(case hp=>exact (Reps.none _ _));intro bq bQ aD hb hg_ hnew_;clear hg_ hnew_;(first|rw [<- ah.out] at aD|(simp only [Int.reduceToNat] at aD;rw [<- ah.out] at aD));have ae:=aM (Kd.S_lower aD (below_size qB));replace HB:=kH hb;clear hb aD)|((with_reducible refine jc 36 7 rfl rfl ?_);refine jG func36 #[.slice A0 l0.length c0] ?_;refine (Saf.calls k _ _ l0 false _ ?af ?ag A2.out).mono ?_;(case af=>exact kC (Kd.C_below bg.out HB.out));(case ag=>exact bi.out);rintro e bR ⟨rfl,hb⟩;refine⟨_,rfl,?_⟩;replace ae:=kS ae hb;replace HB:=kH hb;clear hb))
 go_ret
 exact⟨_,qW,qS ae,qB⟩
def Sbd.f (ai aa av ax ay:Int) (l1:List Bool):Option (Bool):=if ai=1 then (if 0<=aa then (if aa < (l1.length:Int) then (some (!(rdOf false l1 aa))) else (none)) else (none)) else (if ai=2 then (if 0<=aa then (if aa < (l1.length:Int) then (some (!(rdOf false l1 aa))) else (none)) else (none)) else (if ai=3 then (if 0<=aa then (if aa < (l1.length:Int) then (some (!(rdOf false l1 aa))) else (none)) else (none)) else (some false)))
theorem Sbd_0 {G:Prop} (h:G:=by
  go_enter func37,ntmps37
  go_wp2_with (first|((with_reducible refine jd 2 rfl ?_);refine jX _ 27 ?_;intro aj hg aI hbox hb;have ae:=aM hbox;have au:=kG hg;replace HB:=kH hb;clear hb hbox hg;have aJ:=jz5 ae;have az:0<=(aa:Int):=qD;have aA:aa < (l1.length:Int):=qD;obtain⟨aZ,aQ,af⟩:=Kd.at_bool HR1.out aa az aA;cases aQ;replace af:=kx HB af;replace az:=eq_true az;replace aA:=eq_true aA))
  go_ret
  exact⟨qW,qB⟩):G:=h
theorem Sbd.calls (ai aa av ax ay:Int) (A1:Option Addr) (c1:Nat) (l1:List Bool) (r:Bool) (w:World) (hr1:Kd.C Kd.bool w A1 l1.length l1) (hc1:l1.length<=c1) (h:Sbd.f ai aa av ax ay l1=some r) :
  Calls prog 37 #[.agg #[iV ai,iV aa,iV av,iV ax,iV ay],.slice A1 l1.length c1] w fun e w'=>e = .returned (.bool r)/\Below w.heap.size w w':=by
 have bv:=underlying27
 have HR1:=aM hr1
 have bC:=aM hc1
 clear hr1 hc1
 have HB:=aM (Below.refl w.heap.size w)
 have H:=h;unfold Sbd.f at H
 clear h
 replace H:=jE H;rcases H with ⟨aT,aU,H⟩ | ⟨c3,aT,aU,H⟩
 ·replace H:=jI H;obtain⟨bz,H⟩:=H
  replace H:=jI H;obtain⟨bA,H⟩:=H
  obtain rfl:=oJ H
  exact Sbd_0
 replace H:=jE H;rcases H with ⟨aV,aW,H⟩ | ⟨c8,aV,aW,H⟩
 ·replace H:=jI H;obtain⟨bB,H⟩:=H
  replace H:=jI H;obtain⟨bg,H⟩:=H
  obtain rfl:=oJ H
  go_enter func37,ntmps37
  go_wp2_with (first|((with_reducible refine jd 2 rfl ?_);refine jX _ 27 ?_;intro aj hg aI hbox hb;have ae:=aM hbox;have au:=kG hg;replace HB:=kH hb;clear hb hbox hg;have aJ:=jz5 ae;have aC:0<=(aa:Int):=qD;have aD:aa < (l1.length:Int):=qD;obtain⟨bi,aX,ag⟩:=Kd.at_bool HR1.out aa aC aD;cases aX;replace ag:=kx HB ag;replace aC:=eq_true aC;replace aD:=eq_true aD))
  go_ret
  exact⟨qW,qB⟩
 replace H:=jE H;rcases H with ⟨aK,aN,H⟩ | ⟨c13,aK,aN,H⟩
 ·replace H:=jI H;obtain⟨bn,H⟩:=H
  replace H:=jI H;obtain⟨bq,H⟩:=H
  obtain rfl:=oJ H
  go_enter func37,ntmps37
  go_wp2_with (first|((with_reducible refine jd 2 rfl ?_);refine jX _ 27 ?_;intro aj hg aI hbox hb;have ae:=aM hbox;have au:=kG hg;replace HB:=kH hb;clear hb hbox hg;have aJ:=jz5 ae;have aG:0<=(aa:Int):=qD;have aH:aa < (l1.length:Int):=qD;obtain⟨bu,aY,ah⟩:=Kd.at_bool HR1.out aa aG aH;cases aY;replace ah:=kx HB ah;replace aG:=eq_true aG;replace aH:=eq_true aH))
  go_ret
  exact⟨qW,qB⟩
 obtain rfl:=oJ H
 exact Sbd_0
def Saj.l0:Nat->List (S27)->List (S27)->List (List Bool)->Int->Option ((List (S27)) × Bool)
 | 0,_,_,_,_=>none
 | k+1,x0,x4,x5,x6=>if x6 < (x0.length:Int) then (if 0<=x6 then ((SaU.f k x0 x5 x6).bind fun aI=>((Sbd.f ((rd_T27 x0 x6).f0) ((rd_T27 x0 x6).f1) ((rd_T27 x0 x6).f2) ((rd_T27 x0 x6).f3) ((rd_T27 x0 x6).f4) aI).bind fun aW=>(if aW=true then (if x4.length < 3518437208883 then (Saj.l0 k x0 (x4 ++ [(⟨4,0,0,0,wrap64 (x6+1)⟩:S27)]) x5 (wrap64 (x6+1))) else (none)) else (if x4.length < 3518437208883 then (Saj.l0 k x0 (x4 ++ [(⟨(rd_T27 x0 x6).f0,(rd_T27 x0 x6).f1,(rd_T27 x0 x6).f2,(rd_T27 x0 x6).f3,(rd_T27 x0 x6).f4⟩:S27)]) x5 (wrap64 (x6+1))) else (none))))) else (none)) else (some (x4,true))
def Saj.f (k:Nat) (l0:List (S27)):Option ((List (S27)) × Bool):=(some (([]:List (S27)):List (S27))).bind fun aQ=>((Saf.f k l0).bind fun aX=>(if aX=true then ((Sap.f k l0).bind fun ay=>(Saj.l0 k l0 aQ ay 0)) else (some (aQ,false))))
theorem Saj.calls (k:Nat) (A0:Option Addr) (c0:Nat) (l0 r1:List (S27)) (r2:Bool) (w:World) (hr0:Kd.C k27 w A0 l0.length l0) (hc0:l0.length<=c0) (h:Saj.f k l0=some (r1,r2)) :
  Calls prog 16 #[.slice A0 l0.length c0] w fun e w'=>∃ bZ:Value,e = .returned (.tuple #[bZ,.bool r2])/\Kd.R k27 27 w' w.heap.size (fun _=>True) bZ r1/\Below w.heap.size w w':=by
 have df:=underlying27
 have aY:=aM hr0
 have bH:=aM hc0
 clear hr0 hc0
 have HB:=aM (Below.refl w.heap.size w)
 have H:=h;unfold Saj.f at H
 clear h
 obtain⟨aQ,ax⟩:=ky ((([]:List (S27))):List (S27))
 first|replace H:=kz ax H|rw [<- ax.out] at H
 obtain⟨aX,A2,H⟩:=qE H
 try dsimp only at H
 replace H:=jB H;rcases H with ⟨rfl,H⟩ | ⟨rfl,H⟩
 ·obtain⟨ay,A4,H⟩:=qE H
  try dsimp only at H
  have H':=aM H
  clear H
  go_enter func16,ntmps16
  go_wp2_with (first|((with_reducible refine jd 8 rfl ?_);refine jV k27 27 ([]:List (S27)) [] (Reps.none _ _) ?_;intro bJ w5 aZ hb;(first|rw [<- ax.out] at aZ|(simp only [Int.reduceToNat] at aZ;rw [<- ax.out] at aZ));have av:=kL aZ;replace HB:=kH hb;clear hb aZ)|((with_reducible refine jc 36 10 rfl rfl ?_);refine jG func36 #[.slice A0 l0.length c0] ?_;refine (Saf.calls k _ _ l0 true _ ?aj ?au A2.out).mono ?_;(case aj=>exact kC (Kd.C_below aY.out HB.out));(case au=>exact bH.out);rintro e w7 ⟨rfl,hb⟩;refine⟨_,rfl,?_⟩;replace av:=kR av hb;replace HB:=kH hb;clear hb)|((with_reducible refine jc 21 14 rfl rfl ?_);refine jG func21 #[.slice A0 l0.length c0] ?_;refine (Sap.calls k _ _ l0 ay _ ?aj ?au A4.out).mono ?_;(case aj=>exact kC (Kd.C_below aY.out HB.out));(case au=>exact bH.out);rintro e w8 ⟨bg,rfl,ho0,hb⟩;refine⟨_,rfl,?_⟩;have bi:=aM (Kd.S_lower ho0 (below_size qB));replace av:=kR av hb;replace HB:=kH hb;clear hb;(try clear ho0)))
  go_loopg [4,6] k (fun kq v4 v6 w'=>∃ (az:List (S27)) (ae:Int),v6 = iV ae/\Aside0 (Saj.l0 kq l0 az ay ae=some (r1,r2))/\Aside0 (kq<=k)/\Aside0 (Kd.R k27 27 w' w.heap.size (fun _=>True) v4 az)/\Aside0 (Kd.S (Kd.slice 4 Kd.bool) 37 w' w.heap.size (fun _=>True) bg ay)/\Aside0 (Below w.heap.size w w'))
  case atStart=>exact⟨(aQ),(0),qZ,H',⟨Nat.le_refl _⟩,⟨qR av⟩,⟨qS bi⟩,⟨qB⟩⟩
  clear H'
  obtain⟨az,ae,rfl,HA,bI,ag,ah,HB⟩:=hrel
  rcases gk with _|k1
  ·exact absurd HA.out (by simp [Saj.l0])
  have H:=HA.out
  clear HA
  simp only [Saj.l0] at H
  replace H:=jD H;rcases H with ⟨bK,H⟩ | ⟨bK,H⟩
  ·replace H:=jI H;obtain⟨cz,H⟩:=H
   obtain⟨aI,dh,H⟩:=qE H
   try dsimp only at H
   obtain⟨aW,cB,H⟩:=qE H
   try dsimp only at H
   have aT:=aM H;clear H
   have aU:0<=(ae:Int):=qD
   have aV:ae < (l0.length:Int):=qD
   obtain⟨bn,bL,aA,aC,aD,aG,aH⟩:=at_T27 aY.out ae aU aV
   cases bL
   replace aA:=kx HB aA
   replace aC:=kx HB aC
   replace aD:=kx HB aD
   replace aG:=kx HB aG
   replace aH:=kx HB aH
   replace aU:=eq_true aU
   replace aV:=eq_true aV
   try go_wp2_with (first|((with_reducible refine jd 7 rfl ?_);refine jX _ 27 ?_;intro aa hg bq hbox hb;have af:=aM hbox;have cK:=kG hg;replace ag:=aM (Kd.R_below (Kd.R_elderB (qR ag) aa (Nat.le_of_eq hg.symm)) hb);replace ah:=kS ah hb;replace HB:=kH hb;clear hb hbox hg;have di:=jz5 af))
   have bM:Aside0 (Kd.R k27 27 (((((bq.setCell ⟨aa,0,none⟩ (iV ((rd_T27 l0 ae).f0))).setCell ⟨aa,1,none⟩ (iV ((rd_T27 l0 ae).f1))).setCell ⟨aa,2,none⟩ (iV ((rd_T27 l0 ae).f2))).setCell ⟨aa,3,none⟩ (iV ((rd_T27 l0 ae).f3))).setCell ⟨aa,4,none⟩ (iV ((rd_T27 l0 ae).f4))) w.heap.size (fun k_=>k_≠aa) u4 az):=⟨by (with_reducible repeat (first|apply Kd.R_alloc|apply Kd.R_drewN|apply Kd.R_drew));exact Kd.R_mono (Kd.R_far (p:=⟨aa,4,none⟩) (Kd.R_far (p:=⟨aa,3,none⟩) (Kd.R_far (p:=⟨aa,2,none⟩) (Kd.R_far (p:=⟨aa,1,none⟩) (Kd.R_far (p:=⟨aa,0,none⟩) (Kd.R_mono ag.out (fun k_ hk=>(⟨hk,hk.2⟩:_/\k_≠aa))) (fun _ hk=>hk.2) (iV ((rd_T27 l0 ae).f0))) (fun _ hk=>hk.2) (iV ((rd_T27 l0 ae).f1))) (fun _ hk=>hk.2) (iV ((rd_T27 l0 ae).f2))) (fun _ hk=>hk.2) (iV ((rd_T27 l0 ae).f3))) (fun _ hk=>hk.2) (iV ((rd_T27 l0 ae).f4))) (fun _ hk=>hk.1.2)⟩
   have bN:Aside0 (Kd.S (Kd.slice 4 Kd.bool) 37 (((((bq.setCell ⟨aa,0,none⟩ (iV ((rd_T27 l0 ae).f0))).setCell ⟨aa,1,none⟩ (iV ((rd_T27 l0 ae).f1))).setCell ⟨aa,2,none⟩ (iV ((rd_T27 l0 ae).f2))).setCell ⟨aa,3,none⟩ (iV ((rd_T27 l0 ae).f3))).setCell ⟨aa,4,none⟩ (iV ((rd_T27 l0 ae).f4))) w.heap.size (fun _=>True) bg ay):=⟨by (with_reducible repeat (first|apply Kd.S_alloc|apply Kd.S_drewN|apply Kd.S_drew));exact Kd.S_mono (Kd.S_far (p:=⟨aa,4,none⟩) (Kd.S_far (p:=⟨aa,3,none⟩) (Kd.S_far (p:=⟨aa,2,none⟩) (Kd.S_far (p:=⟨aa,1,none⟩) (Kd.S_far (p:=⟨aa,0,none⟩) (Kd.S_types ah.out af.out (by decide)) (fun _ hk=>hk.2) (iV ((rd_T27 l0 ae).f0))) (fun _ hk=>hk.2) (iV ((rd_T27 l0 ae).f1))) (fun _ hk=>hk.2) (iV ((rd_T27 l0 ae).f2))) (fun _ hk=>hk.2) (iV ((rd_T27 l0 ae).f3))) (fun _ hk=>hk.2) (iV ((rd_T27 l0 ae).f4))) (fun _ hk=>trivial)⟩
   have bO:Aside0 ((((((bq.setCell ⟨aa,0,none⟩ (iV ((rd_T27 l0 ae).f0))).setCell ⟨aa,1,none⟩ (iV ((rd_T27 l0 ae).f1))).setCell ⟨aa,2,none⟩ (iV ((rd_T27 l0 ae).f2))).setCell ⟨aa,3,none⟩ (iV ((rd_T27 l0 ae).f3))).setCell ⟨aa,4,none⟩ (iV ((rd_T27 l0 ae).f4))).heap[aa]?=some (.cells #[iV ((rd_T27 l0 ae).f0),iV ((rd_T27 l0 ae).f1),iV ((rd_T27 l0 ae).f2),iV ((rd_T27 l0 ae).f3),iV ((rd_T27 l0 ae).f4)] 27 (0,0))):=⟨qF af⟩
   have bP:Aside0 (Below w.heap.size w (((((bq.setCell ⟨aa,0,none⟩ (iV ((rd_T27 l0 ae).f0))).setCell ⟨aa,1,none⟩ (iV ((rd_T27 l0 ae).f1))).setCell ⟨aa,2,none⟩ (iV ((rd_T27 l0 ae).f2))).setCell ⟨aa,3,none⟩ (iV ((rd_T27 l0 ae).f3))).setCell ⟨aa,4,none⟩ (iV ((rd_T27 l0 ae).f4)))):=⟨qB⟩
   (try clear ag)
   (try clear ah)
   (try clear af)
   (try clear HB)
   generalize (((((bq.setCell ⟨aa,0,none⟩ (iV ((rd_T27 l0 ae).f0))).setCell ⟨aa,1,none⟩ (iV ((rd_T27 l0 ae).f1))).setCell ⟨aa,2,none⟩ (iV ((rd_T27 l0 ae).f2))).setCell ⟨aa,3,none⟩ (iV ((rd_T27 l0 ae).f3))).setCell ⟨aa,4,none⟩ (iV ((rd_T27 l0 ae).f4)))=dn at bM bN bO bP ⊢
   have ag:=bM
   have ah:=bN
   have af:=bO
   have HB:=bP
   clear bM bN bO bP
   replace ag:=aM (Kd.R_drew ag.out)
   replace ah:=aM (Kd.S_drew ah.out)
   replace af:=aM (blk_drew af.out)
   replace HB:=aM (below_drew1 HB.out)
   obtain⟨bQ,bR,bu⟩:=Kd.S_slice ah.out
   (first|subst bu|(injection bu with bv bS bz;have bT:=bv.symm;have bU:=bz.symm;clear bv bS bz;subst bT;subst bU))
   refine start_ (n:=6) (S:=fun w'=>w'.cell? ⟨aa,0,none⟩=some (iV ((rd_T27 l0 ae).f0))/\w'.cell? ⟨aa,1,none⟩=some (iV ((rd_T27 l0 ae).f1))/\w'.cell? ⟨aa,2,none⟩=some (iV ((rd_T27 l0 ae).f2))/\w'.cell? ⟨aa,3,none⟩=some (iV ((rd_T27 l0 ae).f3))/\w'.cell? ⟨aa,4,none⟩=some (iV ((rd_T27 l0 ae).f4))) (ds:=[]) (jb 6 0) (by kernel_rfl) rfl rfl ⟨(blk_cell af.out 0).trans rfl,(blk_cell af.out 1).trans rfl,(blk_cell af.out 2).trans rfl,(blk_cell af.out 3).trans rfl,(blk_cell af.out 4).trans rfl⟩ (fun hHeld=>?_)
   generalize dn.drew=dC at ag ah af HB hHeld ⊢
   refine pure_ (i:=1) (N:=some 26) (v:=?_) (a':=?_) (jb 6 2) rfl rfl (by kernel_rfl) (fun _ _ _ h=>h) (Or.inl ⟨by rfl,?_⟩) ?_ ?_
   rotate_left
   ·intro w'
    go_simp
    with_reducible rfl
   rotate_left
   ·simp only [Act.put,List.setIfInBounds_toArray,List.set_cons_zero,List.set_cons_succ,i64_w,i32_w]
    rfl
   refine pure_ (i:=2) (N:=some 27) (v:=?_) (a':=?_) (jb 6 6) rfl rfl (by kernel_rfl) (fun _ _ _ h=>h) (Or.inl ⟨by rfl,?_⟩) ?_ ?_
   rotate_left
   ·intro w'
    go_simp
    with_reducible rfl
   rotate_left
   ·simp only [Act.put,List.setIfInBounds_toArray,List.set_cons_zero,List.set_cons_succ,i64_w,i32_w]
    rfl
   refine pure_ (i:=3) (N:=some 28) (v:=?_) (a':=?_) (jb 6 14) rfl rfl (by kernel_rfl) (fun _ _ _ h=>h) (Or.inl ⟨by rfl,?_⟩) ?_ ?_
   rotate_left
   ·intro w'
    go_simp
    with_reducible rfl
   rotate_left
   ·simp only [Act.put,List.setIfInBounds_toArray,List.set_cons_zero,List.set_cons_succ,i64_w,i32_w]
    rfl
   refine take_ (i:=0) (N:=some 25) (v:=?_) (a':=?_) (jb 6 15) rfl rfl (by kernel_rfl) (fun _ _ _ h=>h) (Or.inl ⟨by rfl,?_⟩) hHeld ?_ ?_
   rotate_left
   ·rintro w' ⟨s0,s1,s2,s3,s4⟩
    go_simp
    with_reducible rfl
   rotate_left
   ·simp only [Act.put,List.setIfInBounds_toArray,List.set_cons_zero,List.set_cons_succ,i64_w,i32_w]
    rfl
   refine one_ (i:=4) (N:=some 29) (jb 6 31) rfl rfl (by kernel_rfl) (by decide) (fun K hK=>?_)
   refine goes_ func38 (by kernel_rfl) rfl #[.slice (some bn) l0.length c0,.slice bQ ay.length bR,iV ae] (by rfl) rfl rfl qM ?_
   with_reducible refine (SaU.calls k1 _ _ l0 _ _ ay ae aI _ ?aj ?au ?bA ?bB dh.out).mono ?_
   (case aj=>exact kC (Kd.C_below aY.out HB.out))
   (case au=>exact bH.out)
   (case bA=>exact kC (Kd.S_reads' ah.out).2.2)
   (case bB=>exact (Kd.S_reads' ah.out).2.1)
   rintro e dD ⟨dw,rfl,ho0,hb⟩
   refine⟨_,rfl,?_⟩
   have ai:=kL ho0
   replace ag:=kR ag hb
   replace ah:=aM (Kd.S_elder' (qS ah) (Kd.R_base ho0) hb)
   replace af:=kB af hb
   replace HB:=kH hb
   (try clear hb)
   (try clear hb2)
   (try clear hk)
   (try clear hi)
   (try clear ho0)
   obtain⟨bV,bW,bC⟩:=Kd.R_slice ai.out
   (first|subst bC|(injection bC with bv bS bz;have bT:=bv.symm;have bU:=bz.symm;clear bv bS bz;subst bT;subst bU))
   refine hK.out _ _ ⟨(blk_cell af.out 0).trans rfl,(blk_cell af.out 1).trans rfl,(blk_cell af.out 2).trans rfl,(blk_cell af.out 3).trans rfl,(blk_cell af.out 4).trans rfl⟩ (fun hHeld=>?_)
   clear hK K
   refine norm_ (a':=?_) ?_ ?_
   rotate_left
   ·show Act.put _ (some 29) _=_
    simp only [Act.put,List.setIfInBounds_toArray,List.set_cons_zero,List.set_cons_succ,i64_w,i32_w]
    rfl
   refine one_ (i:=5) (N:=some 30) (jb 6 63) rfl rfl (by kernel_rfl) (by decide) (fun K hK=>?_)
   refine goes_ func37 (by kernel_rfl) rfl #[.agg #[iV ((rd_T27 l0 ae).f0),iV ((rd_T27 l0 ae).f1),iV ((rd_T27 l0 ae).f2),iV ((rd_T27 l0 ae).f3),iV ((rd_T27 l0 ae).f4)],.slice bV aI.length bW] (by rfl) rfl rfl qM ?_
   have H:=aT.out;clear aT
   replace H:=jB H;rcases H with ⟨rfl,H⟩ | ⟨rfl,H⟩
   ·replace H:=jL H;obtain⟨bD,H⟩:=H
    obtain⟨bX,aJ⟩:=ky ((az ++ [(⟨4,0,0,0,wrap64 (ae+1)⟩:S27)]):List (S27))
    first|replace H:=kz aJ H|rw [<- aJ.out] at H
    have H':=aM H
    clear H
    with_reducible refine (Sbd.calls ((rd_T27 l0 ae).f0) ((rd_T27 l0 ae).f1) ((rd_T27 l0 ae).f2) ((rd_T27 l0 ae).f3) ((rd_T27 l0 ae).f4) _ _ aI true _ ?aj ?au cB.out).mono ?_
    (case aj=>exact kC (Kd.R_reads' ai.out).2.2)
    (case au=>exact (Kd.R_reads' ai.out).2.1)
    rintro e dE ⟨rfl,hb⟩
    refine⟨_,rfl,?_⟩
    replace ag:=kR ag hb
    replace ah:=kS ah hb
    replace ai:=kR ai hb
    replace af:=kB af hb
    replace HB:=kH hb
    (try clear hb)
    (try clear hb2)
    (try clear hk)
    (try clear hi)
    refine hK.out _ _ ⟨(blk_cell af.out 0).trans rfl,(blk_cell af.out 1).trans rfl,(blk_cell af.out 2).trans rfl,(blk_cell af.out 3).trans rfl,(blk_cell af.out 4).trans rfl⟩ (fun hHeld=>?_)
    clear hK K
    refine norm_ (a':=?_) ?_ ?_
    rotate_left
    ·show Act.put _ (some 30) _=_
     simp only [Act.put,List.setIfInBounds_toArray,List.set_cons_zero,List.set_cons_succ,i64_w,i32_w]
     rfl
    refine done_ (by kernel_rfl) ?_
    have dx:=jz5 af
    try go_wp2_with (first|((with_reducible refine gate_builtin (b:=.append) (xs:=#[.tmp 34,.tmp 36]) rfl ?_);at_builtin;refine Kd.R_append k27 (w0:=w) w.heap.size rfl (.tmp 34) (.tmp 36) 23 27 (.agg #[(iV 0),(iV 0),(iV 0),(iV 0),(iV 0)]) 40 rfl underlying23 info27 rfl (by decide) (by omega) u4 az (⟨4,0,0,0,wrap64 (ae+1)⟩:S27) [iV 4,iV 0,iV 0,iV 0,iV (wrap64 (ae+1))] (fun k_=>k_≠aa) (fun _=>False) rfl (by first|(go_simp;done)|(go_simp;rfl)) ?aP (fun _ hk=>hk.elim) ?aF ?aO ?aB ?aS ?aL ?_;(case aP=>exact k27_mkM _ _ _ (⟨4,0,0,0,wrap64 (ae+1)⟩:S27));(case aB=>exact qB);(case aF=>exact (fun k_ hk=>Kd.freshB (g:=aa) (o:=.cells #[iV 4,iV 0,iV 0,iV 0,iV (wrap64 (ae+1))] 27 (0,0)) (qF af) k_ hk));(case aO=>exact (by (with_reducible repeat (first|apply Kd.R_alloc|apply Kd.R_drewN|apply Kd.R_drew));exact Kd.R_mono (Kd.R_far (p:=⟨aa,4,none⟩) (Kd.R_far (p:=⟨aa,3,none⟩) (Kd.R_far (p:=⟨aa,2,none⟩) (Kd.R_far (p:=⟨aa,1,none⟩) (Kd.R_far (p:=⟨aa,0,none⟩) (Kd.R_mono ag.out (fun k_ hk=>(⟨hk,hk⟩:_/\k_≠aa))) (fun _ hk=>hk.2) (iV 4)) (fun _ hk=>hk.2) (iV 0)) (fun _ hk=>hk.2) (iV 0)) (fun _ hk=>hk.2) (iV 0)) (fun _ hk=>hk.2) (iV (wrap64 (ae+1)))) (fun _ hk=>hk.1)));(case aS=>exact (below_size qB));(case aL=>have:=bD.out;omega);intro dz dF ho hb hg hat;rw [<- aJ.out] at ho;have bE:=aM ho;replace ah:=aM (Kd.S_over' (by (with_reducible repeat (first|apply Kd.S_alloc|apply Kd.S_drewN|apply Kd.S_drew));exact (Kd.S_mono (Kd.S_far (p:=⟨aa,4,none⟩) (Kd.S_far (p:=⟨aa,3,none⟩) (Kd.S_far (p:=⟨aa,2,none⟩) (Kd.S_far (p:=⟨aa,1,none⟩) (Kd.S_far (p:=⟨aa,0,none⟩) (Kd.S_types ah.out af.out (by decide)) (fun _ hk=>hk.2) (iV 4)) (fun _ hk=>hk.2) (iV 0)) (fun _ hk=>hk.2) (iV 0)) (fun _ hk=>hk.2) (iV 0)) (fun _ hk=>hk.2) (iV (wrap64 (ae+1)))) (fun _ h_=>h_.1))) (Kd.R_typed (by (with_reducible repeat (first|apply Kd.R_alloc|apply Kd.R_drewN|apply Kd.R_drew));exact (Kd.R_mono (Kd.R_far (p:=⟨aa,4,none⟩) (Kd.R_far (p:=⟨aa,3,none⟩) (Kd.R_far (p:=⟨aa,2,none⟩) (Kd.R_far (p:=⟨aa,1,none⟩) (Kd.R_far (p:=⟨aa,0,none⟩) (Kd.R_mono ag.out (fun k_ hk=>(⟨hk,hk⟩:_/\k_≠aa))) (fun _ hk=>hk.2) (iV 4)) (fun _ hk=>hk.2) (iV 0)) (fun _ hk=>hk.2) (iV 0)) (fun _ hk=>hk.2) (iV 0)) (fun _ hk=>hk.2) (iV (wrap64 (ae+1)))) (fun _ h_=>h_.1)))) (by decide) hg);replace ai:=aM (Kd.R_over' (by (with_reducible repeat (first|apply Kd.R_alloc|apply Kd.R_drewN|apply Kd.R_drew));exact (Kd.R_mono (Kd.R_far (p:=⟨aa,4,none⟩) (Kd.R_far (p:=⟨aa,3,none⟩) (Kd.R_far (p:=⟨aa,2,none⟩) (Kd.R_far (p:=⟨aa,1,none⟩) (Kd.R_far (p:=⟨aa,0,none⟩) (Kd.R_types ai.out af.out (by decide)) (fun _ hk=>hk.2) (iV 4)) (fun _ hk=>hk.2) (iV 0)) (fun _ hk=>hk.2) (iV 0)) (fun _ hk=>hk.2) (iV 0)) (fun _ hk=>hk.2) (iV (wrap64 (ae+1)))) (fun _ h_=>h_.1))) (Kd.R_typed (by (with_reducible repeat (first|apply Kd.R_alloc|apply Kd.R_drewN|apply Kd.R_drew));exact (Kd.R_mono (Kd.R_far (p:=⟨aa,4,none⟩) (Kd.R_far (p:=⟨aa,3,none⟩) (Kd.R_far (p:=⟨aa,2,none⟩) (Kd.R_far (p:=⟨aa,1,none⟩) (Kd.R_far (p:=⟨aa,0,none⟩) (Kd.R_mono ag.out (fun k_ hk=>(⟨hk,hk⟩:_/\k_≠aa))) (fun _ hk=>hk.2) (iV 4)) (fun _ hk=>hk.2) (iV 0)) (fun _ hk=>hk.2) (iV 0)) (fun _ hk=>hk.2) (iV 0)) (fun _ hk=>hk.2) (iV (wrap64 (ae+1)))) (fun _ h_=>h_.1)))) (by decide) hg);replace af:=aM (blk_grown (g:=aa) (o:=.cells #[iV 4,iV 0,iV 0,iV 0,iV (wrap64 (ae+1))] 27 (0,0)) (qF af) hg (Kd.R_away ag.out (fun _ hk=>hk)));replace HB:=aM hb;clear ag;clear ho hb hg hat))
    go_roundg k1
    case measure=>have:=bI.out;omega
    exact⟨(bX),(wrap64 (ae+1)),qZ,H',⟨by have:=bI.out;omega⟩,⟨by (with_reducible repeat (first|apply Kd.R_alloc|apply Kd.R_drewN|apply Kd.R_drew));exact Kd.R_mono bE.out (fun _ hk=>trivial)⟩,⟨by (with_reducible repeat (first|apply Kd.S_alloc|apply Kd.S_drewN|apply Kd.S_drew));exact Kd.S_mono ah.out (fun _ hk=>trivial)⟩,⟨qB⟩⟩
   replace H:=jL H;obtain⟨bF,H⟩:=H
   obtain⟨bY,aK⟩:=ky ((az ++ [(⟨(rd_T27 l0 ae).f0,(rd_T27 l0 ae).f1,(rd_T27 l0 ae).f2,(rd_T27 l0 ae).f3,(rd_T27 l0 ae).f4⟩:S27)]):List (S27))
   first|replace H:=kz aK H|rw [<- aK.out] at H
   have H':=aM H
   clear H
   with_reducible refine (Sbd.calls ((rd_T27 l0 ae).f0) ((rd_T27 l0 ae).f1) ((rd_T27 l0 ae).f2) ((rd_T27 l0 ae).f3) ((rd_T27 l0 ae).f4) _ _ aI false _ ?aj ?au cB.out).mono ?_
   (case aj=>exact kC (Kd.R_reads' ai.out).2.2)
   (case au=>exact (Kd.R_reads' ai.out).2.1)
   rintro e dG ⟨rfl,hb⟩
   refine⟨_,rfl,?_⟩
   replace ag:=kR ag hb
   replace ah:=kS ah hb
   replace ai:=kR ai hb
   replace af:=kB af hb
   replace HB:=kH hb
   (try clear hb)
   (try clear hb2)
   (try clear hk)
   (try clear hi)
   refine hK.out _ _ ⟨(blk_cell af.out 0).trans rfl,(blk_cell af.out 1).trans rfl,(blk_cell af.out 2).trans rfl,(blk_cell af.out 3).trans rfl,(blk_cell af.out 4).trans rfl⟩ (fun hHeld=>?_)
   clear hK K
   refine norm_ (a':=?_) ?_ ?_
   rotate_left
   ·show Act.put _ (some 30) _=_
    simp only [Act.put,List.setIfInBounds_toArray,List.set_cons_zero,List.set_cons_succ,i64_w,i32_w]
    rfl
   refine done_ (by kernel_rfl) ?_
   have dA:=jz5 af
   try go_wp2_with (first|((with_reducible refine gate_builtin (b:=.append) (xs:=#[.tmp 34,.tmp 36]) rfl ?_);at_builtin;refine Kd.R_append k27 (w0:=w) w.heap.size rfl (.tmp 34) (.tmp 36) 23 27 (.agg #[(iV 0),(iV 0),(iV 0),(iV 0),(iV 0)]) 40 rfl underlying23 info27 rfl (by decide) (by omega) u4 az (⟨(rd_T27 l0 ae).f0,(rd_T27 l0 ae).f1,(rd_T27 l0 ae).f2,(rd_T27 l0 ae).f3,(rd_T27 l0 ae).f4⟩:S27) [iV ((rd_T27 l0 ae).f0),iV ((rd_T27 l0 ae).f1),iV ((rd_T27 l0 ae).f2),iV ((rd_T27 l0 ae).f3),iV ((rd_T27 l0 ae).f4)] (fun k_=>k_≠aa) (fun _=>False) rfl rfl ?aP (fun _ hk=>hk.elim) ?aF ?aO ?aB ?aS ?aL ?_;(case aP=>exact k27_mkM _ _ _ (⟨(rd_T27 l0 ae).f0,(rd_T27 l0 ae).f1,(rd_T27 l0 ae).f2,(rd_T27 l0 ae).f3,(rd_T27 l0 ae).f4⟩:S27));(case aB=>exact qB);(case aF=>exact (fun k_ hk=>Kd.freshB (g:=aa) (o:=.cells #[iV ((rd_T27 l0 ae).f0),iV ((rd_T27 l0 ae).f1),iV ((rd_T27 l0 ae).f2),iV ((rd_T27 l0 ae).f3),iV ((rd_T27 l0 ae).f4)] 27 (0,0)) (qK af) k_ hk));(case aO=>exact (qR ag));(case aS=>exact (below_size qB));(case aL=>have:=bF.out;omega);intro dB dH ho hb hg hat;rw [<- aK.out] at ho;have bG:=aM ho;replace ah:=aM (Kd.S_over' (qS ah) (Kd.R_typed (qR ag)) (by decide) hg);replace af:=aM (blk_grown (g:=aa) (o:=.cells #[iV ((rd_T27 l0 ae).f0),iV ((rd_T27 l0 ae).f1),iV ((rd_T27 l0 ae).f2),iV ((rd_T27 l0 ae).f3),iV ((rd_T27 l0 ae).f4)] 27 (0,0)) (qK af) hg (Kd.R_away ag.out (fun _ hk=>hk)));replace ai:=aM (Kd.R_over' (qR ai) (Kd.R_typed (qR ag)) (by decide) hg);replace HB:=aM hb;clear ag;clear ho hb hg hat))
   go_roundg k1
   case measure=>have:=bI.out;omega
   exact⟨(bY),(wrap64 (ae+1)),qZ,H',⟨by have:=bI.out;omega⟩,⟨by (with_reducible repeat (first|apply Kd.R_alloc|apply Kd.R_drewN|apply Kd.R_drew));exact Kd.R_mono bG.out (fun _ hk=>trivial)⟩,⟨by (with_reducible repeat (first|apply Kd.S_alloc|apply Kd.S_drewN|apply Kd.S_drew));exact Kd.S_mono ah.out (fun _ hk=>trivial)⟩,⟨qB⟩⟩
  obtain⟨rfl,rfl⟩:=oJ2 H
  go_wp2
  go_ret2
  exact⟨_,qW,qR ag,qB⟩
 obtain⟨rfl,rfl⟩:=oJ2 H
 go_enter func16,ntmps16
 go_wp2_with (first|((with_reducible refine jd 8 rfl ?_);refine jV k27 27 ([]:List (S27)) [] (Reps.none _ _) ?_;intro bJ dI aN hb;(first|rw [<- ax.out] at aN|(simp only [Int.reduceToNat] at aN;rw [<- ax.out] at aN));have av:=kL aN;replace HB:=kH hb;clear hb aN)|((with_reducible refine jc 36 10 rfl rfl ?_);refine jG func36 #[.slice A0 l0.length c0] ?_;refine (Saf.calls k _ _ l0 false _ ?aj ?au A2.out).mono ?_;(case aj=>exact kC (Kd.C_below aY.out HB.out));(case au=>exact bH.out);rintro e dJ ⟨rfl,hb⟩;refine⟨_,rfl,?_⟩;replace av:=kR av hb;replace HB:=kH hb;clear hb))
 go_ret2
 exact⟨_,qW,qR av,qB⟩
end Go.Proofs.YtebpplallecogaaGreat.M
namespace Go.Proofs.YtebpplallecogaaGreat.PM
structure Q where
 op:Int
 dst:Int
 a:Int
 b:Int
 n:Int
def rg (x:Int):Prop:=0<=x/\x<=11
def wd (x:Int):Prop:=-2147483648<=x/\x<=2147483647
def QV (q:Q) (many:Int):Prop :=
 (q.op=1/\rg q.dst/\q.a=0/\q.b=0/\wd q.n)\/(q.op=2/\rg q.dst/\rg q.a/\q.b=0/\q.n=0)\/(q.op=3/\rg q.dst/\rg q.a/\rg q.b/\1<=q.n/\q.n<=12) \/
 (q.op=4/\q.dst=0/\q.a=0/\q.b=0/\0<=q.n/\q.n < many)\/(q.op=5/\q.dst=0/\rg q.a/\q.b=0/\0<=q.n/\q.n < many) \/
 (q.op=6/\q.dst=0/\rg q.a/\q.b=0/\0<=q.n/\q.n<=2)\/(q.op=7/\rg q.dst/\q.a=0/\q.b=0/\0<=q.n/\q.n<=2) \/
 (q.op=9/\q.dst=0/\rg q.a/\q.b=0/\q.n=0)\/((q.op=8\/q.op=10)/\q.dst=0/\q.a=0/\q.b=0/\q.n=0)
instance (x:Int):Decidable (rg x):=by unfold rg;infer_instance
instance (x:Int):Decidable (wd x):=by unfold wd;infer_instance
instance (q:Q) (many:Int):Decidable (QV q many):=by unfold QV;infer_instance
def rgB (x:Int):Bool:=decide (rg x)
def wdB (x:Int):Bool:=decide (wd x)
def qvB (q:Q) (many:Int):Bool:=decide (QV q many)
theorem rgB_iff {x:Int}:rgB x=true↔0<=x/\x<=11:=by unfold rgB rg;exact decide_eq_true_iff
theorem wdB_iff {x:Int}:wdB x=true↔-2147483648<=x/\x<=2147483647:=by unfold wdB wd;exact decide_eq_true_iff
theorem qvB_iff {q:Q} {many:Int}:qvB q many=true↔QV q many:=by unfold qvB;exact decide_eq_true_iff
def rgU (x:Int) (use:Bool):Bool:=if use then rgB x else x == 0
def rgs (d a b:Int) (ud ua ub:Bool):Bool:=rgU d ud && rgU a ua && rgU b ub
def q0:Q:=⟨0,0,0,0,0⟩
def at_ (c:List Q) (i:Nat):Q:=c.getD i q0
def CV (c:List Q):Prop:=1<=c.length/\c.length<=600/\(∀ i,i < c.length->QV (at_ c i) c.length)/\((at_ c (c.length - 1)).op=10\/(at_ c (c.length - 1)).op=4)
/-- The indexes that may follow,in the order of the text. -/
def nx (q:Q) (i:Nat):List Nat :=
 if q.op=10 then [] else if q.op=4 then [q.n.toNat] else if q.op=5 then (if q.n < i+1 then [q.n.toNat,i+1] else if (i:Int)+1 < q.n then [i+1,q.n.toNat] else [i+1]) else [i+1]
theorem nx_lt {c:List Q} (h:CV c) {i j:Nat} (hi:i < c.length) (hj:j∈nx (at_ c i) i):j < c.length:=by
 obtain⟨_,_,hv,hl⟩:=h
 have v:=hv i hi
 have hlast:i+1 < c.length\/(at_ c i).op=10\/(at_ c i).op=4:=by
  rcases Nat.lt_or_ge (i+1) c.length with h|h
  ·exact .inl h
  have:i=c.length - 1:=by omega
  exact .inr (this ▸ hl)
 unfold QV at v
 unfold nx at hj
 (repeat' split at hj) <;> simp at hj <;> omega
def sets (q:Q):Int:=if q.op=1\/q.op=2\/q.op=3\/q.op=7 then q.dst else -1
def uses (q:Q) (r:Nat):Prop:=((q.op=2\/q.op=5\/q.op=6\/q.op=9)/\q.a=r)\/(q.op=3/\(q.a=r\/q.b=r))
instance (q:Q) (r:Nat):Decidable (uses q r):=by unfold uses;infer_instance
/-- Register r is live before the quad i. -/
inductive Live (c:List Q):Nat->Nat->Prop
 | use {i r:Nat}:i < c.length->uses (at_ c i) r->Live c i r
 | flow {i j r:Nat}:i < c.length->sets (at_ c i)≠r->j∈nx (at_ c i) i->Live c j r->Live c i r
/-- The quad i is reached from the quad 0. -/
inductive Reach (c:List Q):Nat->Prop
 | zero:Reach c 0
 | step {i j:Nat}:Reach c i->i < c.length->j∈nx (at_ c i) i->Reach c j
/-- A table of flags that is sound and closed is the table of liveness. -/
theorem live_of_closed {c:List Q} {T:Nat->Nat->Prop} (sound:∀ i r,i < c.length->T i r->Live c i r)
  (use:∀ i r,i < c.length->uses (at_ c i) r->T i r) (flow:∀ i j r:Nat,i < c.length->sets (at_ c i)≠r->j∈nx (at_ c i) i->T j r->T i r) (i r:Nat) (hi:i < c.length):T i r↔Live c i r:=by
 refine⟨sound i r hi,fun h=>?_⟩
 induction h with
 | use h1 h2=>exact use _ _ h1 h2
 | flow h1 h2 h3 h4 ih =>
  refine flow _ _ _ h1 h2 h3 (ih ?_)
  cases h4 <;> assumption
end Go.Proofs.YtebpplallecogaaGreat.PM
namespace Go.Proofs.YtebpplallecogaaGreat.M
open Go.Proofs.Tryz Go.RowKit Go.Proofs.YtebpplallecogaaGreatW.PrintWords Go.Proofs.YtebpplallecogaaGreatW.PrintLast Go.Proofs.YtebpplallecogaaGreatW.PrintMore PM
theorem vret_bool {a b:Bool} (h:a=b):Ending.returned (.bool a) = .returned (.bool b):=by rw [h]
theorem vq_of {P:Program} {f:FuncId} {args:Array Value} {w:World} {n:Nat} {v:Value} (h:Calls P f args (w.drewN n) fun e w'=>e = .returned v/\w.drewN n=w'):Calls P f args (w.drewN n) fun e w''=>e = .returned v/\∃ m,w''=w.drewN m :=
 h.mono fun _ _ h=>⟨h.1,n,h.2.symm⟩
theorem visReg (r:Int) (w:World):Calls prog 56 #[iV r] w fun e w'=>e = .returned (.bool (rgB r))/\w=w':=by
 go_enter func56,ntmps56
 go_wp2
 all_goals
  go_ret
  refine⟨vret_bool (Bool.eq_iff_iff.2 ?_),rfl⟩
  simp only [decide_eq_true_eq,Bool.and_eq_true,Bool.false_eq_true,false_iff,rgB_iff]
  omega
theorem vword (n:Int) (w:World):Calls prog 57 #[iV n] w fun e w'=>e = .returned (.bool (wdB n))/\w=w':=by
 go_enter func57,ntmps57
 go_wp2
 all_goals
  go_ret
  refine⟨vret_bool (Bool.eq_iff_iff.2 ?_),rfl⟩
  simp only [Bool.and_eq_true,decide_eq_true_eq,wdB_iff,Bool.false_eq_true,false_iff]
  omega
theorem vop (n:Int) (w:World):Calls prog 58 #[iV n] w fun e w'=>e = .returned (.bool (decide (1<=n/\n<=12)))/\w=w':=by
 go_enter func58,ntmps58
 go_wp2
 all_goals
  go_ret
  refine⟨vret_bool (Bool.eq_iff_iff.2 ?_),rfl⟩
  simp only [Bool.and_eq_true,decide_eq_true_eq,Bool.false_eq_true,false_iff]
  omega
def Sa4.f (aa ae af ag ah a1:Int):Option Bool:=some (qvB ⟨aa,ae,af,ag,ah⟩ a1)
set_option maxHeartbeats 4000000 in
theorem Sa4.calls (op dst a b n many:Int) (r:Bool) (w:World) (h:Sa4.f op dst a b n many=some r) :
  Calls prog 40 #[.agg #[iV op,iV dst,iV a,iV b,iV n],iV many] w fun e w'=>e = .returned (.bool r)/\Below w.heap.size w w':=by
 unfold Sa4.f at h
 injection h with h
 subst h
 have cd:=fun W=>visReg dst W
 have ca:=fun W=>visReg a W
 have cb:=fun W=>visReg b W
 have cw:=fun W=>vword n W
 have co:=fun W=>vop n W
 go_enter func40,ntmps40
 go_wp2
 go_quiet (first|(go_at_call 56;with_reducible exact vq_of (cd _))|(go_at_call 56;with_reducible exact vq_of (ca _))|(go_at_call 56;with_reducible exact vq_of (cb _)))
 go_wp2_with (first|(go_at_call 57;(with_reducible refine (cw _).mono ?_);rintro e w1 ⟨rfl,rfl⟩)|(go_at_call 58;(with_reducible refine (co _).mono ?_);rintro e w1 ⟨rfl,rfl⟩))
 all_goals
  go_ret
  refine⟨vret_bool ?_,by repeat (first|(with_reducible exact Below.refl _ _)|(with_reducible apply below_alloc)|(with_reducible apply pw_below_drewN)|(with_reducible apply below_drew1))⟩
  rw [Bool.eq_iff_iff]
  clear cd ca cb cw co
  try simp only [rgB_iff,wdB_iff,Bool.eq_false_iff,ne_eq,beq_iff_eq] at *
  simp only [*,qvB_iff,QV,rg,wd,rgB_iff,wdB_iff,beq_iff_eq,Bool.and_eq_true,decide_eq_true_eq,Bool.false_eq_true,Int.reduceEq,false_and,or_false,false_or,or_self,true_and,and_true,and_false,false_iff,true_iff,iff_self,not_false_eq_true,reduceIte]
  try (first|omega|(simp only [and_false,not_false_eq_true];done))
end Go.Proofs.YtebpplallecogaaGreat.M
namespace Go.Proofs.YtebpplallecogaaGreat.M
open Go.Proofs.Tryz Go.RowKit Go.Proofs.YtebpplallecogaaGreatW.PrintWords Go.Proofs.YtebpplallecogaaGreatW.PrintLast Go.Proofs.YtebpplallecogaaGreatW.PrintMore
attribute [local go_sem] max2_int min2_int max_two min_two max_three min_three max_four min_four
mutual
def Sa0.j0:Nat->List (S27)->Bool->Option (Bool)
 | 0,_,_=>none
 | k+1,x0,bJ=>if bJ=true then (some false) else (Sa0.l0 k x0 x0 (x0.length:Int) 0)
def Sa0.l0:Nat->List (S27)->List (S27)->Int->Int->Option (Bool)
 | 0,_,_,_,_=>none
 | k+1,x0,aW,bD,aU=>if aU < bD then (if 0<=aU then (if aU < (aW.length:Int) then ((Sa4.f ((rd_T27 aW aU).f0) ((rd_T27 aW aU).f1) ((rd_T27 aW aU).f2) ((rd_T27 aW aU).f3) ((rd_T27 aW aU).f4) (x0.length:Int)).bind fun aV=>(if aV=true then (Sa0.l0 k x0 aW bD (wrap64 (aU+1))) else (some false))) else (none)) else (none)) else (if 0<=(wrap64 ((x0.length:Int) - 1)) then (if (wrap64 ((x0.length:Int) - 1)) < (x0.length:Int) then (if ((rd_T27 x0 (wrap64 ((x0.length:Int) - 1))).f0)=10 then (some true) else (some (((rd_T27 x0 (wrap64 ((x0.length:Int) - 1))).f0) == 4))) else (none)) else (none))
end
def Sa0.f (k:Nat) (l0:List (S27)):Option (Bool):=if (l0.length:Int) < 1 then (Sa0.j0 k l0 true) else (Sa0.j0 k l0 (decide ((l0.length:Int) > 600)))
theorem Sa0.calls (k:Nat) (A0:Option Addr) (c0:Nat) (l0:List (S27)) (r:Bool) (w:World) (hr0:Kd.C k27 w A0 l0.length l0) (hc0:l0.length<=c0) (h:Sa0.f k l0=some r) :
  Calls prog 18 #[.slice A0 l0.length c0] w fun e w'=>e = .returned (.bool r)/\Below w.heap.size w w':=by
 have bL:=underlying27
 have bn:=aM hr0
 have bO:=aM hc0
 clear hr0 hc0
 have HB:=aM (Below.refl w.heap.size w)
 have H:=h;unfold Sa0.f at H
 clear h
 have bq:=aM H
 clear H
 go_enter func18,ntmps18
 go_upto_region 1 with (fail)
 go_cut [13] (fun v13 wc=>∃ (kq:Nat) (aK:Bool),v13 = .bool aK/\Aside0 (Sa0.j0 kq l0 aK=some r)/\Aside0 (kq<=k)/\Aside0 (Below w.heap.size w wc))
 case first =>
  have H:=bq.out
  clear bq
  by_cases c3:(l0.length:Int) < 1
  ·rw [if_pos c3] at H
   have aN:=decide_eq_true c3
   have bu:decide (l0.length < 1)=true:=decide_eq_true (by omega)
   clear c3
   (first|rw [aN]|(simp only [i64_w,i32_w];rw [aN])|skip)
   have H':=aM H
   clear H
   go_wp2
   go_meet
   exact⟨_,(true),qZ,H',⟨by first|omega|exact Nat.le_refl _⟩,⟨qB⟩⟩
  rw [if_neg c3] at H
  have aN:=decide_eq_false c3
  have bu:decide (l0.length < 1)=false:=decide_eq_false (by omega)
  clear c3
  (first|rw [aN]|(simp only [i64_w,i32_w];rw [aN])|skip)
  have H':=aM H
  clear H
  go_wp2
  go_meet
  exact⟨_,(decide ((l0.length:Int) > 600)),qZ,H',⟨by first|omega|exact Nat.le_refl _⟩,⟨qB⟩⟩
 clear bq
 obtain⟨kq,aK,rfl,HA,bE,HB⟩:=hcut
 cases kq with
 | zero=>exact absurd HA.out (by simp [Sa0.j0])
 | succ bF =>
  have H:=HA.out
  clear HA
  simp only [Sa0.j0] at H
  replace H:=jB H;rcases H with ⟨rfl,H⟩ | ⟨rfl,H⟩
  ·obtain rfl:=oJ H
   go_wp2
   go_ret
   exact⟨qW,qB⟩
  have H':=aM H
  clear H
  go_wp2
  go_loopg [16] bF (fun kq v16 w'=>∃ (aa:Int),v16 = iV aa/\Aside0 (Sa0.l0 kq l0 l0 (l0.length:Int) aa=some r)/\Aside0 (kq<=bF)/\Aside0 (Below w.heap.size w w'))
  case atStart=>exact⟨(0),qZ,H',⟨Nat.le_refl _⟩,⟨qB⟩⟩
  clear H'
  obtain⟨aa,rfl,HA,bG,HB⟩:=hrel
  rcases gk with _|k2
  ·exact absurd HA.out (by simp [Sa0.l0])
  have H:=HA.out
  clear HA
  simp only [Sa0.l0] at H
  replace H:=jD H;rcases H with ⟨bv,H⟩ | ⟨bv,H⟩
  ·replace H:=jI H;obtain⟨bM,H⟩:=H
   replace H:=jI H;obtain⟨bN,H⟩:=H
   obtain⟨aV,A8,H⟩:=qE H
   try dsimp only at H
   replace H:=jB H;rcases H with ⟨rfl,H⟩ | ⟨rfl,H⟩
   ·have H':=aM H
    clear H
    have aA:0<=(aa:Int):=qD
    have aC:aa < (l0.length:Int):=qD
    obtain⟨aX,aQ,ae,af,ag,ah,ai⟩:=at_T27 bn.out aa aA aC
    cases aQ
    replace ae:=kx HB ae
    replace af:=kx HB af
    replace ag:=kx HB ag
    replace ah:=kx HB ah
    replace ai:=kx HB ai
    replace aA:=eq_true aA
    replace aC:=eq_true aC
    go_wp2_with (first|((with_reducible refine jd 4 rfl ?_);(try (refine gate_guard (by rfl) ?_;dsimp only));refine jX _ 27 ?_;intro aJ hg bz hbox hb;have az:=aM hbox;have aY:=kG hg;replace HB:=kH hb;clear hb hbox hg;have bA:=jz5 az)|((with_reducible refine jc 40 23 rfl rfl ?_);refine jG func40 #[.agg #[iV ((rd_T27 l0 aa).f0),iV ((rd_T27 l0 aa).f1),iV ((rd_T27 l0 aa).f2),iV ((rd_T27 l0 aa).f3),iV ((rd_T27 l0 aa).f4)],iV (l0.length:Int)] ?_;refine (Sa4.calls _ _ _ _ _ _ _ _ (Aside0.out (by assumption))).mono ?_;rintro e bB ⟨rfl,hb⟩;refine⟨_,rfl,?_⟩;replace az:=aM (blk_below (g:=aJ) (o:=.cells #[iV ((rd_T27 l0 aa).f0),iV ((rd_T27 l0 aa).f1),iV ((rd_T27 l0 aa).f2),iV ((rd_T27 l0 aa).f3),iV ((rd_T27 l0 aa).f4)] 27 (0,0)) (qF az) hb);replace HB:=kH hb;clear hb))
    go_roundg k2
    case measure=>have:=bE.out;have:=bG.out;omega
    exact⟨_,qZ,H',⟨by have:=bE.out;have:=bG.out;omega⟩,⟨qB⟩⟩
   obtain rfl:=oJ H
   have aA:0<=(aa:Int):=qD
   have aC:aa < (l0.length:Int):=qD
   obtain⟨aX,aQ,ae,af,ag,ah,ai⟩:=at_T27 bn.out aa aA aC
   cases aQ
   replace ae:=kx HB ae
   replace af:=kx HB af
   replace ag:=kx HB ag
   replace ah:=kx HB ah
   replace ai:=kx HB ai
   replace aA:=eq_true aA
   replace aC:=eq_true aC
   go_wp2_with (first|((with_reducible refine jd 4 rfl ?_);(try (refine gate_guard (by rfl) ?_;dsimp only));refine jX _ 27 ?_;intro aJ hg bz hbox hb;have az:=aM hbox;have aY:=kG hg;replace HB:=kH hb;clear hb hbox hg;have bA:=jz5 az)|((with_reducible refine jc 40 23 rfl rfl ?_);refine jG func40 #[.agg #[iV ((rd_T27 l0 aa).f0),iV ((rd_T27 l0 aa).f1),iV ((rd_T27 l0 aa).f2),iV ((rd_T27 l0 aa).f3),iV ((rd_T27 l0 aa).f4)],iV (l0.length:Int)] ?_;refine (Sa4.calls _ _ _ _ _ _ _ _ (Aside0.out (by assumption))).mono ?_;rintro e bB ⟨rfl,hb⟩;refine⟨_,rfl,?_⟩;replace az:=aM (blk_below (g:=aJ) (o:=.cells #[iV ((rd_T27 l0 aa).f0),iV ((rd_T27 l0 aa).f1),iV ((rd_T27 l0 aa).f2),iV ((rd_T27 l0 aa).f3),iV ((rd_T27 l0 aa).f4)] 27 (0,0)) (qF az) hb);replace HB:=kH hb;clear hb))
   go_ret
   exact⟨qW,qB⟩
  obtain⟨aD,aI⟩:∃ j_:Int,(wrap64 ((l0.length:Int) - 1))=j_:=⟨_,rfl⟩
  replace H:(if 0<=(aD) then (if (aD) < (l0.length:Int) then (if ((rd_T27 l0 (aD)).f0)=10 then (some true) else (some (((rd_T27 l0 (aD)).f0) == 4))) else (none)) else (none))=some r:=by first|(rw [aI] at H;exact H)|(simp only [aI] at H ⊢;exact H)
  have bC:(IntKind.i64.wrap ((l0.length:Int) - 1))=aD:=(i64_w _).trans aI
  replace H:=jI H;obtain⟨bH,H⟩:=H
  replace H:=jI H;obtain⟨bI,H⟩:=H
  replace H:=jE H;rcases H with ⟨bg,bi,H⟩ | ⟨c19,bg,bi,H⟩
  ·obtain rfl:=oJ H
   have aG:0<=((aD):Int):=qD
   have aH:(aD) < (l0.length:Int):=qD
   obtain⟨aZ,aT,aj,au,av,ax,ay⟩:=at_T27 bn.out (aD) aG aH
   cases aT
   replace aj:=kx HB aj
   replace au:=kx HB au
   replace av:=kx HB av
   replace ax:=kx HB ax
   replace ay:=kx HB ay
   replace aG:=eq_true aG
   replace aH:=eq_true aH
   go_wp2
   go_ret
   exact⟨by first|rfl|(simp [errW_none,errW_some] <;> rfl)|(simp only [<- aI];first|rfl|(simp [errW_none,errW_some] <;> rfl))|(simp [*,errW_none,errW_some] <;> rfl),qB⟩
  obtain rfl:=oJ H
  have aG:0<=((aD):Int):=qD
  have aH:(aD) < (l0.length:Int):=qD
  obtain⟨aZ,aT,aj,au,av,ax,ay⟩:=at_T27 bn.out (aD) aG aH
  cases aT
  replace aj:=kx HB aj
  replace au:=kx HB au
  replace av:=kx HB av
  replace ax:=kx HB ax
  replace ay:=kx HB ay
  replace aG:=eq_true aG
  replace aH:=eq_true aH
  go_wp2
  go_ret
  exact⟨by first|rfl|(simp [errW_none,errW_some] <;> rfl)|(simp only [<- aI];first|rfl|(simp [errW_none,errW_some] <;> rfl))|(simp [*,errW_none,errW_some] <;> rfl),qB⟩
def Sa8.j0:Nat->Int->Bool->Int->Int->Int->Int->Int->Option (List Int)
 | 0,_,_,_,_,_,_,_=>none
 | k+1,x1,bK,aG,aZ,bg,bi,af=>if bK=true then (some (([af,wrap64 (x1+1)]:List Int))) else (if aG=5 then (if af > (wrap64 (x1+1)) then (some (([wrap64 (x1+1),af]:List Int))) else (some (([wrap64 (x1+1)]:List Int)))) else (some (([wrap64 (x1+1)]:List Int))))
def Sa8.f (k:Nat) (ag ay az aA ae a1:Int):Option (List Int):=if ag=10 then (some ([]:List Int)) else (if ag=4 then (some (([ae]:List Int))) else (if ag=5 then (Sa8.j0 k a1 (decide (ae < (wrap64 (a1+1)))) ag ay az aA ae) else (Sa8.j0 k a1 false ag ay az aA ae)))
theorem Sa8.calls (k:Nat) (ag ay az aA ae a1:Int) (r:List Int) (w:World) (h:Sa8.f k ag ay az aA ae a1=some r) :
  Calls prog 47 #[.agg #[iV ag,iV ay,iV az,iV aA,iV ae],iV a1] w fun e w'=>∃ bE:Value,e = .returned (bE)/\Kd.R (Kd.int .i64) 3 w' w.heap.size (fun _=>True) bE r/\Below w.heap.size w w':=by
 have bM:=underlying27
 have HB:=aM (Below.refl w.heap.size w)
 have H:=h;unfold Sa8.f at H
 clear h
 replace H:=jE H;rcases H with ⟨bn,bq,H⟩ | ⟨c3,bn,bq,H⟩
 ·obtain rfl:=oJ H
  go_enter func47,ntmps47
  go_wp2_with (first|((with_reducible refine jd 2 rfl ?_);refine jX _ 27 ?_;intro aC hg w4 hbox hb;have aa:=aM hbox;have aH:=kG hg;replace HB:=kH hb;clear hb hbox hg;have bV:=jz5 aa))
  go_ret
  exact⟨_,qW,by first|exact Kd.R_nil _ _ _ _ _|exact Kd.N_nil _ _ _ _ _|exact Kd.V_nil _ _ _ _ _|exact Kd.Q_nil _ _ _ _ _|exact Kd.S_nil _ _ _ _ _,qB⟩
 replace H:=jE H;rcases H with ⟨bu,bv,H⟩ | ⟨c6,bu,bv,H⟩
 ·obtain⟨y1198,ah⟩:=ky ((([ae]:List Int)):List Int)
  first|replace H:=kz ah H|rw [<- ah.out] at H
  obtain rfl:=oJ H
  go_enter func47,ntmps47
  go_wp2_with (first|((with_reducible refine jd 2 rfl ?_);refine jX _ 27 ?_;intro aC hg w7 hbox hb;have aa:=aM hbox;have aH:=kG hg;replace HB:=kH hb;clear hb hbox hg;have bW:=jz5 aa)|((with_reducible refine jd 15 rfl ?_);refine jV (Kd.int .i64) 3 ([ae]:List Int) [iV ae] (Reps.one (show Kd.M (Kd.int .i64) _ _ _ ae [iV ae] from rfl) (Reps.none _ _)) ?_;intro bF w9 aI hb;(first|rw [<- ah.out] at aI|(simp only [Int.reduceToNat] at aI;rw [<- ah.out] at aI));have aT:=kL aI;replace aa:=kB aa hb;replace HB:=kH hb;clear hb aI))
  go_ret
  exact⟨_,qW,qR aT,qB⟩
 have aU:=aM H
 clear H
 go_enter func47,ntmps47
 go_upto_region 5 with (first|((with_reducible refine jd 2 rfl ?_);refine jX _ 27 ?_;intro aC hg bX hbox hb;have aa:=aM hbox;have aH:=kG hg;replace HB:=kH hb;clear hb hbox hg;have bD:=jz5 aa))
 (try simp only [Act.put,List.setIfInBounds_toArray,List.set_cons_zero,List.set_cons_succ])
 go_cut [16] (fun v16 wc=>∃ (kq:Nat) (aD:Bool),v16 = .bool aD/\Aside0 (Sa8.j0 kq a1 aD ag ay az aA ae=some r)/\Aside0 (kq<=k)/\Aside0 (wc.heap[aC]?=some (.cells #[iV ag,iV ay,iV az,iV aA,iV ae] 27 (0,0)))/\Aside0 (Below w.heap.size w wc))
 case first =>
  have H:=aU.out
  clear aU
  replace H:=jE H;rcases H with ⟨ax,bz,H⟩ | ⟨c14,ax,bz,H⟩
  ·(first|rw [ax]|(simp only [i64_w,i32_w];rw [ax])|skip)
   have H':=aM H
   clear H
   have bN:=jz5 aa
   go_wp2
   go_meet
   exact⟨_,(decide (ae < (wrap64 (a1+1)))),qZ,H',⟨by first|omega|exact Nat.le_refl _⟩,⟨qK aa⟩,⟨qB⟩⟩
  (first|rw [ax]|(simp only [i64_w,i32_w];rw [ax])|skip)
  have H':=aM H
  clear H
  have bO:=jz5 aa
  go_wp2
  go_meet
  exact⟨_,(false),qZ,H',⟨by first|omega|exact Nat.le_refl _⟩,⟨qK aa⟩,⟨qB⟩⟩
 clear aU
 try clear c3;try clear bn;try clear bq;try clear c6;try clear bu;try clear bv;try clear bD
 obtain⟨kq,aD,rfl,HA,bP,aa,HB⟩:=hcut
 cases kq with
 | zero=>exact absurd HA.out (by simp [Sa8.j0])
 | succ bQ =>
  have H:=HA.out
  clear HA
  simp only [Sa8.j0] at H
  replace H:=jB H;rcases H with ⟨rfl,H⟩ | ⟨rfl,H⟩
  ·obtain⟨y1201,ai⟩:=ky ((([ae,wrap64 (a1+1)]:List Int)):List Int)
   first|replace H:=kz ai H|rw [<- ai.out] at H
   obtain rfl:=oJ H
   have bR:=jz5 aa
   go_wp2_with (first|((with_reducible refine jd 31 rfl ?_);refine jV (Kd.int .i64) 3 ([ae,wrap64 (a1+1)]:List Int) [iV ae,iV (wrap64 (a1+1))] (Reps.one (show Kd.M (Kd.int .i64) _ _ _ ae [iV ae] from rfl) (Reps.one (show Kd.M (Kd.int .i64) _ _ _ (wrap64 (a1+1)) [iV (wrap64 (a1+1))] from rfl) (Reps.none _ _))) ?_;intro bG bY aJ hb;(first|rw [<- ai.out] at aJ|(simp only [Int.reduceToNat] at aJ;rw [<- ai.out] at aJ));have aV:=kL aJ;replace aa:=kB aa hb;replace HB:=kH hb;clear hb aJ))
   go_ret
   exact⟨_,qW,qR aV,qB⟩
  replace H:=jE H;rcases H with ⟨bA,bB,H⟩ | ⟨c21,bA,bB,H⟩
  ·replace H:=jD H;rcases H with ⟨bC,H⟩ | ⟨bC,H⟩
   ·obtain⟨y1204,aj⟩:=ky ((([wrap64 (a1+1),ae]:List Int)):List Int)
    first|replace H:=kz aj H|rw [<- aj.out] at H
    obtain rfl:=oJ H
    have bS:=jz5 aa
    go_wp2_with (first|((with_reducible refine jd 47 rfl ?_);refine jV (Kd.int .i64) 3 ([wrap64 (a1+1),ae]:List Int) [iV (wrap64 (a1+1)),iV ae] (Reps.one (show Kd.M (Kd.int .i64) _ _ _ (wrap64 (a1+1)) [iV (wrap64 (a1+1))] from rfl) (Reps.one (show Kd.M (Kd.int .i64) _ _ _ ae [iV ae] from rfl) (Reps.none _ _))) ?_;intro bH bZ aK hb;(first|rw [<- aj.out] at aK|(simp only [Int.reduceToNat] at aK;rw [<- aj.out] at aK));have aW:=kL aK;replace aa:=kB aa hb;replace HB:=kH hb;clear hb aK))
    go_ret
    exact⟨_,qW,qR aW,qB⟩
   obtain⟨y1207,au⟩:=ky ((([wrap64 (a1+1)]:List Int)):List Int)
   first|replace H:=kz au H|rw [<- au.out] at H
   obtain rfl:=oJ H
   have bT:=jz5 aa
   go_wp2_with (first|((with_reducible refine jd 50 rfl ?_);refine jV (Kd.int .i64) 3 ([wrap64 (a1+1)]:List Int) [iV (wrap64 (a1+1))] (Reps.one (show Kd.M (Kd.int .i64) _ _ _ (wrap64 (a1+1)) [iV (wrap64 (a1+1))] from rfl) (Reps.none _ _)) ?_;intro bI cz aN hb;(first|rw [<- au.out] at aN|(simp only [Int.reduceToNat] at aN;rw [<- au.out] at aN));have aX:=kL aN;replace aa:=kB aa hb;replace HB:=kH hb;clear hb aN))
   go_ret
   exact⟨_,qW,qR aX,qB⟩
  obtain⟨y1210,av⟩:=ky ((([wrap64 (a1+1)]:List Int)):List Int)
  first|replace H:=kz av H|rw [<- av.out] at H
  obtain rfl:=oJ H
  have bU:=jz5 aa
  go_wp2_with (first|((with_reducible refine jd 50 rfl ?_);refine jV (Kd.int .i64) 3 ([wrap64 (a1+1)]:List Int) [iV (wrap64 (a1+1))] (Reps.one (show Kd.M (Kd.int .i64) _ _ _ (wrap64 (a1+1)) [iV (wrap64 (a1+1))] from rfl) (Reps.none _ _)) ?_;intro bJ cB aQ hb;(first|rw [<- av.out] at aQ|(simp only [Int.reduceToNat] at aQ;rw [<- av.out] at aQ));have aY:=kL aQ;replace aa:=kB aa hb;replace HB:=kH hb;clear hb aQ))
  go_ret
  exact⟨_,qW,qR aY,qB⟩
def Sa7.l0:Nat->List Int->Int->List Int->Int->Int->Option (Int)
 | 0,_,_,_,_,_=>none
 | k+1,x1,x7,aH,bg,aG=>if aG < bg then (if 0<=aG then (if aG < (aH.length:Int) then (if 0<=(rd aH aG) then (if (rd aH aG) < (x1.length:Int) then (Sa7.l0 k x1 (Go.bits .or .u16 x7 (rd x1 (rd aH aG))) aH bg (wrap64 (aG+1))) else (none)) else (none)) else (none)) else (none)) else (some x7)
def Sa7.f (k:Nat) (l0:List (S27)) (l1:List Int) (a2:Int):Option (Int):=if 0<=a2 then (if a2 < (l0.length:Int) then ((Sa8.f k ((rd_T27 l0 a2).f0) ((rd_T27 l0 a2).f1) ((rd_T27 l0 a2).f2) ((rd_T27 l0 a2).f3) ((rd_T27 l0 a2).f4) a2).bind fun aa=>(Sa7.l0 k l1 0 aa (aa.length:Int) 0)) else (none)) else (none)
theorem Sa7.calls (k:Nat) (A0:Option Addr) (c0:Nat) (l0:List (S27)) (A1:Option Addr) (c1:Nat) (l1:List Int) (a2 r:Int) (w:World) (hr0:Kd.C k27 w A0 l0.length l0) (hc0:l0.length<=c0) (hr1:Kd.C (Kd.int .u16) w A1 l1.length l1) (hc1:l1.length<=c1) (h:Sa7.f k l0 l1 a2=some r) :
  Calls prog 44 #[.slice A0 l0.length c0,.slice A1 l1.length c1,iV a2] w fun e w'=>e = .returned (.int .u16 r)/\Below w.heap.size w w':=by
 have bB:=underlying27
 have bC:=aM hr0
 have bG:=aM hc0
 clear hr0 hc0
 have HR1:=aM hr1
 have bH:=aM hc1
 clear hr1 hc1
 have HB:=aM (Below.refl w.heap.size w)
 have H:=h;unfold Sa7.f at H
 clear h
 replace H:=jI H;obtain⟨aU,H⟩:=H
 replace H:=jI H;obtain⟨aV,H⟩:=H
 obtain⟨aa,A6,H⟩:=qE H
 try dsimp only at H
 have H':=aM H
 clear H
 obtain⟨aW,aI,ag,ah,ai,aj,au,aJ,aK⟩:=jT27 bC a2
 cases aI
 go_enter func44,ntmps44
 go_wp2_with (first|((with_reducible refine jc 47 15 rfl rfl ?_);refine jG func47 #[.agg #[iV ((rd_T27 l0 a2).f0),iV ((rd_T27 l0 a2).f1),iV ((rd_T27 l0 a2).f2),iV ((rd_T27 l0 a2).f3),iV ((rd_T27 l0 a2).f4)],iV a2] ?_;refine (Sa8.calls k ((rd_T27 l0 a2).f0) ((rd_T27 l0 a2).f1) ((rd_T27 l0 a2).f2) ((rd_T27 l0 a2).f3) ((rd_T27 l0 a2).f4) a2 aa _ A6.out).mono ?_;rintro e w7 ⟨bi,rfl,ho0,hb⟩;refine⟨_,rfl,?_⟩;have av:=kL ho0;replace HB:=kH hb;clear hb;(try clear ho0);obtain⟨bD,bE,bF⟩:=Kd.R_slice av.out;subst bF))
 go_loopg [7,17] k (fun kq v7 v17 w'=>∃ (aC:Int) (ae:Int),v7 = .int .u16 aC/\v17 = iV ae/\Aside0 (Sa7.l0 kq l1 aC aa (aa.length:Int) ae=some r)/\Aside0 (kq<=k)/\Aside0 (Kd.R (Kd.int .i64) 3 w' w.heap.size (fun _=>True) (.slice bD aa.length bE) aa)/\Aside0 (Below w.heap.size w w'))
 case atStart=>exact⟨(0),(0),qZ,qZ,H',⟨Nat.le_refl _⟩,⟨qR av⟩,⟨qB⟩⟩
 clear H'
 try clear c1;try clear aU;try clear aV;try clear ag;try clear ah;try clear ai;try clear aj;try clear au;try clear aJ;try clear aK
 obtain⟨aC,ae,rfl,rfl,HA,bn,aD,HB⟩:=hrel
 rcases gk with _|k1
 ·exact absurd HA.out (by simp [Sa7.l0])
 have H:=HA.out
 clear HA
 simp only [Sa7.l0] at H
 replace H:=jD H;rcases H with ⟨aX,H⟩ | ⟨aX,H⟩
 ·replace H:=jI H;obtain⟨bq,H⟩:=H
  replace H:=jI H;obtain⟨bu,H⟩:=H
  replace H:=jI H;obtain⟨bv,H⟩:=H
  replace H:=jI H;obtain⟨bz,H⟩:=H
  have H':=aM H
  clear H
  have ax:0<=(ae:Int):=qD
  have ay:ae < (aa.length:Int):=qD
  obtain⟨aY,aN,aQ⟩:=Kd.at_int (Kd.R_reads' aD.out).2.2 ae ax ay
  cases aN
  replace ax:=eq_true ax
  replace ay:=eq_true ay
  have az:0<=((rd aa ae):Int):=qD
  have aA:(rd aa ae) < (l1.length:Int):=qD
  obtain⟨aZ,aT,af⟩:=Kd.at_int HR1.out (rd aa ae) az aA
  cases aT
  replace af:=kx HB af
  replace az:=eq_true az
  replace aA:=eq_true aA
  go_wp2
  go_roundg k1
  case measure=>have:=bn.out;omega
  exact⟨(Go.bits .or .u16 aC (rd l1 (rd aa ae))),(wrap64 (ae+1)),qZ,qZ,H',⟨by have:=bn.out;omega⟩,⟨qR aD⟩,⟨qB⟩⟩
 obtain rfl:=oJ H
 go_wp2
 go_ret
 exact⟨qW,qB⟩
def Sab.f (aa ae af ag ah:Int):Option (Int):=if aa=1 then (some ae) else (if aa=2 then (some ae) else (if aa=3 then (some ae) else (if aa=7 then (some ae) else (some (-1)))))
theorem Sab_0 {G:Prop} (h:G:=by
  go_enter func50,ntmps50
  go_wp2_with (first|((with_reducible refine jd 1 rfl ?_);refine jX _ 27 ?_;intro av hg aH hbox hb;have ai:=aM hbox;have ax:=kG hg;replace HB:=kH hb;clear hb hbox hg;have aI:=jz5 ai))
  go_ret
  exact⟨qW,qB⟩):G:=h
theorem Sab.calls (aa ae af ag ah r:Int) (w:World) (h:Sab.f aa ae af ag ah=some r) :
  Calls prog 50 #[.agg #[iV aa,iV ae,iV af,iV ag,iV ah]] w fun e w'=>e = .returned (iV r)/\Below w.heap.size w w':=by
 have aJ:=underlying27
 have HB:=aM (Below.refl w.heap.size w)
 have H:=h;unfold Sab.f at H
 clear h
 replace H:=jE H;rcases H with ⟨ay,az,H⟩ | ⟨c2,ay,az,H⟩
 ·obtain rfl:=oJ H
  exact Sab_0
 replace H:=jE H;rcases H with ⟨aA,aC,H⟩ | ⟨c5,aA,aC,H⟩
 ·obtain rfl:=oJ H
  exact Sab_0
 replace H:=jE H;rcases H with ⟨aD,aG,H⟩ | ⟨c8,aD,aG,H⟩
 ·obtain rfl:=oJ H
  exact Sab_0
 replace H:=jE H;rcases H with ⟨aj,au,H⟩ | ⟨c11,aj,au,H⟩
 ·obtain rfl:=oJ H
  exact Sab_0
 obtain rfl:=oJ H
 exact Sab_0
def Sac.j0:Nat->Int->Bool->Int->Int->Int->Int->Int->Option (Int)
 | 0,_,_,_,_,_,_,_=>none
 | k+1,x4,x5,aW,aX,ai,av,aY=>if x5=true then (if 0<=ai then (some (shl .u16 1 ai)) else (none)) else (if x4=3 then (if 0<=ai then (if 0<=av then (some (Go.bits .or .u16 (shl .u16 1 ai) (shl .u16 1 av))) else (none)) else (none)) else (some 0))
def Sac.f (k:Nat) (ae aj af ah au:Int):Option (Int):=if ae=2 then (Sac.j0 k ae (ae == 2) ae aj af ah au) else (if ae=5 then (Sac.j0 k ae (ae == 5) ae aj af ah au) else (if ae=6 then (Sac.j0 k ae (ae == 6) ae aj af ah au) else (Sac.j0 k ae (ae == 9) ae aj af ah au)))
theorem Sac.calls (k:Nat) (ae aj af ah au r:Int) (w:World) (h:Sac.f k ae aj af ah au=some r) :
  Calls prog 48 #[.agg #[iV ae,iV aj,iV af,iV ah,iV au]] w fun e w'=>e = .returned (.int .u16 r)/\Below w.heap.size w w':=by
 have bQ:=underlying27
 have HB:=aM (Below.refl w.heap.size w)
 have H:=h;unfold Sac.f at H
 clear h
 have bi:=aM H
 clear H
 go_enter func48,ntmps48
 go_upto_if 5 with (first|((with_reducible refine jd 1 rfl ?_);refine jX _ 27 ?_;intro ag hg w3 hbox hb;have aa:=aM hbox;have aC:=kG hg;have aD:=kG hg;replace HB:=kH hb;clear hb hbox hg;have bG:=jz5 aa))
 repeat (go_quiet (first|((with_reducible refine gate_dst (N:=1) rfl ?_);refine box_event ?hg (N:=1) ?hd (cs:=#[iV ae,iV aj,iV af,iV ah,iV au]) (t:=27) ?hr ?_;(case hd=>rfl);(case hg=>rfl);(case hr=>first|(go_simp;done)|(go_simp;rfl));intro ag hg w3 hbox hb;have bH:=aM (below_step qB hb);have bI:=aM hbox;have bJ:=aM ((by rw [hg];exact (below_size qB):w.heap.size<=ag));have bK:=aM ((by rw [hg];exact (below_size qB):w.heap.size<=ag));clear HB;have HB:=bH;have aa:=bI;have aC:=bJ;have aD:=bK;clear bH bI bJ bK;clear hb hbox hg;have bR:w3.cell? ⟨ag,0,none⟩=some (iV ae):=(blk_cell aa.out 0).trans rfl;have bS:w3.cell? ⟨ag,1,none⟩=some (iV aj):=(blk_cell aa.out 1).trans rfl;have bT:w3.cell? ⟨ag,2,none⟩=some (iV af):=(blk_cell aa.out 2).trans rfl;have bU:w3.cell? ⟨ag,3,none⟩=some (iV ah):=(blk_cell aa.out 3).trans rfl;have bV:w3.cell? ⟨ag,4,none⟩=some (iV au):=(blk_cell aa.out 4).trans rfl;have bW:=blk_frozen aa.out 0;have bX:=blk_frozen aa.out 1;have bY:=blk_frozen aa.out 2;have bZ:=blk_frozen aa.out 3;have cz:=blk_frozen aa.out 4));go_upto_if 5 with (first|((with_reducible refine jd 1 rfl ?_);refine jX _ 27 ?_;intro ag hg w3 hbox hb;have aa:=aM hbox;have aC:=kG hg;have aD:=kG hg;replace HB:=kH hb;clear hb hbox hg;have bG:=jz5 aa)))
 (try simp only [Act.put,List.setIfInBounds_toArray,List.set_cons_zero,List.set_cons_succ])
 go_cut [5] (fun v5 wc=>∃ (kq:Nat) (aJ:Bool),v5 = .bool aJ/\Aside0 (Sac.j0 kq ae aJ ae aj af ah au=some r)/\Aside0 (kq<=k)/\Aside0 (wc.heap[ag]?=some (.cells #[iV ae,iV aj,iV af,iV ah,iV au] 27 (0,0)))/\Aside0 (Below w.heap.size w wc))
 case first =>
  have H:=bi.out
  clear bi
  replace H:=jE H;rcases H with ⟨aG,bn,H⟩ | ⟨c5,aG,bn,H⟩
  ·(first|rw [aG]|(simp only [i64_w,i32_w];rw [aG])|skip)
   have H':=aM H
   clear H
   go_wp2
   repeat (go_quiet (fail);try go_wp2)
   go_meet
   exact⟨_,((ae == 2)),qZ,H',⟨by first|omega|exact Nat.le_refl _⟩,⟨qK aa⟩,⟨qB⟩⟩
  (first|rw [aG]|(simp only [i64_w,i32_w];rw [aG])|skip)
  replace H:=jE H;rcases H with ⟨bq,bu,H⟩ | ⟨c6,bq,bu,H⟩
  ·have H':=aM H
   clear H
   go_wp2
   repeat (go_quiet (fail);try go_wp2)
   go_meet
   exact⟨_,((ae == 5)),qZ,H',⟨by first|omega|exact Nat.le_refl _⟩,⟨qK aa⟩,⟨qB⟩⟩
  replace H:=jE H;rcases H with ⟨bv,bz,H⟩ | ⟨c7,bv,bz,H⟩
  ·have H':=aM H
   clear H
   go_wp2
   repeat (go_quiet (fail);try go_wp2)
   go_meet
   exact⟨_,((ae == 6)),qZ,H',⟨by first|omega|exact Nat.le_refl _⟩,⟨qK aa⟩,⟨qB⟩⟩
  have H':=aM H
  clear H
  go_wp2
  repeat (go_quiet (fail);try go_wp2)
  go_meet
  exact⟨_,((ae == 9)),qZ,H',⟨by first|omega|exact Nat.le_refl _⟩,⟨qK aa⟩,⟨qB⟩⟩
 clear bi
 try clear bG
 obtain⟨kq,aJ,rfl,HA,dh,aa,HB⟩:=hcut
 cases kq with
 | zero=>exact absurd HA.out (by simp [Sac.j0])
 | succ di =>
  have H:=HA.out
  clear HA
  simp only [Sac.j0] at H
  replace H:=jB H;rcases H with ⟨rfl,H⟩ | ⟨rfl,H⟩
  ·replace H:=jJ H;obtain⟨cB,cK,H⟩:=H
   obtain⟨aH,ax⟩:∃ j_:Int,(shl .u16 1 af)=j_:=⟨_,rfl⟩
   replace H:(some aH)=some r:=by first|(rw [ax] at H;exact H)|(simp only [ax] at H ⊢;exact H)
   have aK:(IntKind.u16.wrap (1*2 ^ min af.toNat 16))=aH:=ax
   have aN:af<=16->(IntKind.u16.wrap (1*2 ^ af.toNat))=aH:=shl_small ax
   have bA:(IntKind.u16.wrap (2 ^ min af.toNat 16))=aH:=by have h_:=aK;rw [Int.one_mul] at h_;exact h_
   have bB:af<=16->(IntKind.u16.wrap (2 ^ af.toNat))=aH:=fun hle_=>by have h_:=aN hle_;rw [Int.one_mul] at h_;exact h_
   obtain rfl:=oJ H
   have cO:=jz5 aa
   go_wp2
   repeat (go_quiet (fail);try go_wp2)
   go_ret
   exact⟨by first|rfl|(simp [errW_none,errW_some] <;> rfl)|(simp only [<- ax];first|rfl|(simp [errW_none,errW_some] <;> rfl))|(simp [*,errW_none,errW_some] <;> rfl),qB⟩
  replace H:=jE H;rcases H with ⟨aZ,bg,H⟩ | ⟨c12,aZ,bg,H⟩
  ·replace H:=jJ H;obtain⟨bL,bM,H⟩:=H
   obtain⟨aA,ay⟩:∃ j_:Int,(shl .u16 1 af)=j_:=⟨_,rfl⟩
   replace H:(if 0<=ah then (some (Go.bits .or .u16 (aA) (shl .u16 1 ah))) else (none))=some r:=by first|(rw [ay] at H;exact H)|(simp only [ay] at H ⊢;exact H)
   have aQ:(IntKind.u16.wrap (1*2 ^ min af.toNat 16))=aA:=ay
   have aT:af<=16->(IntKind.u16.wrap (1*2 ^ af.toNat))=aA:=shl_small ay
   have bC:(IntKind.u16.wrap (2 ^ min af.toNat 16))=aA:=by have h_:=aQ;rw [Int.one_mul] at h_;exact h_
   have bD:af<=16->(IntKind.u16.wrap (2 ^ af.toNat))=aA:=fun hle_=>by have h_:=aT hle_;rw [Int.one_mul] at h_;exact h_
   replace H:=jJ H;obtain⟨bN,bO,H⟩:=H
   obtain⟨aI,az⟩:∃ j_:Int,(shl .u16 1 ah)=j_:=⟨_,rfl⟩
   replace H:(some (Go.bits .or .u16 (aA) (aI)))=some r:=by first|(rw [az] at H;exact H)|(simp only [az] at H ⊢;exact H)
   have aU:(IntKind.u16.wrap (1*2 ^ min ah.toNat 16))=aI:=az
   have aV:ah<=16->(IntKind.u16.wrap (1*2 ^ ah.toNat))=aI:=shl_small az
   have bE:(IntKind.u16.wrap (2 ^ min ah.toNat 16))=aI:=by have h_:=aU;rw [Int.one_mul] at h_;exact h_
   have bF:ah<=16->(IntKind.u16.wrap (2 ^ ah.toNat))=aI:=fun hle_=>by have h_:=aV hle_;rw [Int.one_mul] at h_;exact h_
   obtain rfl:=oJ H
   have df:=jz5 aa
   go_wp2
   repeat (go_quiet (fail);try go_wp2)
   go_ret
   exact⟨by first|rfl|(simp [errW_none,errW_some] <;> rfl)|(simp only [<- ay,<- az];first|rfl|(simp [errW_none,errW_some] <;> rfl))|(simp [*,errW_none,errW_some] <;> rfl),qB⟩
  obtain rfl:=oJ H
  go_wp2
  repeat (go_quiet (fail);try go_wp2)
  go_ret
  exact⟨qW,qB⟩
mutual
def Sa6.l0:Nat->List (S27)->List Int->Bool->Option (List Int)
 | 0,_,_,_=>none
 | k+1,x0,x3,x4=>if x4=true then (Sa6.l1 k x0 x3 false (wrap64 ((x0.length:Int) - 1))) else (some x3)
def Sa6.l1:Nat->List (S27)->List Int->Bool->Int->Option (List Int)
 | 0,_,_,_,_=>none
 | k+1,x0,x3,x4,x5=>if x5>=0 then ((Sa7.f k x0 x3 x5).bind fun au=>(if 0<=x5 then (if x5 < (x0.length:Int) then ((Sab.f ((rd_T27 x0 x5).f0) ((rd_T27 x0 x5).f1) ((rd_T27 x0 x5).f2) ((rd_T27 x0 x5).f3) ((rd_T27 x0 x5).f4)).bind fun az=>(if az>=0 then (if 0<=az then ((Sac.f k ((rd_T27 x0 x5).f0) ((rd_T27 x0 x5).f1) ((rd_T27 x0 x5).f2) ((rd_T27 x0 x5).f3) ((rd_T27 x0 x5).f4)).bind fun aU=>(if x5 < (x3.length:Int) then (if (Go.bits .or .u16 (Go.bits .andNot .u16 au (shl .u16 1 az)) aU)=(rd x3 x5) then (Sa6.l1 k x0 x3 x4 (wrap64 (x5 - 1))) else (Sa6.l1 k x0 (x3.set (x5:Int).toNat (Go.bits .or .u16 (Go.bits .andNot .u16 au (shl .u16 1 az)) aU)) true (wrap64 (x5 - 1)))) else (none))) else (none)) else ((Sac.f k ((rd_T27 x0 x5).f0) ((rd_T27 x0 x5).f1) ((rd_T27 x0 x5).f2) ((rd_T27 x0 x5).f3) ((rd_T27 x0 x5).f4)).bind fun bB=>(if x5 < (x3.length:Int) then (if (Go.bits .or .u16 au bB)=(rd x3 x5) then (Sa6.l1 k x0 x3 x4 (wrap64 (x5 - 1))) else (Sa6.l1 k x0 (x3.set (x5:Int).toNat (Go.bits .or .u16 au bB)) true (wrap64 (x5 - 1)))) else (none))))) else (none)) else (none))) else (Sa6.l0 k x0 x3 x4)
end
def Sa6.f (k:Nat) (l0:List (S27)):Option (List Int):=if 0<=(l0.length:Int) then (if ((l0.length:Int):Int).toNat<=140737488355328 then (Sa6.l0 k l0 (List.replicate ((l0.length:Int):Int).toNat 0) true) else (none)) else (none)
theorem Sa6.calls (k:Nat) (A0:Option Addr) (c0:Nat) (l0:List (S27)) (r:List Int) (w:World) (hr0:Kd.C k27 w A0 l0.length l0) (hc0:l0.length<=c0) (h:Sa6.f k l0=some r) :
  Calls prog 41 #[.slice A0 l0.length c0] w fun e w'=>∃ fo:Value,e = .returned (fo)/\Kd.R (Kd.int .u16) 60 w' w.heap.size (fun _=>True) fo r/\Below w.heap.size w w':=by
 have fH:=underlying27
 have bN:=aM hr0
 have dP:=aM hc0
 clear hr0 hc0
 have HB:=aM (Below.refl w.heap.size w)
 have H:=h;unfold Sa6.f at H
 clear h
 replace H:=jJ H;obtain⟨dz,dA,H⟩:=H
 replace H:=jJ H;obtain⟨dB,dC,H⟩:=H
 obtain⟨y1221,bD⟩:=ky ((List.replicate ((l0.length:Int):Int).toNat 0):List Int)
 first|replace H:=kz bD H|rw [<- bD.out] at H
 have H':=aM H
 clear H
 go_enter func41,ntmps41
 go_wp2_with (first|((with_reducible refine jd 10 rfl ?_);refine Kd.R_make (Kd.int .u16) _ 60 rfl (N:=10) rfl 57 _ _ rfl (l0.length:Int) rfl rfl underlying57 (.int .u16 0) 2 info60 rfl (by decide) (by omega) 0 (ok:=fun _=>True) (okp:=fun _=>True) rfl (fun _ hk=>hk) trivial (qD) (Nat.le_trans (Nat.mul_le_mul_right _ (qD:(l0.length:Int).toNat<=140737488355328)) (by omega)) (Below.refl _ _) (Nat.le_refl _) ?_;intro bX w4 dD hb hg_ hnew_;clear hg_ hnew_;(first|rw [<- bD.out] at dD|(simp only [Int.reduceToNat] at dD;rw [<- bD.out] at dD));have bY:=kL dD;replace HB:=kH hb;clear hb dD))
 go_loopg [4] k (fun kq v4 w'=>∃ (bW:List Int) (bZ:Bool),v4 = .bool bZ/\Aside0 (Sa6.l0 kq l0 bW bZ=some r)/\Aside0 (kq<=k)/\Aside0 (Kd.R (Kd.int .u16) 60 w' w.heap.size (fun _=>True) bX bW)/\Aside0 (Below w.heap.size w w'))
 case atStart=>exact⟨(y1221),(true),qZ,H',⟨Nat.le_refl _⟩,⟨qR bY⟩,⟨qB⟩⟩
 clear H'
 try clear dz;try clear dA;try clear dB;try clear dC
 obtain⟨bW,bZ,rfl,HA,bU,ae,HB⟩:=hrel
 rcases gk with _|k1
 ·exact absurd HA.out (by simp [Sa6.l0])
 have H:=HA.out
 clear HA
 simp only [Sa6.l0] at H
 replace H:=jB H;rcases H with ⟨rfl,H⟩ | ⟨rfl,H⟩
 ·have H':=aM H
  clear H
  go_wp2
  go_loopg [4,5] k1 (fun kq v4 v5 w'=>∃ (av:List Int) (bO:Bool) (aa:Int),v4 = .bool bO/\v5 = iV aa/\Aside0 (Sa6.l1 kq l0 av bO aa=some r)/\Aside0 (kq<=k1)/\Aside0 (Kd.R (Kd.int .u16) 60 w' w.heap.size (fun _=>True) bX av)/\Aside0 (Below w.heap.size w w'))
  case atStart=>exact⟨(bW),(false),(wrap64 ((l0.length:Int) - 1)),qZ,qZ,H',⟨Nat.le_refl _⟩,⟨qR ae⟩,⟨qB⟩⟩
  clear H'
  try clear dz;try clear dA;try clear dB;try clear dC
  obtain⟨av,bO,aa,rfl,rfl,HA,bV,ae,HB⟩:=hrel
  rcases gk with _|k2
  ·exact absurd HA.out (by simp [Sa6.l1])
  have H:=HA.out
  clear HA
  simp only [Sa6.l1] at H
  replace H:=jD H;rcases H with ⟨dQ,H⟩ | ⟨dQ,H⟩
  ·obtain⟨au,A8,H⟩:=qE H
   try dsimp only at H
   replace H:=jI H;obtain⟨fI,H⟩:=H
   replace H:=jI H;obtain⟨fq,H⟩:=H
   obtain⟨az,fJ,H⟩:=qE H
   try dsimp only at H
   replace H:=jD H;rcases H with ⟨dE,H⟩ | ⟨dE,H⟩
   ·replace H:=jJ H;obtain⟨fu,fw,H⟩:=H
    obtain⟨bE,bC⟩:∃ j_:Int,(shl .u16 1 az)=j_:=⟨_,rfl⟩
    replace H:((Sac.f k2 ((rd_T27 l0 aa).f0) ((rd_T27 l0 aa).f1) ((rd_T27 l0 aa).f2) ((rd_T27 l0 aa).f3) ((rd_T27 l0 aa).f4)).bind fun aU=>(if aa < (av.length:Int) then (if (Go.bits .or .u16 (Go.bits .andNot .u16 au (bE)) aU)=(rd av aa) then (Sa6.l1 k2 l0 av bO (wrap64 (aa - 1))) else (Sa6.l1 k2 l0 (av.set (aa:Int).toNat (Go.bits .or .u16 (Go.bits .andNot .u16 au (bE)) aU)) true (wrap64 (aa - 1)))) else (none)))=some r:=by first|(rw [bC] at H;exact H)|(simp only [bC] at H ⊢;exact H)
    (try rw [bC] at A8)
    (try rw [bC] at fJ)
    have cz:(IntKind.u16.wrap (1*2 ^ min az.toNat 16))=bE:=bC
    have cB:az<=16->(IntKind.u16.wrap (1*2 ^ az.toNat))=bE:=shl_small bC
    have dR:(IntKind.u16.wrap (2 ^ min az.toNat 16))=bE:=by have h_:=cz;rw [Int.one_mul] at h_;exact h_
    have dS:az<=16->(IntKind.u16.wrap (2 ^ az.toNat))=bE:=fun hle_=>by have h_:=cB hle_;rw [Int.one_mul] at h_;exact h_
    obtain⟨aU,fQ,H⟩:=qE H
    try dsimp only at H
    replace H:=jI H;obtain⟨fA,H⟩:=H
    replace H:=jE H;rcases H with ⟨dF,dG,H⟩ | ⟨c17,dF,dG,H⟩
    ·have H':=aM H
     clear H
     obtain⟨dU,dV,dW⟩:=Kd.R_slice ae.out
     subst dW
     go_wp2_with (first|((with_reducible refine jc 44 22 rfl rfl ?_);refine jG func44 #[.slice A0 l0.length c0,.slice dU av.length dV,iV aa] ?_;refine (Sa7.calls k2 _ _ l0 _ _ av aa au _ ?aV ?aW ?aX ?aY A8.out).mono ?_;(case aV=>exact kC (Kd.C_below bN.out HB.out));(case aW=>exact dP.out);(case aX=>exact kC (Kd.R_reads' ae.out).2.2);(case aY=>exact (Kd.R_reads' ae.out).2.1);rintro e cK ⟨rfl,hb⟩;refine⟨_,rfl,?_⟩;replace ae:=kR ae hb;replace HB:=kH hb;clear hb;have ax:0<=(aa:Int):=qD;have ay:aa < (l0.length:Int):=qD;obtain⟨aT,aZ,af,ag,ah,ai,aj⟩:=at_T27 bN.out aa ax ay;cases aZ;replace af:=kx HB af;replace ag:=kx HB ag;replace ah:=kx HB ah;replace ai:=kx HB ai;replace aj:=kx HB aj;replace ax:=eq_true ax;replace ay:=eq_true ay)|((with_reducible refine jc 50 27 rfl rfl ?_);refine jG func50 #[.agg #[iV ((rd_T27 l0 aa).f0),iV ((rd_T27 l0 aa).f1),iV ((rd_T27 l0 aa).f2),iV ((rd_T27 l0 aa).f3),iV ((rd_T27 l0 aa).f4)]] ?_;refine (Sab.calls _ _ _ _ _ _ _ (Aside0.out (by assumption))).mono ?_;rintro e cO ⟨rfl,hb⟩;refine⟨_,rfl,?_⟩;replace ae:=kR ae hb;replace HB:=kH hb;clear hb;have bg:0<=(aa:Int):=qD;have bi:aa < (l0.length:Int):=qD;obtain⟨bH,bP,aA,aC,aD,aG,aH⟩:=at_T27 bN.out aa bg bi;obtain rfl:aT=bH:=(by injection bP);replace aA:=kx HB aA;replace aC:=kx HB aC;replace aD:=kx HB aD;replace aG:=kx HB aG;replace aH:=kx HB aH;replace bg:=eq_true bg;replace bi:=eq_true bi)|((with_reducible refine jc 48 39 rfl rfl ?_);refine jG func48 #[.agg #[iV ((rd_T27 l0 aa).f0),iV ((rd_T27 l0 aa).f1),iV ((rd_T27 l0 aa).f2),iV ((rd_T27 l0 aa).f3),iV ((rd_T27 l0 aa).f4)]] ?_;refine (Sac.calls _ _ _ _ _ _ _ _ (Aside0.out (by assumption))).mono ?_;rintro e bI ⟨rfl,hb⟩;refine⟨_,rfl,?_⟩;replace ae:=kR ae hb;replace HB:=kH hb;clear hb;have bn:0<=(aa:Int):=qD;have bq:aa < (av.length:Int):=qD;obtain⟨df,bQ,bF⟩:=Kd.at_int (Kd.R_reads' ae.out).2.2 aa bn bq;cases bQ;replace bn:=eq_true bn;replace bq:=eq_true bq))
     go_roundg k2
     case measure=>have:=bU.out;have:=bV.out;omega
     exact⟨_,_,_,qZ,qZ,H',⟨by have:=bU.out;have:=bV.out;omega⟩,⟨qR ae⟩,⟨qB⟩⟩
    obtain⟨y1230,bJ⟩:=ky ((av.set (aa:Int).toNat (Go.bits .or .u16 (Go.bits .andNot .u16 au (bE)) aU)):List Int)
    first|replace H:=kz bJ H|rw [<- bJ.out] at H
    have H':=aM H
    clear H
    obtain⟨dX,dH,dY⟩:=Kd.R_slice ae.out
    subst dY
    go_wp2_with (first|((with_reducible refine jc 44 22 rfl rfl ?_);refine jG func44 #[.slice A0 l0.length c0,.slice dX av.length dH,iV aa] ?_;refine (Sa7.calls k2 _ _ l0 _ _ av aa au _ ?aV ?aW ?aX ?aY A8.out).mono ?_;(case aV=>exact kC (Kd.C_below bN.out HB.out));(case aW=>exact dP.out);(case aX=>exact kC (Kd.R_reads' ae.out).2.2);(case aY=>exact (Kd.R_reads' ae.out).2.1);rintro e cK ⟨rfl,hb⟩;refine⟨_,rfl,?_⟩;replace ae:=kR ae hb;replace HB:=kH hb;clear hb;have ax:0<=(aa:Int):=qD;have ay:aa < (l0.length:Int):=qD;obtain⟨aT,aZ,af,ag,ah,ai,aj⟩:=at_T27 bN.out aa ax ay;cases aZ;replace af:=kx HB af;replace ag:=kx HB ag;replace ah:=kx HB ah;replace ai:=kx HB ai;replace aj:=kx HB aj;replace ax:=eq_true ax;replace ay:=eq_true ay)|((with_reducible refine jc 50 27 rfl rfl ?_);refine jG func50 #[.agg #[iV ((rd_T27 l0 aa).f0),iV ((rd_T27 l0 aa).f1),iV ((rd_T27 l0 aa).f2),iV ((rd_T27 l0 aa).f3),iV ((rd_T27 l0 aa).f4)]] ?_;refine (Sab.calls _ _ _ _ _ _ _ (Aside0.out (by assumption))).mono ?_;rintro e cO ⟨rfl,hb⟩;refine⟨_,rfl,?_⟩;replace ae:=kR ae hb;replace HB:=kH hb;clear hb;have bg:0<=(aa:Int):=qD;have bi:aa < (l0.length:Int):=qD;obtain⟨bH,bP,aA,aC,aD,aG,aH⟩:=at_T27 bN.out aa bg bi;obtain rfl:aT=bH:=(by injection bP);replace aA:=kx HB aA;replace aC:=kx HB aC;replace aD:=kx HB aD;replace aG:=kx HB aG;replace aH:=kx HB aH;replace bg:=eq_true bg;replace bi:=eq_true bi)|((with_reducible refine jc 48 39 rfl rfl ?_);refine jG func48 #[.agg #[iV ((rd_T27 l0 aa).f0),iV ((rd_T27 l0 aa).f1),iV ((rd_T27 l0 aa).f2),iV ((rd_T27 l0 aa).f3),iV ((rd_T27 l0 aa).f4)]] ?_;refine (Sac.calls _ _ _ _ _ _ _ _ (Aside0.out (by assumption))).mono ?_;rintro e bI ⟨rfl,hb⟩;refine⟨_,rfl,?_⟩;replace ae:=kR ae hb;replace HB:=kH hb;clear hb;have bn:0<=(aa:Int):=qD;have bq:aa < (av.length:Int):=qD;obtain⟨df,bQ,bF⟩:=Kd.at_int (Kd.R_reads' ae.out).2.2 aa bn bq;cases bQ;replace bn:=eq_true bn;replace bq:=eq_true bq;have dZ:0<=(aa:Int):=qD;have q22:(aa:Int) < ((av.length:Int):Int):=qD;obtain⟨dh,d9,bR,dI,ek,fK,dJ⟩:=Kd.R_form ae.out (by omega);(first|cases bR|(injection bR with ea_ en_ ec_;(first|subst ea_|(injection ea_ with ea_;subst ea_));subst ec_;clear en_));have eu:=aM dI;have fM:=aM dJ;clear dI ek dJ;(first|simp only [add_plain] at bF|skip);obtain⟨eB,eD⟩:=Kd.R_celln 0 ae.out (aa:Int) dZ q22;replace dZ:=eq_true dZ;replace q22:=eq_true q22;obtain⟨fB,fC⟩:=Kd.R_celln 0 ae.out (aa:Int) (qD) (qD);have di:=Kd.R_putg ae.out (aa:Int) (Go.bits .or .u16 (Go.bits .andNot .u16 au (bE)) aU))|((with_reducible refine gate_store (t:=60) (p:=50) rfl ?_);refine store_event (t:=60) (p:=50) (v:=?eF) (w1:=(bI.setCell ⟨dh,(aa:Int).toNat,none⟩ (.int .u16 (Go.bits .or .u16 (Go.bits .andNot .u16 au (bE)) aU)))) ?hg ?ho ?hn ?hr ?_;(case ho=>rfl);(case hg=>rfl);(case hn=>rfl);(case hr=>first|(go_simp;done)|(go_simp;rfl));intro bK hw;have hg:bI.grownBy bK (some dh):=(by rw [hw];exact di.2);have hp_:Kd.R (Kd.int .u16) 60 bK w.heap.size (fun _=>True) (.slice (some ⟨dh,0,none⟩) av.length dH) y1230:=(by rw [hw,bJ.out];exact di.1);clear di;replace ae:=aM hp_;replace HB:=aM ((by rw [hw];exact below_set (HB.out) eu.out:Below w.heap.size w bK));clear hg hw hp_))
    go_roundg k2
    case measure=>have:=bU.out;have:=bV.out;omega
    exact⟨_,_,_,qZ,qZ,H',⟨by have:=bU.out;have:=bV.out;omega⟩,⟨qR ae⟩,⟨qB⟩⟩
   obtain⟨bB,fT,H⟩:=qE H
   try dsimp only at H
   replace H:=jI H;obtain⟨fD,H⟩:=H
   replace H:=jE H;rcases H with ⟨dK,dL,H⟩ | ⟨c31,dK,dL,H⟩
   ·have H':=aM H
    clear H
    obtain⟨eG,eH,eO⟩:=Kd.R_slice ae.out
    subst eO
    go_wp2_with (first|((with_reducible refine jc 44 22 rfl rfl ?_);refine jG func44 #[.slice A0 l0.length c0,.slice eG av.length eH,iV aa] ?_;refine (Sa7.calls k2 _ _ l0 _ _ av aa au _ ?aV ?aW ?aX ?aY A8.out).mono ?_;(case aV=>exact kC (Kd.C_below bN.out HB.out));(case aW=>exact dP.out);(case aX=>exact kC (Kd.R_reads' ae.out).2.2);(case aY=>exact (Kd.R_reads' ae.out).2.1);rintro e cK ⟨rfl,hb⟩;refine⟨_,rfl,?_⟩;replace ae:=kR ae hb;replace HB:=kH hb;clear hb;have ax:0<=(aa:Int):=qD;have ay:aa < (l0.length:Int):=qD;obtain⟨aT,aZ,af,ag,ah,ai,aj⟩:=at_T27 bN.out aa ax ay;cases aZ;replace af:=kx HB af;replace ag:=kx HB ag;replace ah:=kx HB ah;replace ai:=kx HB ai;replace aj:=kx HB aj;replace ax:=eq_true ax;replace ay:=eq_true ay)|((with_reducible refine jc 50 27 rfl rfl ?_);refine jG func50 #[.agg #[iV ((rd_T27 l0 aa).f0),iV ((rd_T27 l0 aa).f1),iV ((rd_T27 l0 aa).f2),iV ((rd_T27 l0 aa).f3),iV ((rd_T27 l0 aa).f4)]] ?_;refine (Sab.calls _ _ _ _ _ _ _ (Aside0.out (by assumption))).mono ?_;rintro e cO ⟨rfl,hb⟩;refine⟨_,rfl,?_⟩;replace ae:=kR ae hb;replace HB:=kH hb;clear hb;have bu:0<=(aa:Int):=qD;have bv:aa < (l0.length:Int):=qD;obtain⟨bL,bS,aI,aJ,aK,aN,aQ⟩:=at_T27 bN.out aa bu bv;obtain rfl:aT=bL:=(by injection bS);replace aI:=kx HB aI;replace aJ:=kx HB aJ;replace aK:=kx HB aK;replace aN:=kx HB aN;replace aQ:=kx HB aQ;replace bu:=eq_true bu;replace bv:=eq_true bv)|((with_reducible refine jc 48 39 rfl rfl ?_);refine jG func48 #[.agg #[iV ((rd_T27 l0 aa).f0),iV ((rd_T27 l0 aa).f1),iV ((rd_T27 l0 aa).f2),iV ((rd_T27 l0 aa).f3),iV ((rd_T27 l0 aa).f4)]] ?_;refine (Sac.calls _ _ _ _ _ _ _ _ (Aside0.out (by assumption))).mono ?_;rintro e bI ⟨rfl,hb⟩;refine⟨_,rfl,?_⟩;replace ae:=kR ae hb;replace HB:=kH hb;clear hb;have bz:0<=(aa:Int):=qD;have bA:aa < (av.length:Int):=qD;obtain⟨dn,bT,bG⟩:=Kd.at_int (Kd.R_reads' ae.out).2.2 aa bz bA;cases bT;replace bz:=eq_true bz;replace bA:=eq_true bA))
    go_roundg k2
    case measure=>have:=bU.out;have:=bV.out;omega
    exact⟨_,_,_,qZ,qZ,H',⟨by have:=bU.out;have:=bV.out;omega⟩,⟨qR ae⟩,⟨qB⟩⟩
   obtain⟨y1234,bM⟩:=ky ((av.set (aa:Int).toNat (Go.bits .or .u16 au bB)):List Int)
   first|replace H:=kz bM H|rw [<- bM.out] at H
   have H':=aM H
   clear H
   obtain⟨eP,dM,eQ⟩:=Kd.R_slice ae.out
   subst eQ
   go_wp2_with (first|((with_reducible refine jc 44 22 rfl rfl ?_);refine jG func44 #[.slice A0 l0.length c0,.slice eP av.length dM,iV aa] ?_;refine (Sa7.calls k2 _ _ l0 _ _ av aa au _ ?aV ?aW ?aX ?aY A8.out).mono ?_;(case aV=>exact kC (Kd.C_below bN.out HB.out));(case aW=>exact dP.out);(case aX=>exact kC (Kd.R_reads' ae.out).2.2);(case aY=>exact (Kd.R_reads' ae.out).2.1);rintro e cK ⟨rfl,hb⟩;refine⟨_,rfl,?_⟩;replace ae:=kR ae hb;replace HB:=kH hb;clear hb;have ax:0<=(aa:Int):=qD;have ay:aa < (l0.length:Int):=qD;obtain⟨aT,aZ,af,ag,ah,ai,aj⟩:=at_T27 bN.out aa ax ay;cases aZ;replace af:=kx HB af;replace ag:=kx HB ag;replace ah:=kx HB ah;replace ai:=kx HB ai;replace aj:=kx HB aj;replace ax:=eq_true ax;replace ay:=eq_true ay)|((with_reducible refine jc 50 27 rfl rfl ?_);refine jG func50 #[.agg #[iV ((rd_T27 l0 aa).f0),iV ((rd_T27 l0 aa).f1),iV ((rd_T27 l0 aa).f2),iV ((rd_T27 l0 aa).f3),iV ((rd_T27 l0 aa).f4)]] ?_;refine (Sab.calls _ _ _ _ _ _ _ (Aside0.out (by assumption))).mono ?_;rintro e cO ⟨rfl,hb⟩;refine⟨_,rfl,?_⟩;replace ae:=kR ae hb;replace HB:=kH hb;clear hb;have bu:0<=(aa:Int):=qD;have bv:aa < (l0.length:Int):=qD;obtain⟨bL,bS,aI,aJ,aK,aN,aQ⟩:=at_T27 bN.out aa bu bv;obtain rfl:aT=bL:=(by injection bS);replace aI:=kx HB aI;replace aJ:=kx HB aJ;replace aK:=kx HB aK;replace aN:=kx HB aN;replace aQ:=kx HB aQ;replace bu:=eq_true bu;replace bv:=eq_true bv)|((with_reducible refine jc 48 39 rfl rfl ?_);refine jG func48 #[.agg #[iV ((rd_T27 l0 aa).f0),iV ((rd_T27 l0 aa).f1),iV ((rd_T27 l0 aa).f2),iV ((rd_T27 l0 aa).f3),iV ((rd_T27 l0 aa).f4)]] ?_;refine (Sac.calls _ _ _ _ _ _ _ _ (Aside0.out (by assumption))).mono ?_;rintro e bI ⟨rfl,hb⟩;refine⟨_,rfl,?_⟩;replace ae:=kR ae hb;replace HB:=kH hb;clear hb;have bz:0<=(aa:Int):=qD;have bA:aa < (av.length:Int):=qD;obtain⟨dn,bT,bG⟩:=Kd.at_int (Kd.R_reads' ae.out).2.2 aa bz bA;cases bT;replace bz:=eq_true bz;replace bA:=eq_true bA;have p36:0<=(aa:Int):=qD;have eT:(aa:Int) < ((av.length:Int):Int):=qD;obtain⟨dw,d9,bR,dN,eU,fO,dO⟩:=Kd.R_form ae.out (by omega);(first|cases bR|(injection bR with ea_ en_ ec_;(first|subst ea_|(injection ea_ with ea_;subst ea_));subst ec_;clear en_));have eX:=aM dN;have fP:=aM dO;clear dN eU dO;(first|simp only [add_plain] at bG|skip);obtain⟨eY,eZ⟩:=Kd.R_celln 0 ae.out (aa:Int) p36 eT;replace p36:=eq_true p36;replace eT:=eq_true eT;obtain⟨fE,fF⟩:=Kd.R_celln 0 ae.out (aa:Int) (qD) (qD);have dx:=Kd.R_putg ae.out (aa:Int) (Go.bits .or .u16 au bB))|((with_reducible refine gate_store (t:=60) (p:=50) rfl ?_);refine store_event (t:=60) (p:=50) (v:=?fe) (w1:=(bI.setCell ⟨dw,(aa:Int).toNat,none⟩ (.int .u16 (Go.bits .or .u16 au bB)))) ?hg ?ho ?hn ?hr ?_;(case ho=>rfl);(case hg=>rfl);(case hn=>rfl);(case hr=>first|(go_simp;done)|(go_simp;rfl));intro bK hw;have hg:bI.grownBy bK (some dw):=(by rw [hw];exact dx.2);have hp_:Kd.R (Kd.int .u16) 60 bK w.heap.size (fun _=>True) (.slice (some ⟨dw,0,none⟩) av.length dM) y1234:=(by rw [hw,bM.out];exact dx.1);clear dx;replace ae:=aM hp_;replace HB:=aM ((by rw [hw];exact below_set (HB.out) eX.out:Below w.heap.size w bK));clear hg hw hp_))
   go_roundg k2
   case measure=>have:=bU.out;have:=bV.out;omega
   exact⟨_,_,_,qZ,qZ,H',⟨by have:=bU.out;have:=bV.out;omega⟩,⟨qR ae⟩,⟨qB⟩⟩
  have H':=aM H
  clear H
  go_wp2
  go_roundg k2
  case measure=>have:=bU.out;have:=bV.out;omega
  exact⟨(av),(bO),qZ,H',⟨by have:=bU.out;have:=bV.out;omega⟩,⟨qR ae⟩,⟨qB⟩⟩
 obtain rfl:=oJ H
 go_wp2
 go_ret
 exact⟨_,qW,qR ae,qB⟩
def Sa9.f (a0 a1:Int):Option (Bool):=if 0<=a1 then (some ((Go.bits .and .u16 (shr .u16 a0 a1) 1) == 1)) else (none)
theorem Sa9.calls (a0 a1:Int) (r:Bool) (w:World) (h:Sa9.f a0 a1=some r) :
  Calls prog 53 #[.int .u16 a0,iV a1] w fun e w'=>e = .returned (.bool r)/\Drawn0 w w':=by
 have H:=h;unfold Sa9.f at H
 clear h
 replace H:=jJ H;obtain⟨ah,ai,H⟩:=H
 obtain⟨ae,aa⟩:∃ j_:Int,(shr .u16 a0 a1)=j_:=⟨_,rfl⟩
 replace H:(some ((Go.bits .and .u16 (ae) 1) == 1))=some r:=by first|(rw [aa] at H;exact H)|(simp only [aa] at H ⊢;exact H)
 have af:(a0 / 2 ^ min a1.toNat 16)=ae:=aa
 have ag:a1<=16->(a0 / 2 ^ a1.toNat)=ae:=shr_small aa
 obtain rfl:=oJ H
 go_enter func53,ntmps53
 go_wp2
 go_ret
 exact⟨by first|rfl|(simp;done)|(simp only [<- aa] <;> (first|rfl|simp))|(simp [*];done),by repeat (first|exact Drawn0.refl _|apply Drawn0.step)⟩
def Sa5.l0:Nat->List (S27)->List Int->List Int->List (S27)->Int->Int->Option (List Int)
 | 0,_,_,_,_,_,_=>none
 | k+1,x0,x3,x4,aN,bn,aH=>if aH < bn then (if 0<=aH then (if aH < (aN.length:Int) then ((Sab.f ((rd_T27 aN aH).f0) ((rd_T27 aN aH).f1) ((rd_T27 aN aH).f2) ((rd_T27 aN aH).f3) ((rd_T27 aN aH).f4)).bind fun aQ=>(if aQ>=0 then (if ((rd_T27 aN aH).f0)=7 then (Sa5.l0 k x0 x3 x4 aN bn (wrap64 (aH+1))) else ((Sa7.f k x0 x4 aH).bind fun aK=>((Sa9.f aK aQ).bind fun aW=>(if aW=true then (Sa5.l0 k x0 x3 x4 aN bn (wrap64 (aH+1))) else (if x3.length < 17592186044416 then (Sa5.l0 k x0 (x3 ++ [aH]) x4 aN bn (wrap64 (aH+1))) else (none)))))) else (Sa5.l0 k x0 x3 x4 aN bn (wrap64 (aH+1))))) else (none)) else (none)) else (some x3)
def Sa5.f (k:Nat) (l0:List (S27)):Option (List Int):=(Sa6.f k l0).bind fun aA=>(Sa5.l0 k l0 ([]:List Int) aA l0 (l0.length:Int) 0)
theorem Sa5_0 {G:Prop} (h:G:=by
  go_wp2_with (first|((with_reducible refine jd 6 rfl ?_);refine jX _ 27 ?_;intro ae hg bz hbox hb;have af:=aM hbox;have aX:=kG hg;replace az:=kR az hb;replace ay:=kR ay hb;replace HB:=kH hb;clear hb hbox hg;have bA:=jz5 af)|((with_reducible refine jc 50 18 rfl rfl ?_);refine jG func50 #[.agg #[iV ((rd_T27 l0 aa).f0),iV ((rd_T27 l0 aa).f1),iV ((rd_T27 l0 aa).f2),iV ((rd_T27 l0 aa).f3),iV ((rd_T27 l0 aa).f4)]] ?_;refine (Sab.calls _ _ _ _ _ _ _ (Aside0.out (by assumption))).mono ?_;rintro e bB ⟨rfl,hb⟩;refine⟨_,rfl,?_⟩;replace az:=aM (Kd.R_below (by (with_reducible repeat (first|apply Kd.R_alloc|apply Kd.R_drewN|apply Kd.R_drew));exact (Kd.R_mono (Kd.R_far (p:=⟨ae,4,none⟩) (Kd.R_far (p:=⟨ae,3,none⟩) (Kd.R_far (p:=⟨ae,2,none⟩) (Kd.R_far (p:=⟨ae,1,none⟩) (Kd.R_far (p:=⟨ae,0,none⟩) (Kd.R_types az.out af.out (by decide)) (fun _ hk=>hk.2) (iV ((rd_T27 l0 aa).f0))) (fun _ hk=>hk.2) (iV ((rd_T27 l0 aa).f1))) (fun _ hk=>hk.2) (iV ((rd_T27 l0 aa).f2))) (fun _ hk=>hk.2) (iV ((rd_T27 l0 aa).f3))) (fun _ hk=>hk.2) (iV ((rd_T27 l0 aa).f4))) (fun _ h_=>h_.1))) hb);replace ay:=aM (Kd.R_below (by (with_reducible repeat (first|apply Kd.R_alloc|apply Kd.R_drewN|apply Kd.R_drew));exact (Kd.R_mono (Kd.R_far (p:=⟨ae,4,none⟩) (Kd.R_far (p:=⟨ae,3,none⟩) (Kd.R_far (p:=⟨ae,2,none⟩) (Kd.R_far (p:=⟨ae,1,none⟩) (Kd.R_far (p:=⟨ae,0,none⟩) (Kd.R_types ay.out af.out (by decide)) (fun _ hk=>hk.2) (iV ((rd_T27 l0 aa).f0))) (fun _ hk=>hk.2) (iV ((rd_T27 l0 aa).f1))) (fun _ hk=>hk.2) (iV ((rd_T27 l0 aa).f2))) (fun _ hk=>hk.2) (iV ((rd_T27 l0 aa).f3))) (fun _ hk=>hk.2) (iV ((rd_T27 l0 aa).f4))) (fun _ h_=>h_.1))) hb);replace af:=aM (blk_below (g:=ae) (o:=.cells #[iV ((rd_T27 l0 aa).f0),iV ((rd_T27 l0 aa).f1),iV ((rd_T27 l0 aa).f2),iV ((rd_T27 l0 aa).f3),iV ((rd_T27 l0 aa).f4)] 27 (0,0)) (qF af) hb);replace HB:=kH hb;clear hb;(try clear hk);have bC:=jz5 af;obtain⟨bD,bE,aY⟩:=Kd.R_slice ay.out;subst aY)|(go_at_call 44;(with_reducible refine (Sa7.calls k1 _ _ l0 _ _ aA aa aK _ ?aD ?aG ?aT ?aU bL.out).mono ?_);(case aD=>exact kC (Kd.C_below aZ.out HB.out));(case aG=>exact bF.out);(case aT=>exact kC (Kd.R_reads' ay.out).2.2);(case aU=>exact (Kd.R_reads' ay.out).2.1);rintro e bG ⟨rfl,hb⟩;replace az:=kR az hb;replace ay:=kR ay hb;replace af:=kB af hb;replace HB:=kH hb;clear hb)|(go_at_call 53;(with_reducible refine (Sa9.calls _ _ _ _ (Aside0.out (by assumption))).mono ?_);rintro e w' ⟨rfl,⟨nd,rfl⟩⟩))
  go_roundg k1
  case measure=>have:=bv.out;omega
  exact⟨_,_,qZ,H',⟨by have:=bv.out;omega⟩,⟨qR az⟩,⟨qR ay⟩,⟨qB⟩⟩):G:=h
theorem Sa5.calls (k:Nat) (A0:Option Addr) (c0:Nat) (l0:List (S27)) (r:List Int) (w:World) (hr0:Kd.C k27 w A0 l0.length l0) (hc0:l0.length<=c0) (h:Sa5.f k l0=some r) :
  Calls prog 35 #[.slice A0 l0.length c0] w fun e w'=>∃ bM:Value,e = .returned (bM)/\Kd.R (Kd.int .i64) 3 w' w.heap.size (fun _=>True) bM r/\Below w.heap.size w w':=by
 have bQ:=underlying27
 have aZ:=aM hr0
 have bF:=aM hc0
 clear hr0 hc0
 have HB:=aM (Below.refl w.heap.size w)
 have H:=h;unfold Sa5.f at H
 clear h
 obtain⟨aA,A2,H⟩:=qE H
 try dsimp only at H
 have H':=aM H
 clear H
 go_enter func35,ntmps35
 go_wp2_with (first|((with_reducible refine jc 41 9 rfl rfl ?_);refine jG func41 #[.slice A0 l0.length c0] ?_;refine (Sa6.calls k _ _ l0 aA _ ?aD ?aG A2.out).mono ?_;(case aD=>exact kC aZ.out);(case aG=>exact bF.out);rintro e w3 ⟨bq,rfl,ho0,hb⟩;refine⟨_,rfl,?_⟩;have bg:=kL ho0;replace HB:=kH hb;clear hb;(try clear ho0)))
 go_loopg [3,12] k (fun kq v3 v12 w'=>∃ (aV:List Int) (aa:Int),v12 = iV aa/\Aside0 (Sa5.l0 kq l0 aV aA l0 (l0.length:Int) aa=some r)/\Aside0 (kq<=k)/\Aside0 (Kd.R (Kd.int .i64) 3 w' w.heap.size (fun _=>True) v3 aV)/\Aside0 (Kd.R (Kd.int .u16) 60 w' w.heap.size (fun _=>True) bq aA)/\Aside0 (Below w.heap.size w w'))
 case atStart=>exact⟨(([]:List Int)),(0),qZ,H',⟨Nat.le_refl _⟩,⟨by first|exact Kd.R_nil _ _ _ _ _|exact Kd.N_nil _ _ _ _ _|exact Kd.V_nil _ _ _ _ _|exact Kd.Q_nil _ _ _ _ _|exact Kd.S_nil _ _ _ _ _⟩,⟨qR bg⟩,⟨qB⟩⟩
 clear H'
 obtain⟨aV,aa,rfl,HA,bv,az,ay,HB⟩:=hrel
 rcases gk with _|k1
 ·exact absurd HA.out (by simp [Sa5.l0])
 have H:=HA.out
 clear HA
 simp only [Sa5.l0] at H
 replace H:=jD H;rcases H with ⟨bH,H⟩ | ⟨bH,H⟩
 ·replace H:=jI H;obtain⟨bR,H⟩:=H
  replace H:=jI H;obtain⟨bS,H⟩:=H
  obtain⟨aQ,A7,H⟩:=qE H
  try dsimp only at H
  replace H:=jD H;rcases H with ⟨bI,H⟩ | ⟨bI,H⟩
  ·replace H:=jE H;rcases H with ⟨bJ,bK,H⟩ | ⟨c9,bJ,bK,H⟩
   ·have H':=aM H
    clear H
    have av:0<=(aa:Int):=qD
    have ax:aa < (l0.length:Int):=qD
    obtain⟨aI,aC,ag,ah,ai,aj,au⟩:=at_T27 aZ.out aa av ax
    cases aC
    replace ag:=kx HB ag
    replace ah:=kx HB ah
    replace ai:=kx HB ai
    replace aj:=kx HB aj
    replace au:=kx HB au
    replace av:=eq_true av
    replace ax:=eq_true ax
    exact Sa5_0
   obtain⟨aK,bL,H⟩:=qE H
   try dsimp only at H
   obtain⟨aW,bU,H⟩:=qE H
   try dsimp only at H
   replace H:=jB H;rcases H with ⟨rfl,H⟩ | ⟨rfl,H⟩
   ·have H':=aM H
    clear H
    have av:0<=(aa:Int):=qD
    have ax:aa < (l0.length:Int):=qD
    obtain⟨aI,aC,ag,ah,ai,aj,au⟩:=at_T27 aZ.out aa av ax
    cases aC
    replace ag:=kx HB ag
    replace ah:=kx HB ah
    replace ai:=kx HB ai
    replace aj:=kx HB aj
    replace au:=kx HB au
    replace av:=eq_true av
    replace ax:=eq_true ax
    exact Sa5_0
   replace H:=jL H;obtain⟨bu,H⟩:=H
   obtain⟨bN,aJ⟩:=ky ((aV ++ [aa]):List Int)
   first|replace H:=kz aJ H|rw [<- aJ.out] at H
   have H':=aM H
   clear H
   have av:0<=(aa:Int):=qD
   have ax:aa < (l0.length:Int):=qD
   obtain⟨aI,aC,ag,ah,ai,aj,au⟩:=at_T27 aZ.out aa av ax
   cases aC
   replace ag:=kx HB ag
   replace ah:=kx HB ah
   replace ai:=kx HB ai
   replace aj:=kx HB aj
   replace au:=kx HB au
   replace av:=eq_true av
   replace ax:=eq_true ax
   go_wp2_with (first|((with_reducible refine jd 6 rfl ?_);refine jX _ 27 ?_;intro ae hg bz hbox hb;have af:=aM hbox;have aX:=kG hg;replace az:=kR az hb;replace ay:=kR ay hb;replace HB:=kH hb;clear hb hbox hg;have bA:=jz5 af)|((with_reducible refine jc 50 18 rfl rfl ?_);refine jG func50 #[.agg #[iV ((rd_T27 l0 aa).f0),iV ((rd_T27 l0 aa).f1),iV ((rd_T27 l0 aa).f2),iV ((rd_T27 l0 aa).f3),iV ((rd_T27 l0 aa).f4)]] ?_;refine (Sab.calls _ _ _ _ _ _ _ (Aside0.out (by assumption))).mono ?_;rintro e bB ⟨rfl,hb⟩;refine⟨_,rfl,?_⟩;replace az:=aM (Kd.R_below (by (with_reducible repeat (first|apply Kd.R_alloc|apply Kd.R_drewN|apply Kd.R_drew));exact (Kd.R_mono (Kd.R_far (p:=⟨ae,4,none⟩) (Kd.R_far (p:=⟨ae,3,none⟩) (Kd.R_far (p:=⟨ae,2,none⟩) (Kd.R_far (p:=⟨ae,1,none⟩) (Kd.R_far (p:=⟨ae,0,none⟩) (Kd.R_types az.out af.out (by decide)) (fun _ hk=>hk.2) (iV ((rd_T27 l0 aa).f0))) (fun _ hk=>hk.2) (iV ((rd_T27 l0 aa).f1))) (fun _ hk=>hk.2) (iV ((rd_T27 l0 aa).f2))) (fun _ hk=>hk.2) (iV ((rd_T27 l0 aa).f3))) (fun _ hk=>hk.2) (iV ((rd_T27 l0 aa).f4))) (fun _ h_=>h_.1))) hb);replace ay:=aM (Kd.R_below (by (with_reducible repeat (first|apply Kd.R_alloc|apply Kd.R_drewN|apply Kd.R_drew));exact (Kd.R_mono (Kd.R_far (p:=⟨ae,4,none⟩) (Kd.R_far (p:=⟨ae,3,none⟩) (Kd.R_far (p:=⟨ae,2,none⟩) (Kd.R_far (p:=⟨ae,1,none⟩) (Kd.R_far (p:=⟨ae,0,none⟩) (Kd.R_types ay.out af.out (by decide)) (fun _ hk=>hk.2) (iV ((rd_T27 l0 aa).f0))) (fun _ hk=>hk.2) (iV ((rd_T27 l0 aa).f1))) (fun _ hk=>hk.2) (iV ((rd_T27 l0 aa).f2))) (fun _ hk=>hk.2) (iV ((rd_T27 l0 aa).f3))) (fun _ hk=>hk.2) (iV ((rd_T27 l0 aa).f4))) (fun _ h_=>h_.1))) hb);replace af:=aM (blk_below (g:=ae) (o:=.cells #[iV ((rd_T27 l0 aa).f0),iV ((rd_T27 l0 aa).f1),iV ((rd_T27 l0 aa).f2),iV ((rd_T27 l0 aa).f3),iV ((rd_T27 l0 aa).f4)] 27 (0,0)) (qF af) hb);replace HB:=kH hb;clear hb;(try clear hk);have bC:=jz5 af;obtain⟨bD,bE,aY⟩:=Kd.R_slice ay.out;subst aY)|(go_at_call 44;(with_reducible refine (Sa7.calls k1 _ _ l0 _ _ aA aa aK _ ?aD ?aG ?aT ?aU bL.out).mono ?_);(case aD=>exact kC (Kd.C_below aZ.out HB.out));(case aG=>exact bF.out);(case aT=>exact kC (Kd.R_reads' ay.out).2.2);(case aU=>exact (Kd.R_reads' ay.out).2.1);rintro e bG ⟨rfl,hb⟩;replace az:=kR az hb;replace ay:=kR ay hb;replace af:=kB af hb;replace HB:=kH hb;clear hb)|(go_at_call 53;(with_reducible refine (Sa9.calls _ _ _ _ (Aside0.out (by assumption))).mono ?_);rintro e w' ⟨rfl,⟨nd,rfl⟩⟩)|((with_reducible refine gate_builtin (b:=.append) (xs:=#[.tmp 35,.tmp 37]) rfl ?_);at_builtin;refine Kd.R_append (Kd.int .i64) (w0:=w) w.heap.size rfl (.tmp 35) (.tmp 37) 43 3 (iV 0) 8 rfl underlying43 info3 rfl (by decide) (by omega) u3 aV aa [iV aa] (fun _=>True) (fun _=>False) rfl rfl ?aP (fun _ hk=>hk.elim) ?aF ?aO ?aB ?aS ?aL ?_;(case aP=>exact rfl);(case aB=>exact qB);(case aF=>exact (fun _ _=>trivial));(case aO=>exact (qR az));(case aS=>exact (below_size qB));(case aL=>have:=bu.out;omega);intro bO bT ho hb hg hat;rw [<- aJ.out] at ho;have bi:=aM ho;replace ay:=aM (Kd.R_over' (qR ay) (Kd.R_typed (qR az)) (by decide) hg);replace af:=aM (blk_grown (g:=ae) (o:=.cells #[iV ((rd_T27 l0 aa).f0),iV ((rd_T27 l0 aa).f1),iV ((rd_T27 l0 aa).f2),iV ((rd_T27 l0 aa).f3),iV ((rd_T27 l0 aa).f4)] 27 (0,0)) (qK af) hg (Kd.R_ne az.out af.out (by decide)));replace HB:=aM hb;clear az;clear ho hb hg hat))
   go_roundg k1
   case measure=>have:=bv.out;omega
   exact⟨_,_,qZ,H',⟨by have:=bv.out;omega⟩,⟨qR bi⟩,⟨qR ay⟩,⟨qB⟩⟩
  have H':=aM H
  clear H
  have av:0<=(aa:Int):=qD
  have ax:aa < (l0.length:Int):=qD
  obtain⟨aI,aC,ag,ah,ai,aj,au⟩:=at_T27 aZ.out aa av ax
  cases aC
  replace ag:=kx HB ag
  replace ah:=kx HB ah
  replace ai:=kx HB ai
  replace aj:=kx HB aj
  replace au:=kx HB au
  replace av:=eq_true av
  replace ax:=eq_true ax
  exact Sa5_0
 obtain rfl:=oJ H
 go_wp2
 go_ret
 exact⟨_,qW,qR az,qB⟩
def Sa2.f (k:Nat) (l0:List (S27)):Option (Int):=(Sa0.f k l0).bind fun ag=>(if ag=true then ((Sa5.f k l0).bind fun af=>(some (af.length:Int))) else (some (-1)))
theorem Sa2.calls (k:Nat) (A0:Option Addr) (c0:Nat) (l0:List (S27)) (r:Int) (w:World) (hr0:Kd.C k27 w A0 l0.length l0) (hc0:l0.length<=c0) (h:Sa2.f k l0=some r) :
  Calls prog 12 #[.slice A0 l0.length c0] w fun e w'=>e = .returned (iV r)/\Below w.heap.size w w':=by
 have ai:=aM hr0
 have aj:=aM hc0
 clear hr0 hc0
 have HB:=aM (Below.refl w.heap.size w)
 have H:=h;unfold Sa2.f at H
 clear h
 obtain⟨ag,A2,H⟩:=qE H
 try dsimp only at H
 replace H:=jB H;rcases H with ⟨rfl,H⟩ | ⟨rfl,H⟩
 ·obtain⟨af,A4,H⟩:=qE H
  try dsimp only at H
  obtain rfl:=oJ H
  go_enter func12,ntmps12
  go_wp2_with (first|((with_reducible refine jc 18 4 rfl rfl ?_);refine jG func18 #[.slice A0 l0.length c0] ?_;refine (Sa0.calls k _ _ l0 true _ ?aa ?ae A2.out).mono ?_;(case aa=>exact kC ai.out);(case ae=>exact aj.out);rintro e w5 ⟨rfl,hb⟩;refine⟨_,rfl,?_⟩;replace HB:=kH hb;clear hb)|((with_reducible refine jc 35 7 rfl rfl ?_);refine jG func35 #[.slice A0 l0.length c0] ?_;refine (Sa5.calls k _ _ l0 af _ ?aa ?ae A4.out).mono ?_;(case aa=>exact kC (Kd.C_below ai.out HB.out));(case ae=>exact aj.out);rintro e w6 ⟨au,rfl,ho0,hb⟩;refine⟨_,rfl,?_⟩;have ah:=kL ho0;replace HB:=kH hb;clear hb;(try clear ho0);obtain⟨ax,ay,av⟩:=Kd.R_slice ah.out;subst av))
  go_ret
  exact⟨qW,qB⟩
 obtain rfl:=oJ H
 go_enter func12,ntmps12
 go_wp2_with (first|((with_reducible refine jc 18 4 rfl rfl ?_);refine jG func18 #[.slice A0 l0.length c0] ?_;refine (Sa0.calls k _ _ l0 false _ ?aa ?ae A2.out).mono ?_;(case aa=>exact kC ai.out);(case ae=>exact aj.out);rintro e w8 ⟨rfl,hb⟩;refine⟨_,rfl,?_⟩;replace HB:=kH hb;clear hb))
 go_ret
 exact⟨qW,qB⟩
/-- A state of type 71 at block g of W;what its slices lead to came in by w0. -/
def Saa (w0 W:World) (g:Nat) (f0:List Int) (f1:Int):Prop:=∃ A0 c0,W.heap[g]?=some (.cells #[.slice A0 f0.length c0,iV f1] 71 (0,0))/\w0.heap.size<=g/\Kd.C (Kd.int .u8) w0 A0 f0.length f0
theorem Saa.grown {w0 W:World} {g:Nat} {f0:List Int} {f1:Int} {W1:World} {row:Option Nat} (h:Saa w0 W g f0 f1) (hw:W.grownBy W1 row) (hne:some g≠row):Saa w0 W1 g f0 f1:=by
 obtain⟨A0,c0,hb,hg,hr0⟩:=h
 exact⟨A0,c0,blk_grown hb hw hne,hg,hr0⟩
theorem Saa.own_neN {w0 W:World} {g:Nat} {f0:List Int} {f1:Int} {α:Type} {d:Kd α} {e base:Nat} {ok:Nat->Prop} {v:Value} {xs:List α} (h:Saa w0 W g f0 f1) (ho:Kd.N d e W base ok v xs) (ht:e≠71):some g≠v.ownBlock:=by
 obtain⟨A0,c0,hb,hg,hr0⟩:=h
 exact Kd.N_ne ho hb ht
theorem Saa.fresh {w0 W:World} {g:Nat} {f0:List Int} {f1:Int} (h:Saa w0 W g f0 f1):∀ k,W.heap.size<=k->k≠g:=by
 obtain⟨A0,c0,hb,hg,hr0⟩:=h
 exact Kd.freshB hb
theorem Saa.below {w0 W:World} {g:Nat} {f0:List Int} {f1:Int} {W1:World} (h:Saa w0 W g f0 f1) (hw:Below W.heap.size W W1):Saa w0 W1 g f0 f1:=h.grown (grown_of_below hw none) (by simp)
theorem Saa.alloc {w0 W:World} {g:Nat} {f0:List Int} {f1:Int} (h:Saa w0 W g f0 f1) (o:Obj):Saa w0 (W.alloc o) g f0 f1:=h.below (below_alloc (Below.refl _ _) o)
theorem Saa.drewN {w0 W:World} {g:Nat} {f0:List Int} {f1:Int} (h:Saa w0 W g f0 f1) (m:Nat):Saa w0 (W.drewN m) g f0 f1:=h
theorem Saa.drew {w0 W:World} {g:Nat} {f0:List Int} {f1:Int} (h:Saa w0 W g f0 f1):Saa w0 W.drew g f0 f1:=h
theorem Saa.at_ {w0 W:World} {g:Nat} {f0:List Int} {f1:Int} {w':World} {m:Nat} (hq:W.drewN m=w') (h:Saa w0 W g f0 f1):Saa w0 w' g f0 f1:=by subst hq;exact Saa.drewN h m
theorem Saa.apart {w0 W:World} {g:Nat} {f0:List Int} {f1:Int} {α:Type} {d:Kd α} {e base:Nat} {ok:Nat->Prop} {v:Value} {xs:List α} (h:Saa w0 W g f0 f1) (ho:d.R e W base ok v xs) (ht:∀ q,q∈e :: d.E->q≠71):d.R e W base (fun k=>ok k/\k≠g) v xs:=by
 obtain⟨A0,c0,hb,hg,hr0⟩:=h
 exact Kd.R_types ho hb ht
theorem Saa.own_ne {w0 W:World} {g:Nat} {f0:List Int} {f1:Int} {α:Type} {d:Kd α} {e base:Nat} {ok:Nat->Prop} {v:Value} {xs:List α} (h:Saa w0 W g f0 f1) (ho:d.R e W base ok v xs) (ht:e≠71):some g≠v.ownBlock:=by
 obtain⟨A0,c0,hb,hg,hr0⟩:=h
 exact Kd.R_ne ho hb ht
theorem Saa.lt {w0 W:World} {g:Nat} {f0:List Int} {f1:Int} (h:Saa w0 W g f0 f1):g < W.heap.size:=by
 obtain⟨A0,c0,hb,hg,hr0⟩:=h
 exact blk_lt hb
theorem Saa.ge {w0 W:World} {g:Nat} {f0:List Int} {f1:Int} (h:Saa w0 W g f0 f1):w0.heap.size<=g:=by
 obtain⟨A0,c0,hb,hg,hr0⟩:=h
 exact hg
theorem Saa.far {w0 W:World} {g:Nat} {f0:List Int} {f1:Int} {p:Addr} (h:Saa w0 W g f0 f1) (hne:g≠p.block) (u:Value):Saa w0 (W.setCell p u) g f0 f1:=by
 obtain⟨A0,c0,hb,hg,hr0⟩:=h
 exact⟨A0,c0,blk_far hb hne u,hg,hr0⟩
theorem cellS71_0 {W:World} {g:Nat} {A0:Option Addr} {c0:Nat} {f0:List Int} {f1:Int} (h:W.heap[g]?=some (.cells #[.slice A0 f0.length c0,iV f1] 71 (0,0))):W.cell? ⟨g,0,none⟩=some (.slice A0 f0.length c0):=(blk_cell h 0).trans rfl
theorem cellS71_1 {W:World} {g:Nat} {A0:Option Addr} {c0:Nat} {f0:List Int} {f1:Int} (h:W.heap[g]?=some (.cells #[.slice A0 f0.length c0,iV f1] 71 (0,0))):W.cell? ⟨g,1,none⟩=some (iV f1):=(blk_cell h 1).trans rfl
theorem Saa.set_1 {w0 W:World} {g:Nat} {f0:List Int} {f1:Int} (h:Saa w0 W g f0 f1) (x:Int):Saa w0 (W.setCell ⟨g,1,none⟩ (iV x)) g f0 x:=by
 obtain⟨A0,c0,hb,hg,hr0⟩:=h
 exact⟨A0,c0,by simpa using blk_set hb 1 (iV x),hg,hr0⟩
theorem qI {p q:Prop} (h:Aside0 p) (f:p->q:=by intro h_;repeat (first|(with_reducible first|exact h_|apply Saa.alloc|apply Saa.drewN|apply Saa.drew|apply Saa.set_1|refine Saa.far ?_ (Aside0.out (by assumption)) _)|exact h_)):q:=f h.out
theorem qBI {B:Nat} {w W:World} (h:Below B w W:=by repeat (first|(with_reducible first|exact HB.out|apply below_alloc|apply pw_below_drewN|apply below_drew1|refine below_set ?_ (Saa.ge (Aside0.out (by assumption))))|exact HB.out)):Below B w W:=h
def Sbn.j0:Nat->Int->Bool->List Int->Int->Option (Int × Int)
 | 0,_,_,_,_=>none
 | k+1,x1,x24,x1000,ae=>if x24=true then (some (0,ae)) else (if (wrap64 (ae - 1)) < (x1000.length:Int) then (if 0<=(wrap64 (ae - 1)) then (if x1=0 then (none) else (some (Int.tmod (wrap64 (rd x1000 (wrap64 (ae - 1)))) x1,ae))) else (none)) else (if (x1000.length:Int)=0 then (none) else (if 0<=(Int.tmod (wrap64 (ae - 1)) (x1000.length:Int)) then (if (Int.tmod (wrap64 (ae - 1)) (x1000.length:Int)) < (x1000.length:Int) then (if 0<=(Int.tmod (wrap64 ((wrap64 ((wrap64 (ae - 1))*7))+3)) (x1000.length:Int)) then (if (Int.tmod (wrap64 ((wrap64 ((wrap64 (ae - 1))*7))+3)) (x1000.length:Int)) < (x1000.length:Int) then (if x1=0 then (none) else (some (Int.tmod (Go.bits .xor .i64 (wrap64 ((wrap64 ((wrap64 ((wrap64 ((wrap64 (rd x1000 (Int.tmod (wrap64 (ae - 1)) (x1000.length:Int))))*131))+(wrap64 ((wrap64 (rd x1000 (Int.tmod (wrap64 ((wrap64 ((wrap64 (ae - 1))*7))+3)) (x1000.length:Int))))*1117))))+(wrap64 ((wrap64 (ae - 1))*29))))+(wrap64 ((wrap64 (Int.tdiv (wrap64 (ae - 1)) (x1000.length:Int)))*53)))) (wrap64 (Int.tdiv (wrap64 ((wrap64 ((wrap64 ((wrap64 ((wrap64 (rd x1000 (Int.tmod (wrap64 (ae - 1)) (x1000.length:Int))))*131))+(wrap64 ((wrap64 (rd x1000 (Int.tmod (wrap64 ((wrap64 ((wrap64 (ae - 1))*7))+3)) (x1000.length:Int))))*1117))))+(wrap64 ((wrap64 (ae - 1))*29))))+(wrap64 ((wrap64 (Int.tdiv (wrap64 (ae - 1)) (x1000.length:Int)))*53)))) 64))) x1,ae))) else (none)) else (none)) else (none)) else (none))))
def Sbn.f (k:Nat) (aa:List Int) (af a1:Int):Option (Int × Int):=if a1 < 1 then (Sbn.j0 k a1 true aa (wrap64 (af+1))) else (Sbn.j0 k a1 ((aa.length:Int) == 0) aa (wrap64 (af+1)))
theorem Sbn.calls (k g:Nat) (aa:List Int) (af a1 r1 r2:Int) (w0 w:World) (hI:Saa w0 w g aa af) (hB:Below w0.heap.size w0 w) (h:Sbn.f k aa af a1=some (r1,r2)) :
  Calls prog 52 #[.pointer (some ⟨g,0,none⟩),iV a1] w fun e w'=>e = .returned (iV r1)/\Saa w0 w' g aa r2/\Below w0.heap.size w0 w'/\KeepBut w w' g none:=by
 have HI0:=aM hI
 have HK:=aM (KeepBut.refl w g none)
 have HL:=aM hB.size
 clear hI
 have HW0:=aM hB.size
 have HB:=aM hB
 clear hB
 have H:=h;unfold Sbn.f at H
 clear h
 have bz:=aM H
 clear H
 obtain⟨bA,bB,aH,bC,bD⟩:=HI0.out
 have di:=cellS71_0 aH
 have dn:=cellS71_1 aH
 have dw:=blk_frozen aH 1
 clear aH bC
 go_enter func52,ntmps52
 go_upto_region 2 with (fail)
 repeat (go_quiet (fail);go_upto_region 2 with (fail))
 go_cut [24] (fun v24 wc=>∃ (kq:Nat) (az:Bool),v24 = .bool az/\Aside0 (Sbn.j0 kq a1 az aa (wrap64 (af+1))=some (r1,r2))/\Aside0 (kq<=k)/\Aside0 (Saa w0 wc g aa (wrap64 (af+1)))/\Aside0 (KeepBut w wc g none)/\Aside0 (Below w0.heap.size w0 wc))
 case first =>
  have H:=bz.out
  clear bz
  replace H:=jD H;rcases H with ⟨aA,H⟩ | ⟨aA,H⟩
  ·(first|rw [aA]|(simp only [i64_w,i32_w];rw [aA])|skip)
   have H':=aM H
   clear H
   go_wp2
   repeat (go_quiet (fail);try go_wp2)
   go_meet
   exact⟨_,(true),qZ,H',⟨by first|omega|exact Nat.le_refl _⟩,⟨qI HI0⟩,⟨qH⟩,⟨qBI⟩⟩
  (first|rw [aA]|(simp only [i64_w,i32_w];rw [aA])|skip)
  have H':=aM H
  clear H
  obtain⟨bE,bF,aI,bG,bH⟩:=HI0.out
  have dx:=cellS71_0 aI
  have dz:=cellS71_1 aI
  have dA:=blk_frozen aI 1
  clear aI bG
  go_wp2
  repeat (go_quiet (fail);try go_wp2)
  go_meet
  exact⟨_,(((aa.length:Int) == 0)),qZ,H',⟨by first|omega|exact Nat.le_refl _⟩,⟨qI HI0⟩,⟨qH⟩,⟨qBI⟩⟩
 clear bz
 obtain⟨kq,az,rfl,HA,HJ2,HI0,HK,HB⟩:=hcut
 cases kq with
 | zero=>exact absurd HA.out (by simp [Sbn.j0])
 | succ dB =>
  have H:=HA.out
  clear HA
  simp only [Sbn.j0] at H
  replace H:=jB H;rcases H with ⟨rfl,H⟩ | ⟨rfl,H⟩
  ·obtain⟨rfl,rfl⟩:=oJ2 H
   go_wp2
   repeat (go_quiet (fail);try go_wp2)
   go_ret
   exact⟨qW,qI HI0,qBI,qH⟩
  replace H:=jD H;rcases H with ⟨aX,H⟩ | ⟨aX,H⟩
  ·obtain⟨aW,aC⟩:∃ j_:Int,(wrap64 ((wrap64 (af+1)) - 1))=j_:=⟨_,rfl⟩
   replace H:(if 0<=(aW) then (if a1=0 then (none) else (some (Int.tmod (wrap64 (rd aa (aW))) a1,(wrap64 (af+1))))) else (none))=some (r1,r2):=by first|(rw [aC] at H;exact H)|(simp only [aC] at H ⊢;exact H)
   (try rw [aC] at aX)
   have bL:(IntKind.i64.wrap ((wrap64 (af+1)) - 1))=aW:=(i64_w _).trans aC
   replace H:=jI H;obtain⟨bM,H⟩:=H
   by_cases c11:a1=0
   ·rw [if_pos c11] at H
    exact absurd H (by simp)
   rw [if_neg c11] at H
   have bN:(a1 == 0)=false:=beq_eq_false_iff_ne.mpr c11
   have bO:(a1 != 0)=true:=bne_iff_ne.mpr c11
   obtain⟨rfl,rfl⟩:=oJ2 H
   obtain⟨bn,bq,ai,aY,aJ⟩:=HI0.out
   have bP:=cellS71_0 ai
   have bQ:=cellS71_1 ai
   have bR:=blk_frozen ai 1
   clear ai aY
   have aK:0<=((aW):Int):=qD
   have aN:(aW) < (aa.length:Int):=qD
   obtain⟨bS,bI,aj⟩:=Kd.at_int aJ (aW) aK aN
   cases bI
   replace aj:=pw_cell_below HB.out aj
   replace aK:=eq_true aK
   replace aN:=eq_true aN
   go_wp2
   repeat (go_quiet (fail);try go_wp2)
   go_ret
   exact⟨by first|rfl|(simp [errW_none,errW_some] <;> rfl)|(simp only [<- aC];first|rfl|(simp [errW_none,errW_some] <;> rfl))|(simp [*,errW_none,errW_some] <;> rfl),qI HI0,qBI,qH⟩
  by_cases c13:(aa.length:Int)=0
  ·rw [if_pos c13] at H
   exact absurd H (by simp)
  rw [if_neg c13] at H
  have bT:((aa.length:Int) == 0)=false:=beq_eq_false_iff_ne.mpr c13
  have bU:((aa.length:Int) != 0)=true:=bne_iff_ne.mpr c13
  have bV:¬ (aa=[]):=fun h_=>c13 (by rw [h_];rfl)
  obtain⟨ag,aD⟩:∃ j_:Int,(Int.tmod (wrap64 ((wrap64 (af+1)) - 1)) (aa.length:Int))=j_:=⟨_,rfl⟩
  replace H:(if 0<=(ag) then (if (ag) < (aa.length:Int) then (if 0<=(Int.tmod (wrap64 ((wrap64 ((wrap64 ((wrap64 (af+1)) - 1))*7))+3)) (aa.length:Int)) then (if (Int.tmod (wrap64 ((wrap64 ((wrap64 ((wrap64 (af+1)) - 1))*7))+3)) (aa.length:Int)) < (aa.length:Int) then (if a1=0 then (none) else (some (Int.tmod (Go.bits .xor .i64 (wrap64 ((wrap64 ((wrap64 ((wrap64 ((wrap64 (rd aa (ag)))*131))+(wrap64 ((wrap64 (rd aa (Int.tmod (wrap64 ((wrap64 ((wrap64 ((wrap64 (af+1)) - 1))*7))+3)) (aa.length:Int))))*1117))))+(wrap64 ((wrap64 ((wrap64 (af+1)) - 1))*29))))+(wrap64 ((wrap64 (Int.tdiv (wrap64 ((wrap64 (af+1)) - 1)) (aa.length:Int)))*53)))) (wrap64 (Int.tdiv (wrap64 ((wrap64 ((wrap64 ((wrap64 ((wrap64 (rd aa (ag)))*131))+(wrap64 ((wrap64 (rd aa (Int.tmod (wrap64 ((wrap64 ((wrap64 ((wrap64 (af+1)) - 1))*7))+3)) (aa.length:Int))))*1117))))+(wrap64 ((wrap64 ((wrap64 (af+1)) - 1))*29))))+(wrap64 ((wrap64 (Int.tdiv (wrap64 ((wrap64 (af+1)) - 1)) (aa.length:Int)))*53)))) 64))) a1,(wrap64 (af+1))))) else (none)) else (none)) else (none)) else (none))=some (r1,r2):=by first|(rw [aD] at H;exact H)|(simp only [aD] at H ⊢;exact H)
  replace H:=jI H;obtain⟨bW,H⟩:=H
  replace H:=jI H;obtain⟨bX,H⟩:=H
  obtain⟨ah,aG⟩:∃ j_:Int,(Int.tmod (wrap64 ((wrap64 ((wrap64 ((wrap64 (af+1)) - 1))*7))+3)) (aa.length:Int))=j_:=⟨_,rfl⟩
  replace H:(if 0<=(ah) then (if (ah) < (aa.length:Int) then (if a1=0 then (none) else (some (Int.tmod (Go.bits .xor .i64 (wrap64 ((wrap64 ((wrap64 ((wrap64 ((wrap64 (rd aa (ag)))*131))+(wrap64 ((wrap64 (rd aa (ah)))*1117))))+(wrap64 ((wrap64 ((wrap64 (af+1)) - 1))*29))))+(wrap64 ((wrap64 (Int.tdiv (wrap64 ((wrap64 (af+1)) - 1)) (aa.length:Int)))*53)))) (wrap64 (Int.tdiv (wrap64 ((wrap64 ((wrap64 ((wrap64 ((wrap64 (rd aa (ag)))*131))+(wrap64 ((wrap64 (rd aa (ah)))*1117))))+(wrap64 ((wrap64 ((wrap64 (af+1)) - 1))*29))))+(wrap64 ((wrap64 (Int.tdiv (wrap64 ((wrap64 (af+1)) - 1)) (aa.length:Int)))*53)))) 64))) a1,(wrap64 (af+1))))) else (none)) else (none))=some (r1,r2):=by first|(rw [aG] at H;exact H)|(simp only [aG] at H ⊢;exact H)
  replace H:=jI H;obtain⟨bY,H⟩:=H
  replace H:=jI H;obtain⟨bZ,H⟩:=H
  by_cases c20:a1=0
  ·rw [if_pos c20] at H
   exact absurd H (by simp)
  rw [if_neg c20] at H
  have cz:(a1 == 0)=false:=beq_eq_false_iff_ne.mpr c20
  have cB:(a1 != 0)=true:=bne_iff_ne.mpr c20
  obtain⟨rfl,rfl⟩:=oJ2 H
  obtain⟨bu,bv,au,aZ,av⟩:=HI0.out
  have cK:=cellS71_0 au
  have cO:=cellS71_1 au
  have df:=blk_frozen au 1
  clear au aZ
  have aQ:0<=((ag):Int):=qD
  have aT:(ag) < (aa.length:Int):=qD
  obtain⟨bg,bJ,ax⟩:=Kd.at_int av (ag) aQ aT
  cases bJ
  replace ax:=pw_cell_below HB.out ax
  replace aQ:=eq_true aQ
  replace aT:=eq_true aT
  have aU:0<=((ah):Int):=qD
  have aV:(ah) < (aa.length:Int):=qD
  obtain⟨bi,bK,ay⟩:=Kd.at_int av (ah) aU aV
  obtain rfl:bg=bi:=(by injection bK)
  replace ay:=pw_cell_below HB.out ay
  replace aU:=eq_true aU
  replace aV:=eq_true aV
  go_wp2
  repeat (go_quiet (fail);try go_wp2)
  go_ret
  exact⟨by first|rfl|(simp [errW_none,errW_some] <;> rfl)|(simp only [<- aD,<- aG];first|rfl|(simp [errW_none,errW_some] <;> rfl))|(simp [*,errW_none,errW_some] <;> rfl),qI HI0,qBI,qH⟩
def SbD.f (k:Nat) (aa:List Int) (ae:Int):Option (Int × Int):=(Sbn.f k aa ae 6).bind fun af=>(some (af.1,af.2))
theorem SbD.calls (k g:Nat) (aa:List Int) (ae r1 r2:Int) (w0 w:World) (hI:Saa w0 w g aa ae) (hB:Below w0.heap.size w0 w) (h:SbD.f k aa ae=some (r1,r2)) :
  Calls prog 77 #[.pointer (some ⟨g,0,none⟩)] w fun e w'=>e = .returned (iV r1)/\Saa w0 w' g aa r2/\Below w0.heap.size w0 w'/\KeepBut w w' g none:=by
 have HI0:=aM hI
 have HK:=aM (KeepBut.refl w g none)
 have HL:=aM hB.size
 clear hI
 have HW0:=aM hB.size
 have HB:=aM hB
 clear hB
 have H:=h;unfold SbD.f at H
 clear h
 obtain⟨⟨ai,t105⟩,A2,H⟩:=qE H
 try dsimp only at H
 obtain⟨rfl,rfl⟩:=oJ2 H
 go_enter func77,ntmps77
 go_wp2_with (first|((with_reducible refine jc 52 4 rfl rfl ?_);refine jG func52 #[.pointer (some ⟨g,0,none⟩),iV 6] ?_;refine (Sbn.calls k g aa ae 6 ai t105 w0 _ ?ag ?ah A2.out).mono ?_;(case ag=>exact qI HI0);(case ah=>exact qB);rintro e w3 ⟨rfl,hi,hb,hk⟩;refine⟨_,rfl,?_⟩;replace HK:=kI hk;replace HB:=aM hb;replace HI0:=aM hi;clear hb hk hi))
 go_ret
 exact⟨qW,qI HI0,qB,qH⟩
def Say.f (a0:Int):Option (Int):=if (Int.tmod a0 4294967296) > 2147483647 then (some (wrap64 ((Int.tmod a0 4294967296) - 4294967296))) else (if (Int.tmod a0 4294967296) < (-2147483648) then (some (wrap64 ((Int.tmod a0 4294967296)+4294967296))) else (some (Int.tmod a0 4294967296)))
theorem Say.calls (a0 r:Int) (w:World) (h:Say.f a0=some r) :
  Calls prog 87 #[iV a0] w fun e w'=>e = .returned (iV r)/\Drawn0 w w':=by
 have H:=h;unfold Say.f at H
 clear h
 replace H:=jD H;rcases H with ⟨aa,H⟩ | ⟨aa,H⟩
 ·obtain rfl:=oJ H
  go_enter func87,ntmps87
  go_wp2
  go_ret
  exact⟨qZ,qU⟩
 replace H:=jD H;rcases H with ⟨ae,H⟩ | ⟨ae,H⟩
 ·obtain rfl:=oJ H
  go_enter func87,ntmps87
  go_wp2
  go_ret
  exact⟨qZ,qU⟩
 obtain rfl:=oJ H
 go_enter func87,ntmps87
 go_wp2
 go_ret
 exact⟨qZ,qU⟩
def Sbr.f (k:Nat) (af:List Int) (au:Int):Option (Int × Int):=(Sbn.f k af au 6).bind fun ag=>(if ag.1=0 then ((some (([(-2147483648),2147483647,(-1),0,1,(-2147483647),65536,(-65536)]:List Int):List Int)).bind fun ax=>((Sbn.f k af ag.2 8).bind fun ah=>(if 0<=ah.1 then (if ah.1 < (ax.length:Int) then (some (rd ax ah.1,ah.2)) else (none)) else (none)))) else (if ag.1=1 then ((Sbn.f k af ag.2 256).bind fun az=>((Sbn.f k af az.2 256).bind fun aA=>((Sbn.f k af aA.2 256).bind fun aC=>((Sbn.f k af aC.2 200).bind fun aD=>((Say.f (wrap64 ((wrap64 ((wrap64 ((wrap64 (az.1*65536))+(wrap64 (aA.1*256))))+aC.1))*(wrap64 (1+aD.1))))).bind fun aI=>(some (aI,aD.2))))))) else (if ag.1=2 then ((Sbn.f k af ag.2 200).bind fun aG=>(some (wrap64 (-aG.1),aG.2))) else ((Sbn.f k af ag.2 20).bind fun aH=>(some (aH.1,aH.2))))))
theorem Sbr_0 {G:Prop} (h:G:=by
  go_enter func78,ntmps78
  go_wp2_with (first|((with_reducible refine jc 52 4 rfl rfl ?_);refine jG func52 #[.pointer (some ⟨g,0,none⟩),iV 6] ?_;refine (Sbn.calls k g af au 6 bg t107 w0 _ ?aa ?ae A2.out).mono ?_;(case aa=>exact qI HI0);(case ae=>exact qB);rintro e bE ⟨rfl,hi,hb,hk⟩;refine⟨_,rfl,?_⟩;replace HK:=kI hk;replace HB:=aM hb;replace HI0:=aM hi;clear hb hk hi)|((with_reducible refine jd 7 rfl ?_);refine jV (Kd.int .i64) 3 ([(-2147483648),2147483647,(-1),0,1,(-2147483647),65536,(-65536)]:List Int) [iV (-2147483648),iV 2147483647,iV (-1),iV 0,iV 1,iV (-2147483647),iV 65536,iV (-65536)] (Reps.one (show Kd.M (Kd.int .i64) _ _ _ (-2147483648) [iV (-2147483648)] from rfl) (Reps.one (show Kd.M (Kd.int .i64) _ _ _ 2147483647 [iV 2147483647] from rfl) (Reps.one (show Kd.M (Kd.int .i64) _ _ _ (-1) [iV (-1)] from rfl) (Reps.one (show Kd.M (Kd.int .i64) _ _ _ 0 [iV 0] from rfl) (Reps.one (show Kd.M (Kd.int .i64) _ _ _ 1 [iV 1] from rfl) (Reps.one (show Kd.M (Kd.int .i64) _ _ _ (-2147483647) [iV (-2147483647)] from rfl) (Reps.one (show Kd.M (Kd.int .i64) _ _ _ 65536 [iV 65536] from rfl) (Reps.one (show Kd.M (Kd.int .i64) _ _ _ (-65536) [iV (-65536)] from rfl) (Reps.none _ _))))))))) ?_;intro v109 bF av hb;(first|rw [<- ai.out] at av|(simp only [Int.reduceToNat] at av;rw [<- ai.out] at av));have aj:=aM (Kd.R_lower av (keep_size (w:=w) (g:=g) (row:=none) qH));replace HI0:=aM (Saa.below (qI HI0) hb);replace HK:=aM (KeepBut.trans qH (KeepBut.of_below hb g none) (.inl rfl));replace HB:=kH hb;clear hb av)|((with_reducible refine jc 52 9 rfl rfl ?_);refine jG func52 #[.pointer (some ⟨g,0,none⟩),iV 8] ?_;refine (Sbn.calls k g af t107 8 ay bi w0 _ ?aa ?ae A4.out).mono ?_;(case aa=>exact qI HI0);(case ae=>exact qB);rintro e bG ⟨rfl,hi,hb,hk⟩;refine⟨_,rfl,?_⟩;replace aj:=aM (Kd.R_mono (Kd.R_keep (Saa.apart (show Saa w0 _ g af t107 from qI HI0) (qR aj) (by decide)) hk (fun _ h=>h.2)) (fun _ h=>h.1));replace HK:=kI hk;replace HB:=aM hb;replace HI0:=aM hi;clear hb hk hi;obtain⟨bH,bI,bn⟩:=Kd.R_slice aj.out;subst bn;have aJ:0<=(ay:Int):=qD;have aK:ay < (ax.length:Int):=qD;obtain⟨bD,bq,aZ⟩:=Kd.at_int (Kd.R_reads' aj.out).2.2 ay aJ aK;cases bq;replace aJ:=eq_true aJ;replace aK:=eq_true aK)|((with_reducible refine jc 52 15 rfl rfl ?_);refine jG func52 #[.pointer (some ⟨g,0,none⟩),iV 256] ?_;refine (Sbn.calls k g af t107 256 aN aU w0 _ ?aa ?ae bJ.out).mono ?_;(case aa=>exact qI HI0);(case ae=>exact qB);rintro e bK ⟨rfl,hi,hb,hk⟩;refine⟨_,rfl,?_⟩;replace HK:=kI hk;replace HB:=aM hb;replace HI0:=aM hi;clear hb hk hi)|((with_reducible refine jc 52 18 rfl rfl ?_);refine jG func52 #[.pointer (some ⟨g,0,none⟩),iV 256] ?_;refine (Sbn.calls k g af aU 256 t116 t117 w0 _ ?aa ?ae bL.out).mono ?_;(case aa=>exact qI HI0);(case ae=>exact qB);rintro e bM ⟨rfl,hi,hb,hk⟩;refine⟨_,rfl,?_⟩;replace HK:=kI hk;replace HB:=aM hb;replace HI0:=aM hi;clear hb hk hi)|((with_reducible refine jc 52 22 rfl rfl ?_);refine jG func52 #[.pointer (some ⟨g,0,none⟩),iV 256] ?_;refine (Sbn.calls k g af t117 256 aQ t119 w0 _ ?aa ?ae bN.out).mono ?_;(case aa=>exact qI HI0);(case ae=>exact qB);rintro e bO ⟨rfl,hi,hb,hk⟩;refine⟨_,rfl,?_⟩;replace HK:=kI hk;replace HB:=aM hb;replace HI0:=aM hi;clear hb hk hi)|((with_reducible refine jc 52 25 rfl rfl ?_);refine jG func52 #[.pointer (some ⟨g,0,none⟩),iV 200] ?_;refine (Sbn.calls k g af t119 200 aT bu w0 _ ?aa ?ae bP.out).mono ?_;(case aa=>exact qI HI0);(case ae=>exact qB);rintro e bQ ⟨rfl,hi,hb,hk⟩;refine⟨_,rfl,?_⟩;replace HK:=kI hk;replace HB:=aM hb;replace HI0:=aM hi;clear hb hk hi)|((with_reducible refine jc 87 28 rfl rfl ?_);refine jG func87 #[iV (wrap64 ((wrap64 ((wrap64 ((wrap64 (aN*65536))+(wrap64 (t116*256))))+aQ))*(wrap64 (1+aT))))] ?_;refine (Say.calls (wrap64 ((wrap64 ((wrap64 ((wrap64 (aN*65536))+(wrap64 (t116*256))))+aQ))*(wrap64 (1+aT)))) aI _ bR.out).mono ?_;rintro e w' ⟨rfl,⟨nd,rfl⟩⟩;refine⟨_,rfl,?_⟩)|((with_reducible refine jc 52 32 rfl rfl ?_);refine jG func52 #[.pointer (some ⟨g,0,none⟩),iV 200] ?_;refine (Sbn.calls k g af t107 200 bv t124 w0 _ ?aa ?ae bS.out).mono ?_;(case aa=>exact qI HI0);(case ae=>exact qB);rintro e bT ⟨rfl,hi,hb,hk⟩;refine⟨_,rfl,?_⟩;replace HK:=kI hk;replace HB:=aM hb;replace HI0:=aM hi;clear hb hk hi)|((with_reducible refine jc 52 35 rfl rfl ?_);refine jG func52 #[.pointer (some ⟨g,0,none⟩),iV 20] ?_;refine (Sbn.calls k g af t107 20 bz bA w0 _ ?aa ?ae bU.out).mono ?_;(case aa=>exact qI HI0);(case ae=>exact qB);rintro e bV ⟨rfl,hi,hb,hk⟩;refine⟨_,rfl,?_⟩;replace HK:=kI hk;replace HB:=aM hb;replace HI0:=aM hi;clear hb hk hi))
  go_ret
  exact⟨qW,qI HI0,qB,qH⟩):G:=h
theorem Sbr.calls (k g:Nat) (af:List Int) (au r1 r2:Int) (w0 w:World) (hI:Saa w0 w g af au) (hB:Below w0.heap.size w0 w) (h:Sbr.f k af au=some (r1,r2)) :
  Calls prog 78 #[.pointer (some ⟨g,0,none⟩)] w fun e w'=>e = .returned (iV r1)/\Saa w0 w' g af r2/\Below w0.heap.size w0 w'/\KeepBut w w' g none:=by
 have HI0:=aM hI
 have HK:=aM (KeepBut.refl w g none)
 have HL:=aM hB.size
 clear hI
 have HW0:=aM hB.size
 have HB:=aM hB
 clear hB
 have H:=h;unfold Sbr.f at H
 clear h
 obtain⟨⟨bg,t107⟩,A2,H⟩:=qE H
 try dsimp only at H
 replace H:=jE H;rcases H with ⟨bB,bC,H⟩ | ⟨c3,bB,bC,H⟩
 ·obtain⟨ax,ai⟩:=ky ((([(-2147483648),2147483647,(-1),0,1,(-2147483647),65536,(-65536)]:List Int)):List Int)
  first|replace H:=kz ai H|rw [<- ai.out] at H
  obtain⟨⟨ay,bi⟩,A4,H⟩:=qE H
  try dsimp only at H
  replace H:=jI H;obtain⟨bW,H⟩:=H
  replace H:=jI H;obtain⟨bX,H⟩:=H
  obtain⟨rfl,rfl⟩:=oJ2 H
  exact Sbr_0
 replace H:=jE H;rcases H with ⟨aV,aW,H⟩ | ⟨c12,aV,aW,H⟩
 ·obtain⟨⟨aN,aU⟩,bJ,H⟩:=qE H
  try dsimp only at H
  obtain⟨⟨t116,t117⟩,bL,H⟩:=qE H
  try dsimp only at H
  obtain⟨⟨aQ,t119⟩,bN,H⟩:=qE H
  try dsimp only at H
  obtain⟨⟨aT,bu⟩,bP,H⟩:=qE H
  try dsimp only at H
  obtain⟨aI,bR,H⟩:=qE H
  try dsimp only at H
  obtain⟨rfl,rfl⟩:=oJ2 H
  exact Sbr_0
 replace H:=jE H;rcases H with ⟨aX,aY,H⟩ | ⟨c23,aX,aY,H⟩
 ·obtain⟨⟨bv,t124⟩,bS,H⟩:=qE H
  try dsimp only at H
  obtain⟨rfl,rfl⟩:=oJ2 H
  exact Sbr_0
 obtain⟨⟨bz,bA⟩,bU,H⟩:=qE H
 try dsimp only at H
 obtain⟨rfl,rfl⟩:=oJ2 H
 exact Sbr_0
def Sbq.f (k:Nat) (aa:List Int) (ae:Int):Option (Int × Int):=(Sbn.f k aa ae 12).bind fun af=>(some (wrap64 (1+af.1),af.2))
theorem Sbq.calls (k g:Nat) (aa:List Int) (ae r1 r2:Int) (w0 w:World) (hI:Saa w0 w g aa ae) (hB:Below w0.heap.size w0 w) (h:Sbq.f k aa ae=some (r1,r2)) :
  Calls prog 79 #[.pointer (some ⟨g,0,none⟩)] w fun e w'=>e = .returned (iV r1)/\Saa w0 w' g aa r2/\Below w0.heap.size w0 w'/\KeepBut w w' g none:=by
 have HI0:=aM hI
 have HK:=aM (KeepBut.refl w g none)
 have HL:=aM hB.size
 clear hI
 have HW0:=aM hB.size
 have HB:=aM hB
 clear hB
 have H:=h;unfold Sbq.f at H
 clear h
 obtain⟨⟨t127,ai⟩,A2,H⟩:=qE H
 try dsimp only at H
 obtain⟨rfl,rfl⟩:=oJ2 H
 go_enter func79,ntmps79
 go_wp2_with (first|((with_reducible refine jc 52 4 rfl rfl ?_);refine jG func52 #[.pointer (some ⟨g,0,none⟩),iV 12] ?_;refine (Sbn.calls k g aa ae 12 t127 ai w0 _ ?ag ?ah A2.out).mono ?_;(case ag=>exact qI HI0);(case ah=>exact qB);rintro e w3 ⟨rfl,hi,hb,hk⟩;refine⟨_,rfl,?_⟩;replace HK:=kI hk;replace HB:=aM hb;replace HI0:=aM hi;clear hb hk hi))
 go_ret
 exact⟨qW,qI HI0,qB,qH⟩
mutual
def SbB.j0:Nat->Int->Int->Bool->List Int->Int->Option (Int × Int × Int × Int × Int × Int)
 | 0,_,_,_,_,_=>none
 | k+1,x1,ay,eX,x1000,au=>if eX=true then ((SbD.f k x1000 au).bind fun aW=>((Sbr.f k x1000 aW.2).bind fun aX=>((some (([0,1,2,aX.1]:List Int):List Int)).bind fun aN=>((Sbn.f k x1000 aX.2 4).bind fun aH=>(if 0<=aH.1 then (if aH.1 < (aN.length:Int) then (some (1,aW.1,0,0,rd aN aH.1,aH.2)) else (none)) else (none)))))) else (if ay=2 then (SbB.j1 k x1 ay (ay == 2) x1000 au) else (SbB.j1 k x1 ay (ay == 3) x1000 au))
def SbB.j1:Nat->Int->Int->Bool->List Int->Int->Option (Int × Int × Int × Int × Int × Int)
 | 0,_,_,_,_,_=>none
 | k+1,x1,ay,x27,x1000,au=>if x27=true then ((SbD.f k x1000 au).bind fun aY=>((SbD.f k x1000 aY.2).bind fun aZ=>(some (2,aY.1,aZ.1,0,0,aZ.2)))) else (if ay=4 then (SbB.j2 k x1 ay (ay == 4) x1000 au) else (if ay=5 then (SbB.j2 k x1 ay (ay == 5) x1000 au) else (SbB.j2 k x1 ay (ay == 6) x1000 au)))
def SbB.j2:Nat->Int->Int->Bool->List Int->Int->Option (Int × Int × Int × Int × Int × Int)
 | 0,_,_,_,_,_=>none
 | k+1,x1,ay,eY,x1000,au=>if eY=true then ((SbD.f k x1000 au).bind fun bg=>((SbD.f k x1000 bg.2).bind fun bi=>((SbD.f k x1000 bi.2).bind fun bn=>((Sbq.f k x1000 bn.2).bind fun bq=>(some (3,bg.1,bi.1,bn.1,bq.1,bq.2)))))) else (if ay=7 then ((Sbn.f k x1000 au x1).bind fun bu=>(some (4,0,0,0,bu.1,bu.2))) else (if ay=8 then ((SbD.f k x1000 au).bind fun bv=>((Sbn.f k x1000 bv.2 x1).bind fun bz=>(some (5,0,bv.1,0,bz.1,bz.2)))) else (if ay=9 then ((SbD.f k x1000 au).bind fun bA=>((Sbn.f k x1000 bA.2 2).bind fun bB=>(some (6,0,bA.1,0,bB.1,bB.2)))) else (if ay=10 then ((SbD.f k x1000 au).bind fun bC=>((Sbn.f k x1000 bC.2 2).bind fun bD=>(some (7,bC.1,0,0,bD.1,bD.2)))) else ((Sbn.f k x1000 au 4).bind fun aQ=>(if aQ.1=0 then (some (8,0,0,0,0,aQ.2)) else ((SbD.f k x1000 aQ.2).bind fun bE=>(some (9,0,bE.1,0,0,bE.2)))))))))
end
def SbB.f (k:Nat) (ai:List Int) (aC a1:Int):Option (Int × Int × Int × Int × Int × Int):=(Sbn.f k ai aC 12).bind fun ax=>(if ax.1=0 then (SbB.j0 k a1 ax.1 (ax.1 == 0) ai ax.2) else (SbB.j0 k a1 ax.1 (ax.1 == 1) ai ax.2))
theorem SbB.calls (k g:Nat) (ai:List Int) (aC a1 r1 r2 r3 r4 r5 r6:Int) (w0 w:World) (hI:Saa w0 w g ai aC) (hB:Below w0.heap.size w0 w) (h:SbB.f k ai aC a1=some (r1,r2,r3,r4,r5,r6)) :
  Calls prog 70 #[.pointer (some ⟨g,0,none⟩),iV a1] w fun e w'=>e = .returned (.agg #[iV r1,iV r2,iV r3,iV r4,iV r5])/\Saa w0 w' g ai r6/\Below w0.heap.size w0 w'/\KeepBut w w' g none:=by
 have fe:=underlying27
 have HI0:=aM hI
 have HK:=aM (KeepBut.refl w g none)
 have HL:=aM hB.size
 clear hI
 have HW0:=aM hB.size
 have HB:=aM hB
 clear hB
 have H:=h;unfold SbB.f at H
 clear h
 obtain⟨⟨t130,t131⟩,A3,H⟩:=qE H
 try dsimp only at H
 have dG:=aM H
 clear H
 go_enter func70,ntmps70
 go_upto_if 14 with (first|((with_reducible refine jd 4 rfl ?_);refine jX _ 27 ?_;intro ah hg w5 hbox hb;have aa:=aM hbox;have dO:=aM ((by rw [hg];exact (keep_size (w:=w) (g:=g) (row:=none) qH):w.heap.size<=ah));have dP:=aM ((Nat.le_trans HW0.out (by rw [hg];exact (keep_size (w:=w) (g:=g) (row:=none) qH):w.heap.size<=ah):w0.heap.size<=ah));have aj:=aM ((by rw [hg];exact Nat.ne_of_lt (Saa.lt (show Saa w0 _ g ai aC from qI HI0)):g≠ah));have ae:=aM ((by rw [hg];exact Nat.ne_of_gt (Saa.lt (show Saa w0 _ g ai aC from qI HI0)):ah≠g));replace HI0:=aM (Saa.below (qI HI0) hb);replace HK:=aM (KeepBut.trans qH (KeepBut.of_below hb g none) (.inl rfl));replace HB:=kH hb;clear hb hbox hg)|((with_reducible refine jc 52 13 rfl rfl ?_);refine jG func52 #[.pointer (some ⟨g,0,none⟩),iV 12] ?_;refine (Sbn.calls k g ai aC 12 t130 t131 w0 _ ?af ?ag A3.out).mono ?_;(case af=>exact qI HI0);(case ag=>exact qB);rintro e w6 ⟨rfl,hi,hb,hk⟩;refine⟨_,rfl,?_⟩;replace aa:=aM (KeepBut.blk hk (g':=ah) (o:=.cells #[iV 0,iV 0,iV 0,iV 0,iV 0] 27 (0,0)) (qK aa) ae.out (by simp));replace HK:=kI hk;replace HB:=aM hb;replace HI0:=aM hi;clear hb hk hi))
 (try simp only [Act.put,List.setIfInBounds_toArray,List.set_cons_zero,List.set_cons_succ])
 go_cut [14] (fun v14 wc=>∃ (kq:Nat) (aT:Bool),v14 = .bool aT/\Aside0 (SbB.j0 kq a1 t130 aT ai t131=some (r1,r2,r3,r4,r5,r6))/\Aside0 (kq<=k)/\Aside0 (wc.heap[ah]?=some (.cells #[iV 0,iV 0,iV 0,iV 0,iV 0] 27 (0,0)))/\Aside0 (Saa w0 wc g ai t131)/\Aside0 (KeepBut w wc g none)/\Aside0 (Below w0.heap.size w0 wc))
 case first =>
  have H:=dG.out
  clear dG
  replace H:=jE H;rcases H with ⟨aU,dH,H⟩ | ⟨c7,aU,dH,H⟩
  ·(first|rw [aU]|(simp only [i64_w,i32_w];rw [aU])|skip)
   have H':=aM H
   clear H
   go_wp2
   go_meet
   exact⟨_,((t130 == 0)),qZ,H',⟨by first|omega|exact Nat.le_refl _⟩,⟨qK aa⟩,⟨qI HI0⟩,⟨qH⟩,⟨qB⟩⟩
  (first|rw [aU]|(simp only [i64_w,i32_w];rw [aU])|skip)
  have H':=aM H
  clear H
  go_wp2
  go_meet
  exact⟨_,((t130 == 1)),qZ,H',⟨by first|omega|exact Nat.le_refl _⟩,⟨qK aa⟩,⟨qI HI0⟩,⟨qH⟩,⟨qB⟩⟩
 clear dG
 obtain⟨kq,aT,rfl,HA,bN,aa,HI0,HK,HB⟩:=hcut
 cases kq with
 | zero=>exact absurd HA.out (by simp [SbB.j0])
 | succ dE =>
  have H:=HA.out
  clear HA
  simp only [SbB.j0] at H
  replace H:=jB H;rcases H with ⟨rfl,H⟩ | ⟨rfl,H⟩
  ·obtain⟨⟨bO,bP⟩,A9,H⟩:=qE H
   try dsimp only at H
   obtain⟨⟨aK,bF⟩,fo,H⟩:=qE H
   try dsimp only at H
   obtain⟨aN,aI⟩:=ky ((([0,1,2,aK]:List Int)):List Int)
   first|replace H:=kz aI H|rw [<- aI.out] at H
   obtain⟨⟨t139,dI⟩,fq,H⟩:=qE H
   try dsimp only at H
   replace H:=jI H;obtain⟨dQ,H⟩:=H
   replace H:=jI H;obtain⟨dR,H⟩:=H
   obtain⟨rfl,rfl,rfl,rfl,rfl,rfl⟩:=oJ6 H
   go_wp2_with (first|((with_reducible refine jc 77 18 rfl rfl ?_);refine jG func77 #[.pointer (some ⟨g,0,none⟩)] ?_;refine (SbD.calls dE g ai t131 bO bP w0 _ ?af ?ag A9.out).mono ?_;(case af=>exact qI HI0);(case ag=>exact qB);rintro e gD ⟨rfl,hi,hb,hk⟩;refine⟨_,rfl,?_⟩;replace aa:=aM (KeepBut.blk hk (g':=ah) (o:=.cells #[iV 0,iV 0,iV 0,iV 0,iV 0] 27 (0,0)) (qK aa) ae.out (by simp));replace HK:=kI hk;replace HB:=aM hb;replace HI0:=aM hi;clear hb hk hi)|((with_reducible refine jc 78 20 rfl rfl ?_);refine jG func78 #[.pointer (some ⟨g,0,none⟩)] ?_;refine (Sbr.calls dE g ai bP aK bF w0 _ ?af ?ag fo.out).mono ?_;(case af=>exact qI HI0);(case ag=>exact qB);rintro e gF ⟨rfl,hi,hb,hk⟩;refine⟨_,rfl,?_⟩;replace aa:=aM (KeepBut.blk hk (g':=ah) (o:=.cells #[iV 0,iV 0,iV 0,iV 0,iV 0] 27 (0,0)) (qK aa) ae.out (by simp));replace HK:=kI hk;replace HB:=aM hb;replace HI0:=aM hi;clear hb hk hi)|((with_reducible refine jd 21 rfl ?_);refine jV (Kd.int .i64) 3 ([0,1,2,aK]:List Int) [iV 0,iV 1,iV 2,iV aK] (Reps.one (show Kd.M (Kd.int .i64) _ _ _ 0 [iV 0] from rfl) (Reps.one (show Kd.M (Kd.int .i64) _ _ _ 1 [iV 1] from rfl) (Reps.one (show Kd.M (Kd.int .i64) _ _ _ 2 [iV 2] from rfl) (Reps.one (show Kd.M (Kd.int .i64) _ _ _ aK [iV aK] from rfl) (Reps.none _ _))))) ?_;intro fu w16 aV hb;(first|rw [<- aI.out] at aV|(simp only [Int.reduceToNat] at aV;rw [<- aI.out] at aV));have aJ:=aM (Kd.R_lower aV (keep_size (w:=w) (g:=g) (row:=none) qH));replace aa:=kB aa hb;replace HI0:=aM (Saa.below (qI HI0) hb);replace HK:=aM (KeepBut.trans qH (KeepBut.of_below hb g none) (.inl rfl));replace HB:=kH hb;clear hb aV)|((with_reducible refine jc 52 23 rfl rfl ?_);refine jG func52 #[.pointer (some ⟨g,0,none⟩),iV 4] ?_;refine (Sbn.calls dE g ai bF 4 t139 dI w0 _ ?af ?ag fq.out).mono ?_;(case af=>exact qI HI0);(case ag=>exact qB);rintro e gG ⟨rfl,hi,hb,hk⟩;refine⟨_,rfl,?_⟩;replace aa:=aM (KeepBut.blk hk (g':=ah) (o:=.cells #[iV 0,iV 0,iV 0,iV 0,iV 0] 27 (0,0)) (qK aa) ae.out (by simp));replace aJ:=aM (Kd.R_mono (Kd.R_keep (Saa.apart (show Saa w0 _ g ai bF from qI HI0) (qR aJ) (by decide)) hk (fun _ h=>h.2)) (fun _ h=>h.1));replace HK:=kI hk;replace HB:=aM hb;replace HI0:=aM hi;clear hb hk hi;obtain⟨fw,fA,dJ⟩:=Kd.R_slice aJ.out;subst dJ;have bG:0<=(t139:Int):=qD;have bH:t139 < (aN.length:Int):=qD;obtain⟨dS,dK,dF⟩:=Kd.at_int (Kd.R_reads' aJ.out).2.2 t139 bG bH;cases dK;replace bG:=eq_true bG;replace bH:=eq_true bH;have dU:=ae.out;have dV:=aj.out;have fB:=jz5 aa))
   refine bodyPost_ret (results_cell_row rfl _ _ ah 27 #[iV 1,iV bO,iV 0,iV 0,iV (rd aN t139)] (0,0) _ rfl (qF aa) underlying27 rfl (by kernel_rfl)) rfl ?_
   exact⟨qW,qI HI0,qB,qH⟩
  have bI:=aM H
  clear H
  go_upto_if 27 with (fail)
  go_cut [27] (fun v27 wc=>∃ (kq:Nat) (aD:Bool),v27 = .bool aD/\Aside0 (SbB.j1 kq a1 t130 aD ai t131=some (r1,r2,r3,r4,r5,r6))/\Aside0 (kq<=dE)/\Aside0 (wc.heap[ah]?=some (.cells #[iV 0,iV 0,iV 0,iV 0,iV 0] 27 (0,0)))/\Aside0 (Saa w0 wc g ai t131)/\Aside0 (KeepBut w wc g none)/\Aside0 (Below w0.heap.size w0 wc))
  case first =>
   have H:=bI.out
   clear bI
   replace H:=jE H;rcases H with ⟨az,bQ,H⟩ | ⟨c23,az,bQ,H⟩
   ·(first|rw [az]|(simp only [i64_w,i32_w];rw [az])|skip)
    have H':=aM H
    clear H
    go_wp2
    go_meet
    exact⟨_,((t130 == 2)),qZ,H',⟨by have:=bN.out;first|omega|exact Nat.le_refl _⟩,⟨qK aa⟩,⟨qI HI0⟩,⟨qH⟩,⟨qB⟩⟩
   (first|rw [az]|(simp only [i64_w,i32_w];rw [az])|skip)
   have H':=aM H
   clear H
   go_wp2
   go_meet
   exact⟨_,((t130 == 3)),qZ,H',⟨by have:=bN.out;first|omega|exact Nat.le_refl _⟩,⟨qK aa⟩,⟨qI HI0⟩,⟨qH⟩,⟨qB⟩⟩
  clear bI
  obtain⟨kq,aD,rfl,HA,bJ,aa,HI0,HK,HB⟩:=hcut
  cases kq with
  | zero=>exact absurd HA.out (by simp [SbB.j1])
  | succ bK =>
   have H:=HA.out
   clear HA
   simp only [SbB.j1] at H
   replace H:=jB H;rcases H with ⟨rfl,H⟩ | ⟨rfl,H⟩
   ·obtain⟨⟨bR,t143⟩,fC,H⟩:=qE H
    try dsimp only at H
    obtain⟨⟨bS,t145⟩,fD,H⟩:=qE H
    try dsimp only at H
    obtain⟨rfl,rfl,rfl,rfl,rfl,rfl⟩:=oJ6 H
    go_wp2_with (first|((with_reducible refine jc 77 31 rfl rfl ?_);refine jG func77 #[.pointer (some ⟨g,0,none⟩)] ?_;refine (SbD.calls bK g ai t131 bR t143 w0 _ ?af ?ag fC.out).mono ?_;(case af=>exact qI HI0);(case ag=>exact qB);rintro e gH ⟨rfl,hi,hb,hk⟩;refine⟨_,rfl,?_⟩;replace aa:=aM (KeepBut.blk hk (g':=ah) (o:=.cells #[iV 0,iV 0,iV 0,iV 0,iV 0] 27 (0,0)) (qK aa) ae.out (by simp));replace HK:=kI hk;replace HB:=aM hb;replace HI0:=aM hi;clear hb hk hi)|((with_reducible refine jc 77 34 rfl rfl ?_);refine jG func77 #[.pointer (some ⟨g,0,none⟩)] ?_;refine (SbD.calls bK g ai t143 bS t145 w0 _ ?af ?ag fD.out).mono ?_;(case af=>exact qI HI0);(case ag=>exact qB);rintro e gI ⟨rfl,hi,hb,hk⟩;refine⟨_,rfl,?_⟩;replace aa:=aM (KeepBut.blk hk (g':=ah) (o:=.cells #[iV 0,iV 0,iV 0,iV 0,iV 0] 27 (0,0)) (qK aa) ae.out (by simp));replace HK:=kI hk;replace HB:=aM hb;replace HI0:=aM hi;clear hb hk hi;have dW:=ae.out;have dX:=aj.out;have fE:=jz5 aa))
    refine bodyPost_ret (results_cell_row rfl _ _ ah 27 #[iV 2,iV bR,iV bS,iV 0,iV 0] (0,0) _ rfl (qF aa) underlying27 rfl (by kernel_rfl)) rfl ?_
    exact⟨qW,qI HI0,qB,qH⟩
   have bL:=aM H
   clear H
   go_upto_if 36 with (fail)
   go_cut [36] (fun v36 wc=>∃ (kq:Nat) (aG:Bool),v36 = .bool aG/\Aside0 (SbB.j2 kq a1 t130 aG ai t131=some (r1,r2,r3,r4,r5,r6))/\Aside0 (kq<=bK)/\Aside0 (wc.heap[ah]?=some (.cells #[iV 0,iV 0,iV 0,iV 0,iV 0] 27 (0,0)))/\Aside0 (Saa w0 wc g ai t131)/\Aside0 (KeepBut w wc g none)/\Aside0 (Below w0.heap.size w0 wc))
   case first =>
    have H:=bL.out
    clear bL
    replace H:=jE H;rcases H with ⟨aA,bT,H⟩ | ⟨c32,aA,bT,H⟩
    ·(first|rw [aA]|(simp only [i64_w,i32_w];rw [aA])|skip)
     have H':=aM H
     clear H
     go_wp2
     go_meet
     exact⟨_,((t130 == 4)),qZ,H',⟨by have:=bN.out;have:=bJ.out;first|omega|exact Nat.le_refl _⟩,⟨qK aa⟩,⟨qI HI0⟩,⟨qH⟩,⟨qB⟩⟩
    (first|rw [aA]|(simp only [i64_w,i32_w];rw [aA])|skip)
    replace H:=jE H;rcases H with ⟨bU,bV,H⟩ | ⟨gJ,bU,bV,H⟩
    ·have H':=aM H
     clear H
     go_wp2
     go_meet
     exact⟨_,((t130 == 5)),qZ,H',⟨by have:=bN.out;have:=bJ.out;first|omega|exact Nat.le_refl _⟩,⟨qK aa⟩,⟨qI HI0⟩,⟨qH⟩,⟨qB⟩⟩
    have H':=aM H
    clear H
    go_wp2
    go_meet
    exact⟨_,((t130 == 6)),qZ,H',⟨by have:=bN.out;have:=bJ.out;first|omega|exact Nat.le_refl _⟩,⟨qK aa⟩,⟨qI HI0⟩,⟨qH⟩,⟨qB⟩⟩
   clear bL
   obtain⟨kq,aG,rfl,HA,fF,aa,HI0,HK,HB⟩:=hcut
   cases kq with
   | zero=>exact absurd HA.out (by simp [SbB.j2])
   | succ av =>
    have H:=HA.out
    clear HA
    simp only [SbB.j2] at H
    replace H:=jB H;rcases H with ⟨rfl,H⟩ | ⟨rfl,H⟩
    ·obtain⟨⟨t146,bW⟩,fG,H⟩:=qE H
     try dsimp only at H
     obtain⟨⟨t148,bX⟩,fH,H⟩:=qE H
     try dsimp only at H
     obtain⟨⟨bY,bZ⟩,fI,H⟩:=qE H
     try dsimp only at H
     obtain⟨⟨t152,dL⟩,fJ,H⟩:=qE H
     try dsimp only at H
     obtain⟨rfl,rfl,rfl,rfl,rfl,rfl⟩:=oJ6 H
     go_wp2_with (first|((with_reducible refine jc 77 41 rfl rfl ?_);refine jG func77 #[.pointer (some ⟨g,0,none⟩)] ?_;refine (SbD.calls av g ai t131 t146 bW w0 _ ?af ?ag fG.out).mono ?_;(case af=>exact qI HI0);(case ag=>exact qB);rintro e gK ⟨rfl,hi,hb,hk⟩;refine⟨_,rfl,?_⟩;replace aa:=aM (KeepBut.blk hk (g':=ah) (o:=.cells #[iV 0,iV 0,iV 0,iV 0,iV 0] 27 (0,0)) (qK aa) ae.out (by simp));replace HK:=kI hk;replace HB:=aM hb;replace HI0:=aM hi;clear hb hk hi)|((with_reducible refine jc 77 43 rfl rfl ?_);refine jG func77 #[.pointer (some ⟨g,0,none⟩)] ?_;refine (SbD.calls av g ai bW t148 bX w0 _ ?af ?ag fH.out).mono ?_;(case af=>exact qI HI0);(case ag=>exact qB);rintro e gL ⟨rfl,hi,hb,hk⟩;refine⟨_,rfl,?_⟩;replace aa:=aM (KeepBut.blk hk (g':=ah) (o:=.cells #[iV 0,iV 0,iV 0,iV 0,iV 0] 27 (0,0)) (qK aa) ae.out (by simp));replace HK:=kI hk;replace HB:=aM hb;replace HI0:=aM hi;clear hb hk hi)|((with_reducible refine jc 77 45 rfl rfl ?_);refine jG func77 #[.pointer (some ⟨g,0,none⟩)] ?_;refine (SbD.calls av g ai bX bY bZ w0 _ ?af ?ag fI.out).mono ?_;(case af=>exact qI HI0);(case ag=>exact qB);rintro e gM ⟨rfl,hi,hb,hk⟩;refine⟨_,rfl,?_⟩;replace aa:=aM (KeepBut.blk hk (g':=ah) (o:=.cells #[iV 0,iV 0,iV 0,iV 0,iV 0] 27 (0,0)) (qK aa) ae.out (by simp));replace HK:=kI hk;replace HB:=aM hb;replace HI0:=aM hi;clear hb hk hi)|((with_reducible refine jc 79 50 rfl rfl ?_);refine jG func79 #[.pointer (some ⟨g,0,none⟩)] ?_;refine (Sbq.calls av g ai bZ t152 dL w0 _ ?af ?ag fJ.out).mono ?_;(case af=>exact qI HI0);(case ag=>exact qB);rintro e gN ⟨rfl,hi,hb,hk⟩;refine⟨_,rfl,?_⟩;replace aa:=aM (KeepBut.blk hk (g':=ah) (o:=.cells #[iV 0,iV 0,iV 0,iV 0,iV 0] 27 (0,0)) (qK aa) ae.out (by simp));replace HK:=kI hk;replace HB:=aM hb;replace HI0:=aM hi;clear hb hk hi;have dY:=ae.out;have dZ:=aj.out;have fK:=jz5 aa))
     refine bodyPost_ret (results_cell_row rfl _ _ ah 27 #[iV 3,iV t146,iV t148,iV bY,iV t152] (0,0) _ rfl (qF aa) underlying27 rfl (by kernel_rfl)) rfl ?_
     exact⟨qW,qI HI0,qB,qH⟩
    replace H:=jE H;rcases H with ⟨cz,cB,H⟩ | ⟨gP,cz,cB,H⟩
    ·obtain⟨⟨t154,dM⟩,fM,H⟩:=qE H
     try dsimp only at H
     obtain⟨rfl,rfl,rfl,rfl,rfl,rfl⟩:=oJ6 H
     go_wp2_with (first|((with_reducible refine jc 52 56 rfl rfl ?_);refine jG func52 #[.pointer (some ⟨g,0,none⟩),iV a1] ?_;refine (Sbn.calls av g ai t131 a1 t154 dM w0 _ ?af ?ag fM.out).mono ?_;(case af=>exact qI HI0);(case ag=>exact qB);rintro e gQ ⟨rfl,hi,hb,hk⟩;refine⟨_,rfl,?_⟩;replace aa:=aM (KeepBut.blk hk (g':=ah) (o:=.cells #[iV 0,iV 0,iV 0,iV 0,iV 0] 27 (0,0)) (qK aa) ae.out (by simp));replace HK:=kI hk;replace HB:=aM hb;replace HI0:=aM hi;clear hb hk hi;have d9:=ae.out;have ek:=aj.out;have fO:=jz5 aa))
     refine bodyPost_ret (results_cell_row rfl _ _ ah 27 #[iV 4,iV 0,iV 0,iV 0,iV t154] (0,0) _ rfl (qF aa) underlying27 rfl (by kernel_rfl)) rfl ?_
     exact⟨qW,qI HI0,qB,qH⟩
    replace H:=jE H;rcases H with ⟨cK,cO,H⟩ | ⟨gT,cK,cO,H⟩
    ·obtain⟨⟨t156,t157⟩,fP,H⟩:=qE H
     try dsimp only at H
     obtain⟨⟨df,t159⟩,fQ,H⟩:=qE H
     try dsimp only at H
     obtain⟨rfl,rfl,rfl,rfl,rfl,rfl⟩:=oJ6 H
     go_wp2_with (first|((with_reducible refine jc 77 61 rfl rfl ?_);refine jG func77 #[.pointer (some ⟨g,0,none⟩)] ?_;refine (SbD.calls av g ai t131 t156 t157 w0 _ ?af ?ag fP.out).mono ?_;(case af=>exact qI HI0);(case ag=>exact qB);rintro e gU ⟨rfl,hi,hb,hk⟩;refine⟨_,rfl,?_⟩;replace aa:=aM (KeepBut.blk hk (g':=ah) (o:=.cells #[iV 0,iV 0,iV 0,iV 0,iV 0] 27 (0,0)) (qK aa) ae.out (by simp));replace HK:=kI hk;replace HB:=aM hb;replace HI0:=aM hi;clear hb hk hi)|((with_reducible refine jc 52 65 rfl rfl ?_);refine jG func52 #[.pointer (some ⟨g,0,none⟩),iV a1] ?_;refine (Sbn.calls av g ai t157 a1 df t159 w0 _ ?af ?ag fQ.out).mono ?_;(case af=>exact qI HI0);(case ag=>exact qB);rintro e gV ⟨rfl,hi,hb,hk⟩;refine⟨_,rfl,?_⟩;replace aa:=aM (KeepBut.blk hk (g':=ah) (o:=.cells #[iV 0,iV 0,iV 0,iV 0,iV 0] 27 (0,0)) (qK aa) ae.out (by simp));replace HK:=kI hk;replace HB:=aM hb;replace HI0:=aM hi;clear hb hk hi;have eu:=ae.out;have eB:=aj.out;have fT:=jz5 aa))
     refine bodyPost_ret (results_cell_row rfl _ _ ah 27 #[iV 5,iV 0,iV t156,iV 0,iV df] (0,0) _ rfl (qF aa) underlying27 rfl (by kernel_rfl)) rfl ?_
     exact⟨qW,qI HI0,qB,qH⟩
    replace H:=jE H;rcases H with ⟨dh,di,H⟩ | ⟨gW,dh,di,H⟩
    ·obtain⟨⟨t160,dn⟩,fU,H⟩:=qE H
     try dsimp only at H
     obtain⟨⟨t162,dN⟩,fV,H⟩:=qE H
     try dsimp only at H
     obtain⟨rfl,rfl,rfl,rfl,rfl,rfl⟩:=oJ6 H
     go_wp2_with (first|((with_reducible refine jc 77 70 rfl rfl ?_);refine jG func77 #[.pointer (some ⟨g,0,none⟩)] ?_;refine (SbD.calls av g ai t131 t160 dn w0 _ ?af ?ag fU.out).mono ?_;(case af=>exact qI HI0);(case ag=>exact qB);rintro e gX ⟨rfl,hi,hb,hk⟩;refine⟨_,rfl,?_⟩;replace aa:=aM (KeepBut.blk hk (g':=ah) (o:=.cells #[iV 0,iV 0,iV 0,iV 0,iV 0] 27 (0,0)) (qK aa) ae.out (by simp));replace HK:=kI hk;replace HB:=aM hb;replace HI0:=aM hi;clear hb hk hi)|((with_reducible refine jc 52 73 rfl rfl ?_);refine jG func52 #[.pointer (some ⟨g,0,none⟩),iV 2] ?_;refine (Sbn.calls av g ai dn 2 t162 dN w0 _ ?af ?ag fV.out).mono ?_;(case af=>exact qI HI0);(case ag=>exact qB);rintro e gY ⟨rfl,hi,hb,hk⟩;refine⟨_,rfl,?_⟩;replace aa:=aM (KeepBut.blk hk (g':=ah) (o:=.cells #[iV 0,iV 0,iV 0,iV 0,iV 0] 27 (0,0)) (qK aa) ae.out (by simp));replace HK:=kI hk;replace HB:=aM hb;replace HI0:=aM hi;clear hb hk hi;have eD:=ae.out;have eF:=aj.out;have fZ:=jz5 aa))
     refine bodyPost_ret (results_cell_row rfl _ _ ah 27 #[iV 6,iV 0,iV t160,iV 0,iV t162] (0,0) _ rfl (qF aa) underlying27 rfl (by kernel_rfl)) rfl ?_
     exact⟨qW,qI HI0,qB,qH⟩
    replace H:=jE H;rcases H with ⟨dw,dx,H⟩ | ⟨c64,dw,dx,H⟩
    ·obtain⟨⟨t164,dz⟩,gm,H⟩:=qE H
     try dsimp only at H
     obtain⟨⟨dA,t167⟩,gp,H⟩:=qE H
     try dsimp only at H
     obtain⟨rfl,rfl,rfl,rfl,rfl,rfl⟩:=oJ6 H
     go_wp2_with (first|((with_reducible refine jc 77 78 rfl rfl ?_);refine jG func77 #[.pointer (some ⟨g,0,none⟩)] ?_;refine (SbD.calls av g ai t131 t164 dz w0 _ ?af ?ag gm.out).mono ?_;(case af=>exact qI HI0);(case ag=>exact qB);rintro e gZ ⟨rfl,hi,hb,hk⟩;refine⟨_,rfl,?_⟩;replace aa:=aM (KeepBut.blk hk (g':=ah) (o:=.cells #[iV 0,iV 0,iV 0,iV 0,iV 0] 27 (0,0)) (qK aa) ae.out (by simp));replace HK:=kI hk;replace HB:=aM hb;replace HI0:=aM hi;clear hb hk hi)|((with_reducible refine jc 52 81 rfl rfl ?_);refine jG func52 #[.pointer (some ⟨g,0,none⟩),iV 2] ?_;refine (Sbn.calls av g ai dz 2 dA t167 w0 _ ?af ?ag gp.out).mono ?_;(case af=>exact qI HI0);(case ag=>exact qB);rintro e ib ⟨rfl,hi,hb,hk⟩;refine⟨_,rfl,?_⟩;replace aa:=aM (KeepBut.blk hk (g':=ah) (o:=.cells #[iV 0,iV 0,iV 0,iV 0,iV 0] 27 (0,0)) (qK aa) ae.out (by simp));replace HK:=kI hk;replace HB:=aM hb;replace HI0:=aM hi;clear hb hk hi;have eG:=ae.out;have eH:=aj.out;have gq:=jz5 aa))
     refine bodyPost_ret (results_cell_row rfl _ _ ah 27 #[iV 7,iV t164,iV 0,iV 0,iV dA] (0,0) _ rfl (qF aa) underlying27 rfl (by kernel_rfl)) rfl ?_
     exact⟨qW,qI HI0,qB,qH⟩
    obtain⟨⟨t168,bM⟩,eO,H⟩:=qE H
    try dsimp only at H
    replace H:=jE H;rcases H with ⟨dB,dC,H⟩ | ⟨c72,dB,dC,H⟩
    ·obtain⟨rfl,rfl,rfl,rfl,rfl,rfl⟩:=oJ6 H
     go_wp2_with (first|((with_reducible refine jc 52 84 rfl rfl ?_);refine jG func52 #[.pointer (some ⟨g,0,none⟩),iV 4] ?_;refine (Sbn.calls av g ai t131 4 t168 bM w0 _ ?af ?ag eO.out).mono ?_;(case af=>exact qI HI0);(case ag=>exact qB);rintro e ic ⟨rfl,hi,hb,hk⟩;refine⟨_,rfl,?_⟩;replace aa:=aM (KeepBut.blk hk (g':=ah) (o:=.cells #[iV 0,iV 0,iV 0,iV 0,iV 0] 27 (0,0)) (qK aa) ae.out (by simp));replace HK:=kI hk;replace HB:=aM hb;replace HI0:=aM hi;clear hb hk hi;have eP:=ae.out;have eQ:=aj.out;have gu:=jz5 aa))
     refine bodyPost_ret (results_cell_row rfl _ _ ah 27 #[iV 8,iV 0,iV 0,iV 0,iV 0] (0,0) _ rfl (qF aa) underlying27 rfl (by kernel_rfl)) rfl ?_
     exact⟨qW,qI HI0,qB,qH⟩
    obtain⟨⟨dD,t171⟩,gz,H⟩:=qE H
    try dsimp only at H
    obtain⟨rfl,rfl,rfl,rfl,rfl,rfl⟩:=oJ6 H
    go_wp2_with (first|((with_reducible refine jc 52 84 rfl rfl ?_);refine jG func52 #[.pointer (some ⟨g,0,none⟩),iV 4] ?_;refine (Sbn.calls av g ai t131 4 t168 bM w0 _ ?af ?ag eO.out).mono ?_;(case af=>exact qI HI0);(case ag=>exact qB);rintro e ig ⟨rfl,hi,hb,hk⟩;refine⟨_,rfl,?_⟩;replace aa:=aM (KeepBut.blk hk (g':=ah) (o:=.cells #[iV 0,iV 0,iV 0,iV 0,iV 0] 27 (0,0)) (qK aa) ae.out (by simp));replace HK:=kI hk;replace HB:=aM hb;replace HI0:=aM hi;clear hb hk hi)|((with_reducible refine jc 77 88 rfl rfl ?_);refine jG func77 #[.pointer (some ⟨g,0,none⟩)] ?_;refine (SbD.calls av g ai bM dD t171 w0 _ ?af ?ag gz.out).mono ?_;(case af=>exact qI HI0);(case ag=>exact qB);rintro e ik ⟨rfl,hi,hb,hk⟩;refine⟨_,rfl,?_⟩;replace aa:=aM (KeepBut.blk hk (g':=ah) (o:=.cells #[iV 0,iV 0,iV 0,iV 0,iV 0] 27 (0,0)) (qK aa) ae.out (by simp));replace HK:=kI hk;replace HB:=aM hb;replace HI0:=aM hi;clear hb hk hi;have eT:=ae.out;have eU:=aj.out;have gB:=jz5 aa))
    refine bodyPost_ret (results_cell_row rfl _ _ ah 27 #[iV 9,iV 0,iV dD,iV 0,iV 0] (0,0) _ rfl (qF aa) underlying27 rfl (by kernel_rfl)) rfl ?_
    exact⟨qW,qI HI0,qB,qH⟩
def SbC.l0:Nat->Int->List (S27)->Int->List Int->Int->Option ((List (S27)) × Int)
 | 0,_,_,_,_,_=>none
 | k+1,x3,x4,x5,x1000,aQ=>if (wrap64 (x5+1)) < x3 then ((SbB.f k x1000 aQ x3).bind fun ai=>(if x4.length < 3518437208883 then (SbC.l0 k x3 (x4 ++ [(⟨ai.1,ai.2.1,ai.2.2.1,ai.2.2.2.1,ai.2.2.2.2.1⟩:S27)]) (wrap64 (x5+1)) x1000 ai.2.2.2.2.2) else (none))) else ((Sbn.f k x1000 aQ 3).bind fun ax=>(if ax.1=0 then ((Sbn.f k x1000 ax.2 x3).bind fun aT=>(if x4.length < 3518437208883 then (some ((x4 ++ [(⟨4,0,0,0,aT.1⟩:S27)]),aT.2)) else (none))) else (if x4.length < 3518437208883 then (some ((x4 ++ [(⟨10,0,0,0,0⟩:S27)]),ax.2)) else (none))))
def SbC.f (k:Nat) (af:List Int) (ay:Int):Option ((List (S27)) × Int):=(Sbn.f k af ay 14).bind fun aU=>(SbC.l0 k (wrap64 (1+aU.1)) (([]:List (S27))) 0 af aU.2)
theorem SbC.calls (k g:Nat) (af:List Int) (ay:Int) (r1:List (S27)) (r2:Int) (w0 w:World) (hI:Saa w0 w g af ay) (hB:Below w0.heap.size w0 w) (h:SbC.f k af ay=some (r1,r2)) :
  Calls prog 61 #[.pointer (some ⟨g,0,none⟩)] w fun e w'=>∃ bE:Value,e = .returned (bE)/\Kd.R k27 27 w' w.heap.size (fun _=>True) bE r1/\Saa w0 w' g af r2/\Below w0.heap.size w0 w'/\KeepBut w w' g none:=by
 have bI:=underlying27
 have HI0:=aM hI
 have HK:=aM (KeepBut.refl w g none)
 have HL:=aM hB.size
 clear hI
 have HW0:=aM hB.size
 have HB:=aM hB
 clear hB
 have H:=h;unfold SbC.f at H
 clear h
 obtain⟨⟨av,t173⟩,A2,H⟩:=qE H
 try dsimp only at H
 obtain⟨bz,au⟩:=ky ((([]:List (S27))):List (S27))
 first|replace H:=kz au H|rw [<- au.out] at H
 have H':=aM H
 clear H
 go_enter func61,ntmps61
 go_wp2_with (first|((with_reducible refine jc 52 7 rfl rfl ?_);refine jG func52 #[.pointer (some ⟨g,0,none⟩),iV 14] ?_;refine (Sbn.calls k g af ay 14 av t173 w0 _ ?ag ?ah A2.out).mono ?_;(case ag=>exact qI HI0);(case ah=>exact qB);rintro e w3 ⟨rfl,hi,hb,hk⟩;refine⟨_,rfl,?_⟩;replace HK:=kI hk;replace HB:=aM hb;replace HI0:=aM hi;clear hb hk hi)|((with_reducible refine jd 9 rfl ?_);refine jV k27 27 ([]:List (S27)) [] (Reps.none _ _) ?_;intro v175 w4 aW hb;(first|rw [<- au.out] at aW|(simp only [Int.reduceToNat] at aW;rw [<- au.out] at aW));have aX:=aM (Kd.R_lower aW (keep_size (w:=w) (g:=g) (row:=none) qH));replace HI0:=aM (Saa.below (qI HI0) hb);replace HK:=aM (KeepBut.trans qH (KeepBut.of_below hb g none) (.inl rfl));replace HB:=kH hb;clear hb aW))
 go_loopg [4,5] k (fun kq v4 v5 w'=>∃ (aj:List (S27)) (aV:Int) (aa:Int),v5 = iV aV/\Aside0 (SbC.l0 kq (wrap64 (1+av)) aj aV af aa=some (r1,r2))/\Aside0 (kq<=k)/\Aside0 (Kd.R k27 27 w' w.heap.size (fun _=>True) v4 aj)/\Aside0 (Saa w0 w' g af aa)/\Aside0 (KeepBut w w' g none)/\Aside0 (Below w0.heap.size w0 w'))
 case atStart=>exact⟨(bz),(0),(t173),qZ,H',⟨Nat.le_refl _⟩,⟨qR aX⟩,⟨qI HI0⟩,⟨qH⟩,⟨qB⟩⟩
 clear H'
 obtain⟨aj,aV,aa,rfl,HA,bF,ae,HI0,HK,HB⟩:=hrel
 rcases gk with _|k1
 ·exact absurd HA.out (by simp [SbC.l0])
 have H:=HA.out
 clear HA
 simp only [SbC.l0] at H
 replace H:=jD H;rcases H with ⟨bA,H⟩ | ⟨bA,H⟩
 ·obtain⟨⟨az,aA,aC,aD,aG,t182⟩,A7,H⟩:=qE H
  try dsimp only at H
  replace H:=jL H;obtain⟨bB,H⟩:=H
  obtain⟨bJ,aH⟩:=ky ((aj ++ [(⟨az,aA,aC,aD,aG⟩:S27)]):List (S27))
  first|replace H:=kz aH H|rw [<- aH.out] at H
  have H':=aM H
  clear H
  go_wp2_with (first|((with_reducible refine jc 70 19 rfl rfl ?_);refine jG func70 #[.pointer (some ⟨g,0,none⟩),iV (wrap64 (1+av))] ?_;refine (SbB.calls k1 g af aa (wrap64 (1+av)) az aA aC aD aG t182 w0 _ ?ag ?ah A7.out).mono ?_;(case ag=>exact qI HI0);(case ah=>exact qB);rintro e bK ⟨rfl,hi,hb,hk⟩;refine⟨_,rfl,?_⟩;replace ae:=aM (Kd.R_mono (Kd.R_keep (Saa.apart (show Saa w0 _ g af aa from qI HI0) (qR ae) (by decide)) hk (fun _ h=>h.2)) (fun _ h=>h.1));replace HK:=kI hk;replace HB:=aM hb;replace HI0:=aM hi;clear hb hk hi)|((with_reducible refine gate_builtin (b:=.append) (xs:=#[.tmp 16,.tmp 20]) rfl ?_);at_builtin;refine Kd.R_append k27 w.heap.size rfl (.tmp 16) (.tmp 20) 23 27 (.agg #[(iV 0),(iV 0),(iV 0),(iV 0),(iV 0)]) 40 rfl underlying23 info27 rfl (by decide) (by omega) u4 aj (⟨az,aA,aC,aD,aG⟩:S27) [iV az,iV aA,iV aC,iV aD,iV aG] (fun _=>True) (fun _=>False) rfl rfl ?aP (fun _ hk=>hk.elim) ?aF ?aO (Below.refl _ _) ?aS ?aL ?_;(case aP=>exact k27_mkM _ _ _ (⟨az,aA,aC,aD,aG⟩:S27));(case aF=>exact (fun _ _=>trivial));(case aO=>exact (qR ae));(case aS=>exact (keep_size (w:=w) (g:=g) (row:=none) qH));(case aL=>have:=bB.out;omega);intro bL bM ho hb hg hat;rw [<- aH.out] at ho;have aY:=aM ho;replace HI0:=aM (Saa.grown (qI HI0) hg (Saa.own_ne HI0.out ae.out (by decide)));replace HB:=aM (below_weaken qB HL.out hb);replace HK:=aM (KeepBut.trans qH (KeepBut.of_grown hg g) (Kd.R_base2 ae.out));clear ae;clear ho hb hg hat))
  go_roundg k1
  case measure=>have:=bF.out;omega
  exact⟨_,_,_,qZ,H',⟨by have:=bF.out;omega⟩,⟨qR aY⟩,⟨qI HI0⟩,⟨qH⟩,⟨qB⟩⟩
 obtain⟨⟨aZ,aN⟩,bG,H⟩:=qE H
 try dsimp only at H
 replace H:=jE H;rcases H with ⟨bg,bi,H⟩ | ⟨c12,bg,bi,H⟩
 ·obtain⟨⟨aI,bC⟩,bN,H⟩:=qE H
  try dsimp only at H
  replace H:=jL H;obtain⟨bn,H⟩:=H
  obtain⟨bO,aJ⟩:=ky ((aj ++ [(⟨4,0,0,0,aI⟩:S27)]):List (S27))
  first|replace H:=kz aJ H|rw [<- aJ.out] at H
  obtain⟨rfl,rfl⟩:=oJ2 H
  go_wp2_with (first|((with_reducible refine jc 52 23 rfl rfl ?_);refine jG func52 #[.pointer (some ⟨g,0,none⟩),iV 3] ?_;refine (Sbn.calls k1 g af aa 3 aZ aN w0 _ ?ag ?ah bG.out).mono ?_;(case ag=>exact qI HI0);(case ah=>exact qB);rintro e bD ⟨rfl,hi,hb,hk⟩;refine⟨_,rfl,?_⟩;replace ae:=aM (Kd.R_mono (Kd.R_keep (Saa.apart (show Saa w0 _ g af aa from qI HI0) (qR ae) (by decide)) hk (fun _ h=>h.2)) (fun _ h=>h.1));replace HK:=kI hk;replace HB:=aM hb;replace HI0:=aM hi;clear hb hk hi)|((with_reducible refine jc 52 28 rfl rfl ?_);refine jG func52 #[.pointer (some ⟨g,0,none⟩),iV (wrap64 (1+av))] ?_;refine (Sbn.calls k1 g af aN (wrap64 (1+av)) aI bC w0 _ ?ag ?ah bN.out).mono ?_;(case ag=>exact qI HI0);(case ah=>exact qB);rintro e bP ⟨rfl,hi,hb,hk⟩;refine⟨_,rfl,?_⟩;replace ae:=aM (Kd.R_mono (Kd.R_keep (Saa.apart (show Saa w0 _ g af aN from qI HI0) (qR ae) (by decide)) hk (fun _ h=>h.2)) (fun _ h=>h.1));replace HK:=kI hk;replace HB:=aM hb;replace HI0:=aM hi;clear hb hk hi)|((with_reducible refine gate_builtin (b:=.append) (xs:=#[.tmp 25,.tmp 30]) rfl ?_);at_builtin;refine Kd.R_append k27 w.heap.size rfl (.tmp 25) (.tmp 30) 23 27 (.agg #[(iV 0),(iV 0),(iV 0),(iV 0),(iV 0)]) 40 rfl underlying23 info27 rfl (by decide) (by omega) u4 aj (⟨4,0,0,0,aI⟩:S27) [iV 4,iV 0,iV 0,iV 0,iV aI] (fun _=>True) (fun _=>False) rfl rfl ?aP (fun _ hk=>hk.elim) ?aF ?aO (Below.refl _ _) ?aS ?aL ?_;(case aP=>exact k27_mkM _ _ _ (⟨4,0,0,0,aI⟩:S27));(case aF=>exact (fun _ _=>trivial));(case aO=>exact (qR ae));(case aS=>exact (keep_size (w:=w) (g:=g) (row:=none) qH));(case aL=>have:=bn.out;omega);intro bQ bR ho hb hg hat;rw [<- aJ.out] at ho;have bq:=aM ho;replace HI0:=aM (Saa.grown (qI HI0) hg (Saa.own_ne HI0.out ae.out (by decide)));replace HB:=aM (below_weaken qB HL.out hb);replace HK:=aM (KeepBut.trans qH (KeepBut.of_grown hg g) (Kd.R_base2 ae.out));clear ae;clear ho hb hg hat))
  go_ret
  exact⟨_,qW,qR bq,qI HI0,qB,qH⟩
 replace H:=jL H;obtain⟨bu,H⟩:=H
 obtain⟨bS,aK⟩:=ky ((aj ++ [(⟨10,0,0,0,0⟩:S27)]):List (S27))
 first|replace H:=kz aK H|rw [<- aK.out] at H
 obtain⟨rfl,rfl⟩:=oJ2 H
 go_wp2_with (first|((with_reducible refine jc 52 23 rfl rfl ?_);refine jG func52 #[.pointer (some ⟨g,0,none⟩),iV 3] ?_;refine (Sbn.calls k1 g af aa 3 aZ aN w0 _ ?ag ?ah bG.out).mono ?_;(case ag=>exact qI HI0);(case ah=>exact qB);rintro e bD ⟨rfl,hi,hb,hk⟩;refine⟨_,rfl,?_⟩;replace ae:=aM (Kd.R_mono (Kd.R_keep (Saa.apart (show Saa w0 _ g af aa from qI HI0) (qR ae) (by decide)) hk (fun _ h=>h.2)) (fun _ h=>h.1));replace HK:=kI hk;replace HB:=aM hb;replace HI0:=aM hi;clear hb hk hi)|((with_reducible refine gate_builtin (b:=.append) (xs:=#[.tmp 32,.tmp 34]) rfl ?_);at_builtin;refine Kd.R_append k27 w.heap.size rfl (.tmp 32) (.tmp 34) 23 27 (.agg #[(iV 0),(iV 0),(iV 0),(iV 0),(iV 0)]) 40 rfl underlying23 info27 rfl (by decide) (by omega) u4 aj (⟨10,0,0,0,0⟩:S27) [iV 10,iV 0,iV 0,iV 0,iV 0] (fun _=>True) (fun _=>False) rfl rfl ?aP (fun _ hk=>hk.elim) ?aF ?aO (Below.refl _ _) ?aS ?aL ?_;(case aP=>exact k27_mkM _ _ _ (⟨10,0,0,0,0⟩:S27));(case aF=>exact (fun _ _=>trivial));(case aO=>exact (qR ae));(case aS=>exact (keep_size (w:=w) (g:=g) (row:=none) qH));(case aL=>have:=bu.out;omega);intro v194 bT ho hb hg hat;rw [<- aK.out] at ho;have bv:=aM ho;replace HI0:=aM (Saa.grown (qI HI0) hg (Saa.own_ne HI0.out ae.out (by decide)));replace HB:=aM (below_weaken qB HL.out hb);replace HK:=aM (KeepBut.trans qH (KeepBut.of_grown hg g) (Kd.R_base2 ae.out));clear ae;clear ho hb hg hat))
 go_ret
 exact⟨_,qW,qR bv,qI HI0,qB,qH⟩
end Go.Proofs.YtebpplallecogaaGreat.M
