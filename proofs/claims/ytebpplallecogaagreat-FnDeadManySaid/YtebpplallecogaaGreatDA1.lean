/- Part 1 of the proof: A function as plain Lean and its contract: written by a program of this session's, turned from the kit's print. -/
import Derived.Test.YtebpplallecogaaGreatProg
import Derived.Below
import Derived.Deep.Draws
import Derived.Deep.AppendLies
import Derived.Maps.AppendAt
import Derived.OwnWalk
import Derived.Laws.BytesArg
import Derived.Laws.MakeOwn
import Derived.Laws.OwnMore
import Derived.Deep.OwnRows
import Derived.Tactics
import Derived.Lib.ConvBytes
import Derived.Laws.Slices
import Derived.WalkKit
import Derived.KernelRfl
import Derived.RowKit3
import Derived.Deep.LoopGhost
import Derived.Deep.QuietTactic
import Derived.BigQuiet
import Derived.WideLaws
import Derived.Deep.DeepCutAuto
import Derived.Deep.CutBlock
import Derived.Deep.RegionHeld3
import Derived.Laws.Rows
import Derived.Lib.AppendStr
import Derived.ArgAppend
import Derived.Laws.IdiomCopy
import Derived.OrdersHeld
import Derived.Laws.BitsLemmas
import Derived.RowKit
import Derived.Test.YtebpplallecogaaGreatDAWWords
import Derived.Test.YtebpplallecogaaGreatDAWLast
import Derived.Test.YtebpplallecogaaGreatDAWTab
import Derived.Test.YtebpplallecogaaGreatDAWFour
import Derived.Test.YtebpplallecogaaGreatDAWQPut
import Derived.Test.YtebpplallecogaaGreatDAWApart
import Derived.Test.YtebpplallecogaaGreatDAWArr
import Derived.Test.YtebpplallecogaaGreatDAWZeros
import Derived.Test.YtebpplallecogaaGreatDAWFoot
import Derived.Test.YtebpplallecogaaGreatDAWKept
import Derived.Test.YtebpplallecogaaGreatDAWShare
import Derived.Test.YtebpplallecogaaGreatDAWN
import Derived.Test.YtebpplallecogaaGreatDAWFootNe
import Derived.Test.YtebpplallecogaaGreatDAWAt
import Derived.Test.YtebpplallecogaaGreatDAWEqStruct
import Derived.Test.YtebpplallecogaaGreatDAWRepsOne
import Derived.Test.YtebpplallecogaaGreatDAWInv
import Derived.Test.YtebpplallecogaaGreatDAWInvWords
import Derived.Test.YtebpplallecogaaGreatDAWGuard
import Derived.Test.YtebpplallecogaaGreatDAWNEv
import Derived.Test.YtebpplallecogaaGreatDAWMore
set_option linter.unusedVariables false
set_option linter.unusedSimpArgs false
set_option maxHeartbeats 8000000
set_option maxRecDepth 100000
namespace Go.Proofs.YtebpplallecogaaGreat.M
open Go.RowKit Go.Proofs.YtebpplallecogaaGreatW.PrintWords Go.Proofs.YtebpplallecogaaGreatW.PrintLast Go.Proofs.YtebpplallecogaaGreatW.PrintMore
attribute [local go_sem] max2_int min2_int max_two min_two max_three min_three max_four min_four
def errW:Option Int->Value
  | none=>.nilIface
  | some c=>.iface 0 (.int .i64 c)
theorem errW_none:errW none = .nilIface:=rfl
theorem errW_some (c:Int):errW (some c) = .iface 0 (.int .i64 c):=rfl
theorem info3:(Tryz.prog.info? 3).map (fun i=>(i.zero,i.size,i.bytes))=some (some (.int .i64 0),1,8):=by kernel_rfl
theorem info4:(Tryz.prog.info? 4).map (fun i=>(i.zero,i.size,i.bytes))=some (some (.bool false),1,1):=by kernel_rfl
theorem info5:(Tryz.prog.info? 5).map (fun i=>(i.zero,i.size,i.bytes))=some (some (.int .u8 0),1,1):=by kernel_rfl
theorem info27:(Tryz.prog.info? 27).map (fun i=>(i.zero,i.size,i.bytes))=some (some (.agg #[(.int .i64 0),(.int .i64 0),(.int .i64 0),(.int .i64 0),(.int .i64 0)]),5,40):=by kernel_rfl
theorem info37:(Tryz.prog.info? 37).map (fun i=>(i.zero,i.size,i.bytes))=some (some (.slice none 0 0),1,24):=by kernel_rfl
theorem info43:(Tryz.prog.info? 43).map (fun i=>(i.zero,i.size,i.bytes))=some (some (.slice none 0 0),1,24):=by kernel_rfl
theorem info60:(Tryz.prog.info? 60).map (fun i=>(i.zero,i.size,i.bytes))=some (some (.int .u16 0),1,2):=by kernel_rfl
theorem info92:(Tryz.prog.info? 92).map (fun i=>(i.zero,i.size,i.bytes))=some (some (.agg #[(.int .i64 0),(.int .i64 0),(.int .i64 0),(.int .i64 0),(.int .i64 0),(.slice none 0 0),(.slice none 0 0),(.slice none 0 0)]),8,112):=by kernel_rfl
theorem info104:(Tryz.prog.info? 104).map (fun i=>(i.zero,i.size,i.bytes))=some (some (.slice none 0 0),1,24):=by kernel_rfl
theorem info118:(Tryz.prog.info? 118).map (fun i=>(i.zero,i.size,i.bytes))=some (some (.agg #[(.int .i64 0),(.int .i64 0)]),2,16):=by kernel_rfl
-- the values' own types
structure S27 where
  f0:Int
  f1:Int
  f2:Int
  f3:Int
  f4:Int
def z27:S27:=⟨(0:Int),(0:Int),(0:Int),(0:Int),(0:Int)⟩
def k27:Kd S27:=Kd.iso (Kd.pair (Kd.int .i64) (Kd.pair (Kd.int .i64) (Kd.pair (Kd.int .i64) (Kd.pair (Kd.int .i64) (Kd.int .i64))))) (fun x:S27=>(x.f0,x.f1,x.f2,x.f3,x.f4))
theorem k27_heap:Kd.Heap k27:=Kd.heap_iso _ (Kd.heap_pair (Kd.heap_int .i64) (Kd.heap_pair (Kd.heap_int .i64) (Kd.heap_pair (Kd.heap_int .i64) (Kd.heap_pair (Kd.heap_int .i64) (Kd.heap_int .i64)))))
theorem k27_open {w:World} {x:S27} {cs:List Value} (h:k27.K w x cs):cs=[.int .i64 x.f0,.int .i64 x.f1,.int .i64 x.f2,.int .i64 x.f3,.int .i64 x.f4]:=by
  obtain⟨_,_,rfl,rfl,⟨_,_,rfl,rfl,⟨_,_,rfl,rfl,⟨_,_,rfl,rfl,rfl⟩⟩⟩⟩:=h
  exact rfl
theorem k27_openM {w:World} {base:Nat} {ok:Nat->Prop} {x:S27} {cs:List Value} (h:k27.M w base ok x cs):cs=[.int .i64 x.f0,.int .i64 x.f1,.int .i64 x.f2,.int .i64 x.f3,.int .i64 x.f4]:=by
  obtain⟨_,_,rfl,rfl,⟨_,_,rfl,rfl,⟨_,_,rfl,rfl,⟨_,_,rfl,rfl,rfl⟩⟩⟩⟩:=h
  exact rfl
theorem k27_mkM (w:World) (base:Nat) (ok:Nat->Prop) (x:S27)  : k27.M w base ok x [.int .i64 x.f0,.int .i64 x.f1,.int .i64 x.f2,.int .i64 x.f3,.int .i64 x.f4]:=⟨[.int .i64 x.f0],[.int .i64 x.f1,.int .i64 x.f2,.int .i64 x.f3,.int .i64 x.f4],rfl,rfl,⟨[.int .i64 x.f1],[.int .i64 x.f2,.int .i64 x.f3,.int .i64 x.f4],rfl,rfl,⟨[.int .i64 x.f2],[.int .i64 x.f3,.int .i64 x.f4],rfl,rfl,⟨[.int .i64 x.f3],[.int .i64 x.f4],rfl,rfl,rfl⟩⟩⟩⟩
def rd_T27 (xs:List S27) (i:Int):S27:=xs.getD i.toNat z27
theorem at_T27 {w:World} {A:Option Addr} {n:Nat} {xs:List S27} (h:Kd.C k27 w A n xs) (i:Int) (h0:0<=i) (h1:i < n):∃ ad ,A=some ad/\w.cell? (ad.add (i.toNat*5))=some (.int .i64 (rd_T27 xs i).f0)/\w.cell? ⟨(ad.add (i.toNat*5)).block,(ad.add (i.toNat*5)).off+1,none⟩=some (.int .i64 (rd_T27 xs i).f1)/\w.cell? ⟨(ad.add (i.toNat*5)).block,(ad.add (i.toNat*5)).off+2,none⟩=some (.int .i64 (rd_T27 xs i).f2)/\w.cell? ⟨(ad.add (i.toNat*5)).block,(ad.add (i.toNat*5)).off+3,none⟩=some (.int .i64 (rd_T27 xs i).f3)/\w.cell? ⟨(ad.add (i.toNat*5)).block,(ad.add (i.toNat*5)).off+4,none⟩=some (.int .i64 (rd_T27 xs i).f4):=by
  obtain⟨ad,c,e,_,hK,hc0⟩:=Kd.C_get h z27 i h0 h1
  have hc:∀ j u,c[j]?=some u->w.cell? (ad.add (i.toNat*5+j))=some u:=hc0
  obtain rfl:=k27_open hK
  exact⟨ad,e,hc 0 _ rfl,by rw [<- add_field _ _ 1 (by omega)];exact hc 1 _ rfl,by rw [<- add_field _ _ 2 (by omega)];exact hc 2 _ rfl,by rw [<- add_field _ _ 3 (by omega)];exact hc 3 _ rfl,by rw [<- add_field _ _ 4 (by omega)];exact hc 4 _ rfl⟩
structure S90 where
  f0:Int
  f1:Int
  f2:(List S90)
def z90:S90:=⟨(0:Int),(0:Int),([]:List S90)⟩
def F90 (d:Kd S90):Kd S90:=Kd.iso (Kd.pair (Kd.int .i64) (Kd.pair (Kd.int .i64) (Kd.slice 90 d))) (fun x:S90=>(x.f0,x.f1,x.f2))
theorem mono90:Kd.Mono F90:=Kd.mono_iso _ (Kd.mono_pair (Kd.mono_const _) (Kd.mono_pair (Kd.mono_const _) (Kd.mono_slice 90 Kd.mono_id)))
theorem sub90:Kd.Sub F90 [90]:=Kd.sub_iso _ (Kd.sub_pair (Kd.sub_const _ (by decide)) (Kd.sub_pair (Kd.sub_const _ (by decide)) (Kd.sub_slice 90 (by decide) Kd.sub_id)))
theorem sz90:∀ n,(Kd.upto F90 3 [90] n).sz=3:=Kd.upto_sz (fun _=>rfl)
def k90:Kd S90:=Kd.fix F90 3 [90] sz90 (Kd.upto_E sub90)
theorem k90_open {w:World} {x:S90} {cs:List Value} (h:k90.K w x cs):∃ A2 c2,cs=[.int .i64 x.f0,.int .i64 x.f1,.slice A2 x.f2.length c2]/\x.f2.length<=c2/\k90.C w A2 x.f2.length x.f2:=by
  obtain⟨n,h⟩:=h
  cases n with
  | zero=>exact h.elim
  | succ n =>
    obtain⟨_,_,rfl,rfl,⟨_,_,rfl,rfl,⟨A2,c2,rfl,l2,g2⟩⟩⟩:=h
    exact⟨A2,c2,rfl,l2,Kd.fix_C g2⟩
theorem k90_mk (w:World) (x:S90) {A2:Option Addr} {c2:Nat} (l2:x.f2.length<=c2) (g2:k90.C w A2 x.f2.length x.f2):k90.K w x [.int .i64 x.f0,.int .i64 x.f1,.slice A2 x.f2.length c2]:=by
  obtain⟨n2,q2⟩:=Kd.fix_C_back mono90 g2
  have r2:=Kd.upto_C_le mono90 sz90 (show n2<=n2 by omega) q2
  exact⟨n2+1,⟨[.int .i64 x.f0],[.int .i64 x.f1,.slice A2 x.f2.length c2],rfl,rfl,⟨[.int .i64 x.f1],[.slice A2 x.f2.length c2],rfl,rfl,⟨A2,c2,rfl,l2,r2⟩⟩⟩⟩
theorem k90_mkF (W:World) (ok:Nat->Prop) (x:S90) {A2:Option Addr} {c2:Nat} (l2:x.f2.length<=c2) (g2:Kd.F k90 W ok A2 x.f2.length x.f2):Kd.FK k90 W ok x [.int .i64 x.f0,.int .i64 x.f1,.slice A2 x.f2.length c2]:=fun W2 hW=>k90_mk W2 x l2 (g2 W2 hW)
def rd_T90 (xs:List S90) (i:Int):S90:=xs.getD i.toNat z90
theorem at_T90 {w:World} {A:Option Addr} {n:Nat} {xs:List S90} (h:Kd.C k90 w A n xs) (i:Int) (h0:0<=i) (h1:i < n):∃ ad A2 c2,A=some ad/\w.cell? (ad.add (i.toNat*3))=some (.int .i64 (rd_T90 xs i).f0)/\w.cell? ⟨(ad.add (i.toNat*3)).block,(ad.add (i.toNat*3)).off+1,none⟩=some (.int .i64 (rd_T90 xs i).f1)/\w.cell? ⟨(ad.add (i.toNat*3)).block,(ad.add (i.toNat*3)).off+2,none⟩=some (.slice A2 (rd_T90 xs i).f2.length c2)/\(rd_T90 xs i).f2.length<=c2/\k90.C w A2 (rd_T90 xs i).f2.length (rd_T90 xs i).f2:=by
  obtain⟨ad,c,e,_,hK,hc0⟩:=Kd.C_get h z90 i h0 h1
  have hc:∀ j u,c[j]?=some u->w.cell? (ad.add (i.toNat*3+j))=some u:=hc0
  obtain⟨A2,c2,rfl,l2,g2⟩:=k90_open hK
  exact⟨ad,A2,c2,e,hc 0 _ rfl,by rw [<- add_field _ _ 1 (by omega)];exact hc 1 _ rfl,by rw [<- add_field _ _ 2 (by omega)];exact hc 2 _ rfl,l2,g2⟩
structure S92 where
  f0:Int
  f1:Int
  f2:Int
  f3:S90
  f4:(List S92)
  f5:(List S92)
def z92:S92:=⟨(0:Int),(0:Int),(0:Int),z90,([]:List S92),([]:List S92)⟩
def F92 (d:Kd S92):Kd S92:=Kd.iso (Kd.pair (Kd.int .i64) (Kd.pair (Kd.int .i64) (Kd.pair (Kd.int .i64) (Kd.pair k90 (Kd.pair (Kd.slice 92 d) (Kd.slice 92 d)))))) (fun x:S92=>(x.f0,x.f1,x.f2,x.f3,x.f4,x.f5))
theorem mono92:Kd.Mono F92:=Kd.mono_iso _ (Kd.mono_pair (Kd.mono_const _) (Kd.mono_pair (Kd.mono_const _) (Kd.mono_pair (Kd.mono_const _) (Kd.mono_pair (Kd.mono_const _) (Kd.mono_pair (Kd.mono_slice 92 Kd.mono_id) (Kd.mono_slice 92 Kd.mono_id))))))
theorem sub92:Kd.Sub F92 [90,92]:=Kd.sub_iso _ (Kd.sub_pair (Kd.sub_const _ (by decide)) (Kd.sub_pair (Kd.sub_const _ (by decide)) (Kd.sub_pair (Kd.sub_const _ (by decide)) (Kd.sub_pair (Kd.sub_const _ (by decide)) (Kd.sub_pair (Kd.sub_slice 92 (by decide) Kd.sub_id) (Kd.sub_slice 92 (by decide) Kd.sub_id))))))
theorem sz92:∀ n,(Kd.upto F92 8 [90,92] n).sz=8:=Kd.upto_sz (fun _=>rfl)
def k92:Kd S92:=Kd.fix F92 8 [90,92] sz92 (Kd.upto_E sub92)
theorem k92_open {w:World} {x:S92} {cs:List Value} (h:k92.K w x cs):∃ A5 c5 A6 c6 A7 c7,cs=[.int .i64 x.f0,.int .i64 x.f1,.int .i64 x.f2,.int .i64 x.f3.f0,.int .i64 x.f3.f1,.slice A5 x.f3.f2.length c5,.slice A6 x.f4.length c6,.slice A7 x.f5.length c7]/\x.f3.f2.length<=c5/\k90.C w A5 x.f3.f2.length x.f3.f2/\x.f4.length<=c6/\k92.C w A6 x.f4.length x.f4/\x.f5.length<=c7/\k92.C w A7 x.f5.length x.f5:=by
  obtain⟨n,h⟩:=h
  cases n with
  | zero=>exact h.elim
  | succ n =>
    obtain⟨_,_,rfl,rfl,⟨_,_,rfl,rfl,⟨_,_,rfl,rfl,⟨_,_,rfl,s3,⟨_,_,rfl,⟨A6,c6,rfl,l6,g6⟩,⟨A7,c7,rfl,l7,g7⟩⟩⟩⟩⟩⟩:=h
    obtain⟨A5,c5,rfl,l5,g5⟩:=k90_open s3
    exact⟨A5,c5,A6,c6,A7,c7,rfl,l5,g5,l6,Kd.fix_C g6,l7,Kd.fix_C g7⟩
theorem k92_mk (w:World) (x:S92) {A5:Option Addr} {c5:Nat} (l5:x.f3.f2.length<=c5) (g5:k90.C w A5 x.f3.f2.length x.f3.f2) {A6:Option Addr} {c6:Nat} (l6:x.f4.length<=c6) (g6:k92.C w A6 x.f4.length x.f4) {A7:Option Addr} {c7:Nat} (l7:x.f5.length<=c7) (g7:k92.C w A7 x.f5.length x.f5):k92.K w x [.int .i64 x.f0,.int .i64 x.f1,.int .i64 x.f2,.int .i64 x.f3.f0,.int .i64 x.f3.f1,.slice A5 x.f3.f2.length c5,.slice A6 x.f4.length c6,.slice A7 x.f5.length c7]:=by
  obtain⟨n6,q6⟩:=Kd.fix_C_back mono92 g6
  obtain⟨n7,q7⟩:=Kd.fix_C_back mono92 g7
  have r6:=Kd.upto_C_le mono92 sz92 (show n6<=(max n6 n7) by omega) q6
  have r7:=Kd.upto_C_le mono92 sz92 (show n7<=(max n6 n7) by omega) q7
  exact⟨(max n6 n7)+1,⟨[.int .i64 x.f0],[.int .i64 x.f1,.int .i64 x.f2,.int .i64 x.f3.f0,.int .i64 x.f3.f1,.slice A5 x.f3.f2.length c5,.slice A6 x.f4.length c6,.slice A7 x.f5.length c7],rfl,rfl,⟨[.int .i64 x.f1],[.int .i64 x.f2,.int .i64 x.f3.f0,.int .i64 x.f3.f1,.slice A5 x.f3.f2.length c5,.slice A6 x.f4.length c6,.slice A7 x.f5.length c7],rfl,rfl,⟨[.int .i64 x.f2],[.int .i64 x.f3.f0,.int .i64 x.f3.f1,.slice A5 x.f3.f2.length c5,.slice A6 x.f4.length c6,.slice A7 x.f5.length c7],rfl,rfl,⟨[.int .i64 x.f3.f0,.int .i64 x.f3.f1,.slice A5 x.f3.f2.length c5],[.slice A6 x.f4.length c6,.slice A7 x.f5.length c7],rfl,(k90_mk w x.f3 l5 g5),⟨[.slice A6 x.f4.length c6],[.slice A7 x.f5.length c7],rfl,⟨A6,c6,rfl,l6,r6⟩,⟨A7,c7,rfl,l7,r7⟩⟩⟩⟩⟩⟩⟩
theorem k92_mkF (W:World) (ok:Nat->Prop) (x:S92) {A5:Option Addr} {c5:Nat} (l5:x.f3.f2.length<=c5) (g5:Kd.F k90 W ok A5 x.f3.f2.length x.f3.f2) {A6:Option Addr} {c6:Nat} (l6:x.f4.length<=c6) (g6:Kd.F k92 W ok A6 x.f4.length x.f4) {A7:Option Addr} {c7:Nat} (l7:x.f5.length<=c7) (g7:Kd.F k92 W ok A7 x.f5.length x.f5):Kd.FK k92 W ok x [.int .i64 x.f0,.int .i64 x.f1,.int .i64 x.f2,.int .i64 x.f3.f0,.int .i64 x.f3.f1,.slice A5 x.f3.f2.length c5,.slice A6 x.f4.length c6,.slice A7 x.f5.length c7]:=fun W2 hW=>k92_mk W2 x l5 (g5 W2 hW) l6 (g6 W2 hW) l7 (g7 W2 hW)
def rd_T92 (xs:List S92) (i:Int):S92:=xs.getD i.toNat z92
theorem at_T92 {w:World} {A:Option Addr} {n:Nat} {xs:List S92} (h:Kd.C k92 w A n xs) (i:Int) (h0:0<=i) (h1:i < n):∃ ad A5 c5 A6 c6 A7 c7,A=some ad/\w.cell? (ad.add (i.toNat*8))=some (.int .i64 (rd_T92 xs i).f0)/\w.cell? ⟨(ad.add (i.toNat*8)).block,(ad.add (i.toNat*8)).off+1,none⟩=some (.int .i64 (rd_T92 xs i).f1)/\w.cell? ⟨(ad.add (i.toNat*8)).block,(ad.add (i.toNat*8)).off+2,none⟩=some (.int .i64 (rd_T92 xs i).f2)/\w.cell? ⟨(ad.add (i.toNat*8)).block,(ad.add (i.toNat*8)).off+3,none⟩=some (.int .i64 (rd_T92 xs i).f3.f0)/\w.cell? ⟨(ad.add (i.toNat*8)).block,(ad.add (i.toNat*8)).off+4,none⟩=some (.int .i64 (rd_T92 xs i).f3.f1)/\w.cell? ⟨(ad.add (i.toNat*8)).block,(ad.add (i.toNat*8)).off+5,none⟩=some (.slice A5 (rd_T92 xs i).f3.f2.length c5)/\w.cell? ⟨(ad.add (i.toNat*8)).block,(ad.add (i.toNat*8)).off+6,none⟩=some (.slice A6 (rd_T92 xs i).f4.length c6)/\w.cell? ⟨(ad.add (i.toNat*8)).block,(ad.add (i.toNat*8)).off+7,none⟩=some (.slice A7 (rd_T92 xs i).f5.length c7)/\(rd_T92 xs i).f3.f2.length<=c5/\k90.C w A5 (rd_T92 xs i).f3.f2.length (rd_T92 xs i).f3.f2/\(rd_T92 xs i).f4.length<=c6/\k92.C w A6 (rd_T92 xs i).f4.length (rd_T92 xs i).f4/\(rd_T92 xs i).f5.length<=c7/\k92.C w A7 (rd_T92 xs i).f5.length (rd_T92 xs i).f5:=by
  obtain⟨ad,c,e,_,hK,hc0⟩:=Kd.C_get h z92 i h0 h1
  have hc:∀ j u,c[j]?=some u->w.cell? (ad.add (i.toNat*8+j))=some u:=hc0
  obtain⟨A5,c5,A6,c6,A7,c7,rfl,l5,g5,l6,g6,l7,g7⟩:=k92_open hK
  exact⟨ad,A5,c5,A6,c6,A7,c7,e,hc 0 _ rfl,by rw [<- add_field _ _ 1 (by omega)];exact hc 1 _ rfl,by rw [<- add_field _ _ 2 (by omega)];exact hc 2 _ rfl,by rw [<- add_field _ _ 3 (by omega)];exact hc 3 _ rfl,by rw [<- add_field _ _ 4 (by omega)];exact hc 4 _ rfl,by rw [<- add_field _ _ 5 (by omega)];exact hc 5 _ rfl,by rw [<- add_field _ _ 6 (by omega)];exact hc 6 _ rfl,by rw [<- add_field _ _ 7 (by omega)];exact hc 7 _ rfl,l5,g5,l6,g6,l7,g7⟩
def rd_L6 (xs:List (List Bool)) (i:Int):(List Bool):=xs.getD i.toNat ([]:List Bool)
theorem at_L6 {w:World} {A:Option Addr} {n:Nat} {xs:List (List Bool)} (h:Kd.C (Kd.slice 4 Kd.bool) w A n xs) (i:Int) (h0:0<=i) (h1:i < n):∃ ad A0 c0,A=some ad/\w.cell? (ad.add i.toNat)=some (.slice A0 (rd_L6 xs i).length c0)/\(rd_L6 xs i).length<=c0/\Kd.bool.C w A0 (rd_L6 xs i).length (rd_L6 xs i):=by
  obtain⟨ad,c,e,_,hK,hc0⟩:=Kd.C_get h ([]:List Bool) i h0 h1
  have hc:∀ j u,c[j]?=some u->w.cell? (ad.add (i.toNat*1+j))=some u:=hc0
  obtain⟨A0,c0,rfl,l0,g0⟩:=hK
  exact⟨ad,A0,c0,e,by have hq:=hc 0 _ rfl;rwa [Nat.mul_one,Nat.add_zero] at hq,l0,g0⟩
structure S118 where
  f0:Int
  f1:Int
def z118:S118:=⟨(0:Int),(0:Int)⟩
def k118:Kd S118:=Kd.iso (Kd.pair (Kd.int .i64) (Kd.int .i64)) (fun x:S118=>(x.f0,x.f1))
theorem k118_open {w:World} {x:S118} {cs:List Value} (h:k118.K w x cs):cs=[.int .i64 x.f0,.int .i64 x.f1]:=by
  obtain⟨_,_,rfl,rfl,rfl⟩:=h
  exact rfl
theorem k118_openM {w:World} {base:Nat} {ok:Nat->Prop} {x:S118} {cs:List Value} (h:k118.M w base ok x cs):cs=[.int .i64 x.f0,.int .i64 x.f1]:=by
  obtain⟨_,_,rfl,rfl,rfl⟩:=h
  exact rfl
theorem k118_mkM (w:World) (base:Nat) (ok:Nat->Prop) (x:S118)  : k118.M w base ok x [.int .i64 x.f0,.int .i64 x.f1]:=⟨[.int .i64 x.f0],[.int .i64 x.f1],rfl,rfl,rfl⟩
def rd_T118 (xs:List S118) (i:Int):S118:=xs.getD i.toNat z118
theorem at_T118 {w:World} {A:Option Addr} {n:Nat} {xs:List S118} (h:Kd.C k118 w A n xs) (i:Int) (h0:0<=i) (h1:i < n):∃ ad ,A=some ad/\w.cell? (ad.add (i.toNat*2))=some (.int .i64 (rd_T118 xs i).f0)/\w.cell? ⟨(ad.add (i.toNat*2)).block,(ad.add (i.toNat*2)).off+1,none⟩=some (.int .i64 (rd_T118 xs i).f1):=by
  obtain⟨ad,c,e,_,hK,hc0⟩:=Kd.C_get h z118 i h0 h1
  have hc:∀ j u,c[j]?=some u->w.cell? (ad.add (i.toNat*2+j))=some u:=hc0
  obtain rfl:=k118_open hK
  exact⟨ad,e,hc 0 _ rfl,by rw [<- add_field _ _ 1 (by omega)];exact hc 1 _ rfl⟩
def rd_L8 (xs:List (List S118)) (i:Int):(List S118):=xs.getD i.toNat ([]:List S118)
theorem at_L8 {w:World} {A:Option Addr} {n:Nat} {xs:List (List S118)} (h:Kd.C (Kd.slice 118 k118) w A n xs) (i:Int) (h0:0<=i) (h1:i < n):∃ ad A0 c0,A=some ad/\w.cell? (ad.add i.toNat)=some (.slice A0 (rd_L8 xs i).length c0)/\(rd_L8 xs i).length<=c0/\k118.C w A0 (rd_L8 xs i).length (rd_L8 xs i):=by
  obtain⟨ad,c,e,_,hK,hc0⟩:=Kd.C_get h ([]:List S118) i h0 h1
  have hc:∀ j u,c[j]?=some u->w.cell? (ad.add (i.toNat*1+j))=some u:=hc0
  obtain⟨A0,c0,rfl,l0,g0⟩:=hK
  exact⟨ad,A0,c0,e,by have hq:=hc 0 _ rfl;rwa [Nat.mul_one,Nat.add_zero] at hq,l0,g0⟩
def rd_L9 (xs:List (List Int)) (i:Int):(List Int):=xs.getD i.toNat ([]:List Int)
theorem at_L9 {w:World} {A:Option Addr} {n:Nat} {xs:List (List Int)} (h:Kd.C (Kd.slice 3 (Kd.int .i64)) w A n xs) (i:Int) (h0:0<=i) (h1:i < n):∃ ad A0 c0,A=some ad/\w.cell? (ad.add i.toNat)=some (.slice A0 (rd_L9 xs i).length c0)/\(rd_L9 xs i).length<=c0/\(Kd.int .i64).C w A0 (rd_L9 xs i).length (rd_L9 xs i):=by
  obtain⟨ad,c,e,_,hK,hc0⟩:=Kd.C_get h ([]:List Int) i h0 h1
  have hc:∀ j u,c[j]?=some u->w.cell? (ad.add (i.toNat*1+j))=some u:=hc0
  obtain⟨A0,c0,rfl,l0,g0⟩:=hK
  exact⟨ad,A0,c0,e,by have hq:=hc 0 _ rfl;rwa [Nat.mul_one,Nat.add_zero] at hq,l0,g0⟩
theorem qE {α β:Type} {o:Option α} {f:α->Option β} {r:β} (h:o.bind f=some r):∃ a,Aside0 (o=some a)/\f a=some r:=by
  obtain⟨a,h1,h2⟩:=Option.bind_eq_some_iff.mp h
  exact⟨a,⟨h1⟩,h2⟩
theorem qB {B:Nat} {w W:World} (h:Below B w W:=by repeat (first|(with_reducible first|exact HB.out|apply below_alloc|apply pw_below_drewN|apply below_drew1|refine below_set ?_ (Aside0.out (by assumption)))|exact HB.out)):Below B w W:=h
theorem qD {p:Prop} [d:Decidable p] (h:decide p=true:=by first|(with_reducible assumption)|assumption):p:=of_decide_eq_true h
theorem qZ {p:Prop} (h:p:=by first|rfl|(simp;done)|(simp [*];done)):p:=h
theorem qM {p:Prop} (h:p:=by (try simp only [List.map_toArray,List.map_cons,List.map_nil]);first|done|rfl|(simp only [List.length_drop,List.length_take];rfl)):p:=h
theorem qK {p q:Prop} (h:Aside0 p) (f:p->q:=by intro h_;(with_reducible repeat (first|refine blk_drewN ?_ _|refine blk_drew ?_|refine blk_alloc ?_ _));exact h_):q:=f h.out
theorem qR {p q:Prop} (h:Aside0 p) (f:p->q:=by intro h_;(with_reducible repeat (first|apply Kd.R_alloc|apply Kd.R_drewN|apply Kd.R_drew));exact h_):q:=f h.out
theorem qH {p:Prop} (h:p:=by repeat (first|(with_reducible first|exact HK.out|apply KeepBut.set_|apply keep_drewN|apply keep_drew|apply keep_alloc|refine keep_far ?_ (Aside0.out (by assumption)) _)|exact HK.out)):p:=h
theorem qT {p:Prop} (h:p:=by repeat (first|(with_reducible first|exact HK.out|apply Kept.alloc|apply Kept.drewN|apply Kept.drew)|exact HK.out)):p:=h
theorem qN {p q:Prop} (h:Aside0 p) (f:p->q:=by intro h_;(with_reducible repeat (first|apply Kd.N_alloc|apply Kd.N_drewN|apply Kd.N_drew));exact h_):q:=f h.out
theorem qV {p q:Prop} (h:Aside0 p) (f:p->q:=by intro h_;(with_reducible repeat (first|apply Kd.V_alloc|apply Kd.V_drewN|apply Kd.V_drew));exact h_):q:=f h.out
theorem qS {p q:Prop} (h:Aside0 p) (f:p->q:=by intro h_;(with_reducible repeat (first|apply Kd.S_alloc|apply Kd.S_drewN|apply Kd.S_drew));exact h_):q:=f h.out
theorem foot_T27_0 {w:World} {ad:Addr} {n:Nat} {xs:List S27} (h:Kd.C k27 w (some ad) n xs) (i:Int) (h0:0<=i) (h1:i < n):w.cell? (ad.add (i.toNat*5))=some (.int .i64 (rd_T27 xs i).f0):=by
  obtain⟨ad2,e,h_0,h_1,h_2,h_3,h_4⟩:=at_T27 h i h0 h1
  injection e with e
  subst e
  exact h_0
theorem foot_T27_1 {w:World} {ad:Addr} {n:Nat} {xs:List S27} (h:Kd.C k27 w (some ad) n xs) (i:Int) (h0:0<=i) (h1:i < n):w.cell? ⟨(ad.add (i.toNat*5)).block,(ad.add (i.toNat*5)).off+1,none⟩=some (.int .i64 (rd_T27 xs i).f1):=by
  obtain⟨ad2,e,h_0,h_1,h_2,h_3,h_4⟩:=at_T27 h i h0 h1
  injection e with e
  subst e
  exact h_1
theorem foot_T27_2 {w:World} {ad:Addr} {n:Nat} {xs:List S27} (h:Kd.C k27 w (some ad) n xs) (i:Int) (h0:0<=i) (h1:i < n):w.cell? ⟨(ad.add (i.toNat*5)).block,(ad.add (i.toNat*5)).off+2,none⟩=some (.int .i64 (rd_T27 xs i).f2):=by
  obtain⟨ad2,e,h_0,h_1,h_2,h_3,h_4⟩:=at_T27 h i h0 h1
  injection e with e
  subst e
  exact h_2
theorem foot_T27_3 {w:World} {ad:Addr} {n:Nat} {xs:List S27} (h:Kd.C k27 w (some ad) n xs) (i:Int) (h0:0<=i) (h1:i < n):w.cell? ⟨(ad.add (i.toNat*5)).block,(ad.add (i.toNat*5)).off+3,none⟩=some (.int .i64 (rd_T27 xs i).f3):=by
  obtain⟨ad2,e,h_0,h_1,h_2,h_3,h_4⟩:=at_T27 h i h0 h1
  injection e with e
  subst e
  exact h_3
theorem foot_T27_4 {w:World} {ad:Addr} {n:Nat} {xs:List S27} (h:Kd.C k27 w (some ad) n xs) (i:Int) (h0:0<=i) (h1:i < n):w.cell? ⟨(ad.add (i.toNat*5)).block,(ad.add (i.toNat*5)).off+4,none⟩=some (.int .i64 (rd_T27 xs i).f4):=by
  obtain⟨ad2,e,h_0,h_1,h_2,h_3,h_4⟩:=at_T27 h i h0 h1
  injection e with e
  subst e
  exact h_4
theorem foot_T118_0 {w:World} {ad:Addr} {n:Nat} {xs:List S118} (h:Kd.C k118 w (some ad) n xs) (i:Int) (h0:0<=i) (h1:i < n):w.cell? (ad.add (i.toNat*2))=some (.int .i64 (rd_T118 xs i).f0):=by
  obtain⟨ad2,e,h_0,h_1⟩:=at_T118 h i h0 h1
  injection e with e
  subst e
  exact h_0
theorem foot_T118_1 {w:World} {ad:Addr} {n:Nat} {xs:List S118} (h:Kd.C k118 w (some ad) n xs) (i:Int) (h0:0<=i) (h1:i < n):w.cell? ⟨(ad.add (i.toNat*2)).block,(ad.add (i.toNat*2)).off+1,none⟩=some (.int .i64 (rd_T118 xs i).f1):=by
  obtain⟨ad2,e,h_0,h_1⟩:=at_T118 h i h0 h1
  injection e with e
  subst e
  exact h_1
theorem frozen_at {W w':World} {n:Nat} (hq:W.drewN n=w') {a:Addr} {b:Bool} (h:W.frozen? a=b):w'.frozen? a=b:=by
  rw [<- hq,World.frozen?_drewN];exact h
theorem tyap {α β:Type} {d:Kd α} {d':Kd β} {e e':Nat} {w:World} {base:Nat} {ok:Nat->Prop} {v:Value} {xs:List α} (h:d.R e w base ok v xs) (hne:∀ q,q∈e' :: d'.E->q≠e) {k:Nat} (hk:some k=v.ownBlock) (hs:∃ q,q∈e' :: d'.E/\∃ cells,w.heap[k]?=some (.cells cells q (0,0))):False:=by
  obtain⟨q,hq,c,hc⟩:=hs
  obtain⟨c',hc'⟩:=Kd.R_typed h k hk.symm
  rw [hc] at hc'
  injection hc' with hc'
  injection hc' with _ hc'
  exact hne q hq hc'
def jb (n k:Nat):Array Bool:=((List.range n).map fun i=>k.testBit i).toArray
theorem jI {c:Prop} [Decidable c] {α:Type} {A:Option α} {r:α} (h:(if c then A else none)=some r):decide c=true/\A=some r:=by
  by_cases x:c
  · exact⟨decide_eq_true x,by rwa [if_pos x] at h⟩
  · rw [if_neg x] at h;cases h
theorem jU {c:Prop} [Decidable c] {α:Type} {A:Option α} {r:α} (h:(if c then A else none)=some r):c/\A=some r:=⟨of_decide_eq_true (jI h).1,(jI h).2⟩
theorem jJ {c:Prop} [Decidable c] {α:Type} {A:Option α} {r:α} (h:(if c then A else none)=some r):c=True/\decide c=true/\A=some r:=⟨eq_true (jU h).1,jI h⟩
theorem jL {c:Prop} [Decidable c] {α:Type} {A:Option α} {r:α} (h:(if c then A else none)=some r):Aside0 c/\A=some r:=⟨⟨(jU h).1⟩,(jU h).2⟩
theorem jD {c:Prop} [Decidable c] {α:Type} {A B:Option α} {r:α} (h:(if c then A else B)=some r):(decide c=true/\A=some r)\/(decide c=false/\B=some r):=by
  by_cases x:c
  · exact .inl ⟨decide_eq_true x,by rwa [if_pos x] at h⟩
  · exact .inr ⟨decide_eq_false x,by rwa [if_neg x] at h⟩
theorem jE {β:Type} [BEq β] [LawfulBEq β] {x y:β} [Decidable (x=y)] {α:Type} {A B:Option α} {r:α} (h:(if x=y then A else B)=some r):((x == y)=true/\(x != y)=false/\A=some r)\/(¬ x=y/\(x == y)=false/\(x != y)=true/\B=some r):=by
  by_cases c:x=y
  · exact .inl ⟨beq_iff_eq.mpr c,bne_eq_false_iff_eq.mpr c,by rwa [if_pos c] at h⟩
  · exact .inr ⟨c,beq_eq_false_iff_ne.mpr c,bne_iff_ne.mpr c,by rwa [if_neg c] at h⟩
theorem jB {b:Bool} {α:Type} {A B:Option α} {r:α} (h:(if b=true then A else B)=some r):(b=true/\A=some r)\/(b=false/\B=some r):=by
  cases b
  · exact .inr ⟨rfl,h⟩
  · exact .inl ⟨rfl,h⟩
theorem blk_farO {w:World} {g g' j:Nat} {o:Option Obj} (h:w.heap[g]?=o) (hp:g≠g') (u:Value):(w.setCell ⟨g',j,none⟩ u).heap[g]?=o:=(Below.heap_setCell w ⟨g',j,none⟩ u g hp).trans h
theorem blk_farQ {w:World} {g g' j:Nat} {o:Option Obj} {u:Value} (h:w.heap[g]?=o) (hp:Aside0 (g≠g')):(w.setCell ⟨g',j,none⟩ u).heap[g]?=o:=(Below.heap_setCell w ⟨g',j,none⟩ u g hp.out).trans h
theorem blk_putE {w:World} {g t j:Nat} {cs:Array Value} {v:Value} (h:w.heap[g]?=some (.cells cs t (0,0))):(w.setCell ⟨g,j,none⟩ v).heap[g]?=some (.cells (cs.setIfInBounds j v) t (0,0)):=blk_put h j v rfl
theorem qF {p q:Prop} (h:Aside0 p) (f:p->q:=by
    intro h_
    apply Eq.trans
    · repeat (with_reducible first|exact h_|assumption|apply blk_putE|apply blk_farQ|apply blk_drewN|apply blk_drew|apply blk_alloc)
    · rfl):q:=f h.out
theorem qL {p q:Prop} (h:Aside0 p) (f:p->q:=by intro h_;(with_reducible repeat (first|refine blk_drewN ?_ _|refine blk_drew ?_|refine blk_alloc ?_ _|refine blk_farO ?_ (Aside0.out (by assumption)) _));exact h_):q:=f h.out
theorem mM {α:Type} {x y:Option α} (h:LeO x y:=by repeat' (first|(with_reducible first|exact LeO.refl _|exact LeO.none _|refine LeO.ite ?_ ?_|refine LeO.bind ?_ (fun _=>?_)|apply_assumption)|exact LeO.none _|apply_assumption|refine LeO.ite ?_ ?_|refine LeO.bind ?_ (fun _=>?_))):LeO x y:=h
theorem kC {p q:Prop} (h:p) (f:p->q:=by intro h_;repeat (first|exact h_|(with_reducible refine Kd.C_alloc ?_ _)|(with_reducible refine Kd.C_drewN ?_ _)|(with_reducible refine Kd.C_drew ?_))):q:=f h
theorem kn {w:World} {a:Addr} {v:Value} {b g:Nat} (h:w.cell? a=some v) (hg:Aside0 (w.heap.size<=g)) (e:a.block=b:=by first|rfl|exact add_block _ _):b≠g:=Nat.ne_of_lt (Nat.lt_of_lt_of_le (e ▸ World.block_lt_of_cell? _ _ h) hg.out)
theorem kx {w W:World} {a:Addr} {v:Value} (hb:Aside0 (Below w.heap.size w W)) (h:w.cell? a=some v):W.cell? a=some v:=(hb.out.cell (World.block_lt_of_cell? w _ h)).trans h
theorem ky {α:Type} (E:α):∃ y,Aside0 (y=E):=⟨E,⟨rfl⟩⟩
theorem kz {α β:Type} {y E:α} {f:α->Option β} {r:β} (N:Aside0 (y=E)) (h:(some E).bind f=some r):f y=some r:=by rw [N.out];exact h
theorem kQ {α:Type} {d:Kd α} {A:Option Addr} {n:Nat} {xs:List α} {w0 W w1:World} (h:Aside0 (d.C w0 A n xs)) (hb:Below W.heap.size W w1) (f:d.C w0 A n xs->d.C W A n xs:=by intro h_;exact kC h_):Aside0 (d.C w1 A n xs):=⟨Kd.C_below (f h.out) hb⟩
theorem kT {w W w1:World} {S:Nat->Prop} (hb:Below W.heap.size W w1) (h:Kept w W S:=by exact qT):Aside0 (Kept w w1 S):=⟨Kept.below h hb⟩
theorem kW {W w1:World} {a:Addr} {v:Value} (hb:Below W.heap.size W w1) (h:Aside0 (W.cell? a=some v)):Aside0 (w1.cell? a=some v):=⟨pw_cell_below hb h.out⟩
theorem kL {α:Type} {d:Kd α} {e:Nat} {ok:Nat->Prop} {v:Value} {xs:List α} {w W w1:World} (h:d.R e w1 W.heap.size ok v xs) (hb:w.heap.size<=W.heap.size:=by exact below_size qB):Aside0 (d.R e w1 w.heap.size ok v xs):=⟨Kd.R_lower h hb⟩
theorem kO {α β:Type} {d:Kd α} {d':Kd β} {e e' base:Nat} {ok ok':Nat->Prop} {u v:Value} {xs:List α} {ys:List β} {w0 W w1 w2:World} (h:Aside0 (d.R e w0 base ok u xs)) (ho:d'.R e' w2 W.heap.size ok' v ys) (hb:Below W.heap.size W w1) (f:d.R e w0 base ok u xs->d.R e W base ok u xs:=by intro h_;(with_reducible repeat (first|apply Kd.R_alloc|apply Kd.R_drewN|apply Kd.R_drew));exact h_):Aside0 (d.R e w1 base (fun k=>ok k/\some k≠v.ownBlock) u xs):=⟨Kd.R_elder' (f h.out) (Kd.R_base ho) hb⟩
theorem kf {p q:Prop} (h:p) (f:p->q:=by intro h_;first|exact h_|(rw [add_block];exact h_)|(show (Addr.add _ _).block≠_;rw [add_block];exact h_)|(dsimp only;exact h_)):q:=f h
theorem qW {p:Prop} (h:p:=by first|rfl|(simp [errW_none,errW_some] <;> rfl)|(simp [*,errW_none,errW_some] <;> rfl)):p:=h
theorem qU {p:Prop} (h:p:=by repeat (first|exact Drawn0.refl _|apply Drawn0.step)):p:=h
theorem kH {w W w1:World} (hb:Below W.heap.size W w1) (h:Below w.heap.size w W:=by exact qB):Aside0 (Below w.heap.size w w1):=⟨below_step h hb⟩
theorem kB {w0 W w1:World} {g:Nat} {o:Obj} (h:Aside0 (w0.heap[g]?=some o)) (hb:Below W.heap.size W w1) (f:w0.heap[g]?=some o->W.heap[g]?=some o:=by intro h_;(with_reducible repeat (first|refine blk_drewN ?_ _|refine blk_drew ?_|refine blk_alloc ?_ _|refine blk_farO ?_ (Aside0.out (by assumption)) _));exact h_):Aside0 (w1.heap[g]?=some o):=⟨blk_below (f h.out) hb⟩
theorem kR {α:Type} {d:Kd α} {e base:Nat} {ok:Nat->Prop} {v:Value} {xs:List α} {w0 W w1:World} (h:Aside0 (d.R e w0 base ok v xs)) (hb:Below W.heap.size W w1) (f:d.R e w0 base ok v xs->d.R e W base ok v xs:=by intro h_;(with_reducible repeat (first|apply Kd.R_alloc|apply Kd.R_drewN|apply Kd.R_drew));exact h_):Aside0 (d.R e w1 base ok v xs):=⟨Kd.R_below (f h.out) hb⟩
theorem kG {w W:World} {g:Nat} (hg:g=W.heap.size) (h:w.heap.size<=W.heap.size:=by exact below_size qB):Aside0 (w.heap.size<=g):=⟨hg ▸ h⟩
theorem kN {w0 W:World} {g g1:Nat} {o:Obj} (hg:g1=W.heap.size) (h:Aside0 (w0.heap[g]?=some o)) (f:w0.heap[g]?=some o->W.heap[g]?=some o:=by intro h_;(with_reducible repeat (first|refine blk_drewN ?_ _|refine blk_drew ?_|refine blk_alloc ?_ _|refine blk_farO ?_ (Aside0.out (by assumption)) _));exact h_):Aside0 (g≠g1):=⟨by rw [hg];exact Nat.ne_of_lt (blk_lt (f h.out))⟩
theorem kM {w0 W:World} {g g1:Nat} {o:Obj} (hg:g1=W.heap.size) (h:Aside0 (w0.heap[g]?=some o)) (f:w0.heap[g]?=some o->W.heap[g]?=some o:=by intro h_;(with_reducible repeat (first|refine blk_drewN ?_ _|refine blk_drew ?_|refine blk_alloc ?_ _|refine blk_farO ?_ (Aside0.out (by assumption)) _));exact h_):Aside0 (g1≠g):=⟨by rw [hg];exact Nat.ne_of_gt (blk_lt (f h.out))⟩
theorem kS {α:Type} {d:Kd α} {e base:Nat} {ok:Nat->Prop} {v:Value} {xs:List α} {w0 W w1:World} (h:Aside0 (d.S e w0 base ok v xs)) (hb:Below W.heap.size W w1) (f:d.S e w0 base ok v xs->d.S e W base ok v xs:=by intro h_;(with_reducible repeat (first|apply Kd.S_alloc|apply Kd.S_drewN|apply Kd.S_drew));exact h_):Aside0 (d.S e w1 base ok v xs):=⟨Kd.S_below (f h.out) hb⟩
section
variable {P:Program} {ops:Array Oper} {rest:List Oper} {o:Oper} {a:Act} {Q:Exit->Act->World->Prop}
theorem jV {α:Type} (d:Kd α) {W:World} (e:Nat) (xs:List α) (inner:List Value) {N:Tmp} (hrep:Reps (d.M W W.heap.size (fun _=>True)) d.sz xs inner) (h:∀ v1 w1,d.R e w1 W.heap.size (fun _=>True) v1 xs->Below W.heap.size W w1->wpList P ops Q rest (a.put o.dst v1) w1) (hgd:o.guard=none:=by rfl) (hd:o.dst=some N:=by rfl)
    (hrun:(execOp a.eval o).run P W = .ok (.value (.slice (some ⟨W.heap.size,0,none⟩) xs.length xs.length)) (W.alloc (.cells inner.toArray e)):=by first|(go_simp;done)|(go_simp;rfl)) (hm:xs.length<=9223372036854775807:=by simp):wpList P ops Q (o :: rest) a W :=
  Kd.R_lit d _ e hgd hd hrun hrep (fun _ hk=>hk) trivial (Below.refl _ _) (Nat.le_refl _) hm (fun v1 w1 h1 h2 _ _=>h v1 w1 h1 h2)
theorem jc {w:World} (f m:Nat) {xs:Array Operand} {ts:Array TypeId} (_h:o.op = .call { callee:=.value (.func f),args:=xs,argTypes:=ts }) (_g:o.dst=some m) (h:wpList P ops Q (o :: rest) a w):wpList P ops Q (o :: rest) a w:=h
theorem jd {w:World} (m:Nat) (_g:o.dst=some m) (h:wpList P ops Q (o :: rest) a w):wpList P ops Q (o :: rest) a w:=h
theorem jX {W:World} (cs:Array Value) (t:TypeId) {N:Tmp} (h:∀ g,g=W.heap.size->∀ w1,w1.heap[g]?=some (.cells cs t (0,0))->Below W.heap.size W w1->wpList P ops Q rest (a.put o.dst (.pointer (some ⟨g,0,none⟩))) w1) (hgd:o.guard=none:=by rfl) (hd:o.dst=some N:=by rfl)
    (hrun:(execOp a.eval o).run P W = .ok (.value (.pointer (some ⟨W.heap.size,0,none⟩))) (W.alloc (.cells cs t (0,0))):=by first|(go_simp;done)|(go_simp;rfl)):wpList P ops Q (o :: rest) a W:=box_event hgd hd hrun h
theorem jG {w:World} {f:FuncId} {fn:Func} {xs:Array Operand} {ts:Array TypeId} {N:Option Tmp} (hf:P.funcs[f]?=some fn) (args:Array Value) (h:Calls P f args w fun e w'=>∃ v,e = .returned v/\wpList P ops Q rest (a.put N v) w') (hd:o.dst=N:=by rfl) (hg:o.guard=none:=by rfl) (hname:(fn.name == "runtime.NumGoroutine")=false:=by kernel_rfl) (hb:fn.body.isSome=true:=by rfl)
    (hop:o.op = .call { callee:=.value (.func f),args:=xs,argTypes:=ts }:=by rfl) (hargs:xs.map a.eval=args:=by exact qM):wpList P ops Q (o :: rest) a w:=goesL_ N hd hg hf hname hb args hop hargs h
theorem jp {md:Region.Mode} {S:World->Prop} {ds:List Nat} (i m:Nat) {oi:Oper} {v:Value} {fuel:Nat} {l:Array Bool} {w:World} (l':Array Bool) {a':Act} (h:wpAnyLast P md ops Q S ds fuel l' a' w) (hi:ops[i]?=some oi:=by rfl) (hN:oi.dst=some m:=by rfl) (hc:anyB md ops l l' i=true:=by exact any_of HT_.out (by kernel_rfl))
    (hQ:∀ c a w,Q (.panic c) (a.put oi.dst v) w->Q (.panic c) a w:=by exact fun _ _ _ h=>h) (hy:Yields P ops oi v a:=by refine Or.inl ⟨by rfl,?_⟩;intro w';go_simp;with_reducible rfl) (ha:a.put (some m) v=a':=by simp only [Act.put,List.setIfInBounds_toArray,List.set_cons_zero,List.set_cons_succ,i64_w,i32_w];rfl):wpAnyLast P md ops Q S ds (fuel+1) l a w:=pure_ l' hi hN hc hQ hy ha h
theorem jt {md:Region.Mode} {S:World->Prop} {ds:List Nat} (i m:Nat) {oi:Oper} {v:Value} {fuel:Nat} {l:Array Bool} {w:World} (l':Array Bool) {a':Act} (h:wpAnyLast P md ops Q S ds fuel l' a' w) (hi:ops[i]?=some oi:=by rfl) (hN:oi.dst=some m:=by rfl) (hc:takeB md ops ds l l' i=true:=by exact take_ofW HT_.out HW_.out (by kernel_rfl))
    (hQ:∀ c a w,Q (.panic c) (a.put oi.dst v) w->Q (.panic c) a w:=by exact fun _ _ _ h=>h) (hy:YieldsIf P ops S oi v a:=by refine Or.inl ⟨by rfl,?_⟩;intro w' hS_;repeat (obtain⟨s_,hS_⟩:=hS_);go_simp;with_reducible rfl) (hS:S w:=by exact hHeld) (ha:a.put (some m) v=a':=by simp only [Act.put,List.setIfInBounds_toArray,List.set_cons_zero,List.set_cons_succ,i64_w,i32_w];rfl):wpAnyLast P md ops Q S ds (fuel+1) l a w:=take_ l' hi hN hc hQ hy hS ha h
end
theorem jz2 {w:World} {g t:Nat} {a0 a1:Value} (h:Aside0 (w.heap[g]?=some (.cells #[a0,a1] t (0,0)))):w.cell? ⟨g,0,none⟩=some a0/\w.cell? ⟨g,1,none⟩=some a1/\w.frozen? ⟨g,0,none⟩=false/\w.frozen? ⟨g,1,none⟩=false:=⟨(blk_cell h.out 0).trans rfl,(blk_cell h.out 1).trans rfl,blk_frozen h.out 0,blk_frozen h.out 1⟩
theorem jz3 {w:World} {g t:Nat} {a0 a1 a2:Value} (h:Aside0 (w.heap[g]?=some (.cells #[a0,a1,a2] t (0,0)))):w.cell? ⟨g,0,none⟩=some a0/\w.cell? ⟨g,1,none⟩=some a1/\w.cell? ⟨g,2,none⟩=some a2/\w.frozen? ⟨g,0,none⟩=false/\w.frozen? ⟨g,1,none⟩=false/\w.frozen? ⟨g,2,none⟩=false:=⟨(blk_cell h.out 0).trans rfl,(blk_cell h.out 1).trans rfl,(blk_cell h.out 2).trans rfl,blk_frozen h.out 0,blk_frozen h.out 1,blk_frozen h.out 2⟩
theorem jz5 {w:World} {g t:Nat} {a0 a1 a2 a3 a4:Value} (h:Aside0 (w.heap[g]?=some (.cells #[a0,a1,a2,a3,a4] t (0,0)))):w.cell? ⟨g,0,none⟩=some a0/\w.cell? ⟨g,1,none⟩=some a1/\w.cell? ⟨g,2,none⟩=some a2/\w.cell? ⟨g,3,none⟩=some a3/\w.cell? ⟨g,4,none⟩=some a4/\w.frozen? ⟨g,0,none⟩=false/\w.frozen? ⟨g,1,none⟩=false/\w.frozen? ⟨g,2,none⟩=false/\w.frozen? ⟨g,3,none⟩=false/\w.frozen? ⟨g,4,none⟩=false:=⟨(blk_cell h.out 0).trans rfl,(blk_cell h.out 1).trans rfl,(blk_cell h.out 2).trans rfl,(blk_cell h.out 3).trans rfl,(blk_cell h.out 4).trans rfl,blk_frozen h.out 0,blk_frozen h.out 1,blk_frozen h.out 2,blk_frozen h.out 3,blk_frozen h.out 4⟩
theorem jz8 {w:World} {g t:Nat} {a0 a1 a2 a3 a4 a5 a6 a7:Value} (h:Aside0 (w.heap[g]?=some (.cells #[a0,a1,a2,a3,a4,a5,a6,a7] t (0,0)))):w.cell? ⟨g,0,none⟩=some a0/\w.cell? ⟨g,1,none⟩=some a1/\w.cell? ⟨g,2,none⟩=some a2/\w.cell? ⟨g,3,none⟩=some a3/\w.cell? ⟨g,4,none⟩=some a4/\w.cell? ⟨g,5,none⟩=some a5/\w.cell? ⟨g,6,none⟩=some a6/\w.cell? ⟨g,7,none⟩=some a7/\w.frozen? ⟨g,0,none⟩=false/\w.frozen? ⟨g,1,none⟩=false/\w.frozen? ⟨g,2,none⟩=false/\w.frozen? ⟨g,3,none⟩=false/\w.frozen? ⟨g,4,none⟩=false/\w.frozen? ⟨g,5,none⟩=false/\w.frozen? ⟨g,6,none⟩=false/\w.frozen? ⟨g,7,none⟩=false:=⟨(blk_cell h.out 0).trans rfl,(blk_cell h.out 1).trans rfl,(blk_cell h.out 2).trans rfl,(blk_cell h.out 3).trans rfl,(blk_cell h.out 4).trans rfl,(blk_cell h.out 5).trans rfl,(blk_cell h.out 6).trans rfl,(blk_cell h.out 7).trans rfl,blk_frozen h.out 0,blk_frozen h.out 1,blk_frozen h.out 2,blk_frozen h.out 3,blk_frozen h.out 4,blk_frozen h.out 5,blk_frozen h.out 6,blk_frozen h.out 7⟩
theorem jT27 {w:World} {A:Option Addr} {n:Nat} {xs:List S27} (hr:Aside0 (Kd.C k27 w A n xs)) (i:Int) (p:decide (0<=i)=true:=by first|(with_reducible assumption)|assumption) (q:decide (i < (n:Int))=true:=by first|(with_reducible assumption)|assumption):∃ ad,A=some ad/\w.cell? (ad.add (i.toNat*5))=some (.int .i64 (rd_T27 xs i).f0)/\w.cell? ⟨(ad.add (i.toNat*5)).block,(ad.add (i.toNat*5)).off+1,none⟩=some (.int .i64 (rd_T27 xs i).f1)/\w.cell? ⟨(ad.add (i.toNat*5)).block,(ad.add (i.toNat*5)).off+2,none⟩=some (.int .i64 (rd_T27 xs i).f2)/\w.cell? ⟨(ad.add (i.toNat*5)).block,(ad.add (i.toNat*5)).off+3,none⟩=some (.int .i64 (rd_T27 xs i).f3)/\w.cell? ⟨(ad.add (i.toNat*5)).block,(ad.add (i.toNat*5)).off+4,none⟩=some (.int .i64 (rd_T27 xs i).f4)/\(0<=i)=True/\(i < (n:Int))=True:=by
  obtain⟨ad,e,h0,h1,h2,h3,h4⟩:=at_T27 hr.out i (of_decide_eq_true p) (of_decide_eq_true q)
  exact⟨ad,e,h0,h1,h2,h3,h4,eq_true (of_decide_eq_true p),eq_true (of_decide_eq_true q)⟩
theorem aM {p:Prop} (h:p):Aside0 p:=⟨h⟩
theorem oJ {α:Type} {a b:α} (h:some a=some b):a=b:=Option.some.inj h
theorem oJ2 {T0:Type} {a0 b0:T0} {T1:Type} {a1 b1:T1} (H:some (a0,a1)=some (b0,b1)):a0=b0 ∧ a1=b1:=by
 simp only [Option.some.injEq,Prod.mk.injEq] at H;exact H
theorem oJ3 {T0:Type} {a0 b0:T0} {T1:Type} {a1 b1:T1} {T2:Type} {a2 b2:T2} (H:some (a0,a1,a2)=some (b0,b1,b2)):a0=b0 ∧ a1=b1 ∧ a2=b2:=by
 simp only [Option.some.injEq,Prod.mk.injEq] at H;exact H
theorem oJ4 {T0:Type} {a0 b0:T0} {T1:Type} {a1 b1:T1} {T2:Type} {a2 b2:T2} {T3:Type} {a3 b3:T3} (H:some (a0,a1,a2,a3)=some (b0,b1,b2,b3)):a0=b0 ∧ a1=b1 ∧ a2=b2 ∧ a3=b3:=by
 simp only [Option.some.injEq,Prod.mk.injEq] at H;exact H
theorem oJ5 {T0:Type} {a0 b0:T0} {T1:Type} {a1 b1:T1} {T2:Type} {a2 b2:T2} {T3:Type} {a3 b3:T3} {T4:Type} {a4 b4:T4} (H:some (a0,a1,a2,a3,a4)=some (b0,b1,b2,b3,b4)):a0=b0 ∧ a1=b1 ∧ a2=b2 ∧ a3=b3 ∧ a4=b4:=by
 simp only [Option.some.injEq,Prod.mk.injEq] at H;exact H
theorem oJ6 {T0:Type} {a0 b0:T0} {T1:Type} {a1 b1:T1} {T2:Type} {a2 b2:T2} {T3:Type} {a3 b3:T3} {T4:Type} {a4 b4:T4} {T5:Type} {a5 b5:T5} (H:some (a0,a1,a2,a3,a4,a5)=some (b0,b1,b2,b3,b4,b5)):a0=b0 ∧ a1=b1 ∧ a2=b2 ∧ a3=b3 ∧ a4=b4 ∧ a5=b5:=by
 simp only [Option.some.injEq,Prod.mk.injEq] at H;exact H
theorem oJ9 {T0:Type} {a0 b0:T0} {T1:Type} {a1 b1:T1} {T2:Type} {a2 b2:T2} {T3:Type} {a3 b3:T3} {T4:Type} {a4 b4:T4} {T5:Type} {a5 b5:T5} {T6:Type} {a6 b6:T6} {T7:Type} {a7 b7:T7} {T8:Type} {a8 b8:T8} (H:some (a0,a1,a2,a3,a4,a5,a6,a7,a8)=some (b0,b1,b2,b3,b4,b5,b6,b7,b8)):a0=b0 ∧ a1=b1 ∧ a2=b2 ∧ a3=b3 ∧ a4=b4 ∧ a5=b5 ∧ a6=b6 ∧ a7=b7 ∧ a8=b8:=by
 simp only [Option.some.injEq,Prod.mk.injEq] at H;exact H
theorem kI {w W W1:World} {g:Nat} (k:KeepBut W W1 g none) (h:KeepBut w W g none:=by repeat (first|(with_reducible first|exact HK.out|apply KeepBut.set_|apply keep_drewN|apply keep_drew|apply keep_alloc|refine keep_far ?_ (Aside0.out (by assumption)) _)|exact HK.out)):Aside0 (KeepBut w W1 g none):=⟨h.trans k (.inl rfl)⟩
/-- A state of type 71 at block g of W;what its slices lead to came in by w0. -/
def Saa (w0 W:World) (g:Nat) (f0:List Int) (f1:Int):Prop:=∃ A0 c0,W.heap[g]?=some (.cells #[.slice A0 f0.length c0,.int .i64 f1] 71 (0,0))/\w0.heap.size<=g/\Kd.C (Kd.int .u8) w0 A0 f0.length f0
theorem Saa.grown {w0 W:World} {g:Nat} {f0:List Int} {f1:Int} {W1:World} {row:Option Nat} (h:Saa w0 W g f0 f1) (hw:W.grownBy W1 row) (hne:some g≠row):Saa w0 W1 g f0 f1:=by
 obtain⟨A0,c0,hb,hg,hr0⟩:=h
 exact⟨A0,c0,blk_grown hb hw hne,hg,hr0⟩
theorem Saa.own_neN {w0 W:World} {g:Nat} {f0:List Int} {f1:Int} {α:Type} {d:Kd α} {e base:Nat} {ok:Nat->Prop} {v:Value} {xs:List α} (h:Saa w0 W g f0 f1) (ho:Kd.N d e W base ok v xs) (ht:e≠71):some g≠v.ownBlock:=by
 obtain⟨A0,c0,hb,hg,hr0⟩:=h
 exact Kd.N_ne ho hb ht
theorem Saa.fresh {w0 W:World} {g:Nat} {f0:List Int} {f1:Int} (h:Saa w0 W g f0 f1):∀ k,W.heap.size<=k->k≠g:=by
 obtain⟨A0,c0,hb,hg,hr0⟩:=h
 exact Kd.freshB hb
theorem Saa.below {w0 W:World} {g:Nat} {f0:List Int} {f1:Int} {W1:World} (h:Saa w0 W g f0 f1) (hw:Below W.heap.size W W1):Saa w0 W1 g f0 f1:=h.grown (grown_of_below hw none) (by simp)
theorem Saa.alloc {w0 W:World} {g:Nat} {f0:List Int} {f1:Int} (h:Saa w0 W g f0 f1) (o:Obj):Saa w0 (W.alloc o) g f0 f1:=h.below (below_alloc (Below.refl _ _) o)
theorem Saa.drewN {w0 W:World} {g:Nat} {f0:List Int} {f1:Int} (h:Saa w0 W g f0 f1) (m:Nat):Saa w0 (W.drewN m) g f0 f1:=h
theorem Saa.drew {w0 W:World} {g:Nat} {f0:List Int} {f1:Int} (h:Saa w0 W g f0 f1):Saa w0 W.drew g f0 f1:=h
theorem Saa.at_ {w0 W:World} {g:Nat} {f0:List Int} {f1:Int} {w':World} {m:Nat} (hq:W.drewN m=w') (h:Saa w0 W g f0 f1):Saa w0 w' g f0 f1:=by subst hq;exact Saa.drewN h m
theorem Saa.apart {w0 W:World} {g:Nat} {f0:List Int} {f1:Int} {α:Type} {d:Kd α} {e base:Nat} {ok:Nat->Prop} {v:Value} {xs:List α} (h:Saa w0 W g f0 f1) (ho:d.R e W base ok v xs) (ht:∀ q,q∈e :: d.E->q≠71):d.R e W base (fun k=>ok k/\k≠g) v xs:=by
 obtain⟨A0,c0,hb,hg,hr0⟩:=h
 exact Kd.R_types ho hb ht
theorem Saa.own_ne {w0 W:World} {g:Nat} {f0:List Int} {f1:Int} {α:Type} {d:Kd α} {e base:Nat} {ok:Nat->Prop} {v:Value} {xs:List α} (h:Saa w0 W g f0 f1) (ho:d.R e W base ok v xs) (ht:e≠71):some g≠v.ownBlock:=by
 obtain⟨A0,c0,hb,hg,hr0⟩:=h
 exact Kd.R_ne ho hb ht
theorem Saa.lt {w0 W:World} {g:Nat} {f0:List Int} {f1:Int} (h:Saa w0 W g f0 f1):g < W.heap.size:=by
 obtain⟨A0,c0,hb,hg,hr0⟩:=h
 exact blk_lt hb
theorem Saa.ge {w0 W:World} {g:Nat} {f0:List Int} {f1:Int} (h:Saa w0 W g f0 f1):w0.heap.size<=g:=by
 obtain⟨A0,c0,hb,hg,hr0⟩:=h
 exact hg
theorem Saa.far {w0 W:World} {g:Nat} {f0:List Int} {f1:Int} {p:Addr} (h:Saa w0 W g f0 f1) (hne:g≠p.block) (u:Value):Saa w0 (W.setCell p u) g f0 f1:=by
 obtain⟨A0,c0,hb,hg,hr0⟩:=h
 exact⟨A0,c0,blk_far hb hne u,hg,hr0⟩
theorem cellS71_0 {W:World} {g:Nat} {A0:Option Addr} {c0:Nat} {f0:List Int} {f1:Int} (h:W.heap[g]?=some (.cells #[.slice A0 f0.length c0,.int .i64 f1] 71 (0,0))):W.cell? ⟨g,0,none⟩=some (.slice A0 f0.length c0):=(blk_cell h 0).trans rfl
theorem cellS71_1 {W:World} {g:Nat} {A0:Option Addr} {c0:Nat} {f0:List Int} {f1:Int} (h:W.heap[g]?=some (.cells #[.slice A0 f0.length c0,.int .i64 f1] 71 (0,0))):W.cell? ⟨g,1,none⟩=some (.int .i64 f1):=(blk_cell h 1).trans rfl
theorem Saa.set_1 {w0 W:World} {g:Nat} {f0:List Int} {f1:Int} (h:Saa w0 W g f0 f1) (x:Int):Saa w0 (W.setCell ⟨g,1,none⟩ (.int .i64 x)) g f0 x:=by
 obtain⟨A0,c0,hb,hg,hr0⟩:=h
 exact⟨A0,c0,by simpa using blk_set hb 1 (.int .i64 x),hg,hr0⟩
theorem qI {p q:Prop} (h:Aside0 p) (f:p->q:=by intro h_;repeat (first|(with_reducible first|exact h_|apply Saa.alloc|apply Saa.drewN|apply Saa.drew|apply Saa.set_1|refine Saa.far ?_ (Aside0.out (by assumption)) _)|exact h_)):q:=f h.out
theorem qBI {B:Nat} {w W:World} (h:Below B w W:=by repeat (first|(with_reducible first|exact HB.out|apply below_alloc|apply pw_below_drewN|apply below_drew1|refine below_set ?_ (Saa.ge (Aside0.out (by assumption))))|exact HB.out)):Below B w W:=h
def Sbo.j0:Nat->Int->Bool->List Int->Int->Option (Int × Int)
 | 0,_,_,_,_=>none
 | k+1,x1,x24,x1000,ae=>if x24=true then (some (0,ae)) else (if (wrap64 (ae - 1)) < (x1000.length:Int) then (if 0<=(wrap64 (ae - 1)) then (if x1=0 then (none) else (some (Int.tmod (wrap64 (rd x1000 (wrap64 (ae - 1)))) x1,ae))) else (none)) else (if (x1000.length:Int)=0 then (none) else (if 0<=(Int.tmod (wrap64 (ae - 1)) (x1000.length:Int)) then (if (Int.tmod (wrap64 (ae - 1)) (x1000.length:Int)) < (x1000.length:Int) then (if 0<=(Int.tmod (wrap64 ((wrap64 ((wrap64 (ae - 1))*7))+3)) (x1000.length:Int)) then (if (Int.tmod (wrap64 ((wrap64 ((wrap64 (ae - 1))*7))+3)) (x1000.length:Int)) < (x1000.length:Int) then (if x1=0 then (none) else (some (Int.tmod (Go.bits .xor .i64 (wrap64 ((wrap64 ((wrap64 ((wrap64 ((wrap64 (rd x1000 (Int.tmod (wrap64 (ae - 1)) (x1000.length:Int))))*131))+(wrap64 ((wrap64 (rd x1000 (Int.tmod (wrap64 ((wrap64 ((wrap64 (ae - 1))*7))+3)) (x1000.length:Int))))*1117))))+(wrap64 ((wrap64 (ae - 1))*29))))+(wrap64 ((wrap64 (Int.tdiv (wrap64 (ae - 1)) (x1000.length:Int)))*53)))) (wrap64 (Int.tdiv (wrap64 ((wrap64 ((wrap64 ((wrap64 ((wrap64 (rd x1000 (Int.tmod (wrap64 (ae - 1)) (x1000.length:Int))))*131))+(wrap64 ((wrap64 (rd x1000 (Int.tmod (wrap64 ((wrap64 ((wrap64 (ae - 1))*7))+3)) (x1000.length:Int))))*1117))))+(wrap64 ((wrap64 (ae - 1))*29))))+(wrap64 ((wrap64 (Int.tdiv (wrap64 (ae - 1)) (x1000.length:Int)))*53)))) 64))) x1,ae))) else (none)) else (none)) else (none)) else (none))))
def Sbo.f (k:Nat) (aa:List Int) (af a1:Int):Option (Int × Int):=if a1 < 1 then (Sbo.j0 k a1 true aa (wrap64 (af+1))) else (Sbo.j0 k a1 ((aa.length:Int) == 0) aa (wrap64 (af+1)))
theorem Sbo.calls (k g:Nat) (aa:List Int) (af a1 r1 r2:Int) (w0 w:World) (hI:Saa w0 w g aa af) (hB:Below w0.heap.size w0 w) (h:Sbo.f k aa af a1=some (r1,r2)) :
  Calls Tryz.prog 52 #[.pointer (some ⟨g,0,none⟩),.int .i64 a1] w fun e w'=>e = .returned (.int .i64 r1)/\Saa w0 w' g aa r2/\Below w0.heap.size w0 w'/\KeepBut w w' g none:=by
 have HI0:=aM hI
 have HK:=aM (KeepBut.refl w g none)
 have HL:=aM hB.size
 clear hI
 have HW0:=aM hB.size
 have HB:=aM hB
 clear hB
 have H:=h;unfold Sbo.f at H
 clear h
 have bz:=aM H
 clear H
 obtain⟨bA,bB,aH,bC,bD⟩:=HI0.out
 have di:=cellS71_0 aH
 have dn:=cellS71_1 aH
 have dw:=blk_frozen aH 1
 clear aH bC
 go_enter Tryz.func52,Tryz.ntmps52
 go_upto_region 2 with (fail)
 repeat (go_quiet (fail);go_upto_region 2 with (fail))
 go_cut [24] (fun v24 wc=>∃ (kq:Nat) (az:Bool),v24 = .bool az/\Aside0 (Sbo.j0 kq a1 az aa (wrap64 (af+1))=some (r1,r2))/\Aside0 (kq<=k)/\Aside0 (Saa w0 wc g aa (wrap64 (af+1)))/\Aside0 (KeepBut w wc g none)/\Aside0 (Below w0.heap.size w0 wc))
 case first =>
  have H:=bz.out
  clear bz
  replace H:=jD H;rcases H with ⟨aA,H⟩ | ⟨aA,H⟩
  ·(first|rw [aA]|(simp only [i64_w,i32_w];rw [aA])|skip)
   have H':=aM H
   clear H
   go_wp2
   repeat (go_quiet (fail);try go_wp2)
   go_meet
   exact⟨_,(true),qZ,H',⟨by first|omega|exact Nat.le_refl _⟩,⟨qI HI0⟩,⟨qH⟩,⟨qBI⟩⟩
  (first|rw [aA]|(simp only [i64_w,i32_w];rw [aA])|skip)
  have H':=aM H
  clear H
  obtain⟨bE,bF,aI,bG,bH⟩:=HI0.out
  have dx:=cellS71_0 aI
  have dz:=cellS71_1 aI
  have dA:=blk_frozen aI 1
  clear aI bG
  go_wp2
  repeat (go_quiet (fail);try go_wp2)
  go_meet
  exact⟨_,(((aa.length:Int) == 0)),qZ,H',⟨by first|omega|exact Nat.le_refl _⟩,⟨qI HI0⟩,⟨qH⟩,⟨qBI⟩⟩
 clear bz
 obtain⟨kq,az,rfl,HA,HJ2,HI0,HK,HB⟩:=hcut
 cases kq with
 | zero=>exact absurd HA.out (by simp [Sbo.j0])
 | succ dB =>
  have H:=HA.out
  clear HA
  simp only [Sbo.j0] at H
  replace H:=jB H;rcases H with ⟨rfl,H⟩ | ⟨rfl,H⟩
  ·obtain⟨rfl,rfl⟩:=oJ2 H
   go_wp2
   repeat (go_quiet (fail);try go_wp2)
   go_ret
   exact⟨qW,qI HI0,qBI,qH⟩
  replace H:=jD H;rcases H with ⟨aX,H⟩ | ⟨aX,H⟩
  ·obtain⟨aW,aC⟩:∃ j_:Int,(wrap64 ((wrap64 (af+1)) - 1))=j_:=⟨_,rfl⟩
   replace H:(if 0<=(aW) then (if a1=0 then (none) else (some (Int.tmod (wrap64 (rd aa (aW))) a1,(wrap64 (af+1))))) else (none))=some (r1,r2):=by first|(rw [aC] at H;exact H)|(simp only [aC] at H ⊢;exact H)
   (try rw [aC] at aX)
   have bL:(IntKind.i64.wrap ((wrap64 (af+1)) - 1))=aW:=(i64_w _).trans aC
   replace H:=jI H;obtain⟨bM,H⟩:=H
   by_cases c11:a1=0
   ·rw [if_pos c11] at H
    exact absurd H (by simp)
   rw [if_neg c11] at H
   have bN:(a1 == 0)=false:=beq_eq_false_iff_ne.mpr c11
   have bO:(a1 != 0)=true:=bne_iff_ne.mpr c11
   obtain⟨rfl,rfl⟩:=oJ2 H
   obtain⟨bn,bq,ai,aY,aJ⟩:=HI0.out
   have bP:=cellS71_0 ai
   have bQ:=cellS71_1 ai
   have bR:=blk_frozen ai 1
   clear ai aY
   have aK:0<=((aW):Int):=qD
   have aN:(aW) < (aa.length:Int):=qD
   obtain⟨bS,bI,aj⟩:=Kd.at_int aJ (aW) aK aN
   cases bI
   replace aj:=pw_cell_below HB.out aj
   replace aK:=eq_true aK
   replace aN:=eq_true aN
   go_wp2
   repeat (go_quiet (fail);try go_wp2)
   go_ret
   exact⟨by first|rfl|(simp [errW_none,errW_some] <;> rfl)|(simp only [<- aC];first|rfl|(simp [errW_none,errW_some] <;> rfl))|(simp [*,errW_none,errW_some] <;> rfl),qI HI0,qBI,qH⟩
  by_cases c13:(aa.length:Int)=0
  ·rw [if_pos c13] at H
   exact absurd H (by simp)
  rw [if_neg c13] at H
  have bT:((aa.length:Int) == 0)=false:=beq_eq_false_iff_ne.mpr c13
  have bU:((aa.length:Int) != 0)=true:=bne_iff_ne.mpr c13
  have bV:¬ (aa=[]):=fun h_=>c13 (by rw [h_];rfl)
  obtain⟨ag,aD⟩:∃ j_:Int,(Int.tmod (wrap64 ((wrap64 (af+1)) - 1)) (aa.length:Int))=j_:=⟨_,rfl⟩
  replace H:(if 0<=(ag) then (if (ag) < (aa.length:Int) then (if 0<=(Int.tmod (wrap64 ((wrap64 ((wrap64 ((wrap64 (af+1)) - 1))*7))+3)) (aa.length:Int)) then (if (Int.tmod (wrap64 ((wrap64 ((wrap64 ((wrap64 (af+1)) - 1))*7))+3)) (aa.length:Int)) < (aa.length:Int) then (if a1=0 then (none) else (some (Int.tmod (Go.bits .xor .i64 (wrap64 ((wrap64 ((wrap64 ((wrap64 ((wrap64 (rd aa (ag)))*131))+(wrap64 ((wrap64 (rd aa (Int.tmod (wrap64 ((wrap64 ((wrap64 ((wrap64 (af+1)) - 1))*7))+3)) (aa.length:Int))))*1117))))+(wrap64 ((wrap64 ((wrap64 (af+1)) - 1))*29))))+(wrap64 ((wrap64 (Int.tdiv (wrap64 ((wrap64 (af+1)) - 1)) (aa.length:Int)))*53)))) (wrap64 (Int.tdiv (wrap64 ((wrap64 ((wrap64 ((wrap64 ((wrap64 (rd aa (ag)))*131))+(wrap64 ((wrap64 (rd aa (Int.tmod (wrap64 ((wrap64 ((wrap64 ((wrap64 (af+1)) - 1))*7))+3)) (aa.length:Int))))*1117))))+(wrap64 ((wrap64 ((wrap64 (af+1)) - 1))*29))))+(wrap64 ((wrap64 (Int.tdiv (wrap64 ((wrap64 (af+1)) - 1)) (aa.length:Int)))*53)))) 64))) a1,(wrap64 (af+1))))) else (none)) else (none)) else (none)) else (none))=some (r1,r2):=by first|(rw [aD] at H;exact H)|(simp only [aD] at H ⊢;exact H)
  replace H:=jI H;obtain⟨bW,H⟩:=H
  replace H:=jI H;obtain⟨bX,H⟩:=H
  obtain⟨ah,aG⟩:∃ j_:Int,(Int.tmod (wrap64 ((wrap64 ((wrap64 ((wrap64 (af+1)) - 1))*7))+3)) (aa.length:Int))=j_:=⟨_,rfl⟩
  replace H:(if 0<=(ah) then (if (ah) < (aa.length:Int) then (if a1=0 then (none) else (some (Int.tmod (Go.bits .xor .i64 (wrap64 ((wrap64 ((wrap64 ((wrap64 ((wrap64 (rd aa (ag)))*131))+(wrap64 ((wrap64 (rd aa (ah)))*1117))))+(wrap64 ((wrap64 ((wrap64 (af+1)) - 1))*29))))+(wrap64 ((wrap64 (Int.tdiv (wrap64 ((wrap64 (af+1)) - 1)) (aa.length:Int)))*53)))) (wrap64 (Int.tdiv (wrap64 ((wrap64 ((wrap64 ((wrap64 ((wrap64 (rd aa (ag)))*131))+(wrap64 ((wrap64 (rd aa (ah)))*1117))))+(wrap64 ((wrap64 ((wrap64 (af+1)) - 1))*29))))+(wrap64 ((wrap64 (Int.tdiv (wrap64 ((wrap64 (af+1)) - 1)) (aa.length:Int)))*53)))) 64))) a1,(wrap64 (af+1))))) else (none)) else (none))=some (r1,r2):=by first|(rw [aG] at H;exact H)|(simp only [aG] at H ⊢;exact H)
  replace H:=jI H;obtain⟨bY,H⟩:=H
  replace H:=jI H;obtain⟨bZ,H⟩:=H
  by_cases c20:a1=0
  ·rw [if_pos c20] at H
   exact absurd H (by simp)
  rw [if_neg c20] at H
  have cz:(a1 == 0)=false:=beq_eq_false_iff_ne.mpr c20
  have cB:(a1 != 0)=true:=bne_iff_ne.mpr c20
  obtain⟨rfl,rfl⟩:=oJ2 H
  obtain⟨bu,bv,au,aZ,av⟩:=HI0.out
  have cK:=cellS71_0 au
  have cO:=cellS71_1 au
  have df:=blk_frozen au 1
  clear au aZ
  have aQ:0<=((ag):Int):=qD
  have aT:(ag) < (aa.length:Int):=qD
  obtain⟨bg,bJ,ax⟩:=Kd.at_int av (ag) aQ aT
  cases bJ
  replace ax:=pw_cell_below HB.out ax
  replace aQ:=eq_true aQ
  replace aT:=eq_true aT
  have aU:0<=((ah):Int):=qD
  have aV:(ah) < (aa.length:Int):=qD
  obtain⟨bi,bK,ay⟩:=Kd.at_int av (ah) aU aV
  obtain rfl:bg=bi:=(by injection bK)
  replace ay:=pw_cell_below HB.out ay
  replace aU:=eq_true aU
  replace aV:=eq_true aV
  go_wp2
  repeat (go_quiet (fail);try go_wp2)
  go_ret
  exact⟨by first|rfl|(simp [errW_none,errW_some] <;> rfl)|(simp only [<- aD,<- aG];first|rfl|(simp [errW_none,errW_some] <;> rfl))|(simp [*,errW_none,errW_some] <;> rfl),qI HI0,qBI,qH⟩
def SbE.f (k:Nat) (aa:List Int) (ae:Int):Option (Int × Int):=(Sbo.f k aa ae 6).bind fun af=>(some (af.1,af.2))
theorem SbE.calls (k g:Nat) (aa:List Int) (ae r1 r2:Int) (w0 w:World) (hI:Saa w0 w g aa ae) (hB:Below w0.heap.size w0 w) (h:SbE.f k aa ae=some (r1,r2)) :
  Calls Tryz.prog 77 #[.pointer (some ⟨g,0,none⟩)] w fun e w'=>e = .returned (.int .i64 r1)/\Saa w0 w' g aa r2/\Below w0.heap.size w0 w'/\KeepBut w w' g none:=by
 have HI0:=aM hI
 have HK:=aM (KeepBut.refl w g none)
 have HL:=aM hB.size
 clear hI
 have HW0:=aM hB.size
 have HB:=aM hB
 clear hB
 have H:=h;unfold SbE.f at H
 clear h
 obtain⟨⟨ai,t105⟩,A2,H⟩:=qE H
 try dsimp only at H
 obtain⟨rfl,rfl⟩:=oJ2 H
 go_enter Tryz.func77,Tryz.ntmps77
 go_wp2_with (first|((with_reducible refine jc 52 4 rfl rfl ?_);refine jG Tryz.func52 #[.pointer (some ⟨g,0,none⟩),.int .i64 6] ?_;refine (Sbo.calls k g aa ae 6 ai t105 w0 _ ?ag ?ah A2.out).mono ?_;(case ag=>exact qI HI0);(case ah=>exact qB);rintro e w3 ⟨rfl,hi,hb,hk⟩;refine⟨_,rfl,?_⟩;replace HK:=kI hk;replace HB:=aM hb;replace HI0:=aM hi;clear hb hk hi))
 go_ret
 exact⟨qW,qI HI0,qB,qH⟩
def Saz.f (a0:Int):Option (Int):=if (Int.tmod a0 4294967296) > 2147483647 then (some (wrap64 ((Int.tmod a0 4294967296) - 4294967296))) else (if (Int.tmod a0 4294967296) < (-2147483648) then (some (wrap64 ((Int.tmod a0 4294967296)+4294967296))) else (some (Int.tmod a0 4294967296)))
theorem Saz.calls (a0 r:Int) (w:World) (h:Saz.f a0=some r) :
  Calls Tryz.prog 87 #[.int .i64 a0] w fun e w'=>e = .returned (.int .i64 r)/\Drawn0 w w':=by
 have H:=h;unfold Saz.f at H
 clear h
 replace H:=jD H;rcases H with ⟨aa,H⟩ | ⟨aa,H⟩
 ·obtain rfl:=oJ H
  go_enter Tryz.func87,Tryz.ntmps87
  go_wp2
  go_ret
  exact⟨qZ,qU⟩
 replace H:=jD H;rcases H with ⟨ae,H⟩ | ⟨ae,H⟩
 ·obtain rfl:=oJ H
  go_enter Tryz.func87,Tryz.ntmps87
  go_wp2
  go_ret
  exact⟨qZ,qU⟩
 obtain rfl:=oJ H
 go_enter Tryz.func87,Tryz.ntmps87
 go_wp2
 go_ret
 exact⟨qZ,qU⟩
def Sbs.f (k:Nat) (af:List Int) (au:Int):Option (Int × Int):=(Sbo.f k af au 6).bind fun ag=>(if ag.1=0 then ((some (([(-2147483648),2147483647,(-1),0,1,(-2147483647),65536,(-65536)]:List Int):List Int)).bind fun ax=>((Sbo.f k af ag.2 8).bind fun ah=>(if 0<=ah.1 then (if ah.1 < (ax.length:Int) then (some (rd ax ah.1,ah.2)) else (none)) else (none)))) else (if ag.1=1 then ((Sbo.f k af ag.2 256).bind fun az=>((Sbo.f k af az.2 256).bind fun aA=>((Sbo.f k af aA.2 256).bind fun aC=>((Sbo.f k af aC.2 200).bind fun aD=>((Saz.f (wrap64 ((wrap64 ((wrap64 ((wrap64 (az.1*65536))+(wrap64 (aA.1*256))))+aC.1))*(wrap64 (1+aD.1))))).bind fun aI=>(some (aI,aD.2))))))) else (if ag.1=2 then ((Sbo.f k af ag.2 200).bind fun aG=>(some (wrap64 (-aG.1),aG.2))) else ((Sbo.f k af ag.2 20).bind fun aH=>(some (aH.1,aH.2))))))
theorem Sbs_0 {G:Prop} (h:G:=by
  go_enter Tryz.func78,Tryz.ntmps78
  go_wp2_with (first|((with_reducible refine jc 52 4 rfl rfl ?_);refine jG Tryz.func52 #[.pointer (some ⟨g,0,none⟩),.int .i64 6] ?_;refine (Sbo.calls k g af au 6 bg t107 w0 _ ?aa ?ae A2.out).mono ?_;(case aa=>exact qI HI0);(case ae=>exact qB);rintro e bE ⟨rfl,hi,hb,hk⟩;refine⟨_,rfl,?_⟩;replace HK:=kI hk;replace HB:=aM hb;replace HI0:=aM hi;clear hb hk hi)|((with_reducible refine jd 7 rfl ?_);refine jV (Kd.int .i64) 3 ([(-2147483648),2147483647,(-1),0,1,(-2147483647),65536,(-65536)]:List Int) [.int .i64 (-2147483648),.int .i64 2147483647,.int .i64 (-1),.int .i64 0,.int .i64 1,.int .i64 (-2147483647),.int .i64 65536,.int .i64 (-65536)] (Reps.one (show Kd.M (Kd.int .i64) _ _ _ (-2147483648) [.int .i64 (-2147483648)] from rfl) (Reps.one (show Kd.M (Kd.int .i64) _ _ _ 2147483647 [.int .i64 2147483647] from rfl) (Reps.one (show Kd.M (Kd.int .i64) _ _ _ (-1) [.int .i64 (-1)] from rfl) (Reps.one (show Kd.M (Kd.int .i64) _ _ _ 0 [.int .i64 0] from rfl) (Reps.one (show Kd.M (Kd.int .i64) _ _ _ 1 [.int .i64 1] from rfl) (Reps.one (show Kd.M (Kd.int .i64) _ _ _ (-2147483647) [.int .i64 (-2147483647)] from rfl) (Reps.one (show Kd.M (Kd.int .i64) _ _ _ 65536 [.int .i64 65536] from rfl) (Reps.one (show Kd.M (Kd.int .i64) _ _ _ (-65536) [.int .i64 (-65536)] from rfl) (Reps.none _ _))))))))) ?_;intro v109 bF av hb;(first|rw [<- ai.out] at av|(simp only [Int.reduceToNat] at av;rw [<- ai.out] at av));have aj:=aM (Kd.R_lower av (keep_size (w:=w) (g:=g) (row:=none) qH));replace HI0:=aM (Saa.below (qI HI0) hb);replace HK:=aM (KeepBut.trans qH (KeepBut.of_below hb g none) (.inl rfl));replace HB:=kH hb;clear hb av)|((with_reducible refine jc 52 9 rfl rfl ?_);refine jG Tryz.func52 #[.pointer (some ⟨g,0,none⟩),.int .i64 8] ?_;refine (Sbo.calls k g af t107 8 ay bi w0 _ ?aa ?ae A4.out).mono ?_;(case aa=>exact qI HI0);(case ae=>exact qB);rintro e bG ⟨rfl,hi,hb,hk⟩;refine⟨_,rfl,?_⟩;replace aj:=aM (Kd.R_mono (Kd.R_keep (Saa.apart (show Saa w0 _ g af t107 from qI HI0) (qR aj) (by decide)) hk (fun _ h=>h.2)) (fun _ h=>h.1));replace HK:=kI hk;replace HB:=aM hb;replace HI0:=aM hi;clear hb hk hi;obtain⟨bH,bI,bn⟩:=Kd.R_slice aj.out;subst bn;have aJ:0<=(ay:Int):=qD;have aK:ay < (ax.length:Int):=qD;obtain⟨bD,bq,aZ⟩:=Kd.at_int (Kd.R_reads' aj.out).2.2 ay aJ aK;cases bq;replace aJ:=eq_true aJ;replace aK:=eq_true aK)|((with_reducible refine jc 52 15 rfl rfl ?_);refine jG Tryz.func52 #[.pointer (some ⟨g,0,none⟩),.int .i64 256] ?_;refine (Sbo.calls k g af t107 256 aN aU w0 _ ?aa ?ae bJ.out).mono ?_;(case aa=>exact qI HI0);(case ae=>exact qB);rintro e bK ⟨rfl,hi,hb,hk⟩;refine⟨_,rfl,?_⟩;replace HK:=kI hk;replace HB:=aM hb;replace HI0:=aM hi;clear hb hk hi)|((with_reducible refine jc 52 18 rfl rfl ?_);refine jG Tryz.func52 #[.pointer (some ⟨g,0,none⟩),.int .i64 256] ?_;refine (Sbo.calls k g af aU 256 t116 t117 w0 _ ?aa ?ae bL.out).mono ?_;(case aa=>exact qI HI0);(case ae=>exact qB);rintro e bM ⟨rfl,hi,hb,hk⟩;refine⟨_,rfl,?_⟩;replace HK:=kI hk;replace HB:=aM hb;replace HI0:=aM hi;clear hb hk hi)|((with_reducible refine jc 52 22 rfl rfl ?_);refine jG Tryz.func52 #[.pointer (some ⟨g,0,none⟩),.int .i64 256] ?_;refine (Sbo.calls k g af t117 256 aQ t119 w0 _ ?aa ?ae bN.out).mono ?_;(case aa=>exact qI HI0);(case ae=>exact qB);rintro e bO ⟨rfl,hi,hb,hk⟩;refine⟨_,rfl,?_⟩;replace HK:=kI hk;replace HB:=aM hb;replace HI0:=aM hi;clear hb hk hi)|((with_reducible refine jc 52 25 rfl rfl ?_);refine jG Tryz.func52 #[.pointer (some ⟨g,0,none⟩),.int .i64 200] ?_;refine (Sbo.calls k g af t119 200 aT bu w0 _ ?aa ?ae bP.out).mono ?_;(case aa=>exact qI HI0);(case ae=>exact qB);rintro e bQ ⟨rfl,hi,hb,hk⟩;refine⟨_,rfl,?_⟩;replace HK:=kI hk;replace HB:=aM hb;replace HI0:=aM hi;clear hb hk hi)|((with_reducible refine jc 87 28 rfl rfl ?_);refine jG Tryz.func87 #[.int .i64 (wrap64 ((wrap64 ((wrap64 ((wrap64 (aN*65536))+(wrap64 (t116*256))))+aQ))*(wrap64 (1+aT))))] ?_;refine (Saz.calls (wrap64 ((wrap64 ((wrap64 ((wrap64 (aN*65536))+(wrap64 (t116*256))))+aQ))*(wrap64 (1+aT)))) aI _ bR.out).mono ?_;rintro e w' ⟨rfl,⟨nd,rfl⟩⟩;refine⟨_,rfl,?_⟩)|((with_reducible refine jc 52 32 rfl rfl ?_);refine jG Tryz.func52 #[.pointer (some ⟨g,0,none⟩),.int .i64 200] ?_;refine (Sbo.calls k g af t107 200 bv t124 w0 _ ?aa ?ae bS.out).mono ?_;(case aa=>exact qI HI0);(case ae=>exact qB);rintro e bT ⟨rfl,hi,hb,hk⟩;refine⟨_,rfl,?_⟩;replace HK:=kI hk;replace HB:=aM hb;replace HI0:=aM hi;clear hb hk hi)|((with_reducible refine jc 52 35 rfl rfl ?_);refine jG Tryz.func52 #[.pointer (some ⟨g,0,none⟩),.int .i64 20] ?_;refine (Sbo.calls k g af t107 20 bz bA w0 _ ?aa ?ae bU.out).mono ?_;(case aa=>exact qI HI0);(case ae=>exact qB);rintro e bV ⟨rfl,hi,hb,hk⟩;refine⟨_,rfl,?_⟩;replace HK:=kI hk;replace HB:=aM hb;replace HI0:=aM hi;clear hb hk hi))
  go_ret
  exact⟨qW,qI HI0,qB,qH⟩):G:=h
theorem Sbs.calls (k g:Nat) (af:List Int) (au r1 r2:Int) (w0 w:World) (hI:Saa w0 w g af au) (hB:Below w0.heap.size w0 w) (h:Sbs.f k af au=some (r1,r2)) :
  Calls Tryz.prog 78 #[.pointer (some ⟨g,0,none⟩)] w fun e w'=>e = .returned (.int .i64 r1)/\Saa w0 w' g af r2/\Below w0.heap.size w0 w'/\KeepBut w w' g none:=by
 have HI0:=aM hI
 have HK:=aM (KeepBut.refl w g none)
 have HL:=aM hB.size
 clear hI
 have HW0:=aM hB.size
 have HB:=aM hB
 clear hB
 have H:=h;unfold Sbs.f at H
 clear h
 obtain⟨⟨bg,t107⟩,A2,H⟩:=qE H
 try dsimp only at H
 replace H:=jE H;rcases H with ⟨bB,bC,H⟩ | ⟨c3,bB,bC,H⟩
 ·obtain⟨ax,ai⟩:=ky ((([(-2147483648),2147483647,(-1),0,1,(-2147483647),65536,(-65536)]:List Int)):List Int)
  first|replace H:=kz ai H|rw [<- ai.out] at H
  obtain⟨⟨ay,bi⟩,A4,H⟩:=qE H
  try dsimp only at H
  replace H:=jI H;obtain⟨bW,H⟩:=H
  replace H:=jI H;obtain⟨bX,H⟩:=H
  obtain⟨rfl,rfl⟩:=oJ2 H
  exact Sbs_0
 replace H:=jE H;rcases H with ⟨aV,aW,H⟩ | ⟨c12,aV,aW,H⟩
 ·obtain⟨⟨aN,aU⟩,bJ,H⟩:=qE H
  try dsimp only at H
  obtain⟨⟨t116,t117⟩,bL,H⟩:=qE H
  try dsimp only at H
  obtain⟨⟨aQ,t119⟩,bN,H⟩:=qE H
  try dsimp only at H
  obtain⟨⟨aT,bu⟩,bP,H⟩:=qE H
  try dsimp only at H
  obtain⟨aI,bR,H⟩:=qE H
  try dsimp only at H
  obtain⟨rfl,rfl⟩:=oJ2 H
  exact Sbs_0
 replace H:=jE H;rcases H with ⟨aX,aY,H⟩ | ⟨c23,aX,aY,H⟩
 ·obtain⟨⟨bv,t124⟩,bS,H⟩:=qE H
  try dsimp only at H
  obtain⟨rfl,rfl⟩:=oJ2 H
  exact Sbs_0
 obtain⟨⟨bz,bA⟩,bU,H⟩:=qE H
 try dsimp only at H
 obtain⟨rfl,rfl⟩:=oJ2 H
 exact Sbs_0
def Sbr.f (k:Nat) (aa:List Int) (ae:Int):Option (Int × Int):=(Sbo.f k aa ae 12).bind fun af=>(some (wrap64 (1+af.1),af.2))
theorem Sbr.calls (k g:Nat) (aa:List Int) (ae r1 r2:Int) (w0 w:World) (hI:Saa w0 w g aa ae) (hB:Below w0.heap.size w0 w) (h:Sbr.f k aa ae=some (r1,r2)) :
  Calls Tryz.prog 79 #[.pointer (some ⟨g,0,none⟩)] w fun e w'=>e = .returned (.int .i64 r1)/\Saa w0 w' g aa r2/\Below w0.heap.size w0 w'/\KeepBut w w' g none:=by
 have HI0:=aM hI
 have HK:=aM (KeepBut.refl w g none)
 have HL:=aM hB.size
 clear hI
 have HW0:=aM hB.size
 have HB:=aM hB
 clear hB
 have H:=h;unfold Sbr.f at H
 clear h
 obtain⟨⟨t127,ai⟩,A2,H⟩:=qE H
 try dsimp only at H
 obtain⟨rfl,rfl⟩:=oJ2 H
 go_enter Tryz.func79,Tryz.ntmps79
 go_wp2_with (first|((with_reducible refine jc 52 4 rfl rfl ?_);refine jG Tryz.func52 #[.pointer (some ⟨g,0,none⟩),.int .i64 12] ?_;refine (Sbo.calls k g aa ae 12 t127 ai w0 _ ?ag ?ah A2.out).mono ?_;(case ag=>exact qI HI0);(case ah=>exact qB);rintro e w3 ⟨rfl,hi,hb,hk⟩;refine⟨_,rfl,?_⟩;replace HK:=kI hk;replace HB:=aM hb;replace HI0:=aM hi;clear hb hk hi))
 go_ret
 exact⟨qW,qI HI0,qB,qH⟩
mutual
def SbC.j0:Nat->Int->Int->Bool->List Int->Int->Option (Int × Int × Int × Int × Int × Int)
 | 0,_,_,_,_,_=>none
 | k+1,x1,ay,eU,x1000,au=>if eU=true then ((SbE.f k x1000 au).bind fun aW=>((Sbs.f k x1000 aW.2).bind fun aX=>((some (([0,1,2,aX.1]:List Int):List Int)).bind fun aN=>((Sbo.f k x1000 aX.2 4).bind fun aH=>(if 0<=aH.1 then (if aH.1 < (aN.length:Int) then (some (1,aW.1,0,0,rd aN aH.1,aH.2)) else (none)) else (none)))))) else (if ay=2 then (SbC.j1 k x1 ay (ay == 2) x1000 au) else (SbC.j1 k x1 ay (ay == 3) x1000 au))
def SbC.j1:Nat->Int->Int->Bool->List Int->Int->Option (Int × Int × Int × Int × Int × Int)
 | 0,_,_,_,_,_=>none
 | k+1,x1,ay,x27,x1000,au=>if x27=true then ((SbE.f k x1000 au).bind fun aY=>((SbE.f k x1000 aY.2).bind fun aZ=>(some (2,aY.1,aZ.1,0,0,aZ.2)))) else (if ay=4 then (SbC.j2 k x1 ay (ay == 4) x1000 au) else (if ay=5 then (SbC.j2 k x1 ay (ay == 5) x1000 au) else (SbC.j2 k x1 ay (ay == 6) x1000 au)))
def SbC.j2:Nat->Int->Int->Bool->List Int->Int->Option (Int × Int × Int × Int × Int × Int)
 | 0,_,_,_,_,_=>none
 | k+1,x1,ay,eX,x1000,au=>if eX=true then ((SbE.f k x1000 au).bind fun bg=>((SbE.f k x1000 bg.2).bind fun bi=>((SbE.f k x1000 bi.2).bind fun bn=>((Sbr.f k x1000 bn.2).bind fun bq=>(some (3,bg.1,bi.1,bn.1,bq.1,bq.2)))))) else (if ay=7 then ((Sbo.f k x1000 au x1).bind fun bu=>(some (4,0,0,0,bu.1,bu.2))) else (if ay=8 then ((SbE.f k x1000 au).bind fun bv=>((Sbo.f k x1000 bv.2 x1).bind fun bz=>(some (5,0,bv.1,0,bz.1,bz.2)))) else (if ay=9 then ((SbE.f k x1000 au).bind fun bA=>((Sbo.f k x1000 bA.2 2).bind fun bB=>(some (6,0,bA.1,0,bB.1,bB.2)))) else (if ay=10 then ((SbE.f k x1000 au).bind fun bC=>((Sbo.f k x1000 bC.2 2).bind fun bD=>(some (7,bC.1,0,0,bD.1,bD.2)))) else ((Sbo.f k x1000 au 4).bind fun aQ=>(if aQ.1=0 then (some (8,0,0,0,0,aQ.2)) else ((SbE.f k x1000 aQ.2).bind fun bE=>(some (9,0,bE.1,0,0,bE.2)))))))))
end
def SbC.f (k:Nat) (ai:List Int) (aC a1:Int):Option (Int × Int × Int × Int × Int × Int):=(Sbo.f k ai aC 12).bind fun ax=>(if ax.1=0 then (SbC.j0 k a1 ax.1 (ax.1 == 0) ai ax.2) else (SbC.j0 k a1 ax.1 (ax.1 == 1) ai ax.2))
theorem SbC.calls (k g:Nat) (ai:List Int) (aC a1 r1 r2 r3 r4 r5 r6:Int) (w0 w:World) (hI:Saa w0 w g ai aC) (hB:Below w0.heap.size w0 w) (h:SbC.f k ai aC a1=some (r1,r2,r3,r4,r5,r6)) :
  Calls Tryz.prog 70 #[.pointer (some ⟨g,0,none⟩),.int .i64 a1] w fun e w'=>e = .returned (.agg #[.int .i64 r1,.int .i64 r2,.int .i64 r3,.int .i64 r4,.int .i64 r5])/\Saa w0 w' g ai r6/\Below w0.heap.size w0 w'/\KeepBut w w' g none:=by
 have eZ:=Tryz.underlying27
 have HI0:=aM hI
 have HK:=aM (KeepBut.refl w g none)
 have HL:=aM hB.size
 clear hI
 have HW0:=aM hB.size
 have HB:=aM hB
 clear hB
 have H:=h;unfold SbC.f at H
 clear h
 obtain⟨⟨t130,t131⟩,A3,H⟩:=qE H
 try dsimp only at H
 have dG:=aM H
 clear H
 go_enter Tryz.func70,Tryz.ntmps70
 go_upto_if 14 with (first|((with_reducible refine jd 4 rfl ?_);refine jX _ 27 ?_;intro ah hg w5 hbox hb;have aa:=aM hbox;have dO:=aM ((by rw [hg];exact (keep_size (w:=w) (g:=g) (row:=none) qH):w.heap.size<=ah));have dP:=aM ((Nat.le_trans HW0.out (by rw [hg];exact (keep_size (w:=w) (g:=g) (row:=none) qH):w.heap.size<=ah):w0.heap.size<=ah));have aj:=aM ((by rw [hg];exact Nat.ne_of_lt (Saa.lt (show Saa w0 _ g ai aC from qI HI0)):g≠ah));have ae:=aM ((by rw [hg];exact Nat.ne_of_gt (Saa.lt (show Saa w0 _ g ai aC from qI HI0)):ah≠g));replace HI0:=aM (Saa.below (qI HI0) hb);replace HK:=aM (KeepBut.trans qH (KeepBut.of_below hb g none) (.inl rfl));replace HB:=kH hb;clear hb hbox hg)|((with_reducible refine jc 52 13 rfl rfl ?_);refine jG Tryz.func52 #[.pointer (some ⟨g,0,none⟩),.int .i64 12] ?_;refine (Sbo.calls k g ai aC 12 t130 t131 w0 _ ?af ?ag A3.out).mono ?_;(case af=>exact qI HI0);(case ag=>exact qB);rintro e w6 ⟨rfl,hi,hb,hk⟩;refine⟨_,rfl,?_⟩;replace aa:=aM (KeepBut.blk hk (g':=ah) (o:=.cells #[.int .i64 0,.int .i64 0,.int .i64 0,.int .i64 0,.int .i64 0] 27 (0,0)) (qK aa) ae.out (by simp));replace HK:=kI hk;replace HB:=aM hb;replace HI0:=aM hi;clear hb hk hi))
 (try simp only [Act.put,List.setIfInBounds_toArray,List.set_cons_zero,List.set_cons_succ])
 go_cut [14] (fun v14 wc=>∃ (kq:Nat) (aT:Bool),v14 = .bool aT/\Aside0 (SbC.j0 kq a1 t130 aT ai t131=some (r1,r2,r3,r4,r5,r6))/\Aside0 (kq<=k)/\Aside0 (wc.heap[ah]?=some (.cells #[.int .i64 0,.int .i64 0,.int .i64 0,.int .i64 0,.int .i64 0] 27 (0,0)))/\Aside0 (Saa w0 wc g ai t131)/\Aside0 (KeepBut w wc g none)/\Aside0 (Below w0.heap.size w0 wc))
 case first =>
  have H:=dG.out
  clear dG
  replace H:=jE H;rcases H with ⟨aU,dH,H⟩ | ⟨c7,aU,dH,H⟩
  ·(first|rw [aU]|(simp only [i64_w,i32_w];rw [aU])|skip)
   have H':=aM H
   clear H
   go_wp2
   go_meet
   exact⟨_,((t130 == 0)),qZ,H',⟨by first|omega|exact Nat.le_refl _⟩,⟨qK aa⟩,⟨qI HI0⟩,⟨qH⟩,⟨qB⟩⟩
  (first|rw [aU]|(simp only [i64_w,i32_w];rw [aU])|skip)
  have H':=aM H
  clear H
  go_wp2
  go_meet
  exact⟨_,((t130 == 1)),qZ,H',⟨by first|omega|exact Nat.le_refl _⟩,⟨qK aa⟩,⟨qI HI0⟩,⟨qH⟩,⟨qB⟩⟩
 clear dG
 obtain⟨kq,aT,rfl,HA,bN,aa,HI0,HK,HB⟩:=hcut
 cases kq with
 | zero=>exact absurd HA.out (by simp [SbC.j0])
 | succ dE =>
  have H:=HA.out
  clear HA
  simp only [SbC.j0] at H
  replace H:=jB H;rcases H with ⟨rfl,H⟩ | ⟨rfl,H⟩
  ·obtain⟨⟨bO,bP⟩,A9,H⟩:=qE H
   try dsimp only at H
   obtain⟨⟨aK,bF⟩,fe,H⟩:=qE H
   try dsimp only at H
   obtain⟨aN,aI⟩:=ky ((([0,1,2,aK]:List Int)):List Int)
   first|replace H:=kz aI H|rw [<- aI.out] at H
   obtain⟨⟨t139,dI⟩,fo,H⟩:=qE H
   try dsimp only at H
   replace H:=jI H;obtain⟨dQ,H⟩:=H
   replace H:=jI H;obtain⟨dR,H⟩:=H
   obtain⟨rfl,rfl,rfl,rfl,rfl,rfl⟩:=oJ6 H
   go_wp2_with (first|((with_reducible refine jc 77 18 rfl rfl ?_);refine jG Tryz.func77 #[.pointer (some ⟨g,0,none⟩)] ?_;refine (SbE.calls dE g ai t131 bO bP w0 _ ?af ?ag A9.out).mono ?_;(case af=>exact qI HI0);(case ag=>exact qB);rintro e gB ⟨rfl,hi,hb,hk⟩;refine⟨_,rfl,?_⟩;replace aa:=aM (KeepBut.blk hk (g':=ah) (o:=.cells #[.int .i64 0,.int .i64 0,.int .i64 0,.int .i64 0,.int .i64 0] 27 (0,0)) (qK aa) ae.out (by simp));replace HK:=kI hk;replace HB:=aM hb;replace HI0:=aM hi;clear hb hk hi)|((with_reducible refine jc 78 20 rfl rfl ?_);refine jG Tryz.func78 #[.pointer (some ⟨g,0,none⟩)] ?_;refine (Sbs.calls dE g ai bP aK bF w0 _ ?af ?ag fe.out).mono ?_;(case af=>exact qI HI0);(case ag=>exact qB);rintro e gD ⟨rfl,hi,hb,hk⟩;refine⟨_,rfl,?_⟩;replace aa:=aM (KeepBut.blk hk (g':=ah) (o:=.cells #[.int .i64 0,.int .i64 0,.int .i64 0,.int .i64 0,.int .i64 0] 27 (0,0)) (qK aa) ae.out (by simp));replace HK:=kI hk;replace HB:=aM hb;replace HI0:=aM hi;clear hb hk hi)|((with_reducible refine jd 21 rfl ?_);refine jV (Kd.int .i64) 3 ([0,1,2,aK]:List Int) [.int .i64 0,.int .i64 1,.int .i64 2,.int .i64 aK] (Reps.one (show Kd.M (Kd.int .i64) _ _ _ 0 [.int .i64 0] from rfl) (Reps.one (show Kd.M (Kd.int .i64) _ _ _ 1 [.int .i64 1] from rfl) (Reps.one (show Kd.M (Kd.int .i64) _ _ _ 2 [.int .i64 2] from rfl) (Reps.one (show Kd.M (Kd.int .i64) _ _ _ aK [.int .i64 aK] from rfl) (Reps.none _ _))))) ?_;intro fq w16 aV hb;(first|rw [<- aI.out] at aV|(simp only [Int.reduceToNat] at aV;rw [<- aI.out] at aV));have aJ:=aM (Kd.R_lower aV (keep_size (w:=w) (g:=g) (row:=none) qH));replace aa:=kB aa hb;replace HI0:=aM (Saa.below (qI HI0) hb);replace HK:=aM (KeepBut.trans qH (KeepBut.of_below hb g none) (.inl rfl));replace HB:=kH hb;clear hb aV)|((with_reducible refine jc 52 23 rfl rfl ?_);refine jG Tryz.func52 #[.pointer (some ⟨g,0,none⟩),.int .i64 4] ?_;refine (Sbo.calls dE g ai bF 4 t139 dI w0 _ ?af ?ag fo.out).mono ?_;(case af=>exact qI HI0);(case ag=>exact qB);rintro e gF ⟨rfl,hi,hb,hk⟩;refine⟨_,rfl,?_⟩;replace aa:=aM (KeepBut.blk hk (g':=ah) (o:=.cells #[.int .i64 0,.int .i64 0,.int .i64 0,.int .i64 0,.int .i64 0] 27 (0,0)) (qK aa) ae.out (by simp));replace aJ:=aM (Kd.R_mono (Kd.R_keep (Saa.apart (show Saa w0 _ g ai bF from qI HI0) (qR aJ) (by decide)) hk (fun _ h=>h.2)) (fun _ h=>h.1));replace HK:=kI hk;replace HB:=aM hb;replace HI0:=aM hi;clear hb hk hi;obtain⟨fu,fw,dJ⟩:=Kd.R_slice aJ.out;subst dJ;have bG:0<=(t139:Int):=qD;have bH:t139 < (aN.length:Int):=qD;obtain⟨dS,dK,dF⟩:=Kd.at_int (Kd.R_reads' aJ.out).2.2 t139 bG bH;cases dK;replace bG:=eq_true bG;replace bH:=eq_true bH;have dU:=ae.out;have dV:=aj.out;have fA:=jz5 aa))
   refine bodyPost_ret (results_cell_row rfl _ _ ah 27 #[.int .i64 1,.int .i64 bO,.int .i64 0,.int .i64 0,.int .i64 (rd aN t139)] (0,0) _ rfl (qF aa) Tryz.underlying27 rfl (by kernel_rfl)) rfl ?_
   exact⟨qW,qI HI0,qB,qH⟩
  have bI:=aM H
  clear H
  go_upto_if 27 with (fail)
  go_cut [27] (fun v27 wc=>∃ (kq:Nat) (aD:Bool),v27 = .bool aD/\Aside0 (SbC.j1 kq a1 t130 aD ai t131=some (r1,r2,r3,r4,r5,r6))/\Aside0 (kq<=dE)/\Aside0 (wc.heap[ah]?=some (.cells #[.int .i64 0,.int .i64 0,.int .i64 0,.int .i64 0,.int .i64 0] 27 (0,0)))/\Aside0 (Saa w0 wc g ai t131)/\Aside0 (KeepBut w wc g none)/\Aside0 (Below w0.heap.size w0 wc))
  case first =>
   have H:=bI.out
   clear bI
   replace H:=jE H;rcases H with ⟨az,bQ,H⟩ | ⟨c23,az,bQ,H⟩
   ·(first|rw [az]|(simp only [i64_w,i32_w];rw [az])|skip)
    have H':=aM H
    clear H
    go_wp2
    go_meet
    exact⟨_,((t130 == 2)),qZ,H',⟨by have:=bN.out;first|omega|exact Nat.le_refl _⟩,⟨qK aa⟩,⟨qI HI0⟩,⟨qH⟩,⟨qB⟩⟩
   (first|rw [az]|(simp only [i64_w,i32_w];rw [az])|skip)
   have H':=aM H
   clear H
   go_wp2
   go_meet
   exact⟨_,((t130 == 3)),qZ,H',⟨by have:=bN.out;first|omega|exact Nat.le_refl _⟩,⟨qK aa⟩,⟨qI HI0⟩,⟨qH⟩,⟨qB⟩⟩
  clear bI
  obtain⟨kq,aD,rfl,HA,bJ,aa,HI0,HK,HB⟩:=hcut
  cases kq with
  | zero=>exact absurd HA.out (by simp [SbC.j1])
  | succ bK =>
   have H:=HA.out
   clear HA
   simp only [SbC.j1] at H
   replace H:=jB H;rcases H with ⟨rfl,H⟩ | ⟨rfl,H⟩
   ·obtain⟨⟨bR,t143⟩,fB,H⟩:=qE H
    try dsimp only at H
    obtain⟨⟨bS,t145⟩,fC,H⟩:=qE H
    try dsimp only at H
    obtain⟨rfl,rfl,rfl,rfl,rfl,rfl⟩:=oJ6 H
    go_wp2_with (first|((with_reducible refine jc 77 31 rfl rfl ?_);refine jG Tryz.func77 #[.pointer (some ⟨g,0,none⟩)] ?_;refine (SbE.calls bK g ai t131 bR t143 w0 _ ?af ?ag fB.out).mono ?_;(case af=>exact qI HI0);(case ag=>exact qB);rintro e gG ⟨rfl,hi,hb,hk⟩;refine⟨_,rfl,?_⟩;replace aa:=aM (KeepBut.blk hk (g':=ah) (o:=.cells #[.int .i64 0,.int .i64 0,.int .i64 0,.int .i64 0,.int .i64 0] 27 (0,0)) (qK aa) ae.out (by simp));replace HK:=kI hk;replace HB:=aM hb;replace HI0:=aM hi;clear hb hk hi)|((with_reducible refine jc 77 34 rfl rfl ?_);refine jG Tryz.func77 #[.pointer (some ⟨g,0,none⟩)] ?_;refine (SbE.calls bK g ai t143 bS t145 w0 _ ?af ?ag fC.out).mono ?_;(case af=>exact qI HI0);(case ag=>exact qB);rintro e gH ⟨rfl,hi,hb,hk⟩;refine⟨_,rfl,?_⟩;replace aa:=aM (KeepBut.blk hk (g':=ah) (o:=.cells #[.int .i64 0,.int .i64 0,.int .i64 0,.int .i64 0,.int .i64 0] 27 (0,0)) (qK aa) ae.out (by simp));replace HK:=kI hk;replace HB:=aM hb;replace HI0:=aM hi;clear hb hk hi;have dW:=ae.out;have dX:=aj.out;have fD:=jz5 aa))
    refine bodyPost_ret (results_cell_row rfl _ _ ah 27 #[.int .i64 2,.int .i64 bR,.int .i64 bS,.int .i64 0,.int .i64 0] (0,0) _ rfl (qF aa) Tryz.underlying27 rfl (by kernel_rfl)) rfl ?_
    exact⟨qW,qI HI0,qB,qH⟩
   have bL:=aM H
   clear H
   go_upto_if 36 with (fail)
   go_cut [36] (fun v36 wc=>∃ (kq:Nat) (aG:Bool),v36 = .bool aG/\Aside0 (SbC.j2 kq a1 t130 aG ai t131=some (r1,r2,r3,r4,r5,r6))/\Aside0 (kq<=bK)/\Aside0 (wc.heap[ah]?=some (.cells #[.int .i64 0,.int .i64 0,.int .i64 0,.int .i64 0,.int .i64 0] 27 (0,0)))/\Aside0 (Saa w0 wc g ai t131)/\Aside0 (KeepBut w wc g none)/\Aside0 (Below w0.heap.size w0 wc))
   case first =>
    have H:=bL.out
    clear bL
    replace H:=jE H;rcases H with ⟨aA,bT,H⟩ | ⟨c32,aA,bT,H⟩
    ·(first|rw [aA]|(simp only [i64_w,i32_w];rw [aA])|skip)
     have H':=aM H
     clear H
     go_wp2
     go_meet
     exact⟨_,((t130 == 4)),qZ,H',⟨by have:=bN.out;have:=bJ.out;first|omega|exact Nat.le_refl _⟩,⟨qK aa⟩,⟨qI HI0⟩,⟨qH⟩,⟨qB⟩⟩
    (first|rw [aA]|(simp only [i64_w,i32_w];rw [aA])|skip)
    replace H:=jE H;rcases H with ⟨bU,bV,H⟩ | ⟨gI,bU,bV,H⟩
    ·have H':=aM H
     clear H
     go_wp2
     go_meet
     exact⟨_,((t130 == 5)),qZ,H',⟨by have:=bN.out;have:=bJ.out;first|omega|exact Nat.le_refl _⟩,⟨qK aa⟩,⟨qI HI0⟩,⟨qH⟩,⟨qB⟩⟩
    have H':=aM H
    clear H
    go_wp2
    go_meet
    exact⟨_,((t130 == 6)),qZ,H',⟨by have:=bN.out;have:=bJ.out;first|omega|exact Nat.le_refl _⟩,⟨qK aa⟩,⟨qI HI0⟩,⟨qH⟩,⟨qB⟩⟩
   clear bL
   obtain⟨kq,aG,rfl,HA,fE,aa,HI0,HK,HB⟩:=hcut
   cases kq with
   | zero=>exact absurd HA.out (by simp [SbC.j2])
   | succ av =>
    have H:=HA.out
    clear HA
    simp only [SbC.j2] at H
    replace H:=jB H;rcases H with ⟨rfl,H⟩ | ⟨rfl,H⟩
    ·obtain⟨⟨t146,bW⟩,fF,H⟩:=qE H
     try dsimp only at H
     obtain⟨⟨t148,bX⟩,fG,H⟩:=qE H
     try dsimp only at H
     obtain⟨⟨bY,bZ⟩,fH,H⟩:=qE H
     try dsimp only at H
     obtain⟨⟨t152,dL⟩,fI,H⟩:=qE H
     try dsimp only at H
     obtain⟨rfl,rfl,rfl,rfl,rfl,rfl⟩:=oJ6 H
     go_wp2_with (first|((with_reducible refine jc 77 41 rfl rfl ?_);refine jG Tryz.func77 #[.pointer (some ⟨g,0,none⟩)] ?_;refine (SbE.calls av g ai t131 t146 bW w0 _ ?af ?ag fF.out).mono ?_;(case af=>exact qI HI0);(case ag=>exact qB);rintro e gJ ⟨rfl,hi,hb,hk⟩;refine⟨_,rfl,?_⟩;replace aa:=aM (KeepBut.blk hk (g':=ah) (o:=.cells #[.int .i64 0,.int .i64 0,.int .i64 0,.int .i64 0,.int .i64 0] 27 (0,0)) (qK aa) ae.out (by simp));replace HK:=kI hk;replace HB:=aM hb;replace HI0:=aM hi;clear hb hk hi)|((with_reducible refine jc 77 43 rfl rfl ?_);refine jG Tryz.func77 #[.pointer (some ⟨g,0,none⟩)] ?_;refine (SbE.calls av g ai bW t148 bX w0 _ ?af ?ag fG.out).mono ?_;(case af=>exact qI HI0);(case ag=>exact qB);rintro e gK ⟨rfl,hi,hb,hk⟩;refine⟨_,rfl,?_⟩;replace aa:=aM (KeepBut.blk hk (g':=ah) (o:=.cells #[.int .i64 0,.int .i64 0,.int .i64 0,.int .i64 0,.int .i64 0] 27 (0,0)) (qK aa) ae.out (by simp));replace HK:=kI hk;replace HB:=aM hb;replace HI0:=aM hi;clear hb hk hi)|((with_reducible refine jc 77 45 rfl rfl ?_);refine jG Tryz.func77 #[.pointer (some ⟨g,0,none⟩)] ?_;refine (SbE.calls av g ai bX bY bZ w0 _ ?af ?ag fH.out).mono ?_;(case af=>exact qI HI0);(case ag=>exact qB);rintro e gL ⟨rfl,hi,hb,hk⟩;refine⟨_,rfl,?_⟩;replace aa:=aM (KeepBut.blk hk (g':=ah) (o:=.cells #[.int .i64 0,.int .i64 0,.int .i64 0,.int .i64 0,.int .i64 0] 27 (0,0)) (qK aa) ae.out (by simp));replace HK:=kI hk;replace HB:=aM hb;replace HI0:=aM hi;clear hb hk hi)|((with_reducible refine jc 79 50 rfl rfl ?_);refine jG Tryz.func79 #[.pointer (some ⟨g,0,none⟩)] ?_;refine (Sbr.calls av g ai bZ t152 dL w0 _ ?af ?ag fI.out).mono ?_;(case af=>exact qI HI0);(case ag=>exact qB);rintro e gM ⟨rfl,hi,hb,hk⟩;refine⟨_,rfl,?_⟩;replace aa:=aM (KeepBut.blk hk (g':=ah) (o:=.cells #[.int .i64 0,.int .i64 0,.int .i64 0,.int .i64 0,.int .i64 0] 27 (0,0)) (qK aa) ae.out (by simp));replace HK:=kI hk;replace HB:=aM hb;replace HI0:=aM hi;clear hb hk hi;have dY:=ae.out;have dZ:=aj.out;have fJ:=jz5 aa))
     refine bodyPost_ret (results_cell_row rfl _ _ ah 27 #[.int .i64 3,.int .i64 t146,.int .i64 t148,.int .i64 bY,.int .i64 t152] (0,0) _ rfl (qF aa) Tryz.underlying27 rfl (by kernel_rfl)) rfl ?_
     exact⟨qW,qI HI0,qB,qH⟩
    replace H:=jE H;rcases H with ⟨cz,cB,H⟩ | ⟨gN,cz,cB,H⟩
    ·obtain⟨⟨t154,dM⟩,fK,H⟩:=qE H
     try dsimp only at H
     obtain⟨rfl,rfl,rfl,rfl,rfl,rfl⟩:=oJ6 H
     go_wp2_with (first|((with_reducible refine jc 52 56 rfl rfl ?_);refine jG Tryz.func52 #[.pointer (some ⟨g,0,none⟩),.int .i64 a1] ?_;refine (Sbo.calls av g ai t131 a1 t154 dM w0 _ ?af ?ag fK.out).mono ?_;(case af=>exact qI HI0);(case ag=>exact qB);rintro e gP ⟨rfl,hi,hb,hk⟩;refine⟨_,rfl,?_⟩;replace aa:=aM (KeepBut.blk hk (g':=ah) (o:=.cells #[.int .i64 0,.int .i64 0,.int .i64 0,.int .i64 0,.int .i64 0] 27 (0,0)) (qK aa) ae.out (by simp));replace HK:=kI hk;replace HB:=aM hb;replace HI0:=aM hi;clear hb hk hi;have d9:=ae.out;have ed:=aj.out;have fM:=jz5 aa))
     refine bodyPost_ret (results_cell_row rfl _ _ ah 27 #[.int .i64 4,.int .i64 0,.int .i64 0,.int .i64 0,.int .i64 t154] (0,0) _ rfl (qF aa) Tryz.underlying27 rfl (by kernel_rfl)) rfl ?_
     exact⟨qW,qI HI0,qB,qH⟩
    replace H:=jE H;rcases H with ⟨cK,cO,H⟩ | ⟨gQ,cK,cO,H⟩
    ·obtain⟨⟨t156,t157⟩,fO,H⟩:=qE H
     try dsimp only at H
     obtain⟨⟨df,t159⟩,fP,H⟩:=qE H
     try dsimp only at H
     obtain⟨rfl,rfl,rfl,rfl,rfl,rfl⟩:=oJ6 H
     go_wp2_with (first|((with_reducible refine jc 77 61 rfl rfl ?_);refine jG Tryz.func77 #[.pointer (some ⟨g,0,none⟩)] ?_;refine (SbE.calls av g ai t131 t156 t157 w0 _ ?af ?ag fO.out).mono ?_;(case af=>exact qI HI0);(case ag=>exact qB);rintro e gT ⟨rfl,hi,hb,hk⟩;refine⟨_,rfl,?_⟩;replace aa:=aM (KeepBut.blk hk (g':=ah) (o:=.cells #[.int .i64 0,.int .i64 0,.int .i64 0,.int .i64 0,.int .i64 0] 27 (0,0)) (qK aa) ae.out (by simp));replace HK:=kI hk;replace HB:=aM hb;replace HI0:=aM hi;clear hb hk hi)|((with_reducible refine jc 52 65 rfl rfl ?_);refine jG Tryz.func52 #[.pointer (some ⟨g,0,none⟩),.int .i64 a1] ?_;refine (Sbo.calls av g ai t157 a1 df t159 w0 _ ?af ?ag fP.out).mono ?_;(case af=>exact qI HI0);(case ag=>exact qB);rintro e gU ⟨rfl,hi,hb,hk⟩;refine⟨_,rfl,?_⟩;replace aa:=aM (KeepBut.blk hk (g':=ah) (o:=.cells #[.int .i64 0,.int .i64 0,.int .i64 0,.int .i64 0,.int .i64 0] 27 (0,0)) (qK aa) ae.out (by simp));replace HK:=kI hk;replace HB:=aM hb;replace HI0:=aM hi;clear hb hk hi;have ek:=ae.out;have eu:=aj.out;have fQ:=jz5 aa))
     refine bodyPost_ret (results_cell_row rfl _ _ ah 27 #[.int .i64 5,.int .i64 0,.int .i64 t156,.int .i64 0,.int .i64 df] (0,0) _ rfl (qF aa) Tryz.underlying27 rfl (by kernel_rfl)) rfl ?_
     exact⟨qW,qI HI0,qB,qH⟩
    replace H:=jE H;rcases H with ⟨dh,di,H⟩ | ⟨gV,dh,di,H⟩
    ·obtain⟨⟨t160,dn⟩,fT,H⟩:=qE H
     try dsimp only at H
     obtain⟨⟨t162,dN⟩,fU,H⟩:=qE H
     try dsimp only at H
     obtain⟨rfl,rfl,rfl,rfl,rfl,rfl⟩:=oJ6 H
     go_wp2_with (first|((with_reducible refine jc 77 70 rfl rfl ?_);refine jG Tryz.func77 #[.pointer (some ⟨g,0,none⟩)] ?_;refine (SbE.calls av g ai t131 t160 dn w0 _ ?af ?ag fT.out).mono ?_;(case af=>exact qI HI0);(case ag=>exact qB);rintro e gW ⟨rfl,hi,hb,hk⟩;refine⟨_,rfl,?_⟩;replace aa:=aM (KeepBut.blk hk (g':=ah) (o:=.cells #[.int .i64 0,.int .i64 0,.int .i64 0,.int .i64 0,.int .i64 0] 27 (0,0)) (qK aa) ae.out (by simp));replace HK:=kI hk;replace HB:=aM hb;replace HI0:=aM hi;clear hb hk hi)|((with_reducible refine jc 52 73 rfl rfl ?_);refine jG Tryz.func52 #[.pointer (some ⟨g,0,none⟩),.int .i64 2] ?_;refine (Sbo.calls av g ai dn 2 t162 dN w0 _ ?af ?ag fU.out).mono ?_;(case af=>exact qI HI0);(case ag=>exact qB);rintro e gX ⟨rfl,hi,hb,hk⟩;refine⟨_,rfl,?_⟩;replace aa:=aM (KeepBut.blk hk (g':=ah) (o:=.cells #[.int .i64 0,.int .i64 0,.int .i64 0,.int .i64 0,.int .i64 0] 27 (0,0)) (qK aa) ae.out (by simp));replace HK:=kI hk;replace HB:=aM hb;replace HI0:=aM hi;clear hb hk hi;have eB:=ae.out;have eD:=aj.out;have fV:=jz5 aa))
     refine bodyPost_ret (results_cell_row rfl _ _ ah 27 #[.int .i64 6,.int .i64 0,.int .i64 t160,.int .i64 0,.int .i64 t162] (0,0) _ rfl (qF aa) Tryz.underlying27 rfl (by kernel_rfl)) rfl ?_
     exact⟨qW,qI HI0,qB,qH⟩
    replace H:=jE H;rcases H with ⟨dw,dx,H⟩ | ⟨c64,dw,dx,H⟩
    ·obtain⟨⟨t164,dz⟩,fZ,H⟩:=qE H
     try dsimp only at H
     obtain⟨⟨dA,t167⟩,gm,H⟩:=qE H
     try dsimp only at H
     obtain⟨rfl,rfl,rfl,rfl,rfl,rfl⟩:=oJ6 H
     go_wp2_with (first|((with_reducible refine jc 77 78 rfl rfl ?_);refine jG Tryz.func77 #[.pointer (some ⟨g,0,none⟩)] ?_;refine (SbE.calls av g ai t131 t164 dz w0 _ ?af ?ag fZ.out).mono ?_;(case af=>exact qI HI0);(case ag=>exact qB);rintro e gY ⟨rfl,hi,hb,hk⟩;refine⟨_,rfl,?_⟩;replace aa:=aM (KeepBut.blk hk (g':=ah) (o:=.cells #[.int .i64 0,.int .i64 0,.int .i64 0,.int .i64 0,.int .i64 0] 27 (0,0)) (qK aa) ae.out (by simp));replace HK:=kI hk;replace HB:=aM hb;replace HI0:=aM hi;clear hb hk hi)|((with_reducible refine jc 52 81 rfl rfl ?_);refine jG Tryz.func52 #[.pointer (some ⟨g,0,none⟩),.int .i64 2] ?_;refine (Sbo.calls av g ai dz 2 dA t167 w0 _ ?af ?ag gm.out).mono ?_;(case af=>exact qI HI0);(case ag=>exact qB);rintro e gZ ⟨rfl,hi,hb,hk⟩;refine⟨_,rfl,?_⟩;replace aa:=aM (KeepBut.blk hk (g':=ah) (o:=.cells #[.int .i64 0,.int .i64 0,.int .i64 0,.int .i64 0,.int .i64 0] 27 (0,0)) (qK aa) ae.out (by simp));replace HK:=kI hk;replace HB:=aM hb;replace HI0:=aM hi;clear hb hk hi;have eF:=ae.out;have eG:=aj.out;have gp:=jz5 aa))
     refine bodyPost_ret (results_cell_row rfl _ _ ah 27 #[.int .i64 7,.int .i64 t164,.int .i64 0,.int .i64 0,.int .i64 dA] (0,0) _ rfl (qF aa) Tryz.underlying27 rfl (by kernel_rfl)) rfl ?_
     exact⟨qW,qI HI0,qB,qH⟩
    obtain⟨⟨t168,bM⟩,eH,H⟩:=qE H
    try dsimp only at H
    replace H:=jE H;rcases H with ⟨dB,dC,H⟩ | ⟨c72,dB,dC,H⟩
    ·obtain⟨rfl,rfl,rfl,rfl,rfl,rfl⟩:=oJ6 H
     go_wp2_with (first|((with_reducible refine jc 52 84 rfl rfl ?_);refine jG Tryz.func52 #[.pointer (some ⟨g,0,none⟩),.int .i64 4] ?_;refine (Sbo.calls av g ai t131 4 t168 bM w0 _ ?af ?ag eH.out).mono ?_;(case af=>exact qI HI0);(case ag=>exact qB);rintro e ib ⟨rfl,hi,hb,hk⟩;refine⟨_,rfl,?_⟩;replace aa:=aM (KeepBut.blk hk (g':=ah) (o:=.cells #[.int .i64 0,.int .i64 0,.int .i64 0,.int .i64 0,.int .i64 0] 27 (0,0)) (qK aa) ae.out (by simp));replace HK:=kI hk;replace HB:=aM hb;replace HI0:=aM hi;clear hb hk hi;have eO:=ae.out;have eP:=aj.out;have gq:=jz5 aa))
     refine bodyPost_ret (results_cell_row rfl _ _ ah 27 #[.int .i64 8,.int .i64 0,.int .i64 0,.int .i64 0,.int .i64 0] (0,0) _ rfl (qF aa) Tryz.underlying27 rfl (by kernel_rfl)) rfl ?_
     exact⟨qW,qI HI0,qB,qH⟩
    obtain⟨⟨dD,t171⟩,gu,H⟩:=qE H
    try dsimp only at H
    obtain⟨rfl,rfl,rfl,rfl,rfl,rfl⟩:=oJ6 H
    go_wp2_with (first|((with_reducible refine jc 52 84 rfl rfl ?_);refine jG Tryz.func52 #[.pointer (some ⟨g,0,none⟩),.int .i64 4] ?_;refine (Sbo.calls av g ai t131 4 t168 bM w0 _ ?af ?ag eH.out).mono ?_;(case af=>exact qI HI0);(case ag=>exact qB);rintro e ic ⟨rfl,hi,hb,hk⟩;refine⟨_,rfl,?_⟩;replace aa:=aM (KeepBut.blk hk (g':=ah) (o:=.cells #[.int .i64 0,.int .i64 0,.int .i64 0,.int .i64 0,.int .i64 0] 27 (0,0)) (qK aa) ae.out (by simp));replace HK:=kI hk;replace HB:=aM hb;replace HI0:=aM hi;clear hb hk hi)|((with_reducible refine jc 77 88 rfl rfl ?_);refine jG Tryz.func77 #[.pointer (some ⟨g,0,none⟩)] ?_;refine (SbE.calls av g ai bM dD t171 w0 _ ?af ?ag gu.out).mono ?_;(case af=>exact qI HI0);(case ag=>exact qB);rintro e ig ⟨rfl,hi,hb,hk⟩;refine⟨_,rfl,?_⟩;replace aa:=aM (KeepBut.blk hk (g':=ah) (o:=.cells #[.int .i64 0,.int .i64 0,.int .i64 0,.int .i64 0,.int .i64 0] 27 (0,0)) (qK aa) ae.out (by simp));replace HK:=kI hk;replace HB:=aM hb;replace HI0:=aM hi;clear hb hk hi;have eQ:=ae.out;have eT:=aj.out;have gz:=jz5 aa))
    refine bodyPost_ret (results_cell_row rfl _ _ ah 27 #[.int .i64 9,.int .i64 0,.int .i64 dD,.int .i64 0,.int .i64 0] (0,0) _ rfl (qF aa) Tryz.underlying27 rfl (by kernel_rfl)) rfl ?_
    exact⟨qW,qI HI0,qB,qH⟩
def SbD.l0:Nat->Int->List (S27)->Int->List Int->Int->Option ((List (S27)) × Int)
 | 0,_,_,_,_,_=>none
 | k+1,x3,x4,x5,x1000,aQ=>if (wrap64 (x5+1)) < x3 then ((SbC.f k x1000 aQ x3).bind fun ai=>(if x4.length < 3518437208883 then (SbD.l0 k x3 (x4 ++ [(⟨ai.1,ai.2.1,ai.2.2.1,ai.2.2.2.1,ai.2.2.2.2.1⟩:S27)]) (wrap64 (x5+1)) x1000 ai.2.2.2.2.2) else (none))) else ((Sbo.f k x1000 aQ 3).bind fun ax=>(if ax.1=0 then ((Sbo.f k x1000 ax.2 x3).bind fun aT=>(if x4.length < 3518437208883 then (some ((x4 ++ [(⟨4,0,0,0,aT.1⟩:S27)]),aT.2)) else (none))) else (if x4.length < 3518437208883 then (some ((x4 ++ [(⟨10,0,0,0,0⟩:S27)]),ax.2)) else (none))))
def SbD.f (k:Nat) (af:List Int) (ay:Int):Option ((List (S27)) × Int):=(Sbo.f k af ay 14).bind fun aU=>(SbD.l0 k (wrap64 (1+aU.1)) (([]:List (S27))) 0 af aU.2)
theorem SbD.calls (k g:Nat) (af:List Int) (ay:Int) (r1:List (S27)) (r2:Int) (w0 w:World) (hI:Saa w0 w g af ay) (hB:Below w0.heap.size w0 w) (h:SbD.f k af ay=some (r1,r2)) :
  Calls Tryz.prog 61 #[.pointer (some ⟨g,0,none⟩)] w fun e w'=>∃ bE:Value,e = .returned (bE)/\Kd.R k27 27 w' w.heap.size (fun _=>True) bE r1/\Saa w0 w' g af r2/\Below w0.heap.size w0 w'/\KeepBut w w' g none:=by
 have bI:=Tryz.underlying27
 have HI0:=aM hI
 have HK:=aM (KeepBut.refl w g none)
 have HL:=aM hB.size
 clear hI
 have HW0:=aM hB.size
 have HB:=aM hB
 clear hB
 have H:=h;unfold SbD.f at H
 clear h
 obtain⟨⟨av,t173⟩,A2,H⟩:=qE H
 try dsimp only at H
 obtain⟨bz,au⟩:=ky ((([]:List (S27))):List (S27))
 first|replace H:=kz au H|rw [<- au.out] at H
 have H':=aM H
 clear H
 go_enter Tryz.func61,Tryz.ntmps61
 go_wp2_with (first|((with_reducible refine jc 52 7 rfl rfl ?_);refine jG Tryz.func52 #[.pointer (some ⟨g,0,none⟩),.int .i64 14] ?_;refine (Sbo.calls k g af ay 14 av t173 w0 _ ?ag ?ah A2.out).mono ?_;(case ag=>exact qI HI0);(case ah=>exact qB);rintro e w3 ⟨rfl,hi,hb,hk⟩;refine⟨_,rfl,?_⟩;replace HK:=kI hk;replace HB:=aM hb;replace HI0:=aM hi;clear hb hk hi)|((with_reducible refine jd 9 rfl ?_);refine jV k27 27 ([]:List (S27)) [] (Reps.none _ _) ?_;intro v175 w4 aW hb;(first|rw [<- au.out] at aW|(simp only [Int.reduceToNat] at aW;rw [<- au.out] at aW));have aX:=aM (Kd.R_lower aW (keep_size (w:=w) (g:=g) (row:=none) qH));replace HI0:=aM (Saa.below (qI HI0) hb);replace HK:=aM (KeepBut.trans qH (KeepBut.of_below hb g none) (.inl rfl));replace HB:=kH hb;clear hb aW))
 go_loopg [4,5] k (fun kq v4 v5 w'=>∃ (aj:List (S27)) (aV:Int) (aa:Int),v5 = .int .i64 aV/\Aside0 (SbD.l0 kq (wrap64 (1+av)) aj aV af aa=some (r1,r2))/\Aside0 (kq<=k)/\Aside0 (Kd.R k27 27 w' w.heap.size (fun _=>True) v4 aj)/\Aside0 (Saa w0 w' g af aa)/\Aside0 (KeepBut w w' g none)/\Aside0 (Below w0.heap.size w0 w'))
 case atStart=>exact⟨(bz),(0),(t173),qZ,H',⟨Nat.le_refl _⟩,⟨qR aX⟩,⟨qI HI0⟩,⟨qH⟩,⟨qB⟩⟩
 clear H'
 obtain⟨aj,aV,aa,rfl,HA,bF,ae,HI0,HK,HB⟩:=hrel
 rcases gk with _|k1
 ·exact absurd HA.out (by simp [SbD.l0])
 have H:=HA.out
 clear HA
 simp only [SbD.l0] at H
 replace H:=jD H;rcases H with ⟨bA,H⟩ | ⟨bA,H⟩
 ·obtain⟨⟨az,aA,aC,aD,aG,t182⟩,A7,H⟩:=qE H
  try dsimp only at H
  replace H:=jL H;obtain⟨bB,H⟩:=H
  obtain⟨bJ,aH⟩:=ky ((aj ++ [(⟨az,aA,aC,aD,aG⟩:S27)]):List (S27))
  first|replace H:=kz aH H|rw [<- aH.out] at H
  have H':=aM H
  clear H
  go_wp2_with (first|((with_reducible refine jc 70 19 rfl rfl ?_);refine jG Tryz.func70 #[.pointer (some ⟨g,0,none⟩),.int .i64 (wrap64 (1+av))] ?_;refine (SbC.calls k1 g af aa (wrap64 (1+av)) az aA aC aD aG t182 w0 _ ?ag ?ah A7.out).mono ?_;(case ag=>exact qI HI0);(case ah=>exact qB);rintro e bK ⟨rfl,hi,hb,hk⟩;refine⟨_,rfl,?_⟩;replace ae:=aM (Kd.R_mono (Kd.R_keep (Saa.apart (show Saa w0 _ g af aa from qI HI0) (qR ae) (by decide)) hk (fun _ h=>h.2)) (fun _ h=>h.1));replace HK:=kI hk;replace HB:=aM hb;replace HI0:=aM hi;clear hb hk hi)|((with_reducible refine gate_builtin (b:=.append) (xs:=#[.tmp 16,.tmp 20]) rfl ?_);at_builtin;refine Kd.R_append k27 w.heap.size rfl (.tmp 16) (.tmp 20) 23 27 (.agg #[(.int .i64 0),(.int .i64 0),(.int .i64 0),(.int .i64 0),(.int .i64 0)]) 40 rfl Tryz.underlying23 info27 rfl (by decide) (by omega) u4 aj (⟨az,aA,aC,aD,aG⟩:S27) [.int .i64 az,.int .i64 aA,.int .i64 aC,.int .i64 aD,.int .i64 aG] (fun _=>True) (fun _=>False) rfl rfl ?aP (fun _ hk=>hk.elim) ?aF ?aO (Below.refl _ _) ?aS ?aL ?_;(case aP=>exact k27_mkM _ _ _ (⟨az,aA,aC,aD,aG⟩:S27));(case aF=>exact (fun _ _=>trivial));(case aO=>exact (qR ae));(case aS=>exact (keep_size (w:=w) (g:=g) (row:=none) qH));(case aL=>have:=bB.out;omega);intro bL bM ho hb hg hat;rw [<- aH.out] at ho;have aY:=aM ho;replace HI0:=aM (Saa.grown (qI HI0) hg (Saa.own_ne HI0.out ae.out (by decide)));replace HB:=aM (below_weaken qB HL.out hb);replace HK:=aM (KeepBut.trans qH (KeepBut.of_grown hg g) (Kd.R_base2 ae.out));clear ae;clear ho hb hg hat))
  go_roundg k1
  case measure=>have:=bF.out;omega
  exact⟨_,_,_,qZ,H',⟨by have:=bF.out;omega⟩,⟨qR aY⟩,⟨qI HI0⟩,⟨qH⟩,⟨qB⟩⟩
 obtain⟨⟨aZ,aN⟩,bG,H⟩:=qE H
 try dsimp only at H
 replace H:=jE H;rcases H with ⟨bg,bi,H⟩ | ⟨c12,bg,bi,H⟩
 ·obtain⟨⟨aI,bC⟩,bN,H⟩:=qE H
  try dsimp only at H
  replace H:=jL H;obtain⟨bn,H⟩:=H
  obtain⟨bO,aJ⟩:=ky ((aj ++ [(⟨4,0,0,0,aI⟩:S27)]):List (S27))
  first|replace H:=kz aJ H|rw [<- aJ.out] at H
  obtain⟨rfl,rfl⟩:=oJ2 H
  go_wp2_with (first|((with_reducible refine jc 52 23 rfl rfl ?_);refine jG Tryz.func52 #[.pointer (some ⟨g,0,none⟩),.int .i64 3] ?_;refine (Sbo.calls k1 g af aa 3 aZ aN w0 _ ?ag ?ah bG.out).mono ?_;(case ag=>exact qI HI0);(case ah=>exact qB);rintro e bD ⟨rfl,hi,hb,hk⟩;refine⟨_,rfl,?_⟩;replace ae:=aM (Kd.R_mono (Kd.R_keep (Saa.apart (show Saa w0 _ g af aa from qI HI0) (qR ae) (by decide)) hk (fun _ h=>h.2)) (fun _ h=>h.1));replace HK:=kI hk;replace HB:=aM hb;replace HI0:=aM hi;clear hb hk hi)|((with_reducible refine jc 52 28 rfl rfl ?_);refine jG Tryz.func52 #[.pointer (some ⟨g,0,none⟩),.int .i64 (wrap64 (1+av))] ?_;refine (Sbo.calls k1 g af aN (wrap64 (1+av)) aI bC w0 _ ?ag ?ah bN.out).mono ?_;(case ag=>exact qI HI0);(case ah=>exact qB);rintro e bP ⟨rfl,hi,hb,hk⟩;refine⟨_,rfl,?_⟩;replace ae:=aM (Kd.R_mono (Kd.R_keep (Saa.apart (show Saa w0 _ g af aN from qI HI0) (qR ae) (by decide)) hk (fun _ h=>h.2)) (fun _ h=>h.1));replace HK:=kI hk;replace HB:=aM hb;replace HI0:=aM hi;clear hb hk hi)|((with_reducible refine gate_builtin (b:=.append) (xs:=#[.tmp 25,.tmp 30]) rfl ?_);at_builtin;refine Kd.R_append k27 w.heap.size rfl (.tmp 25) (.tmp 30) 23 27 (.agg #[(.int .i64 0),(.int .i64 0),(.int .i64 0),(.int .i64 0),(.int .i64 0)]) 40 rfl Tryz.underlying23 info27 rfl (by decide) (by omega) u4 aj (⟨4,0,0,0,aI⟩:S27) [.int .i64 4,.int .i64 0,.int .i64 0,.int .i64 0,.int .i64 aI] (fun _=>True) (fun _=>False) rfl rfl ?aP (fun _ hk=>hk.elim) ?aF ?aO (Below.refl _ _) ?aS ?aL ?_;(case aP=>exact k27_mkM _ _ _ (⟨4,0,0,0,aI⟩:S27));(case aF=>exact (fun _ _=>trivial));(case aO=>exact (qR ae));(case aS=>exact (keep_size (w:=w) (g:=g) (row:=none) qH));(case aL=>have:=bn.out;omega);intro bQ bR ho hb hg hat;rw [<- aJ.out] at ho;have bq:=aM ho;replace HI0:=aM (Saa.grown (qI HI0) hg (Saa.own_ne HI0.out ae.out (by decide)));replace HB:=aM (below_weaken qB HL.out hb);replace HK:=aM (KeepBut.trans qH (KeepBut.of_grown hg g) (Kd.R_base2 ae.out));clear ae;clear ho hb hg hat))
  go_ret
  exact⟨_,qW,qR bq,qI HI0,qB,qH⟩
 replace H:=jL H;obtain⟨bu,H⟩:=H
 obtain⟨bS,aK⟩:=ky ((aj ++ [(⟨10,0,0,0,0⟩:S27)]):List (S27))
 first|replace H:=kz aK H|rw [<- aK.out] at H
 obtain⟨rfl,rfl⟩:=oJ2 H
 go_wp2_with (first|((with_reducible refine jc 52 23 rfl rfl ?_);refine jG Tryz.func52 #[.pointer (some ⟨g,0,none⟩),.int .i64 3] ?_;refine (Sbo.calls k1 g af aa 3 aZ aN w0 _ ?ag ?ah bG.out).mono ?_;(case ag=>exact qI HI0);(case ah=>exact qB);rintro e bD ⟨rfl,hi,hb,hk⟩;refine⟨_,rfl,?_⟩;replace ae:=aM (Kd.R_mono (Kd.R_keep (Saa.apart (show Saa w0 _ g af aa from qI HI0) (qR ae) (by decide)) hk (fun _ h=>h.2)) (fun _ h=>h.1));replace HK:=kI hk;replace HB:=aM hb;replace HI0:=aM hi;clear hb hk hi)|((with_reducible refine gate_builtin (b:=.append) (xs:=#[.tmp 32,.tmp 34]) rfl ?_);at_builtin;refine Kd.R_append k27 w.heap.size rfl (.tmp 32) (.tmp 34) 23 27 (.agg #[(.int .i64 0),(.int .i64 0),(.int .i64 0),(.int .i64 0),(.int .i64 0)]) 40 rfl Tryz.underlying23 info27 rfl (by decide) (by omega) u4 aj (⟨10,0,0,0,0⟩:S27) [.int .i64 10,.int .i64 0,.int .i64 0,.int .i64 0,.int .i64 0] (fun _=>True) (fun _=>False) rfl rfl ?aP (fun _ hk=>hk.elim) ?aF ?aO (Below.refl _ _) ?aS ?aL ?_;(case aP=>exact k27_mkM _ _ _ (⟨10,0,0,0,0⟩:S27));(case aF=>exact (fun _ _=>trivial));(case aO=>exact (qR ae));(case aS=>exact (keep_size (w:=w) (g:=g) (row:=none) qH));(case aL=>have:=bu.out;omega);intro v194 bT ho hb hg hat;rw [<- aK.out] at ho;have bv:=aM ho;replace HI0:=aM (Saa.grown (qI HI0) hg (Saa.own_ne HI0.out ae.out (by decide)));replace HB:=aM (below_weaken qB HL.out hb);replace HK:=aM (KeepBut.trans qH (KeepBut.of_grown hg g) (Kd.R_base2 ae.out));clear ae;clear ho hb hg hat))
 go_ret
 exact⟨_,qW,qR bv,qI HI0,qB,qH⟩
mutual
def SaC.l0:Nat->List (S92)->Int->Int->Option (Int)
 | 0,_,_,_=>none
 | k+1,x0,x3,x4=>if x4 < (x0.length:Int) then (if 0<=x4 then ((SaC.f k ((rd_T92 x0 x4).f4)).bind fun bU=>((SaC.f k ((rd_T92 x0 x4).f5)).bind fun bV=>(SaC.l0 k x0 (wrap64 ((wrap64 ((wrap64 (x3+1))+bU))+bV)) (wrap64 (x4+1))))) else (none)) else (some x3)
def SaC.f:Nat->List (S92)->Option (Int)
 | 0,_=>none
 | k+1,l0=>SaC.l0 k l0 0 0
end
def SaC.T5:Bool × List (List Nat × List Nat):=(true,[([],[]),([0],[0]),([],[]),([],[]),([2,3],[2,3]),([4],[4]),([5],[5]),([6],[6]),([1,7],[1,7]),([],[]),([],[]),([9,10],[9,10]),([11],[11]),([12],[12]),([13,7],[13]),([8,14],[8,14]),([15,14,0,1,2,3,4,5,6,7,8,9,10,11,12,13,14,15],[0,15])])
def SaC.B5:List Nat:=[0,1,0,0,12,28,60,124,255,0,0,1536,3584,7680,16124,32767,65535]
theorem SaC.tab5:rtab .any (opsOf Tryz.f74 5)=SaC.T5:=by kernel_rfl
theorem SaC.bits5:waitsOk SaC.T5.2 SaC.B5=true:=by kernel_rfl
theorem SaC.calls (k:Nat):∀ (A0:Option Addr) (c0:Nat) (l0:List (S92)) (r:Int) (w:World) (hr0:Kd.C k92 w A0 l0.length l0) (hc0:l0.length<=c0) (h:SaC.f k l0=some r),
  Calls Tryz.prog 74 #[.slice A0 l0.length c0] w fun e w'=>e = .returned (.int .i64 r)/\Below w.heap.size w w':=by
 induction k using Nat.strongRecOn with
 | _ k ih =>
 intro A0 c0 l0 r w hr0 hc0 h
 cases k with
 | zero=>exact absurd h (by simp [SaC.f])
 | succ k =>
 simp only [SaC.f] at h
 have dM:=aM hr0
 have dO:=aM hc0
 clear hr0 hc0
 have HB:=aM (Below.refl w.heap.size w)
 have H:(SaC.l0 k l0 0 0)=some r:=h
 clear h
 have H':=aM H
 clear H
 go_enter Tryz.func74,Tryz.ntmps74
 go_wp2
 go_loopg [3,4] k (fun kq v3 v4 w'=>∃ (bW:Int) (aa:Int),v3 = .int .i64 bW/\v4 = .int .i64 aa/\Aside0 (SaC.l0 kq l0 bW aa=some r)/\Aside0 (kq<=k)/\Aside0 (Below w.heap.size w w'))
 case atStart=>exact⟨(0),(0),qZ,qZ,H',⟨Nat.le_refl _⟩,⟨qB⟩⟩
 clear H'
 obtain⟨bW,aa,rfl,rfl,HA,dw,HB⟩:=hrel
 rcases gk with _|k1
 ·exact absurd HA.out (by simp [SaC.l0])
 have H:=HA.out
 clear HA
 simp only [SaC.l0] at H
 replace H:=jD H;rcases H with ⟨dC,H⟩ | ⟨dC,H⟩
 ·replace H:=jI H;obtain⟨dN,H⟩:=H
  obtain⟨bU,A4,H⟩:=qE H
  try dsimp only at H
  obtain⟨bV,A5,H⟩:=qE H
  try dsimp only at H
  have H':=aM H
  clear H
  try go_wp2
  replace HB:=aM (below_drew1 HB.out)
  have cO:0<=(aa:Int):=qD
  have df:aa < (l0.length:Int):=qD
  obtain⟨ae,bQ,bR,bv,bz,bA,bB,dD,av,ax,ay,az,aA,af,ag,ah,bC,bD,bE,bF,bG,bH⟩:=at_T92 dM.out aa cO df
  have aJ:=ah
  have aK:=ag
  have aN:=af
  have aQ:=aA
  have aT:=az
  have aU:=ay
  have aV:=ax
  have aW:=av
  cases dD
  replace av:=kx HB av
  replace ax:=kx HB ax
  replace ay:=kx HB ay
  replace az:=kx HB az
  replace aA:=kx HB aA
  replace af:=kx HB af
  replace ag:=kx HB ag
  replace ah:=kx HB ah
  have bX:=aM bD
  have dx:=aM bC
  clear bD bC
  have bI:=aM bF
  have bY:=aM bE
  clear bF bE
  have bZ:=aM bH
  have dz:=aM bG
  clear bH bG
  replace cO:=eq_true cO
  replace df:=eq_true df
  have dh:0<=(aa:Int):=qD
  have di:aa < (l0.length:Int):=qD
  obtain⟨dn,dE,dF,dG,dH,dI,dJ,dK,aC,aD,aG,aH,aI,ai,aj,au,bJ,bK,bL,bM,bN,bO⟩:=at_T92 dM.out aa dh di
  have aX:=au
  have aY:=aj
  have aZ:=ai
  have bg:=aI
  have bi:=aH
  have bn:=aG
  have bq:=aD
  have bu:=aC
  obtain rfl:ae=dn:=(by injection dK)
  replace aC:=kx HB aC
  replace aD:=kx HB aD
  replace aG:=kx HB aG
  replace aH:=kx HB aH
  replace aI:=kx HB aI
  replace ai:=kx HB ai
  replace aj:=kx HB aj
  replace au:=kx HB au
  have cz:=aM bK
  have dA:=aM bJ
  clear bK bJ
  have cB:=aM bM
  have dB:=aM bL
  clear bM bL
  have bP:=aM bO
  have cK:=aM bN
  clear bO bN
  replace dh:=eq_true dh
  replace di:=eq_true di
  have ea_:=Option.some.inj (af.symm.trans ai)
  injection ea_ with ea_ en_ ec_
  subst ea_
  subst ec_
  clear en_
  have ea_:=Option.some.inj (ag.symm.trans aj)
  injection ea_ with ea_ en_ ec_
  subst ea_
  subst ec_
  clear en_
  have ea_:=Option.some.inj (ah.symm.trans au)
  injection ea_ with ea_ en_ ec_
  subst ea_
  subst ec_
  clear en_
  refine start_ (n:=17) (S:=fun w'=>w'.cell? (ae.add ((aa).toNat*8))=some (.int .i64 ((rd_T92 l0 aa).f0))/\w'.cell? ⟨(ae.add ((aa).toNat*8)).block,(ae.add ((aa).toNat*8)).off+1,none⟩=some (.int .i64 ((rd_T92 l0 aa).f1))/\w'.cell? ⟨(ae.add ((aa).toNat*8)).block,(ae.add ((aa).toNat*8)).off+2,none⟩=some (.int .i64 ((rd_T92 l0 aa).f2))/\w'.cell? ⟨(ae.add ((aa).toNat*8)).block,(ae.add ((aa).toNat*8)).off+3,none⟩=some (.int .i64 ((rd_T92 l0 aa).f3.f0))/\w'.cell? ⟨(ae.add ((aa).toNat*8)).block,(ae.add ((aa).toNat*8)).off+4,none⟩=some (.int .i64 ((rd_T92 l0 aa).f3.f1))/\w'.cell? ⟨(ae.add ((aa).toNat*8)).block,(ae.add ((aa).toNat*8)).off+5,none⟩=some (.slice bQ ((rd_T92 l0 aa).f3.f2).length bR)/\w'.cell? ⟨(ae.add ((aa).toNat*8)).block,(ae.add ((aa).toNat*8)).off+6,none⟩=some (.slice bv ((rd_T92 l0 aa).f4).length bz)/\w'.cell? ⟨(ae.add ((aa).toNat*8)).block,(ae.add ((aa).toNat*8)).off+7,none⟩=some (.slice bA ((rd_T92 l0 aa).f5).length bB)/\w'.cell? (ae.add ((aa).toNat*8))=some (.int .i64 ((rd_T92 l0 aa).f0))/\w'.cell? ⟨(ae.add ((aa).toNat*8)).block,(ae.add ((aa).toNat*8)).off+1,none⟩=some (.int .i64 ((rd_T92 l0 aa).f1))/\w'.cell? ⟨(ae.add ((aa).toNat*8)).block,(ae.add ((aa).toNat*8)).off+2,none⟩=some (.int .i64 ((rd_T92 l0 aa).f2))/\w'.cell? ⟨(ae.add ((aa).toNat*8)).block,(ae.add ((aa).toNat*8)).off+3,none⟩=some (.int .i64 ((rd_T92 l0 aa).f3.f0))/\w'.cell? ⟨(ae.add ((aa).toNat*8)).block,(ae.add ((aa).toNat*8)).off+4,none⟩=some (.int .i64 ((rd_T92 l0 aa).f3.f1))/\w'.cell? ⟨(ae.add ((aa).toNat*8)).block,(ae.add ((aa).toNat*8)).off+5,none⟩=some (.slice bQ ((rd_T92 l0 aa).f3.f2).length bR)/\w'.cell? ⟨(ae.add ((aa).toNat*8)).block,(ae.add ((aa).toNat*8)).off+6,none⟩=some (.slice bv ((rd_T92 l0 aa).f4).length bz)/\w'.cell? ⟨(ae.add ((aa).toNat*8)).block,(ae.add ((aa).toNat*8)).off+7,none⟩=some (.slice bA ((rd_T92 l0 aa).f5).length bB)) (ds:=[]) (jb 17 0) (by kernel_rfl) rfl rfl ⟨(kx HB aW),(kx HB aV),(kx HB aU),(kx HB aT),(kx HB aQ),(kx HB aN),(kx HB aK),(kx HB aJ),(kx HB bu),(kx HB bq),(kx HB bn),(kx HB bi),(kx HB bg),(kx HB aZ),(kx HB aY),(kx HB aX)⟩ (fun hHeld=>?_);refine with_tabW SaC.tab5 SaC.bits5 (fun HT_ HW_=>?_)
  generalize wr.drew=w6 at HB bX bI bZ cz cB bP av ax ay az aA af ag ah aC aD aG aH aI ai aj au hHeld ⊢
  refine jp 0 11 (jb 17 1) ?_
  refine jp 1 12 (jb 17 3) ?_
  refine jp 2 13 (jb 17 7) ?_
  refine jp 3 14 (jb 17 15) ?_
  refine jp 4 15 (jb 17 31) ?_
  refine jp 5 16 (jb 17 63) ?_
  refine jp 9 20 (jb 17 575) ?_
  refine jp 10 21 (jb 17 1599) ?_
  refine jp 11 22 (jb 17 3647) ?_
  refine jp 12 23 (jb 17 7743) ?_
  refine jt 6 17 (jb 17 7807) ?_
  refine jt 13 24 (jb 17 15999) ?_
  refine one_ (i:=7) (N:=some 18) (jb 17 16127) rfl rfl (one_of HT_.out (by kernel_rfl)) (by decide) (fun K hK=>?_)
  refine goes_ Tryz.func74 (by kernel_rfl) rfl #[.slice bv ((rd_T92 l0 aa).f4).length bz] (by rfl) rfl rfl qM ?_
  with_reducible refine (ih k1 (by have:=dw.out;omega) _ _ ((rd_T92 l0 aa).f4) bU _ ?bS ?bT A4.out).mono ?_
  (case bS=>exact kC (Kd.C_below bI.out HB.out))
  (case bT=>exact bY.out)
  rintro e w7 ⟨rfl,hb⟩
  refine⟨_,rfl,?_⟩
  replace HB:=kH hb
  (try clear hb)
  (try clear hb2)
  (try clear hk)
  (try clear hi)
  refine hK.out _ _ ⟨(kx HB aW),(kx HB aV),(kx HB aU),(kx HB aT),(kx HB aQ),(kx HB aN),(kx HB aK),(kx HB aJ),(kx HB bu),(kx HB bq),(kx HB bn),(kx HB bi),(kx HB bg),(kx HB aZ),(kx HB aY),(kx HB aX)⟩ (fun hHeld=>?_)
  clear hK K
  refine norm_ (a':=?_) ?_ ?_
  rotate_left
  ·show Act.put _ (some 18) _=_
   simp only [Act.put,List.setIfInBounds_toArray,List.set_cons_zero,List.set_cons_succ,i64_w,i32_w]
   rfl
  refine jp 8 19 (jb 17 16383) ?_
  refine one_ (i:=14) (N:=some 25) (jb 17 32767) rfl rfl (one_of HT_.out (by kernel_rfl)) (by decide) (fun K hK=>?_)
  refine goes_ Tryz.func74 (by kernel_rfl) rfl #[.slice bA ((rd_T92 l0 aa).f5).length bB] (by rfl) rfl rfl qM ?_
  with_reducible refine (ih k1 (by have:=dw.out;omega) _ _ ((rd_T92 l0 aa).f5) bV _ ?bS ?bT A5.out).mono ?_
  (case bS=>exact kC (Kd.C_below bP.out HB.out))
  (case bT=>exact cK.out)
  rintro e w8 ⟨rfl,hb⟩
  refine⟨_,rfl,?_⟩
  replace HB:=kH hb
  (try clear hb)
  (try clear hb2)
  (try clear hk)
  (try clear hi)
  refine hK.out _ _ ⟨(kx HB aW),(kx HB aV),(kx HB aU),(kx HB aT),(kx HB aQ),(kx HB aN),(kx HB aK),(kx HB aJ),(kx HB bu),(kx HB bq),(kx HB bn),(kx HB bi),(kx HB bg),(kx HB aZ),(kx HB aY),(kx HB aX)⟩ (fun hHeld=>?_)
  clear hK K
  refine norm_ (a':=?_) ?_ ?_
  rotate_left
  ·show Act.put _ (some 25) _=_
   simp only [Act.put,List.setIfInBounds_toArray,List.set_cons_zero,List.set_cons_succ,i64_w,i32_w]
   rfl
  refine jp 15 26 (jb 17 65535) ?_
  refine jp 16 3 (jb 17 131071) ?_
  refine done_ (done_of HT_.out (by kernel_rfl)) ?_
  try go_wp2
  go_roundg k1
  case measure=>have:=dw.out;omega
  exact⟨(wrap64 ((wrap64 ((wrap64 (bW+1))+bU))+bV)),(wrap64 (aa+1)),qZ,qZ,H',⟨by have:=dw.out;omega⟩,⟨qB⟩⟩
 obtain rfl:=oJ H
 go_wp2
 go_ret
 exact⟨qW,qB⟩
def Sbm.f (a0 a1 a2:Int):Option (Bool):=if a0>=a1 then (some (decide (a0<=a2))) else (some false)
theorem Sbm.calls (a0 a1 a2:Int) (r:Bool) (w:World) (h:Sbm.f a0 a1 a2=some r) :
  Calls Tryz.prog 46 #[.int .i64 a0,.int .i64 a1,.int .i64 a2] w fun e w'=>e = .returned (.bool r)/\Drawn0 w w':=by
 have H:(if a0>=a1 then (some (decide (a0<=a2))) else (some false))=some r:=h
 clear h
 replace H:=jD H;rcases H with ⟨aa,H⟩ | ⟨aa,H⟩
 ·obtain rfl:=oJ H
  go_enter Tryz.func46,Tryz.ntmps46
  go_wp2
  go_ret
  exact⟨qZ,qU⟩
 obtain rfl:=oJ H
 go_enter Tryz.func46,Tryz.ntmps46
 go_wp2
 go_ret
 exact⟨qZ,qU⟩
def SaG.f (ay aa az aA aC:Int) (ae:List (S90)) (af ag:List (S92)) (a1:Bool):Option (Bool):=if a1=true then ((Sbm.f aa 0 3).bind fun t201=>(some t201)) else (some (aa == 0))
theorem SaG_0 {G:Prop} (h:G:=by
  go_enter Tryz.func106,Tryz.ntmps106
  go_wp2_with (first|((with_reducible refine jd 2 rfl ?_);refine jX _ 92 ?_;intro aQ hg bg hbox hb;have aD:=aM hbox;have aT:=kG hg;replace HB:=kH hb;clear hb hbox hg;have bi:=jz8 aD)|((with_reducible refine jc 46 8 rfl rfl ?_);refine jG Tryz.func46 #[.int .i64 aa,.int .i64 0,.int .i64 3] ?_;refine (Sbm.calls _ _ _ _ _ (Aside0.out (by assumption))).mono ?_;rintro e w' ⟨rfl,⟨nd,rfl⟩⟩;refine⟨_,rfl,?_⟩))
  go_ret
  exact⟨qW,qB⟩):G:=h
theorem SaG.calls (ay aa az aA aC:Int) (aG:Option Addr) (aH:Nat) (ae:List (S90)) (aI:Option Addr) (aJ:Nat) (af:List (S92)) (aK:Option Addr) (aN:Nat) (ag:List (S92)) (a1 r:Bool) (w:World) (ah:Kd.C k90 w aG ae.length ae) (ai:ae.length<=aH) (aj:Kd.C k92 w aI af.length af) (au:af.length<=aJ) (av:Kd.C k92 w aK ag.length ag) (ax:ag.length<=aN) (h:SaG.f ay aa az aA aC ae af ag a1=some r) :
  Calls Tryz.prog 106 #[.agg #[.int .i64 ay,.int .i64 aa,.int .i64 az,.int .i64 aA,.int .i64 aC,.slice aG ae.length aH,.slice aI af.length aJ,.slice aK ag.length aN],.bool a1] w fun e w'=>e = .returned (.bool r)/\Below w.heap.size w w':=by
 have bn:=Tryz.underlying92
 have aU:=aM ah
 have aV:=aM ai
 clear ah ai
 have aW:=aM aj
 have aX:=aM au
 clear aj au
 have aY:=aM av
 have aZ:=aM ax
 clear av ax
 have HB:=aM (Below.refl w.heap.size w)
 have H:=h;unfold SaG.f at H
 clear h
 replace H:=jB H;rcases H with ⟨rfl,H⟩ | ⟨rfl,H⟩
 ·obtain⟨t201,A4,H⟩:=qE H
  try dsimp only at H
  obtain rfl:=oJ H
  exact SaG_0
 obtain rfl:=oJ H
 exact SaG_0
def SaB.f (ay az aa aA aC:Int) (ae:List (S90)) (af ag:List (S92)) (a1:Bool):Option (Bool):=if a1=true then ((Sbm.f aa 0 2).bind fun t203=>(some t203)) else (some (aa == 0))
theorem SaB_0 {G:Prop} (h:G:=by
  go_enter Tryz.func107,Tryz.ntmps107
  go_wp2_with (first|((with_reducible refine jd 2 rfl ?_);refine jX _ 92 ?_;intro aQ hg bg hbox hb;have aD:=aM hbox;have aT:=kG hg;replace HB:=kH hb;clear hb hbox hg;have bi:=jz8 aD)|((with_reducible refine jc 46 8 rfl rfl ?_);refine jG Tryz.func46 #[.int .i64 aa,.int .i64 0,.int .i64 2] ?_;refine (Sbm.calls _ _ _ _ _ (Aside0.out (by assumption))).mono ?_;rintro e w' ⟨rfl,⟨nd,rfl⟩⟩;refine⟨_,rfl,?_⟩))
  go_ret
  exact⟨qW,qB⟩):G:=h
theorem SaB.calls (ay az aa aA aC:Int) (aG:Option Addr) (aH:Nat) (ae:List (S90)) (aI:Option Addr) (aJ:Nat) (af:List (S92)) (aK:Option Addr) (aN:Nat) (ag:List (S92)) (a1 r:Bool) (w:World) (ah:Kd.C k90 w aG ae.length ae) (ai:ae.length<=aH) (aj:Kd.C k92 w aI af.length af) (au:af.length<=aJ) (av:Kd.C k92 w aK ag.length ag) (ax:ag.length<=aN) (h:SaB.f ay az aa aA aC ae af ag a1=some r) :
  Calls Tryz.prog 107 #[.agg #[.int .i64 ay,.int .i64 az,.int .i64 aa,.int .i64 aA,.int .i64 aC,.slice aG ae.length aH,.slice aI af.length aJ,.slice aK ag.length aN],.bool a1] w fun e w'=>e = .returned (.bool r)/\Below w.heap.size w w':=by
 have bn:=Tryz.underlying92
 have aU:=aM ah
 have aV:=aM ai
 clear ah ai
 have aW:=aM aj
 have aX:=aM au
 clear aj au
 have aY:=aM av
 have aZ:=aM ax
 clear av ax
 have HB:=aM (Below.refl w.heap.size w)
 have H:=h;unfold SaB.f at H
 clear h
 replace H:=jB H;rcases H with ⟨rfl,H⟩ | ⟨rfl,H⟩
 ·obtain⟨t203,A4,H⟩:=qE H
  try dsimp only at H
  obtain rfl:=oJ H
  exact SaB_0
 obtain rfl:=oJ H
 exact SaB_0
def Sar.f (a0:Int):Option (Bool):=(Sbm.f a0 1 12).bind fun aa=>(some aa)
theorem Sar.calls (a0:Int) (r:Bool) (w:World) (h:Sar.f a0=some r) :
  Calls Tryz.prog 67 #[.int .i64 a0] w fun e w'=>e = .returned (.bool r)/\Drawn0 w w':=by
 have H:((Sbm.f a0 1 12).bind fun aa=>(some aa))=some r:=h
 clear h
 obtain⟨aa,A2,H⟩:=qE H
 try dsimp only at H
 obtain rfl:=oJ H
 go_enter Tryz.func67,Tryz.ntmps67
 go_wp2_with (first|((with_reducible refine jc 46 4 rfl rfl ?_);refine jG Tryz.func46 #[.int .i64 a0,.int .i64 1,.int .i64 12] ?_;refine (Sbm.calls a0 1 12 aa _ A2.out).mono ?_;rintro e w' ⟨rfl,⟨nd,rfl⟩⟩;refine⟨_,rfl,?_⟩))
 go_ret
 exact⟨qZ,qU⟩
def Sbl.f:Nat->Int->Int->List (S90)->Int->Option (Bool)
 | 0,_,_,_,_=>none
 | k+1,ai,aj,ae,a1=>if a1 < 1 then (some false) else (if ai=0 then ((Sbm.f aj 0 99999).bind fun t206=>(if t206=true then (some ((ae.length:Int) == 0)) else (some false))) else (if ai=13 then ((Sbm.f aj 0 3).bind fun bv=>(if bv=true then (some ((ae.length:Int) == 0)) else (some false))) else ((Sar.f ai).bind fun t208=>(if t208=true then (if aj=0 then (if (ae.length:Int)=2 then (if 0 < (ae.length:Int) then ((Sbl.f k ((rd_T90 ae 0).f0) ((rd_T90 ae 0).f1) ((rd_T90 ae 0).f2) (wrap64 (a1 - 1))).bind fun t210=>(if t210=true then (if 1 < (ae.length:Int) then ((Sbl.f k ((rd_T90 ae 1).f0) ((rd_T90 ae 1).f1) ((rd_T90 ae 1).f2) (wrap64 (a1 - 1))).bind fun t212=>(some t212)) else (none)) else (some false))) else (none)) else (some false)) else (some false)) else (some false)))))
theorem Sbl.calls (k:Nat):∀ (ai:Int) (aj:Int) (aZ:Option Addr) (bg:Nat) (ae:List (S90)) (a1:Int) (r:Bool) (w:World) (aT:Kd.C k90 w aZ ae.length ae) (aU:ae.length<=bg) (h:Sbl.f k ai aj ae a1=some r),
  Calls Tryz.prog 119 #[.agg #[.int .i64 ai,.int .i64 aj,.slice aZ ae.length bg],.int .i64 a1] w fun e w'=>e = .returned (.bool r)/\Below w.heap.size w w':=by
 induction k using Nat.strongRecOn with
 | _ k ih =>
 intro ai aj aZ bg ae a1 r w aT aU h
 cases k with
 | zero=>exact absurd h (by simp [Sbl.f])
 | succ k =>
 simp only [Sbl.f] at h
 have bX:=Tryz.underlying90
 have aV:=aM aT
 have bO:=aM aU
 clear aT aU
 have HB:=aM (Below.refl w.heap.size w)
 have H:=h
 clear h
 replace H:=jD H;rcases H with ⟨bI,H⟩ | ⟨bI,H⟩
 ·obtain rfl:=oJ H
  go_enter Tryz.func119,Tryz.ntmps119
  go_wp2_with (first|((with_reducible refine jd 2 rfl ?_);(try (refine gate_guard (by rfl) ?_;dsimp only));refine jX _ 90 ?_;intro au hg w4 hbox hb;have aa:=aM hbox;have av:=kG hg;replace HB:=kH hb;clear hb hbox hg))
  go_ret
  exact⟨qW,qB⟩
 replace H:=jE H;rcases H with ⟨bJ,bK,H⟩ | ⟨c5,bJ,bK,H⟩
 ·obtain⟨t206,A6,H⟩:=qE H
  try dsimp only at H
  replace H:=jB H;rcases H with ⟨rfl,H⟩ | ⟨rfl,H⟩
  ·obtain rfl:=oJ H
   go_enter Tryz.func119,Tryz.ntmps119
   go_wp2_with (first|((with_reducible refine jd 2 rfl ?_);(try (refine gate_guard (by rfl) ?_;dsimp only));refine jX _ 90 ?_;intro au hg w8 hbox hb;have aa:=aM hbox;have av:=kG hg;replace HB:=kH hb;clear hb hbox hg;have dw:=jz3 aa)|((with_reducible refine jc 46 12 rfl rfl ?_);refine jG Tryz.func46 #[.int .i64 aj,.int .i64 0,.int .i64 99999] ?_;refine (Sbm.calls aj 0 99999 true _ A6.out).mono ?_;rintro e w' ⟨rfl,⟨nd,rfl⟩⟩;refine⟨_,rfl,?_⟩))
   go_ret
   exact⟨qW,qB⟩
  obtain rfl:=oJ H
  go_enter Tryz.func119,Tryz.ntmps119
  go_wp2_with (first|((with_reducible refine jd 2 rfl ?_);(try (refine gate_guard (by rfl) ?_;dsimp only));refine jX _ 90 ?_;intro au hg dx hbox hb;have aa:=aM hbox;have av:=kG hg;replace HB:=kH hb;clear hb hbox hg;have bY:=jz3 aa)|((with_reducible refine jc 46 12 rfl rfl ?_);refine jG Tryz.func46 #[.int .i64 aj,.int .i64 0,.int .i64 99999] ?_;refine (Sbm.calls aj 0 99999 false _ A6.out).mono ?_;rintro e w' ⟨rfl,⟨nd,rfl⟩⟩;refine⟨_,rfl,?_⟩))
  go_ret
  exact⟨qW,qB⟩
 replace H:=jE H;rcases H with ⟨bz,bA,H⟩ | ⟨c12,bz,bA,H⟩
 ·obtain⟨bv,bP,H⟩:=qE H
  try dsimp only at H
  replace H:=jB H;rcases H with ⟨rfl,H⟩ | ⟨rfl,H⟩
  ·obtain rfl:=oJ H
   go_enter Tryz.func119,Tryz.ntmps119
   go_wp2_with (first|((with_reducible refine jd 2 rfl ?_);(try (refine gate_guard (by rfl) ?_;dsimp only));refine jX _ 90 ?_;intro au hg dz hbox hb;have aa:=aM hbox;have av:=kG hg;replace HB:=kH hb;clear hb hbox hg;have bZ:=jz3 aa)|((with_reducible refine jc 46 24 rfl rfl ?_);refine jG Tryz.func46 #[.int .i64 aj,.int .i64 0,.int .i64 3] ?_;refine (Sbm.calls aj 0 3 true _ bP.out).mono ?_;rintro e w' ⟨rfl,⟨nd,rfl⟩⟩;refine⟨_,rfl,?_⟩))
   go_ret
   exact⟨qW,qB⟩
  obtain rfl:=oJ H
  go_enter Tryz.func119,Tryz.ntmps119
  go_wp2_with (first|((with_reducible refine jd 2 rfl ?_);(try (refine gate_guard (by rfl) ?_;dsimp only));refine jX _ 90 ?_;intro au hg dA hbox hb;have aa:=aM hbox;have av:=kG hg;replace HB:=kH hb;clear hb hbox hg;have cz:=jz3 aa)|((with_reducible refine jc 46 24 rfl rfl ?_);refine jG Tryz.func46 #[.int .i64 aj,.int .i64 0,.int .i64 3] ?_;refine (Sbm.calls aj 0 3 false _ bP.out).mono ?_;rintro e w' ⟨rfl,⟨nd,rfl⟩⟩;refine⟨_,rfl,?_⟩))
  go_ret
  exact⟨qW,qB⟩
 obtain⟨t208,bB,H⟩:=qE H
 try dsimp only at H
 replace H:=jB H;rcases H with ⟨rfl,H⟩ | ⟨rfl,H⟩
 ·replace H:=jE H;rcases H with ⟨bC,bD,H⟩ | ⟨c21,bC,bD,H⟩
  ·replace H:=jE H;rcases H with ⟨bE,bF,H⟩ | ⟨dB,bE,bF,H⟩
   ·replace H:=jU H;obtain⟨c23,H⟩:=H
    have bQ:=decide_eq_true c23
    have bR:decide (0 < ae.length)=true:=decide_eq_true (by omega)
    clear c23
    obtain⟨t210,bS,H⟩:=qE H
    try dsimp only at H
    replace H:=jB H;rcases H with ⟨rfl,H⟩ | ⟨rfl,H⟩
    ·replace H:=jU H;obtain⟨bT,H⟩:=H
     have bU:=decide_eq_true bT
     have bV:decide (1 < ae.length)=true:=decide_eq_true (by omega)
     clear bT
     obtain⟨t212,cB,H⟩:=qE H
     try dsimp only at H
     obtain rfl:=oJ H
     go_enter Tryz.func119,Tryz.ntmps119
     go_wp2_with (first|((with_reducible refine jd 2 rfl ?_);(try (refine gate_guard (by rfl) ?_;dsimp only));refine jX _ 90 ?_;intro au hg dC hbox hb;have aa:=aM hbox;have av:=kG hg;replace HB:=kH hb;clear hb hbox hg;have cK:=jz3 aa)|((with_reducible refine jc 67 33 rfl rfl ?_);refine jG Tryz.func67 #[.int .i64 ai] ?_;refine (Sar.calls ai true _ bB.out).mono ?_;rintro e w' ⟨rfl,⟨nd,rfl⟩⟩;refine⟨_,rfl,?_⟩;have aJ:0<=(0:Int):=(by omega);have aK:0 < (ae.length:Int):=qD;obtain⟨aY,bi,bn,e209,af,ag,ah,ax,ay⟩:=at_T90 aV.out 0 aJ aK;cases e209;have bG:(0 < ae.length)=True:=eq_true (by omega);(try rw [show ((0:Int)).toNat=0 from rfl] at af);(try rw [show 0*3=0 from rfl] at af);(try rw [Addr.add_zero'] at af);(try rw [show ((0:Int)).toNat=0 from rfl] at ag);(try rw [show 0*3=0 from rfl] at ag);(try rw [Addr.add_zero'] at ag);(try rw [show ((0:Int)).toNat=0 from rfl] at ah);(try rw [show 0*3=0 from rfl] at ah);(try rw [Addr.add_zero'] at ah);replace af:=kx HB af;replace ag:=kx HB ag;replace ah:=kx HB ah;have aD:=aM ay;have aG:=aM ax;clear ay ax;replace aJ:=eq_true aJ;replace aK:=eq_true aK)|(go_at_call 119;(with_reducible refine (ih k (by omega) ((rd_T90 ae 0).f0) ((rd_T90 ae 0).f1) _ _ ((rd_T90 ae 0).f2) (wrap64 (a1 - 1)) true _ ?aH ?aI bS.out).mono ?_);(case aH=>exact kC (Kd.C_below aD.out qB));(case aI=>exact aG.out);rintro e dD ⟨rfl,hb⟩;replace aa:=kB aa hb;replace HB:=kH hb;clear hb;have cO:=jz3 aa;have bq:0<=(1:Int):=(by omega);have bu:1 < (ae.length:Int):=qD;obtain⟨bH,bL,bM,e211,az,aA,aC,aN,aQ⟩:=at_T90 aV.out 1 bq bu;obtain rfl:aY=bH:=(by injection e211);(try simp only [show (1:Int).toNat=1 from rfl,Nat.reduceMul,Nat.reduceEqDiff,Go.Addr.add,↓reduceIte] at az);(try simp only [show (1:Int).toNat=1 from rfl,Nat.reduceMul,Nat.reduceEqDiff,Go.Addr.add,↓reduceIte] at aA);(try simp only [show (1:Int).toNat=1 from rfl,Nat.reduceMul,Nat.reduceEqDiff,Go.Addr.add,↓reduceIte] at aC);have bW:(1 < ae.length)=True:=eq_true (by omega);(try rw [show ((1:Int)).toNat=1 from rfl] at az);(try rw [show 1*3=3 from rfl] at az);(try rw [show ((1:Int)).toNat=1 from rfl] at aA);(try rw [show 1*3=3 from rfl] at aA);(try rw [show ((1:Int)).toNat=1 from rfl] at aC);(try rw [show 1*3=3 from rfl] at aC);replace az:=kx HB az;replace aA:=kx HB aA;replace aC:=kx HB aC;have aW:=aM aQ;have aX:=aM aN;clear aQ aN;replace bq:=eq_true bq;replace bu:=eq_true bu)|(go_at_call 119;(with_reducible refine (ih k (by omega) ((rd_T90 ae 1).f0) ((rd_T90 ae 1).f1) _ _ ((rd_T90 ae 1).f2) (wrap64 (a1 - 1)) t212 _ ?aH ?aI cB.out).mono ?_);(case aH=>exact kC (Kd.C_below aW.out HB.out));(case aI=>exact aX.out);rintro e w32 ⟨rfl,hb⟩;replace aa:=kB aa hb;replace HB:=kH hb;clear hb))
     go_ret
     exact⟨qW,qB⟩
    obtain rfl:=oJ H
    go_enter Tryz.func119,Tryz.ntmps119
    go_wp2_with (first|((with_reducible refine jd 2 rfl ?_);(try (refine gate_guard (by rfl) ?_;dsimp only));refine jX _ 90 ?_;intro au hg dE hbox hb;have aa:=aM hbox;have av:=kG hg;replace HB:=kH hb;clear hb hbox hg;have df:=jz3 aa)|((with_reducible refine jc 67 33 rfl rfl ?_);refine jG Tryz.func67 #[.int .i64 ai] ?_;refine (Sar.calls ai true _ bB.out).mono ?_;rintro e w' ⟨rfl,⟨nd,rfl⟩⟩;refine⟨_,rfl,?_⟩;have aJ:0<=(0:Int):=(by omega);have aK:0 < (ae.length:Int):=qD;obtain⟨aY,bi,bn,e209,af,ag,ah,ax,ay⟩:=at_T90 aV.out 0 aJ aK;cases e209;have bG:(0 < ae.length)=True:=eq_true (by omega);(try rw [show ((0:Int)).toNat=0 from rfl] at af);(try rw [show 0*3=0 from rfl] at af);(try rw [Addr.add_zero'] at af);(try rw [show ((0:Int)).toNat=0 from rfl] at ag);(try rw [show 0*3=0 from rfl] at ag);(try rw [Addr.add_zero'] at ag);(try rw [show ((0:Int)).toNat=0 from rfl] at ah);(try rw [show 0*3=0 from rfl] at ah);(try rw [Addr.add_zero'] at ah);replace af:=kx HB af;replace ag:=kx HB ag;replace ah:=kx HB ah;have aD:=aM ay;have aG:=aM ax;clear ay ax;replace aJ:=eq_true aJ;replace aK:=eq_true aK)|(go_at_call 119;(with_reducible refine (ih k (by omega) ((rd_T90 ae 0).f0) ((rd_T90 ae 0).f1) _ _ ((rd_T90 ae 0).f2) (wrap64 (a1 - 1)) false _ ?aH ?aI bS.out).mono ?_);(case aH=>exact kC (Kd.C_below aD.out qB));(case aI=>exact aG.out);rintro e dF ⟨rfl,hb⟩;replace aa:=kB aa hb;replace HB:=kH hb;clear hb))
    go_ret
    exact⟨qW,qB⟩
   obtain rfl:=oJ H
   go_enter Tryz.func119,Tryz.ntmps119
   go_wp2_with (first|((with_reducible refine jd 2 rfl ?_);(try (refine gate_guard (by rfl) ?_;dsimp only));refine jX _ 90 ?_;intro au hg dG hbox hb;have aa:=aM hbox;have av:=kG hg;replace HB:=kH hb;clear hb hbox hg;have dh:=jz3 aa)|((with_reducible refine jc 67 33 rfl rfl ?_);refine jG Tryz.func67 #[.int .i64 ai] ?_;refine (Sar.calls ai true _ bB.out).mono ?_;rintro e w' ⟨rfl,⟨nd,rfl⟩⟩;refine⟨_,rfl,?_⟩))
   go_ret
   exact⟨qW,qB⟩
  obtain rfl:=oJ H
  go_enter Tryz.func119,Tryz.ntmps119
  go_wp2_with (first|((with_reducible refine jd 2 rfl ?_);(try (refine gate_guard (by rfl) ?_;dsimp only));refine jX _ 90 ?_;intro au hg dH hbox hb;have aa:=aM hbox;have av:=kG hg;replace HB:=kH hb;clear hb hbox hg;have di:=jz3 aa)|((with_reducible refine jc 67 33 rfl rfl ?_);refine jG Tryz.func67 #[.int .i64 ai] ?_;refine (Sar.calls ai true _ bB.out).mono ?_;rintro e w' ⟨rfl,⟨nd,rfl⟩⟩;refine⟨_,rfl,?_⟩))
  go_ret
  exact⟨qW,qB⟩
 obtain rfl:=oJ H
 go_enter Tryz.func119,Tryz.ntmps119
 go_wp2_with (first|((with_reducible refine jd 2 rfl ?_);(try (refine gate_guard (by rfl) ?_;dsimp only));refine jX _ 90 ?_;intro au hg dI hbox hb;have aa:=aM hbox;have av:=kG hg;replace HB:=kH hb;clear hb hbox hg;have dn:=jz3 aa)|((with_reducible refine jc 67 33 rfl rfl ?_);refine jG Tryz.func67 #[.int .i64 ai] ?_;refine (Sar.calls ai false _ bB.out).mono ?_;rintro e w' ⟨rfl,⟨nd,rfl⟩⟩;refine⟨_,rfl,?_⟩))
 go_ret
 exact⟨qW,qB⟩
def Sam.f (k:Nat) (ae af:Int) (aa:List (S90)):Option (Bool):=(Sbl.f k ae af aa 5).bind fun ag=>(some ag)
theorem Sam.calls (k:Nat) (ae af:Int) (au:Option Addr) (av:Nat) (aa:List (S90)) (r:Bool) (w:World) (ai:Kd.C k90 w au aa.length aa) (aj:aa.length<=av) (h:Sam.f k ae af aa=some r) :
  Calls Tryz.prog 108 #[.agg #[.int .i64 ae,.int .i64 af,.slice au aa.length av]] w fun e w'=>e = .returned (.bool r)/\Below w.heap.size w w':=by
 have aG:=Tryz.underlying90
 have ax:=aM ai
 have ay:=aM aj
 clear ai aj
 have HB:=aM (Below.refl w.heap.size w)
 have H:((Sbl.f k ae af aa 5).bind fun ag=>(some ag))=some r:=h
 clear h
 obtain⟨ag,A2,H⟩:=qE H
 try dsimp only at H
 obtain rfl:=oJ H
 go_enter Tryz.func108,Tryz.ntmps108
 go_wp2_with (first|((with_reducible refine jd 1 rfl ?_);refine jX _ 90 ?_;intro aC hg w3 hbox hb;have ah:=aM hbox;have aD:=kG hg;replace HB:=kH hb;clear hb hbox hg;have aH:=jz3 ah)|((with_reducible refine jc 119 4 rfl rfl ?_);refine jG Tryz.func119 #[.agg #[.int .i64 ae,.int .i64 af,.slice au aa.length av],.int .i64 5] ?_;refine (Sbl.calls k ae af _ _ aa 5 ag _ ?az ?aA A2.out).mono ?_;(case az=>exact kC (Kd.C_below ax.out HB.out));(case aA=>exact ay.out);rintro e w5 ⟨rfl,hb⟩;refine⟨_,rfl,?_⟩;replace ah:=kB ah hb;replace HB:=kH hb;clear hb))
 go_ret
 exact⟨qW,qB⟩
def SaE.f (ae af:Int) (aa:List (S90)):Option (Bool):=if ae=0 then (if af=0 then (some ((aa.length:Int) == 0)) else (some false)) else (some false)
theorem SaE_0 {G:Prop} (h:G:=by
  go_enter Tryz.func118,Tryz.ntmps118
  go_wp2_with (first|((with_reducible refine jd 1 rfl ?_);(try (refine gate_guard (by rfl) ?_;dsimp only));refine jX _ 90 ?_;intro aA hg aH hbox hb;have ai:=aM hbox;have aC:=kG hg;replace HB:=kH hb;clear hb hbox hg;have aI:=jz3 ai))
  go_ret
  exact⟨qW,qB⟩):G:=h
theorem SaE.calls (ae af:Int) (aj:Option Addr) (au:Nat) (aa:List (S90)) (r:Bool) (w:World) (ag:Kd.C k90 w aj aa.length aa) (ah:aa.length<=au) (h:SaE.f ae af aa=some r) :
  Calls Tryz.prog 118 #[.agg #[.int .i64 ae,.int .i64 af,.slice aj aa.length au]] w fun e w'=>e = .returned (.bool r)/\Below w.heap.size w w':=by
 have aJ:=Tryz.underlying90
 have aD:=aM ag
 have aG:=aM ah
 clear ag ah
 have HB:=aM (Below.refl w.heap.size w)
 have H:=h;unfold SaE.f at H
 clear h
 replace H:=jE H;rcases H with ⟨av,ax,H⟩ | ⟨c2,av,ax,H⟩
 ·replace H:=jE H;rcases H with ⟨ay,az,H⟩ | ⟨c3,ay,az,H⟩
  ·obtain rfl:=oJ H
   exact SaE_0
  obtain rfl:=oJ H
  exact SaE_0
 obtain rfl:=oJ H
 exact SaE_0
def SaF.j0:Nat->Bool->Int->Int->Int->Int->Int->List (S90)->List (S92)->List (S92)->Option (Bool)
 | 0,_,_,_,_,_,_,_,_,_=>none
 | k+1,di,xa,xb,xc,xd,xe,xf,xg,xh=>if di=true then (some false) else (if xa=1 then ((SaG.f xa xb xc xd xe xf xg xh true).bind fun bC=>(if bC=true then ((SaB.f xa xb xc xd xe xf xg xh false).bind fun t218=>(if t218=true then ((Sam.f k xd xe xf).bind fun bz=>(some bz)) else (some false))) else (some false))) else (if xa=4 then ((SaG.f xa xb xc xd xe xf xg xh false).bind fun bD=>(if bD=true then ((SaB.f xa xb xc xd xe xf xg xh true).bind fun bE=>(if bE=true then ((Sam.f k xd xe xf).bind fun t222=>(some t222)) else (some false))) else (some false))) else (if xa=5 then ((SaG.f xa xb xc xd xe xf xg xh true).bind fun bF=>(if bF=true then ((SaB.f xa xb xc xd xe xf xg xh true).bind fun bG=>(if bG=true then ((SaE.f xd xe xf).bind fun bA=>(some bA)) else (some false))) else (some false))) else (if xa=6 then ((SaG.f xa xb xc xd xe xf xg xh false).bind fun t226=>(if t226=true then ((SaB.f xa xb xc xd xe xf xg xh false).bind fun t227=>(if t227=true then ((SaE.f xd xe xf).bind fun t228=>(some t228)) else (some false))) else (some false))) else (if xa=7 then ((SaG.f xa xb xc xd xe xf xg xh false).bind fun t229=>(if t229=true then ((SaB.f xa xb xc xd xe xf xg xh false).bind fun bH=>(if bH=true then ((Sam.f k xd xe xf).bind fun bB=>(some bB)) else (some false))) else (some false))) else (some false))))))
def SaF.f (k:Nat) (aA aC aD ax ay:Int) (au:List (S90)) (av az:List (S92)):Option (Bool):=if (av.length:Int) > 0 then (SaF.j0 k true aA aC aD ax ay au av az) else (SaF.j0 k (decide ((az.length:Int) > 0)) aA aC aD ax ay au av az)
theorem SaF.calls (k:Nat) (aA aC aD ax ay:Int) (aQ:Option Addr) (aT:Nat) (au:List (S90)) (aU:Option Addr) (aV:Nat) (av:List (S92)) (aW:Option Addr) (aX:Nat) (az:List (S92)) (r:Bool) (w:World) (bg:Kd.C k90 w aQ au.length au) (bi:au.length<=aT) (bn:Kd.C k92 w aU av.length av) (bq:av.length<=aV) (bu:Kd.C k92 w aW az.length az) (bv:az.length<=aX) (h:SaF.f k aA aC aD ax ay au av az=some r) :
  Calls Tryz.prog 105 #[.agg #[.int .i64 aA,.int .i64 aC,.int .i64 aD,.int .i64 ax,.int .i64 ay,.slice aQ au.length aT,.slice aU av.length aV,.slice aW az.length aX]] w fun e w'=>e = .returned (.bool r)/\Below w.heap.size w w':=by
 have dw:=Tryz.underlying92
 have dx:=Tryz.underlying90
 have aG:=aM bg
 have aH:=aM bi
 clear bg bi
 have aI:=aM bn
 have aJ:=aM bq
 clear bn bq
 have aK:=aM bu
 have aN:=aM bv
 clear bu bv
 have HB:=aM (Below.refl w.heap.size w)
 have H:=h;unfold SaF.f at H
 clear h
 have bR:=aM H
 clear H
 go_enter Tryz.func105,Tryz.ntmps105
 go_upto_region 1 with (first|((with_reducible refine jd 1 rfl ?_);(try (refine gate_guard (by rfl) ?_;dsimp only));refine jX _ 92 ?_;intro bI hg w3 hbox hb;have aa:=aM hbox;have cz:=kG hg;replace HB:=kH hb;clear hb hbox hg))
 (try simp only [Act.put,List.setIfInBounds_toArray,List.set_cons_zero,List.set_cons_succ])
 go_cut [12] (fun v12 wc=>∃ (kq:Nat) (aY:Bool),v12 = .bool aY/\Aside0 (SaF.j0 kq aY aA aC aD ax ay au av az=some r)/\Aside0 (kq<=k)/\Aside0 (wc.heap[bI]?=some (.cells #[.int .i64 aA,.int .i64 aC,.int .i64 aD,.int .i64 ax,.int .i64 ay,(.slice aQ au.length aT),(.slice aU av.length aV),(.slice aW az.length aX)] 92 (0,0)))/\Aside0 (Below w.heap.size w wc))
 case first =>
  have H:=bR.out
  clear bR
  by_cases c4:(av.length:Int) > 0
  ·rw [if_pos c4] at H
   have aZ:=decide_eq_true c4
   have bS:decide (0 < av.length)=true:=decide_eq_true (by omega)
   clear c4
   (first|rw [aZ]|(simp only [i64_w,i32_w];rw [aZ])|skip)
   have H':=aM H
   clear H
   have eP:=jz8 aa
   go_wp2
   go_meet
   exact⟨_,(true),qZ,H',⟨by first|omega|exact Nat.le_refl _⟩,⟨qK aa⟩,⟨qB⟩⟩
  rw [if_neg c4] at H
  have aZ:=decide_eq_false c4
  have bS:decide (0 < av.length)=false:=decide_eq_false (by omega)
  clear c4
  (first|rw [aZ]|(simp only [i64_w,i32_w];rw [aZ])|skip)
  have H':=aM H
  clear H
  have eQ:=jz8 aa
  go_wp2
  go_meet
  exact⟨_,(decide ((az.length:Int) > 0)),qZ,H',⟨by first|omega|exact Nat.le_refl _⟩,⟨qK aa⟩,⟨qB⟩⟩
 clear bR
 obtain⟨kq,aY,rfl,HA,eT,aa,HB⟩:=hcut
 cases kq with
 | zero=>exact absurd HA.out (by simp [SaF.j0])
 | succ bT =>
  have H:=HA.out
  clear HA
  simp only [SaF.j0] at H
  replace H:=jB H;rcases H with ⟨rfl,H⟩ | ⟨rfl,H⟩
  ·obtain rfl:=oJ H
   go_wp2
   go_ret
   exact⟨qW,qB⟩
  replace H:=jE H;rcases H with ⟨bU,bV,H⟩ | ⟨c8,bU,bV,H⟩
  ·obtain⟨bC,A9,H⟩:=qE H
   try dsimp only at H
   replace H:=jB H;rcases H with ⟨rfl,H⟩ | ⟨rfl,H⟩
   ·obtain⟨t218,cB,H⟩:=qE H
    try dsimp only at H
    replace H:=jB H;rcases H with ⟨rfl,H⟩ | ⟨rfl,H⟩
    ·obtain⟨bz,dz,H⟩:=qE H
     try dsimp only at H
     obtain rfl:=oJ H
     have dA:=jz8 aa
     go_wp2_with (first|((with_reducible refine jc 106 18 rfl rfl ?_);refine jG Tryz.func106 #[.agg #[.int .i64 aA,.int .i64 aC,.int .i64 aD,.int .i64 ax,.int .i64 ay,.slice aQ au.length aT,.slice aU av.length aV,.slice aW az.length aX],.bool true] ?_;refine (SaG.calls aA aC aD ax ay _ _ au _ _ av _ _ az true true _ ?ae ?af ?ag ?ah ?ai ?aj A9.out).mono ?_;(case ae=>exact kC (Kd.C_below aG.out HB.out));(case af=>exact aH.out);(case ag=>exact kC (Kd.C_below aI.out HB.out));(case ah=>exact aJ.out);(case ai=>exact kC (Kd.C_below aK.out HB.out));(case aj=>exact aN.out);rintro e eU ⟨rfl,hb⟩;refine⟨_,rfl,?_⟩;replace aa:=kB aa hb;replace HB:=kH hb;clear hb;have dB:=jz8 aa)|(go_at_call 107;(with_reducible refine (SaB.calls aA aC aD ax ay _ _ au _ _ av _ _ az false true _ ?ae ?af ?ag ?ah ?ai ?aj cB.out).mono ?_);(case ae=>exact kC (Kd.C_below aG.out HB.out));(case af=>exact aH.out);(case ag=>exact kC (Kd.C_below aI.out HB.out));(case ah=>exact aJ.out);(case ai=>exact kC (Kd.C_below aK.out HB.out));(case aj=>exact aN.out);rintro e eX ⟨rfl,hb⟩;replace aa:=kB aa hb;replace HB:=kH hb;clear hb;have dC:=jz8 aa)|(go_at_call 108;(with_reducible refine (Sam.calls bT ax ay _ _ au bz _ ?ae ?af dz.out).mono ?_);(case ae=>exact kC (Kd.C_below aG.out HB.out));(case af=>exact aH.out);rintro e eY ⟨rfl,hb⟩;replace aa:=kB aa hb;replace HB:=kH hb;clear hb))
     go_ret
     exact⟨qW,qB⟩
    obtain rfl:=oJ H
    have dD:=jz8 aa
    go_wp2_with (first|((with_reducible refine jc 106 18 rfl rfl ?_);refine jG Tryz.func106 #[.agg #[.int .i64 aA,.int .i64 aC,.int .i64 aD,.int .i64 ax,.int .i64 ay,.slice aQ au.length aT,.slice aU av.length aV,.slice aW az.length aX],.bool true] ?_;refine (SaG.calls aA aC aD ax ay _ _ au _ _ av _ _ az true true _ ?ae ?af ?ag ?ah ?ai ?aj A9.out).mono ?_;(case ae=>exact kC (Kd.C_below aG.out HB.out));(case af=>exact aH.out);(case ag=>exact kC (Kd.C_below aI.out HB.out));(case ah=>exact aJ.out);(case ai=>exact kC (Kd.C_below aK.out HB.out));(case aj=>exact aN.out);rintro e eZ ⟨rfl,hb⟩;refine⟨_,rfl,?_⟩;replace aa:=kB aa hb;replace HB:=kH hb;clear hb;have dE:=jz8 aa)|(go_at_call 107;(with_reducible refine (SaB.calls aA aC aD ax ay _ _ au _ _ av _ _ az false false _ ?ae ?af ?ag ?ah ?ai ?aj cB.out).mono ?_);(case ae=>exact kC (Kd.C_below aG.out HB.out));(case af=>exact aH.out);(case ag=>exact kC (Kd.C_below aI.out HB.out));(case ah=>exact aJ.out);(case ai=>exact kC (Kd.C_below aK.out HB.out));(case aj=>exact aN.out);rintro e fe ⟨rfl,hb⟩;replace aa:=kB aa hb;replace HB:=kH hb;clear hb))
    go_ret
    exact⟨qW,qB⟩
   obtain rfl:=oJ H
   have dF:=jz8 aa
   go_wp2_with (first|((with_reducible refine jc 106 18 rfl rfl ?_);refine jG Tryz.func106 #[.agg #[.int .i64 aA,.int .i64 aC,.int .i64 aD,.int .i64 ax,.int .i64 ay,.slice aQ au.length aT,.slice aU av.length aV,.slice aW az.length aX],.bool true] ?_;refine (SaG.calls aA aC aD ax ay _ _ au _ _ av _ _ az true false _ ?ae ?af ?ag ?ah ?ai ?aj A9.out).mono ?_;(case ae=>exact kC (Kd.C_below aG.out HB.out));(case af=>exact aH.out);(case ag=>exact kC (Kd.C_below aI.out HB.out));(case ah=>exact aJ.out);(case ai=>exact kC (Kd.C_below aK.out HB.out));(case aj=>exact aN.out);rintro e fo ⟨rfl,hb⟩;refine⟨_,rfl,?_⟩;replace aa:=kB aa hb;replace HB:=kH hb;clear hb))
   go_ret
   exact⟨qW,qB⟩
  replace H:=jE H;rcases H with ⟨bJ,bK,H⟩ | ⟨fq,bJ,bK,H⟩
  ·obtain⟨bD,bW,H⟩:=qE H
   try dsimp only at H
   replace H:=jB H;rcases H with ⟨rfl,H⟩ | ⟨rfl,H⟩
   ·obtain⟨bE,cK,H⟩:=qE H
    try dsimp only at H
    replace H:=jB H;rcases H with ⟨rfl,H⟩ | ⟨rfl,H⟩
    ·obtain⟨t222,dG,H⟩:=qE H
     try dsimp only at H
     obtain rfl:=oJ H
     have dH:=jz8 aa
     go_wp2_with (first|((with_reducible refine jc 106 31 rfl rfl ?_);refine jG Tryz.func106 #[.agg #[.int .i64 aA,.int .i64 aC,.int .i64 aD,.int .i64 ax,.int .i64 ay,.slice aQ au.length aT,.slice aU av.length aV,.slice aW az.length aX],.bool false] ?_;refine (SaG.calls aA aC aD ax ay _ _ au _ _ av _ _ az false true _ ?ae ?af ?ag ?ah ?ai ?aj bW.out).mono ?_;(case ae=>exact kC (Kd.C_below aG.out HB.out));(case af=>exact aH.out);(case ag=>exact kC (Kd.C_below aI.out HB.out));(case ah=>exact aJ.out);(case ai=>exact kC (Kd.C_below aK.out HB.out));(case aj=>exact aN.out);rintro e fu ⟨rfl,hb⟩;refine⟨_,rfl,?_⟩;replace aa:=kB aa hb;replace HB:=kH hb;clear hb;have dI:=jz8 aa)|(go_at_call 107;(with_reducible refine (SaB.calls aA aC aD ax ay _ _ au _ _ av _ _ az true true _ ?ae ?af ?ag ?ah ?ai ?aj cK.out).mono ?_);(case ae=>exact kC (Kd.C_below aG.out HB.out));(case af=>exact aH.out);(case ag=>exact kC (Kd.C_below aI.out HB.out));(case ah=>exact aJ.out);(case ai=>exact kC (Kd.C_below aK.out HB.out));(case aj=>exact aN.out);rintro e fw ⟨rfl,hb⟩;replace aa:=kB aa hb;replace HB:=kH hb;clear hb;have dJ:=jz8 aa)|(go_at_call 108;(with_reducible refine (Sam.calls bT ax ay _ _ au t222 _ ?ae ?af dG.out).mono ?_);(case ae=>exact kC (Kd.C_below aG.out HB.out));(case af=>exact aH.out);rintro e fA ⟨rfl,hb⟩;replace aa:=kB aa hb;replace HB:=kH hb;clear hb))
     go_ret
     exact⟨qW,qB⟩
    obtain rfl:=oJ H
    have dK:=jz8 aa
    go_wp2_with (first|((with_reducible refine jc 106 31 rfl rfl ?_);refine jG Tryz.func106 #[.agg #[.int .i64 aA,.int .i64 aC,.int .i64 aD,.int .i64 ax,.int .i64 ay,.slice aQ au.length aT,.slice aU av.length aV,.slice aW az.length aX],.bool false] ?_;refine (SaG.calls aA aC aD ax ay _ _ au _ _ av _ _ az false true _ ?ae ?af ?ag ?ah ?ai ?aj bW.out).mono ?_;(case ae=>exact kC (Kd.C_below aG.out HB.out));(case af=>exact aH.out);(case ag=>exact kC (Kd.C_below aI.out HB.out));(case ah=>exact aJ.out);(case ai=>exact kC (Kd.C_below aK.out HB.out));(case aj=>exact aN.out);rintro e fB ⟨rfl,hb⟩;refine⟨_,rfl,?_⟩;replace aa:=kB aa hb;replace HB:=kH hb;clear hb;have dL:=jz8 aa)|(go_at_call 107;(with_reducible refine (SaB.calls aA aC aD ax ay _ _ au _ _ av _ _ az true false _ ?ae ?af ?ag ?ah ?ai ?aj cK.out).mono ?_);(case ae=>exact kC (Kd.C_below aG.out HB.out));(case af=>exact aH.out);(case ag=>exact kC (Kd.C_below aI.out HB.out));(case ah=>exact aJ.out);(case ai=>exact kC (Kd.C_below aK.out HB.out));(case aj=>exact aN.out);rintro e fC ⟨rfl,hb⟩;replace aa:=kB aa hb;replace HB:=kH hb;clear hb))
    go_ret
    exact⟨qW,qB⟩
   obtain rfl:=oJ H
   have dM:=jz8 aa
   go_wp2_with (first|((with_reducible refine jc 106 31 rfl rfl ?_);refine jG Tryz.func106 #[.agg #[.int .i64 aA,.int .i64 aC,.int .i64 aD,.int .i64 ax,.int .i64 ay,.slice aQ au.length aT,.slice aU av.length aV,.slice aW az.length aX],.bool false] ?_;refine (SaG.calls aA aC aD ax ay _ _ au _ _ av _ _ az false false _ ?ae ?af ?ag ?ah ?ai ?aj bW.out).mono ?_;(case ae=>exact kC (Kd.C_below aG.out HB.out));(case af=>exact aH.out);(case ag=>exact kC (Kd.C_below aI.out HB.out));(case ah=>exact aJ.out);(case ai=>exact kC (Kd.C_below aK.out HB.out));(case aj=>exact aN.out);rintro e fD ⟨rfl,hb⟩;refine⟨_,rfl,?_⟩;replace aa:=kB aa hb;replace HB:=kH hb;clear hb))
   go_ret
   exact⟨qW,qB⟩
  replace H:=jE H;rcases H with ⟨bL,bM,H⟩ | ⟨fE,bL,bM,H⟩
  ·obtain⟨bF,bX,H⟩:=qE H
   try dsimp only at H
   replace H:=jB H;rcases H with ⟨rfl,H⟩ | ⟨rfl,H⟩
   ·obtain⟨bG,cO,H⟩:=qE H
    try dsimp only at H
    replace H:=jB H;rcases H with ⟨rfl,H⟩ | ⟨rfl,H⟩
    ·obtain⟨bA,dN,H⟩:=qE H
     try dsimp only at H
     obtain rfl:=oJ H
     have dO:=jz8 aa
     go_wp2_with (first|((with_reducible refine jc 106 44 rfl rfl ?_);refine jG Tryz.func106 #[.agg #[.int .i64 aA,.int .i64 aC,.int .i64 aD,.int .i64 ax,.int .i64 ay,.slice aQ au.length aT,.slice aU av.length aV,.slice aW az.length aX],.bool true] ?_;refine (SaG.calls aA aC aD ax ay _ _ au _ _ av _ _ az true true _ ?ae ?af ?ag ?ah ?ai ?aj bX.out).mono ?_;(case ae=>exact kC (Kd.C_below aG.out HB.out));(case af=>exact aH.out);(case ag=>exact kC (Kd.C_below aI.out HB.out));(case ah=>exact aJ.out);(case ai=>exact kC (Kd.C_below aK.out HB.out));(case aj=>exact aN.out);rintro e fF ⟨rfl,hb⟩;refine⟨_,rfl,?_⟩;replace aa:=kB aa hb;replace HB:=kH hb;clear hb;have dP:=jz8 aa)|(go_at_call 107;(with_reducible refine (SaB.calls aA aC aD ax ay _ _ au _ _ av _ _ az true true _ ?ae ?af ?ag ?ah ?ai ?aj cO.out).mono ?_);(case ae=>exact kC (Kd.C_below aG.out HB.out));(case af=>exact aH.out);(case ag=>exact kC (Kd.C_below aI.out HB.out));(case ah=>exact aJ.out);(case ai=>exact kC (Kd.C_below aK.out HB.out));(case aj=>exact aN.out);rintro e fG ⟨rfl,hb⟩;replace aa:=kB aa hb;replace HB:=kH hb;clear hb;have dQ:=jz8 aa)|(go_at_call 118;(with_reducible refine (SaE.calls ax ay _ _ au bA _ ?ae ?af dN.out).mono ?_);(case ae=>exact kC (Kd.C_below aG.out HB.out));(case af=>exact aH.out);rintro e fH ⟨rfl,hb⟩;replace aa:=kB aa hb;replace HB:=kH hb;clear hb))
     go_ret
     exact⟨qW,qB⟩
    obtain rfl:=oJ H
    have dR:=jz8 aa
    go_wp2_with (first|((with_reducible refine jc 106 44 rfl rfl ?_);refine jG Tryz.func106 #[.agg #[.int .i64 aA,.int .i64 aC,.int .i64 aD,.int .i64 ax,.int .i64 ay,.slice aQ au.length aT,.slice aU av.length aV,.slice aW az.length aX],.bool true] ?_;refine (SaG.calls aA aC aD ax ay _ _ au _ _ av _ _ az true true _ ?ae ?af ?ag ?ah ?ai ?aj bX.out).mono ?_;(case ae=>exact kC (Kd.C_below aG.out HB.out));(case af=>exact aH.out);(case ag=>exact kC (Kd.C_below aI.out HB.out));(case ah=>exact aJ.out);(case ai=>exact kC (Kd.C_below aK.out HB.out));(case aj=>exact aN.out);rintro e fI ⟨rfl,hb⟩;refine⟨_,rfl,?_⟩;replace aa:=kB aa hb;replace HB:=kH hb;clear hb;have dS:=jz8 aa)|(go_at_call 107;(with_reducible refine (SaB.calls aA aC aD ax ay _ _ au _ _ av _ _ az true false _ ?ae ?af ?ag ?ah ?ai ?aj cO.out).mono ?_);(case ae=>exact kC (Kd.C_below aG.out HB.out));(case af=>exact aH.out);(case ag=>exact kC (Kd.C_below aI.out HB.out));(case ah=>exact aJ.out);(case ai=>exact kC (Kd.C_below aK.out HB.out));(case aj=>exact aN.out);rintro e fJ ⟨rfl,hb⟩;replace aa:=kB aa hb;replace HB:=kH hb;clear hb))
    go_ret
    exact⟨qW,qB⟩
   obtain rfl:=oJ H
   have dU:=jz8 aa
   go_wp2_with (first|((with_reducible refine jc 106 44 rfl rfl ?_);refine jG Tryz.func106 #[.agg #[.int .i64 aA,.int .i64 aC,.int .i64 aD,.int .i64 ax,.int .i64 ay,.slice aQ au.length aT,.slice aU av.length aV,.slice aW az.length aX],.bool true] ?_;refine (SaG.calls aA aC aD ax ay _ _ au _ _ av _ _ az true false _ ?ae ?af ?ag ?ah ?ai ?aj bX.out).mono ?_;(case ae=>exact kC (Kd.C_below aG.out HB.out));(case af=>exact aH.out);(case ag=>exact kC (Kd.C_below aI.out HB.out));(case ah=>exact aJ.out);(case ai=>exact kC (Kd.C_below aK.out HB.out));(case aj=>exact aN.out);rintro e fK ⟨rfl,hb⟩;refine⟨_,rfl,?_⟩;replace aa:=kB aa hb;replace HB:=kH hb;clear hb))
   go_ret
   exact⟨qW,qB⟩
  replace H:=jE H;rcases H with ⟨bN,bO,H⟩ | ⟨fM,bN,bO,H⟩
  ·obtain⟨t226,bY,H⟩:=qE H
   try dsimp only at H
   replace H:=jB H;rcases H with ⟨rfl,H⟩ | ⟨rfl,H⟩
   ·obtain⟨t227,df,H⟩:=qE H
    try dsimp only at H
    replace H:=jB H;rcases H with ⟨rfl,H⟩ | ⟨rfl,H⟩
    ·obtain⟨t228,dV,H⟩:=qE H
     try dsimp only at H
     obtain rfl:=oJ H
     have dW:=jz8 aa
     go_wp2_with (first|((with_reducible refine jc 106 57 rfl rfl ?_);refine jG Tryz.func106 #[.agg #[.int .i64 aA,.int .i64 aC,.int .i64 aD,.int .i64 ax,.int .i64 ay,.slice aQ au.length aT,.slice aU av.length aV,.slice aW az.length aX],.bool false] ?_;refine (SaG.calls aA aC aD ax ay _ _ au _ _ av _ _ az false true _ ?ae ?af ?ag ?ah ?ai ?aj bY.out).mono ?_;(case ae=>exact kC (Kd.C_below aG.out HB.out));(case af=>exact aH.out);(case ag=>exact kC (Kd.C_below aI.out HB.out));(case ah=>exact aJ.out);(case ai=>exact kC (Kd.C_below aK.out HB.out));(case aj=>exact aN.out);rintro e fO ⟨rfl,hb⟩;refine⟨_,rfl,?_⟩;replace aa:=kB aa hb;replace HB:=kH hb;clear hb;have dX:=jz8 aa)|(go_at_call 107;(with_reducible refine (SaB.calls aA aC aD ax ay _ _ au _ _ av _ _ az false true _ ?ae ?af ?ag ?ah ?ai ?aj df.out).mono ?_);(case ae=>exact kC (Kd.C_below aG.out HB.out));(case af=>exact aH.out);(case ag=>exact kC (Kd.C_below aI.out HB.out));(case ah=>exact aJ.out);(case ai=>exact kC (Kd.C_below aK.out HB.out));(case aj=>exact aN.out);rintro e fP ⟨rfl,hb⟩;replace aa:=kB aa hb;replace HB:=kH hb;clear hb;have dY:=jz8 aa)|(go_at_call 118;(with_reducible refine (SaE.calls ax ay _ _ au t228 _ ?ae ?af dV.out).mono ?_);(case ae=>exact kC (Kd.C_below aG.out HB.out));(case af=>exact aH.out);rintro e fQ ⟨rfl,hb⟩;replace aa:=kB aa hb;replace HB:=kH hb;clear hb))
     go_ret
     exact⟨qW,qB⟩
    obtain rfl:=oJ H
    have dZ:=jz8 aa
    go_wp2_with (first|((with_reducible refine jc 106 57 rfl rfl ?_);refine jG Tryz.func106 #[.agg #[.int .i64 aA,.int .i64 aC,.int .i64 aD,.int .i64 ax,.int .i64 ay,.slice aQ au.length aT,.slice aU av.length aV,.slice aW az.length aX],.bool false] ?_;refine (SaG.calls aA aC aD ax ay _ _ au _ _ av _ _ az false true _ ?ae ?af ?ag ?ah ?ai ?aj bY.out).mono ?_;(case ae=>exact kC (Kd.C_below aG.out HB.out));(case af=>exact aH.out);(case ag=>exact kC (Kd.C_below aI.out HB.out));(case ah=>exact aJ.out);(case ai=>exact kC (Kd.C_below aK.out HB.out));(case aj=>exact aN.out);rintro e fT ⟨rfl,hb⟩;refine⟨_,rfl,?_⟩;replace aa:=kB aa hb;replace HB:=kH hb;clear hb;have d9:=jz8 aa)|(go_at_call 107;(with_reducible refine (SaB.calls aA aC aD ax ay _ _ au _ _ av _ _ az false false _ ?ae ?af ?ag ?ah ?ai ?aj df.out).mono ?_);(case ae=>exact kC (Kd.C_below aG.out HB.out));(case af=>exact aH.out);(case ag=>exact kC (Kd.C_below aI.out HB.out));(case ah=>exact aJ.out);(case ai=>exact kC (Kd.C_below aK.out HB.out));(case aj=>exact aN.out);rintro e fU ⟨rfl,hb⟩;replace aa:=kB aa hb;replace HB:=kH hb;clear hb))
    go_ret
    exact⟨qW,qB⟩
   obtain rfl:=oJ H
   have ed:=jz8 aa
   go_wp2_with (first|((with_reducible refine jc 106 57 rfl rfl ?_);refine jG Tryz.func106 #[.agg #[.int .i64 aA,.int .i64 aC,.int .i64 aD,.int .i64 ax,.int .i64 ay,.slice aQ au.length aT,.slice aU av.length aV,.slice aW az.length aX],.bool false] ?_;refine (SaG.calls aA aC aD ax ay _ _ au _ _ av _ _ az false false _ ?ae ?af ?ag ?ah ?ai ?aj bY.out).mono ?_;(case ae=>exact kC (Kd.C_below aG.out HB.out));(case af=>exact aH.out);(case ag=>exact kC (Kd.C_below aI.out HB.out));(case ah=>exact aJ.out);(case ai=>exact kC (Kd.C_below aK.out HB.out));(case aj=>exact aN.out);rintro e fV ⟨rfl,hb⟩;refine⟨_,rfl,?_⟩;replace aa:=kB aa hb;replace HB:=kH hb;clear hb))
   go_ret
   exact⟨qW,qB⟩
  replace H:=jE H;rcases H with ⟨bP,bQ,H⟩ | ⟨c80,bP,bQ,H⟩
  ·obtain⟨t229,bZ,H⟩:=qE H
   try dsimp only at H
   replace H:=jB H;rcases H with ⟨rfl,H⟩ | ⟨rfl,H⟩
   ·obtain⟨bH,dh,H⟩:=qE H
    try dsimp only at H
    replace H:=jB H;rcases H with ⟨rfl,H⟩ | ⟨rfl,H⟩
    ·obtain⟨bB,ek,H⟩:=qE H
     try dsimp only at H
     obtain rfl:=oJ H
     have eu:=jz8 aa
     go_wp2_with (first|((with_reducible refine jc 106 70 rfl rfl ?_);refine jG Tryz.func106 #[.agg #[.int .i64 aA,.int .i64 aC,.int .i64 aD,.int .i64 ax,.int .i64 ay,.slice aQ au.length aT,.slice aU av.length aV,.slice aW az.length aX],.bool false] ?_;refine (SaG.calls aA aC aD ax ay _ _ au _ _ av _ _ az false true _ ?ae ?af ?ag ?ah ?ai ?aj bZ.out).mono ?_;(case ae=>exact kC (Kd.C_below aG.out HB.out));(case af=>exact aH.out);(case ag=>exact kC (Kd.C_below aI.out HB.out));(case ah=>exact aJ.out);(case ai=>exact kC (Kd.C_below aK.out HB.out));(case aj=>exact aN.out);rintro e fZ ⟨rfl,hb⟩;refine⟨_,rfl,?_⟩;replace aa:=kB aa hb;replace HB:=kH hb;clear hb;have eB:=jz8 aa)|(go_at_call 107;(with_reducible refine (SaB.calls aA aC aD ax ay _ _ au _ _ av _ _ az false true _ ?ae ?af ?ag ?ah ?ai ?aj dh.out).mono ?_);(case ae=>exact kC (Kd.C_below aG.out HB.out));(case af=>exact aH.out);(case ag=>exact kC (Kd.C_below aI.out HB.out));(case ah=>exact aJ.out);(case ai=>exact kC (Kd.C_below aK.out HB.out));(case aj=>exact aN.out);rintro e gm ⟨rfl,hb⟩;replace aa:=kB aa hb;replace HB:=kH hb;clear hb;have eD:=jz8 aa)|(go_at_call 108;(with_reducible refine (Sam.calls bT ax ay _ _ au bB _ ?ae ?af ek.out).mono ?_);(case ae=>exact kC (Kd.C_below aG.out HB.out));(case af=>exact aH.out);rintro e gp ⟨rfl,hb⟩;replace aa:=kB aa hb;replace HB:=kH hb;clear hb))
     go_ret
     exact⟨qW,qB⟩
    obtain rfl:=oJ H
    have eF:=jz8 aa
    go_wp2_with (first|((with_reducible refine jc 106 70 rfl rfl ?_);refine jG Tryz.func106 #[.agg #[.int .i64 aA,.int .i64 aC,.int .i64 aD,.int .i64 ax,.int .i64 ay,.slice aQ au.length aT,.slice aU av.length aV,.slice aW az.length aX],.bool false] ?_;refine (SaG.calls aA aC aD ax ay _ _ au _ _ av _ _ az false true _ ?ae ?af ?ag ?ah ?ai ?aj bZ.out).mono ?_;(case ae=>exact kC (Kd.C_below aG.out HB.out));(case af=>exact aH.out);(case ag=>exact kC (Kd.C_below aI.out HB.out));(case ah=>exact aJ.out);(case ai=>exact kC (Kd.C_below aK.out HB.out));(case aj=>exact aN.out);rintro e gq ⟨rfl,hb⟩;refine⟨_,rfl,?_⟩;replace aa:=kB aa hb;replace HB:=kH hb;clear hb;have eG:=jz8 aa)|(go_at_call 107;(with_reducible refine (SaB.calls aA aC aD ax ay _ _ au _ _ av _ _ az false false _ ?ae ?af ?ag ?ah ?ai ?aj dh.out).mono ?_);(case ae=>exact kC (Kd.C_below aG.out HB.out));(case af=>exact aH.out);(case ag=>exact kC (Kd.C_below aI.out HB.out));(case ah=>exact aJ.out);(case ai=>exact kC (Kd.C_below aK.out HB.out));(case aj=>exact aN.out);rintro e gu ⟨rfl,hb⟩;replace aa:=kB aa hb;replace HB:=kH hb;clear hb))
    go_ret
    exact⟨qW,qB⟩
   obtain rfl:=oJ H
   have eH:=jz8 aa
   go_wp2_with (first|((with_reducible refine jc 106 70 rfl rfl ?_);refine jG Tryz.func106 #[.agg #[.int .i64 aA,.int .i64 aC,.int .i64 aD,.int .i64 ax,.int .i64 ay,.slice aQ au.length aT,.slice aU av.length aV,.slice aW az.length aX],.bool false] ?_;refine (SaG.calls aA aC aD ax ay _ _ au _ _ av _ _ az false false _ ?ae ?af ?ag ?ah ?ai ?aj bZ.out).mono ?_;(case ae=>exact kC (Kd.C_below aG.out HB.out));(case af=>exact aH.out);(case ag=>exact kC (Kd.C_below aI.out HB.out));(case ah=>exact aJ.out);(case ai=>exact kC (Kd.C_below aK.out HB.out));(case aj=>exact aN.out);rintro e gz ⟨rfl,hb⟩;refine⟨_,rfl,?_⟩;replace aa:=kB aa hb;replace HB:=kH hb;clear hb))
   go_ret
   exact⟨qW,qB⟩
  obtain rfl:=oJ H
  have eO:=jz8 aa
  go_wp2
  go_ret
  exact⟨qW,qB⟩
mutual
def SaD.j0:Nat->Int->Bool->Int->Int->Int->Int->Int->List (S90)->List (S92)->List (S92)->Option (Bool)
 | 0,_,_,_,_,_,_,_,_,_,_=>none
 | k+1,x1,dV,xa,xb,xc,xd,xe,xf,xg,xh=>if dV=true then ((SaF.f k xa xb xc xd xe xf xg xh).bind fun t233=>(some t233)) else (if x1 < 1 then (SaD.j1 k x1 true xa xb xc xd xe xf xg xh) else (if xa=3 then (SaD.j1 k x1 (decide ((xh.length:Int) > 0)) xa xb xc xd xe xf xg xh) else (SaD.j1 k x1 false xa xb xc xd xe xf xg xh)))
def SaD.j1:Nat->Int->Bool->Int->Int->Int->Int->Int->List (S90)->List (S92)->List (S92)->Option (Bool)
 | 0,_,_,_,_,_,_,_,_,_,_=>none
 | k+1,x1,x27,xa,xb,xc,xd,xe,xf,xg,xh=>if x27=true then (some false) else ((SaG.f xa xb xc xd xe xf xg xh false).bind fun t234=>(if t234=true then ((SaB.f xa xb xc xd xe xf xg xh false).bind fun dB=>(if dB=true then ((Sam.f k xd xe xf).bind fun t236=>(if t236=true then ((SaA.f k xg (wrap64 (x1 - 1))).bind fun dC=>(if dC=true then ((SaA.f k xh (wrap64 (x1 - 1))).bind fun dw=>(some dw)) else (some false))) else (some false))) else (some false))) else (some false)))
def SaD.f:Nat->Int->Int->Int->Int->Int->List (S90)->List (S92)->List (S92)->Int->Option (Bool)
 | 0,_,_,_,_,_,_,_,_,_=>none
 | k+1,ax,aG,aH,aA,aC,av,ay,az,a1=>if ax=2 then (SaD.j0 k a1 false ax aG aH aA aC av ay az) else (SaD.j0 k a1 (ax != 3) ax aG aH aA aC av ay az)
def SaA.l0:Nat->List (S92)->Int->Int->Option (Bool)
 | 0,_,_,_=>none
 | k+1,x0,x1,x5=>if x5 < (x0.length:Int) then (if 0<=x5 then ((SaD.f k ((rd_T92 x0 x5).f0) ((rd_T92 x0 x5).f1) ((rd_T92 x0 x5).f2) ((rd_T92 x0 x5).f3.f0) ((rd_T92 x0 x5).f3.f1) ((rd_T92 x0 x5).f3.f2) ((rd_T92 x0 x5).f4) ((rd_T92 x0 x5).f5) x1).bind fun dD=>(if dD=true then (SaA.l0 k x0 x1 (wrap64 (x5+1))) else (some false))) else (none)) else (some true)
def SaA.f:Nat->List (S92)->Int->Option (Bool)
 | 0,_,_=>none
 | k+1,l0,a1=>SaA.l0 k l0 a1 0
end
@[reducible] def SaD.stmt (k:Nat):Prop:=∀ (ax:Int) (aG:Int) (aH:Int) (aA:Int) (aC:Int) (bC:Option Addr) (bD:Nat) (av:List (S90)) (bE:Option Addr) (bF:Nat) (ay:List (S92)) (bG:Option Addr) (bH:Nat) (az:List (S92)) (a1:Int) (r:Bool) (w:World) (bZ:Kd.C k90 w bC av.length av) (cz:av.length<=bD) (cB:Kd.C k92 w bE ay.length ay) (cK:ay.length<=bF) (cO:Kd.C k92 w bG az.length az) (df:az.length<=bH) (h:SaD.f k ax aG aH aA aC av ay az a1=some r),
  Calls Tryz.prog 88 #[.agg #[.int .i64 ax,.int .i64 aG,.int .i64 aH,.int .i64 aA,.int .i64 aC,.slice bC av.length bD,.slice bE ay.length bF,.slice bG az.length bH],.int .i64 a1] w fun e w'=>e = .returned (.bool r)/\Below w.heap.size w w'
@[reducible] def SaA.stmt (k:Nat):Prop:=∀ (A0:Option Addr) (c0:Nat) (l0:List (S92)) (a1:Int) (r:Bool) (w:World) (hr0:Kd.C k92 w A0 l0.length l0) (hc0:l0.length<=c0) (h:SaA.f k l0 a1=some r),
  Calls Tryz.prog 80 #[.slice A0 l0.length c0,.int .i64 a1] w fun e w'=>e = .returned (.bool r)/\Below w.heap.size w w'
theorem SaD.step (k:Nat) (aD:∀ m_,m_ < k->SaA.stmt m_) (ih:∀ m_,m_ < k->SaD.stmt m_):SaD.stmt k:=by
 intro ax aG aH aA aC bC bD av bE bF ay bG bH az a1 r w bZ cz cB cK cO df h
 cases k with
 | zero=>exact absurd h (by simp [SaD.f])
 | succ k =>
 simp only [SaD.f] at h
 have dK:=Tryz.underlying92
 have dW:=Tryz.underlying90
 have aI:=aM bZ
 have aJ:=aM cz
 clear bZ cz
 have aK:=aM cB
 have aN:=aM cK
 clear cB cK
 have aQ:=aM cO
 have aT:=aM df
 clear cO df
 have HB:=aM (Below.refl w.heap.size w)
 have H:(if ax=2 then (SaD.j0 k a1 false ax aG aH aA aC av ay az) else (SaD.j0 k a1 (ax != 3) ax aG aH aA aC av ay az))=some r:=h
 clear h
 have dL:=aM H
 clear H
 go_enter Tryz.func88,Tryz.ntmps88
 go_upto_region 1 with (first|((with_reducible refine jd 2 rfl ?_);(try (refine gate_guard (by rfl) ?_;dsimp only));refine jX _ 92 ?_;intro dn hg w4 hbox hb;have aa:=aM hbox;have dQ:=kG hg;replace HB:=kH hb;clear hb hbox hg))
 (try simp only [Act.put,List.setIfInBounds_toArray,List.set_cons_zero,List.set_cons_succ])
 go_cut [12] (fun v12 wc=>∃ (kq:Nat) (dh:Bool),v12 = .bool dh/\Aside0 (SaD.j0 kq a1 dh ax aG aH aA aC av ay az=some r)/\Aside0 (kq<=k)/\Aside0 (wc.heap[dn]?=some (.cells #[.int .i64 ax,.int .i64 aG,.int .i64 aH,.int .i64 aA,.int .i64 aC,(.slice bC av.length bD),(.slice bE ay.length bF),(.slice bG az.length bH)] 92 (0,0)))/\Aside0 (Below w.heap.size w wc))
 case first =>
  have H:=dL.out
  clear dL
  replace H:=jE H;rcases H with ⟨di,dM,H⟩ | ⟨c5,di,dM,H⟩
  ·(first|rw [di]|(simp only [i64_w,i32_w];rw [di])|skip)
   have H':=aM H
   clear H
   have fq:=jz8 aa
   go_wp2
   go_meet
   exact⟨_,(false),qZ,H',⟨by first|omega|exact Nat.le_refl _⟩,⟨qK aa⟩,⟨qB⟩⟩
  (first|rw [di]|(simp only [i64_w,i32_w];rw [di])|skip)
  have H':=aM H
  clear H
  have fu:=jz8 aa
  go_wp2
  go_meet
  exact⟨_,((ax != 3)),qZ,H',⟨by first|omega|exact Nat.le_refl _⟩,⟨qK aa⟩,⟨qB⟩⟩
 clear dL
 obtain⟨kq,dh,rfl,HA,HJ2,aa,HB⟩:=hcut
 cases kq with
 | zero=>exact absurd HA.out (by simp [SaD.j0])
 | succ dR =>
  have H:=HA.out
  clear HA
  simp only [SaD.j0] at H
  replace H:=jB H;rcases H with ⟨rfl,H⟩ | ⟨rfl,H⟩
  ·obtain⟨t233,A9,H⟩:=qE H
   try dsimp only at H
   obtain rfl:=oJ H
   have dX:=jz8 aa
   go_wp2_with (first|((with_reducible refine jc 105 14 rfl rfl ?_);refine jG Tryz.func105 #[.agg #[.int .i64 ax,.int .i64 aG,.int .i64 aH,.int .i64 aA,.int .i64 aC,.slice bC av.length bD,.slice bE ay.length bF,.slice bG az.length bH]] ?_;refine (SaF.calls dR ax aG aH aA aC _ _ av _ _ ay _ _ az t233 _ ?ae ?af ?ah ?ai ?aj ?au A9.out).mono ?_;(case ae=>exact kC (Kd.C_below aI.out HB.out));(case af=>exact aJ.out);(case ah=>exact kC (Kd.C_below aK.out HB.out));(case ai=>exact aN.out);(case aj=>exact kC (Kd.C_below aQ.out HB.out));(case au=>exact aT.out);rintro e fw ⟨rfl,hb⟩;refine⟨_,rfl,?_⟩;replace aa:=kB aa hb;replace HB:=kH hb;clear hb))
   go_ret
   exact⟨qW,qB⟩
  have dx:=aM H
  clear H
  go_upto_region 3 with (fail)
  go_cut [27] (fun v27 wc=>∃ (kq:Nat) (bP:Bool),v27 = .bool bP/\Aside0 (SaD.j1 kq a1 bP ax aG aH aA aC av ay az=some r)/\Aside0 (kq<=dR)/\Aside0 (wc.heap[dn]?=some (.cells #[.int .i64 ax,.int .i64 aG,.int .i64 aH,.int .i64 aA,.int .i64 aC,(.slice bC av.length bD),(.slice bE ay.length bF),(.slice bG az.length bH)] 92 (0,0)))/\Aside0 (Below w.heap.size w wc))
  case first =>
   have H:=dx.out
   clear dx
   replace H:=jD H;rcases H with ⟨bO,H⟩ | ⟨bO,H⟩
   ·(first|rw [bO]|(simp only [i64_w,i32_w];rw [bO])|skip)
    have H':=aM H
    clear H
    go_wp2
    go_meet
    exact⟨_,(true),qZ,H',⟨by have:=HJ2.out;first|omega|exact Nat.le_refl _⟩,⟨qK aa⟩,⟨qB⟩⟩
   (first|rw [bO]|(simp only [i64_w,i32_w];rw [bO])|skip)
   replace H:=jE H;rcases H with ⟨dE,dF,H⟩ | ⟨c14,dE,dF,H⟩
   ·have H':=aM H
    clear H
    have dY:=jz8 aa
    go_wp2
    go_meet
    exact⟨_,(decide ((az.length:Int) > 0)),qZ,H',⟨by have:=HJ2.out;first|omega|exact Nat.le_refl _⟩,⟨qK aa⟩,⟨qB⟩⟩
   have H':=aM H
   clear H
   have dZ:=jz8 aa
   go_wp2
   go_meet
   exact⟨_,(false),qZ,H',⟨by have:=HJ2.out;first|omega|exact Nat.le_refl _⟩,⟨qK aa⟩,⟨qB⟩⟩
  clear dx
  obtain⟨kq,bP,rfl,HA,dz,aa,HB⟩:=hcut
  cases kq with
  | zero=>exact absurd HA.out (by simp [SaD.j1])
  | succ bY =>
   have H:=HA.out
   clear HA
   simp only [SaD.j1] at H
   replace H:=jB H;rcases H with ⟨rfl,H⟩ | ⟨rfl,H⟩
   ·obtain rfl:=oJ H
    go_wp2
    go_ret
    exact⟨qW,qB⟩
   obtain⟨t234,dG,H⟩:=qE H
   try dsimp only at H
   replace H:=jB H;rcases H with ⟨rfl,H⟩ | ⟨rfl,H⟩
   ·obtain⟨dB,dI,H⟩:=qE H
    try dsimp only at H
    replace H:=jB H;rcases H with ⟨rfl,H⟩ | ⟨rfl,H⟩
    ·obtain⟨t236,dN,H⟩:=qE H
     try dsimp only at H
     replace H:=jB H;rcases H with ⟨rfl,H⟩ | ⟨rfl,H⟩
     ·obtain⟨dC,dS,H⟩:=qE H
      try dsimp only at H
      replace H:=jB H;rcases H with ⟨rfl,H⟩ | ⟨rfl,H⟩
      ·obtain⟨dw,d9,H⟩:=qE H
       try dsimp only at H
       obtain rfl:=oJ H
       have ed:=jz8 aa
       go_wp2_with (first|((with_reducible refine jc 106 29 rfl rfl ?_);refine jG Tryz.func106 #[.agg #[.int .i64 ax,.int .i64 aG,.int .i64 aH,.int .i64 aA,.int .i64 aC,.slice bC av.length bD,.slice bE ay.length bF,.slice bG az.length bH],.bool false] ?_;refine (SaG.calls ax aG aH aA aC _ _ av _ _ ay _ _ az false true _ ?ae ?af ?ah ?ai ?aj ?au dG.out).mono ?_;(case ae=>exact kC (Kd.C_below aI.out HB.out));(case af=>exact aJ.out);(case ah=>exact kC (Kd.C_below aK.out HB.out));(case ai=>exact aN.out);(case aj=>exact kC (Kd.C_below aQ.out HB.out));(case au=>exact aT.out);rintro e fA ⟨rfl,hb⟩;refine⟨_,rfl,?_⟩;replace aa:=kB aa hb;replace HB:=kH hb;clear hb;have ek:=jz8 aa)|(go_at_call 107;(with_reducible refine (SaB.calls ax aG aH aA aC _ _ av _ _ ay _ _ az false true _ ?ae ?af ?ah ?ai ?aj ?au dI.out).mono ?_);(case ae=>exact kC (Kd.C_below aI.out HB.out));(case af=>exact aJ.out);(case ah=>exact kC (Kd.C_below aK.out HB.out));(case ai=>exact aN.out);(case aj=>exact kC (Kd.C_below aQ.out HB.out));(case au=>exact aT.out);rintro e fB ⟨rfl,hb⟩;replace aa:=kB aa hb;replace HB:=kH hb;clear hb;have eu:=jz8 aa)|(go_at_call 108;(with_reducible refine (Sam.calls bY aA aC _ _ av true _ ?ae ?af dN.out).mono ?_);(case ae=>exact kC (Kd.C_below aI.out HB.out));(case af=>exact aJ.out);rintro e w32 ⟨rfl,hb⟩;replace aa:=kB aa hb;replace HB:=kH hb;clear hb;have eB:=jz8 aa)|(go_at_call 80;(with_reducible refine (aD bY (by have:=HJ2.out;have:=dz.out;omega) _ _ ay (wrap64 (a1 - 1)) true _ ?ae ?af dS.out).mono ?_);(case ae=>exact kC (Kd.C_below aK.out HB.out));(case af=>exact aN.out);rintro e fC ⟨rfl,hb⟩;replace aa:=kB aa hb;replace HB:=kH hb;clear hb;have eD:=jz8 aa)|(go_at_call 80;(with_reducible refine (aD bY (by have:=HJ2.out;have:=dz.out;omega) _ _ az (wrap64 (a1 - 1)) dw _ ?ae ?af d9.out).mono ?_);(case ae=>exact kC (Kd.C_below aQ.out HB.out));(case af=>exact aT.out);rintro e fD ⟨rfl,hb⟩;replace aa:=kB aa hb;replace HB:=kH hb;clear hb))
       go_ret
       exact⟨qW,qB⟩
      obtain rfl:=oJ H
      have eF:=jz8 aa
      go_wp2_with (first|((with_reducible refine jc 106 29 rfl rfl ?_);refine jG Tryz.func106 #[.agg #[.int .i64 ax,.int .i64 aG,.int .i64 aH,.int .i64 aA,.int .i64 aC,.slice bC av.length bD,.slice bE ay.length bF,.slice bG az.length bH],.bool false] ?_;refine (SaG.calls ax aG aH aA aC _ _ av _ _ ay _ _ az false true _ ?ae ?af ?ah ?ai ?aj ?au dG.out).mono ?_;(case ae=>exact kC (Kd.C_below aI.out HB.out));(case af=>exact aJ.out);(case ah=>exact kC (Kd.C_below aK.out HB.out));(case ai=>exact aN.out);(case aj=>exact kC (Kd.C_below aQ.out HB.out));(case au=>exact aT.out);rintro e fE ⟨rfl,hb⟩;refine⟨_,rfl,?_⟩;replace aa:=kB aa hb;replace HB:=kH hb;clear hb;have eG:=jz8 aa)|(go_at_call 107;(with_reducible refine (SaB.calls ax aG aH aA aC _ _ av _ _ ay _ _ az false true _ ?ae ?af ?ah ?ai ?aj ?au dI.out).mono ?_);(case ae=>exact kC (Kd.C_below aI.out HB.out));(case af=>exact aJ.out);(case ah=>exact kC (Kd.C_below aK.out HB.out));(case ai=>exact aN.out);(case aj=>exact kC (Kd.C_below aQ.out HB.out));(case au=>exact aT.out);rintro e fF ⟨rfl,hb⟩;replace aa:=kB aa hb;replace HB:=kH hb;clear hb;have eH:=jz8 aa)|(go_at_call 108;(with_reducible refine (Sam.calls bY aA aC _ _ av true _ ?ae ?af dN.out).mono ?_);(case ae=>exact kC (Kd.C_below aI.out HB.out));(case af=>exact aJ.out);rintro e fG ⟨rfl,hb⟩;replace aa:=kB aa hb;replace HB:=kH hb;clear hb;have eO:=jz8 aa)|(go_at_call 80;(with_reducible refine (aD bY (by have:=HJ2.out;have:=dz.out;omega) _ _ ay (wrap64 (a1 - 1)) false _ ?ae ?af dS.out).mono ?_);(case ae=>exact kC (Kd.C_below aK.out HB.out));(case af=>exact aN.out);rintro e fH ⟨rfl,hb⟩;replace aa:=kB aa hb;replace HB:=kH hb;clear hb))
      go_ret
      exact⟨qW,qB⟩
     obtain rfl:=oJ H
     have eP:=jz8 aa
     go_wp2_with (first|((with_reducible refine jc 106 29 rfl rfl ?_);refine jG Tryz.func106 #[.agg #[.int .i64 ax,.int .i64 aG,.int .i64 aH,.int .i64 aA,.int .i64 aC,.slice bC av.length bD,.slice bE ay.length bF,.slice bG az.length bH],.bool false] ?_;refine (SaG.calls ax aG aH aA aC _ _ av _ _ ay _ _ az false true _ ?ae ?af ?ah ?ai ?aj ?au dG.out).mono ?_;(case ae=>exact kC (Kd.C_below aI.out HB.out));(case af=>exact aJ.out);(case ah=>exact kC (Kd.C_below aK.out HB.out));(case ai=>exact aN.out);(case aj=>exact kC (Kd.C_below aQ.out HB.out));(case au=>exact aT.out);rintro e fI ⟨rfl,hb⟩;refine⟨_,rfl,?_⟩;replace aa:=kB aa hb;replace HB:=kH hb;clear hb;have eQ:=jz8 aa)|(go_at_call 107;(with_reducible refine (SaB.calls ax aG aH aA aC _ _ av _ _ ay _ _ az false true _ ?ae ?af ?ah ?ai ?aj ?au dI.out).mono ?_);(case ae=>exact kC (Kd.C_below aI.out HB.out));(case af=>exact aJ.out);(case ah=>exact kC (Kd.C_below aK.out HB.out));(case ai=>exact aN.out);(case aj=>exact kC (Kd.C_below aQ.out HB.out));(case au=>exact aT.out);rintro e fJ ⟨rfl,hb⟩;replace aa:=kB aa hb;replace HB:=kH hb;clear hb;have eT:=jz8 aa)|(go_at_call 108;(with_reducible refine (Sam.calls bY aA aC _ _ av false _ ?ae ?af dN.out).mono ?_);(case ae=>exact kC (Kd.C_below aI.out HB.out));(case af=>exact aJ.out);rintro e fK ⟨rfl,hb⟩;replace aa:=kB aa hb;replace HB:=kH hb;clear hb))
     go_ret
     exact⟨qW,qB⟩
    obtain rfl:=oJ H
    have eU:=jz8 aa
    go_wp2_with (first|((with_reducible refine jc 106 29 rfl rfl ?_);refine jG Tryz.func106 #[.agg #[.int .i64 ax,.int .i64 aG,.int .i64 aH,.int .i64 aA,.int .i64 aC,.slice bC av.length bD,.slice bE ay.length bF,.slice bG az.length bH],.bool false] ?_;refine (SaG.calls ax aG aH aA aC _ _ av _ _ ay _ _ az false true _ ?ae ?af ?ah ?ai ?aj ?au dG.out).mono ?_;(case ae=>exact kC (Kd.C_below aI.out HB.out));(case af=>exact aJ.out);(case ah=>exact kC (Kd.C_below aK.out HB.out));(case ai=>exact aN.out);(case aj=>exact kC (Kd.C_below aQ.out HB.out));(case au=>exact aT.out);rintro e fM ⟨rfl,hb⟩;refine⟨_,rfl,?_⟩;replace aa:=kB aa hb;replace HB:=kH hb;clear hb;have eX:=jz8 aa)|(go_at_call 107;(with_reducible refine (SaB.calls ax aG aH aA aC _ _ av _ _ ay _ _ az false false _ ?ae ?af ?ah ?ai ?aj ?au dI.out).mono ?_);(case ae=>exact kC (Kd.C_below aI.out HB.out));(case af=>exact aJ.out);(case ah=>exact kC (Kd.C_below aK.out HB.out));(case ai=>exact aN.out);(case aj=>exact kC (Kd.C_below aQ.out HB.out));(case au=>exact aT.out);rintro e fO ⟨rfl,hb⟩;replace aa:=kB aa hb;replace HB:=kH hb;clear hb))
    go_ret
    exact⟨qW,qB⟩
   obtain rfl:=oJ H
   have eY:=jz8 aa
   go_wp2_with (first|((with_reducible refine jc 106 29 rfl rfl ?_);refine jG Tryz.func106 #[.agg #[.int .i64 ax,.int .i64 aG,.int .i64 aH,.int .i64 aA,.int .i64 aC,.slice bC av.length bD,.slice bE ay.length bF,.slice bG az.length bH],.bool false] ?_;refine (SaG.calls ax aG aH aA aC _ _ av _ _ ay _ _ az false false _ ?ae ?af ?ah ?ai ?aj ?au dG.out).mono ?_;(case ae=>exact kC (Kd.C_below aI.out HB.out));(case af=>exact aJ.out);(case ah=>exact kC (Kd.C_below aK.out HB.out));(case ai=>exact aN.out);(case aj=>exact kC (Kd.C_below aQ.out HB.out));(case au=>exact aT.out);rintro e fP ⟨rfl,hb⟩;refine⟨_,rfl,?_⟩;replace aa:=kB aa hb;replace HB:=kH hb;clear hb))
   go_ret
   exact⟨qW,qB⟩
theorem SaA.step (k:Nat) (ih:∀ m_,m_ < k->SaA.stmt m_) (aU:∀ m_,m_ < k->SaD.stmt m_):SaA.stmt k:=by
 intro A0 c0 l0 a1 r w hr0 hc0 h
 cases k with
 | zero=>exact absurd h (by simp [SaA.f])
 | succ k =>
 simp only [SaA.f] at h
 have dK:=Tryz.underlying92
 have dU:=aM hr0
 have fQ:=aM hc0
 clear hr0 hc0
 have HB:=aM (Below.refl w.heap.size w)
 have H:(SaA.l0 k l0 a1 0)=some r:=h
 clear h
 have H':=aM H
 clear H
 go_enter Tryz.func80,Tryz.ntmps80
 go_wp2
 go_loopg [5] k (fun kq v5 w'=>∃ (ag:Int),v5 = .int .i64 ag/\Aside0 (SaA.l0 kq l0 a1 ag=some r)/\Aside0 (kq<=k)/\Aside0 (Below w.heap.size w w'))
 case atStart=>exact⟨(0),qZ,H',⟨Nat.le_refl _⟩,⟨qB⟩⟩
 clear H'
 obtain⟨ag,rfl,HA,dJ,HB⟩:=hrel
 rcases gk with _|k1
 ·exact absurd HA.out (by simp [SaA.l0])
 have H:=HA.out
 clear HA
 simp only [SaA.l0] at H
 replace H:=jD H;rcases H with ⟨dO,H⟩ | ⟨dO,H⟩
 ·replace H:=jI H;obtain⟨eZ,H⟩:=H
  obtain⟨dD,A5,H⟩:=qE H
  try dsimp only at H
  replace H:=jB H;rcases H with ⟨rfl,H⟩ | ⟨rfl,H⟩
  ·have H':=aM H
   clear H
   have bQ:0<=(ag:Int):=qD
   have bR:ag < (l0.length:Int):=qD
   obtain⟨dH,bS,bT,bU,bV,bW,bX,dA,aV,aW,aX,aY,aZ,bg,bi,bn,bq,bu,bv,bz,bA,bB⟩:=at_T92 dU.out ag bQ bR
   cases dA
   replace aV:=kx HB aV
   replace aW:=kx HB aW
   replace aX:=kx HB aX
   replace aY:=kx HB aY
   replace aZ:=kx HB aZ
   replace bg:=kx HB bg
   replace bi:=kx HB bi
   replace bn:=kx HB bn
   have bI:=aM bu
   have bJ:=aM bq
   clear bu bq
   have bK:=aM bz
   have bL:=aM bv
   clear bz bv
   have bM:=aM bB
   have bN:=aM bA
   clear bB bA
   replace bQ:=eq_true bQ
   replace bR:=eq_true bR
   go_wp2_with (first|((with_reducible refine jc 88 17 rfl rfl ?_);refine jG Tryz.func88 #[.agg #[.int .i64 ((rd_T92 l0 ag).f0),.int .i64 ((rd_T92 l0 ag).f1),.int .i64 ((rd_T92 l0 ag).f2),.int .i64 ((rd_T92 l0 ag).f3.f0),.int .i64 ((rd_T92 l0 ag).f3.f1),.slice bS ((rd_T92 l0 ag).f3.f2).length bT,.slice bU ((rd_T92 l0 ag).f4).length bV,.slice bW ((rd_T92 l0 ag).f5).length bX],.int .i64 a1] ?_;refine (aU k1 (by have:=dJ.out;omega) ((rd_T92 l0 ag).f0) ((rd_T92 l0 ag).f1) ((rd_T92 l0 ag).f2) ((rd_T92 l0 ag).f3.f0) ((rd_T92 l0 ag).f3.f1) _ _ ((rd_T92 l0 ag).f3.f2) _ _ ((rd_T92 l0 ag).f4) _ _ ((rd_T92 l0 ag).f5) a1 true _ ?ae ?af ?ah ?ai ?aj ?au A5.out).mono ?_;(case ae=>exact kC (Kd.C_below bI.out HB.out));(case af=>exact bJ.out);(case ah=>exact kC (Kd.C_below bK.out HB.out));(case ai=>exact bL.out);(case aj=>exact kC (Kd.C_below bM.out HB.out));(case au=>exact bN.out);rintro e dP ⟨rfl,hb⟩;refine⟨_,rfl,?_⟩;replace HB:=kH hb;clear hb))
   go_roundg k1
   case measure=>have:=dJ.out;omega
   exact⟨_,qZ,H',⟨by have:=dJ.out;omega⟩,⟨qB⟩⟩
  obtain rfl:=oJ H
  have bQ:0<=(ag:Int):=qD
  have bR:ag < (l0.length:Int):=qD
  obtain⟨dH,bS,bT,bU,bV,bW,bX,dA,aV,aW,aX,aY,aZ,bg,bi,bn,bq,bu,bv,bz,bA,bB⟩:=at_T92 dU.out ag bQ bR
  cases dA
  replace aV:=kx HB aV
  replace aW:=kx HB aW
  replace aX:=kx HB aX
  replace aY:=kx HB aY
  replace aZ:=kx HB aZ
  replace bg:=kx HB bg
  replace bi:=kx HB bi
  replace bn:=kx HB bn
  have bI:=aM bu
  have bJ:=aM bq
  clear bu bq
  have bK:=aM bz
  have bL:=aM bv
  clear bz bv
  have bM:=aM bB
  have bN:=aM bA
  clear bB bA
  replace bQ:=eq_true bQ
  replace bR:=eq_true bR
  go_wp2_with (first|((with_reducible refine jc 88 17 rfl rfl ?_);refine jG Tryz.func88 #[.agg #[.int .i64 ((rd_T92 l0 ag).f0),.int .i64 ((rd_T92 l0 ag).f1),.int .i64 ((rd_T92 l0 ag).f2),.int .i64 ((rd_T92 l0 ag).f3.f0),.int .i64 ((rd_T92 l0 ag).f3.f1),.slice bS ((rd_T92 l0 ag).f3.f2).length bT,.slice bU ((rd_T92 l0 ag).f4).length bV,.slice bW ((rd_T92 l0 ag).f5).length bX],.int .i64 a1] ?_;refine (aU k1 (by have:=dJ.out;omega) ((rd_T92 l0 ag).f0) ((rd_T92 l0 ag).f1) ((rd_T92 l0 ag).f2) ((rd_T92 l0 ag).f3.f0) ((rd_T92 l0 ag).f3.f1) _ _ ((rd_T92 l0 ag).f3.f2) _ _ ((rd_T92 l0 ag).f4) _ _ ((rd_T92 l0 ag).f5) a1 false _ ?ae ?af ?ah ?ai ?aj ?au A5.out).mono ?_;(case ae=>exact kC (Kd.C_below bI.out HB.out));(case af=>exact bJ.out);(case ah=>exact kC (Kd.C_below bK.out HB.out));(case ai=>exact bL.out);(case aj=>exact kC (Kd.C_below bM.out HB.out));(case au=>exact bN.out);rintro e dP ⟨rfl,hb⟩;refine⟨_,rfl,?_⟩;replace HB:=kH hb;clear hb))
  go_ret
  exact⟨qW,qB⟩
 obtain rfl:=oJ H
 go_wp2
 go_ret
 exact⟨qW,qB⟩
theorem SaD.grp.calls (k:Nat):SaD.stmt k/\SaA.stmt k:=by
 induction k using Nat.strongRecOn with
 | _ k ih=>exact⟨SaD.step k (fun m_ h_=>(ih m_ h_).2) (fun m_ h_=>(ih m_ h_).1),SaA.step k (fun m_ h_=>(ih m_ h_).2) (fun m_ h_=>(ih m_ h_).1)⟩
theorem SaA.calls (k:Nat):SaA.stmt k:=(SaD.grp.calls k).2
def Sax.f (k:Nat) (l0:List (S92)):Option (Bool):=(SaA.f k l0 3).bind fun ag=>(if ag=true then ((SaC.f k l0).bind fun af=>(some (decide (af<=16)))) else (some false))
theorem Sax.calls (k:Nat) (A0:Option Addr) (c0:Nat) (l0:List (S92)) (r:Bool) (w:World) (hr0:Kd.C k92 w A0 l0.length l0) (hc0:l0.length<=c0) (h:Sax.f k l0=some r) :
  Calls Tryz.prog 71 #[.slice A0 l0.length c0] w fun e w'=>e = .returned (.bool r)/\Below w.heap.size w w':=by
 have ah:=aM hr0
 have ai:=aM hc0
 clear hr0 hc0
 have HB:=aM (Below.refl w.heap.size w)
 have H:=h;unfold Sax.f at H
 clear h
 obtain⟨ag,A2,H⟩:=qE H
 try dsimp only at H
 replace H:=jB H;rcases H with ⟨rfl,H⟩ | ⟨rfl,H⟩
 ·obtain⟨af,A4,H⟩:=qE H
  try dsimp only at H
  obtain rfl:=oJ H
  go_enter Tryz.func71,Tryz.ntmps71
  go_wp2_with (first|((with_reducible refine jc 80 4 rfl rfl ?_);refine jG Tryz.func80 #[.slice A0 l0.length c0,.int .i64 3] ?_;refine (SaA.calls k _ _ l0 3 true _ ?aa ?ae A2.out).mono ?_;(case aa=>exact kC ah.out);(case ae=>exact ai.out);rintro e w5 ⟨rfl,hb⟩;refine⟨_,rfl,?_⟩;replace HB:=kH hb;clear hb)|(go_at_call 74;(with_reducible refine (SaC.calls k _ _ l0 af _ ?aa ?ae A4.out).mono ?_);(case aa=>exact kC (Kd.C_below ah.out HB.out));(case ae=>exact ai.out);rintro e w6 ⟨rfl,hb⟩;replace HB:=kH hb;clear hb))
  go_ret
  exact⟨qW,qB⟩
 obtain rfl:=oJ H
 go_enter Tryz.func71,Tryz.ntmps71
 go_wp2_with (first|((with_reducible refine jc 80 4 rfl rfl ?_);refine jG Tryz.func80 #[.slice A0 l0.length c0,.int .i64 3] ?_;refine (SaA.calls k _ _ l0 3 false _ ?aa ?ae A2.out).mono ?_;(case aa=>exact kC ah.out);(case ae=>exact ai.out);rintro e w7 ⟨rfl,hb⟩;refine⟨_,rfl,?_⟩;replace HB:=kH hb;clear hb))
 go_ret
 exact⟨qW,qB⟩
def SaJ.f:Nat->Int->Int->List (S90)->Int->Option ((List (S27)))
 | 0,_,_,_,_=>none
 | k+1,aH,ag,ae,a1=>if aH=0 then (some (([(⟨1,a1,0,0,ag⟩:S27)]:List (S27)))) else (if aH=13 then (some (([(⟨2,a1,ag,0,0⟩:S27)]:List (S27)))) else (if 0 < (ae.length:Int) then ((SaJ.f k ((rd_T90 ae 0).f0) ((rd_T90 ae 0).f1) ((rd_T90 ae 0).f2) a1).bind fun bg=>(if 1 < (ae.length:Int) then ((SaJ.f k ((rd_T90 ae 1).f0) ((rd_T90 ae 1).f1) ((rd_T90 ae 1).f2) (wrap64 (a1+1))).bind fun aN=>(if bg.length+aN.length < 3518437208883 then ((some (bg ++ aN:List (S27))).bind fun bn=>(if bn.length < 3518437208883 then (some (bn ++ [(⟨3,a1,a1,wrap64 (a1+1),aH⟩:S27)])) else (none))) else (none))) else (none))) else (none)))
def SaJ.T5:Bool × List (List Nat × List Nat):=(true,[([],[]),([0],[0]),([1],[1]),([2],[2]),([],[]),([3,4],[3,4]),([],[]),([6],[6]),([7],[7]),([8],[8]),([],[]),([10],[10]),([9,11,5],[9,11]),([5,12,12],[5,12]),([13,13,0,1,2,3,4,5,6,7,8,9,10,11,12,13],[13])])
def SaJ.B5:List Nat:=[0,1,3,7,0,31,0,64,192,448,0,1024,4095,8191,16383]
theorem SaJ.tab5:rtab .any (opsOf Tryz.f89 5)=SaJ.T5:=by kernel_rfl
theorem SaJ.bits5:waitsOk SaJ.T5.2 SaJ.B5=true:=by kernel_rfl
theorem SaJ.calls (k:Nat):∀ (aH:Int) (ag:Int) (bM:Option Addr) (bi:Nat) (ae:List (S90)) (a1:Int) (r:List (S27)) (w:World) (bq:Kd.C k90 w bM ae.length ae) (bu:ae.length<=bi) (h:SaJ.f k aH ag ae a1=some r),
  Calls Tryz.prog 89 #[.agg #[.int .i64 aH,.int .i64 ag,.slice bM ae.length bi],.int .i64 a1] w fun e w'=>∃ dw:Value,e = .returned (dw)/\Kd.R k27 27 w' w.heap.size (fun _=>True) dw r/\Below w.heap.size w w':=by
 induction k using Nat.strongRecOn with
 | _ k ih =>
 intro aH ag bM bi ae a1 r w bq bu h
 cases k with
 | zero=>exact absurd h (by simp [SaJ.f])
 | succ k =>
 simp only [SaJ.f] at h
 have dH:=Tryz.underlying90
 have dI:=Tryz.underlying27
 have bK:=aM bq
 have dx:=aM bu
 clear bq bu
 have HB:=aM (Below.refl w.heap.size w)
 have H:=h
 clear h
 replace H:=jE H;rcases H with ⟨cB,cK,H⟩ | ⟨c3,cB,cK,H⟩
 ·obtain⟨dJ,aQ⟩:=ky ((([(⟨1,a1,0,0,ag⟩:S27)]:List (S27))):List (S27))
  first|replace H:=kz aQ H|rw [<- aQ.out] at H
  obtain rfl:=oJ H
  go_enter Tryz.func89,Tryz.ntmps89
  go_wp2_with (first|((with_reducible refine jd 2 rfl ?_);refine jX _ 90 ?_;intro aJ hg w4 hbox hb;have aa:=aM hbox;have bL:=kG hg;replace HB:=kH hb;clear hb hbox hg;have d9:=jz3 aa)|((with_reducible refine jd 13 rfl ?_);refine jV k27 27 ([(⟨1,a1,0,0,ag⟩:S27)]:List (S27)) [.int .i64 1,.int .i64 a1,.int .i64 0,.int .i64 0,.int .i64 ag] (Reps.c5 (show Kd.M k27 _ _ _ (⟨1,a1,0,0,ag⟩:S27) [.int .i64 1,.int .i64 a1,.int .i64 0,.int .i64 0,.int .i64 ag] from (k27_mkM _ _ _ (⟨1,a1,0,0,ag⟩:S27) )) (Reps.none _ _)) ?_;intro dK w6 bR hb;(first|rw [<- aQ.out] at bR|(simp only [Int.reduceToNat] at bR;rw [<- aQ.out] at bR));have bS:=kL bR;replace aa:=kB aa hb;replace HB:=kH hb;clear hb bR))
  go_ret
  exact⟨_,qW,qR bS,qB⟩
 replace H:=jE H;rcases H with ⟨cO,df,H⟩ | ⟨c8,cO,df,H⟩
 ·obtain⟨dL,aT⟩:=ky ((([(⟨2,a1,ag,0,0⟩:S27)]:List (S27))):List (S27))
  first|replace H:=kz aT H|rw [<- aT.out] at H
  obtain rfl:=oJ H
  go_enter Tryz.func89,Tryz.ntmps89
  go_wp2_with (first|((with_reducible refine jd 2 rfl ?_);refine jX _ 90 ?_;intro aJ hg w9 hbox hb;have aa:=aM hbox;have bL:=kG hg;replace HB:=kH hb;clear hb hbox hg;have dM:=jz3 aa)|((with_reducible refine jd 21 rfl ?_);refine jV k27 27 ([(⟨2,a1,ag,0,0⟩:S27)]:List (S27)) [.int .i64 2,.int .i64 a1,.int .i64 ag,.int .i64 0,.int .i64 0] (Reps.c5 (show Kd.M k27 _ _ _ (⟨2,a1,ag,0,0⟩:S27) [.int .i64 2,.int .i64 a1,.int .i64 ag,.int .i64 0,.int .i64 0] from (k27_mkM _ _ _ (⟨2,a1,ag,0,0⟩:S27) )) (Reps.none _ _)) ?_;intro dN ed bv hb;(first|rw [<- aT.out] at bv|(simp only [Int.reduceToNat] at bv;rw [<- aT.out] at bv));have bT:=kL bv;replace aa:=kB aa hb;replace HB:=kH hb;clear hb bv))
  go_ret
  exact⟨_,qW,qR bT,qB⟩
 replace H:=jU H;obtain⟨c13,H⟩:=H
 have dz:=decide_eq_true c13
 have dA:decide (0 < ae.length)=true:=decide_eq_true (by omega)
 clear c13
 obtain⟨bg,dO,H⟩:=qE H
 try dsimp only at H
 replace H:=jU H;obtain⟨c15,H⟩:=H
 have dB:=decide_eq_true c15
 have dC:decide (1 < ae.length)=true:=decide_eq_true (by omega)
 clear c15
 obtain⟨aN,dP,H⟩:=qE H
 try dsimp only at H
 replace H:=jL H;obtain⟨bU,H⟩:=H
 obtain⟨bn,bz⟩:=ky ((bg ++ aN):List (S27))
 first|replace H:=kz bz H|rw [<- bz.out] at H
 replace H:=jL H;obtain⟨bV,H⟩:=H
 obtain⟨dQ,bA⟩:=ky ((bn ++ [(⟨3,a1,a1,wrap64 (a1+1),aH⟩:S27)]):List (S27))
 first|replace H:=kz bA H|rw [<- bA.out] at H
 obtain rfl:=oJ H
 go_enter Tryz.func89,Tryz.ntmps89
 try go_wp2_with (first|((with_reducible refine jd 2 rfl ?_);refine jX _ 90 ?_;intro aJ hg dR hbox hb;have aa:=aM hbox;have bL:=kG hg;replace HB:=kH hb;clear hb hbox hg;have dS:=jz3 aa))
 replace aa:=aM (blk_drew aa.out)
 replace HB:=aM (below_drew1 HB.out)
 have bN:0<=(0:Int):=(by omega)
 have bO:0 < (ae.length:Int):=qD
 obtain⟨af,bB,bC,e250,ah,ai,aj,aU,aV⟩:=at_T90 bK.out 0 bN bO
 have au:=aj
 (try rw [show ((0:Int)).toNat=0 from rfl] at au)
 (try rw [show 0*3=0 from rfl] at au)
 (try rw [Addr.add_zero'] at au)
 have av:=ai
 (try rw [show ((0:Int)).toNat=0 from rfl] at av)
 (try rw [show 0*3=0 from rfl] at av)
 (try rw [Addr.add_zero'] at av)
 have ax:=ah
 (try rw [show ((0:Int)).toNat=0 from rfl] at ax)
 (try rw [show 0*3=0 from rfl] at ax)
 (try rw [Addr.add_zero'] at ax)
 cases e250
 have dD:(0 < ae.length)=True:=eq_true (by omega)
 (try rw [show ((0:Int)).toNat=0 from rfl] at ah)
 (try rw [show 0*3=0 from rfl] at ah)
 (try rw [Addr.add_zero'] at ah)
 (try rw [show ((0:Int)).toNat=0 from rfl] at ai)
 (try rw [show 0*3=0 from rfl] at ai)
 (try rw [Addr.add_zero'] at ai)
 (try rw [show ((0:Int)).toNat=0 from rfl] at aj)
 (try rw [show 0*3=0 from rfl] at aj)
 (try rw [Addr.add_zero'] at aj)
 replace ah:=kx HB ah
 replace ai:=kx HB ai
 replace aj:=kx HB aj
 have aW:=aM aV
 have bI:=aM aU
 clear aV aU
 replace bN:=eq_true bN
 replace bO:=eq_true bO
 have bP:0<=(1:Int):=(by omega)
 have bQ:1 < (ae.length:Int):=qD
 obtain⟨bW,bD,bE,e254,ay,az,aA,aX,aY⟩:=at_T90 bK.out 1 bP bQ
 have aC:=aA
 (try rw [show ((1:Int)).toNat=1 from rfl] at aC)
 (try rw [show 1*3=3 from rfl] at aC)
 (try simp only [Nat.reduceMul,Nat.reduceEqDiff,Go.Addr.add,↓reduceIte] at aC)
 have aD:=az
 (try rw [show ((1:Int)).toNat=1 from rfl] at aD)
 (try rw [show 1*3=3 from rfl] at aD)
 (try simp only [Nat.reduceMul,Nat.reduceEqDiff,Go.Addr.add,↓reduceIte] at aD)
 have aG:=ay
 (try rw [show ((1:Int)).toNat=1 from rfl] at aG)
 (try rw [show 1*3=3 from rfl] at aG)
 (try simp only [Nat.reduceMul,Nat.reduceEqDiff,Go.Addr.add,↓reduceIte] at aG)
 obtain rfl:af=bW:=(by injection e254)
 (try simp only [show (1:Int).toNat=1 from rfl,Nat.reduceMul,Nat.reduceEqDiff,Go.Addr.add,↓reduceIte] at ay)
 (try simp only [show (1:Int).toNat=1 from rfl,Nat.reduceMul,Nat.reduceEqDiff,Go.Addr.add,↓reduceIte] at az)
 (try simp only [show (1:Int).toNat=1 from rfl,Nat.reduceMul,Nat.reduceEqDiff,Go.Addr.add,↓reduceIte] at aA)
 have dE:(1 < ae.length)=True:=eq_true (by omega)
 (try rw [show ((1:Int)).toNat=1 from rfl] at ay)
 (try rw [show 1*3=3 from rfl] at ay)
 (try rw [show ((1:Int)).toNat=1 from rfl] at az)
 (try rw [show 1*3=3 from rfl] at az)
 (try rw [show ((1:Int)).toNat=1 from rfl] at aA)
 (try rw [show 1*3=3 from rfl] at aA)
 replace ay:=kx HB ay
 replace az:=kx HB az
 replace aA:=kx HB aA
 have aZ:=aM aY
 have bJ:=aM aX
 clear aY aX
 replace bP:=eq_true bP
 replace bQ:=eq_true bQ
 refine start_ (n:=15) (S:=fun w'=>w'.cell? ⟨aJ,0,none⟩=some (.int .i64 aH)/\w'.cell? ⟨aJ,1,none⟩=some (.int .i64 ag)/\w'.cell? ⟨aJ,2,none⟩=some (.slice (some af) ae.length bi)/\w'.cell? af=some (.int .i64 ((rd_T90 ae 0).f0))/\w'.cell? ⟨af.block,af.off+1,none⟩=some (.int .i64 ((rd_T90 ae 0).f1))/\w'.cell? ⟨af.block,af.off+2,none⟩=some (.slice bB ((rd_T90 ae 0).f2).length bC)/\w'.cell? ⟨af.block,af.off+3,none⟩=some (.int .i64 ((rd_T90 ae 1).f0))/\w'.cell? ⟨af.block,af.off+3+1,none⟩=some (.int .i64 ((rd_T90 ae 1).f1))/\w'.cell? ⟨af.block,af.off+3+2,none⟩=some (.slice bD ((rd_T90 ae 1).f2).length bE)) (ds:=[]) (jb 15 0) (by kernel_rfl) rfl rfl ⟨(blk_cell aa.out 0).trans rfl,(blk_cell aa.out 1).trans rfl,(blk_cell aa.out 2).trans rfl,(kx HB ax),(kx HB av),(kx HB au),(kx HB aG),(kx HB aD),(kx HB aC)⟩ (fun hHeld=>?_);refine with_tabW SaJ.tab5 SaJ.bits5 (fun HT_ HW_=>?_)
 generalize dR.drew=ek at aa HB aW aZ ah ai aj ay az aA hHeld ⊢
 refine jp 0 22 (jb 15 1) ?_
 refine jp 4 26 (jb 15 17) ?_
 refine jp 6 28 (jb 15 81) ?_
 refine jp 10 32 (jb 15 1105) ?_
 refine jp 11 33 (jb 15 3153) ?_
 refine jt 1 23 (jb 15 3155) ?_
 refine jp 2 24 (jb 15 3159) ?_
 refine jt 3 25 (jb 15 3167) ?_
 refine jt 7 29 (jb 15 3295) ?_
 refine jp 8 30 (jb 15 3551) ?_
 refine jt 9 31 (jb 15 4063) ?_
 refine one_ (i:=5) (N:=some 27) (jb 15 4095) rfl rfl (one_of HT_.out (by kernel_rfl)) (by decide) (fun K hK=>?_)
 refine goes_ Tryz.func89 (by kernel_rfl) rfl #[.agg #[.int .i64 ((rd_T90 ae 0).f0),.int .i64 ((rd_T90 ae 0).f1),.slice bB ((rd_T90 ae 0).f2).length bC],.int .i64 a1] (by rfl) rfl rfl qM ?_
 with_reducible refine (ih k (by omega) ((rd_T90 ae 0).f0) ((rd_T90 ae 0).f1) _ _ ((rd_T90 ae 0).f2) a1 bg _ ?bF ?bG dO.out).mono ?_
 (case bF=>exact kC (Kd.C_below aW.out HB.out))
 (case bG=>exact bI.out)
 rintro e eu ⟨dh,rfl,ho0,hb⟩
 refine⟨_,rfl,?_⟩
 have aK:=kL ho0
 replace aa:=kB aa hb
 replace HB:=kH hb
 (try clear hb)
 (try clear hb2)
 (try clear hk)
 (try clear hi)
 (try clear ho0)
 refine hK.out _ _ ⟨(blk_cell aa.out 0).trans rfl,(blk_cell aa.out 1).trans rfl,(blk_cell aa.out 2).trans rfl,(kx HB ax),(kx HB av),(kx HB au),(kx HB aG),(kx HB aD),(kx HB aC)⟩ (fun hHeld=>?_)
 clear hK K
 refine norm_ (a':=?_) ?_ ?_
 rotate_left
 ·show Act.put _ (some 27) _=_
  simp only [Act.put,List.setIfInBounds_toArray,List.set_cons_zero,List.set_cons_succ,i64_w,i32_w]
  rfl
 refine one_ (i:=12) (N:=some 34) (jb 15 8191) rfl rfl (one_of HT_.out (by kernel_rfl)) (by decide) (fun K hK=>?_)
 refine goes_ Tryz.func89 (by kernel_rfl) rfl #[.agg #[.int .i64 ((rd_T90 ae 1).f0),.int .i64 ((rd_T90 ae 1).f1),.slice bD ((rd_T90 ae 1).f2).length bE],.int .i64 (wrap64 (a1+1))] (by rfl) rfl rfl qM ?_
 with_reducible refine (ih k (by omega) ((rd_T90 ae 1).f0) ((rd_T90 ae 1).f1) _ _ ((rd_T90 ae 1).f2) (wrap64 (a1+1)) aN _ ?bF ?bG dP.out).mono ?_
 (case bF=>exact kC (Kd.C_below aZ.out HB.out))
 (case bG=>exact bJ.out)
 rintro e eB ⟨dU,rfl,ho0,hb⟩
 refine⟨_,rfl,?_⟩
 have aI:=aM (Kd.R_lower (Kd.R_new' ho0 (Kd.R_lt (qR aK))) (below_size qB))
 replace aK:=kO aK ho0 hb
 replace aa:=kB aa hb
 replace HB:=kH hb
 (try clear hb)
 (try clear hb2)
 (try clear hk)
 (try clear hi)
 (try clear ho0)
 obtain⟨bX,bY,bZ⟩:=Kd.R_slice aI.out
 (first|subst bZ|(injection bZ with dF dV dG;have dW:=dF.symm;have dX:=dG.symm;clear dF dV dG;subst dW;subst dX))
 refine hK.out _ _ ⟨(blk_cell aa.out 0).trans rfl,(blk_cell aa.out 1).trans rfl,(blk_cell aa.out 2).trans rfl,(kx HB ax),(kx HB av),(kx HB au),(kx HB aG),(kx HB aD),(kx HB aC)⟩ (fun hHeld=>?_)
 clear hK K
 refine norm_ (a':=?_) ?_ ?_
 rotate_left
 ·show Act.put _ (some 34) _=_
  simp only [Act.put,List.setIfInBounds_toArray,List.set_cons_zero,List.set_cons_succ,i64_w,i32_w]
  rfl
 refine one_ (i:=13) (N:=some 35) (jb 15 16383) rfl rfl (one_of HT_.out (by kernel_rfl)) (by decide) (fun K hK=>?_)
 refine Kd.R_append_rows_step k27 (w0:=w) w.heap.size (by rfl) (.tmp 27) (.tmp 34) 23 27 (.agg #[(.int .i64 0),(.int .i64 0),(.int .i64 0),(.int .i64 0),(.int .i64 0)]) 40 rfl Tryz.underlying23 info27 rfl (by decide) (by omega) dh bg aN _ _ _ (fun k_=>some k_≠(.slice bX aN.length bY:Value).ownBlock) (fun _=>False) rfl rfl ?aO ?aR (fun _ _ h=>h) (fun _ h=>h.elim) ?aF ?aB ?aS ?aL ?_
 (case aR=>exact kC (Kd.R_reads' aI.out).2.2)
 (case aB=>exact qB)
 (case aF=>exact (fun k_ hk=>Kd.fresh' (Kd.R_lt (qR aI)) k_ hk))
 (case aO=>exact (by (with_reducible repeat (first|apply Kd.R_alloc|apply Kd.R_drewN|apply Kd.R_drew));exact Kd.R_mono aK.out (fun _ hk=>hk.2)))
 (case aS=>exact (below_size qB))
 (case aL=>have:=bU.out;omega)
 intro di eD ho hb hg hat
 rw [<- bz.out] at ho
 have bH:=aM ho
 replace aa:=aM (blk_grown (g:=aJ) (o:=.cells #[.int .i64 aH,.int .i64 ag,.slice (some af) ae.length bi] 90 (0,0)) (qK aa) hg (Kd.R_ne aK.out aa.out (by decide)))
 replace aI:=aM (Kd.R_after (ok:=(fun _=>True)) (qR aI) hg hat)
 replace HB:=aM hb
 clear aK
 clear ho hb hg hat
 refine hK.out _ _ ⟨(blk_cell aa.out 0).trans rfl,(blk_cell aa.out 1).trans rfl,(blk_cell aa.out 2).trans rfl,(kx HB ax),(kx HB av),(kx HB au),(kx HB aG),(kx HB aD),(kx HB aC)⟩ (fun hHeld=>?_)
 clear hK K
 refine norm_ (a':=?_) ?_ ?_
 rotate_left
 ·show Act.put _ (some 35) _=_
  simp only [Act.put,List.setIfInBounds_toArray,List.set_cons_zero,List.set_cons_succ,i64_w,i32_w]
  rfl
 refine jp 14 5 (jb 15 32767) ?_
 refine done_ (done_of HT_.out (by kernel_rfl)) ?_
 have dY:=jz3 aa
 try go_wp2_with (first|((with_reducible refine gate_builtin (b:=.append) (xs:=#[.tmp 36,.tmp 44]) rfl ?_);at_builtin;refine Kd.R_append k27 (w0:=w) w.heap.size rfl (.tmp 36) (.tmp 44) 23 27 (.agg #[(.int .i64 0),(.int .i64 0),(.int .i64 0),(.int .i64 0),(.int .i64 0)]) 40 rfl Tryz.underlying23 info27 rfl (by decide) (by omega) di bn (⟨3,a1,a1,wrap64 (a1+1),aH⟩:S27) [.int .i64 3,.int .i64 a1,.int .i64 a1,.int .i64 (wrap64 (a1+1)),.int .i64 aH] (fun k_=>some k_≠(.slice bX aN.length bY:Value).ownBlock) (fun _=>False) rfl rfl ?aP (fun _ hk=>hk.elim) ?aF ?aO ?aB ?aS ?aL ?_;(case aP=>exact k27_mkM _ _ _ (⟨3,a1,a1,wrap64 (a1+1),aH⟩:S27));(case aB=>exact qB);(case aF=>exact (fun k_ hk=>Kd.fresh' (Kd.R_lt (qR aI)) k_ hk));(case aO=>exact (qR bH));(case aS=>exact (below_size qB));(case aL=>have:=bV.out;omega);intro dZ eF ho hb hg hat;rw [<- bA.out] at ho;have cz:=aM ho;replace aa:=aM (blk_grown (g:=aJ) (o:=.cells #[.int .i64 aH,.int .i64 ag,.slice (some af) ae.length bi] 90 (0,0)) (qK aa) hg (Kd.R_ne bH.out aa.out (by decide)));replace aI:=aM (Kd.R_after (ok:=(fun _=>True)) (qR aI) hg hat);replace HB:=aM hb;clear bH;clear ho hb hg hat))
 go_ret
 exact⟨_,qW,by (with_reducible repeat (first|apply Kd.R_alloc|apply Kd.R_drewN|apply Kd.R_drew));exact Kd.R_mono cz.out (fun _ hk=>trivial),qB⟩
mutual
def SaK.f:Nat->Int->Int->Int->Int->Int->List (S90)->List (S92)->List (S92)->Int->Option ((List (S27)))
 | 0,_,_,_,_,_,_,_,_,_=>none
 | k+1,aA,ax,ay,af,ag,ae,ah,aj,a1=>(SaJ.f k af ag ae 4).bind fun aC=>((SaL.f k ah (wrap64 ((wrap64 (a1+(aC.length:Int)))+1))).bind fun az=>(if (aj.length:Int)=0 then (if aC.length < 3518437208883 then ((some (aC ++ [(⟨5,0,4,0,wrap64 ((wrap64 ((wrap64 (a1+(aC.length:Int)))+1))+(az.length:Int))⟩:S27)]:List (S27))).bind fun bO=>(if bO.length+az.length < 3518437208883 then (some (bO ++ az)) else (none))) else (none)) else ((SaL.f k aj (wrap64 ((wrap64 ((wrap64 ((wrap64 (a1+(aC.length:Int)))+1))+(az.length:Int)))+1))).bind fun bv=>(if aC.length < 3518437208883 then ((some (aC ++ [(⟨5,0,4,0,wrap64 ((wrap64 ((wrap64 ((wrap64 (a1+(aC.length:Int)))+1))+(az.length:Int)))+1)⟩:S27)]:List (S27))).bind fun bP=>(if bP.length+az.length < 3518437208883 then ((some (bP ++ az:List (S27))).bind fun bQ=>(if bQ.length < 3518437208883 then ((some (bQ ++ [(⟨4,0,0,0,wrap64 ((wrap64 ((wrap64 ((wrap64 ((wrap64 (a1+(aC.length:Int)))+1))+(az.length:Int)))+1))+(bv.length:Int))⟩:S27)]:List (S27))).bind fun bR=>(if bR.length+bv.length < 3518437208883 then (some (bR ++ bv)) else (none))) else (none))) else (none))) else (none)))))
def SaN.f:Nat->Int->Int->Int->Int->Int->List (S90)->List (S92)->List (S92)->Int->Option ((List (S27)))
 | 0,_,_,_,_,_,_,_,_,_=>none
 | k+1,aA,ax,ay,af,ag,ae,ah,aj,a1=>(SaJ.f k af ag ae 4).bind fun bu=>((SaL.f k ah (wrap64 ((wrap64 (a1+(bu.length:Int)))+1))).bind fun bz=>(if bu.length < 3518437208883 then ((some (bu ++ [(⟨5,0,4,0,wrap64 ((wrap64 ((wrap64 ((wrap64 (a1+(bu.length:Int)))+1))+(bz.length:Int)))+1)⟩:S27)]:List (S27))).bind fun bS=>(if bS.length+bz.length < 3518437208883 then ((some (bS ++ bz:List (S27))).bind fun bT=>(if bT.length < 3518437208883 then (some (bT ++ [(⟨4,0,0,0,a1⟩:S27)])) else (none))) else (none))) else (none)))
def SaM.f:Nat->Int->Int->Int->Int->Int->List (S90)->List (S92)->List (S92)->Int->Option ((List (S27)))
 | 0,_,_,_,_,_,_,_,_,_=>none
 | k+1,aA,ax,ay,af,ag,ae,ah,aj,a1=>(SaJ.f k af ag ae 4).bind fun aT=>(if aA=2 then ((SaK.f k aA ax ay af ag ae ah aj a1).bind fun dQ=>(some dQ)) else (if aA=3 then ((SaN.f k aA ax ay af ag ae ah aj a1).bind fun dR=>(some dR)) else (if aA=1 then (if aT.length < 3518437208883 then (some (aT ++ [(⟨2,ax,4,0,0⟩:S27)])) else (none)) else (if aA=4 then (if aT.length < 3518437208883 then (some (aT ++ [(⟨6,0,4,0,ay⟩:S27)])) else (none)) else (if aA=7 then (if aT.length < 3518437208883 then (some (aT ++ [(⟨9,0,4,0,0⟩:S27)])) else (none)) else (if aA=5 then (some (([(⟨7,ax,0,0,ay⟩:S27)]:List (S27)))) else (some (([(⟨8,0,0,0,0⟩:S27)]:List (S27))))))))))
def SaL.l0:Nat->List (S92)->Int->List (S27)->Int->Option ((List (S27)))
 | 0,_,_,_,_=>none
 | k+1,x0,x1,x5,x6=>if x6 < (x0.length:Int) then (if 0<=x6 then ((SaM.f k ((rd_T92 x0 x6).f0) ((rd_T92 x0 x6).f1) ((rd_T92 x0 x6).f2) ((rd_T92 x0 x6).f3.f0) ((rd_T92 x0 x6).f3.f1) ((rd_T92 x0 x6).f3.f2) ((rd_T92 x0 x6).f4) ((rd_T92 x0 x6).f5) (wrap64 (x1+(x5.length:Int)))).bind fun df=>(if x5.length+df.length < 3518437208883 then (SaL.l0 k x0 x1 (x5 ++ df) (wrap64 (x6+1))) else (none))) else (none)) else (some x5)
def SaL.f:Nat->List (S92)->Int->Option ((List (S27)))
 | 0,_,_=>none
 | k+1,l0,a1=>SaL.l0 k l0 a1 (([]:List (S27))) 0
end
@[reducible] def SaK.stmt (k:Nat):Prop:=∀ (aA:Int) (ax:Int) (ay:Int) (af:Int) (ag:Int) (aI:Option Addr) (aJ:Nat) (ae:List (S90)) (aK:Option Addr) (aN:Nat) (ah:List (S92)) (aV:Option Addr) (aW:Nat) (aj:List (S92)) (a1:Int) (r:List (S27)) (w:World) (bA:Kd.C k90 w aI ae.length ae) (bB:ae.length<=aJ) (bC:Kd.C k92 w aK ah.length ah) (bD:ah.length<=aN) (bE:Kd.C k92 w aV aj.length aj) (bF:aj.length<=aW) (h:SaK.f k aA ax ay af ag ae ah aj a1=some r),
  Calls Tryz.prog 90 #[.agg #[.int .i64 aA,.int .i64 ax,.int .i64 ay,.int .i64 af,.int .i64 ag,.slice aI ae.length aJ,.slice aK ah.length aN,.slice aV aj.length aW],.int .i64 a1] w fun e w'=>∃ dS:Value,e = .returned (dS)/\Kd.R k27 27 w' w.heap.size (fun _=>True) dS r/\Below w.heap.size w w'
@[reducible] def SaN.stmt (k:Nat):Prop:=∀ (aA:Int) (ax:Int) (ay:Int) (af:Int) (ag:Int) (aI:Option Addr) (aJ:Nat) (ae:List (S90)) (aK:Option Addr) (aN:Nat) (ah:List (S92)) (aV:Option Addr) (aW:Nat) (aj:List (S92)) (a1:Int) (r:List (S27)) (w:World) (bA:Kd.C k90 w aI ae.length ae) (bB:ae.length<=aJ) (bC:Kd.C k92 w aK ah.length ah) (bD:ah.length<=aN) (bE:Kd.C k92 w aV aj.length aj) (bF:aj.length<=aW) (h:SaN.f k aA ax ay af ag ae ah aj a1=some r),
  Calls Tryz.prog 91 #[.agg #[.int .i64 aA,.int .i64 ax,.int .i64 ay,.int .i64 af,.int .i64 ag,.slice aI ae.length aJ,.slice aK ah.length aN,.slice aV aj.length aW],.int .i64 a1] w fun e w'=>∃ dS:Value,e = .returned (dS)/\Kd.R k27 27 w' w.heap.size (fun _=>True) dS r/\Below w.heap.size w w'
@[reducible] def SaM.stmt (k:Nat):Prop:=∀ (aA:Int) (ax:Int) (ay:Int) (af:Int) (ag:Int) (aI:Option Addr) (aJ:Nat) (ae:List (S90)) (aK:Option Addr) (aN:Nat) (ah:List (S92)) (aV:Option Addr) (aW:Nat) (aj:List (S92)) (a1:Int) (r:List (S27)) (w:World) (bA:Kd.C k90 w aI ae.length ae) (bB:ae.length<=aJ) (bC:Kd.C k92 w aK ah.length ah) (bD:ah.length<=aN) (bE:Kd.C k92 w aV aj.length aj) (bF:aj.length<=aW) (h:SaM.f k aA ax ay af ag ae ah aj a1=some r),
  Calls Tryz.prog 81 #[.agg #[.int .i64 aA,.int .i64 ax,.int .i64 ay,.int .i64 af,.int .i64 ag,.slice aI ae.length aJ,.slice aK ah.length aN,.slice aV aj.length aW],.int .i64 a1] w fun e w'=>∃ dS:Value,e = .returned (dS)/\Kd.R k27 27 w' w.heap.size (fun _=>True) dS r/\Below w.heap.size w w'
@[reducible] def SaL.stmt (k:Nat):Prop:=∀ (A0:Option Addr) (c0:Nat) (l0:List (S92)) (a1:Int) (r:List (S27)) (w:World) (hr0:Kd.C k92 w A0 l0.length l0) (hc0:l0.length<=c0) (h:SaL.f k l0 a1=some r),
  Calls Tryz.prog 72 #[.slice A0 l0.length c0,.int .i64 a1] w fun e w'=>∃ dS:Value,e = .returned (dS)/\Kd.R k27 27 w' w.heap.size (fun _=>True) dS r/\Below w.heap.size w w'
theorem SaK.step (k:Nat) (aD:∀ m_,m_ < k->SaL.stmt m_) (aX:∀ m_,m_ < k->SaM.stmt m_) (ih:∀ m_,m_ < k->SaK.stmt m_) (aU:∀ m_,m_ < k->SaN.stmt m_):SaK.stmt k:=by
 intro aA ax ay af ag aI aJ ae aK aN ah aV aW aj a1 r w bA bB bC bD bE bF h
 cases k with
 | zero=>exact absurd h (by simp [SaK.f])
 | succ k =>
 simp only [SaK.f] at h
 have fC:=Tryz.underlying92
 have gm:=Tryz.underlying90
 have gp:=Tryz.underlying27
 have bg:=aM bA
 have bi:=aM bB
 clear bA bB
 have bI:=aM bC
 have bJ:=aM bD
 clear bC bD
 have bU:=aM bE
 have bV:=aM bF
 clear bE bF
 have HB:=aM (Below.refl w.heap.size w)
 have H:((SaJ.f k af ag ae 4).bind fun aC=>((SaL.f k ah (wrap64 ((wrap64 (a1+(aC.length:Int)))+1))).bind fun az=>(if (aj.length:Int)=0 then (if aC.length < 3518437208883 then ((some (aC ++ [(⟨5,0,4,0,wrap64 ((wrap64 ((wrap64 (a1+(aC.length:Int)))+1))+(az.length:Int))⟩:S27)]:List (S27))).bind fun bO=>(if bO.length+az.length < 3518437208883 then (some (bO ++ az)) else (none))) else (none)) else ((SaL.f k aj (wrap64 ((wrap64 ((wrap64 ((wrap64 (a1+(aC.length:Int)))+1))+(az.length:Int)))+1))).bind fun bv=>(if aC.length < 3518437208883 then ((some (aC ++ [(⟨5,0,4,0,wrap64 ((wrap64 ((wrap64 ((wrap64 (a1+(aC.length:Int)))+1))+(az.length:Int)))+1)⟩:S27)]:List (S27))).bind fun bP=>(if bP.length+az.length < 3518437208883 then ((some (bP ++ az:List (S27))).bind fun bQ=>(if bQ.length < 3518437208883 then ((some (bQ ++ [(⟨4,0,0,0,wrap64 ((wrap64 ((wrap64 ((wrap64 ((wrap64 (a1+(aC.length:Int)))+1))+(az.length:Int)))+1))+(bv.length:Int))⟩:S27)]:List (S27))).bind fun bR=>(if bR.length+bv.length < 3518437208883 then (some (bR ++ bv)) else (none))) else (none))) else (none))) else (none))))))=some r:=h
 clear h
 obtain⟨aC,A3,H⟩:=qE H
 try dsimp only at H
 obtain⟨az,A4,H⟩:=qE H
 try dsimp only at H
 replace H:=jE H;rcases H with ⟨fD,iw,H⟩ | ⟨c5,fD,iw,H⟩
 ·replace H:=jL H;obtain⟨fE,H⟩:=H
  obtain⟨bO,dU⟩:=ky ((aC ++ [(⟨5,0,4,0,wrap64 ((wrap64 ((wrap64 (a1+(aC.length:Int)))+1))+(az.length:Int))⟩:S27)]):List (S27))
  first|replace H:=kz dU H|rw [<- dU.out] at H
  replace H:=jL H;obtain⟨fF,H⟩:=H
  obtain⟨jh,dV⟩:=ky ((bO ++ az):List (S27))
  first|replace H:=kz dV H|rw [<- dV.out] at H
  obtain rfl:=oJ H
  go_enter Tryz.func90,Tryz.ntmps90
  go_wp2_with (first|((with_reducible refine jd 2 rfl ?_);refine jX _ 92 ?_;intro bK hg w8 hbox hb;have ai:=aM hbox;have gq:=kG hg;replace HB:=kH hb;clear hb hbox hg;have iY:=jz8 ai)|((with_reducible refine jc 89 11 rfl rfl ?_);refine jG Tryz.func89 #[.agg #[.int .i64 af,.int .i64 ag,.slice aI ae.length aJ],.int .i64 4] ?_;refine (SaJ.calls k af ag _ _ ae 4 aC _ ?au ?av A3.out).mono ?_;(case au=>exact kC (Kd.C_below bg.out HB.out));(case av=>exact bi.out);rintro e iZ ⟨iy,rfl,ho0,hb⟩;refine⟨_,rfl,?_⟩;have aQ:=kL ho0;replace ai:=kB ai hb;replace HB:=kH hb;clear hb;(try clear ho0);have iA:=jz8 ai;obtain⟨fG,fH,fI⟩:=Kd.R_slice aQ.out;subst fI)|((with_reducible refine jc 72 19 rfl rfl ?_);refine jG Tryz.func72 #[.slice aK ah.length aN,.int .i64 (wrap64 ((wrap64 (a1+(aC.length:Int)))+1))] ?_;refine (aD k (by omega) _ _ ah (wrap64 ((wrap64 (a1+(aC.length:Int)))+1)) az _ ?au ?av A4.out).mono ?_;(case au=>exact kC (Kd.C_below bI.out HB.out));(case av=>exact bJ.out);rintro e ja ⟨iB,rfl,ho0,hb⟩;refine⟨_,rfl,?_⟩;have aH:=aM (Kd.R_lower (Kd.R_new' ho0 (Kd.R_lt (qR aQ))) (below_size qB));replace aQ:=kO aQ ho0 hb;replace ai:=kB ai hb;replace HB:=kH hb;clear hb;(try clear ho0);obtain⟨dM,dN,fJ⟩:=Kd.R_slice aH.out;subst fJ;have jk:=jz8 ai)|((with_reducible refine gate_builtin (b:=.append) (xs:=#[.tmp 32,.tmp 35]) rfl ?_);at_builtin;refine Kd.R_append k27 (w0:=w) w.heap.size rfl (.tmp 32) (.tmp 35) 23 27 (.agg #[(.int .i64 0),(.int .i64 0),(.int .i64 0),(.int .i64 0),(.int .i64 0)]) 40 rfl Tryz.underlying23 info27 rfl (by decide) (by omega) (.slice fG aC.length fH) aC (⟨5,0,4,0,wrap64 ((wrap64 ((wrap64 (a1+(aC.length:Int)))+1))+(az.length:Int))⟩:S27) [.int .i64 5,.int .i64 0,.int .i64 4,.int .i64 0,.int .i64 (wrap64 ((wrap64 ((wrap64 (a1+(aC.length:Int)))+1))+(az.length:Int)))] (fun k_=>some k_≠(.slice dM az.length dN:Value).ownBlock) (fun _=>False) rfl rfl ?aP (fun _ hk=>hk.elim) ?aF ?aO ?aB ?aS ?aL ?_;(case aP=>exact k27_mkM _ _ _ (⟨5,0,4,0,wrap64 ((wrap64 ((wrap64 (a1+(aC.length:Int)))+1))+(az.length:Int))⟩:S27));(case aB=>exact qB);(case aF=>exact (fun k_ hk=>Kd.fresh' (Kd.R_lt (qR aH)) k_ hk));(case aO=>exact (by (with_reducible repeat (first|apply Kd.R_alloc|apply Kd.R_drewN|apply Kd.R_drew));exact Kd.R_mono aQ.out (fun _ hk=>hk.2)));(case aS=>exact (below_size qB));(case aL=>have:=fE.out;omega);intro iC w16 ho hb hg hat;rw [<- dU.out] at ho;have dW:=aM ho;replace ai:=aM (blk_grown (g:=bK) (o:=.cells #[.int .i64 aA,.int .i64 ax,.int .i64 ay,.int .i64 af,.int .i64 ag,.slice aI ae.length aJ,.slice aK ah.length aN,.slice aV aj.length aW] 92 (0,0)) (qK ai) hg (Kd.R_ne aQ.out ai.out (by decide)));replace aH:=aM (Kd.R_after (ok:=(fun _=>True)) (qR aH) hg hat);replace HB:=aM hb;clear aQ;clear ho hb hg hat)|((with_reducible refine gate_builtin (b:=.append) (xs:=#[.tmp 37,.tmp 38]) rfl ?_);at_builtin;refine Kd.R_append_rows k27 (w0:=w) w.heap.size rfl (.tmp 37) (.tmp 38) 23 27 (.agg #[(.int .i64 0),(.int .i64 0),(.int .i64 0),(.int .i64 0),(.int .i64 0)]) 40 rfl Tryz.underlying23 info27 rfl (by decide) (by omega) iC bO az _ _ _ (fun k_=>some k_≠(.slice dM az.length dN:Value).ownBlock) (fun _=>False) rfl rfl ?aO ?aR (fun _ _ h=>h) (fun _ h=>h.elim) ?aF ?aB ?aS ?aL ?_;(case aR=>exact kC (Kd.R_reads' aH.out).2.2);(case aB=>exact qB);(case aF=>exact (fun k_ hk=>Kd.fresh' (Kd.R_lt (qR aH)) k_ hk));(case aO=>exact (qR dW));(case aS=>exact (below_size qB));(case aL=>have:=fF.out;omega);intro jl je ho hb hg hat;rw [<- dV.out] at ho;have gu:=aM ho;replace ai:=aM (blk_grown (g:=bK) (o:=.cells #[.int .i64 aA,.int .i64 ax,.int .i64 ay,.int .i64 af,.int .i64 ag,.slice aI ae.length aJ,.slice aK ah.length aN,.slice aV aj.length aW] 92 (0,0)) (qK ai) hg (Kd.R_ne dW.out ai.out (by decide)));replace aH:=aM (Kd.R_after (ok:=(fun _=>True)) (qR aH) hg hat);replace HB:=aM hb;clear dW;clear ho hb hg hat))
  go_ret
  exact⟨_,qW,by (with_reducible repeat (first|apply Kd.R_alloc|apply Kd.R_drewN|apply Kd.R_drew));exact Kd.R_mono gu.out (fun _ hk=>trivial),qB⟩
 have jm:¬ (aj=[]):=fun h_=>c5 (by rw [h_];rfl)
 obtain⟨bv,jo,H⟩:=qE H
 try dsimp only at H
 replace H:=jL H;obtain⟨dX,H⟩:=H
 obtain⟨bP,dY⟩:=ky ((aC ++ [(⟨5,0,4,0,wrap64 ((wrap64 ((wrap64 ((wrap64 (a1+(aC.length:Int)))+1))+(az.length:Int)))+1)⟩:S27)]):List (S27))
 first|replace H:=kz dY H|rw [<- dY.out] at H
 replace H:=jL H;obtain⟨gz,H⟩:=H
 obtain⟨bQ,dZ⟩:=ky ((bP ++ az):List (S27))
 first|replace H:=kz dZ H|rw [<- dZ.out] at H
 replace H:=jL H;obtain⟨gB,H⟩:=H
 obtain⟨bR,d9⟩:=ky ((bQ ++ [(⟨4,0,0,0,wrap64 ((wrap64 ((wrap64 ((wrap64 ((wrap64 (a1+(aC.length:Int)))+1))+(az.length:Int)))+1))+(bv.length:Int))⟩:S27)]):List (S27))
 first|replace H:=kz d9 H|rw [<- d9.out] at H
 replace H:=jL H;obtain⟨gD,H⟩:=H
 obtain⟨jr,ed⟩:=ky ((bR ++ bv):List (S27))
 first|replace H:=kz ed H|rw [<- ed.out] at H
 obtain rfl:=oJ H
 go_enter Tryz.func90,Tryz.ntmps90
 go_wp2_with (first|((with_reducible refine jd 2 rfl ?_);refine jX _ 92 ?_;intro bK hg lK hbox hb;have ai:=aM hbox;have gq:=kG hg;replace HB:=kH hb;clear hb hbox hg;have jv:=jz8 ai)|((with_reducible refine jc 89 11 rfl rfl ?_);refine jG Tryz.func89 #[.agg #[.int .i64 af,.int .i64 ag,.slice aI ae.length aJ],.int .i64 4] ?_;refine (SaJ.calls k af ag _ _ ae 4 aC _ ?au ?av A3.out).mono ?_;(case au=>exact kC (Kd.C_below bg.out HB.out));(case av=>exact bi.out);rintro e lL ⟨iy,rfl,ho0,hb⟩;refine⟨_,rfl,?_⟩;have aQ:=kL ho0;replace ai:=kB ai hb;replace HB:=kH hb;clear hb;(try clear ho0);have jw:=jz8 ai;obtain⟨iD,iE,iF⟩:=Kd.R_slice aQ.out;subst iF)|((with_reducible refine jc 72 19 rfl rfl ?_);refine jG Tryz.func72 #[.slice aK ah.length aN,.int .i64 (wrap64 ((wrap64 (a1+(aC.length:Int)))+1))] ?_;refine (aD k (by omega) _ _ ah (wrap64 ((wrap64 (a1+(aC.length:Int)))+1)) az _ ?au ?av A4.out).mono ?_;(case au=>exact kC (Kd.C_below bI.out HB.out));(case av=>exact bJ.out);rintro e lM ⟨iB,rfl,ho0,hb⟩;refine⟨_,rfl,?_⟩;have aH:=aM (Kd.R_lower (Kd.R_new' ho0 (Kd.R_lt (qR aQ))) (below_size qB));replace aQ:=kO aQ ho0 hb;replace ai:=kB ai hb;replace HB:=kH hb;clear hb;(try clear ho0);obtain⟨bW,bX,iG⟩:=Kd.R_slice aH.out;subst iG;have iH:=jz8 ai)|((with_reducible refine jc 72 44 rfl rfl ?_);refine jG Tryz.func72 #[.slice aV aj.length aW,.int .i64 (wrap64 ((wrap64 ((wrap64 ((wrap64 (a1+(aC.length:Int)))+1))+(az.length:Int)))+1))] ?_;refine (aD k (by omega) _ _ aj (wrap64 ((wrap64 ((wrap64 ((wrap64 (a1+(aC.length:Int)))+1))+(az.length:Int)))+1)) bv _ ?au ?av jo.out).mono ?_;(case au=>exact kC (Kd.C_below bU.out HB.out));(case av=>exact bV.out);rintro e jy ⟨eY,rfl,ho0,hb⟩;refine⟨_,rfl,?_⟩;have bn:=aM (Kd.R_lower (Kd.R_new' (Kd.R_new' ho0 (Kd.R_lt (qR aQ))) (Kd.R_lt (qR aH))) (below_size qB));replace aQ:=kO aQ ho0 hb;replace aH:=kO aH ho0 hb;replace ai:=kB ai hb;replace HB:=kH hb;clear hb;(try clear ho0))|((with_reducible refine gate_builtin (b:=.append) (xs:=#[.tmp 45,.tmp 49]) rfl ?_);at_builtin;refine Kd.R_append k27 (w0:=w) w.heap.size rfl (.tmp 45) (.tmp 49) 23 27 (.agg #[(.int .i64 0),(.int .i64 0),(.int .i64 0),(.int .i64 0),(.int .i64 0)]) 40 rfl Tryz.underlying23 info27 rfl (by decide) (by omega) (.slice iD aC.length iE) aC (⟨5,0,4,0,wrap64 ((wrap64 ((wrap64 ((wrap64 (a1+(aC.length:Int)))+1))+(az.length:Int)))+1)⟩:S27) [.int .i64 5,.int .i64 0,.int .i64 4,.int .i64 0,.int .i64 (wrap64 ((wrap64 ((wrap64 ((wrap64 (a1+(aC.length:Int)))+1))+(az.length:Int)))+1))] (fun k_=>some k_≠(.slice bW az.length bX:Value).ownBlock/\some k_≠(eY:Value).ownBlock) (fun _=>False) rfl rfl ?aP (fun _ hk=>hk.elim) ?aF ?aO ?aB ?aS ?aL ?_;(case aP=>exact k27_mkM _ _ _ (⟨5,0,4,0,wrap64 ((wrap64 ((wrap64 ((wrap64 (a1+(aC.length:Int)))+1))+(az.length:Int)))+1)⟩:S27));(case aB=>exact qB);(case aF=>exact (fun k_ hk=>⟨Kd.fresh' (Kd.R_lt (qR aH)) k_ hk,Kd.fresh' (Kd.R_lt (qR bn)) k_ hk⟩));(case aO=>exact (by (with_reducible repeat (first|apply Kd.R_alloc|apply Kd.R_drewN|apply Kd.R_drew));exact Kd.R_mono aQ.out (fun _ hk=>⟨hk.1.2,hk.2⟩)));(case aS=>exact (below_size qB));(case aL=>have:=dX.out;omega);intro iI w32 ho hb hg hat;rw [<- dY.out] at ho;have ek:=aM ho;replace ai:=aM (blk_grown (g:=bK) (o:=.cells #[.int .i64 aA,.int .i64 ax,.int .i64 ay,.int .i64 af,.int .i64 ag,.slice aI ae.length aJ,.slice aK ah.length aN,.slice aV aj.length aW] 92 (0,0)) (qK ai) hg (Kd.R_ne aQ.out ai.out (by decide)));replace aH:=aM (Kd.R_after (ok:=(fun k_=>some k_≠(eY:Value).ownBlock)) (by (with_reducible repeat (first|apply Kd.R_alloc|apply Kd.R_drewN|apply Kd.R_drew));exact Kd.R_mono aH.out (fun _ hk=>⟨hk.2,hk.1.2⟩)) hg hat);replace bn:=aM (Kd.R_after (ok:=(fun k_=>some k_≠(.slice bW az.length bX:Value).ownBlock)) (by (with_reducible repeat (first|apply Kd.R_alloc|apply Kd.R_drewN|apply Kd.R_drew));exact Kd.R_mono bn.out (fun _ hk=>⟨hk.2,hk.1.2⟩)) hg hat);replace HB:=aM hb;clear aQ;clear ho hb hg hat)|((with_reducible refine gate_builtin (b:=.append) (xs:=#[.tmp 51,.tmp 52]) rfl ?_);at_builtin;refine Kd.R_append_rows k27 (w0:=w) w.heap.size rfl (.tmp 51) (.tmp 52) 23 27 (.agg #[(.int .i64 0),(.int .i64 0),(.int .i64 0),(.int .i64 0),(.int .i64 0)]) 40 rfl Tryz.underlying23 info27 rfl (by decide) (by omega) iI bP az _ _ _ (fun k_=>some k_≠(.slice bW az.length bX:Value).ownBlock/\some k_≠(eY:Value).ownBlock) (fun _=>False) rfl rfl ?aO ?aR (fun _ _ h=>h) (fun _ h=>h.elim) ?aF ?aB ?aS ?aL ?_;(case aR=>exact kC (Kd.R_reads' aH.out).2.2);(case aB=>exact qB);(case aF=>exact (fun k_ hk=>⟨Kd.fresh' (Kd.R_lt (qR aH)) k_ hk,Kd.fresh' (Kd.R_lt (qR bn)) k_ hk⟩));(case aO=>exact (qR ek));(case aS=>exact (below_size qB));(case aL=>have:=gz.out;omega);intro iJ lN ho hb hg hat;rw [<- dZ.out] at ho;have eu:=aM ho;replace ai:=aM (blk_grown (g:=bK) (o:=.cells #[.int .i64 aA,.int .i64 ax,.int .i64 ay,.int .i64 af,.int .i64 ag,.slice aI ae.length aJ,.slice aK ah.length aN,.slice aV aj.length aW] 92 (0,0)) (qK ai) hg (Kd.R_ne ek.out ai.out (by decide)));replace aH:=aM (Kd.R_after (ok:=(fun k_=>some k_≠(eY:Value).ownBlock)) (qR aH) hg hat);replace bn:=aM (Kd.R_after (ok:=(fun k_=>some k_≠(.slice bW az.length bX:Value).ownBlock)) (qR bn) hg hat);replace HB:=aM hb;clear ek;clear ho hb hg hat;obtain⟨eZ,fe,iK⟩:=Kd.R_slice bn.out;subst iK)|((with_reducible refine gate_builtin (b:=.append) (xs:=#[.tmp 54,.tmp 61]) rfl ?_);at_builtin;refine Kd.R_append k27 (w0:=w) w.heap.size rfl (.tmp 54) (.tmp 61) 23 27 (.agg #[(.int .i64 0),(.int .i64 0),(.int .i64 0),(.int .i64 0),(.int .i64 0)]) 40 rfl Tryz.underlying23 info27 rfl (by decide) (by omega) iJ bQ (⟨4,0,0,0,wrap64 ((wrap64 ((wrap64 ((wrap64 ((wrap64 (a1+(aC.length:Int)))+1))+(az.length:Int)))+1))+(bv.length:Int))⟩:S27) [.int .i64 4,.int .i64 0,.int .i64 0,.int .i64 0,.int .i64 (wrap64 ((wrap64 ((wrap64 ((wrap64 ((wrap64 (a1+(aC.length:Int)))+1))+(az.length:Int)))+1))+(bv.length:Int)))] (fun k_=>some k_≠(.slice bW az.length bX:Value).ownBlock/\some k_≠(.slice eZ bv.length fe:Value).ownBlock) (fun _=>False) rfl rfl ?aP (fun _ hk=>hk.elim) ?aF ?aO ?aB ?aS ?aL ?_;(case aP=>exact k27_mkM _ _ _ (⟨4,0,0,0,wrap64 ((wrap64 ((wrap64 ((wrap64 ((wrap64 (a1+(aC.length:Int)))+1))+(az.length:Int)))+1))+(bv.length:Int))⟩:S27));(case aB=>exact qB);(case aF=>exact (fun k_ hk=>⟨Kd.fresh' (Kd.R_lt (qR aH)) k_ hk,Kd.fresh' (Kd.R_lt (qR bn)) k_ hk⟩));(case aO=>exact (qR eu));(case aS=>exact (below_size qB));(case aL=>have:=gB.out;omega);intro iL lQ ho hb hg hat;rw [<- d9.out] at ho;have eB:=aM ho;replace ai:=aM (blk_grown (g:=bK) (o:=.cells #[.int .i64 aA,.int .i64 ax,.int .i64 ay,.int .i64 af,.int .i64 ag,.slice aI ae.length aJ,.slice aK ah.length aN,.slice aV aj.length aW] 92 (0,0)) (qK ai) hg (Kd.R_ne eu.out ai.out (by decide)));replace aH:=aM (Kd.R_after (ok:=(fun k_=>some k_≠(.slice eZ bv.length fe:Value).ownBlock)) (qR aH) hg hat);replace bn:=aM (Kd.R_after (ok:=(fun k_=>some k_≠(.slice bW az.length bX:Value).ownBlock)) (qR bn) hg hat);replace HB:=aM hb;clear eu;clear ho hb hg hat)|((with_reducible refine gate_builtin (b:=.append) (xs:=#[.tmp 63,.tmp 64]) rfl ?_);at_builtin;refine Kd.R_append_rows k27 (w0:=w) w.heap.size rfl (.tmp 63) (.tmp 64) 23 27 (.agg #[(.int .i64 0),(.int .i64 0),(.int .i64 0),(.int .i64 0),(.int .i64 0)]) 40 rfl Tryz.underlying23 info27 rfl (by decide) (by omega) iL bR bv _ _ _ (fun k_=>some k_≠(.slice bW az.length bX:Value).ownBlock/\some k_≠(.slice eZ bv.length fe:Value).ownBlock) (fun _=>False) rfl rfl ?aO ?aR (fun _ _ h=>h) (fun _ h=>h.elim) ?aF ?aB ?aS ?aL ?_;(case aR=>exact kC (Kd.R_reads' bn.out).2.2);(case aB=>exact qB);(case aF=>exact (fun k_ hk=>⟨Kd.fresh' (Kd.R_lt (qR aH)) k_ hk,Kd.fresh' (Kd.R_lt (qR bn)) k_ hk⟩));(case aO=>exact (qR eB));(case aS=>exact (below_size qB));(case aL=>have:=gD.out;omega);intro jA jH ho hb hg hat;rw [<- ed.out] at ho;have gF:=aM ho;replace ai:=aM (blk_grown (g:=bK) (o:=.cells #[.int .i64 aA,.int .i64 ax,.int .i64 ay,.int .i64 af,.int .i64 ag,.slice aI ae.length aJ,.slice aK ah.length aN,.slice aV aj.length aW] 92 (0,0)) (qK ai) hg (Kd.R_ne eB.out ai.out (by decide)));replace aH:=aM (Kd.R_after (ok:=(fun k_=>some k_≠(.slice eZ bv.length fe:Value).ownBlock)) (qR aH) hg hat);replace bn:=aM (Kd.R_after (ok:=(fun k_=>some k_≠(.slice bW az.length bX:Value).ownBlock)) (qR bn) hg hat);replace HB:=aM hb;clear eB;clear ho hb hg hat))
 go_ret
 exact⟨_,qW,by (with_reducible repeat (first|apply Kd.R_alloc|apply Kd.R_drewN|apply Kd.R_drew));exact Kd.R_mono gF.out (fun _ hk=>trivial),qB⟩
theorem SaN.step (k:Nat) (aD:∀ m_,m_ < k->SaL.stmt m_) (aX:∀ m_,m_ < k->SaM.stmt m_) (bq:∀ m_,m_ < k->SaK.stmt m_) (ih:∀ m_,m_ < k->SaN.stmt m_):SaN.stmt k:=by
 intro aA ax ay af ag aI aJ ae aK aN ah aV aW aj a1 r w bA bB bC bD bE bF h
 cases k with
 | zero=>exact absurd h (by simp [SaN.f])
 | succ k =>
 simp only [SaN.f] at h
 have fC:=Tryz.underlying92
 have gm:=Tryz.underlying90
 have gp:=Tryz.underlying27
 have bg:=aM bA
 have bi:=aM bB
 clear bA bB
 have bI:=aM bC
 have bJ:=aM bD
 clear bC bD
 have bU:=aM bE
 have bV:=aM bF
 clear bE bF
 have HB:=aM (Below.refl w.heap.size w)
 have H:((SaJ.f k af ag ae 4).bind fun bu=>((SaL.f k ah (wrap64 ((wrap64 (a1+(bu.length:Int)))+1))).bind fun bz=>(if bu.length < 3518437208883 then ((some (bu ++ [(⟨5,0,4,0,wrap64 ((wrap64 ((wrap64 ((wrap64 (a1+(bu.length:Int)))+1))+(bz.length:Int)))+1)⟩:S27)]:List (S27))).bind fun bS=>(if bS.length+bz.length < 3518437208883 then ((some (bS ++ bz:List (S27))).bind fun bT=>(if bT.length < 3518437208883 then (some (bT ++ [(⟨4,0,0,0,a1⟩:S27)])) else (none))) else (none))) else (none))))=some r:=h
 clear h
 obtain⟨bu,A3,H⟩:=qE H
 try dsimp only at H
 obtain⟨bz,A4,H⟩:=qE H
 try dsimp only at H
 replace H:=jL H;obtain⟨iM,H⟩:=H
 obtain⟨bS,eD⟩:=ky ((bu ++ [(⟨5,0,4,0,wrap64 ((wrap64 ((wrap64 ((wrap64 (a1+(bu.length:Int)))+1))+(bz.length:Int)))+1)⟩:S27)]):List (S27))
 first|replace H:=kz eD H|rw [<- eD.out] at H
 replace H:=jL H;obtain⟨fE,H⟩:=H
 obtain⟨bT,eF⟩:=ky ((bS ++ bz):List (S27))
 first|replace H:=kz eF H|rw [<- eF.out] at H
 replace H:=jL H;obtain⟨fF,H⟩:=H
 obtain⟨jK,eG⟩:=ky ((bT ++ [(⟨4,0,0,0,a1⟩:S27)]):List (S27))
 first|replace H:=kz eG H|rw [<- eG.out] at H
 obtain rfl:=oJ H
 go_enter Tryz.func91,Tryz.ntmps91
 go_wp2_with (first|((with_reducible refine jd 2 rfl ?_);refine jX _ 92 ?_;intro eH hg w8 hbox hb;have aY:=aM hbox;have jf:=kG hg;replace HB:=kH hb;clear hb hbox hg;have iY:=jz8 aY)|((with_reducible refine jc 89 9 rfl rfl ?_);refine jG Tryz.func89 #[.agg #[.int .i64 af,.int .i64 ag,.slice aI ae.length aJ],.int .i64 4] ?_;refine (SaJ.calls k af ag _ _ ae 4 bu _ ?au ?av A3.out).mono ?_;(case au=>exact kC (Kd.C_below bg.out HB.out));(case av=>exact bi.out);rintro e iZ ⟨jM,rfl,ho0,hb⟩;refine⟨_,rfl,?_⟩;have bL:=kL ho0;replace aY:=kB aY hb;replace HB:=kH hb;clear hb;(try clear ho0);have iA:=jz8 aY;obtain⟨fG,fH,fI⟩:=Kd.R_slice bL.out;subst fI)|((with_reducible refine jc 72 17 rfl rfl ?_);refine jG Tryz.func72 #[.slice aK ah.length aN,.int .i64 (wrap64 ((wrap64 (a1+(bu.length:Int)))+1))] ?_;refine (aD k (by omega) _ _ ah (wrap64 ((wrap64 (a1+(bu.length:Int)))+1)) bz _ ?au ?av A4.out).mono ?_;(case au=>exact kC (Kd.C_below bI.out HB.out));(case av=>exact bJ.out);rintro e ja ⟨jN,rfl,ho0,hb⟩;refine⟨_,rfl,?_⟩;have bG:=aM (Kd.R_lower (Kd.R_new' ho0 (Kd.R_lt (qR bL))) (below_size qB));replace bL:=kO bL ho0 hb;replace aY:=kB aY hb;replace HB:=kH hb;clear hb;(try clear ho0);obtain⟨dM,dN,fJ⟩:=Kd.R_slice bG.out;subst fJ)|((with_reducible refine gate_builtin (b:=.append) (xs:=#[.tmp 18,.tmp 29]) rfl ?_);at_builtin;refine Kd.R_append k27 (w0:=w) w.heap.size rfl (.tmp 18) (.tmp 29) 23 27 (.agg #[(.int .i64 0),(.int .i64 0),(.int .i64 0),(.int .i64 0),(.int .i64 0)]) 40 rfl Tryz.underlying23 info27 rfl (by decide) (by omega) (.slice fG bu.length fH) bu (⟨5,0,4,0,wrap64 ((wrap64 ((wrap64 ((wrap64 (a1+(bu.length:Int)))+1))+(bz.length:Int)))+1)⟩:S27) [.int .i64 5,.int .i64 0,.int .i64 4,.int .i64 0,.int .i64 (wrap64 ((wrap64 ((wrap64 ((wrap64 (a1+(bu.length:Int)))+1))+(bz.length:Int)))+1))] (fun k_=>some k_≠(.slice dM bz.length dN:Value).ownBlock) (fun _=>False) rfl rfl ?aP (fun _ hk=>hk.elim) ?aF ?aO ?aB ?aS ?aL ?_;(case aP=>exact k27_mkM _ _ _ (⟨5,0,4,0,wrap64 ((wrap64 ((wrap64 ((wrap64 (a1+(bu.length:Int)))+1))+(bz.length:Int)))+1)⟩:S27));(case aB=>exact qB);(case aF=>exact (fun k_ hk=>Kd.fresh' (Kd.R_lt (qR bG)) k_ hk));(case aO=>exact (by (with_reducible repeat (first|apply Kd.R_alloc|apply Kd.R_drewN|apply Kd.R_drew));exact Kd.R_mono bL.out (fun _ hk=>hk.2)));(case aS=>exact (below_size qB));(case aL=>have:=iM.out;omega);intro iN jO ho hb hg hat;rw [<- eD.out] at ho;have eO:=aM ho;replace aY:=aM (blk_grown (g:=eH) (o:=.cells #[.int .i64 aA,.int .i64 ax,.int .i64 ay,.int .i64 af,.int .i64 ag,.slice aI ae.length aJ,.slice aK ah.length aN,.slice aV aj.length aW] 92 (0,0)) (qK aY) hg (Kd.R_ne bL.out aY.out (by decide)));replace bG:=aM (Kd.R_after (ok:=(fun _=>True)) (qR bG) hg hat);replace HB:=aM hb;clear bL;clear ho hb hg hat)|((with_reducible refine gate_builtin (b:=.append) (xs:=#[.tmp 31,.tmp 32]) rfl ?_);at_builtin;refine Kd.R_append_rows k27 (w0:=w) w.heap.size rfl (.tmp 31) (.tmp 32) 23 27 (.agg #[(.int .i64 0),(.int .i64 0),(.int .i64 0),(.int .i64 0),(.int .i64 0)]) 40 rfl Tryz.underlying23 info27 rfl (by decide) (by omega) iN bS bz _ _ _ (fun k_=>some k_≠(.slice dM bz.length dN:Value).ownBlock) (fun _=>False) rfl rfl ?aO ?aR (fun _ _ h=>h) (fun _ h=>h.elim) ?aF ?aB ?aS ?aL ?_;(case aR=>exact kC (Kd.R_reads' bG.out).2.2);(case aB=>exact qB);(case aF=>exact (fun k_ hk=>Kd.fresh' (Kd.R_lt (qR bG)) k_ hk));(case aO=>exact (qR eO));(case aS=>exact (below_size qB));(case aL=>have:=fE.out;omega);intro iO w16 ho hb hg hat;rw [<- eF.out] at ho;have eP:=aM ho;replace aY:=aM (blk_grown (g:=eH) (o:=.cells #[.int .i64 aA,.int .i64 ax,.int .i64 ay,.int .i64 af,.int .i64 ag,.slice aI ae.length aJ,.slice aK ah.length aN,.slice aV aj.length aW] 92 (0,0)) (qK aY) hg (Kd.R_ne eO.out aY.out (by decide)));replace bG:=aM (Kd.R_after (ok:=(fun _=>True)) (qR bG) hg hat);replace HB:=aM hb;clear eO;clear ho hb hg hat)|((with_reducible refine gate_builtin (b:=.append) (xs:=#[.tmp 34,.tmp 37]) rfl ?_);at_builtin;refine Kd.R_append k27 (w0:=w) w.heap.size rfl (.tmp 34) (.tmp 37) 23 27 (.agg #[(.int .i64 0),(.int .i64 0),(.int .i64 0),(.int .i64 0),(.int .i64 0)]) 40 rfl Tryz.underlying23 info27 rfl (by decide) (by omega) iO bT (⟨4,0,0,0,a1⟩:S27) [.int .i64 4,.int .i64 0,.int .i64 0,.int .i64 0,.int .i64 a1] (fun k_=>some k_≠(.slice dM bz.length dN:Value).ownBlock) (fun _=>False) rfl rfl ?aP (fun _ hk=>hk.elim) ?aF ?aO ?aB ?aS ?aL ?_;(case aP=>exact k27_mkM _ _ _ (⟨4,0,0,0,a1⟩:S27));(case aB=>exact qB);(case aF=>exact (fun k_ hk=>Kd.fresh' (Kd.R_lt (qR bG)) k_ hk));(case aO=>exact (qR eP));(case aS=>exact (below_size qB));(case aL=>have:=fF.out;omega);intro jQ je ho hb hg hat;rw [<- eG.out] at ho;have gG:=aM ho;replace aY:=aM (blk_grown (g:=eH) (o:=.cells #[.int .i64 aA,.int .i64 ax,.int .i64 ay,.int .i64 af,.int .i64 ag,.slice aI ae.length aJ,.slice aK ah.length aN,.slice aV aj.length aW] 92 (0,0)) (qK aY) hg (Kd.R_ne eP.out aY.out (by decide)));replace bG:=aM (Kd.R_after (ok:=(fun _=>True)) (qR bG) hg hat);replace HB:=aM hb;clear eP;clear ho hb hg hat))
 go_ret
 exact⟨_,qW,by (with_reducible repeat (first|apply Kd.R_alloc|apply Kd.R_drewN|apply Kd.R_drew));exact Kd.R_mono gG.out (fun _ hk=>trivial),qB⟩
theorem SaM.step (k:Nat) (aD:∀ m_,m_ < k->SaL.stmt m_) (ih:∀ m_,m_ < k->SaM.stmt m_) (bq:∀ m_,m_ < k->SaK.stmt m_) (aU:∀ m_,m_ < k->SaN.stmt m_):SaM.stmt k:=by
 intro aA ax ay af ag aI aJ ae aK aN ah aV aW aj a1 r w bA bB bC bD bE bF h
 cases k with
 | zero=>exact absurd h (by simp [SaM.f])
 | succ k =>
 simp only [SaM.f] at h
 have fC:=Tryz.underlying92
 have gm:=Tryz.underlying90
 have gp:=Tryz.underlying27
 have bg:=aM bA
 have bi:=aM bB
 clear bA bB
 have bI:=aM bC
 have bJ:=aM bD
 clear bC bD
 have bU:=aM bE
 have bV:=aM bF
 clear bE bF
 have HB:=aM (Below.refl w.heap.size w)
 have H:((SaJ.f k af ag ae 4).bind fun aT=>(if aA=2 then ((SaK.f k aA ax ay af ag ae ah aj a1).bind fun dQ=>(some dQ)) else (if aA=3 then ((SaN.f k aA ax ay af ag ae ah aj a1).bind fun dR=>(some dR)) else (if aA=1 then (if aT.length < 3518437208883 then (some (aT ++ [(⟨2,ax,4,0,0⟩:S27)])) else (none)) else (if aA=4 then (if aT.length < 3518437208883 then (some (aT ++ [(⟨6,0,4,0,ay⟩:S27)])) else (none)) else (if aA=7 then (if aT.length < 3518437208883 then (some (aT ++ [(⟨9,0,4,0,0⟩:S27)])) else (none)) else (if aA=5 then (some (([(⟨7,ax,0,0,ay⟩:S27)]:List (S27)))) else (some (([(⟨8,0,0,0,0⟩:S27)]:List (S27)))))))))))=some r:=h
 clear h
 obtain⟨aT,A3,H⟩:=qE H
 try dsimp only at H
 replace H:=jE H;rcases H with ⟨iP,iQ,H⟩ | ⟨c4,iP,iQ,H⟩
 ·obtain⟨dQ,A5,H⟩:=qE H
  try dsimp only at H
  obtain rfl:=oJ H
  go_enter Tryz.func81,Tryz.ntmps81
  go_wp2_with (first|((with_reducible refine jd 2 rfl ?_);refine jX _ 92 ?_;intro bH hg w6 hbox hb;have aa:=aM hbox;have bM:=kG hg;replace HB:=kH hb;clear hb hbox hg;have lS:=jz8 aa)|((with_reducible refine jc 89 8 rfl rfl ?_);refine jG Tryz.func89 #[.agg #[.int .i64 af,.int .i64 ag,.slice aI ae.length aJ],.int .i64 4] ?_;refine (SaJ.calls k af ag _ _ ae 4 aT _ ?au ?av A3.out).mono ?_;(case au=>exact kC (Kd.C_below bg.out HB.out));(case av=>exact bi.out);rintro e w8 ⟨bN,rfl,ho0,hb⟩;refine⟨_,rfl,?_⟩;have aG:=kL ho0;replace aa:=kB aa hb;replace HB:=kH hb;clear hb;(try clear ho0);have iY:=jz8 aa)|((with_reducible refine jc 90 15 rfl rfl ?_);refine jG Tryz.func90 #[.agg #[.int .i64 aA,.int .i64 ax,.int .i64 ay,.int .i64 af,.int .i64 ag,.slice aI ae.length aJ,.slice aK ah.length aN,.slice aV aj.length aW],.int .i64 a1] ?_;refine (bq k (by omega) aA ax ay af ag _ _ ae _ _ ah _ _ aj a1 dQ _ ?au ?av ?bY ?bZ ?cz ?cB A5.out).mono ?_;(case au=>exact kC (Kd.C_below bg.out HB.out));(case av=>exact bi.out);(case bY=>exact kC (Kd.C_below bI.out HB.out));(case bZ=>exact bJ.out);(case cz=>exact kC (Kd.C_below bU.out HB.out));(case cB=>exact bV.out);rintro e iZ ⟨jS,rfl,ho0,hb⟩;refine⟨_,rfl,?_⟩;have gH:=aM (Kd.R_lower (Kd.R_new' ho0 (Kd.R_lt (qR aG))) (below_size qB));replace aG:=kO aG ho0 hb;replace aa:=kB aa hb;replace HB:=kH hb;clear hb;(try clear ho0)))
  go_ret
  exact⟨_,qW,by (with_reducible repeat (first|apply Kd.R_alloc|apply Kd.R_drewN|apply Kd.R_drew));exact Kd.R_mono gH.out (fun _ hk=>trivial),qB⟩
 replace H:=jE H;rcases H with ⟨gI,gJ,H⟩ | ⟨c11,gI,gJ,H⟩
 ·obtain⟨dR,jT,H⟩:=qE H
  try dsimp only at H
  obtain rfl:=oJ H
  go_enter Tryz.func81,Tryz.ntmps81
  go_wp2_with (first|((with_reducible refine jd 2 rfl ?_);refine jX _ 92 ?_;intro bH hg ja hbox hb;have aa:=aM hbox;have bM:=kG hg;replace HB:=kH hb;clear hb hbox hg;have jW:=jz8 aa)|((with_reducible refine jc 89 8 rfl rfl ?_);refine jG Tryz.func89 #[.agg #[.int .i64 af,.int .i64 ag,.slice aI ae.length aJ],.int .i64 4] ?_;refine (SaJ.calls k af ag _ _ ae 4 aT _ ?au ?av A3.out).mono ?_;(case au=>exact kC (Kd.C_below bg.out HB.out));(case av=>exact bi.out);rintro e jO ⟨bN,rfl,ho0,hb⟩;refine⟨_,rfl,?_⟩;have aG:=kL ho0;replace aa:=kB aa hb;replace HB:=kH hb;clear hb;(try clear ho0);have jY:=jz8 aa)|((with_reducible refine jc 91 20 rfl rfl ?_);refine jG Tryz.func91 #[.agg #[.int .i64 aA,.int .i64 ax,.int .i64 ay,.int .i64 af,.int .i64 ag,.slice aI ae.length aJ,.slice aK ah.length aN,.slice aV aj.length aW],.int .i64 a1] ?_;refine (aU k (by omega) aA ax ay af ag _ _ ae _ _ ah _ _ aj a1 dR _ ?au ?av ?bY ?bZ ?cz ?cB jT.out).mono ?_;(case au=>exact kC (Kd.C_below bg.out HB.out));(case av=>exact bi.out);(case bY=>exact kC (Kd.C_below bI.out HB.out));(case bZ=>exact bJ.out);(case cz=>exact kC (Kd.C_below bU.out HB.out));(case cB=>exact bV.out);rintro e je ⟨jZ,rfl,ho0,hb⟩;refine⟨_,rfl,?_⟩;have gK:=aM (Kd.R_lower (Kd.R_new' ho0 (Kd.R_lt (qR aG))) (below_size qB));replace aG:=kO aG ho0 hb;replace aa:=kB aa hb;replace HB:=kH hb;clear hb;(try clear ho0)))
  go_ret
  exact⟨_,qW,by (with_reducible repeat (first|apply Kd.R_alloc|apply Kd.R_drewN|apply Kd.R_drew));exact Kd.R_mono gK.out (fun _ hk=>trivial),qB⟩
 replace H:=jE H;rcases H with ⟨gL,gM,H⟩ | ⟨c18,gL,gM,H⟩
 ·replace H:=jL H;obtain⟨dX,H⟩:=H
  obtain⟨j4,eQ⟩:=ky ((aT ++ [(⟨2,ax,4,0,0⟩:S27)]):List (S27))
  first|replace H:=kz eQ H|rw [<- eQ.out] at H
  obtain rfl:=oJ H
  go_enter Tryz.func81,Tryz.ntmps81
  go_wp2_with (first|((with_reducible refine jd 2 rfl ?_);refine jX _ 92 ?_;intro bH hg lT hbox hb;have aa:=aM hbox;have bM:=kG hg;replace HB:=kH hb;clear hb hbox hg;have j5:=jz8 aa)|((with_reducible refine jc 89 8 rfl rfl ?_);refine jG Tryz.func89 #[.agg #[.int .i64 af,.int .i64 ag,.slice aI ae.length aJ],.int .i64 4] ?_;refine (SaJ.calls k af ag _ _ ae 4 aT _ ?au ?av A3.out).mono ?_;(case au=>exact kC (Kd.C_below bg.out HB.out));(case av=>exact bi.out);rintro e lU ⟨bN,rfl,ho0,hb⟩;refine⟨_,rfl,?_⟩;have aG:=kL ho0;replace aa:=kB aa hb;replace HB:=kH hb;clear hb;(try clear ho0);have j6:=jz8 aa)|((with_reducible refine gate_builtin (b:=.append) (xs:=#[.tmp 23,.tmp 27]) rfl ?_);at_builtin;refine Kd.R_append k27 (w0:=w) w.heap.size rfl (.tmp 23) (.tmp 27) 23 27 (.agg #[(.int .i64 0),(.int .i64 0),(.int .i64 0),(.int .i64 0),(.int .i64 0)]) 40 rfl Tryz.underlying23 info27 rfl (by decide) (by omega) bN aT (⟨2,ax,4,0,0⟩:S27) [.int .i64 2,.int .i64 ax,.int .i64 4,.int .i64 0,.int .i64 0] (fun _=>True) (fun _=>False) rfl rfl ?aP (fun _ hk=>hk.elim) ?aF ?aO ?aB ?aS ?aL ?_;(case aP=>exact k27_mkM _ _ _ (⟨2,ax,4,0,0⟩:S27));(case aB=>exact qB);(case aF=>exact (fun _ _=>trivial));(case aO=>exact (qR aG));(case aS=>exact (below_size qB));(case aL=>have:=dX.out;omega);intro kg lV ho hb hg hat;rw [<- eQ.out] at ho;have gN:=aM ho;replace aa:=aM (blk_grown (g:=bH) (o:=.cells #[.int .i64 aA,.int .i64 ax,.int .i64 ay,.int .i64 af,.int .i64 ag,.slice aI ae.length aJ,.slice aK ah.length aN,.slice aV aj.length aW] 92 (0,0)) (qK aa) hg (Kd.R_ne aG.out aa.out (by decide)));replace HB:=aM hb;clear aG;clear ho hb hg hat))
  go_ret
  exact⟨_,qW,qR gN,qB⟩
 replace H:=jE H;rcases H with ⟨gP,gQ,H⟩ | ⟨lW,gP,gQ,H⟩
 ·replace H:=jL H;obtain⟨gT,H⟩:=H
  obtain⟨ko,eT⟩:=ky ((aT ++ [(⟨6,0,4,0,ay⟩:S27)]):List (S27))
  first|replace H:=kz eT H|rw [<- eT.out] at H
  obtain rfl:=oJ H
  go_enter Tryz.func81,Tryz.ntmps81
  go_wp2_with (first|((with_reducible refine jd 2 rfl ?_);refine jX _ 92 ?_;intro bH hg lX hbox hb;have aa:=aM hbox;have bM:=kG hg;replace HB:=kH hb;clear hb hbox hg;have kr:=jz8 aa)|((with_reducible refine jc 89 8 rfl rfl ?_);refine jG Tryz.func89 #[.agg #[.int .i64 af,.int .i64 ag,.slice aI ae.length aJ],.int .i64 4] ?_;refine (SaJ.calls k af ag _ _ ae 4 aT _ ?au ?av A3.out).mono ?_;(case au=>exact kC (Kd.C_below bg.out HB.out));(case av=>exact bi.out);rintro e lY ⟨bN,rfl,ho0,hb⟩;refine⟨_,rfl,?_⟩;have aG:=kL ho0;replace aa:=kB aa hb;replace HB:=kH hb;clear hb;(try clear ho0);have iH:=jz8 aa)|((with_reducible refine gate_builtin (b:=.append) (xs:=#[.tmp 31,.tmp 35]) rfl ?_);at_builtin;refine Kd.R_append k27 (w0:=w) w.heap.size rfl (.tmp 31) (.tmp 35) 23 27 (.agg #[(.int .i64 0),(.int .i64 0),(.int .i64 0),(.int .i64 0),(.int .i64 0)]) 40 rfl Tryz.underlying23 info27 rfl (by decide) (by omega) bN aT (⟨6,0,4,0,ay⟩:S27) [.int .i64 6,.int .i64 0,.int .i64 4,.int .i64 0,.int .i64 ay] (fun _=>True) (fun _=>False) rfl rfl ?aP (fun _ hk=>hk.elim) ?aF ?aO ?aB ?aS ?aL ?_;(case aP=>exact k27_mkM _ _ _ (⟨6,0,4,0,ay⟩:S27));(case aB=>exact qB);(case aF=>exact (fun _ _=>trivial));(case aO=>exact (qR aG));(case aS=>exact (below_size qB));(case aL=>have:=gT.out;omega);intro ku jy ho hb hg hat;rw [<- eT.out] at ho;have gU:=aM ho;replace aa:=aM (blk_grown (g:=bH) (o:=.cells #[.int .i64 aA,.int .i64 ax,.int .i64 ay,.int .i64 af,.int .i64 ag,.slice aI ae.length aJ,.slice aK ah.length aN,.slice aV aj.length aW] 92 (0,0)) (qK aa) hg (Kd.R_ne aG.out aa.out (by decide)));replace HB:=aM hb;clear aG;clear ho hb hg hat))
  go_ret
  exact⟨_,qW,qR gU,qB⟩
 replace H:=jE H;rcases H with ⟨gV,gW,H⟩ | ⟨c32,gV,gW,H⟩
 ·replace H:=jL H;obtain⟨gX,H⟩:=H
  obtain⟨kv,eU⟩:=ky ((aT ++ [(⟨9,0,4,0,0⟩:S27)]):List (S27))
  first|replace H:=kz eU H|rw [<- eU.out] at H
  obtain rfl:=oJ H
  go_enter Tryz.func81,Tryz.ntmps81
  go_wp2_with (first|((with_reducible refine jd 2 rfl ?_);refine jX _ 92 ?_;intro bH hg lZ hbox hb;have aa:=aM hbox;have bM:=kG hg;replace HB:=kH hb;clear hb hbox hg;have kw:=jz8 aa)|((with_reducible refine jc 89 8 rfl rfl ?_);refine jG Tryz.func89 #[.agg #[.int .i64 af,.int .i64 ag,.slice aI ae.length aJ],.int .i64 4] ?_;refine (SaJ.calls k af ag _ _ ae 4 aT _ ?au ?av A3.out).mono ?_;(case au=>exact kC (Kd.C_below bg.out HB.out));(case av=>exact bi.out);rintro e jH ⟨bN,rfl,ho0,hb⟩;refine⟨_,rfl,?_⟩;have aG:=kL ho0;replace aa:=kB aa hb;replace HB:=kH hb;clear hb;(try clear ho0);have kD:=jz8 aa)|((with_reducible refine gate_builtin (b:=.append) (xs:=#[.tmp 39,.tmp 41]) rfl ?_);at_builtin;refine Kd.R_append k27 (w0:=w) w.heap.size rfl (.tmp 39) (.tmp 41) 23 27 (.agg #[(.int .i64 0),(.int .i64 0),(.int .i64 0),(.int .i64 0),(.int .i64 0)]) 40 rfl Tryz.underlying23 info27 rfl (by decide) (by omega) bN aT (⟨9,0,4,0,0⟩:S27) [.int .i64 9,.int .i64 0,.int .i64 4,.int .i64 0,.int .i64 0] (fun _=>True) (fun _=>False) rfl rfl ?aP (fun _ hk=>hk.elim) ?aF ?aO ?aB ?aS ?aL ?_;(case aP=>exact k27_mkM _ _ _ (⟨9,0,4,0,0⟩:S27));(case aB=>exact qB);(case aF=>exact (fun _ _=>trivial));(case aO=>exact (qR aG));(case aS=>exact (below_size qB));(case aL=>have:=gX.out;omega);intro kE l8 ho hb hg hat;rw [<- eU.out] at ho;have gY:=aM ho;replace aa:=aM (blk_grown (g:=bH) (o:=.cells #[.int .i64 aA,.int .i64 ax,.int .i64 ay,.int .i64 af,.int .i64 ag,.slice aI ae.length aJ,.slice aK ah.length aN,.slice aV aj.length aW] 92 (0,0)) (qK aa) hg (Kd.R_ne aG.out aa.out (by decide)));replace HB:=aM hb;clear aG;clear ho hb hg hat))
  go_ret
  exact⟨_,qW,qR gY,qB⟩
 replace H:=jE H;rcases H with ⟨gZ,ib,H⟩ | ⟨l9,gZ,ib,H⟩
 ·obtain⟨kF,di⟩:=ky ((([(⟨7,ax,0,0,ay⟩:S27)]:List (S27))):List (S27))
  first|replace H:=kz di H|rw [<- di.out] at H
  obtain rfl:=oJ H
  go_enter Tryz.func81,Tryz.ntmps81
  go_wp2_with (first|((with_reducible refine jd 2 rfl ?_);refine jX _ 92 ?_;intro bH hg ma hbox hb;have aa:=aM hbox;have bM:=kG hg;replace HB:=kH hb;clear hb hbox hg;have kJ:=jz8 aa)|((with_reducible refine jc 89 8 rfl rfl ?_);refine jG Tryz.func89 #[.agg #[.int .i64 af,.int .i64 ag,.slice aI ae.length aJ],.int .i64 4] ?_;refine (SaJ.calls k af ag _ _ ae 4 aT _ ?au ?av A3.out).mono ?_;(case au=>exact kC (Kd.C_below bg.out HB.out));(case av=>exact bi.out);rintro e mf ⟨bN,rfl,ho0,hb⟩;refine⟨_,rfl,?_⟩;have aG:=kL ho0;replace aa:=kB aa hb;replace HB:=kH hb;clear hb;(try clear ho0);have kP:=jz8 aa)|((with_reducible refine jd 50 rfl ?_);refine jV k27 27 ([(⟨7,ax,0,0,ay⟩:S27)]:List (S27)) [.int .i64 7,.int .i64 ax,.int .i64 0,.int .i64 0,.int .i64 ay] (Reps.c5 (show Kd.M k27 _ _ _ (⟨7,ax,0,0,ay⟩:S27) [.int .i64 7,.int .i64 ax,.int .i64 0,.int .i64 0,.int .i64 ay] from (k27_mkM _ _ _ (⟨7,ax,0,0,ay⟩:S27) )) (Reps.none _ _)) ?_;intro kU mg dO hb;(first|rw [<- di.out] at dO|(simp only [Int.reduceToNat] at dO;rw [<- di.out] at dO));have ic:=aM (Kd.R_lower (Kd.R_new' dO (Kd.R_lt (qR aG))) (below_size qB));replace aG:=kO aG dO hb;replace aa:=kB aa hb;replace HB:=kH hb;clear hb dO))
  go_ret
  exact⟨_,qW,by (with_reducible repeat (first|apply Kd.R_alloc|apply Kd.R_drewN|apply Kd.R_drew));exact Kd.R_mono ic.out (fun _ hk=>trivial),qB⟩
 obtain⟨kV,dn⟩:=ky ((([(⟨8,0,0,0,0⟩:S27)]:List (S27))):List (S27))
 first|replace H:=kz dn H|rw [<- dn.out] at H
 obtain rfl:=oJ H
 go_enter Tryz.func81,Tryz.ntmps81
 go_wp2_with (first|((with_reducible refine jd 2 rfl ?_);refine jX _ 92 ?_;intro bH hg mh hbox hb;have aa:=aM hbox;have bM:=kG hg;replace HB:=kH hb;clear hb hbox hg;have kX:=jz8 aa)|((with_reducible refine jc 89 8 rfl rfl ?_);refine jG Tryz.func89 #[.agg #[.int .i64 af,.int .i64 ag,.slice aI ae.length aJ],.int .i64 4] ?_;refine (SaJ.calls k af ag _ _ ae 4 aT _ ?au ?av A3.out).mono ?_;(case au=>exact kC (Kd.C_below bg.out HB.out));(case av=>exact bi.out);rintro e mi ⟨bN,rfl,ho0,hb⟩;refine⟨_,rfl,?_⟩;have aG:=kL ho0;replace aa:=kB aa hb;replace HB:=kH hb;clear hb;(try clear ho0);have kY:=jz8 aa)|((with_reducible refine jd 52 rfl ?_);refine jV k27 27 ([(⟨8,0,0,0,0⟩:S27)]:List (S27)) [.int .i64 8,.int .i64 0,.int .i64 0,.int .i64 0,.int .i64 0] (Reps.c5 (show Kd.M k27 _ _ _ (⟨8,0,0,0,0⟩:S27) [.int .i64 8,.int .i64 0,.int .i64 0,.int .i64 0,.int .i64 0] from (k27_mkM _ _ _ (⟨8,0,0,0,0⟩:S27) )) (Reps.none _ _)) ?_;intro kZ mo dP hb;(first|rw [<- dn.out] at dP|(simp only [Int.reduceToNat] at dP;rw [<- dn.out] at dP));have ig:=aM (Kd.R_lower (Kd.R_new' dP (Kd.R_lt (qR aG))) (below_size qB));replace aG:=kO aG dP hb;replace aa:=kB aa hb;replace HB:=kH hb;clear hb dP))
 go_ret
 exact⟨_,qW,by (with_reducible repeat (first|apply Kd.R_alloc|apply Kd.R_drewN|apply Kd.R_drew));exact Kd.R_mono ig.out (fun _ hk=>trivial),qB⟩
theorem SaL.step (k:Nat) (ih:∀ m_,m_ < k->SaL.stmt m_) (aX:∀ m_,m_ < k->SaM.stmt m_) (bq:∀ m_,m_ < k->SaK.stmt m_) (aU:∀ m_,m_ < k->SaN.stmt m_):SaL.stmt k:=by
 intro A0 c0 l0 a1 r w hr0 hc0 h
 cases k with
 | zero=>exact absurd h (by simp [SaL.f])
 | succ k =>
 simp only [SaL.f] at h
 have fC:=Tryz.underlying92
 have lc:=aM hr0
 have mq:=aM hc0
 clear hr0 hc0
 have HB:=aM (Below.refl w.heap.size w)
 have H:(SaL.l0 k l0 a1 (([]:List (S27))) 0)=some r:=h
 clear h
 obtain⟨iR,dw⟩:=ky ((([]:List (S27))):List (S27))
 first|replace H:=kz dw H|rw [<- dw.out] at H
 have H':=aM H
 clear H
 go_enter Tryz.func72,Tryz.ntmps72
 go_wp2_with (first|((with_reducible refine jd 7 rfl ?_);refine jV k27 27 ([]:List (S27)) [] (Reps.none _ _) ?_;intro lg w3 ik hb;(first|rw [<- dw.out] at ik|(simp only [Int.reduceToNat] at ik;rw [<- dw.out] at ik));have il:=kL ik;replace HB:=kH hb;clear hb ik))
 go_loopg [5,6] k (fun kq v5 v6 w'=>∃ (cK:List (S27)) (aZ:Int),v6 = .int .i64 aZ/\Aside0 (SaL.l0 kq l0 a1 cK aZ=some r)/\Aside0 (kq<=k)/\Aside0 (Kd.R k27 27 w' w.heap.size (fun _=>True) v5 cK)/\Aside0 (Below w.heap.size w w'))
 case atStart=>exact⟨(iR),(0),qZ,H',⟨Nat.le_refl _⟩,⟨qR il⟩,⟨qB⟩⟩
 clear H'
 obtain⟨cK,aZ,rfl,HA,iT,dh,HB⟩:=hrel
 rcases gk with _|k1
 ·exact absurd HA.out (by simp [SaL.l0])
 have H:=HA.out
 clear HA
 simp only [SaL.l0] at H
 replace H:=jD H;rcases H with ⟨fD,H⟩ | ⟨fD,H⟩
 ·replace H:=jI H;obtain⟨lh,H⟩:=H
  obtain⟨df,A7,H⟩:=qE H
  try dsimp only at H
  replace H:=jL H;obtain⟨iU,H⟩:=H
  obtain⟨ll,eX⟩:=ky ((cK ++ df):List (S27))
  first|replace H:=kz eX H|rw [<- eX.out] at H
  have H':=aM H
  clear H
  have fK:0<=(aZ:Int):=qD
  have fM:aZ < (l0.length:Int):=qD
  obtain⟨jg,fO,fP,fQ,fT,fU,fV,e336,dx,dz,dA,dB,dC,dD,dE,dF,dG,dH,dI,dJ,dK,dL⟩:=at_T92 lc.out aZ fK fM
  cases e336
  replace dx:=kx HB dx
  replace dz:=kx HB dz
  replace dA:=kx HB dA
  replace dB:=kx HB dB
  replace dC:=kx HB dC
  replace dD:=kx HB dD
  replace dE:=kx HB dE
  replace dF:=kx HB dF
  have fo:=aM dH
  have fq:=aM dG
  clear dH dG
  have fu:=aM dJ
  have fw:=aM dI
  clear dJ dI
  have fA:=aM dL
  have fB:=aM dK
  clear dL dK
  replace fK:=eq_true fK
  replace fM:=eq_true fM
  obtain⟨lu,lw,lC⟩:=Kd.R_slice dh.out
  subst lC
  go_wp2_with (first|((with_reducible refine jc 81 23 rfl rfl ?_);refine jG Tryz.func81 #[.agg #[.int .i64 ((rd_T92 l0 aZ).f0),.int .i64 ((rd_T92 l0 aZ).f1),.int .i64 ((rd_T92 l0 aZ).f2),.int .i64 ((rd_T92 l0 aZ).f3.f0),.int .i64 ((rd_T92 l0 aZ).f3.f1),.slice fO ((rd_T92 l0 aZ).f3.f2).length fP,.slice fQ ((rd_T92 l0 aZ).f4).length fT,.slice fU ((rd_T92 l0 aZ).f5).length fV],.int .i64 (wrap64 (a1+(cK.length:Int)))] ?_;refine (aX k1 (by have:=iT.out;omega) ((rd_T92 l0 aZ).f0) ((rd_T92 l0 aZ).f1) ((rd_T92 l0 aZ).f2) ((rd_T92 l0 aZ).f3.f0) ((rd_T92 l0 aZ).f3.f1) _ _ ((rd_T92 l0 aZ).f3.f2) _ _ ((rd_T92 l0 aZ).f4) _ _ ((rd_T92 l0 aZ).f5) (wrap64 (a1+(cK.length:Int))) df _ ?au ?av ?bY ?bZ ?cz ?cB A7.out).mono ?_;(case au=>exact kC (Kd.C_below fo.out HB.out));(case av=>exact fq.out);(case bY=>exact kC (Kd.C_below fu.out HB.out));(case bZ=>exact fw.out);(case cz=>exact kC (Kd.C_below fA.out HB.out));(case cB=>exact fB.out);rintro e lD ⟨lF,rfl,fZ,hb⟩;refine⟨_,rfl,?_⟩;have cO:=aM (Kd.R_lower (Kd.R_new' fZ (Kd.R_lt (qR dh))) (below_size qB));replace dh:=kO dh fZ hb;replace HB:=kH hb;clear hb;(try clear fZ);obtain⟨iV,iW,iX⟩:=Kd.R_slice cO.out;subst iX)|((with_reducible refine gate_builtin (b:=.append) (xs:=#[.tmp 14,.tmp 23]) rfl ?_);at_builtin;refine Kd.R_append_rows k27 (w0:=w) w.heap.size rfl (.tmp 14) (.tmp 23) 23 27 (.agg #[(.int .i64 0),(.int .i64 0),(.int .i64 0),(.int .i64 0),(.int .i64 0)]) 40 rfl Tryz.underlying23 info27 rfl (by decide) (by omega) (.slice lu cK.length lw) cK df _ _ _ (fun k_=>some k_≠(.slice iV df.length iW:Value).ownBlock) (fun _=>False) rfl rfl ?aO ?aR (fun _ _ h=>h) (fun _ h=>h.elim) ?aF ?aB ?aS ?aL ?_;(case aR=>exact kC (Kd.R_reads' cO.out).2.2);(case aB=>exact qB);(case aF=>exact (fun k_ hk=>Kd.fresh' (Kd.R_lt (qR cO)) k_ hk));(case aO=>exact (by (with_reducible repeat (first|apply Kd.R_alloc|apply Kd.R_drewN|apply Kd.R_drew));exact Kd.R_mono dh.out (fun _ hk=>hk.2)));(case aS=>exact (below_size qB));(case aL=>have:=iU.out;omega);intro lG lH ho hb hg hat;rw [<- eX.out] at ho;have iq:=aM ho;replace cO:=aM (Kd.R_after (ok:=(fun _=>True)) (qR cO) hg hat);replace HB:=aM hb;clear dh;clear ho hb hg hat))
  go_roundg k1
  case measure=>have:=iT.out;omega
  exact⟨_,_,qZ,H',⟨by have:=iT.out;omega⟩,⟨by (with_reducible repeat (first|apply Kd.R_alloc|apply Kd.R_drewN|apply Kd.R_drew));exact Kd.R_mono iq.out (fun _ hk=>trivial)⟩,⟨qB⟩⟩
 obtain rfl:=oJ H
 go_wp2
 go_ret
 exact⟨_,qW,qR dh,qB⟩
theorem SaK.grp.calls (k:Nat):SaK.stmt k/\SaN.stmt k/\SaM.stmt k/\SaL.stmt k:=by
 induction k using Nat.strongRecOn with
 | _ k ih=>exact⟨SaK.step k (fun m_ h_=>(ih m_ h_).2.2.2) (fun m_ h_=>(ih m_ h_).2.2.1) (fun m_ h_=>(ih m_ h_).1) (fun m_ h_=>(ih m_ h_).2.1),SaN.step k (fun m_ h_=>(ih m_ h_).2.2.2) (fun m_ h_=>(ih m_ h_).2.2.1) (fun m_ h_=>(ih m_ h_).1) (fun m_ h_=>(ih m_ h_).2.1),SaM.step k (fun m_ h_=>(ih m_ h_).2.2.2) (fun m_ h_=>(ih m_ h_).2.2.1) (fun m_ h_=>(ih m_ h_).1) (fun m_ h_=>(ih m_ h_).2.1),SaL.step k (fun m_ h_=>(ih m_ h_).2.2.2) (fun m_ h_=>(ih m_ h_).2.2.1) (fun m_ h_=>(ih m_ h_).1) (fun m_ h_=>(ih m_ h_).2.1)⟩
theorem SaL.calls (k:Nat):SaL.stmt k:=(SaK.grp.calls k).2.2.2
def Sag.f (k:Nat) (l0:List (S92)):Option ((List (S27)) × Bool):=(Sax.f k l0).bind fun au=>(if au=true then ((SaL.f k l0 0).bind fun ag=>(if ag.length < 3518437208883 then (some ((ag ++ [(⟨10,0,0,0,0⟩:S27)]),true)) else (none))) else (some ((([]:List (S27))),false)))
theorem Sag.calls (k:Nat) (A0:Option Addr) (c0:Nat) (l0:List (S92)) (r1:List (S27)) (r2:Bool) (w:World) (hr0:Kd.C k92 w A0 l0.length l0) (hc0:l0.length<=c0) (h:Sag.f k l0=some (r1,r2)) :
  Calls Tryz.prog 62 #[.slice A0 l0.length c0] w fun e w'=>∃ aD:Value,e = .returned (.tuple #[aD,.bool r2])/\Kd.R k27 27 w' w.heap.size (fun _=>True) aD r1/\Below w.heap.size w w':=by
 have aG:=Tryz.underlying27
 have ay:=aM hr0
 have az:=aM hc0
 clear hr0 hc0
 have HB:=aM (Below.refl w.heap.size w)
 have H:=h;unfold Sag.f at H
 clear h
 obtain⟨au,A2,H⟩:=qE H
 try dsimp only at H
 replace H:=jB H;rcases H with ⟨rfl,H⟩ | ⟨rfl,H⟩
 ·obtain⟨ag,A4,H⟩:=qE H
  try dsimp only at H
  replace H:=jL H;obtain⟨aA,H⟩:=H
  obtain⟨aH,ah⟩:=ky ((ag ++ [(⟨10,0,0,0,0⟩:S27)]):List (S27))
  first|replace H:=kz ah H|rw [<- ah.out] at H
  obtain⟨rfl,rfl⟩:=oJ2 H
  go_enter Tryz.func62,Tryz.ntmps62
  go_wp2_with (first|((with_reducible refine jc 71 5 rfl rfl ?_);refine jG Tryz.func71 #[.slice A0 l0.length c0] ?_;refine (Sax.calls k _ _ l0 true _ ?aa ?ae A2.out).mono ?_;(case aa=>exact kC ay.out);(case ae=>exact az.out);rintro e w6 ⟨rfl,hb⟩;refine⟨_,rfl,?_⟩;replace HB:=kH hb;clear hb)|((with_reducible refine jc 72 9 rfl rfl ?_);refine jG Tryz.func72 #[.slice A0 l0.length c0,.int .i64 0] ?_;refine (SaL.calls k _ _ l0 0 ag _ ?aa ?ae A4.out).mono ?_;(case aa=>exact kC (Kd.C_below ay.out HB.out));(case ae=>exact az.out);rintro e w7 ⟨aC,rfl,ho0,hb⟩;refine⟨_,rfl,?_⟩;have aj:=kL ho0;replace HB:=kH hb;clear hb;(try clear ho0))|((with_reducible refine gate_builtin (b:=.append) (xs:=#[.tmp 9,.tmp 11]) rfl ?_);at_builtin;refine Kd.R_append k27 (w0:=w) w.heap.size rfl (.tmp 9) (.tmp 11) 23 27 (.agg #[(.int .i64 0),(.int .i64 0),(.int .i64 0),(.int .i64 0),(.int .i64 0)]) 40 rfl Tryz.underlying23 info27 rfl (by decide) (by omega) aC ag (⟨10,0,0,0,0⟩:S27) [.int .i64 10,.int .i64 0,.int .i64 0,.int .i64 0,.int .i64 0] (fun _=>True) (fun _=>False) rfl rfl ?aP (fun _ hk=>hk.elim) ?aF ?aO ?aB ?aS ?aL ?_;(case aP=>exact k27_mkM _ _ _ (⟨10,0,0,0,0⟩:S27));(case aB=>exact qB);(case aF=>exact (fun _ _=>trivial));(case aO=>exact (qR aj));(case aS=>exact (below_size qB));(case aL=>have:=aA.out;omega);intro aI w8 ho hb hg hat;rw [<- ah.out] at ho;have av:=aM ho;replace HB:=aM hb;clear aj;clear ho hb hg hat))
  go_ret2
  exact⟨_,qW,qR av,qB⟩
 obtain⟨aJ,af⟩:=ky ((([]:List (S27))):List (S27))
 first|replace H:=kz af H|rw [<- af.out] at H
 obtain⟨rfl,rfl⟩:=oJ2 H
 go_enter Tryz.func62,Tryz.ntmps62
 go_wp2_with (first|((with_reducible refine jc 71 5 rfl rfl ?_);refine jG Tryz.func71 #[.slice A0 l0.length c0] ?_;refine (Sax.calls k _ _ l0 false _ ?aa ?ae A2.out).mono ?_;(case aa=>exact kC ay.out);(case ae=>exact az.out);rintro e w9 ⟨rfl,hb⟩;refine⟨_,rfl,?_⟩;replace HB:=kH hb;clear hb)|((with_reducible refine jd 7 rfl ?_);refine jV k27 27 ([]:List (S27)) [] (Reps.none _ _) ?_;intro aK aN ai hb;(first|rw [<- af.out] at ai|(simp only [Int.reduceToNat] at ai;rw [<- af.out] at ai));have ax:=kL ai;replace HB:=kH hb;clear hb ai))
 go_ret2
 exact⟨_,qW,qR ax,qB⟩
def Sbj.f (a0 az aA:Int) (av:List (S90)) (aC aD:Int) (ax:List (S90)):Option (Int × Int × (List (S90))):=some (a0,0,(([(⟨az,aA,av⟩:S90),(⟨aC,aD,ax⟩:S90)]:List (S90))))
theorem Sbj.calls (a0 az aA:Int) (af:Nat->Prop) (aJ:Option Addr) (aK:Nat) (av:List (S90)) (aC aD:Int) (ag:Nat->Prop) (aN:Option Addr) (aQ:Nat) (ax:List (S90)) (r1 r2:Int) (r3:List (S90)) (w:World) (bg:Kd.V k90 90 w w.heap.size (fun k_=>af k_) (.slice aJ av.length aK) av) (bi:Kd.V k90 90 w w.heap.size (fun k_=>ag k_) (.slice aN ax.length aQ) ax) (h:Sbj.f a0 az aA av aC aD ax=some (r1,r2,r3)) :
  Calls Tryz.prog 109 #[.int .i64 a0,.agg #[.int .i64 az,.int .i64 aA,.slice aJ av.length aK],.agg #[.int .i64 aC,.int .i64 aD,.slice aN ax.length aQ]] w fun e w'=>∃ bz:Value,e = .returned (.agg #[.int .i64 r1,.int .i64 r2,bz])/\Kd.N k90 90 w' w.heap.size (fun k_=>((af k_\/ag k_)\/w.heap.size<=k_)) bz r3/\Below w.heap.size w w':=by
 have bF:=Tryz.underlying90
 have ah:=aM (show Kd.V k90 90 w w.heap.size (fun k_=>((af k_\/ag k_)\/w.heap.size<=k_)) (.slice aJ av.length aK) av from Kd.V_mono bg (fun k_ hk=>.inl (.inl hk)))
 have ai:=aM (show Kd.V k90 90 w w.heap.size (fun k_=>((af k_\/ag k_)\/w.heap.size<=k_)) (.slice aN ax.length aQ) ax from Kd.V_mono bi (fun k_ hk=>.inl (.inr hk)))
 have HB:=aM (Below.refl w.heap.size w)
 have H:=h;unfold Sbj.f at H
 clear h
 obtain⟨bn,aI⟩:=ky ((([(⟨az,aA,av⟩:S90),(⟨aC,aD,ax⟩:S90)]:List (S90))):List (S90))
 first|replace H:=kz aI H|rw [<- aI.out] at H
 obtain⟨rfl,rfl,rfl⟩:=oJ3 H
 go_enter Tryz.func109,Tryz.ntmps109
 go_wp2_with (first|((with_reducible refine jd 4 rfl ?_);refine jX _ 90 ?_;intro aj hg w4 hbox hb;have ae:=aM hbox;have bA:=kG hg;replace ah:=aM (Kd.V_below (Kd.V_elderB (qV ah) aj (Nat.le_of_eq hg.symm)) hb);replace ai:=aM (Kd.V_below (Kd.V_elderB (qV ai) aj (Nat.le_of_eq hg.symm)) hb);replace HB:=kH hb;clear hb hbox hg)|((with_reducible refine jd 5 rfl ?_);refine jX _ 90 ?_;intro au hg w5 hbox hb;have ay:=aM hbox;have bB:=kG hg;have aT:=kN hg ae;have aU:=kM hg ae;replace ah:=aM (Kd.V_below (Kd.V_elderB (qV ah) au (Nat.le_of_eq hg.symm)) hb);replace ai:=aM (Kd.V_below (Kd.V_elderB (qV ai) au (Nat.le_of_eq hg.symm)) hb);replace ae:=kB ae hb;replace HB:=kH hb;clear hb hbox hg)|((with_reducible refine jd 6 rfl ?_);refine jX _ 90 ?_;intro aa hg w6 hbox hb;have aH:=aM hbox;have bC:=kG hg;have aV:=kN hg ae;have aW:=kM hg ae;have aX:=kN hg ay;have aY:=kM hg ay;replace ah:=aM (Kd.V_below (Kd.V_elderB (qV ah) aa (Nat.le_of_eq hg.symm)) hb);replace ai:=aM (Kd.V_below (Kd.V_elderB (qV ai) aa (Nat.le_of_eq hg.symm)) hb);replace ae:=kB ae hb;replace ay:=kB ay hb;replace HB:=kH hb;clear hb hbox hg;have bG:=aT.out;have bH:=aU.out;have bI:=aV.out;have bJ:=aW.out;have bN:=jz3 ae;have bD:=aX.out;have bE:=aY.out;have bK:=jz3 ay)|((with_reducible refine jd 10 rfl ?_);refine Kd.N_lit k90 _ 90 ?hg (N':=10) ?hd (xs:=([(⟨az,aA,av⟩:S90),(⟨aC,aD,ax⟩:S90)]:List (S90))) (inner:=[.int .i64 az,.int .i64 aA,.slice aJ av.length aK,.int .i64 aC,.int .i64 aD,.slice aN ax.length aQ]) (ok:=(fun k_=>((af k_\/ag k_)\/w.heap.size<=k_)/\k_≠aj/\k_≠au/\k_≠aa)) (okp:=(fun k_=>((af k_\/ag k_)\/w.heap.size<=k_)/\k_≠aj/\k_≠au/\k_≠aa)) ?hr ?hp (fun _ hk=>hk) ((show ∀ k_,w6.heap.size<=k_->(fun k_=>((af k_\/ag k_)\/w.heap.size<=k_)/\k_≠aj/\k_≠au/\k_≠aa) k_ from fun k_ hk=>⟨(.inr (Nat.le_trans (below_size qB) hk)),Kd.freshB (g:=aj) (o:=.cells #[.int .i64 az,.int .i64 aA,.slice aJ av.length aK] 90 (0,0)) (qK ae) k_ hk,Kd.freshB (g:=au) (o:=.cells #[.int .i64 aC,.int .i64 aD,.slice aN ax.length aQ] 90 (0,0)) (qK ay) k_ hk,Kd.freshB (g:=aa) (o:=.cells #[.int .i64 0,.int .i64 0,.slice none 0 0] 90 (0,0)) (qK aH) k_ hk⟩) _ (Nat.le_refl _)) (Below.refl _ _) (Nat.le_refl _) (by simp) ?_;(case hd=>rfl);(case hg=>rfl);(case hr=>first|(go_simp;done)|(go_simp;rfl));(case hp=>exact (Reps.c3 (show Kd.FK k90 _ _ (⟨az,aA,av⟩:S90) [.int .i64 az,.int .i64 aA,.slice aJ av.length aK] from (k90_mkF _ _ (⟨az,aA,av⟩:S90) (Kd.V_reads' (Kd.V_mono (ok':=(fun k_=>((af k_\/ag k_)\/w.heap.size<=k_)/\k_≠aj/\k_≠au/\k_≠aa)) (ah.out) (fun k_ hk=>⟨hk.1.1.1,⟨hk.1.1.2,⟨hk.1.2,hk.2⟩⟩⟩))).2.1 (Kd.V_F (Kd.V_mono (ok':=(fun k_=>((af k_\/ag k_)\/w.heap.size<=k_)/\k_≠aj/\k_≠au/\k_≠aa)) (ah.out) (fun k_ hk=>⟨hk.1.1.1,⟨hk.1.1.2,⟨hk.1.2,hk.2⟩⟩⟩))))) (Reps.c3 (show Kd.FK k90 _ _ (⟨aC,aD,ax⟩:S90) [.int .i64 aC,.int .i64 aD,.slice aN ax.length aQ] from (k90_mkF _ _ (⟨aC,aD,ax⟩:S90) (Kd.V_reads' (Kd.V_mono (ok':=(fun k_=>((af k_\/ag k_)\/w.heap.size<=k_)/\k_≠aj/\k_≠au/\k_≠aa)) (ai.out) (fun k_ hk=>⟨hk.1.1.1,⟨hk.1.1.2,⟨hk.1.2,hk.2⟩⟩⟩))).2.1 (Kd.V_F (Kd.V_mono (ok':=(fun k_=>((af k_\/ag k_)\/w.heap.size<=k_)/\k_≠aj/\k_≠au/\k_≠aa)) (ai.out) (fun k_ hk=>⟨hk.1.1.1,⟨hk.1.1.2,⟨hk.1.2,hk.2⟩⟩⟩))))) (Reps.none _ _))));intro bL bO aG hb hg_ hnew_;clear hg_ hnew_;(first|rw [<- aI.out] at aG|(simp only [Int.reduceToNat] at aG;rw [<- aI.out] at aG));have aZ:=aM (Kd.N_lower aG (below_size qB));replace ah:=aM (Kd.V_elder' (qV ah) (by first|exact Kd.N_base aG|exact Kd.R_base aG) hb);replace ai:=aM (Kd.V_elder' (qV ai) (by first|exact Kd.N_base aG|exact Kd.R_base aG) hb);replace ae:=kB ae hb;replace ay:=kB ay hb;replace aH:=kB aH hb;replace HB:=kH hb;clear hb aG;obtain⟨bq,bu,bv⟩:=Kd.N_slice aZ.out;subst bv;have bM:=jz3 aH))
 refine bodyPost_ret (results_cell_row rfl _ _ aa 90 #[.int .i64 a0,.int .i64 0,.slice bq bn.length bu] (0,0) _ rfl (qF aH) Tryz.underlying90 rfl (by kernel_rfl)) rfl ?_
 exact⟨_,qW,by (with_reducible repeat (first|apply Kd.N_alloc|apply Kd.N_drewN|apply Kd.N_drew));exact Kd.N_mono (Kd.N_far (p:=⟨aa,2,none⟩) (Kd.N_far (p:=⟨aa,1,none⟩) (Kd.N_far (p:=⟨aa,0,none⟩) (Kd.N_mono aZ.out (fun k_ hk=>(⟨hk,hk.2.2.2⟩:_/\k_≠aa))) (fun _ hk=>hk.2) (.int .i64 a0)) (fun _ hk=>hk.2) (.int .i64 0)) (fun _ hk=>hk.2) (.slice bq bn.length bu)) (fun _ hk=>hk.1.1),qB⟩
def Sbk.f (a0 a1:Int):Option (Int × Int × (List (S90))):=some (a0,a1,(([]:List (S90))))
theorem Sbk.calls (a0 a1 r1 r2:Int) (r3:List (S90)) (w:World) (h:Sbk.f a0 a1=some (r1,r2,r3)) :
  Calls Tryz.prog 110 #[.int .i64 a0,.int .i64 a1] w fun e w'=>∃ aj:Value,e = .returned (.agg #[.int .i64 r1,.int .i64 r2,aj])/\Kd.R k90 90 w' w.heap.size (fun _=>True) aj r3/\Below w.heap.size w w':=by
 have ay:=Tryz.underlying90
 have HB:=aM (Below.refl w.heap.size w)
 have H:(some (a0,a1,(([]:List (S90)))))=some (r1,r2,r3):=h
 clear h
 obtain⟨ah,af⟩:=ky ((([]:List (S90))):List (S90))
 first|replace H:=kz af H|rw [<- af.out] at H
 obtain⟨rfl,rfl,rfl⟩:=oJ3 H
 go_enter Tryz.func110,Tryz.ntmps110
 go_wp2_with (first|((with_reducible refine jd 4 rfl ?_);refine jX _ 90 ?_;intro aa hg w3 hbox hb;have ae:=aM hbox;have au:=kG hg;replace HB:=kH hb;clear hb hbox hg)|((with_reducible refine jd 7 rfl ?_);refine jV k90 90 ([]:List (S90)) [] (Reps.none _ _) ?_;intro az w4 ai hb;(first|rw [<- af.out] at ai|(simp only [Int.reduceToNat] at ai;rw [<- af.out] at ai));have ag:=aM (Kd.R_lower (Kd.R_newB ai (g:=aa) (o:=.cells #[.int .i64 0,.int .i64 0,.slice none 0 0] 90 (0,0)) (qK ae)) (below_size qB));replace ae:=kB ae hb;replace HB:=kH hb;clear hb ai;obtain⟨av,ax,aA⟩:=Kd.R_slice ag.out;subst aA;have aC:=jz3 ae))
 refine bodyPost_ret (results_cell_row rfl _ _ aa 90 #[.int .i64 a0,.int .i64 a1,.slice av ah.length ax] (0,0) _ rfl (qF ae) Tryz.underlying90 rfl (by kernel_rfl)) rfl ?_
 exact⟨_,qW,by (with_reducible repeat (first|apply Kd.R_alloc|apply Kd.R_drewN|apply Kd.R_drew));exact Kd.R_mono (Kd.R_far (p:=⟨aa,2,none⟩) (Kd.R_far (p:=⟨aa,1,none⟩) (Kd.R_far (p:=⟨aa,0,none⟩) (Kd.R_mono ag.out (fun k_ hk=>(⟨hk,hk.2⟩:_/\k_≠aa))) (fun _ hk=>hk.2) (.int .i64 a0)) (fun _ hk=>hk.2) (.int .i64 a1)) (fun _ hk=>hk.2) (.slice av ah.length ax)) (fun _ hk=>trivial),qB⟩
end Go.Proofs.YtebpplallecogaaGreat.M
namespace Go.Proofs.YtebpplallecogaaGreat.M
open Go.RowKit Go.Proofs.YtebpplallecogaaGreatW.PrintWords Go.Proofs.YtebpplallecogaaGreatW.PrintLast Go.Proofs.YtebpplallecogaaGreatW.PrintMore
abbrev eV (x y:Int) (A:Option Addr) (z:List S90) (c:Nat):Value:=.agg #[.int .i64 x,.int .i64 y,.slice A z.length c]
abbrev Z8:Array Value:=#[.int .i64 0,.int .i64 0,.int .i64 0,.int .i64 0,.int .i64 0,.slice none 0 0,.slice none 0 0,.slice none 0 0]
theorem nrm {p:Prop} (h:p:=by first|(simp only [putAll,Act.put,List.setIfInBounds_toArray,List.set_cons_zero,List.set_cons_succ,eV];done)|(simp only [putAll,Act.put,List.setIfInBounds_toArray,List.set_cons_zero,List.set_cons_succ,eV];rfl)):p:=h
theorem qR9 {p:Prop} (h:p:=by first|(go_simp;done)|(go_simp;rfl)):p:=h
theorem qR12 {p:Prop} (h:p:=by first|(go_simp;done)|(go_simp;rfl)):p:=h
theorem box8 {W:World} {b:Nat} {t:TypeId} {a0 a1 a2 a3 a4 a5 a6 a7:Value} (h:W.heap[b]?=some (.cells #[a0,a1,a2,a3,a4,a5,a6,a7] t (0,0))):W.cell? ⟨b,0,none⟩=some a0/\W.cell? ⟨b,1,none⟩=some a1/\W.cell? ⟨b,2,none⟩=some a2/\W.cell? ⟨b,3,none⟩=some a3/\W.cell? ⟨b,4,none⟩=some a4/\W.cell? ⟨b,5,none⟩=some a5/\W.cell? ⟨b,6,none⟩=some a6/\W.cell? ⟨b,7,none⟩=some a7/\W.frozen? ⟨b,0,none⟩=false/\W.frozen? ⟨b,1,none⟩=false/\W.frozen? ⟨b,2,none⟩=false/\W.frozen? ⟨b,3,none⟩=false/\W.frozen? ⟨b,4,none⟩=false/\W.frozen? ⟨b,5,none⟩=false/\W.frozen? ⟨b,6,none⟩=false/\W.frozen? ⟨b,7,none⟩=false :=
 ⟨(blk_cell h 0).trans rfl,(blk_cell h 1).trans rfl,(blk_cell h 2).trans rfl,(blk_cell h 3).trans rfl,(blk_cell h 4).trans rfl,(blk_cell h 5).trans rfl,(blk_cell h 6).trans rfl,(blk_cell h 7).trans rfl,blk_frozen h 0,blk_frozen h 1,blk_frozen h 2,blk_frozen h 3,blk_frozen h 4,blk_frozen h 5,blk_frozen h 6,blk_frozen h 7⟩
def okB (w:World) (g:Nat) (B:List (Nat × Array Value)) (k:Nat):Prop:=w.heap.size<=k/\k≠g/\∀ b∈B,k≠b.1
structure LX (w0 w:World) (g:Nat) (s0:List Int) (v:Value) (tb:List S92) (B:List (Nat × Array Value)) (L:List (Value × List S90)) (M:List (Value × List S92)) (p:Int) (W:World):Prop where
 body:Kd.N k92 92 W w.heap.size (okB w g B) v tb
 es:∀ x∈L,Kd.N k90 90 W w.heap.size (fun k=>okB w g B k/\some k≠v.ownBlock) x.1 x.2
 ms:∀ x∈M,Kd.N k92 92 W w.heap.size (fun k=>okB w g B k/\some k≠v.ownBlock) x.1 x.2
 bx:∀ b∈B,W.heap[b.1]?=some (.cells b.2 92 (0,0))/\w.heap.size<=b.1/\b.1≠g
 nd:(B.map (fun b=>b.1)).Nodup
 rd:Saa w0 W g s0 p
 kp:KeepBut w W g none
 bl:Below w0.heap.size w0 W
 ws:w0.heap.size<=w.heap.size
section
variable {w0 w W W':World} {g:Nat} {s0:List Int} {v:Value} {tb:List S92} {B:List (Nat × Array Value)} {L:List (Value × List S90)} {M:List (Value × List S92)} {p:Int}
theorem LX.below (h:LX w0 w g s0 v tb B L M p W) (hb:Below W.heap.size W W'):LX w0 w g s0 v tb B L M p W' :=
 ⟨Kd.N_below h.body hb,fun x hx=>Kd.N_below (h.es x hx) hb,fun x hx=>Kd.N_below (h.ms x hx) hb,fun b hx=>⟨blk_below (h.bx b hx).1 hb,(h.bx b hx).2⟩,h.nd,Saa.below h.rd hb,h.kp.trans (KeepBut.of_below hb g none) (.inl rfl),below_step h.bl hb,h.ws⟩
theorem LX.size (h:LX w0 w g s0 v tb B L M p W):w.heap.size<=W.heap.size:=keep_size h.kp
theorem LX.fresh (h:LX w0 w g s0 v tb B L M p W) {k:Nat} (hk:W.heap.size<=k):okB w g B k/\some k≠v.ownBlock :=
 ⟨⟨Nat.le_trans h.size hk,Saa.fresh h.rd k hk,fun b hx e=>by have:=blk_lt (h.bx b hx).1;omega⟩,Kd.fresh' (Kd.N_lt h.body) k hk⟩
theorem LX.tail {x:Value × List S90} (h:LX w0 w g s0 v tb B (x :: L) M p W):LX w0 w g s0 v tb B L M p W:=⟨h.body,fun y hy=>h.es y (List.mem_cons_of_mem _ hy),h.ms,h.bx,h.nd,h.rd,h.kp,h.bl,h.ws⟩
theorem LX.expr (h:LX w0 w g s0 v tb B L M p W) (hb:Below W.heap.size W W') {base:Nat} {ok:Nat->Prop} {u:Value} {t:List S90} (ho:Kd.N k90 90 W' base ok u t) (hbase:w.heap.size<=base) (hok:∀ k,ok k->okB w g B k/\some k≠v.ownBlock):LX w0 w g s0 v tb B ((u,t) :: L) M p W':=by
 have h':=h.below hb
 exact⟨h'.body,fun x hx=>(List.mem_cons.1 hx).elim (fun e=>by subst e;exact Kd.N_lower (Kd.N_mono ho hok) hbase) (h'.es x),h'.ms,h'.bx,h'.nd,h'.rd,h'.kp,h'.bl,h'.ws⟩
theorem LX.leaf (h:LX w0 w g s0 v tb B L M p W) {a b x y:Int} {z:List S90} (A:Sbk.f a b=some (x,y,z)) {R:Value->World->Prop} (hc:∀ A c W',LX w0 w g s0 v tb B ((.slice A z.length c,z) :: L) M p W'->R (.agg #[.int .i64 x,.int .i64 y,.slice A z.length c]) W') :
  Calls Tryz.prog 110 #[.int .i64 a,.int .i64 b] W fun e W'=>∃ v,e = .returned v/\R v W':=by
 refine (Sbk.calls a b x y z W A).mono ?_
 rintro e W' ⟨u,rfl,ho,hb⟩
 have ho:=Kd.R_N (Kd.R_bound ho)
 obtain⟨A',c',rfl⟩:=Kd.N_slice ho
 exact⟨_,rfl,hc A' c' W' (h.expr hb ho h.size fun k hk=>h.fresh hk.2.1)⟩
theorem LX.both (h:LX w0 w g s0 v tb B L M p W) {o a1 a2 b1 b2 x y:Int} {l1 l2 z:List S90} {A1 A2:Option Addr} {c1 c2:Nat} (h1:(.slice A1 l1.length c1,l1)∈L) (h2:(.slice A2 l2.length c2,l2)∈L) (A:Sbj.f o a1 a2 l1 b1 b2 l2=some (x,y,z)) {R:Value->World->Prop} (hc:∀ A c W',LX w0 w g s0 v tb B ((.slice A z.length c,z) :: L) M p W'->R (.agg #[.int .i64 x,.int .i64 y,.slice A z.length c]) W') :
  Calls Tryz.prog 109 #[.int .i64 o,.agg #[.int .i64 a1,.int .i64 a2,.slice A1 l1.length c1],.agg #[.int .i64 b1,.int .i64 b2,.slice A2 l2.length c2]] W fun e W'=>∃ v,e = .returned v/\R v W':=by
 refine (Sbj.calls o a1 a2 _ A1 c1 l1 b1 b2 _ A2 c2 l2 x y z W (Kd.N_V (h.es _ h1)) (Kd.N_V (h.es _ h2)) A).mono ?_
 rintro e W' ⟨u,rfl,ho,hb⟩
 obtain⟨A',c',rfl⟩:=Kd.N_slice ho
 exact⟨_,rfl,hc A' c' W' (h.expr hb ho h.size fun k hk=>hk.elim (fun hk=>hk.elim id id) (fun hk=>h.fresh hk))⟩
theorem LX.pick (h:LX w0 w g s0 v tb B L M p W) {k:Nat} {n x q:Int} (A:Sbo.f k s0 p n=some (x,q)) {R:Value->World->Prop} (hc:∀ W',LX w0 w g s0 v tb B L M q W'->R (.int .i64 x) W') :
  Calls Tryz.prog 52 #[.pointer (some ⟨g,0,none⟩),.int .i64 n] W fun e W'=>∃ v,e = .returned v/\R v W':=by
 refine (Sbo.calls k g s0 p n x q w0 W h.rd h.bl A).mono ?_
 rintro e W' ⟨rfl,hi,hb,hk⟩
 exact⟨_,rfl,hc W' ⟨Kd.N_keep h.body hk (fun _ q=>q.2.1),fun x hx=>Kd.N_keep (h.es x hx) hk (fun _ q=>q.1.2.1),fun x hx=>Kd.N_keep (h.ms x hx) hk (fun _ q=>q.1.2.1),fun b hx=>⟨KeepBut.blk hk (h.bx b hx).1 (h.bx b hx).2.2 (by simp),(h.bx b hx).2⟩,h.nd,hi,h.kp.trans hk (.inl rfl),hb,h.ws⟩⟩
/-- A new box. -/
theorem LX.box (h:LX w0 w g s0 v tb B L M p W) {b:Nat} (hg:b=W.heap.size) {cs:Array Value} (hbox:W'.heap[b]?=some (.cells cs 92 (0,0))) (hb:Below W.heap.size W W'):LX w0 w g s0 v tb ((b,cs) :: B) L M p W':=by
 have hf:=(h.fresh (k:=b) (by omega)).1
 have e:∀ k,okB w g B k/\k≠b->okB w g ((b,cs) :: B) k:=fun k hk=>⟨hk.1.1,hk.1.2.1,fun x hx=>(List.mem_cons.1 hx).elim (fun e=>by subst e;exact hk.2) (hk.1.2.2 x)⟩
 exact⟨Kd.N_mono (Kd.N_below (Kd.N_elderB h.body b (Nat.le_of_eq hg.symm)) hb) e,
  fun x hx=>Kd.N_mono (Kd.N_below (Kd.N_elderB (h.es x hx) b (Nat.le_of_eq hg.symm)) hb) fun k hk=>⟨e k ⟨hk.1.1,hk.2⟩,hk.1.2⟩,
  fun x hx=>Kd.N_mono (Kd.N_below (Kd.N_elderB (h.ms x hx) b (Nat.le_of_eq hg.symm)) hb) fun k hk=>⟨e k ⟨hk.1.1,hk.2⟩,hk.1.2⟩,
  fun x hx=>(List.mem_cons.1 hx).elim (fun e=>by subst e;exact⟨hbox,hf.1,hf.2.1⟩) (fun hx=>⟨blk_below (h.bx x hx).1 hb,(h.bx x hx).2⟩),
  List.nodup_cons.2 ⟨fun hm=>by obtain⟨x,hx,e⟩:=List.mem_map.1 hm;exact hf.2.2 x hx e.symm,h.nd⟩,
  (h.below hb).rd,(h.below hb).kp,(h.below hb).bl,h.ws⟩
/-- A cell of the youngest box is set. -/
theorem LX.put {b:Nat} {cs:Array Value} (h:LX w0 w g s0 v tb ((b,cs) :: B) L M p W) (j:Nat) (u:Value) {ds:Array Value} (hd:cs.setIfInBounds j u=ds):LX w0 w g s0 v tb ((b,ds) :: B) L M p (W.setCell ⟨b,j,none⟩ u):=by
 obtain⟨hb1,hb2,hb3⟩:=h.bx _ (List.mem_cons_self ..)
 have e:∀ k,okB w g ((b,cs) :: B) k->okB w g ((b,ds) :: B) k:=fun k hk=>⟨hk.1,hk.2.1,fun x hx=>(List.mem_cons.1 hx).elim (fun e=>by subst e;exact hk.2.2 (b,cs) (List.mem_cons_self ..)) (fun hx=>hk.2.2 x (List.mem_cons_of_mem _ hx))⟩
 have n:∀ k,okB w g ((b,cs) :: B) k->k≠b:=fun k hk=>hk.2.2 _ (List.mem_cons_self ..)
 have nd:=List.nodup_cons.1 h.nd
 exact⟨Kd.N_mono (Kd.N_far (p:=⟨b,j,none⟩) h.body n u) e,fun x hx=>Kd.N_mono (Kd.N_far (p:=⟨b,j,none⟩) (h.es x hx) (fun k hk=>n k hk.1) u) fun k hk=>⟨e k hk.1,hk.2⟩,
  fun x hx=>Kd.N_mono (Kd.N_far (p:=⟨b,j,none⟩) (h.ms x hx) (fun k hk=>n k hk.1) u) fun k hk=>⟨e k hk.1,hk.2⟩,
  fun x hx=>(List.mem_cons.1 hx).elim (fun e=>by subst e;exact⟨blk_put hb1 j u hd,hb2,hb3⟩) (fun hx=>⟨blk_far (h.bx x (List.mem_cons_of_mem _ hx)).1 (fun e=>nd.1 (List.mem_map.2 ⟨x,hx,e⟩)) u,(h.bx x (List.mem_cons_of_mem _ hx)).2⟩),
  h.nd,Saa.far h.rd (fun e=>hb3 e.symm) u,keep_far h.kp hb2 u,below_set h.bl (Nat.le_trans h.ws hb2),h.ws⟩
theorem LX.row (h:LX w0 w g s0 v tb B L M p W) {ok:Nat->Prop} {u:Value} {t:List S92} (hb:Below W.heap.size W W') {base:Nat} (ho:Kd.N k92 92 W' base ok u t) (hbase:w.heap.size<=base) (hok:∀ k,ok k->okB w g B k/\some k≠v.ownBlock):LX w0 w g s0 v tb B L ((u,t) :: M) p W':=by
 have h':=h.below hb
 exact⟨h'.body,h'.es,fun x hx=>(List.mem_cons.1 hx).elim (fun e=>by subst e;exact Kd.N_lower (Kd.N_mono ho hok) hbase) (h'.ms x),h'.bx,h'.nd,h'.rd,h'.kp,h'.bl,h'.ws⟩
theorem LX.drew (h:LX w0 w g s0 v tb B L M p W):LX w0 w g s0 v tb B L M p W.drew:=h.below (below_drew (Below.refl _ _))
theorem LX.at_ {W:World} (h:LX w0 w g s0 v tb B L M p W) {b:Nat} {cs:Array Value} (hb:(b,cs)∈B:=by simp):W.heap[b]?=some (.cells cs 92 (0,0))/\True:=⟨(h.bx _ hb).1,trivial⟩
theorem LX.start {W:World} {p0:Int} (hk0:KeepBut w W g none) (hi0:Saa w0 W g s0 p0) (hw:w0.heap.size<=w.heap.size) (ho:Kd.N k92 92 W' W.heap.size (fun k=>W.heap.size<=k) v tb) (hi:Saa w0 W' g s0 p) (hb:Below w0.heap.size w0 W') (hk:KeepBut W W' g none):LX w0 w g s0 v tb [] [] [] p W' :=
 ⟨Kd.N_lower (Kd.N_mono ho fun k h=>⟨Nat.le_trans (keep_size hk0) h,Saa.fresh hi0 k h,fun _ hb=>(by cases hb)⟩) (keep_size hk0),fun _ h=>(by cases h),fun _ h=>(by cases h),fun _ h=>(by cases h),List.nodup_nil,hi,hk0.trans hk (.inl rfl),hb,hw⟩
theorem LX.one (h:LX w0 w g s0 v tb B L M p W) {A:Option Addr} {c:Nat} {x y:Int} {z:List S90} (hm:(.slice A z.length c,z)∈L):Reps (Kd.FK k92 W (fun k=>okB w g B k/\some k≠v.ownBlock)) k92.sz [(⟨1,3,0,(⟨x,y,z⟩:S90),[],[]⟩:S92)] [.int .i64 1,.int .i64 3,.int .i64 0,.int .i64 x,.int .i64 y,.slice A z.length c,.slice none 0 0,.slice none 0 0] :=
 Reps.c8 (k92_mkF _ _ (⟨1,3,0,(⟨x,y,z⟩:S90),[],[]⟩:S92) (Kd.N_reads' (h.es _ hm)).2.1 (Kd.N_F (h.es _ hm)) (Nat.le_refl _) (Kd.F_nil _ _ _) (Nat.le_refl _) (Kd.F_nil _ _ _)) (Reps.none _ _)
theorem LX.two {A0:Option Addr} {c0:Nat} (h:LX w0 w g s0 (.slice A0 tb.length c0) tb B L M p W) {A A':Option Addr} {c c':Nat} {x y x' y':Int} {z z':List S90} (hm:(.slice A z.length c,z)∈L) (hm':(.slice A' z'.length c',z')∈L):Reps (Kd.FK k92 W (okB w g B)) k92.sz [(⟨1,3,0,(⟨x,y,z⟩:S90),[],[]⟩:S92),(⟨3,0,0,(⟨x',y',z'⟩:S90),tb,[]⟩:S92)] [.int .i64 1,.int .i64 3,.int .i64 0,.int .i64 x,.int .i64 y,.slice A z.length c,.slice none 0 0,.slice none 0 0,.int .i64 3,.int .i64 0,.int .i64 0,.int .i64 x',.int .i64 y',.slice A' z'.length c',.slice A0 tb.length c0,.slice none 0 0] :=
 Reps.c8 (k92_mkF _ _ (⟨1,3,0,(⟨x,y,z⟩:S90),[],[]⟩:S92) (Kd.N_reads' (h.es _ hm)).2.1 (Kd.N_F (Kd.N_mono (h.es _ hm) fun _ hk=>hk.1)) (Nat.le_refl _) (Kd.F_nil _ _ _) (Nat.le_refl _) (Kd.F_nil _ _ _))
  (Reps.c8 (k92_mkF _ _ (⟨3,0,0,(⟨x',y',z'⟩:S90),tb,[]⟩:S92) (Kd.N_reads' (h.es _ hm')).2.1 (Kd.N_F (Kd.N_mono (h.es _ hm') fun _ hk=>hk.1)) (Kd.N_reads' h.body).2.1 (Kd.N_F h.body) (Nat.le_refl _) (Kd.F_nil _ _ _)) (Reps.none _ _))
theorem LX.put8 {b:Nat} {a0 a1 a2 a3 a4 a5 a6 a7:Value} (u0 u1 u2 u3 u4 u5 u6 u7:Value) (h:LX w0 w g s0 v tb ((b,#[a0,a1,a2,a3,a4,a5,a6,a7]) :: B) L M p W):LX w0 w g s0 v tb ((b,#[u0,u1,u2,u3,u4,u5,u6,u7]) :: B) L M p ((((((((W.setCell ⟨b,0,none⟩ u0).setCell ⟨b,1,none⟩ u1).setCell ⟨b,2,none⟩ u2).setCell ⟨b,3,none⟩ u3).setCell ⟨b,4,none⟩ u4).setCell ⟨b,5,none⟩ u5).setCell ⟨b,6,none⟩ u6).setCell ⟨b,7,none⟩ u7) :=
 (LX.put (ds:=#[u0,u1,u2,u3,u4,u5,u6,u7]) (LX.put (ds:=#[u0,u1,u2,u3,u4,u5,u6,a7]) (LX.put (ds:=#[u0,u1,u2,u3,u4,u5,a6,a7]) (LX.put (ds:=#[u0,u1,u2,u3,u4,a5,a6,a7]) (LX.put (ds:=#[u0,u1,u2,u3,a4,a5,a6,a7]) (LX.put (ds:=#[u0,u1,u2,a3,a4,a5,a6,a7]) (LX.put (ds:=#[u0,u1,a2,a3,a4,a5,a6,a7]) (LX.put (ds:=#[u0,a1,a2,a3,a4,a5,a6,a7]) h 0 u0 rfl) 1 u1 rfl) 2 u2 rfl) 3 u3 rfl) 4 u4 rfl) 5 u5 rfl) 6 u6 rfl) 7 u7 rfl)
variable {ops:Array Oper} {o:Oper} {a:Act} {Q:Exit->Act->World->Prop} {Kc:Act->World->Prop}
/-- A literal of one statement that sets. -/
theorem LX.lit (h:LX w0 w g s0 v tb B L M p W) (hw:Region.wanted o (yielded ops a.tmps)=true) {N:Tmp} (hd:o.dst=some N) {inner:List Value} {xs ys:List S92} (hy:ys=xs)
  (hrun:(execOp a.eval o).run Tryz.prog W = .ok (.value (.slice (some ⟨W.heap.size,0,none⟩) xs.length xs.length)) (W.alloc (.cells inner.toArray 92 (0,0))))
  (hrep:Reps (Kd.FK k92 W (fun k=>okB w g B k/\some k≠v.ownBlock)) k92.sz xs inner) (hm:xs.length<=9223372036854775807)
  (hc:∀ A c W',LX w0 w g s0 v tb B L ((.slice A ys.length c,ys) :: M) p W'->Kc (a.put (some N) (.slice A ys.length c)) W'):if Region.wanted o (yielded ops a.tmps)=true then Oper.wp Tryz.prog o a W Kc Q else Kc (a.put o.dst undef) W:=by
 subst hy
 refine Kd.N_lit_step k92 W.heap.size 92 hw hd hrun hrep (fun _ hk=>hk) (h.fresh (Nat.le_refl _)) (Below.refl _ _) (Nat.le_refl _) hm ?_
 intro v1 W1 hN hb _ _
 obtain⟨A,c,rfl⟩:=Kd.N_slice hN
 rw [hd]
 exact hc A c W1 (h.row hb hN h.size fun k hk=>hk)
theorem LX.lit2 (h:LX w0 w g s0 v tb B L M p W) (hw:Region.wanted o (yielded ops a.tmps)=true) {N:Tmp} (hd:o.dst=some N) {inner:List Value} {xs:List S92}
  (hrun:(execOp a.eval o).run Tryz.prog W = .ok (.value (.slice (some ⟨W.heap.size,0,none⟩) xs.length xs.length)) (W.alloc (.cells inner.toArray 92 (0,0))))
  (hrep:Reps (Kd.FK k92 W (okB w g B)) k92.sz xs inner) (hm:xs.length<=9223372036854775807)
  (hc:∀ v1 W',Kd.N k92 92 W' w.heap.size (okB w g B) v1 xs->LX w0 w g s0 v tb B L M p W'->Kc (a.put (some N) v1) W'):if Region.wanted o (yielded ops a.tmps)=true then Oper.wp Tryz.prog o a W Kc Q else Kc (a.put o.dst undef) W:=by
 refine Kd.N_lit_step k92 W.heap.size 92 hw hd hrun hrep (fun _ hk=>hk) (h.fresh (Nat.le_refl _)).1 (Below.refl _ _) (Nat.le_refl _) hm ?_
 intro v1 W1 hN hb _ _
 rw [hd]
 exact hc v1 W1 (Kd.N_lower hN h.size) (h.below hb)
/-- A row is appended to the row of statements. -/
theorem LX.app {A1:Option Addr} {c1:Nat} (h:LX w0 w g s0 (.slice A1 tb.length c1) tb B L M p W) (hw:Region.wanted o (yielded ops a.tmps)=true) {N:Tmp} (hd:o.dst=some N) (s x:Operand)
  (ho:o.op = .call { callee:=.builtin .append,args:=#[s,x],argTypes:=#[75,75] }) {A2:Option Addr} {c2:Nat} {ys yt:List S92} (hy:yt=tb ++ ys) (hs:a.eval s = .slice A1 tb.length c1) (hx:a.eval x = .slice A2 ys.length c2) (hys:(.slice A2 ys.length c2,ys)∈M)
  (hl:tb.length+ys.length < 1256584717458) (hc:∀ A c W',LX w0 w g s0 (.slice A yt.length c) yt B L [] p W'->Kc (a.put (some N) (.slice A yt.length c)) W'):if Region.wanted o (yielded ops a.tmps)=true then Oper.wp Tryz.prog o a W Kc Q else Kc (a.put o.dst undef) W:=by
 subst hy
 refine Kd.N_append_rows_step k92 w.heap.size hw s x 75 92 (.agg #[(.int .i64 0),(.int .i64 0),(.int .i64 0),(.int .i64 0),(.int .i64 0),(.slice none 0 0),(.slice none 0 0),(.slice none 0 0)]) 112 ho Tryz.underlying75 info92 rfl (by decide) (by omega) (.slice A1 tb.length c1) tb ys A2 ys.length c2 (okB w g B) (fun k=>okB w g B k/\some k≠(.slice A1 tb.length c1:Value).ownBlock) hs hx h.body (Kd.N_F (h.ms _ hys)) (fun _ hk=>hk) (fun k hk=>(h.fresh hk).1) (Below.refl _ _) h.size (by omega) ?_
 intro v1 W1 hN hb hg hat
 obtain⟨A,c,rfl⟩:=Kd.N_slice hN
 rw [hd]
 exact hc A c W1 ⟨hN,fun y hy=>Kd.N_afterv (h.es y hy) hg hat,fun y hy=>(by cases hy),
  fun b hb'=>⟨blk_grown (h.bx b hb').1 hg (Kd.N_away h.body fun k hk=>hk.2.2 b hb'),(h.bx b hb').2⟩,h.nd,Saa.grown h.rd hg (Kd.N_away h.body fun k hk=>hk.2.1),h.kp.trans (KeepBut.of_grown hg g) (Kd.N_base2 h.body),below_weaken h.bl h.ws hb,h.ws⟩
theorem LX.newbox (h:LX w0 w g s0 v tb B L M p W) (hw:Region.wanted o (yielded ops a.tmps)=true) {N:Tmp} (hd:o.dst=some N) {cs:Array Value}
  (hrun:(execOp a.eval o).run Tryz.prog W = .ok (.value (.pointer (some ⟨W.heap.size,0,none⟩))) (W.alloc (.cells cs 92 (0,0))))
  (hc:∀ b W',LX w0 w g s0 v tb ((b,cs) :: B) L M p W'->Kc (a.put (some N) (.pointer (some ⟨b,0,none⟩))) W'):if Region.wanted o (yielded ops a.tmps)=true then Oper.wp Tryz.prog o a W Kc Q else Kc (a.put o.dst undef) W:=by
 refine box_step hw hd hrun ?_
 intro b hg W1 hbox hb
 rw [hd]
 exact hc b W1 (h.box hg hbox hb)
end
end Go.Proofs.YtebpplallecogaaGreat.M
namespace Go.Proofs.YtebpplallecogaaGreat.M
open Go.RowKit Go.Proofs.YtebpplallecogaaGreatW.PrintWords Go.Proofs.YtebpplallecogaaGreatW.PrintLast Go.Proofs.YtebpplallecogaaGreatW.PrintMore
attribute [local go_sem] max2_int min2_int max_two min_two max_three min_three max_four min_four
def Sbq.f (k:Nat) (ag:List Int) (au:Int):Option (Int × Int × (List (S90)) × Int):=(Sbo.f k ag au 4).bind fun ax=>(if ax.1=0 then ((Sbo.f k ag ax.2 4).bind fun aK=>((Sbk.f 0 aK.1).bind fun aG=>(some (aG.1,aG.2.1,aG.2.2,aK.2)))) else (if ax.1=1 then ((some (([5,31,32,100,2047,2048,65536,99999]:List Int):List Int)).bind fun aC=>((Sbo.f k ag ax.2 8).bind fun az=>(if 0<=az.1 then (if az.1 < (aC.length:Int) then ((Sbk.f 0 (rd aC az.1)).bind fun aH=>(some (aH.1,aH.2.1,aH.2.2,az.2))) else (none)) else (none)))) else ((Sbo.f k ag ax.2 4).bind fun aN=>((Sbk.f 13 aN.1).bind fun aI=>(some (aI.1,aI.2.1,aI.2.2,aN.2))))))
theorem Sbq.calls (k g:Nat) (ag:List Int) (au r1 r2:Int) (r3:List (S90)) (r4:Int) (w0 w:World) (hI:Saa w0 w g ag au) (hB:Below w0.heap.size w0 w) (h:Sbq.f k ag au=some (r1,r2,r3,r4)) :
  Calls Tryz.prog 111 #[.pointer (some ⟨g,0,none⟩)] w fun e w'=>∃ bX:Value,e = .returned (.agg #[.int .i64 r1,.int .i64 r2,bX])/\Kd.R k90 90 w' w.heap.size (fun _=>True) bX r3/\Saa w0 w' g ag r4/\Below w0.heap.size w0 w'/\KeepBut w w' g none:=by
 have dn:=Tryz.underlying90
 have HI0:=aM hI
 have HK:=aM (KeepBut.refl w g none)
 have HL:=aM hB.size
 clear hI
 have HW0:=aM hB.size
 have HB:=aM hB
 clear hB
 have H:=h;unfold Sbq.f at H
 clear h
 obtain⟨⟨aX,ay⟩,A2,H⟩:=qE H
 try dsimp only at H
 replace H:=jE H;rcases H with ⟨bN,bO,H⟩ | ⟨c3,bN,bO,H⟩
 ·obtain⟨⟨aY,bP⟩,A4,H⟩:=qE H
  try dsimp only at H
  obtain⟨⟨aZ,bg,bi⟩,A5,H⟩:=qE H
  try dsimp only at H
  obtain⟨rfl,rfl,rfl,rfl⟩:=oJ4 H
  go_enter Tryz.func111,Tryz.ntmps111
  go_wp2_with (first|((with_reducible refine jd 2 rfl ?_);refine jX _ 90 ?_;intro aa hg w6 hbox hb;have ae:=aM hbox;have aQ:=aM ((by rw [hg];exact (keep_size (w:=w) (g:=g) (row:=none) qH):w.heap.size<=aa));have aT:=aM ((Nat.le_trans HW0.out (by rw [hg];exact (keep_size (w:=w) (g:=g) (row:=none) qH):w.heap.size<=aa):w0.heap.size<=aa));have aj:=aM ((by rw [hg];exact Nat.ne_of_lt (Saa.lt (show Saa w0 _ g ag au from qI HI0)):g≠aa));have af:=aM ((by rw [hg];exact Nat.ne_of_gt (Saa.lt (show Saa w0 _ g ag au from qI HI0)):aa≠g));replace HI0:=aM (Saa.below (qI HI0) hb);replace HK:=aM (KeepBut.trans qH (KeepBut.of_below hb g none) (.inl rfl));replace HB:=kH hb;clear hb hbox hg)|((with_reducible refine jc 52 4 rfl rfl ?_);refine jG Tryz.func52 #[.pointer (some ⟨g,0,none⟩),.int .i64 4] ?_;refine (Sbo.calls k g ag au 4 aX ay w0 _ ?ah ?ai A2.out).mono ?_;(case ah=>exact qI HI0);(case ai=>exact qB);rintro e w7 ⟨rfl,hi,hb,hk⟩;refine⟨_,rfl,?_⟩;replace ae:=aM (KeepBut.blk hk (g':=aa) (o:=.cells #[.int .i64 0,.int .i64 0,.slice none 0 0] 90 (0,0)) (qK ae) af.out (by simp));replace HK:=kI hk;replace HB:=aM hb;replace HI0:=aM hi;clear hb hk hi)|((with_reducible refine jc 52 8 rfl rfl ?_);refine jG Tryz.func52 #[.pointer (some ⟨g,0,none⟩),.int .i64 4] ?_;refine (Sbo.calls k g ag ay 4 aY bP w0 _ ?ah ?ai A4.out).mono ?_;(case ah=>exact qI HI0);(case ai=>exact qB);rintro e w8 ⟨rfl,hi,hb,hk⟩;refine⟨_,rfl,?_⟩;replace ae:=aM (KeepBut.blk hk (g':=aa) (o:=.cells #[.int .i64 0,.int .i64 0,.slice none 0 0] 90 (0,0)) (qK ae) af.out (by simp));replace HK:=kI hk;replace HB:=aM hb;replace HI0:=aM hi;clear hb hk hi)|((with_reducible refine jc 110 9 rfl rfl ?_);refine jG Tryz.func110 #[.int .i64 0,.int .i64 aY] ?_;refine (Sbk.calls 0 aY aZ bg bi _ A5.out).mono ?_;rintro e w9 ⟨dw,rfl,ho0,hb⟩;refine⟨_,rfl,?_⟩;have aU:=aM (Kd.R_lower (Kd.R_newB ho0 (g:=aa) (o:=.cells #[.int .i64 0,.int .i64 0,.slice none 0 0] 90 (0,0)) (qK ae)) (keep_size (w:=w) (g:=g) (row:=none) qH));replace HI0:=aM (Saa.below (qI HI0) hb);replace ae:=kB ae hb;replace HK:=aM (KeepBut.trans qH (KeepBut.of_below hb g none) (.inl rfl));replace HB:=kH hb;clear hb;(try clear ho0);have bY:=af.out;have bZ:=aj.out;have dx:=jz3 ae;obtain⟨bE,bF,bQ⟩:=Kd.R_slice aU.out;subst bQ))
  refine bodyPost_ret (results_cell_row rfl _ _ aa 90 #[.int .i64 aZ,.int .i64 bg,.slice bE bi.length bF] (0,0) _ rfl (qF ae) Tryz.underlying90 rfl (by kernel_rfl)) rfl ?_
  exact⟨_,qW,by (with_reducible repeat (first|apply Kd.R_alloc|apply Kd.R_drewN|apply Kd.R_drew));exact Kd.R_mono (Kd.R_far (p:=⟨aa,2,none⟩) (Kd.R_far (p:=⟨aa,1,none⟩) (Kd.R_far (p:=⟨aa,0,none⟩) (Kd.R_mono aU.out (fun k_ hk=>(⟨hk,hk.2⟩:_/\k_≠aa))) (fun _ hk=>hk.2) (.int .i64 aZ)) (fun _ hk=>hk.2) (.int .i64 bg)) (fun _ hk=>hk.2) (.slice bE bi.length bF)) (fun _ hk=>trivial),qI HI0,qB,qH⟩
 replace H:=jE H;rcases H with ⟨bG,bH,H⟩ | ⟨c13,bG,bH,H⟩
 ·obtain⟨aC,aA⟩:=ky ((([5,31,32,100,2047,2048,65536,99999]:List Int)):List Int)
  first|replace H:=kz aA H|rw [<- aA.out] at H
  obtain⟨⟨aD,bR⟩,dz,H⟩:=qE H
  try dsimp only at H
  replace H:=jI H;obtain⟨cz,H⟩:=H
  replace H:=jI H;obtain⟨cB,H⟩:=H
  obtain⟨⟨bn,bq,bu⟩,dA,H⟩:=qE H
  try dsimp only at H
  obtain⟨rfl,rfl,rfl,rfl⟩:=oJ4 H
  go_enter Tryz.func111,Tryz.ntmps111
  go_wp2_with (first|((with_reducible refine jd 2 rfl ?_);refine jX _ 90 ?_;intro aa hg dK hbox hb;have ae:=aM hbox;have aQ:=aM ((by rw [hg];exact (keep_size (w:=w) (g:=g) (row:=none) qH):w.heap.size<=aa));have aT:=aM ((Nat.le_trans HW0.out (by rw [hg];exact (keep_size (w:=w) (g:=g) (row:=none) qH):w.heap.size<=aa):w0.heap.size<=aa));have aj:=aM ((by rw [hg];exact Nat.ne_of_lt (Saa.lt (show Saa w0 _ g ag au from qI HI0)):g≠aa));have af:=aM ((by rw [hg];exact Nat.ne_of_gt (Saa.lt (show Saa w0 _ g ag au from qI HI0)):aa≠g));replace HI0:=aM (Saa.below (qI HI0) hb);replace HK:=aM (KeepBut.trans qH (KeepBut.of_below hb g none) (.inl rfl));replace HB:=kH hb;clear hb hbox hg)|((with_reducible refine jc 52 4 rfl rfl ?_);refine jG Tryz.func52 #[.pointer (some ⟨g,0,none⟩),.int .i64 4] ?_;refine (Sbo.calls k g ag au 4 aX ay w0 _ ?ah ?ai A2.out).mono ?_;(case ah=>exact qI HI0);(case ai=>exact qB);rintro e dL ⟨rfl,hi,hb,hk⟩;refine⟨_,rfl,?_⟩;replace ae:=aM (KeepBut.blk hk (g':=aa) (o:=.cells #[.int .i64 0,.int .i64 0,.slice none 0 0] 90 (0,0)) (qK ae) af.out (by simp));replace HK:=kI hk;replace HB:=aM hb;replace HI0:=aM hi;clear hb hk hi)|((with_reducible refine jd 12 rfl ?_);refine jV (Kd.int .i64) 3 ([5,31,32,100,2047,2048,65536,99999]:List Int) [.int .i64 5,.int .i64 31,.int .i64 32,.int .i64 100,.int .i64 2047,.int .i64 2048,.int .i64 65536,.int .i64 99999] (Reps.one (show Kd.M (Kd.int .i64) _ _ _ 5 [.int .i64 5] from rfl) (Reps.one (show Kd.M (Kd.int .i64) _ _ _ 31 [.int .i64 31] from rfl) (Reps.one (show Kd.M (Kd.int .i64) _ _ _ 32 [.int .i64 32] from rfl) (Reps.one (show Kd.M (Kd.int .i64) _ _ _ 100 [.int .i64 100] from rfl) (Reps.one (show Kd.M (Kd.int .i64) _ _ _ 2047 [.int .i64 2047] from rfl) (Reps.one (show Kd.M (Kd.int .i64) _ _ _ 2048 [.int .i64 2048] from rfl) (Reps.one (show Kd.M (Kd.int .i64) _ _ _ 65536 [.int .i64 65536] from rfl) (Reps.one (show Kd.M (Kd.int .i64) _ _ _ 99999 [.int .i64 99999] from rfl) (Reps.none _ _))))))))) ?_;intro dB dM aJ hb;(first|rw [<- aA.out] at aJ|(simp only [Int.reduceToNat] at aJ;rw [<- aA.out] at aJ));have av:=aM (Kd.R_lower aJ (keep_size (w:=w) (g:=g) (row:=none) qH));replace HI0:=aM (Saa.below (qI HI0) hb);replace ae:=kB ae hb;replace HK:=aM (KeepBut.trans qH (KeepBut.of_below hb g none) (.inl rfl));replace HB:=kH hb;clear hb aJ)|((with_reducible refine jc 52 14 rfl rfl ?_);refine jG Tryz.func52 #[.pointer (some ⟨g,0,none⟩),.int .i64 8] ?_;refine (Sbo.calls k g ag ay 8 aD bR w0 _ ?ah ?ai dz.out).mono ?_;(case ah=>exact qI HI0);(case ai=>exact qB);rintro e dN ⟨rfl,hi,hb,hk⟩;refine⟨_,rfl,?_⟩;replace ae:=aM (KeepBut.blk hk (g':=aa) (o:=.cells #[.int .i64 0,.int .i64 0,.slice none 0 0] 90 (0,0)) (qK ae) af.out (by simp));replace av:=aM (Kd.R_mono (Kd.R_keep (Saa.apart (show Saa w0 _ g ag ay from qI HI0) (qR av) (by decide)) hk (fun _ h=>h.2)) (fun _ h=>h.1));replace HK:=kI hk;replace HB:=aM hb;replace HI0:=aM hi;clear hb hk hi;obtain⟨dC,dD,bS⟩:=Kd.R_slice av.out;subst bS;have bv:0<=(aD:Int):=qD;have bz:aD < (aC.length:Int):=qD;obtain⟨cK,bT,bM⟩:=Kd.at_int (Kd.R_reads' av.out).2.2 aD bv bz;cases bT;replace bv:=eq_true bv;replace bz:=eq_true bz)|((with_reducible refine jc 110 17 rfl rfl ?_);refine jG Tryz.func110 #[.int .i64 0,.int .i64 (rd aC aD)] ?_;refine (Sbk.calls 0 (rd aC aD) bn bq bu _ dA.out).mono ?_;rintro e dO ⟨dE,rfl,ho0,hb⟩;refine⟨_,rfl,?_⟩;have aV:=aM (Kd.R_lower (Kd.R_newB ho0 (g:=aa) (o:=.cells #[.int .i64 0,.int .i64 0,.slice none 0 0] 90 (0,0)) (qK ae)) (keep_size (w:=w) (g:=g) (row:=none) qH));replace av:=kR av hb;replace HI0:=aM (Saa.below (qI HI0) hb);replace ae:=kB ae hb;replace HK:=aM (KeepBut.trans qH (KeepBut.of_below hb g none) (.inl rfl));replace HB:=kH hb;clear hb;(try clear ho0);have cO:=af.out;have df:=aj.out;have dF:=jz3 ae;obtain⟨bI,bJ,bU⟩:=Kd.R_slice aV.out;subst bU))
  refine bodyPost_ret (results_cell_row rfl _ _ aa 90 #[.int .i64 bn,.int .i64 bq,.slice bI bu.length bJ] (0,0) _ rfl (qF ae) Tryz.underlying90 rfl (by kernel_rfl)) rfl ?_
  exact⟨_,qW,by (with_reducible repeat (first|apply Kd.R_alloc|apply Kd.R_drewN|apply Kd.R_drew));exact Kd.R_mono (Kd.R_far (p:=⟨aa,2,none⟩) (Kd.R_far (p:=⟨aa,1,none⟩) (Kd.R_far (p:=⟨aa,0,none⟩) (Kd.R_mono aV.out (fun k_ hk=>(⟨hk,hk.2⟩:_/\k_≠aa))) (fun _ hk=>hk.2) (.int .i64 bn)) (fun _ hk=>hk.2) (.int .i64 bq)) (fun _ hk=>hk.2) (.slice bI bu.length bJ)) (fun _ hk=>trivial),qI HI0,qB,qH⟩
 obtain⟨⟨bA,bV⟩,dG,H⟩:=qE H
 try dsimp only at H
 obtain⟨⟨bB,bC,bD⟩,dH,H⟩:=qE H
 try dsimp only at H
 obtain⟨rfl,rfl,rfl,rfl⟩:=oJ4 H
 go_enter Tryz.func111,Tryz.ntmps111
 go_wp2_with (first|((with_reducible refine jd 2 rfl ?_);refine jX _ 90 ?_;intro aa hg dP hbox hb;have ae:=aM hbox;have aQ:=aM ((by rw [hg];exact (keep_size (w:=w) (g:=g) (row:=none) qH):w.heap.size<=aa));have aT:=aM ((Nat.le_trans HW0.out (by rw [hg];exact (keep_size (w:=w) (g:=g) (row:=none) qH):w.heap.size<=aa):w0.heap.size<=aa));have aj:=aM ((by rw [hg];exact Nat.ne_of_lt (Saa.lt (show Saa w0 _ g ag au from qI HI0)):g≠aa));have af:=aM ((by rw [hg];exact Nat.ne_of_gt (Saa.lt (show Saa w0 _ g ag au from qI HI0)):aa≠g));replace HI0:=aM (Saa.below (qI HI0) hb);replace HK:=aM (KeepBut.trans qH (KeepBut.of_below hb g none) (.inl rfl));replace HB:=kH hb;clear hb hbox hg)|((with_reducible refine jc 52 4 rfl rfl ?_);refine jG Tryz.func52 #[.pointer (some ⟨g,0,none⟩),.int .i64 4] ?_;refine (Sbo.calls k g ag au 4 aX ay w0 _ ?ah ?ai A2.out).mono ?_;(case ah=>exact qI HI0);(case ai=>exact qB);rintro e dQ ⟨rfl,hi,hb,hk⟩;refine⟨_,rfl,?_⟩;replace ae:=aM (KeepBut.blk hk (g':=aa) (o:=.cells #[.int .i64 0,.int .i64 0,.slice none 0 0] 90 (0,0)) (qK ae) af.out (by simp));replace HK:=kI hk;replace HB:=aM hb;replace HI0:=aM hi;clear hb hk hi)|((with_reducible refine jc 52 19 rfl rfl ?_);refine jG Tryz.func52 #[.pointer (some ⟨g,0,none⟩),.int .i64 4] ?_;refine (Sbo.calls k g ag ay 4 bA bV w0 _ ?ah ?ai dG.out).mono ?_;(case ah=>exact qI HI0);(case ai=>exact qB);rintro e w32 ⟨rfl,hi,hb,hk⟩;refine⟨_,rfl,?_⟩;replace ae:=aM (KeepBut.blk hk (g':=aa) (o:=.cells #[.int .i64 0,.int .i64 0,.slice none 0 0] 90 (0,0)) (qK ae) af.out (by simp));replace HK:=kI hk;replace HB:=aM hb;replace HI0:=aM hi;clear hb hk hi)|((with_reducible refine jc 110 20 rfl rfl ?_);refine jG Tryz.func110 #[.int .i64 13,.int .i64 bA] ?_;refine (Sbk.calls 13 bA bB bC bD _ dH.out).mono ?_;rintro e dR ⟨dI,rfl,ho0,hb⟩;refine⟨_,rfl,?_⟩;have aW:=aM (Kd.R_lower (Kd.R_newB ho0 (g:=aa) (o:=.cells #[.int .i64 0,.int .i64 0,.slice none 0 0] 90 (0,0)) (qK ae)) (keep_size (w:=w) (g:=g) (row:=none) qH));replace HI0:=aM (Saa.below (qI HI0) hb);replace ae:=kB ae hb;replace HK:=aM (KeepBut.trans qH (KeepBut.of_below hb g none) (.inl rfl));replace HB:=kH hb;clear hb;(try clear ho0);have dh:=af.out;have di:=aj.out;have dJ:=jz3 ae;obtain⟨bK,bL,bW⟩:=Kd.R_slice aW.out;subst bW))
 refine bodyPost_ret (results_cell_row rfl _ _ aa 90 #[.int .i64 bB,.int .i64 bC,.slice bK bD.length bL] (0,0) _ rfl (qF ae) Tryz.underlying90 rfl (by kernel_rfl)) rfl ?_
 exact⟨_,qW,by (with_reducible repeat (first|apply Kd.R_alloc|apply Kd.R_drewN|apply Kd.R_drew));exact Kd.R_mono (Kd.R_far (p:=⟨aa,2,none⟩) (Kd.R_far (p:=⟨aa,1,none⟩) (Kd.R_far (p:=⟨aa,0,none⟩) (Kd.R_mono aW.out (fun k_ hk=>(⟨hk,hk.2⟩:_/\k_≠aa))) (fun _ hk=>hk.2) (.int .i64 bB)) (fun _ hk=>hk.2) (.int .i64 bC)) (fun _ hk=>hk.2) (.slice bK bD.length bL)) (fun _ hk=>trivial),qI HI0,qB,qH⟩
end Go.Proofs.YtebpplallecogaaGreat.M
