/- Part 1 of the proof: A function as plain Lean and its contract: written by a program of this session's, turned from the kit's print. -/
import Derived.Test.YtdkkdiiceaomaaaGreatProg
import Derived.Below
import Derived.Deep.Draws
import Derived.Deep.AppendLies
import Derived.Maps.AppendAt
import Derived.OwnWalk
import Derived.Laws.BytesArg
import Derived.Laws.MakeOwn
import Derived.Laws.OwnMore
import Derived.Deep.OwnRows
import Derived.Tactics
import Derived.Lib.ConvBytes
import Derived.Laws.Slices
import Derived.WalkKit
import Derived.KernelRfl
import Derived.RowKit3
import Derived.Deep.LoopGhost
import Derived.Deep.QuietTactic
import Derived.BigQuiet
import Derived.WideLaws
import Derived.Deep.DeepCutAuto
import Derived.Deep.CutBlock
import Derived.Deep.RegionHeld3
import Derived.Laws.Rows
import Derived.Lib.AppendStr
import Derived.ArgAppend
import Derived.Laws.IdiomCopy
import Derived.OrdersHeld
import Derived.Laws.BitsLemmas
import Derived.RowKit
import Derived.Test.YtdkkdiiceaomaaaGreatEBWWords
import Derived.Test.YtdkkdiiceaomaaaGreatEBWLast
import Derived.Test.YtdkkdiiceaomaaaGreatEBWTab
import Derived.Test.YtdkkdiiceaomaaaGreatEBWFour
import Derived.Test.YtdkkdiiceaomaaaGreatEBWQPut
import Derived.Test.YtdkkdiiceaomaaaGreatEBWApart
import Derived.Test.YtdkkdiiceaomaaaGreatEBWArr
import Derived.Test.YtdkkdiiceaomaaaGreatEBWZeros
import Derived.Test.YtdkkdiiceaomaaaGreatEBWFoot
import Derived.Test.YtdkkdiiceaomaaaGreatEBWKept
import Derived.Test.YtdkkdiiceaomaaaGreatEBWShare
import Derived.Test.YtdkkdiiceaomaaaGreatEBWN
import Derived.Test.YtdkkdiiceaomaaaGreatEBWFootNe
import Derived.Test.YtdkkdiiceaomaaaGreatEBWAt
import Derived.Test.YtdkkdiiceaomaaaGreatEBWEqStruct
import Derived.Test.YtdkkdiiceaomaaaGreatEBWRepsOne
import Derived.Test.YtdkkdiiceaomaaaGreatEBWInv
import Derived.Test.YtdkkdiiceaomaaaGreatEBWInvWords
import Derived.Test.YtdkkdiiceaomaaaGreatEBWGuard
import Derived.Test.YtdkkdiiceaomaaaGreatEBWNEv
import Derived.Test.YtdkkdiiceaomaaaGreatEBWMore
import Derived.Test.YtdkkdiiceaomaaaGreatRows
set_option linter.unusedVariables false
set_option linter.unusedSimpArgs false
set_option maxHeartbeats 8000000
set_option maxRecDepth 100000
namespace Go.Proofs.YtdkkdiiceaomaaaGreat.M
open Go.RowKit Go.Proofs.YtdkkdiiceaomaaaGreatW.PrintWords Go.Proofs.YtdkkdiiceaomaaaGreatW.PrintLast Go.Proofs.YtdkkdiiceaomaaaGreatW.PrintMore
attribute [local go_sem] aas aaq aaH aaG aaj aai aar aap
def arL:Option Int->Value
  | none=>.nilIface
  | some c=>.iface 0 (.int .i64 c)
theorem aaF:arL none = .nilIface:=rfl
theorem aaE (c:Int):arL (some c) = .iface 0 (.int .i64 c):=rfl
theorem akg:(Tryz.prog.info? 3).map (fun i=>(i.zero,i.size,i.bytes))=some (some (.int .i64 0),1,8):=by kernel_rfl
theorem ant:(Tryz.prog.info? 4).map (fun i=>(i.zero,i.size,i.bytes))=some (some (.bool false),1,1):=by kernel_rfl
theorem arv:(Tryz.prog.info? 5).map (fun i=>(i.zero,i.size,i.bytes))=some (some (.int .u8 0),1,1):=by kernel_rfl
theorem aq7:(Tryz.prog.info? 28).map (fun i=>(i.zero,i.size,i.bytes))=some (some (.slice none 0 0),1,24):=by kernel_rfl
theorem abb:(Tryz.prog.info? 31).map (fun i=>(i.zero,i.size,i.bytes))=some (some (.agg #[(.int .i64 0),(.int .i64 0),(.int .i64 0),(.int .i64 0),(.int .i64 0)]),5,40):=by kernel_rfl
theorem aq6:(Tryz.prog.info? 42).map (fun i=>(i.zero,i.size,i.bytes))=some (some (.slice none 0 0),1,24):=by kernel_rfl
theorem agS:(Tryz.prog.info? 54).map (fun i=>(i.zero,i.size,i.bytes))=some (some (.agg #[(.int .i64 0),(.int .i64 0)]),2,16):=by kernel_rfl
theorem aq5:(Tryz.prog.info? 61).map (fun i=>(i.zero,i.size,i.bytes))=some (some (.slice none 0 0),1,24):=by kernel_rfl
theorem aj3:(Tryz.prog.info? 135).map (fun i=>(i.zero,i.size,i.bytes))=some (some (.agg #[(.int .i64 0),(.int .i64 0),(.int .i64 0),(.int .i64 0),(.int .i64 0),(.slice none 0 0),(.slice none 0 0),(.slice none 0 0)]),8,112):=by kernel_rfl
-- the values' own types
structure S31 where
  f0:Int
  f1:Int
  f2:Int
  f3:Int
  f4:Int
def z31:S31:=⟨(0:Int),(0:Int),(0:Int),(0:Int),(0:Int)⟩
def k31:Kd S31:=Kd.iso (Kd.pair (Kd.int .i64) (Kd.pair (Kd.int .i64) (Kd.pair (Kd.int .i64) (Kd.pair (Kd.int .i64) (Kd.int .i64))))) (fun x:S31=>(x.f0,x.f1,x.f2,x.f3,x.f4))
theorem acF:Kd.Heap k31:=Kd.heap_iso _ (Kd.heap_pair (Kd.heap_int .i64) (Kd.heap_pair (Kd.heap_int .i64) (Kd.heap_pair (Kd.heap_int .i64) (Kd.heap_pair (Kd.heap_int .i64) (Kd.heap_int .i64)))))
theorem anq {w:World} {x:S31} {cs:List Value} (h:k31.K w x cs):cs=[.int .i64 x.f0,.int .i64 x.f1,.int .i64 x.f2,.int .i64 x.f3,.int .i64 x.f4]:=by
  obtain⟨_,_,rfl,rfl,⟨_,_,rfl,rfl,⟨_,_,rfl,rfl,⟨_,_,rfl,rfl,rfl⟩⟩⟩⟩:=h
  exact rfl
theorem acR {w:World} {base:Nat} {ok:Nat->Prop} {x:S31} {cs:List Value} (h:k31.M w base ok x cs):cs=[.int .i64 x.f0,.int .i64 x.f1,.int .i64 x.f2,.int .i64 x.f3,.int .i64 x.f4]:=by
  obtain⟨_,_,rfl,rfl,⟨_,_,rfl,rfl,⟨_,_,rfl,rfl,⟨_,_,rfl,rfl,rfl⟩⟩⟩⟩:=h
  exact rfl
theorem aaV (w:World) (base:Nat) (ok:Nat->Prop) (x:S31)  : k31.M w base ok x [.int .i64 x.f0,.int .i64 x.f1,.int .i64 x.f2,.int .i64 x.f3,.int .i64 x.f4]:=⟨[.int .i64 x.f0],[.int .i64 x.f1,.int .i64 x.f2,.int .i64 x.f3,.int .i64 x.f4],rfl,rfl,⟨[.int .i64 x.f1],[.int .i64 x.f2,.int .i64 x.f3,.int .i64 x.f4],rfl,rfl,⟨[.int .i64 x.f2],[.int .i64 x.f3,.int .i64 x.f4],rfl,rfl,⟨[.int .i64 x.f3],[.int .i64 x.f4],rfl,rfl,rfl⟩⟩⟩⟩
def aa0 (xs:List S31) (i:Int):S31:=xs.getD i.toNat z31
theorem aaQ {w:World} {A:Option Addr} {n:Nat} {xs:List S31} (h:Kd.C k31 w A n xs) (i:Int) (h0:0<=i) (h1:i < n):∃ ad ,A=some ad/\w.cell? (ad.add (i.toNat*5))=some (.int .i64 (aa0 xs i).f0)/\w.cell? ⟨(ad.add (i.toNat*5)).block,(ad.add (i.toNat*5)).off+1,none⟩=some (.int .i64 (aa0 xs i).f1)/\w.cell? ⟨(ad.add (i.toNat*5)).block,(ad.add (i.toNat*5)).off+2,none⟩=some (.int .i64 (aa0 xs i).f2)/\w.cell? ⟨(ad.add (i.toNat*5)).block,(ad.add (i.toNat*5)).off+3,none⟩=some (.int .i64 (aa0 xs i).f3)/\w.cell? ⟨(ad.add (i.toNat*5)).block,(ad.add (i.toNat*5)).off+4,none⟩=some (.int .i64 (aa0 xs i).f4):=by
  obtain⟨ad,c,e,_,hK,hc0⟩:=Kd.C_get h z31 i h0 h1
  have hc:∀ j u,c[j]?=some u->w.cell? (ad.add (i.toNat*5+j))=some u:=hc0
  obtain rfl:=anq hK
  exact⟨ad,e,hc 0 _ rfl,by rw [<- abh _ _ 1 (by omega)];exact hc 1 _ rfl,by rw [<- abh _ _ 2 (by omega)];exact hc 2 _ rfl,by rw [<- abh _ _ 3 (by omega)];exact hc 3 _ rfl,by rw [<- abh _ _ 4 (by omega)];exact hc 4 _ rfl⟩
structure aaN where
  f0:Int
  f1:Int
  f2:(List aaN)
def arf:aaN:=⟨(0:Int),(0:Int),([]:List aaN)⟩
def ard (d:Kd aaN):Kd aaN:=Kd.iso (Kd.pair (Kd.int .i64) (Kd.pair (Kd.int .i64) (Kd.slice 133 d))) (fun x:aaN=>(x.f0,x.f1,x.f2))
theorem al7:Kd.Mono ard:=Kd.mono_iso _ (Kd.mono_pair (Kd.mono_const _) (Kd.mono_pair (Kd.mono_const _) (Kd.mono_slice 133 Kd.mono_id)))
theorem apQ:Kd.Sub ard [133]:=Kd.sub_iso _ (Kd.sub_pair (Kd.sub_const _ (by decide)) (Kd.sub_pair (Kd.sub_const _ (by decide)) (Kd.sub_slice 133 (by decide) Kd.sub_id)))
theorem apO:∀ n,(Kd.upto ard 3 [133] n).sz=3:=Kd.upto_sz (fun _=>rfl)
def acN:Kd aaN:=Kd.fix ard 3 [133] apO (Kd.upto_E apQ)
theorem ai8 {w:World} {x:aaN} {cs:List Value} (h:acN.K w x cs):∃ A2 c2,cs=[.int .i64 x.f0,.int .i64 x.f1,.slice A2 x.f2.length c2]/\x.f2.length<=c2/\acN.C w A2 x.f2.length x.f2:=by
  obtain⟨n,h⟩:=h
  cases n with
  | zero=>exact h.elim
  | succ n =>
    obtain⟨_,_,rfl,rfl,⟨_,_,rfl,rfl,⟨A2,c2,rfl,l2,g2⟩⟩⟩:=h
    exact⟨A2,c2,rfl,l2,Kd.fix_C g2⟩
theorem alh (w:World) (x:aaN) {A2:Option Addr} {c2:Nat} (l2:x.f2.length<=c2) (g2:acN.C w A2 x.f2.length x.f2):acN.K w x [.int .i64 x.f0,.int .i64 x.f1,.slice A2 x.f2.length c2]:=by
  obtain⟨n2,q2⟩:=Kd.fix_C_back al7 g2
  have r2:=Kd.upto_C_le al7 apO (show n2<=n2 by omega) q2
  exact⟨n2+1,⟨[.int .i64 x.f0],[.int .i64 x.f1,.slice A2 x.f2.length c2],rfl,rfl,⟨[.int .i64 x.f1],[.slice A2 x.f2.length c2],rfl,rfl,⟨A2,c2,rfl,l2,r2⟩⟩⟩⟩
theorem ajQ (W:World) (ok:Nat->Prop) (x:aaN) {A2:Option Addr} {c2:Nat} (l2:x.f2.length<=c2) (g2:Kd.F acN W ok A2 x.f2.length x.f2):Kd.FK acN W ok x [.int .i64 x.f0,.int .i64 x.f1,.slice A2 x.f2.length c2]:=fun W2 hW=>alh W2 x l2 (g2 W2 hW)
def aaB (xs:List aaN) (i:Int):aaN:=xs.getD i.toNat arf
theorem ag7 {w:World} {A:Option Addr} {n:Nat} {xs:List aaN} (h:Kd.C acN w A n xs) (i:Int) (h0:0<=i) (h1:i < n):∃ ad A2 c2,A=some ad/\w.cell? (ad.add (i.toNat*3))=some (.int .i64 (aaB xs i).f0)/\w.cell? ⟨(ad.add (i.toNat*3)).block,(ad.add (i.toNat*3)).off+1,none⟩=some (.int .i64 (aaB xs i).f1)/\w.cell? ⟨(ad.add (i.toNat*3)).block,(ad.add (i.toNat*3)).off+2,none⟩=some (.slice A2 (aaB xs i).f2.length c2)/\(aaB xs i).f2.length<=c2/\acN.C w A2 (aaB xs i).f2.length (aaB xs i).f2:=by
  obtain⟨ad,c,e,_,hK,hc0⟩:=Kd.C_get h arf i h0 h1
  have hc:∀ j u,c[j]?=some u->w.cell? (ad.add (i.toNat*3+j))=some u:=hc0
  obtain⟨A2,c2,rfl,l2,g2⟩:=ai8 hK
  exact⟨ad,A2,c2,e,hc 0 _ rfl,by rw [<- abh _ _ 1 (by omega)];exact hc 1 _ rfl,by rw [<- abh _ _ 2 (by omega)];exact hc 2 _ rfl,l2,g2⟩
structure aam where
  f0:Int
  f1:Int
  f2:Int
  f3:aaN
  f4:(List aam)
  f5:(List aam)
def apH:aam:=⟨(0:Int),(0:Int),(0:Int),arf,([]:List aam),([]:List aam)⟩
def arc (d:Kd aam):Kd aam:=Kd.iso (Kd.pair (Kd.int .i64) (Kd.pair (Kd.int .i64) (Kd.pair (Kd.int .i64) (Kd.pair acN (Kd.pair (Kd.slice 135 d) (Kd.slice 135 d)))))) (fun x:aam=>(x.f0,x.f1,x.f2,x.f3,x.f4,x.f5))
theorem ahy:Kd.Mono arc:=Kd.mono_iso _ (Kd.mono_pair (Kd.mono_const _) (Kd.mono_pair (Kd.mono_const _) (Kd.mono_pair (Kd.mono_const _) (Kd.mono_pair (Kd.mono_const _) (Kd.mono_pair (Kd.mono_slice 135 Kd.mono_id) (Kd.mono_slice 135 Kd.mono_id))))))
theorem apP:Kd.Sub arc [133,135]:=Kd.sub_iso _ (Kd.sub_pair (Kd.sub_const _ (by decide)) (Kd.sub_pair (Kd.sub_const _ (by decide)) (Kd.sub_pair (Kd.sub_const _ (by decide)) (Kd.sub_pair (Kd.sub_const _ (by decide)) (Kd.sub_pair (Kd.sub_slice 135 (by decide) Kd.sub_id) (Kd.sub_slice 135 (by decide) Kd.sub_id))))))
theorem aoW:∀ n,(Kd.upto arc 8 [133,135] n).sz=8:=Kd.upto_sz (fun _=>rfl)
def abt:Kd aam:=Kd.fix arc 8 [133,135] aoW (Kd.upto_E apP)
theorem alg {w:World} {x:aam} {cs:List Value} (h:abt.K w x cs):∃ A5 c5 A6 c6 A7 c7,cs=[.int .i64 x.f0,.int .i64 x.f1,.int .i64 x.f2,.int .i64 x.f3.f0,.int .i64 x.f3.f1,.slice A5 x.f3.f2.length c5,.slice A6 x.f4.length c6,.slice A7 x.f5.length c7]/\x.f3.f2.length<=c5/\acN.C w A5 x.f3.f2.length x.f3.f2/\x.f4.length<=c6/\abt.C w A6 x.f4.length x.f4/\x.f5.length<=c7/\abt.C w A7 x.f5.length x.f5:=by
  obtain⟨n,h⟩:=h
  cases n with
  | zero=>exact h.elim
  | succ n =>
    obtain⟨_,_,rfl,rfl,⟨_,_,rfl,rfl,⟨_,_,rfl,rfl,⟨_,_,rfl,s3,⟨_,_,rfl,⟨A6,c6,rfl,l6,g6⟩,⟨A7,c7,rfl,l7,g7⟩⟩⟩⟩⟩⟩:=h
    obtain⟨A5,c5,rfl,l5,g5⟩:=ai8 s3
    exact⟨A5,c5,A6,c6,A7,c7,rfl,l5,g5,l6,Kd.fix_C g6,l7,Kd.fix_C g7⟩
theorem api (w:World) (x:aam) {A5:Option Addr} {c5:Nat} (l5:x.f3.f2.length<=c5) (g5:acN.C w A5 x.f3.f2.length x.f3.f2) {A6:Option Addr} {c6:Nat} (l6:x.f4.length<=c6) (g6:abt.C w A6 x.f4.length x.f4) {A7:Option Addr} {c7:Nat} (l7:x.f5.length<=c7) (g7:abt.C w A7 x.f5.length x.f5):abt.K w x [.int .i64 x.f0,.int .i64 x.f1,.int .i64 x.f2,.int .i64 x.f3.f0,.int .i64 x.f3.f1,.slice A5 x.f3.f2.length c5,.slice A6 x.f4.length c6,.slice A7 x.f5.length c7]:=by
  obtain⟨n6,q6⟩:=Kd.fix_C_back ahy g6
  obtain⟨n7,q7⟩:=Kd.fix_C_back ahy g7
  have r6:=Kd.upto_C_le ahy aoW (show n6<=(max n6 n7) by omega) q6
  have r7:=Kd.upto_C_le ahy aoW (show n7<=(max n6 n7) by omega) q7
  exact⟨(max n6 n7)+1,⟨[.int .i64 x.f0],[.int .i64 x.f1,.int .i64 x.f2,.int .i64 x.f3.f0,.int .i64 x.f3.f1,.slice A5 x.f3.f2.length c5,.slice A6 x.f4.length c6,.slice A7 x.f5.length c7],rfl,rfl,⟨[.int .i64 x.f1],[.int .i64 x.f2,.int .i64 x.f3.f0,.int .i64 x.f3.f1,.slice A5 x.f3.f2.length c5,.slice A6 x.f4.length c6,.slice A7 x.f5.length c7],rfl,rfl,⟨[.int .i64 x.f2],[.int .i64 x.f3.f0,.int .i64 x.f3.f1,.slice A5 x.f3.f2.length c5,.slice A6 x.f4.length c6,.slice A7 x.f5.length c7],rfl,rfl,⟨[.int .i64 x.f3.f0,.int .i64 x.f3.f1,.slice A5 x.f3.f2.length c5],[.slice A6 x.f4.length c6,.slice A7 x.f5.length c7],rfl,(alh w x.f3 l5 g5),⟨[.slice A6 x.f4.length c6],[.slice A7 x.f5.length c7],rfl,⟨A6,c6,rfl,l6,r6⟩,⟨A7,c7,rfl,l7,r7⟩⟩⟩⟩⟩⟩⟩
theorem ac0 (W:World) (ok:Nat->Prop) (x:aam) {A5:Option Addr} {c5:Nat} (l5:x.f3.f2.length<=c5) (g5:Kd.F acN W ok A5 x.f3.f2.length x.f3.f2) {A6:Option Addr} {c6:Nat} (l6:x.f4.length<=c6) (g6:Kd.F abt W ok A6 x.f4.length x.f4) {A7:Option Addr} {c7:Nat} (l7:x.f5.length<=c7) (g7:Kd.F abt W ok A7 x.f5.length x.f5):Kd.FK abt W ok x [.int .i64 x.f0,.int .i64 x.f1,.int .i64 x.f2,.int .i64 x.f3.f0,.int .i64 x.f3.f1,.slice A5 x.f3.f2.length c5,.slice A6 x.f4.length c6,.slice A7 x.f5.length c7]:=fun W2 hW=>api W2 x l5 (g5 W2 hW) l6 (g6 W2 hW) l7 (g7 W2 hW)
def aac (xs:List aam) (i:Int):aam:=xs.getD i.toNat apH
theorem ag6 {w:World} {A:Option Addr} {n:Nat} {xs:List aam} (h:Kd.C abt w A n xs) (i:Int) (h0:0<=i) (h1:i < n):∃ ad A5 c5 A6 c6 A7 c7,A=some ad/\w.cell? (ad.add (i.toNat*8))=some (.int .i64 (aac xs i).f0)/\w.cell? ⟨(ad.add (i.toNat*8)).block,(ad.add (i.toNat*8)).off+1,none⟩=some (.int .i64 (aac xs i).f1)/\w.cell? ⟨(ad.add (i.toNat*8)).block,(ad.add (i.toNat*8)).off+2,none⟩=some (.int .i64 (aac xs i).f2)/\w.cell? ⟨(ad.add (i.toNat*8)).block,(ad.add (i.toNat*8)).off+3,none⟩=some (.int .i64 (aac xs i).f3.f0)/\w.cell? ⟨(ad.add (i.toNat*8)).block,(ad.add (i.toNat*8)).off+4,none⟩=some (.int .i64 (aac xs i).f3.f1)/\w.cell? ⟨(ad.add (i.toNat*8)).block,(ad.add (i.toNat*8)).off+5,none⟩=some (.slice A5 (aac xs i).f3.f2.length c5)/\w.cell? ⟨(ad.add (i.toNat*8)).block,(ad.add (i.toNat*8)).off+6,none⟩=some (.slice A6 (aac xs i).f4.length c6)/\w.cell? ⟨(ad.add (i.toNat*8)).block,(ad.add (i.toNat*8)).off+7,none⟩=some (.slice A7 (aac xs i).f5.length c7)/\(aac xs i).f3.f2.length<=c5/\acN.C w A5 (aac xs i).f3.f2.length (aac xs i).f3.f2/\(aac xs i).f4.length<=c6/\abt.C w A6 (aac xs i).f4.length (aac xs i).f4/\(aac xs i).f5.length<=c7/\abt.C w A7 (aac xs i).f5.length (aac xs i).f5:=by
  obtain⟨ad,c,e,_,hK,hc0⟩:=Kd.C_get h apH i h0 h1
  have hc:∀ j u,c[j]?=some u->w.cell? (ad.add (i.toNat*8+j))=some u:=hc0
  obtain⟨A5,c5,A6,c6,A7,c7,rfl,l5,g5,l6,g6,l7,g7⟩:=alg hK
  exact⟨ad,A5,c5,A6,c6,A7,c7,e,hc 0 _ rfl,by rw [<- abh _ _ 1 (by omega)];exact hc 1 _ rfl,by rw [<- abh _ _ 2 (by omega)];exact hc 2 _ rfl,by rw [<- abh _ _ 3 (by omega)];exact hc 3 _ rfl,by rw [<- abh _ _ 4 (by omega)];exact hc 4 _ rfl,by rw [<- abh _ _ 5 (by omega)];exact hc 5 _ rfl,by rw [<- abh _ _ 6 (by omega)];exact hc 6 _ rfl,by rw [<- abh _ _ 7 (by omega)];exact hc 7 _ rfl,l5,g5,l6,g6,l7,g7⟩
structure S54 where
  f0:Int
  f1:Int
def z54:S54:=⟨(0:Int),(0:Int)⟩
def k54:Kd S54:=Kd.iso (Kd.pair (Kd.int .i64) (Kd.int .i64)) (fun x:S54=>(x.f0,x.f1))
theorem anp {w:World} {x:S54} {cs:List Value} (h:k54.K w x cs):cs=[.int .i64 x.f0,.int .i64 x.f1]:=by
  obtain⟨_,_,rfl,rfl,rfl⟩:=h
  exact rfl
theorem abp {w:World} {base:Nat} {ok:Nat->Prop} {x:S54} {cs:List Value} (h:k54.M w base ok x cs):cs=[.int .i64 x.f0,.int .i64 x.f1]:=by
  obtain⟨_,_,rfl,rfl,rfl⟩:=h
  exact rfl
theorem ae1 (w:World) (base:Nat) (ok:Nat->Prop) (x:S54)  : k54.M w base ok x [.int .i64 x.f0,.int .i64 x.f1]:=⟨[.int .i64 x.f0],[.int .i64 x.f1],rfl,rfl,rfl⟩
def aaa (xs:List S54) (i:Int):S54:=xs.getD i.toNat z54
theorem abe {w:World} {A:Option Addr} {n:Nat} {xs:List S54} (h:Kd.C k54 w A n xs) (i:Int) (h0:0<=i) (h1:i < n):∃ ad ,A=some ad/\w.cell? (ad.add (i.toNat*2))=some (.int .i64 (aaa xs i).f0)/\w.cell? ⟨(ad.add (i.toNat*2)).block,(ad.add (i.toNat*2)).off+1,none⟩=some (.int .i64 (aaa xs i).f1):=by
  obtain⟨ad,c,e,_,hK,hc0⟩:=Kd.C_get h z54 i h0 h1
  have hc:∀ j u,c[j]?=some u->w.cell? (ad.add (i.toNat*2+j))=some u:=hc0
  obtain rfl:=anp hK
  exact⟨ad,e,hc 0 _ rfl,by rw [<- abh _ _ 1 (by omega)];exact hc 1 _ rfl⟩
def aaz (xs:List (List S54)) (i:Int):(List S54):=xs.getD i.toNat ([]:List S54)
theorem ahL {w:World} {A:Option Addr} {n:Nat} {xs:List (List S54)} (h:Kd.C (Kd.slice 54 k54) w A n xs) (i:Int) (h0:0<=i) (h1:i < n):∃ ad A0 c0,A=some ad/\w.cell? (ad.add i.toNat)=some (.slice A0 (aaz xs i).length c0)/\(aaz xs i).length<=c0/\k54.C w A0 (aaz xs i).length (aaz xs i):=by
  obtain⟨ad,c,e,_,hK,hc0⟩:=Kd.C_get h ([]:List S54) i h0 h1
  have hc:∀ j u,c[j]?=some u->w.cell? (ad.add (i.toNat*1+j))=some u:=hc0
  obtain⟨A0,c0,rfl,l0,g0⟩:=hK
  exact⟨ad,A0,c0,e,by have hq:=hc 0 _ rfl;rwa [Nat.mul_one,Nat.add_zero] at hq,l0,g0⟩
def ab1 (xs:List (List Int)) (i:Int):(List Int):=xs.getD i.toNat ([]:List Int)
theorem afr {w:World} {A:Option Addr} {n:Nat} {xs:List (List Int)} (h:Kd.C (Kd.slice 3 (Kd.int .i64)) w A n xs) (i:Int) (h0:0<=i) (h1:i < n):∃ ad A0 c0,A=some ad/\w.cell? (ad.add i.toNat)=some (.slice A0 (ab1 xs i).length c0)/\(ab1 xs i).length<=c0/\(Kd.int .i64).C w A0 (ab1 xs i).length (ab1 xs i):=by
  obtain⟨ad,c,e,_,hK,hc0⟩:=Kd.C_get h ([]:List Int) i h0 h1
  have hc:∀ j u,c[j]?=some u->w.cell? (ad.add (i.toNat*1+j))=some u:=hc0
  obtain⟨A0,c0,rfl,l0,g0⟩:=hK
  exact⟨ad,A0,c0,e,by have hq:=hc 0 _ rfl;rwa [Nat.mul_one,Nat.add_zero] at hq,l0,g0⟩
def acQ (xs:List (List Bool)) (i:Int):(List Bool):=xs.getD i.toNat ([]:List Bool)
theorem aqe {w:World} {A:Option Addr} {n:Nat} {xs:List (List Bool)} (h:Kd.C (Kd.slice 4 Kd.bool) w A n xs) (i:Int) (h0:0<=i) (h1:i < n):∃ ad A0 c0,A=some ad/\w.cell? (ad.add i.toNat)=some (.slice A0 (acQ xs i).length c0)/\(acQ xs i).length<=c0/\Kd.bool.C w A0 (acQ xs i).length (acQ xs i):=by
  obtain⟨ad,c,e,_,hK,hc0⟩:=Kd.C_get h ([]:List Bool) i h0 h1
  have hc:∀ j u,c[j]?=some u->w.cell? (ad.add (i.toNat*1+j))=some u:=hc0
  obtain⟨A0,c0,rfl,l0,g0⟩:=hK
  exact⟨ad,A0,c0,e,by have hq:=hc 0 _ rfl;rwa [Nat.mul_one,Nat.add_zero] at hq,l0,g0⟩
theorem qE {α β:Type} {o:Option α} {f:α->Option β} {r:β} (h:o.bind f=some r):∃ a,aa1 (o=some a)/\f a=some r:=by
  obtain⟨a,h1,h2⟩:=Option.bind_eq_some_iff.mp h
  exact⟨a,⟨h1⟩,h2⟩
theorem qB {B:Nat} {w W:World} (h:Below B w W:=by repeat (first|(with_reducible first|exact HB.out|apply aax|apply aan|apply aah|refine aad ?_ (aa1.out (by assumption)))|exact HB.out)):Below B w W:=h
theorem qD {p:Prop} [d:Decidable p] (h:decide p=true:=by first|(with_reducible assumption)|assumption):p:=of_decide_eq_true h
theorem qZ {p:Prop} (h:p:=by first|rfl|(simp;done)|(simp [*];done)):p:=h
theorem qM {p:Prop} (h:p:=by (try simp only [List.map_toArray,List.map_cons,List.map_nil]);first|done|rfl|(simp only [List.length_drop,List.length_take];rfl)):p:=h
theorem qK {p q:Prop} (h:aa1 p) (f:p->q:=by intro h_;(with_reducible repeat (first|refine abF ?_ _|refine aaS ?_|refine acr ?_ _));exact h_):q:=f h.out
theorem qR {p q:Prop} (h:aa1 p) (f:p->q:=by intro h_;(with_reducible repeat (first|apply Kd.R_alloc|apply Kd.R_drewN|apply Kd.R_drew));exact h_):q:=f h.out
theorem qH {p:Prop} (h:p:=by repeat (first|(with_reducible first|exact HK.out|apply afp|apply agQ|apply aei|apply agR|refine ahB ?_ (aa1.out (by assumption)) _)|exact HK.out)):p:=h
theorem qT {p:Prop} (h:p:=by repeat (first|(with_reducible first|exact HK.out|apply Kept.alloc|apply Kept.drewN|apply Kept.drew)|exact HK.out)):p:=h
theorem qN {p q:Prop} (h:aa1 p) (f:p->q:=by intro h_;(with_reducible repeat (first|apply Kd.N_alloc|apply Kd.N_drewN|apply Kd.N_drew));exact h_):q:=f h.out
theorem qV {p q:Prop} (h:aa1 p) (f:p->q:=by intro h_;(with_reducible repeat (first|apply Kd.V_alloc|apply Kd.V_drewN|apply Kd.V_drew));exact h_):q:=f h.out
theorem qS {p q:Prop} (h:aa1 p) (f:p->q:=by intro h_;(with_reducible repeat (first|apply Kd.S_alloc|apply Kd.S_drewN|apply Kd.S_drew));exact h_):q:=f h.out
theorem abY {w:World} {ad:Addr} {n:Nat} {xs:List S31} (h:Kd.C k31 w (some ad) n xs) (i:Int) (h0:0<=i) (h1:i < n):w.cell? (ad.add (i.toNat*5))=some (.int .i64 (aa0 xs i).f0):=by
  obtain⟨ad2,e,h_0,h_1,h_2,h_3,h_4⟩:=aaQ h i h0 h1
  injection e with e
  subst e
  exact h_0
theorem abX {w:World} {ad:Addr} {n:Nat} {xs:List S31} (h:Kd.C k31 w (some ad) n xs) (i:Int) (h0:0<=i) (h1:i < n):w.cell? ⟨(ad.add (i.toNat*5)).block,(ad.add (i.toNat*5)).off+1,none⟩=some (.int .i64 (aa0 xs i).f1):=by
  obtain⟨ad2,e,h_0,h_1,h_2,h_3,h_4⟩:=aaQ h i h0 h1
  injection e with e
  subst e
  exact h_1
theorem abW {w:World} {ad:Addr} {n:Nat} {xs:List S31} (h:Kd.C k31 w (some ad) n xs) (i:Int) (h0:0<=i) (h1:i < n):w.cell? ⟨(ad.add (i.toNat*5)).block,(ad.add (i.toNat*5)).off+2,none⟩=some (.int .i64 (aa0 xs i).f2):=by
  obtain⟨ad2,e,h_0,h_1,h_2,h_3,h_4⟩:=aaQ h i h0 h1
  injection e with e
  subst e
  exact h_2
theorem abV {w:World} {ad:Addr} {n:Nat} {xs:List S31} (h:Kd.C k31 w (some ad) n xs) (i:Int) (h0:0<=i) (h1:i < n):w.cell? ⟨(ad.add (i.toNat*5)).block,(ad.add (i.toNat*5)).off+3,none⟩=some (.int .i64 (aa0 xs i).f3):=by
  obtain⟨ad2,e,h_0,h_1,h_2,h_3,h_4⟩:=aaQ h i h0 h1
  injection e with e
  subst e
  exact h_3
theorem abU {w:World} {ad:Addr} {n:Nat} {xs:List S31} (h:Kd.C k31 w (some ad) n xs) (i:Int) (h0:0<=i) (h1:i < n):w.cell? ⟨(ad.add (i.toNat*5)).block,(ad.add (i.toNat*5)).off+4,none⟩=some (.int .i64 (aa0 xs i).f4):=by
  obtain⟨ad2,e,h_0,h_1,h_2,h_3,h_4⟩:=aaQ h i h0 h1
  injection e with e
  subst e
  exact h_4
theorem acg {w:World} {ad:Addr} {n:Nat} {xs:List S54} (h:Kd.C k54 w (some ad) n xs) (i:Int) (h0:0<=i) (h1:i < n):w.cell? (ad.add (i.toNat*2))=some (.int .i64 (aaa xs i).f0):=by
  obtain⟨ad2,e,h_0,h_1⟩:=abe h i h0 h1
  injection e with e
  subst e
  exact h_0
theorem acf {w:World} {ad:Addr} {n:Nat} {xs:List S54} (h:Kd.C k54 w (some ad) n xs) (i:Int) (h0:0<=i) (h1:i < n):w.cell? ⟨(ad.add (i.toNat*2)).block,(ad.add (i.toNat*2)).off+1,none⟩=some (.int .i64 (aaa xs i).f1):=by
  obtain⟨ad2,e,h_0,h_1⟩:=abe h i h0 h1
  injection e with e
  subst e
  exact h_1
theorem afV {W w':World} {n:Nat} (hq:W.drewN n=w') {a:Addr} {b:Bool} (h:W.frozen? a=b):w'.frozen? a=b:=by
  rw [<- hq,World.frozen?_drewN];exact h
theorem akx {α β:Type} {d:Kd α} {d':Kd β} {e e':Nat} {w:World} {base:Nat} {ok:Nat->Prop} {v:Value} {xs:List α} (h:d.R e w base ok v xs) (hne:∀ q,q∈e' :: d'.E->q≠e) {k:Nat} (hk:some k=v.ownBlock) (hs:∃ q,q∈e' :: d'.E/\∃ cells,w.heap[k]?=some (.cells cells q (0,0))):False:=by
  obtain⟨q,hq,c,hc⟩:=hs
  obtain⟨c',hc'⟩:=Kd.R_typed h k hk.symm
  rw [hc] at hc'
  injection hc' with hc'
  injection hc' with _ hc'
  exact hne q hq hc'
def jb (n k:Nat):Array Bool:=((List.range n).map fun i=>k.testBit i).toArray
theorem jI {c:Prop} [Decidable c] {α:Type} {A:Option α} {r:α} (h:(if c then A else none)=some r):decide c=true/\A=some r:=by
  by_cases x:c
  · exact⟨decide_eq_true x,by rwa [if_pos x] at h⟩
  · rw [if_neg x] at h;cases h
theorem jU {c:Prop} [Decidable c] {α:Type} {A:Option α} {r:α} (h:(if c then A else none)=some r):c/\A=some r:=⟨of_decide_eq_true (jI h).1,(jI h).2⟩
theorem jJ {c:Prop} [Decidable c] {α:Type} {A:Option α} {r:α} (h:(if c then A else none)=some r):c=True/\decide c=true/\A=some r:=⟨eq_true (jU h).1,jI h⟩
theorem jL {c:Prop} [Decidable c] {α:Type} {A:Option α} {r:α} (h:(if c then A else none)=some r):aa1 c/\A=some r:=⟨⟨(jU h).1⟩,(jU h).2⟩
theorem jD {c:Prop} [Decidable c] {α:Type} {A B:Option α} {r:α} (h:(if c then A else B)=some r):(decide c=true/\A=some r)\/(decide c=false/\B=some r):=by
  by_cases x:c
  · exact .inl ⟨decide_eq_true x,by rwa [if_pos x] at h⟩
  · exact .inr ⟨decide_eq_false x,by rwa [if_neg x] at h⟩
theorem jE {β:Type} [BEq β] [LawfulBEq β] {x y:β} [Decidable (x=y)] {α:Type} {A B:Option α} {r:α} (h:(if x=y then A else B)=some r):((x == y)=true/\(x != y)=false/\A=some r)\/(¬ x=y/\(x == y)=false/\(x != y)=true/\B=some r):=by
  by_cases c:x=y
  · exact .inl ⟨beq_iff_eq.mpr c,bne_eq_false_iff_eq.mpr c,by rwa [if_pos c] at h⟩
  · exact .inr ⟨c,beq_eq_false_iff_ne.mpr c,bne_iff_ne.mpr c,by rwa [if_neg c] at h⟩
theorem jB {b:Bool} {α:Type} {A B:Option α} {r:α} (h:(if b=true then A else B)=some r):(b=true/\A=some r)\/(b=false/\B=some r):=by
  cases b
  · exact .inr ⟨rfl,h⟩
  · exact .inl ⟨rfl,h⟩
theorem afD {w:World} {g g' j:Nat} {o:Option Obj} (h:w.heap[g]?=o) (hp:g≠g') (u:Value):(w.setCell ⟨g',j,none⟩ u).heap[g]?=o:=(Below.heap_setCell w ⟨g',j,none⟩ u g hp).trans h
theorem anD {w:World} {g g' j:Nat} {o:Option Obj} {u:Value} (h:w.heap[g]?=o) (hp:aa1 (g≠g')):(w.setCell ⟨g',j,none⟩ u).heap[g]?=o:=(Below.heap_setCell w ⟨g',j,none⟩ u g hp.out).trans h
theorem anC {w:World} {g t j:Nat} {cs:Array Value} {v:Value} (h:w.heap[g]?=some (.cells cs t (0,0))):(w.setCell ⟨g,j,none⟩ v).heap[g]?=some (.cells (cs.setIfInBounds j v) t (0,0)):=alH h j v rfl
theorem qF {p q:Prop} (h:aa1 p) (f:p->q:=by
    intro h_
    apply Eq.trans
    · repeat (with_reducible first|exact h_|assumption|apply anC|apply anD|apply abF|apply aaS|apply acr)
    · rfl):q:=f h.out
theorem qL {p q:Prop} (h:aa1 p) (f:p->q:=by intro h_;(with_reducible repeat (first|refine abF ?_ _|refine aaS ?_|refine acr ?_ _|refine afD ?_ (aa1.out (by assumption)) _));exact h_):q:=f h.out
theorem mM {α:Type} {x y:Option α} (h:LeO x y:=by repeat' (first|(with_reducible first|exact aeL _|exact acJ _|refine adG ?_ ?_|refine LeO.bind ?_ (fun _=>?_)|apply_assumption)|exact acJ _|apply_assumption|refine adG ?_ ?_|refine LeO.bind ?_ (fun _=>?_))):LeO x y:=h
theorem kC {p q:Prop} (h:p) (f:p->q:=by intro h_;repeat (first|exact h_|(with_reducible refine Kd.C_alloc ?_ _)|(with_reducible refine Kd.C_drewN ?_ _)|(with_reducible refine Kd.C_drew ?_))):q:=f h
theorem kn {w:World} {a:Addr} {v:Value} {b g:Nat} (h:w.cell? a=some v) (hg:aa1 (w.heap.size<=g)) (e:a.block=b:=by first|rfl|exact add_block _ _):b≠g:=Nat.ne_of_lt (Nat.lt_of_lt_of_le (e ▸ World.block_lt_of_cell? _ _ h) hg.out)
theorem kx {w W:World} {a:Addr} {v:Value} (hb:aa1 (Below w.heap.size w W)) (h:w.cell? a=some v):W.cell? a=some v:=(hb.out.cell (World.block_lt_of_cell? w _ h)).trans h
theorem ky {α:Type} (E:α):∃ y,aa1 (y=E):=⟨E,⟨rfl⟩⟩
theorem kz {α β:Type} {y E:α} {f:α->Option β} {r:β} (N:aa1 (y=E)) (h:(some E).bind f=some r):f y=some r:=by rw [N.out];exact h
theorem kQ {α:Type} {d:Kd α} {A:Option Addr} {n:Nat} {xs:List α} {w0 W w1:World} (h:aa1 (d.C w0 A n xs)) (hb:Below W.heap.size W w1) (f:d.C w0 A n xs->d.C W A n xs:=by intro h_;exact kC h_):aa1 (d.C w1 A n xs):=⟨Kd.C_below (f h.out) hb⟩
theorem kT {w W w1:World} {S:Nat->Prop} (hb:Below W.heap.size W w1) (h:Kept w W S:=by exact qT):aa1 (Kept w w1 S):=⟨Kept.below h hb⟩
theorem kW {W w1:World} {a:Addr} {v:Value} (hb:Below W.heap.size W w1) (h:aa1 (W.cell? a=some v)):aa1 (w1.cell? a=some v):=⟨abn hb h.out⟩
theorem kL {α:Type} {d:Kd α} {e:Nat} {ok:Nat->Prop} {v:Value} {xs:List α} {w W w1:World} (h:d.R e w1 W.heap.size ok v xs) (hb:w.heap.size<=W.heap.size:=by exact aa4 qB):aa1 (d.R e w1 w.heap.size ok v xs):=⟨Kd.R_lower h hb⟩
theorem kO {α β:Type} {d:Kd α} {d':Kd β} {e e' base:Nat} {ok ok':Nat->Prop} {u v:Value} {xs:List α} {ys:List β} {w0 W w1 w2:World} (h:aa1 (d.R e w0 base ok u xs)) (ho:d'.R e' w2 W.heap.size ok' v ys) (hb:Below W.heap.size W w1) (f:d.R e w0 base ok u xs->d.R e W base ok u xs:=by intro h_;(with_reducible repeat (first|apply Kd.R_alloc|apply Kd.R_drewN|apply Kd.R_drew));exact h_):aa1 (d.R e w1 base (fun k=>ok k/\some k≠v.ownBlock) u xs):=⟨Kd.R_elder' (f h.out) (Kd.R_base ho) hb⟩
theorem kf {p q:Prop} (h:p) (f:p->q:=by intro h_;first|exact h_|(rw [add_block];exact h_)|(show (Addr.add _ _).block≠_;rw [add_block];exact h_)|(dsimp only;exact h_)):q:=f h
theorem qW {p:Prop} (h:p:=by first|rfl|(simp [aaF,aaE] <;> rfl)|(simp [*,aaF,aaE] <;> rfl)):p:=h
theorem qU {p:Prop} (h:p:=by repeat (first|exact aaW _|apply aaC.step)):p:=h
theorem kH {w W w1:World} (hb:Below W.heap.size W w1) (h:Below w.heap.size w W:=by exact qB):aa1 (Below w.heap.size w w1):=⟨aaL h hb⟩
theorem kB {w0 W w1:World} {g:Nat} {o:Obj} (h:aa1 (w0.heap[g]?=some o)) (hb:Below W.heap.size W w1) (f:w0.heap[g]?=some o->W.heap[g]?=some o:=by intro h_;(with_reducible repeat (first|refine abF ?_ _|refine aaS ?_|refine acr ?_ _|refine afD ?_ (aa1.out (by assumption)) _));exact h_):aa1 (w1.heap[g]?=some o):=⟨aaO (f h.out) hb⟩
theorem kR {α:Type} {d:Kd α} {e base:Nat} {ok:Nat->Prop} {v:Value} {xs:List α} {w0 W w1:World} (h:aa1 (d.R e w0 base ok v xs)) (hb:Below W.heap.size W w1) (f:d.R e w0 base ok v xs->d.R e W base ok v xs:=by intro h_;(with_reducible repeat (first|apply Kd.R_alloc|apply Kd.R_drewN|apply Kd.R_drew));exact h_):aa1 (d.R e w1 base ok v xs):=⟨Kd.R_below (f h.out) hb⟩
theorem kG {w W:World} {g:Nat} (hg:g=W.heap.size) (h:w.heap.size<=W.heap.size:=by exact aa4 qB):aa1 (w.heap.size<=g):=⟨hg ▸ h⟩
theorem kN {w0 W:World} {g g1:Nat} {o:Obj} (hg:g1=W.heap.size) (h:aa1 (w0.heap[g]?=some o)) (f:w0.heap[g]?=some o->W.heap[g]?=some o:=by intro h_;(with_reducible repeat (first|refine abF ?_ _|refine aaS ?_|refine acr ?_ _|refine afD ?_ (aa1.out (by assumption)) _));exact h_):aa1 (g≠g1):=⟨by rw [hg];exact Nat.ne_of_lt (ab3 (f h.out))⟩
theorem kM {w0 W:World} {g g1:Nat} {o:Obj} (hg:g1=W.heap.size) (h:aa1 (w0.heap[g]?=some o)) (f:w0.heap[g]?=some o->W.heap[g]?=some o:=by intro h_;(with_reducible repeat (first|refine abF ?_ _|refine aaS ?_|refine acr ?_ _|refine afD ?_ (aa1.out (by assumption)) _));exact h_):aa1 (g1≠g):=⟨by rw [hg];exact Nat.ne_of_gt (ab3 (f h.out))⟩
theorem kS {α:Type} {d:Kd α} {e base:Nat} {ok:Nat->Prop} {v:Value} {xs:List α} {w0 W w1:World} (h:aa1 (d.S e w0 base ok v xs)) (hb:Below W.heap.size W w1) (f:d.S e w0 base ok v xs->d.S e W base ok v xs:=by intro h_;(with_reducible repeat (first|apply Kd.S_alloc|apply Kd.S_drewN|apply Kd.S_drew));exact h_):aa1 (d.S e w1 base ok v xs):=⟨Kd.S_below (f h.out) hb⟩
section
variable {P:Program} {ops:Array Oper} {rest:List Oper} {o:Oper} {a:Act} {Q:Exit->Act->World->Prop}
theorem jV {α:Type} (d:Kd α) {W:World} (e:Nat) (xs:List α) (inner:List Value) {N:Tmp} (hrep:aav (d.M W W.heap.size (fun _=>True)) d.sz xs inner) (h:∀ v1 w1,d.R e w1 W.heap.size (fun _=>True) v1 xs->Below W.heap.size W w1->wpList P ops Q rest (a.put o.dst v1) w1) (hgd:o.guard=none:=by rfl) (hd:o.dst=some N:=by rfl)
    (hrun:(execOp a.eval o).run P W = .ok (.value (.slice (some ⟨W.heap.size,0,none⟩) xs.length xs.length)) (W.alloc (.cells inner.toArray e)):=by first|(go_simp;done)|(go_simp;rfl)) (hm:xs.length<=9223372036854775807:=by simp):wpList P ops Q (o :: rest) a W :=
  Kd.R_lit d _ e hgd hd hrun hrep (fun _ hk=>hk) trivial (Below.refl _ _) (Nat.le_refl _) hm (fun v1 w1 h1 h2 _ _=>h v1 w1 h1 h2)
theorem jc {w:World} (f m:Nat) {xs:Array Operand} {ts:Array TypeId} (h:wpList P ops Q (o :: rest) a w) (_h:o.op = .call { callee:=.value (.func f),args:=xs,argTypes:=ts }:=by with_reducible rfl) (_g:o.dst=some m:=by with_reducible rfl):wpList P ops Q (o :: rest) a w:=h
theorem jd {w:World} (m:Nat) (h:wpList P ops Q (o :: rest) a w) (_g:o.dst=some m:=by with_reducible rfl):wpList P ops Q (o :: rest) a w:=h
theorem jX {W:World} (cs:Array Value) (t:TypeId) {N:Tmp} (h:∀ g,g=W.heap.size->∀ w1,w1.heap[g]?=some (.cells cs t (0,0))->Below W.heap.size W w1->wpList P ops Q rest (a.put o.dst (.pointer (some ⟨g,0,none⟩))) w1) (hgd:o.guard=none:=by rfl) (hd:o.dst=some N:=by rfl)
    (hrun:(execOp a.eval o).run P W = .ok (.value (.pointer (some ⟨W.heap.size,0,none⟩))) (W.alloc (.cells cs t (0,0))):=by first|(go_simp;done)|(go_simp;rfl)):wpList P ops Q (o :: rest) a W:=aer hgd hd hrun h
theorem jG {w:World} {f:FuncId} {fn:Func} {xs:Array Operand} {ts:Array TypeId} {N:Option Tmp} (hf:P.funcs[f]?=some fn) (args:Array Value) (h:Calls P f args w fun e w'=>∃ v,e = .returned v/\wpList P ops Q rest (a.put N v) w') (hd:o.dst=N:=by rfl) (hg:o.guard=none:=by rfl) (hname:(fn.name == "runtime.NumGoroutine")=false:=by kernel_rfl) (hb:fn.body.isSome=true:=by rfl)
    (hop:o.op = .call { callee:=.value (.func f),args:=xs,argTypes:=ts }:=by rfl) (hargs:xs.map a.eval=args:=by exact qM):wpList P ops Q (o :: rest) a w:=aej N hd hg hf hname hb args hop hargs h
theorem jK {w:World} {f:FuncId} {fn:Func} {xs:Array Operand} {ts:Array TypeId} {N:Option Tmp} {args:Array Value} {v:Value} {R:World->Prop} (hf:P.funcs[f]?=some fn) (hc:Calls P f args w fun e w'=>e = .returned v/\R w') (h:∀ w',R w'->wpList P ops Q rest (a.put N v) w') (hd:o.dst=N:=by rfl) (hg:o.guard=none:=by rfl) (hname:(fn.name == "runtime.NumGoroutine")=false:=by kernel_rfl) (hb:fn.body.isSome=true:=by rfl)
    (hop:o.op = .call { callee:=.value (.func f),args:=xs,argTypes:=ts }:=by rfl) (hargs:xs.map a.eval=args:=by exact qM):wpList P ops Q (o :: rest) a w:=aej N hd hg hf hname hb args hop hargs (hc.mono fun _ w' k=>⟨v,k.1,h w' k.2⟩)
theorem jM {w:World} {f:FuncId} {fn:Func} {xs:Array Operand} {ts:Array TypeId} {N:Option Tmp} {args:Array Value} {β:Type} {v:β->Value} {R:β->World->Prop} (hf:P.funcs[f]?=some fn) (hc:Calls P f args w fun e w'=>∃ u,e = .returned (v u)/\R u w') (h:∀ u w',R u w'->wpList P ops Q rest (a.put N (v u)) w') (hd:o.dst=N:=by rfl) (hg:o.guard=none:=by rfl) (hname:(fn.name == "runtime.NumGoroutine")=false:=by kernel_rfl) (hb:fn.body.isSome=true:=by rfl)
    (hop:o.op = .call { callee:=.value (.func f),args:=xs,argTypes:=ts }:=by rfl) (hargs:xs.map a.eval=args:=by exact qM):wpList P ops Q (o :: rest) a w:=aej N hd hg hf hname hb args hop hargs (hc.mono fun _ w' ⟨u,k,r⟩=>⟨v u,k,h u w' r⟩)
theorem jO {w:World} {f:FuncId} {fn:Func} {xs:Array Operand} {ts:Array TypeId} {N:Option Tmp} {args:Array Value} {R:Ending->World->Prop} (hf:P.funcs[f]?=some fn) (hc:Calls P f args w R) (h:∀ e w',R e w'->∃ v,e = .returned v/\wpList P ops Q rest (a.put N v) w') (hd:o.dst=N:=by rfl) (hg:o.guard=none:=by rfl) (hname:(fn.name == "runtime.NumGoroutine")=false:=by kernel_rfl) (hb:fn.body.isSome=true:=by rfl)
    (hop:o.op = .call { callee:=.value (.func f),args:=xs,argTypes:=ts }:=by rfl) (hargs:xs.map a.eval=args:=by exact qM):wpList P ops Q (o :: rest) a w:=aej N hd hg hf hname hb args hop hargs (hc.mono h)
theorem jY {W:World} (cs:Array Value) (t:TypeId) {N:Tmp} (h:∀ g,g=W.heap.size->∀ w1,aa1 (w1.heap[g]?=some (.cells cs t (0,0)))->Below W.heap.size W w1->wpList P ops Q rest (a.put o.dst (.pointer (some ⟨g,0,none⟩))) w1) (hgd:o.guard=none:=by rfl) (hd:o.dst=some N:=by rfl)
    (hrun:(execOp a.eval o).run P W = .ok (.value (.pointer (some ⟨W.heap.size,0,none⟩))) (W.alloc (.cells cs t (0,0))):=by first|(go_simp;done)|(go_simp;rfl)):wpList P ops Q (o :: rest) a W:=aer hgd hd hrun fun g e w1 b=>h g e w1 ⟨b⟩
theorem jp {md:Region.Mode} {S:World->Prop} {ds:List Nat} (i m:Nat) {oi:Oper} {v:Value} {fuel:Nat} {l:Array Bool} {w:World} (l':Array Bool) {a':Act} (h:aag P md ops Q S ds fuel l' a' w) (hi:ops[i]?=some oi:=by rfl) (hN:oi.dst=some m:=by rfl) (hc:apE md ops l l' i=true:=by exact aqf HT_.out (by kernel_rfl))
    (hQ:∀ c a w,Q (.panic c) (a.put oi.dst v) w->Q (.panic c) a w:=by exact fun _ _ _ h=>h) (hy:Yields P ops oi v a:=by refine Or.inl ⟨by rfl,?_⟩;intro w';go_simp;with_reducible rfl) (ha:a.put (some m) v=a':=by simp only [Act.put,List.setIfInBounds_toArray,List.set_cons_zero,List.set_cons_succ,aaw,aaA];rfl):aag P md ops Q S ds (fuel+1) l a w:=aed l' hi hN hc hQ hy ha h
theorem jt {md:Region.Mode} {S:World->Prop} {ds:List Nat} (i m:Nat) {oi:Oper} {v:Value} {fuel:Nat} {l:Array Bool} {w:World} (l':Array Bool) {a':Act} (h:aag P md ops Q S ds fuel l' a' w) (hi:ops[i]?=some oi:=by rfl) (hN:oi.dst=some m:=by rfl) (hc:takeB md ops ds l l' i=true:=by exact ajw HT_.out HW_.out (by kernel_rfl))
    (hQ:∀ c a w,Q (.panic c) (a.put oi.dst v) w->Q (.panic c) a w:=by exact fun _ _ _ h=>h) (hy:YieldsIf P ops S oi v a:=by refine Or.inl ⟨by rfl,?_⟩;intro w' hS_;repeat (obtain⟨s_,hS_⟩:=hS_);go_simp;with_reducible rfl) (hS:S w:=by exact hHeld) (ha:a.put (some m) v=a':=by simp only [Act.put,List.setIfInBounds_toArray,List.set_cons_zero,List.set_cons_succ,aaw,aaA];rfl):aag P md ops Q S ds (fuel+1) l a w:=take_ l' hi hN hc hQ hy hS ha h
end
theorem jz2 {w:World} {g t:Nat} {a0 a1:Value} (h:aa1 (w.heap[g]?=some (.cells #[a0,a1] t (0,0)))):w.cell? ⟨g,0,none⟩=some a0/\w.cell? ⟨g,1,none⟩=some a1/\w.frozen? ⟨g,0,none⟩=false/\w.frozen? ⟨g,1,none⟩=false:=⟨(aa3 h.out 0).trans rfl,(aa3 h.out 1).trans rfl,aa6 h.out 0,aa6 h.out 1⟩
theorem jz3 {w:World} {g t:Nat} {a0 a1 a2:Value} (h:aa1 (w.heap[g]?=some (.cells #[a0,a1,a2] t (0,0)))):w.cell? ⟨g,0,none⟩=some a0/\w.cell? ⟨g,1,none⟩=some a1/\w.cell? ⟨g,2,none⟩=some a2/\w.frozen? ⟨g,0,none⟩=false/\w.frozen? ⟨g,1,none⟩=false/\w.frozen? ⟨g,2,none⟩=false:=⟨(aa3 h.out 0).trans rfl,(aa3 h.out 1).trans rfl,(aa3 h.out 2).trans rfl,aa6 h.out 0,aa6 h.out 1,aa6 h.out 2⟩
theorem jz5 {w:World} {g t:Nat} {a0 a1 a2 a3 a4:Value} (h:aa1 (w.heap[g]?=some (.cells #[a0,a1,a2,a3,a4] t (0,0)))):w.cell? ⟨g,0,none⟩=some a0/\w.cell? ⟨g,1,none⟩=some a1/\w.cell? ⟨g,2,none⟩=some a2/\w.cell? ⟨g,3,none⟩=some a3/\w.cell? ⟨g,4,none⟩=some a4/\w.frozen? ⟨g,0,none⟩=false/\w.frozen? ⟨g,1,none⟩=false/\w.frozen? ⟨g,2,none⟩=false/\w.frozen? ⟨g,3,none⟩=false/\w.frozen? ⟨g,4,none⟩=false:=⟨(aa3 h.out 0).trans rfl,(aa3 h.out 1).trans rfl,(aa3 h.out 2).trans rfl,(aa3 h.out 3).trans rfl,(aa3 h.out 4).trans rfl,aa6 h.out 0,aa6 h.out 1,aa6 h.out 2,aa6 h.out 3,aa6 h.out 4⟩
theorem jz8 {w:World} {g t:Nat} {a0 a1 a2 a3 a4 a5 a6 a7:Value} (h:aa1 (w.heap[g]?=some (.cells #[a0,a1,a2,a3,a4,a5,a6,a7] t (0,0)))):w.cell? ⟨g,0,none⟩=some a0/\w.cell? ⟨g,1,none⟩=some a1/\w.cell? ⟨g,2,none⟩=some a2/\w.cell? ⟨g,3,none⟩=some a3/\w.cell? ⟨g,4,none⟩=some a4/\w.cell? ⟨g,5,none⟩=some a5/\w.cell? ⟨g,6,none⟩=some a6/\w.cell? ⟨g,7,none⟩=some a7/\w.frozen? ⟨g,0,none⟩=false/\w.frozen? ⟨g,1,none⟩=false/\w.frozen? ⟨g,2,none⟩=false/\w.frozen? ⟨g,3,none⟩=false/\w.frozen? ⟨g,4,none⟩=false/\w.frozen? ⟨g,5,none⟩=false/\w.frozen? ⟨g,6,none⟩=false/\w.frozen? ⟨g,7,none⟩=false:=⟨(aa3 h.out 0).trans rfl,(aa3 h.out 1).trans rfl,(aa3 h.out 2).trans rfl,(aa3 h.out 3).trans rfl,(aa3 h.out 4).trans rfl,(aa3 h.out 5).trans rfl,(aa3 h.out 6).trans rfl,(aa3 h.out 7).trans rfl,aa6 h.out 0,aa6 h.out 1,aa6 h.out 2,aa6 h.out 3,aa6 h.out 4,aa6 h.out 5,aa6 h.out 6,aa6 h.out 7⟩
theorem an8 {w:World} {A:Option Addr} {n:Nat} {xs:List S31} (hr:aa1 (Kd.C k31 w A n xs)) (i:Int) (p:decide (0<=i)=true:=by first|(with_reducible assumption)|assumption) (q:decide (i < (n:Int))=true:=by first|(with_reducible assumption)|assumption):∃ ad,A=some ad/\w.cell? (ad.add (i.toNat*5))=some (.int .i64 (aa0 xs i).f0)/\w.cell? ⟨(ad.add (i.toNat*5)).block,(ad.add (i.toNat*5)).off+1,none⟩=some (.int .i64 (aa0 xs i).f1)/\w.cell? ⟨(ad.add (i.toNat*5)).block,(ad.add (i.toNat*5)).off+2,none⟩=some (.int .i64 (aa0 xs i).f2)/\w.cell? ⟨(ad.add (i.toNat*5)).block,(ad.add (i.toNat*5)).off+3,none⟩=some (.int .i64 (aa0 xs i).f3)/\w.cell? ⟨(ad.add (i.toNat*5)).block,(ad.add (i.toNat*5)).off+4,none⟩=some (.int .i64 (aa0 xs i).f4)/\(0<=i)=True/\(i < (n:Int))=True:=by
  obtain⟨ad,e,h0,h1,h2,h3,h4⟩:=aaQ hr.out i (of_decide_eq_true p) (of_decide_eq_true q)
  exact⟨ad,e,h0,h1,h2,h3,h4,eq_true (of_decide_eq_true p),eq_true (of_decide_eq_true q)⟩
theorem qP {p:Prop} (h:p:=by simp only [Act.put,List.setIfInBounds_toArray,List.set_cons_zero,List.set_cons_succ,aaw,aaA];rfl):p:=h
theorem aM {p:Prop} (h:p):aa1 p:=⟨h⟩
theorem jq {P:Program} {ops:Array Oper} {a:Act} {Q:Exit->Act->World->Prop} {md:Region.Mode} {S:World->Prop} {ds:List Nat} (i m:Nat) {oi:Oper} {v:Value} {fuel:Nat} {l:Array Bool} {w:World} (l':Array Bool) {a':Act} (h:aag P md ops Q S ds fuel l' a' w) (hi:ops[i]?=some oi:=by rfl) (hN:oi.dst=some m:=by rfl) (hc:apE md ops l l' i=true:=by kernel_rfl)
    (hQ:∀ c a w,Q (.panic c) (a.put oi.dst v) w->Q (.panic c) a w:=by exact fun _ _ _ h=>h) (hy:Yields P ops oi v a:=by refine Or.inl ⟨by rfl,?_⟩;intro w';go_simp;with_reducible rfl) (ha:a.put (some m) v=a':=by simp only [Act.put,List.setIfInBounds_toArray,List.set_cons_zero,List.set_cons_succ,aaw,aaA];rfl):aag P md ops Q S ds (fuel+1) l a w:=aed l' hi hN hc hQ hy ha h
abbrev iV (n:Int):Go.Value:=.int .i64 n
theorem oJ {α:Type} {a b:α} (h:some a=some b):a=b:=Option.some.inj h
theorem oJ2 {T0:Type} {a0 b0:T0} {T1:Type} {a1 b1:T1} (H:some (a0,a1)=some (b0,b1)):a0=b0 ∧ a1=b1:=by
 simp only [Option.some.injEq,Prod.mk.injEq] at H;exact H
theorem oJ3 {T0:Type} {a0 b0:T0} {T1:Type} {a1 b1:T1} {T2:Type} {a2 b2:T2} (H:some (a0,a1,a2)=some (b0,b1,b2)):a0=b0 ∧ a1=b1 ∧ a2=b2:=by
 simp only [Option.some.injEq,Prod.mk.injEq] at H;exact H
theorem oJ4 {T0:Type} {a0 b0:T0} {T1:Type} {a1 b1:T1} {T2:Type} {a2 b2:T2} {T3:Type} {a3 b3:T3} (H:some (a0,a1,a2,a3)=some (b0,b1,b2,b3)):a0=b0 ∧ a1=b1 ∧ a2=b2 ∧ a3=b3:=by
 simp only [Option.some.injEq,Prod.mk.injEq] at H;exact H
theorem oJ5 {T0:Type} {a0 b0:T0} {T1:Type} {a1 b1:T1} {T2:Type} {a2 b2:T2} {T3:Type} {a3 b3:T3} {T4:Type} {a4 b4:T4} (H:some (a0,a1,a2,a3,a4)=some (b0,b1,b2,b3,b4)):a0=b0 ∧ a1=b1 ∧ a2=b2 ∧ a3=b3 ∧ a4=b4:=by
 simp only [Option.some.injEq,Prod.mk.injEq] at H;exact H
theorem oJ6 {T0:Type} {a0 b0:T0} {T1:Type} {a1 b1:T1} {T2:Type} {a2 b2:T2} {T3:Type} {a3 b3:T3} {T4:Type} {a4 b4:T4} {T5:Type} {a5 b5:T5} (H:some (a0,a1,a2,a3,a4,a5)=some (b0,b1,b2,b3,b4,b5)):a0=b0 ∧ a1=b1 ∧ a2=b2 ∧ a3=b3 ∧ a4=b4 ∧ a5=b5:=by
 simp only [Option.some.injEq,Prod.mk.injEq] at H;exact H
theorem oJ9 {T0:Type} {a0 b0:T0} {T1:Type} {a1 b1:T1} {T2:Type} {a2 b2:T2} {T3:Type} {a3 b3:T3} {T4:Type} {a4 b4:T4} {T5:Type} {a5 b5:T5} {T6:Type} {a6 b6:T6} {T7:Type} {a7 b7:T7} {T8:Type} {a8 b8:T8} (H:some (a0,a1,a2,a3,a4,a5,a6,a7,a8)=some (b0,b1,b2,b3,b4,b5,b6,b7,b8)):a0=b0 ∧ a1=b1 ∧ a2=b2 ∧ a3=b3 ∧ a4=b4 ∧ a5=b5 ∧ a6=b6 ∧ a7=b7 ∧ a8=b8:=by
 simp only [Option.some.injEq,Prod.mk.injEq] at H;exact H
theorem kI {w W W1:World} {g:Nat} (k:aa7 W W1 g none) (h:aa7 w W g none:=by repeat (first|(with_reducible first|exact HK.out|apply afp|apply agQ|apply aei|apply agR|refine ahB ?_ (aa1.out (by assumption)) _)|exact HK.out)):aa1 (aa7 w W1 g none):=⟨h.trans k (.inl rfl)⟩
theorem kr {p q r:Prop} (x:aa1 p) (y:q) (f:p->q->r:=by intro x y;(first|rw [<- x] at y|(simp only [Int.reduceToNat] at y;rw [<- x] at y));exact y):r:=f x.out y
theorem kv {p q r:Prop} (x:aa1 p) (y:q) (f:p->q->r:=by intro x y;first|exact kz ⟨x⟩ y|(rw [<- x] at y;exact y)):r:=f x.out y
theorem kb {α:Type} {d:Kd α} {A:Option Addr} {n:Nat} {xs:List α} {w W:World} {q:Prop} (h:aa1 (d.C w A n xs)) (hb:aa1 (Below w.heap.size w W)) (f:d.C W A n xs->q:=by intro h_;repeat (first|exact h_|(with_reducible refine Kd.C_alloc ?_ _)|(with_reducible refine Kd.C_drewN ?_ _)|(with_reducible refine Kd.C_drew ?_))):q:=f (Kd.C_below h.out hb.out)
theorem kY {w W w1:World} {g:Nat} (hb:Below W.heap.size W w1) (h:aa7 w W g none:=by exact qH):aa1 (aa7 w w1 g none):=⟨h.trans (adp hb g none) (.inl rfl)⟩
theorem kU {w W:World} {g:Nat} (h:aa7 w W g none:=by exact qH):w.heap.size<=W.heap.size:=aeh h
theorem kw {w W W1:World} {g g1:Nat} {o:Obj} (k:aa7 W W1 g none) (h:aa1 (w.heap[g1]?=some o)) (n:aa1 (g1≠g)) (f:w.heap[g1]?=some o->W.heap[g1]?=some o:=by intro h_;(with_reducible repeat (first|refine abF ?_ _|refine aaS ?_|refine acr ?_ _));exact h_):aa1 (W1.heap[g1]?=some o):=⟨adg k (f h.out) n.out (by simp)⟩
theorem kJ {α:Type} {d:Kd α} {e base:Nat} {w:World} {ok:Nat->Prop} {A:Option Addr} {n c:Nat} {xs:List α} {q:Prop} (h:aa1 (d.R e w base ok (.slice A n c) xs)) (f:d.C w A xs.length xs->q:=by intro h_;exact kC h_):q:=f (Kd.R_reads' h.out).2.2
theorem kp {α:Type} {d:Kd α} {e base:Nat} {w:World} {ok:Nat->Prop} {A:Option Addr} {n c:Nat} {xs:List α} (h:aa1 (d.R e w base ok (.slice A n c) xs)):n<=c:=(Kd.R_reads' h.out).2.1
theorem jb_ (w:World):aa1 (Below w.heap.size w w):=⟨Below.refl _ _⟩
end Go.Proofs.YtdkkdiiceaomaaaGreat.M
namespace Go.Proofs.YtdkkdiiceaomaaaGreat.M
open Go.Proofs.Tryz Go.RowKit Go.Proofs.YtdkkdiiceaomaaaGreatW.PrintWords Go.Proofs.YtdkkdiiceaomaaaGreatW.PrintLast Go.Proofs.YtdkkdiiceaomaaaGreatW.PrintMore
attribute [local go_sem] aas aaq aaH aaG aaj aai aar aap
def ae4 (a0 a1 a2:Int):Option (Bool):=if a0>=a1 then (some (decide (a0<=a2))) else (some false)
theorem Sbm.calls (a0 a1 a2:Int) (r:Bool) (w:World) (h:ae4 a0 a1 a2=some r) :
  Calls prog 60 #[iV a0,iV a1,iV a2] w fun e w'=>e = .returned (.bool r)/\aaC w w':=by
 have H:(if a0>=a1 then (some (decide (a0<=a2))) else (some false))=some r:=h;clear h;replace H:=jD H;rcases H with ⟨aa,H⟩ | ⟨aa,H⟩
 ·obtain rfl:=oJ H;go_enter func60,ntmps60;go_wp2;go_ret;exact⟨qZ,qU⟩
 obtain rfl:=oJ H;go_enter func60,ntmps60;go_wp2;go_ret;exact⟨qZ,qU⟩
def ajm (a0:Int):Option (Bool):=(ae4 a0 1 12).bind fun aa=>(some aa)
theorem acw (a0:Int) (r:Bool) (w:World) (h:ajm a0=some r) :
  Calls prog 102 #[iV a0] w fun e w'=>e = .returned (.bool r)/\aaC w w':=by
 have H:((ae4 a0 1 12).bind fun aa=>(some aa))=some r:=h;clear h;obtain⟨aa,A2,H⟩:=qE H;try dsimp only at H
 obtain rfl:=oJ H;go_enter func102,ntmps102;go_wp2_with (first|((with_reducible refine jc 60 4 ?_);refine jK func60 (Sbm.calls a0 1 12 aa _ A2.out) ?_;rintro w' ⟨nd,rfl⟩));go_ret;exact⟨qZ,qU⟩
def ajs (a0:Int) (a1:Bool):Option (Bool):=if a1=true then ((ae4 a0 0 11).bind fun aa=>(some aa)) else (some (a0 == 0))
theorem SaH.calls (a0:Int) (a1 r:Bool) (w:World) (h:ajs a0 a1=some r) :
  Calls prog 120 #[iV a0,.bool a1] w fun e w'=>e = .returned (.bool r)/\aaC w w':=by
 have H:=h;unfold ajs at H;clear h;replace H:=jB H;rcases H with ⟨rfl,H⟩ | ⟨rfl,H⟩
 ·obtain⟨aa,A4,H⟩:=qE H;try dsimp only at H
  obtain rfl:=oJ H;go_enter func120,ntmps120;go_wp2_with (first|((with_reducible refine jc 60 7 ?_);refine jK func60 (Sbm.calls a0 0 11 aa _ A4.out) ?_;rintro w' ⟨nd,rfl⟩));go_ret;exact⟨qZ,qU⟩
 obtain rfl:=oJ H;go_enter func120,ntmps120;go_wp2;go_ret;exact⟨qZ,qU⟩
def aeI (ag aa ae af ah:Int) (a1 a2 a3:Bool):Option (Bool):=(ajs aa a1).bind fun ai=>(if ai=true then ((ajs ae a2).bind fun aj=>(if aj=true then ((ajs af a3).bind fun ak=>(some ak)) else (some false))) else (some false))
theorem apz {G:Prop} (h:G:=by
  go_enter func100,ntmps100;go_wp2_with (first|((with_reducible refine jd 4 ?_);refine jY _ 31 ?_;intro av hg ay au hb;have ax:=kG hg;replace HB:=kH hb;clear hb hg;have az:=jz5 au)|((with_reducible refine jc 120 12 ?_);refine jG func120 #[iV aa,.bool a1] ?_;refine (SaH.calls _ _ _ _ (aa1.out (by assumption))).mono ?_;rintro e w' ⟨rfl,⟨nd,rfl⟩⟩;refine⟨_,rfl,?_⟩)|(go_at_call 120;(with_reducible refine (SaH.calls _ _ _ _ (aa1.out (by assumption))).mono ?_);rintro e w' ⟨rfl,⟨nd,rfl⟩⟩));go_ret
  exact⟨qW,qB⟩):G:=h
theorem SaI.calls (ag aa ae af ah:Int) (a1 a2 a3 r:Bool) (w:World) (h:aeI ag aa ae af ah a1 a2 a3=some r) :
  Calls prog 100 #[.agg #[iV ag,iV aa,iV ae,iV af,iV ah],.bool a1,.bool a2,.bool a3] w fun e w'=>e = .returned (.bool r)/\Below w.heap.size w w':=by
 have aA:=underlying31;have HB:=jb_ w;have H:=h;unfold aeI at H;clear h;obtain⟨ai,A5,H⟩:=qE H;try dsimp only at H
 replace H:=jB H;rcases H with ⟨rfl,H⟩ | ⟨rfl,H⟩
 ·obtain⟨aj,A7,H⟩:=qE H;try dsimp only at H
  replace H:=jB H;rcases H with ⟨rfl,H⟩ | ⟨rfl,H⟩
  ·obtain⟨ak,A9,H⟩:=qE H;try dsimp only at H
   obtain rfl:=oJ H;exact apz
  obtain rfl:=oJ H;exact apz
 obtain rfl:=oJ H;exact apz
def ajj (a0:Int):Option (Bool):=(ae4 a0 (-2147483648) 2147483647).bind fun aa=>(some aa)
theorem aix (a0:Int) (r:Bool) (w:World) (h:ajj a0=some r) :
  Calls prog 101 #[iV a0] w fun e w'=>e = .returned (.bool r)/\aaC w w':=by
 have H:=h;unfold ajj at H;clear h;obtain⟨aa,A2,H⟩:=qE H;try dsimp only at H
 obtain rfl:=oJ H;go_enter func101,ntmps101;go_wp2_with (first|((with_reducible refine jc 60 4 ?_);refine jG func60 #[iV a0,iV (-2147483648),iV 2147483647] ?_;refine (Sbm.calls _ _ _ _ _ (aa1.out (by assumption))).mono ?_;rintro e w' ⟨rfl,⟨nd,rfl⟩⟩;refine⟨_,rfl,?_⟩));go_ret;exact⟨qZ,qU⟩
def ajk (af ag ah ai ae a1:Int):Option (Bool):=if af=1 then ((aeI af ag ah ai ae true false false).bind fun au=>(if au=true then ((ajj ae).bind fun av=>(some av)) else (some false))) else (if af=2 then ((aeI af ag ah ai ae true true false).bind fun ax=>(if ax=true then (some (ae == 0)) else (some false))) else (if af=3 then ((aeI af ag ah ai ae true true true).bind fun ay=>(if ay=true then ((ajm ae).bind fun az=>(some az)) else (some false))) else (if af=4 then ((aeI af ag ah ai ae false false false).bind fun aA=>(if aA=true then (if ae>=0 then (some (decide (ae < a1))) else (some false)) else (some false))) else (if af=5 then ((aeI af ag ah ai ae false true false).bind fun aB=>(if aB=true then (if ae>=0 then (some (decide (ae < a1))) else (some false)) else (some false))) else (if af=6 then ((aeI af ag ah ai ae false true false).bind fun aC=>(if aC=true then ((ae4 ae 0 2).bind fun aD=>(some aD)) else (some false))) else (if af=7 then ((aeI af ag ah ai ae true false false).bind fun aF=>(if aF=true then ((ae4 ae 0 2).bind fun aG=>(some aG)) else (some false))) else (if af=9 then ((aeI af ag ah ai ae false true false).bind fun aH=>(if aH=true then (some (ae == 0)) else (some false))) else (if af=8 then ((aeI af ag ah ai ae false false false).bind fun aI=>(if aI=true then (some (ae == 0)) else (some false))) else (if af=10 then ((aeI af ag ah ai ae false false false).bind fun aJ=>(if aJ=true then (some (ae == 0)) else (some false))) else (some false))))))))))
theorem acv {G:Prop} (h:G:=by
  go_enter func77,ntmps77;go_wp2_with (first|((with_reducible refine jd 2 ?_);refine jY _ 31 ?_;intro bv hg bA aa hb;have bz:=kG hg;replace HB:=kH hb;clear hb hg;have bB:=jz5 aa)|((with_reducible refine jc 100 10 ?_);refine jG func100 #[.agg #[iV af,iV ag,iV ah,iV ai,iV ae],.bool true,.bool false,.bool false] ?_;refine (SaI.calls _ _ _ _ _ _ _ _ _ _ (aa1.out (by assumption))).mono ?_;rintro e bC ⟨rfl,hb⟩;refine⟨_,rfl,?_⟩;replace aa:=kB aa hb;replace HB:=kH hb;clear hb;have bD:=jz5 aa)|(go_at_call 101;(with_reducible refine (aix _ _ _ (aa1.out (by assumption))).mono ?_);rintro e w' ⟨rfl,⟨nd,rfl⟩⟩)|((with_reducible refine jc 100 19 ?_);refine jG func100 #[.agg #[iV af,iV ag,iV ah,iV ai,iV ae],.bool true,.bool true,.bool false] ?_;refine (SaI.calls _ _ _ _ _ _ _ _ _ _ (aa1.out (by assumption))).mono ?_;rintro e bE ⟨rfl,hb⟩;refine⟨_,rfl,?_⟩;replace aa:=kB aa hb;replace HB:=kH hb;clear hb;have bF:=jz5 aa)|((with_reducible refine jc 100 28 ?_);refine jG func100 #[.agg #[iV af,iV ag,iV ah,iV ai,iV ae],.bool true,.bool true,.bool true] ?_;refine (SaI.calls _ _ _ _ _ _ _ _ _ _ (aa1.out (by assumption))).mono ?_;rintro e bG ⟨rfl,hb⟩;refine⟨_,rfl,?_⟩;replace aa:=kB aa hb;replace HB:=kH hb;clear hb;have bH:=jz5 aa)|(go_at_call 102;(with_reducible refine (acw _ _ _ (aa1.out (by assumption))).mono ?_);rintro e w' ⟨rfl,⟨nd,rfl⟩⟩)|((with_reducible refine jc 100 37 ?_);refine jG func100 #[.agg #[iV af,iV ag,iV ah,iV ai,iV ae],.bool false,.bool false,.bool false] ?_;refine (SaI.calls _ _ _ _ _ _ _ _ _ _ (aa1.out (by assumption))).mono ?_;rintro e bI ⟨rfl,hb⟩;refine⟨_,rfl,?_⟩;replace aa:=kB aa hb;replace HB:=kH hb;clear hb;have bJ:=jz5 aa)|((with_reducible refine jc 100 52 ?_);refine jG func100 #[.agg #[iV af,iV ag,iV ah,iV ai,iV ae],.bool false,.bool true,.bool false] ?_;refine (SaI.calls _ _ _ _ _ _ _ _ _ _ (aa1.out (by assumption))).mono ?_;rintro e bK ⟨rfl,hb⟩;refine⟨_,rfl,?_⟩;replace aa:=kB aa hb;replace HB:=kH hb;clear hb;have bL:=jz5 aa)|((with_reducible refine jc 100 67 ?_);refine jG func100 #[.agg #[iV af,iV ag,iV ah,iV ai,iV ae],.bool false,.bool true,.bool false] ?_;refine (SaI.calls _ _ _ _ _ _ _ _ _ _ (aa1.out (by assumption))).mono ?_;rintro e bM ⟨rfl,hb⟩;refine⟨_,rfl,?_⟩;replace aa:=kB aa hb;replace HB:=kH hb;clear hb;have bN:=jz5 aa)|(go_at_call 60;(with_reducible refine (Sbm.calls _ _ _ _ _ (aa1.out (by assumption))).mono ?_);rintro e w' ⟨rfl,⟨nd,rfl⟩⟩)|((with_reducible refine jc 100 76 ?_);refine jG func100 #[.agg #[iV af,iV ag,iV ah,iV ai,iV ae],.bool true,.bool false,.bool false] ?_;refine (SaI.calls _ _ _ _ _ _ _ _ _ _ (aa1.out (by assumption))).mono ?_;rintro e bO ⟨rfl,hb⟩;refine⟨_,rfl,?_⟩;replace aa:=kB aa hb;replace HB:=kH hb;clear hb;have bP:=jz5 aa)|((with_reducible refine jc 100 85 ?_);refine jG func100 #[.agg #[iV af,iV ag,iV ah,iV ai,iV ae],.bool false,.bool true,.bool false] ?_;refine (SaI.calls _ _ _ _ _ _ _ _ _ _ (aa1.out (by assumption))).mono ?_;rintro e bQ ⟨rfl,hb⟩;refine⟨_,rfl,?_⟩;replace aa:=kB aa hb;replace HB:=kH hb;clear hb;have bR:=jz5 aa)|((with_reducible refine jc 100 95 ?_);refine jG func100 #[.agg #[iV af,iV ag,iV ah,iV ai,iV ae],.bool false,.bool false,.bool false] ?_;refine (SaI.calls _ _ _ _ _ _ _ _ _ _ (aa1.out (by assumption))).mono ?_;rintro e bS ⟨rfl,hb⟩;refine⟨_,rfl,?_⟩;replace aa:=kB aa hb;replace HB:=kH hb;clear hb;have bT:=jz5 aa));go_ret
  exact⟨qW,qB⟩):G:=h
theorem Sav.calls (af ag ah ai ae a1:Int) (r:Bool) (w:World) (h:ajk af ag ah ai ae a1=some r) :
  Calls prog 77 #[.agg #[iV af,iV ag,iV ah,iV ai,iV ae],iV a1] w fun e w'=>e = .returned (.bool r)/\Below w.heap.size w w':=by
 have bU:=underlying31;have HB:=jb_ w;have H:=h;unfold ajk at H;clear h;replace H:=jE H;rcases H with ⟨bq,bu,H⟩ | ⟨c3,bq,bu,H⟩
 ·obtain⟨au,A4,H⟩:=qE H;try dsimp only at H
  replace H:=jB H;rcases H with ⟨rfl,H⟩ | ⟨rfl,H⟩
  ·obtain⟨av,A6,H⟩:=qE H;try dsimp only at H
   obtain rfl:=oJ H;exact acv
  obtain rfl:=oJ H;exact acv
 replace H:=jE H;rcases H with ⟨aK,aL,H⟩ | ⟨c14,aK,aL,H⟩
 ·obtain⟨ax,bW,H⟩:=qE H;try dsimp only at H
  replace H:=jB H;rcases H with ⟨rfl,H⟩ | ⟨rfl,H⟩
  ·obtain rfl:=oJ H;exact acv
  obtain rfl:=oJ H;exact acv
 replace H:=jE H;rcases H with ⟨aN,aO,H⟩ | ⟨c24,aN,aO,H⟩
 ·obtain⟨ay,bX,H⟩:=qE H;try dsimp only at H
  replace H:=jB H;rcases H with ⟨rfl,H⟩ | ⟨rfl,H⟩
  ·obtain⟨az,bY,H⟩:=qE H;try dsimp only at H
   obtain rfl:=oJ H;exact acv
  obtain rfl:=oJ H;exact acv
 replace H:=jE H;rcases H with ⟨aP,aQ,H⟩ | ⟨bZ,aP,aQ,H⟩
 ·obtain⟨aA,cu,H⟩:=qE H;try dsimp only at H
  replace H:=jB H;rcases H with ⟨rfl,H⟩ | ⟨rfl,H⟩
  ·replace H:=jD H;rcases H with ⟨aR,H⟩ | ⟨aR,H⟩
   ·obtain rfl:=oJ H;exact acv
   obtain rfl:=oJ H;exact acv
  obtain rfl:=oJ H;exact acv
 replace H:=jE H;rcases H with ⟨aS,aT,H⟩ | ⟨cz,aS,aT,H⟩
 ·obtain⟨aB,cB,H⟩:=qE H;try dsimp only at H
  replace H:=jB H;rcases H with ⟨rfl,H⟩ | ⟨rfl,H⟩
  ·replace H:=jD H;rcases H with ⟨aU,H⟩ | ⟨aU,H⟩
   ·obtain rfl:=oJ H;exact acv
   obtain rfl:=oJ H;exact acv
  obtain rfl:=oJ H;exact acv
 replace H:=jE H;rcases H with ⟨aV,aW,H⟩ | ⟨cK,aV,aW,H⟩
 ·obtain⟨aC,cO,H⟩:=qE H;try dsimp only at H
  replace H:=jB H;rcases H with ⟨rfl,H⟩ | ⟨rfl,H⟩
  ·obtain⟨aD,df,H⟩:=qE H;try dsimp only at H
   obtain rfl:=oJ H;exact acv
  obtain rfl:=oJ H;exact acv
 replace H:=jE H;rcases H with ⟨aX,aY,H⟩ | ⟨c76,aX,aY,H⟩
 ·obtain⟨aF,dh,H⟩:=qE H;try dsimp only at H
  replace H:=jB H;rcases H with ⟨rfl,H⟩ | ⟨rfl,H⟩
  ·obtain⟨aG,di,H⟩:=qE H;try dsimp only at H
   obtain rfl:=oJ H;exact acv
  obtain rfl:=oJ H;exact acv
 replace H:=jE H;rcases H with ⟨aZ,bg,H⟩ | ⟨c87,aZ,bg,H⟩
 ·obtain⟨aH,dn,H⟩:=qE H;try dsimp only at H
  replace H:=jB H;rcases H with ⟨rfl,H⟩ | ⟨rfl,H⟩
  ·obtain rfl:=oJ H;exact acv
  obtain rfl:=oJ H;exact acv
 replace H:=jE H;rcases H with ⟨bi,bn,H⟩ | ⟨dw,bi,bn,H⟩
 ·obtain⟨aI,dx,H⟩:=qE H;try dsimp only at H
  replace H:=jB H;rcases H with ⟨rfl,H⟩ | ⟨rfl,H⟩
  ·obtain rfl:=oJ H;exact acv
  obtain rfl:=oJ H;exact acv
 replace H:=jE H;rcases H with ⟨aj,ak,H⟩ | ⟨c107,aj,ak,H⟩
 ·obtain⟨aJ,bV,H⟩:=qE H;try dsimp only at H
  replace H:=jB H;rcases H with ⟨rfl,H⟩ | ⟨rfl,H⟩
  ·obtain rfl:=oJ H;exact acv
  obtain rfl:=oJ H;exact acv
 obtain rfl:=oJ H;exact acv
def adm:Nat->List S31->Int->Int->Option (Bool)
 | 0,_,_,_=>none
 | k+1,x0,x3,x4=>if x4 < x3 then (if 0<=x4 then (if x4 < (x0.length:Int) then ((ajk ((aa0 x0 x4).f0) ((aa0 x0 x4).f1) ((aa0 x0 x4).f2) ((aa0 x0 x4).f3) ((aa0 x0 x4).f4) x3).bind fun aQ=>(if aQ=true then (adm k x0 x3 (wrap64 (x4+1))) else (some false))) else (none)) else (none)) else (if 0<=(wrap64 (x3 - 1)) then (if (wrap64 (x3 - 1)) < (x0.length:Int) then (if ((aa0 x0 (wrap64 (x3 - 1))).f0)=10 then (some true) else (some (((aa0 x0 (wrap64 (x3 - 1))).f0) == 4))) else (none)) else (none))
def Sag.f (k:Nat) (l0:List S31):Option (Bool):=(ae4 (l0.length:Int) 1 600).bind fun aR=>(if aR=true then (adm k l0 (l0.length:Int) 0) else (some false))
theorem ahd:∀ k,(∀ y0 y1 y2,LeO (adm k y0 y1 y2) (adm (k+1) y0 y1 y2))
 | 0=>fun _ _ _ r h=>by simp [adm] at h
 | k+1=>by
  have bu:=ahd k
  intros;unfold adm;exact mM
theorem Sag.mono:∀ a0 k,LeO (Sag.f k a0) (Sag.f (k+1) a0):=by
 intro a0 k;have bu:=ahd k;unfold Sag.f;exact mM
theorem Sag.calls (k:Nat) (A0:Option Addr) (c0:Nat) (l0:List S31) (r:Bool) (w:World) (hr0:Kd.C k31 w A0 l0.length l0) (hc0:l0.length<=c0) (h:Sag.f k l0=some r) :
  Calls prog 44 #[.slice A0 l0.length c0] w fun e w'=>e = .returned (.bool r)/\Below w.heap.size w w':=by
 have bv:=underlying31;have aS:=aM hr0;have bB:=aM hc0;clear hr0 hc0;have HB:=jb_ w;have H:=h;unfold Sag.f at H;clear h;obtain⟨aR,A2,H⟩:=qE H;try dsimp only at H
 replace H:=jB H;rcases H with ⟨rfl,H⟩ | ⟨rfl,H⟩
 ·have H':=aM H;clear H;go_enter func44,ntmps44;go_wp2_with (first|((with_reducible refine jc 60 8 ?_);refine jK func60 (Sbm.calls (l0.length:Int) 1 600 true _ A2.out) ?_;rintro w' ⟨nd,rfl⟩));go_loopg [4] k (fun kq v4 w'=>∃ (aa:Int),v4 = iV aa/\aa1 (adm kq l0 (l0.length:Int) aa=some r)/\aa1 (kq<=k)/\aa1 (Below w.heap.size w w'));case atStart=>exact⟨(0),qZ,H',⟨Nat.le_refl _⟩,⟨qB⟩⟩
  clear H';obtain⟨aa,rfl,HA,bi,HB⟩:=hrel;rcases gk with _|k1
  ·exact absurd HA.out (by simp [adm])
  have H:=HA.out;clear HA;simp only [adm] at H;replace H:=jD H;rcases H with ⟨aX,H⟩ | ⟨aX,H⟩
  ·replace H:=jI H;obtain⟨bz,H⟩:=H;replace H:=jI H;obtain⟨bA,H⟩:=H;obtain⟨aQ,A7,H⟩:=qE H;try dsimp only at H
   replace H:=jB H;rcases H with ⟨rfl,H⟩ | ⟨rfl,H⟩
   ·have H':=aM H;clear H;have aA:0<=(aa:Int):=qD;have aB:aa < (l0.length:Int):=qD;obtain⟨aT,aL,ae,af,ag,ah,ai⟩:=aaQ aS.out aa aA aB;cases aL;replace ae:=kx HB ae;replace af:=kx HB af;replace ag:=kx HB ag;replace ah:=kx HB ah;replace ai:=kx HB ai;replace aA:=eq_true aA;replace aB:=eq_true aB;go_wp2_with (first|((with_reducible refine jc 77 20 ?_);refine jG func77 #[.agg #[iV ((aa0 l0 aa).f0),iV ((aa0 l0 aa).f1),iV ((aa0 l0 aa).f2),iV ((aa0 l0 aa).f3),iV ((aa0 l0 aa).f4)],iV (l0.length:Int)] ?_;refine (Sav.calls _ _ _ _ _ _ _ _ (aa1.out (by assumption))).mono ?_;rintro e aY ⟨rfl,hb⟩;refine⟨_,rfl,?_⟩;replace HB:=kH hb;clear hb));go_roundg k1;case measure=>have:=bi.out;omega
    exact⟨_,qZ,H',⟨by have:=bi.out;omega⟩,⟨qB⟩⟩
   obtain rfl:=oJ H;have aA:0<=(aa:Int):=qD;have aB:aa < (l0.length:Int):=qD;obtain⟨aT,aL,ae,af,ag,ah,ai⟩:=aaQ aS.out aa aA aB;cases aL;replace ae:=kx HB ae;replace af:=kx HB af;replace ag:=kx HB ag;replace ah:=kx HB ah;replace ai:=kx HB ai;replace aA:=eq_true aA;replace aB:=eq_true aB;go_wp2_with (first|((with_reducible refine jc 77 20 ?_);refine jG func77 #[.agg #[iV ((aa0 l0 aa).f0),iV ((aa0 l0 aa).f1),iV ((aa0 l0 aa).f2),iV ((aa0 l0 aa).f3),iV ((aa0 l0 aa).f4)],iV (l0.length:Int)] ?_;refine (Sav.calls _ _ _ _ _ _ _ _ (aa1.out (by assumption))).mono ?_;rintro e aY ⟨rfl,hb⟩;refine⟨_,rfl,?_⟩;replace HB:=kH hb;clear hb));go_ret;exact⟨qW,qB⟩
  obtain⟨aj,az⟩:∃ j_:Int,(wrap64 ((l0.length:Int) - 1))=j_:=⟨_,rfl⟩
  replace H:(if 0<=(aj) then (if (aj) < (l0.length:Int) then (if ((aa0 l0 (aj)).f0)=10 then (some true) else (some (((aa0 l0 (aj)).f0) == 4))) else (none)) else (none))=some r:=by first|(rw [az] at H;exact H)|(simp only [az] at H ⊢;exact H)
  have aZ:(IntKind.i64.wrap ((l0.length:Int) - 1))=aj:=(aaw _).trans az;replace H:=jI H;obtain⟨bn,H⟩:=H;replace H:=jI H;obtain⟨bq,H⟩:=H;replace H:=jE H;rcases H with ⟨aU,aV,H⟩ | ⟨c14,aU,aV,H⟩
  ·obtain rfl:=oJ H;have aC:0<=((aj):Int):=qD;have aD:(aj) < (l0.length:Int):=qD;obtain⟨aK,aN,ak,au,av,ax,ay⟩:=aaQ aS.out (aj) aC aD;cases aN;replace ak:=kx HB ak;replace au:=kx HB au;replace av:=kx HB av;replace ax:=kx HB ax;replace ay:=kx HB ay;replace aC:=eq_true aC;replace aD:=eq_true aD;go_wp2;go_ret;exact⟨by first|rfl|(simp [aaF,aaE] <;> rfl)|(simp only [<- az];first|rfl|(simp [aaF,aaE] <;> rfl))|(simp [*,aaF,aaE] <;> rfl),qB⟩
  obtain rfl:=oJ H;have aC:0<=((aj):Int):=qD;have aD:(aj) < (l0.length:Int):=qD;obtain⟨aK,aN,ak,au,av,ax,ay⟩:=aaQ aS.out (aj) aC aD;cases aN;replace ak:=kx HB ak;replace au:=kx HB au;replace av:=kx HB av;replace ax:=kx HB ax;replace ay:=kx HB ay;replace aC:=eq_true aC;replace aD:=eq_true aD;have aO:0<=((aj):Int):=qD;have aP:(aj) < (l0.length:Int):=qD;obtain⟨aW,bg,aF,aG,aH,aI,aJ⟩:=aaQ aS.out (aj) aO aP;obtain rfl:aK=aW:=(by injection bg);replace aF:=kx HB aF;replace aG:=kx HB aG;replace aH:=kx HB aH;replace aI:=kx HB aI;replace aJ:=kx HB aJ;replace aO:=eq_true aO;replace aP:=eq_true aP;go_wp2;go_ret;exact⟨by first|rfl|(simp [aaF,aaE] <;> rfl)|(simp only [<- az];first|rfl|(simp [aaF,aaE] <;> rfl))|(simp [*,aaF,aaE] <;> rfl),qB⟩
 obtain rfl:=oJ H;go_enter func44,ntmps44;go_wp2_with (first|((with_reducible refine jc 60 8 ?_);refine jG func60 #[iV (l0.length:Int),iV 1,iV 600] ?_;refine (Sbm.calls _ _ _ _ _ (aa1.out (by assumption))).mono ?_;rintro e w' ⟨rfl,⟨nd,rfl⟩⟩;refine⟨_,rfl,?_⟩));go_ret;exact⟨qW,qB⟩
def acT:Nat->List Int->Int->Option (List Int)
 | 0,_,_=>none
 | k+1,x1,x2=>if x2 < 12 then (if x1.length < 17592186044416 then (acT k (x1 ++ [x2]) (wrap64 (x2+1))) else (none)) else (some x1)
def aji (k:Nat)  : Option (List Int):=acT k (([]:List Int)) 0
theorem ah2:∀ k,(∀ y0 y1,LeO (acT k y0 y1) (acT (k+1) y0 y1))
 | 0=>fun _ _ r h=>by simp [acT] at h
 | k+1=>by
  have az:=ah2 k
  intros;unfold acT;exact mM
theorem Sbd.mono:∀ k,LeO (aji k ) (aji (k+1) ):=by
 intro  k;have az:=ah2 k;unfold aji;exact mM
theorem ais (k:Nat)  (r:List Int) (w:World) (h:aji k  = some r) :
  Calls prog 86 #[] w fun e w'=>∃ ax:Value,e = .returned (ax)/\Kd.R (Kd.int .i64) 3 w' w.heap.size (fun _=>True) ax r/\Below w.heap.size w w':=by
 have HB:=jb_ w;have H:(acT k (([]:List Int)) 0)=some r:=h;clear h;obtain⟨ak,aa⟩:=ky ([]:List Int);replace H:=kv aa H;have H':=aM H;clear H;go_enter func86,ntmps86;go_wp2_with (first|((with_reducible refine jd 3 ?_);refine jV (Kd.int .i64) 3 ([]:List Int) [] (aa8 _ _) ?_;intro aA w1 ho2 hb;replace ho2:=kr aa ho2;have ai:=kL ho2;replace HB:=kH hb;clear hb ho2));go_loopg [1,2] k (fun kq v1 v2 w'=>∃ (af:List Int) (ae:Int),v2 = iV ae/\aa1 (acT kq af ae=some r)/\aa1 (kq<=k)/\aa1 (Kd.R (Kd.int .i64) 3 w' w.heap.size (fun _=>True) v1 af)/\aa1 (Below w.heap.size w w'));case atStart=>exact⟨(ak),(0),qZ,H',⟨Nat.le_refl _⟩,⟨qR ai⟩,⟨qB⟩⟩
 clear H';obtain⟨af,ae,rfl,HA,ay,ah,HB⟩:=hrel;rcases gk with _|k1
 ·exact absurd HA.out (by simp [acT])
 have H:=HA.out;clear HA;simp only [acT] at H;replace H:=jD H;rcases H with ⟨au,H⟩ | ⟨au,H⟩
 ·replace H:=jL H;obtain⟨av,H⟩:=H;obtain⟨aC,ag⟩:=ky ((af ++ [ae]):List Int);replace H:=kv ag H;have H':=aM H;clear H;go_wp2_with (first|((with_reducible refine aa9 (b:=.append) (xs:=#[.tmp 8,.tmp 10]) rfl ?_);at_builtin;refine Kd.R_append (Kd.int .i64) (w0:=w) w.heap.size rfl (.tmp 8) (.tmp 10) 28 3 (iV 0) 8 rfl underlying28 akg rfl (by decide) (by omega) u1 af ae [iV ae] (fun _=>True) (fun _=>False) rfl rfl ?aP (fun _ hk=>hk.elim) ?aF ?aO ?aB ?aS ?aL ?_;(case aP=>exact rfl);(case aB=>exact qB);(case aF=>exact (fun _ _=>trivial));(case aO=>exact (qR ah));(case aS=>exact (aa4 qB));(case aL=>have:=av.out;omega);intro aD aG ho hb hg hat;rw [<- ag.out] at ho;have aj:=aM ho;replace HB:=aM hb;clear ah;clear ho hb hg hat));go_roundg k1;case measure=>have:=ay.out;omega
  exact⟨_,_,qZ,H',⟨by have:=ay.out;omega⟩,⟨qR aj⟩,⟨qB⟩⟩
 obtain rfl:=oJ H;go_wp2;go_ret;exact⟨_,qW,qR ah,qB⟩
def adE:Nat->Int->Bool->Int->Int->Int->Int->Int->Option (List Int)
 | 0,_,_,_,_,_,_,_=>none
 | k+1,x1,bC,xa,xb,xc,xd,xe=>if bC=true then (some (([xe,wrap64 (x1+1)]:List Int))) else (if xa=5 then (if xe > (wrap64 (x1+1)) then (some (([wrap64 (x1+1),xe]:List Int))) else (some (([wrap64 (x1+1)]:List Int)))) else (some (([wrap64 (x1+1)]:List Int))))
def afv (k:Nat) (l0:List S31) (a1:Int):Option (List Int):=if 0<=a1 then (if a1 < (l0.length:Int) then (if ((aa0 l0 a1).f0)=10 then (some (([]:List Int))) else (if ((aa0 l0 a1).f0)=4 then (some (([(aa0 l0 a1).f4]:List Int))) else (if ((aa0 l0 a1).f0)=5 then (adE k a1 (decide (((aa0 l0 a1).f4) < (wrap64 (a1+1)))) ((aa0 l0 a1).f0) ((aa0 l0 a1).f1) ((aa0 l0 a1).f2) ((aa0 l0 a1).f3) ((aa0 l0 a1).f4)) else (adE k a1 false ((aa0 l0 a1).f0) ((aa0 l0 a1).f1) ((aa0 l0 a1).f2) ((aa0 l0 a1).f3) ((aa0 l0 a1).f4))))) else (none)) else (none)
theorem ahh:∀ k,(∀ y0 y1 y2 y3 y4 y5 y6,LeO (adE k y0 y1 y2 y3 y4 y5 y6) (adE (k+1) y0 y1 y2 y3 y4 y5 y6))
 | 0=>fun _ _ _ _ _ _ _ r h=>by simp [adE] at h
 | k+1=>by
  have bD:=ahh k
  intros;unfold adE;exact mM
theorem SaT.mono:∀ a0 a1 k,LeO (afv k a0 a1) (afv (k+1) a0 a1):=by
 intro a0 a1 k;have bD:=ahh k;unfold afv;exact mM
theorem aeF (k:Nat) (A0:Option Addr) (c0:Nat) (l0:List S31) (a1:Int) (r:List Int) (w:World) (hr0:Kd.C k31 w A0 l0.length l0) (hc0:l0.length<=c0) (h:afv k l0 a1=some r) :
  Calls prog 108 #[.slice A0 l0.length c0,iV a1] w fun e w'=>∃ bB:Value,e = .returned (bB)/\Kd.R (Kd.int .i64) 3 w' w.heap.size (fun _=>True) bB r/\Below w.heap.size w w':=by
 have bE:=underlying31;have bu:=aM hr0;have cu:=aM hc0;clear hr0 hc0;have HB:=jb_ w;have H:=h;unfold afv at H;clear h;replace H:=jI H;obtain⟨bv,H⟩:=H;replace H:=jI H;obtain⟨bz,H⟩:=H;replace H:=jE H;rcases H with ⟨aR,aS,H⟩ | ⟨c5,aR,aS,H⟩
 ·obtain⟨bF,av⟩:=ky ([]:List Int);replace H:=kv av H;obtain rfl:=oJ H;obtain⟨aJ,aC,ae,af,ag,ah,ai,aO,aP⟩:=an8 bu a1;cases aC;go_enter func108,ntmps108;go_wp2_with (first|((with_reducible refine jd 5 ?_);refine jY _ 31 ?_;intro aj hg w6 aa hb;have aK:=kG hg;replace HB:=kH hb;clear hb hg;have cz:=jz5 aa)|((with_reducible refine jd 14 ?_);refine jV (Kd.int .i64) 3 ([]:List Int) [] (aa8 _ _) ?_;intro bG w8 aT hb;replace aT:=kr av aT;have aU:=kL aT;replace aa:=aM (aaO (g:=aj) (qF aa) hb);replace HB:=kH hb;clear hb aT));go_ret;exact⟨_,qW,qR aU,qB⟩
 replace H:=jE H;rcases H with ⟨aL,aN,H⟩ | ⟨c10,aL,aN,H⟩
 ·obtain⟨bH,ax⟩:=ky ((([(aa0 l0 a1).f4]:List Int)):List Int);replace H:=kv ax H;obtain rfl:=oJ H;obtain⟨aJ,aC,ae,af,ag,ah,ai,aO,aP⟩:=an8 bu a1;cases aC;go_enter func108,ntmps108;go_wp2_with (first|((with_reducible refine jd 5 ?_);refine jY _ 31 ?_;intro aj hg cB aa hb;have aK:=kG hg;replace HB:=kH hb;clear hb hg;have bI:=jz5 aa)|((with_reducible refine jd 21 ?_);refine jV (Kd.int .i64) 3 ([(aa0 l0 a1).f4]:List Int) [iV ((aa0 l0 a1).f4)] (aav.one (show Kd.M (Kd.int .i64) _ _ _ ((aa0 l0 a1).f4) [iV ((aa0 l0 a1).f4)] from rfl) (aa8 _ _)) ?_;intro bJ cK aD hb;replace aD:=kr ax aD;have aV:=kL aD;replace aa:=aM (aaO (g:=aj) (qF aa) hb);replace HB:=kH hb;clear hb aD));go_ret;exact⟨_,qW,qR aV,qB⟩
 have aQ:=aM H;clear H;obtain⟨aJ,aC,ae,af,ag,ah,ai,aO,aP⟩:=an8 bu a1;cases aC;go_enter func108,ntmps108;go_upto_region 6 with (first|((with_reducible refine jd 5 ?_);refine jY _ 31 ?_;intro aj hg w16 aa hb;have aK:=kG hg;replace HB:=kH hb;clear hb hg;have bA:=jz5 aa));(try simp only [Act.put,List.setIfInBounds_toArray,List.set_cons_zero,List.set_cons_succ]);go_cut [22] (fun v22 wc=>∃ (kq:Nat) (au:Bool),v22 = .bool au/\aa1 (adE kq a1 au ((aa0 l0 a1).f0) ((aa0 l0 a1).f1) ((aa0 l0 a1).f2) ((aa0 l0 a1).f3) ((aa0 l0 a1).f4)=some r)/\aa1 (kq<=k)/\aa1 (wc.heap[aj]?=some (.cells #[iV ((aa0 l0 a1).f0),iV ((aa0 l0 a1).f1),iV ((aa0 l0 a1).f2),iV ((aa0 l0 a1).f3),iV ((aa0 l0 a1).f4)] 31 (0,0)))/\aa1 (Below w.heap.size w wc))
 case first =>
  have H:=aQ.out;clear aQ;replace H:=jE H;rcases H with ⟨ak,aW,H⟩ | ⟨c18,ak,aW,H⟩
  ·(first|rw [ak]|(simp only [aaw,aaA];rw [ak])|skip);have H':=aM H;clear H;have bK:=jz5 aa;go_wp2;go_meet;exact⟨_,(decide (((aa0 l0 a1).f4) < (wrap64 (a1+1)))),qZ,H',⟨by first|omega|exact Nat.le_refl _⟩,⟨qF aa⟩,⟨qB⟩⟩
  (first|rw [ak]|(simp only [aaw,aaA];rw [ak])|skip);have H':=aM H;clear H;have bL:=jz5 aa;go_wp2;go_meet;exact⟨_,(false),qZ,H',⟨by first|omega|exact Nat.le_refl _⟩,⟨qF aa⟩,⟨qB⟩⟩
 clear aQ;try clear bv;try clear bz;try clear c5;try clear aR;try clear aS;try clear c10;try clear aL;try clear aN;try clear bA;try clear ae;try clear af;try clear ag;try clear ah;try clear ai;try clear aO;try clear aP
 obtain⟨kq,au,rfl,HA,bM,aa,HB⟩:=hcut
 cases kq with
 | zero=>exact absurd HA.out (by simp [adE])
 | succ bN =>
  have H:=HA.out;clear HA;simp only [adE] at H;replace H:=jB H;rcases H with ⟨rfl,H⟩ | ⟨rfl,H⟩
  ·obtain⟨bO,ay⟩:=ky ((([((aa0 l0 a1).f4),wrap64 (a1+1)]:List Int)):List Int);replace H:=kv ay H;obtain rfl:=oJ H;have bP:=jz5 aa;go_wp2_with (first|((with_reducible refine jd 37 ?_);refine jV (Kd.int .i64) 3 ([((aa0 l0 a1).f4),wrap64 (a1+1)]:List Int) [iV ((aa0 l0 a1).f4),iV (wrap64 (a1+1))] (aav.one (show Kd.M (Kd.int .i64) _ _ _ ((aa0 l0 a1).f4) [iV ((aa0 l0 a1).f4)] from rfl) (aav.one (show Kd.M (Kd.int .i64) _ _ _ (wrap64 (a1+1)) [iV (wrap64 (a1+1))] from rfl) (aa8 _ _))) ?_;intro bQ cO aF hb;replace aF:=kr ay aF;have aX:=kL aF;replace aa:=kB aa hb;replace HB:=kH hb;clear hb aF));go_ret;exact⟨_,qW,qR aX,qB⟩
  replace H:=jE H;rcases H with ⟨aY,aZ,H⟩ | ⟨df,aY,aZ,H⟩
  ·replace H:=jD H;rcases H with ⟨bg,H⟩ | ⟨bg,H⟩
   ·obtain⟨bR,az⟩:=ky ((([wrap64 (a1+1),((aa0 l0 a1).f4)]:List Int)):List Int);replace H:=kv az H;obtain rfl:=oJ H;have bS:=jz5 aa;go_wp2_with (first|((with_reducible refine jd 53 ?_);refine jV (Kd.int .i64) 3 ([wrap64 (a1+1),((aa0 l0 a1).f4)]:List Int) [iV (wrap64 (a1+1)),iV ((aa0 l0 a1).f4)] (aav.one (show Kd.M (Kd.int .i64) _ _ _ (wrap64 (a1+1)) [iV (wrap64 (a1+1))] from rfl) (aav.one (show Kd.M (Kd.int .i64) _ _ _ ((aa0 l0 a1).f4) [iV ((aa0 l0 a1).f4)] from rfl) (aa8 _ _))) ?_;intro bT dh aG hb;replace aG:=kr az aG;have bi:=kL aG;replace aa:=kB aa hb;replace HB:=kH hb;clear hb aG));go_ret;exact⟨_,qW,qR bi,qB⟩
   obtain⟨bU,aA⟩:=ky ((([wrap64 (a1+1)]:List Int)):List Int);replace H:=kv aA H;obtain rfl:=oJ H;have bV:=jz5 aa;go_wp2_with (first|((with_reducible refine jd 56 ?_);refine jV (Kd.int .i64) 3 ([wrap64 (a1+1)]:List Int) [iV (wrap64 (a1+1))] (aav.one (show Kd.M (Kd.int .i64) _ _ _ (wrap64 (a1+1)) [iV (wrap64 (a1+1))] from rfl) (aa8 _ _)) ?_;intro bW di aH hb;replace aH:=kr aA aH;have bn:=kL aH;replace aa:=kB aa hb;replace HB:=kH hb;clear hb aH));go_ret;exact⟨_,qW,qR bn,qB⟩
  obtain⟨bX,aB⟩:=ky ((([wrap64 (a1+1)]:List Int)):List Int);replace H:=kv aB H;obtain rfl:=oJ H;have bY:=jz5 aa;go_wp2_with (first|((with_reducible refine jd 56 ?_);refine jV (Kd.int .i64) 3 ([wrap64 (a1+1)]:List Int) [iV (wrap64 (a1+1))] (aav.one (show Kd.M (Kd.int .i64) _ _ _ (wrap64 (a1+1)) [iV (wrap64 (a1+1))] from rfl) (aa8 _ _)) ?_;intro bZ dn aI hb;replace aI:=kr aB aI;have bq:=kL aI;replace aa:=kB aa hb;replace HB:=kH hb;clear hb aI));go_ret;exact⟨_,qW,qR bq,qB⟩
def ajl (aa ae ag ah ai:Int):Option (Int):=(ajk aa ae ag ah ai 600).bind fun aj=>(if aj=true then (if aa=1 then (some ae) else (if aa=2 then (some ae) else (if aa=3 then (some ae) else (if aa=7 then (some ae) else (some (-1)))))) else (some (-1)))
theorem akq {G:Prop} (h:G:=by
  go_enter func92,ntmps92;go_wp2_with (first|((with_reducible refine jd 1 ?_);refine jY _ 31 ?_;intro aC hg aF af hb;have aD:=kG hg;replace HB:=kH hb;clear hb hg;have aG:=jz5 af)|((with_reducible refine jc 77 4 ?_);refine jG func77 #[.agg #[iV aa,iV ae,iV ag,iV ah,iV ai],iV 600] ?_;refine (Sav.calls _ _ _ _ _ _ _ _ (aa1.out (by assumption))).mono ?_;rintro e aH ⟨rfl,hb⟩;refine⟨_,rfl,?_⟩;replace af:=kB af hb;replace HB:=kH hb;clear hb;have aI:=jz5 af));go_ret
  exact⟨qW,qB⟩):G:=h
theorem Sat.calls (aa ae ag ah ai r:Int) (w:World) (h:ajl aa ae ag ah ai=some r) :
  Calls prog 92 #[.agg #[iV aa,iV ae,iV ag,iV ah,iV ai]] w fun e w'=>e = .returned (iV r)/\Below w.heap.size w w':=by
 have aJ:=underlying31;have HB:=jb_ w;have H:=h;unfold ajl at H;clear h;obtain⟨aj,A2,H⟩:=qE H;try dsimp only at H
 replace H:=jB H;rcases H with ⟨rfl,H⟩ | ⟨rfl,H⟩
 ·replace H:=jE H;rcases H with ⟨ay,az,H⟩ | ⟨c4,ay,az,H⟩
  ·obtain rfl:=oJ H;exact akq
  replace H:=jE H;rcases H with ⟨aA,aB,H⟩ | ⟨c9,aA,aB,H⟩
  ·obtain rfl:=oJ H;exact akq
  replace H:=jE H;rcases H with ⟨ak,au,H⟩ | ⟨c14,ak,au,H⟩
  ·obtain rfl:=oJ H;exact akq
  replace H:=jE H;rcases H with ⟨av,ax,H⟩ | ⟨c19,av,ax,H⟩
  ·obtain rfl:=oJ H;exact akq
  obtain rfl:=oJ H;exact akq
 obtain rfl:=oJ H;exact akq
end Go.Proofs.YtdkkdiiceaomaaaGreat.M
namespace Go.Proofs.YtdkkdiiceaomaaaGreat.M
open Go.Proofs.Tryz Go.RowKit Go.Proofs.YtdkkdiiceaomaaaGreatW.PrintWords Go.Proofs.YtdkkdiiceaomaaaGreatW.PrintLast Go.Proofs.YtdkkdiiceaomaaaGreatW.PrintMore Kd
attribute [local go_sem] aas aaq aaH aaG aaj aai aar aap
def acV:Nat->List Int->Int->Int->Int->Int->Int->Int->Int->Option (List Int)
 | 0,_,_,_,_,_,_,_,_=>none
 | k+1,x5,x6,x7,xa,xb,xc,xd,xe=>if x7 < 12 then (if 0<=x7 then (if x7 < (x5.length:Int) then (if (rd x5 x7)=x6 then (acV k (x5.set (x7:Int).toNat x7) x6 (wrap64 (x7+1)) xa xb xc xd xe) else (acV k x5 x6 (wrap64 (x7+1)) xa xb xc xd xe)) else (none)) else (none)) else (if 0<=x6 then (if x6 < (x5.length:Int) then ((some (x5.set (x6:Int).toNat x6:List Int)).bind fun aK=>(if xa=2 then (some (aK.set (x6:Int).toNat xc)) else (some aK))) else (none)) else (none))
def aiv (k:Nat) (ai aj ag ak au:Int) (l1:List Int):Option (List Int):=(some (([]:List Int):List Int)).bind fun aN=>(if aN.length+l1.length < 17592186044416 then ((some (aN ++ l1:List Int)).bind fun aX=>((ajl ai aj ag ak au).bind fun ae=>(if ae < 0 then (some aX) else (acV k aX ae 0 ai aj ag ak au)))) else (none))
theorem ah6:∀ k,(∀ y0 y1 y2 y3 y4 y5 y6 y7,LeO (acV k y0 y1 y2 y3 y4 y5 y6 y7) (acV (k+1) y0 y1 y2 y3 y4 y5 y6 y7))
 | 0=>fun _ _ _ _ _ _ _ _ r h=>by simp [acV] at h
 | k+1=>by
  have dM:=ah6 k
  intros;unfold acV;exact mM
theorem Sb9.mono:∀ a0 a1 a2 a3 a4 a5 k,LeO (aiv k a0 a1 a2 a3 a4 a5) (aiv (k+1) a0 a1 a2 a3 a4 a5):=by
 intro a0 a1 a2 a3 a4 a5 k;have dM:=ah6 k;unfold aiv;exact mM
theorem amb (k:Nat) (ai aj ag ak au:Int) (A1:Option Addr) (c1:Nat) (l1 r:List Int) (w:World) (hr1:Kd.C (Kd.int .i64) w A1 l1.length l1) (hc1:l1.length<=c1) (h:aiv k ai aj ag ak au l1=some r) :
  Calls prog 109 #[.agg #[iV ai,iV aj,iV ag,iV ak,iV au],.slice A1 l1.length c1] w fun e w'=>∃ dF:Value,e = .returned (dF)/\Kd.R (Kd.int .i64) 3 w' w.heap.size (fun _=>True) dF r/\Below w.heap.size w w':=by
 have dN:=underlying31;have HR1:=aM hr1;have dY:=aM hc1;clear hr1 hc1;have HB:=jb_ w;have H:=h;unfold aiv at H;clear h;obtain⟨aN,aC⟩:=ky ([]:List Int);replace H:=kv aC H;replace H:=jL H;obtain⟨bE,H⟩:=H;obtain⟨aX,aH⟩:=ky ((aN ++ l1):List Int);replace H:=kv aH H;obtain⟨ae,A4,H⟩:=qE H;try dsimp only at H
 replace H:=jD H;rcases H with ⟨bF,H⟩ | ⟨bF,H⟩
 ·obtain rfl:=oJ H;go_enter func109,ntmps109;go_wp2_with (first|((with_reducible refine jd 2 ?_);refine jY _ 31 ?_;intro ax hg w6 aa hb;have bG:=kG hg;replace HB:=kH hb;clear hb hg)|((with_reducible refine jd 8 ?_);refine jV (Kd.int .i64) 3 ([]:List Int) [] (aa8 _ _) ?_;intro bg w7 bH hb;replace bH:=kr aC bH;have ay:=kL bH;replace aa:=kB aa hb;replace HB:=kH hb;clear hb bH)|((with_reducible refine aa9 (b:=.append) (xs:=#[.tmp 8,.tmp 9]) rfl ?_);at_builtin;refine R_append_rows (Kd.int .i64) (w0:=w) w.heap.size rfl (.tmp 8) (.tmp 9) 28 3 (iV 0) 8 rfl underlying28 akg rfl (by decide) (by omega) bg aN l1 _ _ _ (fun _=>True) (fun _=>False) rfl rfl ?aO ?aR (fun _ _ h=>h) (fun _ h=>h.elim) ?aF ?aB ?aS ?aL ?_;(case aR=>exact kb HR1 HB);(case aB=>exact qB);(case aF=>exact (fun _ _=>trivial));(case aO=>exact (qR ay));(case aS=>exact (aa4 qB));(case aL=>have:=bE.out;omega);intro bI w9 ho hb hg hat;rw [<- aH.out] at ho;have az:=aM ho;replace aa:=aM (aak (g:=ax) (qK aa) hg (R_ne ay.out aa.out (by decide)));replace HB:=aM hb;clear ay;clear ho hb hg hat;have dO:=jz5 aa)|((with_reducible refine jc 92 12 ?_);refine jK func92 (Sat.calls ai aj ag ak au ae _ A4.out) ?_;intro dZ hb;replace az:=kR az hb;replace aa:=kB aa hb;replace HB:=kH hb;clear hb));go_ret;exact⟨_,qW,qR az,qB⟩
 have H':=aM H;clear H;go_enter func109,ntmps109;go_wp2_with (first|((with_reducible refine jd 2 ?_);refine jY _ 31 ?_;intro ax hg d9 aa hb;have bG:=kG hg;replace HB:=kH hb;clear hb hg)|((with_reducible refine jd 8 ?_);refine jV (Kd.int .i64) 3 ([]:List Int) [] (aa8 _ _) ?_;intro bg ed aP hb;replace aP:=kr aC aP;have ay:=kL aP;replace aa:=kB aa hb;replace HB:=kH hb;clear hb aP)|((with_reducible refine aa9 (b:=.append) (xs:=#[.tmp 8,.tmp 9]) rfl ?_);at_builtin;refine R_append_rows (Kd.int .i64) (w0:=w) w.heap.size rfl (.tmp 8) (.tmp 9) 28 3 (iV 0) 8 rfl underlying28 akg rfl (by decide) (by omega) bg aN l1 _ _ _ (fun _=>True) (fun _=>False) rfl rfl ?aO ?aR (fun _ _ h=>h) (fun _ h=>h.elim) ?aF ?aB ?aS ?aL ?_;(case aR=>exact kb HR1 HB);(case aB=>exact qB);(case aF=>exact (fun _ _=>trivial));(case aO=>exact (qR ay));(case aS=>exact (aa4 qB));(case aL=>have:=bE.out;omega);intro bI ek ho hb hg hat;rw [<- aH.out] at ho;have az:=aM ho;replace aa:=aM (aak (g:=ax) (qK aa) hg (R_ne ay.out aa.out (by decide)));replace HB:=aM hb;clear ay;clear ho hb hg hat;have bV:=jz5 aa)|((with_reducible refine jc 92 12 ?_);refine jK func92 (Sat.calls ai aj ag ak au ae _ A4.out) ?_;intro eu hb;replace az:=kR az hb;replace aa:=kB aa hb;replace HB:=kH hb;clear hb));go_loopg [7] k (fun kq v7 w'=>∃ (av:List Int) (ah:Int),v7 = iV ah/\aa1 (acV kq av ae ah ai aj ag ak au=some r)/\aa1 (kq<=k)/\aa1 (Kd.R (Kd.int .i64) 3 w' w.heap.size (fun _=>True) bI av)/\aa1 (w'.heap[ax]?=some (.cells #[iV ai,iV aj,iV ag,iV ak,iV au] 31 (0,0)))/\aa1 (Below w.heap.size w w'));case atStart=>exact⟨(aX),(0),qZ,H',⟨Nat.le_refl _⟩,⟨qR az⟩,⟨qK aa⟩,⟨qB⟩⟩
 clear H';try clear c1;try clear bF;try clear bV
 obtain⟨av,ah,rfl,HA,bU,af,aa,HB⟩:=hrel;rcases gk with _|k1
 ·exact absurd HA.out (by simp [acV])
 have H:=HA.out;clear HA;simp only [acV] at H;replace H:=jD H;rcases H with ⟨bJ,H⟩ | ⟨bJ,H⟩
 ·replace H:=jI H;obtain⟨dG,H⟩:=H;replace H:=jI H;obtain⟨dH,H⟩:=H;replace H:=jE H;rcases H with ⟨bK,bL,H⟩ | ⟨c21,bK,bL,H⟩
  ·obtain⟨bM,aQ⟩:=ky ((av.set (ah:Int).toNat ah):List Int);replace H:=kv aQ H;have H':=aM H;clear H;obtain⟨dP,bW,bX⟩:=R_slice af.out;subst bX;have aD:0<=(ah:Int):=qD;have aG:ah < (av.length:Int):=qD;obtain⟨bN,bi,aI⟩:=Kd.at_int (R_reads' af.out).2.2 ah aD aG;cases bi;replace aD:=eq_true aD;replace aG:=eq_true aG;have bY:0<=(ah:Int):=qD;have q22:(ah:Int) < ((av.length:Int):Int):=qD;obtain⟨bn,dQ,bO,bP,bZ,dR,bQ⟩:=R_form af.out (by omega);(first|cases bO|(injection bO with ea_ en_ ec_;(first|subst ea_|(injection ea_ with ea_;subst ea_));subst ec_;clear en_));have cu:=aM bP;have dS:=aM bQ;clear bP bZ bQ;(first|simp only [add_plain] at aI|skip);obtain⟨cz,cB⟩:=R_celln 0 af.out (ah:Int) bY q22;replace bY:=eq_true bY;replace q22:=eq_true q22;have bq:=R_putg af.out (ah:Int) ah;go_wp2_with (first|((with_reducible refine aaI (t:=3) (p:=29) rfl ?_);refine aat (t:=3) (p:=29) (v:=?cK) (w1:=(wr.setCell ⟨bn,(ah:Int).toNat,none⟩ (iV ah))) ?hg ?ho ?hn ?hr ?_;(case ho=>rfl);(case hg=>rfl);(case hn=>rfl);(case hr=>first|(go_simp;done)|(go_simp;rfl));intro cO hw;have hg:wr.grownBy cO (some bn):=(by rw [hw];exact bq.2);have hp_:Kd.R (Kd.int .i64) 3 cO w.heap.size (fun _=>True) (.slice (some ⟨bn,0,none⟩) av.length bW) bM:=(by rw [hw,aQ.out];exact bq.1);clear bq;replace aa:=aM (aak (g:=ax) (qK aa) hg (R_ne af.out aa.out (by decide)));replace af:=aM hp_;replace HB:=aM ((by rw [hw];exact aad (HB.out) cu.out:Below w.heap.size w cO));clear hg hw hp_));go_roundg k1;case measure=>have:=bU.out;omega
   exact⟨(bM),(wrap64 (ah+1)),qZ,H',⟨by have:=bU.out;omega⟩,⟨qR af⟩,⟨qK aa⟩,⟨qB⟩⟩
  have H':=aM H;clear H;obtain⟨dU,dV,df⟩:=R_slice af.out;subst df;have aD:0<=(ah:Int):=qD;have aG:ah < (av.length:Int):=qD;obtain⟨bN,bi,aI⟩:=Kd.at_int (R_reads' af.out).2.2 ah aD aG;cases bi;replace aD:=eq_true aD;replace aG:=eq_true aG;go_wp2;go_roundg k1;case measure=>have:=bU.out;omega
  exact⟨(av),(wrap64 (ah+1)),qZ,H',⟨by have:=bU.out;omega⟩,⟨qR af⟩,⟨qK aa⟩,⟨qB⟩⟩
 replace H:=jI H;obtain⟨dI,H⟩:=H;replace H:=jI H;obtain⟨dJ,H⟩:=H;obtain⟨aK,aJ⟩:=ky ((av.set (ae:Int).toNat ae):List Int);replace H:=kv aJ H;replace H:=jE H;rcases H with ⟨bR,bS,H⟩ | ⟨eB,bR,bS,H⟩
 ·obtain⟨dh,aT⟩:=ky ((aK.set (ae:Int).toNat ag):List Int);replace H:=kv aT H;obtain rfl:=oJ H;have p29:0<=(ae:Int):=qD;have bu:(ae:Int) < ((av.length:Int):Int):=qD;obtain⟨aA,aY,aU,aV,bv,di,aW⟩:=R_form af.out (by omega);(first|cases aU|(injection aU with ea_ en_ ec_;(first|subst ea_|(injection ea_ with ea_;subst ea_));subst ec_;clear en_));have aZ:=aM aV;have dn:=aM aW;clear aV bv aW;obtain⟨bz,bA⟩:=R_celln 0 af.out (ae:Int) p29 bu;replace p29:=eq_true p29;replace bu:=eq_true bu;have bB:=R_putg af.out (ae:Int) ae;go_wp2_with (first|((with_reducible refine aaI (t:=3) (p:=33) rfl ?_);refine aat (t:=3) (p:=33) (v:=?dw) (w1:=(wr.setCell ⟨aA,(ae:Int).toNat,none⟩ (iV ae))) ?hg ?ho ?hn ?hr ?_;(case ho=>rfl);(case hg=>rfl);(case hn=>rfl);(case hr=>first|(go_simp;done)|(go_simp;rfl));intro bT hw;have hg:wr.grownBy bT (some aA):=(by rw [hw];exact bB.2);have hp_:Kd.R (Kd.int .i64) 3 bT w.heap.size (fun _=>True) (.slice (some ⟨aA,0,none⟩) av.length aY) aK:=(by rw [hw,aJ.out];exact bB.1);clear bB;replace aa:=aM (aak (g:=ax) (qK aa) hg (R_ne af.out aa.out (by decide)));replace af:=aM hp_;replace HB:=aM ((by rw [hw];exact aad (HB.out) aZ.out:Below w.heap.size w bT));clear hg hw hp_;have dW:=jz5 aa;have p31:0<=(ae:Int):=qD;have dx:(ae:Int) < ((av.length:Int):Int):=qD;obtain⟨dz,dA⟩:=R_celln 0 af.out (ae:Int) p31 dx;replace p31:=eq_true p31;replace dx:=eq_true dx;obtain⟨dK,dL⟩:=R_celln 0 af.out (ae:Int) (qD) (qD);have bC:=R_putg af.out (ae:Int) ag)|((with_reducible refine aaI (t:=3) (p:=41) rfl ?_);refine aat (t:=3) (p:=41) (v:=?dB) (w1:=(bT.setCell ⟨aA,(ae:Int).toNat,none⟩ (iV ag))) ?hg ?ho ?hn ?hr ?_;(case ho=>rfl);(case hg=>rfl);(case hn=>rfl);(case hr=>first|(go_simp;done)|(go_simp;rfl));intro dC hw;have hg:bT.grownBy dC (some aA):=(by rw [hw];exact bC.2);have hp_:Kd.R (Kd.int .i64) 3 dC w.heap.size (fun _=>True) (.slice (some ⟨aA,0,none⟩) av.length aY) dh:=(by rw [hw,aT.out];exact bC.1);clear bC;replace aa:=aM (aak (g:=ax) (qK aa) hg (R_ne af.out aa.out (by decide)));replace af:=aM hp_;replace HB:=aM ((by rw [hw];exact aad (HB.out) aZ.out:Below w.heap.size w dC));clear hg hw hp_));go_ret;exact⟨_,qW,qR af,qB⟩
 obtain rfl:=oJ H;have p29:0<=(ae:Int):=qD;have bu:(ae:Int) < ((av.length:Int):Int):=qD;obtain⟨aA,aY,aU,aV,bv,di,aW⟩:=R_form af.out (by omega);(first|cases aU|(injection aU with ea_ en_ ec_;(first|subst ea_|(injection ea_ with ea_;subst ea_));subst ec_;clear en_));have aZ:=aM aV;have dn:=aM aW;clear aV bv aW;obtain⟨bz,bA⟩:=R_celln 0 af.out (ae:Int) p29 bu;replace p29:=eq_true p29;replace bu:=eq_true bu;have bD:=R_putg af.out (ae:Int) ae;go_wp2_with (first|((with_reducible refine aaI (t:=3) (p:=33) rfl ?_);refine aat (t:=3) (p:=33) (v:=?dD) (w1:=(wr.setCell ⟨aA,(ae:Int).toNat,none⟩ (iV ae))) ?hg ?ho ?hn ?hr ?_;(case ho=>rfl);(case hg=>rfl);(case hn=>rfl);(case hr=>first|(go_simp;done)|(go_simp;rfl));intro dE hw;have hg:wr.grownBy dE (some aA):=(by rw [hw];exact bD.2);have hp_:Kd.R (Kd.int .i64) 3 dE w.heap.size (fun _=>True) (.slice (some ⟨aA,0,none⟩) av.length aY) aK:=(by rw [hw,aJ.out];exact bD.1);clear bD;replace aa:=aM (aak (g:=ax) (qK aa) hg (R_ne af.out aa.out (by decide)));replace af:=aM hp_;replace HB:=aM ((by rw [hw];exact aad (HB.out) aZ.out:Below w.heap.size w dE));clear hg hw hp_;have dX:=jz5 aa));go_ret;exact⟨_,qW,qR af,qB⟩
def acH:Nat->List (List Int)->Int->List Int->Bool->Int->Option (Bool × (List (List Int)))
 | 0,_,_,_,_,_=>none
 | k+1,x0,x1,x2,x7,x8=>if x8 < 12 then (if 0<=x1 then (if x1 < (x0.length:Int) then (if 0<=x8 then (if x8 < ((ab1 x0 x1).length:Int) then (if (rd (ab1 x0 x1) x8)=x8 then (acH k x0 x1 x2 x7 (wrap64 (x8+1))) else (if x8 < (x2.length:Int) then (if (rd (ab1 x0 x1) x8)=(rd x2 x8) then (acH k x0 x1 x2 x7 (wrap64 (x8+1))) else (acH k (x0.set (x1:Int).toNat ((ab1 x0 x1).set (x8:Int).toNat x8)) x1 x2 true (wrap64 (x8+1)))) else (none))) else (none)) else (none)) else (none)) else (none)) else (some (x7,x0))
def Sba.f (k:Nat) (l0:List (List Int)) (a1:Int) (l2:List Int):Option (Bool × (List (List Int))):=if 0<=a1 then (if a1 < (l0.length:Int) then (if ((ab1 l0 a1).length:Int)=0 then ((some (([]:List Int):List Int)).bind fun dE=>(if dE.length+l2.length < 17592186044416 then (some (true,(l0.set (a1:Int).toNat (dE ++ l2)))) else (none))) else (acH k l0 a1 l2 false 0)) else (none)) else (none)
theorem ah5:∀ k,(∀ y0 y1 y2 y3 y4,LeO (acH k y0 y1 y2 y3 y4) (acH (k+1) y0 y1 y2 y3 y4))
 | 0=>fun _ _ _ _ _ r h=>by simp [acH] at h
 | k+1=>by
  have iY:=ah5 k
  intros;unfold acH;exact mM
theorem Sba.mono:∀ a0 a1 a2 k,LeO (Sba.f k a0 a1 a2) (Sba.f (k+1) a0 a1 a2):=by
 intro a0 a1 a2 k;have iY:=ah5 k;unfold Sba.f;exact mM
theorem Sba.calls (k:Nat) (aD:Nat->Prop) (bA:Value) (l0:List (List Int)) (a1:Int) (A2:Option Addr) (c2:Nat) (l2:List Int) (r1:Bool) (r2:List (List Int)) (w0 w:World) (hB:Below w0.heap.size w0 w) (ho0:Kd.S (Kd.slice 3 (Kd.int .i64)) 28 w w0.heap.size aD bA l0) (hr2:∀ W_,Kept w W_ (fun k_=>aD k_)->Kd.C (Kd.int .i64) W_ A2 l2.length l2) (hc2:l2.length<=c2) (h:Sba.f k l0 a1 l2=some (r1,r2)) :
  Calls prog 110 #[bA,iV a1,.slice A2 l2.length c2] w fun e w'=>e = .returned (.bool r1)/\Kd.S (Kd.slice 3 (Kd.int .i64)) 28 w' w0.heap.size (fun k_=>(aD k_\/w.heap.size<=k_)) bA r2/\Below w0.heap.size w0 w'/\Kept w w' (fun k_=>aD k_):=by
 have aC:=aM (show Kd.S (Kd.slice 3 (Kd.int .i64)) 28 w w0.heap.size (fun k_=>(aD k_\/w.heap.size<=k_)) bA l0 from S_mono ho0 (fun k_ hk=>(.inl hk)));have HR2:=aM hr2;have jl:=aM hc2;clear hr2 hc2;have HK:=aM (ad1 w (fun k_=>aD k_));have HW0:=aM hB.size;have HB:=aM hB;clear hB;have H:=h;unfold Sba.f at H;clear h;replace H:=jI H;obtain⟨gQ,H⟩:=H;replace H:=jI H;obtain⟨gT,H⟩:=H;replace H:=jE H;rcases H with ⟨fJ,fK,H⟩ | ⟨c6,fJ,fK,H⟩
 ·obtain⟨dE,dn⟩:=ky ([]:List Int);replace H:=kv dn H;replace H:=jL H;obtain⟨gU,H⟩:=H;obtain⟨bB,dF⟩:=ky ((dE ++ l2):List Int);replace H:=kv dF H;obtain⟨gV,dG⟩:=ky ((l0.set (a1:Int).toNat bB):List (List Int));replace H:=kv dG H;obtain⟨rfl,rfl⟩:=oJ2 H;obtain⟨jm,fH,iZ⟩:=S_slice aC.out;subst iZ;have bq:0<=(a1:Int):=qD;have bu:a1 < (l0.length:Int):=qD;obtain⟨aG,dH,dI,eQ,av,aH,aI⟩:=afr (S_reads' aC.out).2.2 a1 bq bu;cases eQ;obtain⟨fM,bV,bW,aZ⟩:=S_get aC.out [] a1 bq (by first|exact bu|exact qD|(have e_:=(S_reads' aC.out).1;omega));obtain⟨dS,rfl,ax⟩:=bW;have ak:=aZ 0 _ rfl;rw [Nat.add_zero,show ((Kd.slice 3 (Kd.int .i64))).sz=1 from rfl,Nat.mul_one] at ak;replace ak:=Option.some.inj (ak.symm.trans av);rw [ak] at ax;have ai:=aM (show Kd.R (Kd.int .i64) 3 _ _ _ _ (ab1 l0 a1) from ax);clear ak ax;have bC:=aM av;clear aZ bV;have bD:=aM aI;have dU:=aM aH;clear aI aH;replace bq:=eq_true bq;replace bu:=eq_true bu;go_enter func110,ntmps110;go_wp2_with (first|((with_reducible refine jd 17 ?_);refine jV (Kd.int .i64) 3 ([]:List Int) [] (aa8 _ _) ?_;intro gW jo bX hb;replace bX:=kr dn bX;have dJ:=aM (R_lower (R_new' (R_newM (M:=fun k_=>(aD k_\/w.heap.size<=k_)) bX (by first|exact HK.out.1|exact (show Kept w _ (fun k_=>aD k_) from qT).1) (fun k_ h_=>.inr h_)) (R_lt (qR ai))) (aa4 qB));replace aC:=aM (S_elder' (qS aC) (R_base bX) hb);replace ai:=kO ai bX hb;replace bD:=kQ bD hb;replace bC:=kW hb bC;replace HK:=kT hb;replace HB:=kH hb;clear hb bX)|((with_reducible refine aa9 (b:=.append) (xs:=#[.tmp 17,.tmp 18]) rfl ?_);at_builtin;refine R_append_rows (Kd.int .i64) (w0:=w0) w0.heap.size rfl (.tmp 17) (.tmp 18) 28 3 (iV 0) 8 rfl underlying28 akg rfl (by decide) (by omega) gW dE l2 _ _ _ (fun k_=>(aD k_\/w.heap.size<=k_)/\some k_≠(.slice dH (ab1 l0 a1).length dI:Value).ownBlock) (fun _=>False) rfl rfl ?aO ?aR (fun _ _ h=>h) (fun _ h=>h.elim) ?aF ?aB ?aS ?aL ?_;(case aR=>exact C_kept_now HR2.out qT);(case aB=>exact qB);(case aF=>exact (fun k_ hk=>⟨(.inr (Nat.le_trans (by first|exact HK.out.1|exact (show Kept w _ (fun k_=>aD k_) from qT).1) hk)),Kd.fresh' (R_lt (qR ai)) k_ hk⟩));(case aO=>exact (by (with_reducible repeat (first|apply R_alloc|apply R_drewN|apply R_drew));exact R_mono dJ.out (fun _ hk=>⟨hk.1.1,hk.2⟩)));(case aS=>exact (aa4 qB));(case aL=>have:=gU.out;omega);intro ja eT ho hb hg hat;rw [<- dF.out] at ho;have bN:=aM (S_after (ok:=(fun k_=>(aD k_\/w.heap.size<=k_))) (qS aC) hg hat);have bO:=aM (R_after (ok:=(fun k_=>(aD k_\/w.heap.size<=k_)/\some k_≠(.slice (some aG) l0.length fH:Value).ownBlock)) (qR ai) hg hat);have bP:=aM hb;have bQ:=aM (abo (S:=(fun k_=>aD k_)) hg qT (fun k_ e_=>(dJ.out.1 k_ e_).1.1));have fO:=aM ho;clear aC;clear ai;clear HB;clear HK;clear dJ;have aC:=bN;have ai:=bO;have HB:=bP;have HK:=bQ;have bv:=fO;obtain⟨Aoz,coz,eoz⟩:=R_slice bv.out;subst eoz;clear bN bO bP bQ fO;clear ho hb hg hat;have p8:0<=(a1:Int):=qD;have q8:(a1:Int) < ((l0.length:Int):Int):=qD;obtain⟨dC,jr,iG,iH,je,jv,iI⟩:=S_form aC.out (by omega);(first|cases iG|(injection iG with ea_ en_ ec_;(first|subst ea_|(injection ea_ with ea_;subst ea_));subst ec_;clear en_));have jf:=aM iH;have jw:=aM iI;clear iH je iI;have iJ:=aM (show (aD dC\/w.heap.size<=dC) from ((S_R aC.out).1 _ rfl).1);(first|simp only [add_plain] at av|skip);obtain⟨_,jy,gX,iK,fP,fQ,_,_⟩:=S_elem aC.out [] (a1:Int) p8 q8;obtain⟨iL,rfl,iM⟩:=iK;have fT:=fP 0 _ rfl;have fU:=fQ 0;(try simp only [show ((Kd.slice 3 (Kd.int .i64))).sz=1 from rfl,Nat.mul_one,Nat.add_zero] at fT);(try simp only [show ((Kd.slice 3 (Kd.int .i64))).sz=1 from rfl,Nat.mul_one,Nat.add_zero] at fU);clear gX fP fQ;(try clear iK);replace p8:=eq_true p8;replace q8:=eq_true q8;have eU:=aM (show Kd.S (Kd.slice 3 (Kd.int .i64)) 28 eT w0.heap.size (fun k_=>((fun k_=>(aD k_\/w.heap.size<=k_))) k_/\¬ ((fun k_=>some k_=((.slice Aoz bB.length coz):Value).ownBlock)) k_) (.slice (some ⟨dC,0,none⟩) l0.length fH) l0 from (by (with_reducible repeat (first|apply S_alloc|apply S_drewN|apply S_drew));exact S_mono aC.out (by first|exact fun k_ hk=>⟨hk.1,fun e_=>hk.2 e_⟩|exact fun k_ hk=>hk)));obtain⟨fV,gY,dK,dL,bR,bS,bY,dM⟩:=S_elem eU.out [] (a1:Int) (qD) (by have h_:(a1:Int) < ((l0.length:Int):Int):=qD;first|exact h_|(have e_:=(S_reads' aC.out).1;omega)|simpa using h_);obtain⟨eX,rfl,eY⟩:=dL;have dD:=S_seg dM (qD) (by have h_:(a1:Int) < ((l0.length:Int):Int):=qD;first|exact h_|(have e_:=(S_reads' aC.out).1;omega)|simpa using h_) (seg:=[(.slice Aoz bB.length coz)]) (j:=0) (show 1<=1 from by decide) (x':=bB) (M_row (R_mono (R_tight rfl (R_mono (ok':=fun k_=>((fun k_=>(aD k_\/w.heap.size<=k_))) k_/\k_≠dC) (R_apart' (bv.out) (S_typed aC.out) (by decide)) (fun k_ hk=>⟨hk.1.1,fun e_=>(hk.2) (by rw [e_];rfl)⟩))) (fun _ h_=>Or.inr (h_)))) (fun _ hk=>hk) (fun k_ hk_=>((R_mono (ok':=fun k_=>((fun k_=>(aD k_\/w.heap.size<=k_))) k_/\k_≠dC) (R_apart' (bv.out) (S_typed aC.out) (by decide)) (fun k_ hk=>⟨hk.1.1,fun e_=>(hk.2) (by rw [e_];rfl)⟩))).1 k_ hk_.symm);have bZ:=bR 0 _ rfl;(try simp only [show ((Kd.slice 3 (Kd.int .i64))).sz=1 from rfl,Nat.mul_one,Nat.add_zero] at bZ);have cu:=bS 0;(try simp only [show ((Kd.slice 3 (Kd.int .i64))).sz=1 from rfl,Nat.mul_one,Nat.add_zero] at cu);clear dK bR bS bY dM;(try clear dL);(try simp only [show ((Kd.slice 3 (Kd.int .i64))).sz=1 from rfl,Nat.mul_one,Nat.add_zero] at dD))|((with_reducible refine aaI (t:=28) (p:=20) rfl ?_);(try (rw [abq eT];generalize hq_:World.drewN eT _=eT;have bN:=aM (S_at hq_ aC.out);have bO:=aM (R_at hq_ ai.out);have bP:=aM (ahA hq_ HK.out);have bQ:=aM (afF hq_ HB.out);clear hq_ aC ai HK HB;have aC:=bN;have ai:=bO;have HK:=bP;have HB:=bQ;clear bN bO bP bQ;(try (have eU:=aM (show Kd.S (Kd.slice 3 (Kd.int .i64)) 28 eT w0.heap.size (fun k_=>((fun k_=>(aD k_\/w.heap.size<=k_))) k_/\¬ ((fun k_=>some k_=((.slice Aoz bB.length coz):Value).ownBlock)) k_) (.slice (some ⟨dC,0,none⟩) l0.length fH) l0 from (by (with_reducible repeat (first|apply S_alloc|apply S_drewN|apply S_drew));exact S_mono aC.out (by first|exact fun k_ hk=>⟨hk.1,fun e_=>hk.2 e_⟩|exact fun k_ hk=>hk)))));(try (obtain⟨fV,gY,dK,dL,bR,bS,bY,dM⟩:=S_elem eU.out [] (a1:Int) (qD) (by have h_:(a1:Int) < ((l0.length:Int):Int):=qD;first|exact h_|(have e_:=(S_reads' aC.out).1;omega)|simpa using h_)));(try (obtain⟨eX,rfl,eY⟩:=dL));(try (have dD:=S_seg dM (qD) (by have h_:(a1:Int) < ((l0.length:Int):Int):=qD;first|exact h_|(have e_:=(S_reads' aC.out).1;omega)|simpa using h_) (seg:=[(.slice Aoz bB.length coz)]) (j:=0) (show 1<=1 from by decide) (x':=bB) (M_row (R_mono (R_tight rfl (R_mono (ok':=fun k_=>((fun k_=>(aD k_\/w.heap.size<=k_))) k_/\k_≠dC) (R_apart' (bv.out) (S_typed aC.out) (by decide)) (fun k_ hk=>⟨hk.1.1,fun e_=>(hk.2) (by rw [e_];rfl)⟩))) (fun _ h_=>Or.inr (h_)))) (fun _ hk=>hk) (fun k_ hk_=>((R_mono (ok':=fun k_=>((fun k_=>(aD k_\/w.heap.size<=k_))) k_/\k_≠dC) (R_apart' (bv.out) (S_typed aC.out) (by decide)) (fun k_ hk=>⟨hk.1.1,fun e_=>(hk.2) (by rw [e_];rfl)⟩))).1 k_ hk_.symm)));(try (have bZ:=bR 0 _ rfl));(try (try simp only [show ((Kd.slice 3 (Kd.int .i64))).sz=1 from rfl,Nat.mul_one,Nat.add_zero] at bZ));(try (have cu:=bS 0));(try (try simp only [show ((Kd.slice 3 (Kd.int .i64))).sz=1 from rfl,Nat.mul_one,Nat.add_zero] at cu));(try (clear dK bR bS bY dM;(try clear dL)));(try (try simp only [show ((Kd.slice 3 (Kd.int .i64))).sz=1 from rfl,Nat.mul_one,Nat.add_zero] at dD))));refine aat (t:=28) (p:=20) (v:=?gZ) (w1:=(eT.setCell ⟨dC,(a1:Int).toNat,none⟩ ((.slice Aoz bB.length coz)))) ?hg ?ho ?hn ?hr ?_;(case ho=>rfl);(case hg=>rfl);(case hn=>rfl);(case hr=>first|(go_simp;done)|(go_simp;rfl));intro ib hw;have hg:eT.grownBy ib (some dC):=(by rw [hw];exact dD.2);have hp_:Kd.S (Kd.slice 3 (Kd.int .i64)) 28 ib w0.heap.size (fun k_=>(aD k_\/w.heap.size<=k_)) (.slice (some ⟨dC,0,none⟩) l0.length fH) gV:=(by rw [hw,dG.out];exact dD.1);clear dD;replace ai:=aM (R_after (v:=(.slice (some ⟨dC,0,none⟩) l0.length fH)) (v1:=(.slice (some ⟨dC,0,none⟩) l0.length fH)) (ok:=(fun k_=>(aD k_\/w.heap.size<=k_)/\some k_≠((.slice Aoz bB.length coz):Value).ownBlock)) (by (with_reducible repeat (first|apply R_alloc|apply R_drewN|apply R_drew));exact R_mono ai.out (fun _ hk=>⟨⟨hk.1.1,hk.2⟩,hk.1.2⟩)) hg (.inl rfl));replace HB:=aM ((by rw [hw];exact aad (HB.out) jf.out:Below w0.heap.size w0 ib));replace HK:=aM (abo (S:=(fun k_=>aD k_)) hg qT (fun k_ e_=>((S_R aC.out).1 k_ e_).1));replace aC:=aM hp_;clear bv;clear hg hw hp_));go_ret;exact⟨qW,qS aC,qB,qT⟩
 have ic:¬ ((ab1 l0 a1)=[]):=fun h_=>c6 (by rw [h_];rfl)
 have H':=aM H;clear H;obtain⟨jg,dV,ig⟩:=S_slice aC.out;subst ig;have bq:0<=(a1:Int):=qD;have bu:a1 < (l0.length:Int):=qD;obtain⟨aG,dH,dI,eQ,av,aH,aI⟩:=afr (S_reads' aC.out).2.2 a1 bq bu;cases eQ;obtain⟨fM,bV,bW,aZ⟩:=S_get aC.out [] a1 bq (by first|exact bu|exact qD|(have e_:=(S_reads' aC.out).1;omega));obtain⟨dS,rfl,ax⟩:=bW;have ak:=aZ 0 _ rfl;rw [Nat.add_zero,show ((Kd.slice 3 (Kd.int .i64))).sz=1 from rfl,Nat.mul_one] at ak;replace ak:=Option.some.inj (ak.symm.trans av);rw [ak] at ax;have ai:=aM (show Kd.R (Kd.int .i64) 3 _ _ _ _ (ab1 l0 a1) from ax);clear ak ax;have bC:=aM av;clear aZ bV;have bD:=aM aI;have dU:=aM aH;clear aI aH;replace bq:=eq_true bq;replace bu:=eq_true bu;go_enter func110,ntmps110;go_wp2;repeat (go_quiet (fail);try go_wp2)
 go_loopg [7,8] k (fun kq v7 v8 w'=>∃ (af:List (List Int)) (dN:Bool) (ag:Int),v7 = .bool dN/\v8 = iV ag/\aa1 (acH kq af a1 l2 dN ag=some (r1,r2))/\aa1 (kq<=k)/\aa1 (Kd.S (Kd.slice 3 (Kd.int .i64)) 28 w' w0.heap.size (fun k_=>(aD k_\/w.heap.size<=k_)) (.slice (some aG) l0.length dV) af)/\aa1 (Kept w w' (fun k_=>aD k_))/\aa1 (Below w0.heap.size w0 w'));case atStart=>exact⟨(l0),(false),(0),qZ,qZ,H',⟨Nat.le_refl _⟩,⟨qS aC⟩,⟨qT⟩,⟨qB⟩⟩
 clear H';try clear c2;try clear gQ;try clear gT;try clear c6;try clear fJ;try clear fK;try clear ic;try clear av;try clear bq;try clear bu
 obtain⟨af,dN,ag,rfl,rfl,HA,fI,ae,HK,HB⟩:=hrel;have aJ:=(S_reads' ae.out).1;rw [aJ] at ae;(try simp only [aJ]);rcases gk with _|k1
 ·exact absurd HA.out (by simp [acH])
 have H:=HA.out;clear HA;simp only [acH] at H;replace H:=jD H;rcases H with ⟨fZ,H⟩ | ⟨fZ,H⟩
 ·replace H:=jI H;obtain⟨iN,H⟩:=H;replace H:=jI H;obtain⟨iO,H⟩:=H;replace H:=jI H;obtain⟨iP,H⟩:=H;replace H:=jI H;obtain⟨iQ,H⟩:=H;replace H:=jE H;rcases H with ⟨gm,gp,H⟩ | ⟨c21,gm,gp,H⟩
  ·have H':=aM H;clear H;have bE:0<=(a1:Int):=qD;have bF:a1 < (af.length:Int):=qD;obtain⟨dO,eZ,bG,fe,ay,aK,aN⟩:=afr (S_reads' ae.out).2.2 a1 bE bF;obtain rfl:aG=dO:=(by injection fe);obtain⟨gq,cz,cB,bg⟩:=S_get ae.out [] a1 bE (by first|exact bF|exact qD|(have e_:=(S_reads' ae.out).1;omega));obtain⟨dW,rfl,az⟩:=cB;have au:=bg 0 _ rfl;rw [Nat.add_zero,show ((Kd.slice 3 (Kd.int .i64))).sz=1 from rfl,Nat.mul_one] at au;replace au:=Option.some.inj (au.symm.trans ay);rw [au] at az;have aY:=aM (show Kd.R (Kd.int .i64) 3 _ _ _ _ (ab1 af a1) from az);clear au az;have dX:=aM ay;clear bg cz;have bH:=aM aN;have dY:=aM aK;clear aN aK;replace bE:=eq_true bE;replace bF:=eq_true bF;have cK:0<=(ag:Int):=qD;have cO:ag < ((ab1 af a1).length:Int):=qD;obtain⟨gu,fo,dZ⟩:=Kd.at_int (kC bH.out) ag cK cO;cases fo;replace cK:=eq_true cK;replace cO:=eq_true cO;go_wp2;repeat (go_quiet (fail);try go_wp2)
   (try simp only [<- aJ]);go_roundg k1;case measure=>have:=fI.out;omega
   exact⟨(af),(dN),(wrap64 (ag+1)),qZ,qZ,H',⟨by have:=fI.out;omega⟩,⟨by (try simp only [aJ]);(with_reducible repeat (first|apply S_alloc|apply S_drewN|apply S_drew));exact ae.out⟩,⟨qT⟩,⟨qB⟩⟩
  replace H:=jI H;obtain⟨iR,H⟩:=H;have eH:=aM H;clear H;have bE:0<=(a1:Int):=qD;have bF:a1 < (af.length:Int):=qD;obtain⟨dO,eZ,bG,fe,ay,aK,aN⟩:=afr (S_reads' ae.out).2.2 a1 bE bF;obtain rfl:aG=dO:=(by injection fe);obtain⟨gq,cz,cB,bg⟩:=S_get ae.out [] a1 bE (by first|exact bF|exact qD|(have e_:=(S_reads' ae.out).1;omega));obtain⟨dW,rfl,az⟩:=cB;have au:=bg 0 _ rfl;rw [Nat.add_zero,show ((Kd.slice 3 (Kd.int .i64))).sz=1 from rfl,Nat.mul_one] at au;replace au:=Option.some.inj (au.symm.trans ay);rw [au] at az;have aY:=aM (show Kd.R (Kd.int .i64) 3 _ _ _ _ (ab1 af a1) from az);clear au az;have dX:=aM ay;clear bg cz;have bH:=aM aN;have dY:=aM aK;clear aN aK;replace bE:=eq_true bE;replace bF:=eq_true bF;have cK:0<=(ag:Int):=qD;have cO:ag < ((ab1 af a1).length:Int):=qD;obtain⟨gu,fo,dZ⟩:=Kd.at_int (kC bH.out) ag cK cO;cases fo;replace cK:=eq_true cK;replace cO:=eq_true cO;have d9:0<=(a1:Int):=qD;have ed:a1 < (af.length:Int):=qD;obtain⟨gy,ik,il,iq,bI,dw,dx⟩:=afr (S_reads' ae.out).2.2 a1 d9 ed;obtain rfl:aG=gy:=(by injection iq);obtain⟨iT,fq,fu,dP⟩:=S_get ae.out [] a1 d9 (by first|exact ed|exact qD|(have e_:=(S_reads' ae.out).1;omega));obtain⟨gI,rfl,bJ⟩:=fu;have aP:=dP 0 _ rfl;rw [Nat.add_zero,show ((Kd.slice 3 (Kd.int .i64))).sz=1 from rfl,Nat.mul_one] at aP;replace aP:=Option.some.inj (aP.symm.trans bI);rw [aP] at bJ;have bK:=aM (show Kd.R (Kd.int .i64) 3 _ _ _ _ (ab1 af a1) from bJ);clear aP bJ;have gJ:=aM bI;clear dP fq;have ek:=aM dx;have gK:=aM dw;clear dx dw;replace d9:=eq_true d9;replace ed:=eq_true ed;have ea_:=Option.some.inj (ay.symm.trans bI);injection ea_ with ea_ en_ ec_
  subst ea_;subst ec_;clear en_;have fw:0<=(ag:Int):=qD;have fA:ag < ((ab1 af a1).length:Int):=qD;obtain⟨iU,iw,eu⟩:=Kd.at_int (kC ek.out) ag fw fA;cases iw;replace fw:=eq_true fw;replace fA:=eq_true fA;have fB:0<=(ag:Int):=qD;have fC:ag < (l2.length:Int):=qD;obtain⟨iW,iy,gL⟩:=Kd.at_int (C_kept_now HR2.out HK.out) ag fB fC;cases iy;replace fB:=eq_true fB;replace fC:=eq_true fC;have H:=eH.out;clear eH;replace H:=jE H;rcases H with ⟨gz,gB,H⟩ | ⟨c23,gz,gB,H⟩
  ·have H':=aM H;clear H;go_wp2;repeat (go_quiet (fail);try go_wp2)
   (try simp only [<- aJ]);go_roundg k1;case measure=>have:=fI.out;omega
   exact⟨(af),(dN),(wrap64 (ag+1)),qZ,qZ,H',⟨by have:=fI.out;omega⟩,⟨by (try simp only [aJ]);(with_reducible repeat (first|apply S_alloc|apply S_drewN|apply S_drew));exact ae.out⟩,⟨qT⟩,⟨qB⟩⟩
  obtain⟨eB,bT⟩:=ky (((ab1 af a1).set (ag:Int).toNat ag):List Int);replace H:=kv bT H;obtain⟨eD,bU⟩:=ky ((af.set (a1:Int).toNat eB):List (List Int));replace H:=kv bU H;have H':=aM H;clear H;have eF:0<=(a1:Int):=qD;have eG:a1 < (af.length:Int):=qD;obtain⟨gD,iA,iB,iC,bL,dz,dA⟩:=afr (S_reads' ae.out).2.2 a1 eF eG;obtain rfl:aG=gD:=(by injection iC);obtain⟨iX,fD,fE,dQ⟩:=S_get ae.out [] a1 eF (by first|exact eG|exact qD|(have e_:=(S_reads' ae.out).1;omega));obtain⟨gM,rfl,bM⟩:=fE;have aQ:=dQ 0 _ rfl;rw [Nat.add_zero,show ((Kd.slice 3 (Kd.int .i64))).sz=1 from rfl,Nat.mul_one] at aQ;replace aQ:=Option.some.inj (aQ.symm.trans bL);rw [aQ] at bM;have aa:=aM (show Kd.R (Kd.int .i64) 3 _ _ _ _ (ab1 af a1) from bM);clear aQ bM;have aj:=aM bL;clear dQ fD;have gN:=aM dA;have gP:=aM dz;clear dA dz;replace eF:=eq_true eF;replace eG:=eq_true eG;have ea_:=Option.some.inj (ay.symm.trans bL);injection ea_ with ea_ en_ ec_
  subst ea_;subst ec_;clear en_;have iD:0<=(ag:Int):=qD;have q24:(ag:Int) < (((ab1 af a1).length:Int):Int):=qD;obtain⟨bi,jh,gF,gG,iE,ji,gH⟩:=R_form aa.out (by omega);(first|cases gF|(injection gF with ea_ en_ ec_;(first|subst ea_|(injection ea_ with ea_;subst ea_));subst ec_;clear en_));have fF:=aM gG;have jk:=aM gH;clear gG iE gH;have iF:=aM (show (aD bi\/w.heap.size<=bi) from (aa.out.1 _ rfl).1);(first|simp only [add_plain] at eu|skip);obtain⟨aV,aW⟩:=R_celln 0 aa.out (ag:Int) iD q24;replace iD:=eq_true iD;replace q24:=eq_true q24;have df:(a1:Int) < (af.length:Int):=(by have h_:(a1:Int) < ((af.length:Int):Int):=qD;first|exact h_|(have e_:=(S_reads' ae.out).1;omega)|simpa only [List.length_set,List.length_set] using h_);obtain⟨bz,fG,bn,dh,aA,aT,aU⟩:=S_borrow ae.out [] (a1:Int) (qD) df;obtain⟨di,rfl,ah⟩:=dh;have hv25:=aA 0 _ rfl;rw [Nat.add_zero,show ((Kd.slice 3 (Kd.int .i64))).sz=1 from rfl,Nat.mul_one] at hv25;replace hv25:=Option.some.inj (hv25.symm.trans aj.out);subst hv25;clear aA bn;replace ah:=(show Kd.R (Kd.int .i64) 3 _ _ _ _ (ab1 af a1) from ah);have aX:=R_putg ah (ag:Int) ag;go_wp2_with (first|((with_reducible refine aaI (t:=3) (p:=54) rfl ?_);(try (rw [abq wr];generalize hq_:World.drewN wr _=wr;(try (have nx_:=aM (aeV hq_ aj.out);clear aj;have aj:=nx_;clear nx_));have bN:=aM (S_at hq_ ae.out);have bO:=aM (R_at hq_ aa.out);have bP:=aM (ahA hq_ HK.out);have bQ:=aM (afF hq_ HB.out);(try (have aV:=aeV hq_ aV));(try (have aW:=afV hq_ aW));clear hq_ ae aa HK HB;have ae:=bN;have aa:=bO;have HK:=bP;have HB:=bQ;clear bN bO bP bQ;(try (have df:(a1:Int) < (af.length:Int):=(by have h_:(a1:Int) < ((af.length:Int):Int):=qD;first|exact h_|(have e_:=(S_reads' ae.out).1;omega)|simpa only [List.length_set,List.length_set] using h_)));(try (obtain⟨bz,fG,bn,dh,aA,aT,aU⟩:=S_borrow ae.out [] (a1:Int) (qD) df));(try (obtain⟨di,rfl,ah⟩:=dh));(try (have hv25:=aA 0 _ rfl));(try (rw [Nat.add_zero,show ((Kd.slice 3 (Kd.int .i64))).sz=1 from rfl,Nat.mul_one] at hv25));(try (replace hv25:=Option.some.inj (hv25.symm.trans aj.out)));(try (subst hv25));(try (clear aA bn));(try (replace ah:=(show Kd.R (Kd.int .i64) 3 _ _ _ _ (ab1 af a1) from ah)));(try (have aX:=R_putg ah (ag:Int) ag))));refine aat (t:=3) (p:=54) (v:=?dR) (w1:=(wr.setCell ⟨bi,(ag:Int).toNat,none⟩ (iV ag))) ?hg ?ho ?hn ?hr ?_;(case ho=>rfl);(case hg=>rfl);(case hn=>rfl);(case hr=>first|(go_simp;done)|(go_simp;rfl));intro dB hw;have hg:wr.grownBy dB (some bi):=(by rw [hw];exact aX.2);have hz_:Kd.R (Kd.int .i64) 3 dB w0.heap.size bz (.slice (some ⟨bi,0,none⟩) (ab1 af a1).length bG) eB:=(by rw [hw,bT.out];exact aX.1);have hp_:Kd.S (Kd.slice 3 (Kd.int .i64)) 28 dB w0.heap.size (fun k_=>(aD k_\/w.heap.size<=k_)) (.slice (some aG) af.length dV) eD:=(by rw [bU.out];exact aU hg (fun k_ e_=>by injection e_ with e_;subst e_;exact ah.1 _ rfl) (M_row hz_));have hm_:=R_mono hz_ aT;clear aX aU;have eO:=aM hm_;have eP:=aM ((R_reads' hm_).2.1);replace ae:=aM hp_;replace HB:=aM ((by rw [hw];exact aad (HB.out) fF.out:Below w0.heap.size w0 dB));replace HK:=aM (abo (S:=(fun k_=>aD k_)) hg qT (fun k_ e_=>(aa.out.1 k_ e_).1));clear aY bK aa;clear hg hw hp_ hz_ hm_ aT));repeat (go_quiet (first|((with_reducible refine aaI (t:=3) (p:=54) rfl ?_);(try (rw [abq wr];generalize hq_:World.drewN wr _=wr;(try (have nx_:=aM (aeV hq_ aj.out);clear aj;have aj:=nx_;clear nx_));have bN:=aM (S_at hq_ ae.out);have bO:=aM (R_at hq_ aa.out);have bP:=aM (ahA hq_ HK.out);have bQ:=aM (afF hq_ HB.out);(try (have aV:=aeV hq_ aV));(try (have aW:=afV hq_ aW));clear hq_ ae aa HK HB;have ae:=bN;have aa:=bO;have HK:=bP;have HB:=bQ;clear bN bO bP bQ;(try (have df:(a1:Int) < (af.length:Int):=(by have h_:(a1:Int) < ((af.length:Int):Int):=qD;first|exact h_|(have e_:=(S_reads' ae.out).1;omega)|simpa only [List.length_set,List.length_set] using h_)));(try (obtain⟨bz,fG,bn,dh,aA,aT,aU⟩:=S_borrow ae.out [] (a1:Int) (qD) df));(try (obtain⟨di,rfl,ah⟩:=dh));(try (have hv25:=aA 0 _ rfl));(try (rw [Nat.add_zero,show ((Kd.slice 3 (Kd.int .i64))).sz=1 from rfl,Nat.mul_one] at hv25));(try (replace hv25:=Option.some.inj (hv25.symm.trans aj.out)));(try (subst hv25));(try (clear aA bn));(try (replace ah:=(show Kd.R (Kd.int .i64) 3 _ _ _ _ (ab1 af a1) from ah)));(try (have aX:=R_putg ah (ag:Int) ag))));refine aat (t:=3) (p:=54) (v:=?dR) (w1:=(wr.setCell ⟨bi,(ag:Int).toNat,none⟩ (iV ag))) ?hg ?ho ?hn ?hr ?_;(case ho=>rfl);(case hg=>rfl);(case hn=>rfl);(case hr=>first|(go_simp;done)|(go_simp;rfl));intro dB hw;have hg:wr.grownBy dB (some bi):=(by rw [hw];exact aX.2);have hz_:Kd.R (Kd.int .i64) 3 dB w0.heap.size bz (.slice (some ⟨bi,0,none⟩) (ab1 af a1).length bG) eB:=(by rw [hw,bT.out];exact aX.1);have hp_:Kd.S (Kd.slice 3 (Kd.int .i64)) 28 dB w0.heap.size (fun k_=>(aD k_\/w.heap.size<=k_)) (.slice (some aG) af.length dV) eD:=(by rw [bU.out];exact aU hg (fun k_ e_=>by injection e_ with e_;subst e_;exact ah.1 _ rfl) (M_row hz_));have hm_:=R_mono hz_ aT;clear aX aU;have bN:=aM hp_;have bO:=aM ((by rw [hw];exact aad (HB.out) fF.out:Below w0.heap.size w0 dB));have bP:=aM (abo (S:=(fun k_=>aD k_)) hg qT (fun k_ e_=>(aa.out.1 k_ e_).1));have bQ:=aM hm_;have fO:=aM ((R_reads' hm_).2.1);clear ae;clear HB;clear HK;clear aY;clear bK;clear aa;have ae:=bN;have HB:=bO;have HK:=bP;have eO:=bQ;have eP:=fO;clear bN bO bP bQ fO;clear hg hw hp_ hz_ hm_ aT));try go_wp2_with (first|((with_reducible refine aaI (t:=3) (p:=54) rfl ?_);(try (rw [abq wr];generalize hq_:World.drewN wr _=wr;(try (have nx_:=aM (aeV hq_ aj.out);clear aj;have aj:=nx_;clear nx_));have bN:=aM (S_at hq_ ae.out);have bO:=aM (R_at hq_ aa.out);have bP:=aM (ahA hq_ HK.out);have bQ:=aM (afF hq_ HB.out);(try (have aV:=aeV hq_ aV));(try (have aW:=afV hq_ aW));clear hq_ ae aa HK HB;have ae:=bN;have aa:=bO;have HK:=bP;have HB:=bQ;clear bN bO bP bQ;(try (have df:(a1:Int) < (af.length:Int):=(by have h_:(a1:Int) < ((af.length:Int):Int):=qD;first|exact h_|(have e_:=(S_reads' ae.out).1;omega)|simpa only [List.length_set,List.length_set] using h_)));(try (obtain⟨bz,fG,bn,dh,aA,aT,aU⟩:=S_borrow ae.out [] (a1:Int) (qD) df));(try (obtain⟨di,rfl,ah⟩:=dh));(try (have hv25:=aA 0 _ rfl));(try (rw [Nat.add_zero,show ((Kd.slice 3 (Kd.int .i64))).sz=1 from rfl,Nat.mul_one] at hv25));(try (replace hv25:=Option.some.inj (hv25.symm.trans aj.out)));(try (subst hv25));(try (clear aA bn));(try (replace ah:=(show Kd.R (Kd.int .i64) 3 _ _ _ _ (ab1 af a1) from ah)));(try (have aX:=R_putg ah (ag:Int) ag))));refine aat (t:=3) (p:=54) (v:=?dR) (w1:=(wr.setCell ⟨bi,(ag:Int).toNat,none⟩ (iV ag))) ?hg ?ho ?hn ?hr ?_;(case ho=>rfl);(case hg=>rfl);(case hn=>rfl);(case hr=>first|(go_simp;done)|(go_simp;rfl));intro dB hw;have hg:wr.grownBy dB (some bi):=(by rw [hw];exact aX.2);have hz_:Kd.R (Kd.int .i64) 3 dB w0.heap.size bz (.slice (some ⟨bi,0,none⟩) (ab1 af a1).length bG) eB:=(by rw [hw,bT.out];exact aX.1);have hp_:Kd.S (Kd.slice 3 (Kd.int .i64)) 28 dB w0.heap.size (fun k_=>(aD k_\/w.heap.size<=k_)) (.slice (some aG) af.length dV) eD:=(by rw [bU.out];exact aU hg (fun k_ e_=>by injection e_ with e_;subst e_;exact ah.1 _ rfl) (M_row hz_));have hm_:=R_mono hz_ aT;clear aX aU;have eO:=aM hm_;have eP:=aM ((R_reads' hm_).2.1);replace ae:=aM hp_;replace HB:=aM ((by rw [hw];exact aad (HB.out) fF.out:Below w0.heap.size w0 dB));replace HK:=aM (abo (S:=(fun k_=>aD k_)) hg qT (fun k_ e_=>(aa.out.1 k_ e_).1));clear aY bK aa;clear hg hw hp_ hz_ hm_ aT)))
  (try simp only [<- aJ]);go_roundg k1;case measure=>have:=fI.out;omega
  exact⟨(eD),(true),(wrap64 (ag+1)),qZ,qZ,H',⟨by have:=fI.out;omega⟩,⟨by (try simp only [aJ]);(with_reducible repeat (first|apply S_alloc|apply S_drewN|apply S_drew));exact ae.out⟩,⟨qT⟩,⟨qB⟩⟩
 obtain⟨rfl,rfl⟩:=oJ2 H;go_wp2;repeat (go_quiet (fail);try go_wp2)
 go_ret;exact⟨qW,(by first|exact (qS ae)|(simp only [aJ];exact (qS ae))),qB,qT⟩
mutual
def acs:Nat->List S31->List (List Int)->Bool->Int->Option (Bool × (List (List Int)))
 | 0,_,_,_,_=>none
 | k+1,x0,x1,x5,x6=>if x6 < (x0.length:Int) then (if 0<=x6 then (if x6 < (x1.length:Int) then (if ((ab1 x1 x6).length:Int)=0 then (acs k x0 x1 x5 (wrap64 (x6+1))) else ((afv k x0 x6).bind fun af=>((aiv k ((aa0 x0 x6).f0) ((aa0 x0 x6).f1) ((aa0 x0 x6).f2) ((aa0 x0 x6).f3) ((aa0 x0 x6).f4) (ab1 x1 x6)).bind fun aj=>(acU k x0 x1 x5 x6 af aj 0)))) else (none)) else (none)) else (some (x5,x1))
def acU:Nat->List S31->List (List Int)->Bool->Int->List Int->List Int->Int->Option (Bool × (List (List Int)))
 | 0,_,_,_,_,_,_,_=>none
 | k+1,x0,x1,x5,x6,x7,x8,x9=>if x9 < (x7.length:Int) then (if 0<=x9 then ((Sba.f k x1 (rd x7 x9) x8).bind fun bJ=>(if bJ.1=true then (acU k x0 bJ.2 true x6 x7 x8 (wrap64 (x9+1))) else (acU k x0 bJ.2 x5 x6 x7 x8 (wrap64 (x9+1))))) else (none)) else (acs k x0 x1 x5 (wrap64 (x6+1)))
end
def Sbc.f (k:Nat) (l0:List S31) (l1:List (List Int)):Option (Bool × (List (List Int))):=acs k l0 l1 false 0
theorem ah3:∀ k,(∀ y0 y1 y2 y3,LeO (acs k y0 y1 y2 y3) (acs (k+1) y0 y1 y2 y3))/\(∀ y0 y1 y2 y3 y4 y5 y6,LeO (acU k y0 y1 y2 y3 y4 y5 y6) (acU (k+1) y0 y1 y2 y3 y4 y5 y6))
 | 0=>⟨fun _ _ _ _ r h=>by simp [acs] at h,fun _ _ _ _ _ _ _ r h=>by simp [acU] at h⟩
 | k+1=>by
  obtain⟨eu,ih1⟩:=ah3 k;have m0:=@SaT.mono;have m1:=@Sb9.mono;have m2:=@Sba.mono;exact⟨by intros;unfold acs;exact mM,by intros;unfold acU;exact mM⟩
theorem Sbc.mono:∀ a0 a1 k,LeO (Sbc.f k a0 a1) (Sbc.f (k+1) a0 a1):=by
 intro a0 a1 k;obtain⟨eu,ih1⟩:=ah3 k;unfold Sbc.f;have m0:=@SaT.mono;have m1:=@Sb9.mono;have m2:=@Sba.mono;exact mM
def aor:Bool × List (List Nat × List Nat):=(true,[([],[]),([],[]),([0,1],[0,1]),([2],[2]),([],[]),([],[]),([4,5],[4,5]),([6],[6]),([3,7],[3,7]),([8,8,0,1,2,3,4,5,6,7,8],[8])])
def aqm:List Nat:=[0,0,3,7,0,0,48,112,255,511]
theorem anJ:ad7 .any (opsOf f87 7)=aor:=by kernel_rfl
theorem am4:abl aor.2 aqm=true:=by kernel_rfl
theorem Sbc.calls (k:Nat) (A0:Option Addr) (c0:Nat) (l0:List S31) (az:Nat->Prop) (aP:Value) (l1:List (List Int)) (r1:Bool) (r2:List (List Int)) (w0 w:World) (hB:Below w0.heap.size w0 w) (hr0:∀ W_,Kept w W_ (fun k_=>az k_)->Kd.C k31 W_ A0 l0.length l0) (hc0:l0.length<=c0) (ho1:Kd.S (Kd.slice 3 (Kd.int .i64)) 28 w w0.heap.size az aP l1) (h:Sbc.f k l0 l1=some (r1,r2)) :
  Calls prog 87 #[.slice A0 l0.length c0,aP] w fun e w'=>e = .returned (.bool r1)/\Kd.S (Kd.slice 3 (Kd.int .i64)) 28 w' w0.heap.size (fun k_=>(az k_\/w.heap.size<=k_)) aP r2/\Below w0.heap.size w0 w'/\Kept w w' (fun k_=>az k_):=by
 have eB:=underlying31;have bI:=aM hr0;have eD:=aM hc0;clear hr0 hc0;have eF:=aM (show Kd.S (Kd.slice 3 (Kd.int .i64)) 28 w w0.heap.size (fun k_=>(az k_\/w.heap.size<=k_)) aP l1 from S_mono ho1 (fun k_ hk=>(.inl hk)));have HK:=aM (ad1 w (fun k_=>az k_));have HW0:=aM hB.size;have HB:=aM hB;clear hB;have H:(acs k l0 l1 false 0)=some (r1,r2):=h;clear h;have H':=aM H;clear H;go_enter func87,ntmps87;go_wp2;go_loopg [5,6] k (fun kq v5 v6 w'=>∃ (aA:List (List Int)) (bK:Bool) (aa:Int),v5 = .bool bK/\v6 = iV aa/\aa1 (acs kq l0 aA bK aa=some (r1,r2))/\aa1 (kq<=k)/\aa1 (Kd.S (Kd.slice 3 (Kd.int .i64)) 28 w' w0.heap.size (fun k_=>(az k_\/w.heap.size<=k_)) aP aA)/\aa1 (Kept w w' (fun k_=>az k_))/\aa1 (Below w0.heap.size w0 w'));case atStart=>exact⟨(l1),(false),(0),qZ,qZ,H',⟨Nat.le_refl _⟩,⟨qS eF⟩,⟨qT⟩,⟨qB⟩⟩
 clear H';obtain⟨aA,bK,aa,rfl,rfl,HA,bY,ae,HK,HB⟩:=hrel;rcases gk with _|k1
 ·exact absurd HA.out (by simp [acs])
 have H:=HA.out;clear HA;simp only [acs] at H;replace H:=jD H;rcases H with ⟨dn,H⟩ | ⟨dn,H⟩
 ·replace H:=jI H;obtain⟨dK,H⟩:=H;replace H:=jI H;obtain⟨dL,H⟩:=H;replace H:=jE H;rcases H with ⟨dw,dx,H⟩ | ⟨c6,dw,dx,H⟩
  ·have H':=aM H;clear H;obtain⟨eY,eZ,eG⟩:=S_slice ae.out;subst eG;have aU:0<=(aa:Int):=qD;have aV:aa < (aA.length:Int):=qD;obtain⟨aJ,bZ,cu,cz,aK,aB,aC⟩:=afr (S_reads' ae.out).2.2 aa aU aV;cases cz;obtain⟨dz,bC,bD,aQ⟩:=S_get ae.out [] aa aU (by first|exact aV|exact qD|(have e_:=(S_reads' ae.out).1;omega));obtain⟨bT,rfl,ay⟩:=bD;have ag:=aQ 0 _ rfl;rw [Nat.add_zero,show ((Kd.slice 3 (Kd.int .i64))).sz=1 from rfl,Nat.mul_one] at ag;replace ag:=Option.some.inj (ag.symm.trans aK);rw [ag] at ay;have ak:=aM (show Kd.R (Kd.int .i64) 3 _ _ _ _ (ab1 aA aa) from ay);clear ag ay;clear aQ bC;have av:=aM aC;have bU:=aM aB;clear aC aB;replace aU:=eq_true aU;replace aV:=eq_true aV;go_wp2;go_roundg k1;case measure=>have:=bY.out;omega
   exact⟨(aA),(bK),(wrap64 (aa+1)),qZ,qZ,H',⟨by have:=bY.out;omega⟩,⟨qS ae⟩,⟨qT⟩,⟨qB⟩⟩
  have dM:¬ ((ab1 aA aa)=[]):=fun h_=>c6 (by rw [h_];rfl)
  obtain⟨af,A8,H⟩:=qE H;try dsimp only at H
  obtain⟨aj,A9,H⟩:=qE H;try dsimp only at H
  have H':=aM H;clear H;obtain⟨eH,bL,dN⟩:=S_slice ae.out;subst dN;have aU:0<=(aa:Int):=qD;have aV:aa < (aA.length:Int):=qD;obtain⟨aJ,bZ,cu,cz,aK,aB,aC⟩:=afr (S_reads' ae.out).2.2 aa aU aV;cases cz;obtain⟨dz,bC,bD,aQ⟩:=S_get ae.out [] aa aU (by first|exact aV|exact qD|(have e_:=(S_reads' ae.out).1;omega));obtain⟨bT,rfl,ay⟩:=bD;have ag:=aQ 0 _ rfl;rw [Nat.add_zero,show ((Kd.slice 3 (Kd.int .i64))).sz=1 from rfl,Nat.mul_one] at ag;replace ag:=Option.some.inj (ag.symm.trans aK);rw [ag] at ay;have ak:=aM (show Kd.R (Kd.int .i64) 3 _ _ _ _ (ab1 aA aa) from ay);clear ag ay;clear aQ bC;have av:=aM aC;have bU:=aM aB;clear aC aB;replace aU:=eq_true aU;replace aV:=eq_true aV;try go_wp2_with (first|((with_reducible refine jc 108 24 ?_);refine jM func108 (aeF k1 _ _ l0 aa af _ (by exact C_kept_now bI.out qT) eD.out A8.out) ?_;rintro cB eO ⟨ho0,hb⟩;have aT:=aM (R_lower (R_new' (R_newM (M:=fun k_=>(az k_\/w.heap.size<=k_)) ho0 (by first|exact HK.out.1|exact (show Kept w _ (fun k_=>az k_) from qT).1) (fun k_ h_=>.inr h_)) (R_lt (qR ak))) (aa4 qB));replace ae:=aM (S_elder' (qS ae) (R_base ho0) hb);replace ak:=kO ak ho0 hb;replace av:=kQ av hb;replace HK:=kT hb;replace HB:=kH hb;clear hb;(try clear ho0)))
  replace ae:=aM (S_drew ae.out);replace ak:=aM (R_drew ak.out);replace aT:=aM (R_drew aT.out);replace av:=aM (C_drew av.out);replace HK:=aM (Kept.drew HK.out);replace HB:=aM (aah HB.out);have aD:0<=(aa:Int):=qD;have aF:aa < (l0.length:Int):=qD;obtain⟨aG,dO,bi,bn,bq,bu,bv⟩:=aaQ (C_kept_now bI.out HK.out) aa aD aF;have dE:=bv;have dF:=bu;have dG:=bq;have dH:=bn;have dI:=bi;cases dO;replace aD:=eq_true aD;replace aF:=eq_true aF;have bM:0<=(aa:Int):=qD;have bN:aa < (aA.length:Int):=qD;obtain⟨dA,bO,bP,dP,aL,bG,bH⟩:=afr (S_reads' ae.out).2.2 aa bM bN;obtain rfl:aJ=dA:=(by injection dP);obtain⟨dY,cK,cO,bQ⟩:=S_get ae.out [] aa bM (by first|exact bN|exact qD|(have e_:=(S_reads' ae.out).1;omega));obtain⟨dJ,rfl,bz⟩:=cO;have aH:=bQ 0 _ rfl;rw [Nat.add_zero,show ((Kd.slice 3 (Kd.int .i64))).sz=1 from rfl,Nat.mul_one] at aH;replace aH:=Option.some.inj (aH.symm.trans aL);rw [aH] at bz;have aN:=aM (show Kd.R (Kd.int .i64) 3 _ _ _ _ (ab1 aA aa) from bz);clear aH bz;clear bQ cK;have aO:=aM bH;have bV:=aM bG;clear bH bG;replace bM:=eq_true bM;replace bN:=eq_true bN;refine abx (n:=10) (S:=fun w'=>w'.cell? (aG.add ((aa).toNat*5))=some (iV ((aa0 l0 aa).f0))/\w'.cell? ⟨(aG.add ((aa).toNat*5)).block,(aG.add ((aa).toNat*5)).off+1,none⟩=some (iV ((aa0 l0 aa).f1))/\w'.cell? ⟨(aG.add ((aa).toNat*5)).block,(aG.add ((aa).toNat*5)).off+2,none⟩=some (iV ((aa0 l0 aa).f2))/\w'.cell? ⟨(aG.add ((aa).toNat*5)).block,(aG.add ((aa).toNat*5)).off+3,none⟩=some (iV ((aa0 l0 aa).f3))/\w'.cell? ⟨(aG.add ((aa).toNat*5)).block,(aG.add ((aa).toNat*5)).off+4,none⟩=some (iV ((aa0 l0 aa).f4))/\w'.cell? (aJ.add (aa).toNat)=some (.slice bO (ab1 aA aa).length bP)) (ds:=[]) (jb 10 0) (by kernel_rfl) rfl rfl ⟨(abY (bI.out _ (by repeat (first|exact HK.out|apply Kept.alloc|apply Kept.drewN|apply Kept.drew))) aa (of_eq_true aD) (of_eq_true aF)),(abX (bI.out _ (by repeat (first|exact HK.out|apply Kept.alloc|apply Kept.drewN|apply Kept.drew))) aa (of_eq_true aD) (of_eq_true aF)),(abW (bI.out _ (by repeat (first|exact HK.out|apply Kept.alloc|apply Kept.drewN|apply Kept.drew))) aa (of_eq_true aD) (of_eq_true aF)),(abV (bI.out _ (by repeat (first|exact HK.out|apply Kept.alloc|apply Kept.drewN|apply Kept.drew))) aa (of_eq_true aD) (of_eq_true aF)),(abU (bI.out _ (by repeat (first|exact HK.out|apply Kept.alloc|apply Kept.drewN|apply Kept.drew))) aa (of_eq_true aD) (of_eq_true aF)),aL⟩ (fun hHeld=>?_);refine ab7 anJ am4 (fun HT_ HW_=>?_);generalize eO.drew=fe at ae ak aT av HK HB aN aO bi bn bq bu bv aL hHeld ⊢;refine jp 0 25 (jb 10 1) ?_;refine jp 1 26 (jb 10 3) ?_;refine jp 2 27 (jb 10 7) ?_;refine jp 4 29 (jb 10 23) ?_;refine jp 5 30 (jb 10 55) ?_;refine jp 6 31 (jb 10 119) ?_;refine jt 3 28 (jb 10 127) ?_;refine jt 7 32 (jb 10 255) ?_;refine ad3 (i:=8) (N:=some 33) (jb 10 511) rfl rfl (ab0 HT_.out (by kernel_rfl)) (by decide) (fun K hK=>?_);refine abm func109 (by kernel_rfl) rfl #[.agg #[iV ((aa0 l0 aa).f0),iV ((aa0 l0 aa).f1),iV ((aa0 l0 aa).f2),iV ((aa0 l0 aa).f3),iV ((aa0 l0 aa).f4)],.slice bO (ab1 aA aa).length bP] (by rfl) rfl rfl qM ?_
  with_reducible refine (amb k1 ((aa0 l0 aa).f0) ((aa0 l0 aa).f1) ((aa0 l0 aa).f2) ((aa0 l0 aa).f3) ((aa0 l0 aa).f4) _ _ (ab1 aA aa) aj _ ?aR ?aS A9.out).mono ?_
  (case aR=>repeat (first|exact (kC aO.out)|(with_reducible refine C_alloc ?_ _)|(with_reducible refine C_drewN ?_ _)|(with_reducible refine C_drew ?_)));(case aS=>exact bV.out);rintro e fo ⟨df,rfl,ho0,hb⟩;have dQ:=(hb.cell (World.block_lt_of_cell? _ _ (hHeld.2.2.2.2.2))).trans (hHeld.2.2.2.2.2);refine⟨_,rfl,?_⟩;have dB:=aM (R_lower (R_new' (R_new' (R_new' (R_newM (M:=fun k_=>(az k_\/w.heap.size<=k_)) ho0 (by first|exact HK.out.1|exact (show Kept w _ (fun k_=>az k_) from qT).1) (fun k_ h_=>.inr h_)) (R_lt (qR ak))) (R_lt (qR aT))) (R_lt (qR aN))) (aa4 qB));replace ae:=aM (S_elder' (qS ae) (R_base ho0) hb);replace ak:=kO ak ho0 hb;replace aT:=kO aT ho0 hb;replace aN:=kO aN ho0 hb;replace av:=kQ av hb;replace aO:=kQ aO hb;replace HK:=kT hb;replace HB:=kH hb;(try clear hb);(try clear hb2);(try clear hk);(try clear hi);(try clear ho0);refine hK.out _ _ ⟨(abY (bI.out _ (by repeat (first|exact HK.out|apply Kept.alloc|apply Kept.drewN|apply Kept.drew))) aa (of_eq_true aD) (of_eq_true aF)),(abX (bI.out _ (by repeat (first|exact HK.out|apply Kept.alloc|apply Kept.drewN|apply Kept.drew))) aa (of_eq_true aD) (of_eq_true aF)),(abW (bI.out _ (by repeat (first|exact HK.out|apply Kept.alloc|apply Kept.drewN|apply Kept.drew))) aa (of_eq_true aD) (of_eq_true aF)),(abV (bI.out _ (by repeat (first|exact HK.out|apply Kept.alloc|apply Kept.drewN|apply Kept.drew))) aa (of_eq_true aD) (of_eq_true aF)),(abU (bI.out _ (by repeat (first|exact HK.out|apply Kept.alloc|apply Kept.drewN|apply Kept.drew))) aa (of_eq_true aD) (of_eq_true aF)),dQ⟩ (fun hHeld=>?_);clear hK K;refine aau (a':=?_) ?_ ?_;rotate_left
  ·show Act.put _ (some 33) _=_
   simp only [Act.put,List.setIfInBounds_toArray,List.set_cons_zero,List.set_cons_succ,aaw,aaA];rfl
  refine jp 9 8 (jb 10 1023) ?_;refine ac6 (abu HT_.out (by kernel_rfl)) ?_;try go_wp2
  go_loopg [5,9] k1 (fun kq v5 v9 w'=>∃ (aW:List (List Int)) (bW:Bool) (aI:Int),v5 = .bool bW/\v9 = iV aI/\aa1 (acU kq l0 aW bW aa af aj aI=some (r1,r2))/\aa1 (kq<=k1)/\aa1 (Kd.S (Kd.slice 3 (Kd.int .i64)) 28 w' w0.heap.size (fun k_=>(az k_\/w.heap.size<=k_)/\some k_≠(cB:Value).ownBlock/\some k_≠(df:Value).ownBlock) (.slice (some aJ) aA.length bL) aW)/\aa1 (Kd.R (Kd.int .i64) 3 w' w0.heap.size (fun k_=>(az k_\/w.heap.size<=k_)/\some k_≠(df:Value).ownBlock) cB af)/\aa1 (Kd.R (Kd.int .i64) 3 w' w0.heap.size (fun k_=>(az k_\/w.heap.size<=k_)/\some k_≠(cB:Value).ownBlock) df aj)/\aa1 (Kept w w' (fun k_=>az k_))/\aa1 (Below w0.heap.size w0 w'));case atStart=>exact⟨(aA),(bK),(0),qZ,qZ,H',⟨Nat.le_refl _⟩,⟨by (with_reducible repeat (first|apply S_alloc|apply S_drewN|apply S_drew));exact S_mono ae.out (fun _ hk=>⟨hk.1.1,⟨hk.1.2,hk.2⟩⟩)⟩,⟨by (with_reducible repeat (first|apply R_alloc|apply R_drewN|apply R_drew));exact R_mono aT.out (fun _ hk=>⟨hk.1.1.1,hk.2⟩)⟩,⟨by (with_reducible repeat (first|apply R_alloc|apply R_drewN|apply R_drew));exact R_mono dB.out (fun _ hk=>⟨hk.1.1.1.1,hk.1.2⟩)⟩,⟨qT⟩,⟨qB⟩⟩
  clear H';try clear dn;try clear dK;try clear dL;try clear c6;try clear dw;try clear dx;try clear dM;try clear aK;try clear bi;try clear bn;try clear bq;try clear bu;try clear bv;try clear aL;try clear aU;try clear aD;try clear bM;try clear aV;try clear aF;try clear bN
  obtain⟨aW,bW,aI,rfl,rfl,HA,di,ae,au,ah,HK,HB⟩:=hrel;have ax:=(S_reads' ae.out).1;rw [ax] at ae;(try simp only [ax]);(try simp only [ax] at au);(try simp only [ax] at ah);rcases gk with _|k2
  ·exact absurd HA.out (by simp [acU])
  have H:=HA.out;clear HA;simp only [acU] at H;replace H:=jD H;rcases H with ⟨dC,H⟩ | ⟨dC,H⟩
  ·replace H:=jI H;obtain⟨dZ,H⟩:=H;obtain⟨⟨eP,dD⟩,d9,H⟩:=qE H;try dsimp only at H
   replace H:=jB H;rcases H with ⟨rfl,H⟩ | ⟨rfl,H⟩
   ·have H':=aM H;clear H;obtain⟨eQ,bA,dR⟩:=R_slice au.out;subst dR;have bE:0<=(aI:Int):=qD;have bF:aI < (af.length:Int):=qD;obtain⟨ai,dh,bX⟩:=Kd.at_int (R_reads' au.out).2.2 aI bE bF;cases dh;replace bE:=eq_true bE;replace bF:=eq_true bF;obtain⟨aX,aY,dS⟩:=R_slice ah.out;subst dS;go_wp2_with (first|((with_reducible refine jc 110 46 ?_);refine jG func110 #[.slice (some aJ) aW.length bL,iV (rd af aI),.slice aX aj.length aY] ?_;refine (Sba.calls k2 ?ed (.slice (some aJ) aW.length bL) aW (rd af aI) _ _ aj true dD w0 _ ?aR ?aS ?bR ?bS d9.out).mono ?_;(case aS=>exact S_bound ae.out);(case aR=>exact qB);(case bR=>exact C_kept_own (R_tight rfl ah.out) (fun k_ hk_ hs_=>by first|exact hs_.1.2 hk_|exact hs_.1.2.1 hk_|exact hs_.1.2.2 hk_|exact hs_.1.1.2 hk_|exact hs_.1.1.1.2 hk_|exact akx ah.out (by decide) hk_ hs_.2.2.2));(case bS=>exact (kp ah));rintro e dU ⟨rfl,hy0,hb,hkp⟩;refine⟨_,rfl,?_⟩;replace ae:=aM ((by first|exact S_mono (ok':=fun k_=>(((az k_\/w.heap.size<=k_))/\(some k_≠(.slice (some ai) af.length bA:Value).ownBlock/\some k_≠(.slice aX aj.length aY:Value).ownBlock))) hy0 (fun k_ h_=>Or.elim h_ (fun h_=>h_.1) (fun h_=>.inr (by first|exact Nat.le_trans HK.out.1 h_|exact Nat.le_trans (aa4 HB.out) h_)))|exact S_mono (ok':=fun k_=>(((az k_\/w.heap.size<=k_))/\(some k_≠(.slice (some ai) af.length bA:Value).ownBlock/\some k_≠(.slice aX aj.length aY:Value).ownBlock))) hy0 (fun _ _=>trivial)|exact S_mono (ok':=fun k_=>(((az k_\/w.heap.size<=k_))/\(some k_≠(.slice (some ai) af.length bA:Value).ownBlock/\some k_≠(.slice aX aj.length aY:Value).ownBlock))) hy0 (fun k_ h_=>Or.elim h_ (fun h_=>h_.1) (fun h_=>⟨.inr (Nat.le_trans HK.out.1 h_),fun e_=>by have:=R_lt au.out k_ e_.symm;omega⟩))|exact S_mono (ok':=fun k_=>(((az k_\/w.heap.size<=k_))/\(some k_≠(.slice (some ai) af.length bA:Value).ownBlock/\some k_≠(.slice aX aj.length aY:Value).ownBlock))) hy0 (fun k_ h_=>Or.elim h_ (fun h_=>h_.1) (fun h_=>⟨.inr (Nat.le_trans HK.out.1 h_),fun e_=>by have:=R_lt ah.out k_ e_.symm;omega⟩))|exact S_mono (ok':=fun k_=>(((az k_\/w.heap.size<=k_))/\(some k_≠(.slice (some ai) af.length bA:Value).ownBlock/\some k_≠(.slice aX aj.length aY:Value).ownBlock))) hy0 (fun k_ h_=>Or.elim h_ (fun h_=>h_.1) (fun h_=>⟨⟨.inr (Nat.le_trans HK.out.1 h_),fun e_=>by have:=R_lt au.out k_ e_.symm;omega⟩,fun e_=>by have:=R_lt ah.out k_ e_.symm;omega⟩))|exact S_mono (ok':=fun k_=>(((az k_\/w.heap.size<=k_))/\(some k_≠(.slice (some ai) af.length bA:Value).ownBlock/\some k_≠(.slice aX aj.length aY:Value).ownBlock))) hy0 (fun k_ h_=>Or.elim h_ (fun h_=>h_.1) (fun h_=>⟨⟨.inr (Nat.le_trans HK.out.1 h_),fun e_=>by have:=R_lt ah.out k_ e_.symm;omega⟩,fun e_=>by have:=R_lt au.out k_ e_.symm;omega⟩))|exact S_mono (ok':=fun k_=>(((az k_\/w.heap.size<=k_))/\(some k_≠(.slice (some ai) af.length bA:Value).ownBlock/\some k_≠(.slice aX aj.length aY:Value).ownBlock))) hy0 (fun k_ h_=>Or.elim h_ (fun h_=>h_.1) (fun h_=>⟨.inr (Nat.le_trans HK.out.1 h_),⟨fun e_=>by have:=R_lt au.out k_ e_.symm;omega,fun e_=>by have:=R_lt ah.out k_ e_.symm;omega⟩⟩))|exact S_mono (ok':=fun k_=>(((az k_\/w.heap.size<=k_))/\(some k_≠(.slice (some ai) af.length bA:Value).ownBlock/\some k_≠(.slice aX aj.length aY:Value).ownBlock))) hy0 (fun k_ h_=>Or.elim h_ (fun h_=>h_.1) (fun h_=>⟨.inr (Nat.le_trans HK.out.1 h_),⟨fun e_=>by have:=R_lt ah.out k_ e_.symm;omega,fun e_=>by have:=R_lt au.out k_ e_.symm;omega⟩⟩))));replace au:=aM (R_mono (ok':=fun k_=>(az k_\/w.heap.size<=k_)/\some k_≠(.slice aX aj.length aY:Value).ownBlock) (R_keptB (R_tight rfl au.out) hkp (fun k_ hk_ hs_=>by first|exact hs_.1.2 hk_|exact hs_.1.2.1 hk_|exact hs_.1.2.2 hk_|exact hs_.1.1.2 hk_|exact hs_.1.1.1.2 hk_|exact akx au.out (by decide) hk_ hs_.2.2.2)) (fun k_ hk_=>au.out.1 k_ hk_.1.symm));replace ah:=aM (R_mono (ok':=fun k_=>(az k_\/w.heap.size<=k_)/\some k_≠(.slice (some ai) af.length bA:Value).ownBlock) (R_keptB (R_tight rfl ah.out) hkp (fun k_ hk_ hs_=>by first|exact hs_.1.2 hk_|exact hs_.1.2.1 hk_|exact hs_.1.2.2 hk_|exact hs_.1.1.2 hk_|exact hs_.1.1.1.2 hk_|exact akx ah.out (by decide) hk_ hs_.2.2.2)) (fun k_ hk_=>ah.out.1 k_ hk_.1.symm));replace HK:=aM (Kept.then_ (S:=(fun k_=>az k_)) qT hkp (fun k_ hs_=>by first|exact hs_.1.1|exact hs_.1.1.1|exact hs_.1));replace HB:=aM hb;(try clear hb);(try clear hkp);(try clear hy0)));(try simp only [<- ax]);go_roundg k2;case measure=>have:=bY.out;have:=di.out;omega
    exact⟨_,_,_,qZ,qZ,H',⟨by have:=bY.out;have:=di.out;omega⟩,⟨by (try simp only [ax]);(with_reducible repeat (first|apply S_alloc|apply S_drewN|apply S_drew));exact ae.out⟩,⟨by (try simp only [ax]);(with_reducible repeat (first|apply R_alloc|apply R_drewN|apply R_drew));exact au.out⟩,⟨by (try simp only [ax]);(with_reducible repeat (first|apply R_alloc|apply R_drewN|apply R_drew));exact ah.out⟩,⟨qT⟩,⟨qB⟩⟩
   have H':=aM H;clear H;obtain⟨eT,bB,dV⟩:=R_slice au.out;subst dV;have bE:0<=(aI:Int):=qD;have bF:aI < (af.length:Int):=qD;obtain⟨ai,dh,bX⟩:=Kd.at_int (R_reads' au.out).2.2 aI bE bF;cases dh;replace bE:=eq_true bE;replace bF:=eq_true bF;obtain⟨aZ,bg,dW⟩:=R_slice ah.out;subst dW;go_wp2_with (first|((with_reducible refine jc 110 46 ?_);refine jG func110 #[.slice (some aJ) aW.length bL,iV (rd af aI),.slice aZ aj.length bg] ?_;refine (Sba.calls k2 ?ek (.slice (some aJ) aW.length bL) aW (rd af aI) _ _ aj false dD w0 _ ?aR ?aS ?bR ?bS d9.out).mono ?_;(case aS=>exact S_bound ae.out);(case aR=>exact qB);(case bR=>exact C_kept_own (R_tight rfl ah.out) (fun k_ hk_ hs_=>by first|exact hs_.1.2 hk_|exact hs_.1.2.1 hk_|exact hs_.1.2.2 hk_|exact hs_.1.1.2 hk_|exact hs_.1.1.1.2 hk_|exact akx ah.out (by decide) hk_ hs_.2.2.2));(case bS=>exact (kp ah));rintro e dU ⟨rfl,hy0,hb,hkp⟩;refine⟨_,rfl,?_⟩;replace ae:=aM ((by first|exact S_mono (ok':=fun k_=>(((az k_\/w.heap.size<=k_))/\(some k_≠(.slice (some ai) af.length bB:Value).ownBlock/\some k_≠(.slice aZ aj.length bg:Value).ownBlock))) hy0 (fun k_ h_=>Or.elim h_ (fun h_=>h_.1) (fun h_=>.inr (by first|exact Nat.le_trans HK.out.1 h_|exact Nat.le_trans (aa4 HB.out) h_)))|exact S_mono (ok':=fun k_=>(((az k_\/w.heap.size<=k_))/\(some k_≠(.slice (some ai) af.length bB:Value).ownBlock/\some k_≠(.slice aZ aj.length bg:Value).ownBlock))) hy0 (fun _ _=>trivial)|exact S_mono (ok':=fun k_=>(((az k_\/w.heap.size<=k_))/\(some k_≠(.slice (some ai) af.length bB:Value).ownBlock/\some k_≠(.slice aZ aj.length bg:Value).ownBlock))) hy0 (fun k_ h_=>Or.elim h_ (fun h_=>h_.1) (fun h_=>⟨.inr (Nat.le_trans HK.out.1 h_),fun e_=>by have:=R_lt au.out k_ e_.symm;omega⟩))|exact S_mono (ok':=fun k_=>(((az k_\/w.heap.size<=k_))/\(some k_≠(.slice (some ai) af.length bB:Value).ownBlock/\some k_≠(.slice aZ aj.length bg:Value).ownBlock))) hy0 (fun k_ h_=>Or.elim h_ (fun h_=>h_.1) (fun h_=>⟨.inr (Nat.le_trans HK.out.1 h_),fun e_=>by have:=R_lt ah.out k_ e_.symm;omega⟩))|exact S_mono (ok':=fun k_=>(((az k_\/w.heap.size<=k_))/\(some k_≠(.slice (some ai) af.length bB:Value).ownBlock/\some k_≠(.slice aZ aj.length bg:Value).ownBlock))) hy0 (fun k_ h_=>Or.elim h_ (fun h_=>h_.1) (fun h_=>⟨⟨.inr (Nat.le_trans HK.out.1 h_),fun e_=>by have:=R_lt au.out k_ e_.symm;omega⟩,fun e_=>by have:=R_lt ah.out k_ e_.symm;omega⟩))|exact S_mono (ok':=fun k_=>(((az k_\/w.heap.size<=k_))/\(some k_≠(.slice (some ai) af.length bB:Value).ownBlock/\some k_≠(.slice aZ aj.length bg:Value).ownBlock))) hy0 (fun k_ h_=>Or.elim h_ (fun h_=>h_.1) (fun h_=>⟨⟨.inr (Nat.le_trans HK.out.1 h_),fun e_=>by have:=R_lt ah.out k_ e_.symm;omega⟩,fun e_=>by have:=R_lt au.out k_ e_.symm;omega⟩))|exact S_mono (ok':=fun k_=>(((az k_\/w.heap.size<=k_))/\(some k_≠(.slice (some ai) af.length bB:Value).ownBlock/\some k_≠(.slice aZ aj.length bg:Value).ownBlock))) hy0 (fun k_ h_=>Or.elim h_ (fun h_=>h_.1) (fun h_=>⟨.inr (Nat.le_trans HK.out.1 h_),⟨fun e_=>by have:=R_lt au.out k_ e_.symm;omega,fun e_=>by have:=R_lt ah.out k_ e_.symm;omega⟩⟩))|exact S_mono (ok':=fun k_=>(((az k_\/w.heap.size<=k_))/\(some k_≠(.slice (some ai) af.length bB:Value).ownBlock/\some k_≠(.slice aZ aj.length bg:Value).ownBlock))) hy0 (fun k_ h_=>Or.elim h_ (fun h_=>h_.1) (fun h_=>⟨.inr (Nat.le_trans HK.out.1 h_),⟨fun e_=>by have:=R_lt ah.out k_ e_.symm;omega,fun e_=>by have:=R_lt au.out k_ e_.symm;omega⟩⟩))));replace au:=aM (R_mono (ok':=fun k_=>(az k_\/w.heap.size<=k_)/\some k_≠(.slice aZ aj.length bg:Value).ownBlock) (R_keptB (R_tight rfl au.out) hkp (fun k_ hk_ hs_=>by first|exact hs_.1.2 hk_|exact hs_.1.2.1 hk_|exact hs_.1.2.2 hk_|exact hs_.1.1.2 hk_|exact hs_.1.1.1.2 hk_|exact akx au.out (by decide) hk_ hs_.2.2.2)) (fun k_ hk_=>au.out.1 k_ hk_.1.symm));replace ah:=aM (R_mono (ok':=fun k_=>(az k_\/w.heap.size<=k_)/\some k_≠(.slice (some ai) af.length bB:Value).ownBlock) (R_keptB (R_tight rfl ah.out) hkp (fun k_ hk_ hs_=>by first|exact hs_.1.2 hk_|exact hs_.1.2.1 hk_|exact hs_.1.2.2 hk_|exact hs_.1.1.2 hk_|exact hs_.1.1.1.2 hk_|exact akx ah.out (by decide) hk_ hs_.2.2.2)) (fun k_ hk_=>ah.out.1 k_ hk_.1.symm));replace HK:=aM (Kept.then_ (S:=(fun k_=>az k_)) qT hkp (fun k_ hs_=>by first|exact hs_.1.1|exact hs_.1.1.1|exact hs_.1));replace HB:=aM hb;(try clear hb);(try clear hkp);(try clear hy0)));(try simp only [<- ax]);go_roundg k2;case measure=>have:=bY.out;have:=di.out;omega
   exact⟨_,_,_,qZ,qZ,H',⟨by have:=bY.out;have:=di.out;omega⟩,⟨by (try simp only [ax]);(with_reducible repeat (first|apply S_alloc|apply S_drewN|apply S_drew));exact ae.out⟩,⟨by (try simp only [ax]);(with_reducible repeat (first|apply R_alloc|apply R_drewN|apply R_drew));exact au.out⟩,⟨by (try simp only [ax]);(with_reducible repeat (first|apply R_alloc|apply R_drewN|apply R_drew));exact ah.out⟩,⟨qT⟩,⟨qB⟩⟩
  have H':=aM H;clear H;obtain⟨eU,eX,dX⟩:=R_slice au.out;subst dX;go_wp2;(try simp only [<- ax]);go_roundg k2;case measure=>have:=bY.out;have:=di.out;omega
  exact⟨(aW),(bW),(wrap64 (aa+1)),qZ,qZ,H',⟨by have:=bY.out;have:=di.out;omega⟩,⟨by (try simp only [ax]);(with_reducible repeat (first|apply S_alloc|apply S_drewN|apply S_drew));exact S_mono ae.out (fun _ hk=>hk.1)⟩,⟨qT⟩,⟨qB⟩⟩
 obtain⟨rfl,rfl⟩:=oJ2 H;go_wp2;go_ret;exact⟨qW,qS ae,qB,qT⟩
mutual
def adl:Nat->List S31->List (List Int)->Int->Option ((List (List Int)))
 | 0,_,_,_=>none
 | k+1,x0,x3,x4=>if x4 < (x0.length:Int) then (if x3.length < 5864062014805 then (adl k x0 (x3 ++ [(([]:List Int))]) (wrap64 (x4+1))) else (none)) else ((aji k).bind fun aQ=>(if 0 < (x3.length:Int) then (acY k x0 (x3.set (0:Int).toNat aQ)) else (none)))
def acY:Nat->List S31->List (List Int)->Option ((List (List Int)))
 | 0,_,_=>none
 | k+1,x0,x3=>(Sbc.f k x0 x3).bind fun bv=>(if bv.1=true then (acY k x0 bv.2) else (acX k x0 bv.2 0))
def acX:Nat->List S31->List (List Int)->Int->Option ((List (List Int)))
 | 0,_,_,_=>none
 | k+1,x0,x3,x5=>if x5 < (x0.length:Int) then (if 0<=x5 then (if x5 < (x3.length:Int) then (if ((ab1 x3 x5).length:Int)=0 then ((aji k).bind fun aR=>(acX k x0 (x3.set (x5:Int).toNat aR) (wrap64 (x5+1)))) else (acX k x0 x3 (wrap64 (x5+1)))) else (none)) else (none)) else (some x3)
end
def Sai.f (k:Nat) (l0:List S31):Option ((List (List Int))):=(some (([]:List (List Int)):List (List Int))).bind fun bG=>((Sag.f k l0).bind fun dA=>(if dA=true then (adl k l0 bG 0) else (some bG)))
theorem ahc:∀ k,(∀ y0 y1 y2,LeO (adl k y0 y1 y2) (adl (k+1) y0 y1 y2))/\(∀ y0 y1,LeO (acY k y0 y1) (acY (k+1) y0 y1))/\(∀ y0 y1 y2,LeO (acX k y0 y1 y2) (acX (k+1) y0 y1 y2))
 | 0=>⟨fun _ _ _ r h=>by simp [adl] at h,fun _ _ r h=>by simp [acY] at h,fun _ _ _ r h=>by simp [acX] at h⟩
 | k+1=>by
  obtain⟨fM,ih1,ih2⟩:=ahc k;have m0:=@Sag.mono;have m1:=@Sbc.mono;have m2:=@Sbd.mono;exact⟨by intros;unfold adl;exact mM,by intros;unfold acY;exact mM,by intros;unfold acX;exact mM⟩
theorem Sai.mono:∀ a0 k,LeO (Sai.f k a0) (Sai.f (k+1) a0):=by
 intro a0 k;obtain⟨fM,ih1,ih2⟩:=ahc k;unfold Sai.f;have m0:=@Sag.mono;have m1:=@Sbc.mono;have m2:=@Sbd.mono;exact mM
theorem Sai.calls (k:Nat) (A0:Option Addr) (c0:Nat) (l0:List S31) (r:List (List Int)) (w:World) (hr0:Kd.C k31 w A0 l0.length l0) (hc0:l0.length<=c0) (h:Sai.f k l0=some r) :
  Calls prog 52 #[.slice A0 l0.length c0] w fun e w'=>∃ fC:Value,e = .returned (fC)/\Kd.S (Kd.slice 3 (Kd.int .i64)) 28 w' w.heap.size (fun _=>True) fC r/\Below w.heap.size w w':=by
 have ek:=aM hr0;have eu:=aM hc0;clear hr0 hc0;have HB:=jb_ w;have H:=h;unfold Sai.f at H;clear h;obtain⟨bG,aK⟩:=ky ((([]:List (List Int))):List (List Int));replace H:=kv aK H;obtain⟨dA,A2,H⟩:=qE H;try dsimp only at H
 replace H:=jB H;rcases H with ⟨rfl,H⟩ | ⟨rfl,H⟩
 ·have H':=aM H;clear H;go_enter func52,ntmps52;go_wp2_with (first|((with_reducible refine jd 6 ?_);refine S_lit (Kd.slice 3 (Kd.int .i64)) _ 28 ?hg (N:=6) ?hd (xs:=([]:List (List Int))) (inner:=[]) (ok:=fun _=>True) (okp:=fun _=>True) ?hr ?hp (fun _ hk=>hk) trivial (Below.refl _ _) (Nat.le_refl _) (by simp) ?_;(case hd=>rfl);(case hg=>rfl);(case hr=>first|(go_simp;done)|(go_simp;rfl));(case hp=>exact (aa8 _ _));intro eD w4 dB hb hg_ hnew_;clear hg_ hnew_;replace dB:=kr aK dB;have az:=aM (S_lower dB (aa4 qB));replace HB:=kH hb;clear hb dB)|((with_reducible refine jc 44 8 ?_);refine jK func44 (Sag.calls k _ _ l0 true _ (kb ek HB) eu.out A2.out) ?_;intro w6 hb;replace az:=kS az hb;replace HB:=kH hb;clear hb));go_loopg [3,4] k (fun kq v3 v4 w'=>∃ (au:List (List Int)) (bX:Int),v4 = iV bX/\aa1 (adl kq l0 au bX=some r)/\aa1 (kq<=k)/\aa1 (Kd.S (Kd.slice 3 (Kd.int .i64)) 28 w' w.heap.size (fun _=>True) v3 au)/\aa1 (Below w.heap.size w w'));case atStart=>exact⟨(bG),(0),qZ,H',⟨Nat.le_refl _⟩,⟨qS az⟩,⟨qB⟩⟩
  clear H';obtain⟨au,bX,rfl,HA,bM,aa,HB⟩:=hrel;rcases gk with _|k1
  ·exact absurd HA.out (by simp [adl])
  have H:=HA.out;clear HA;simp only [adl] at H;replace H:=jD H;rcases H with ⟨bY,H⟩ | ⟨bY,H⟩
  ·obtain⟨bH,bg⟩:=ky ([]:List Int);replace H:=kv bg H;replace H:=jL H;obtain⟨eF,H⟩:=H;obtain⟨fO,bz⟩:=ky ((au ++ [bH]):List (List Int));replace H:=kv bz H;have H':=aM H;clear H;go_wp2_with (first|((with_reducible refine jd 18 ?_);refine jV (Kd.int .i64) 3 ([]:List Int) [] (aa8 _ _) ?_;intro fP fQ bu hb;replace bu:=kr bg bu;have bi:=kL bu;replace aa:=aM (S_elder' (qS aa) (R_base bu) hb);replace HB:=kH hb;clear hb bu;obtain⟨dC,dD,eG⟩:=R_slice bi.out;subst eG)|((with_reducible refine aa9 (b:=.append) (xs:=#[.tmp 17,.tmp 19]) rfl ?_);at_builtin;refine S_append (Kd.slice 3 (Kd.int .i64)) (w0:=w) w.heap.size rfl (.tmp 17) (.tmp 19) 71 28 (.slice none 0 0) 24 rfl underlying71 aq7 rfl (by decide) (by omega) u3 au bH [.slice dC bH.length dD] (fun _=>True) (fun k_=>some k_=(.slice dC bH.length dD:Value).ownBlock) rfl rfl ?aP (fun k_ hk_=>((R_mono (ok':=fun k_=>((fun _=>True)) k_/\some k_≠(u3:Value).ownBlock) (R_apart' (bi.out) (S_typed aa.out) (by decide)) (fun k_ hk=>⟨trivial,hk.2⟩))).1 k_ hk_.symm) ?aF ?aO ?aB ?aS ?aL ?_;(case aP=>exact M_row (R_mono (R_tight rfl (R_mono (ok':=fun k_=>((fun _=>True)) k_/\some k_≠(u3:Value).ownBlock) (R_apart' (bi.out) (S_typed aa.out) (by decide)) (fun k_ hk=>⟨trivial,hk.2⟩))) (fun _ h_=>h_)));(case aB=>exact qB);(case aF=>exact (fun _ _=>trivial));(case aO=>exact (by (with_reducible repeat (first|apply S_alloc|apply S_drewN|apply S_drew));exact S_mono aa.out (by first|exact fun k_ hk=>⟨trivial,fun e_=>hk.2 e_⟩|exact fun k_ hk=>hk)));(case aS=>exact (aa4 qB));(case aL=>have:=eF.out;omega);intro fT fU ho hb hg hat;rw [<- bz.out] at ho;have dE:=aM ho;replace HB:=aM hb;clear aa bi;clear ho hb hg hat));go_roundg k1;case measure=>have:=bM.out;omega
   exact⟨_,_,qZ,H',⟨by have:=bM.out;omega⟩,⟨qS dE⟩,⟨qB⟩⟩
  obtain⟨aQ,fV,H⟩:=qE H;try dsimp only at H
  replace H:=jU H;obtain⟨c14,H⟩:=H;have bN:=decide_eq_true c14;have bO:decide (0 < au.length)=true:=decide_eq_true (by omega);clear c14;obtain⟨dF,bA⟩:=ky ((au.set (0:Int).toNat aQ):List (List Int));replace H:=kv bA H;have H':=aM H;clear H;go_wp2_with (first|((with_reducible refine jc 86 22 ?_);refine jM func86 (ais k1  aQ _ fV.out) ?_;rintro fZ w16 ⟨ho0,hb⟩;have bn:=kL ho0;replace aa:=aM (S_elder' (qS aa) (R_base ho0) hb);replace HB:=kH hb;clear hb;(try clear hk);(try clear ho0);obtain⟨Aoz,coz,eoz⟩:=R_slice bn.out;subst eoz;have dG:0<=(0:Int):=(by omega);have dH:(0:Int) < ((au.length:Int):Int):=qD;have dI:(0 < au.length)=True:=eq_true (by omega);obtain⟨ah,ay,dJ,dK,eH,gm,dL⟩:=S_form aa.out (by omega);(first|cases dJ|(injection dJ with ea_ en_ ec_;(first|subst ea_|(injection ea_ with ea_;subst ea_));subst ec_;clear en_));have dM:=aM dK;have gp:=aM dL;clear dK eH dL;obtain⟨_,gq,dN,dO,bP,bQ,_,_⟩:=S_elem aa.out [] (0:Int) dG dH;obtain⟨eO,rfl,eP⟩:=dO;have aD:=bP 0 _ rfl;have aW:=bQ 0;(try simp only [show ((Kd.slice 3 (Kd.int .i64))).sz=1 from rfl,Nat.mul_one,Nat.add_zero] at aD);(try simp only [show ((Kd.slice 3 (Kd.int .i64))).sz=1 from rfl,Nat.mul_one,Nat.add_zero] at aW);clear dN bP bQ;(try clear dO);(try rw [show ((0:Int)).toNat=0 from rfl] at aD);(try simp only [Nat.reduceMul,Nat.zero_mul,Nat.zero_add,Nat.reduceAdd] at aD);(try rw [show ((0:Int)).toNat=0 from rfl] at aW);(try simp only [Nat.reduceMul,Nat.zero_mul,Nat.zero_add,Nat.reduceAdd] at aW);replace dG:=eq_true dG;replace dH:=eq_true dH;have n_:=aM (S_mono (ok':=(fun k_=>some k_≠((.slice Aoz aQ.length coz):Value).ownBlock)) aa.out (fun k_ hk=>hk.2));clear aa;have aa:=n_;clear n_;have eQ:=aM (show Kd.S (Kd.slice 3 (Kd.int .i64)) 28 w16 w.heap.size (fun k_=>((fun _=>True)) k_/\¬ ((fun k_=>some k_=((.slice Aoz aQ.length coz):Value).ownBlock)) k_) (.slice (some ⟨ah,0,none⟩) au.length ay) au from (by (with_reducible repeat (first|apply S_alloc|apply S_drewN|apply S_drew));exact S_mono aa.out (by first|exact fun k_ hk=>⟨trivial,fun e_=>hk e_⟩|exact fun k_ hk=>hk)));obtain⟨fD,gu,dP,dQ,bR,bS,bZ,dR⟩:=S_elem eQ.out [] (0:Int) (by omega) (by have h_:(0:Int) < ((au.length:Int):Int):=qD;first|exact h_|(have e_:=(S_reads' aa.out).1;omega)|simpa using h_);obtain⟨eT,rfl,eU⟩:=dQ;have bI:=S_seg dR (by omega) (by have h_:(0:Int) < ((au.length:Int):Int):=qD;first|exact h_|(have e_:=(S_reads' aa.out).1;omega)|simpa using h_) (seg:=[(.slice Aoz aQ.length coz)]) (j:=0) (show 1<=1 from by decide) (x':=aQ) (M_row (R_mono (R_tight rfl (R_mono (ok':=fun k_=>((fun _=>True)) k_/\k_≠ah) (R_apart' (bn.out) (S_typed aa.out) (by decide)) (fun k_ hk=>⟨trivial,fun e_=>(hk.2) (by rw [e_];rfl)⟩))) (fun _ h_=>Or.inr (h_)))) (fun _ hk=>hk) (fun k_ hk_=>((R_mono (ok':=fun k_=>((fun _=>True)) k_/\k_≠ah) (R_apart' (bn.out) (S_typed aa.out) (by decide)) (fun k_ hk=>⟨trivial,fun e_=>(hk.2) (by rw [e_];rfl)⟩))).1 k_ hk_.symm);have aG:=bR 0 _ rfl;(try simp only [show ((Kd.slice 3 (Kd.int .i64))).sz=1 from rfl,Nat.mul_one,Nat.add_zero] at aG);(try rw [show ((0:Int)).toNat=0 from rfl] at aG);(try simp only [Nat.reduceMul,Nat.zero_mul,Nat.zero_add,Nat.reduceAdd] at aG);have aX:=bS 0;(try simp only [show ((Kd.slice 3 (Kd.int .i64))).sz=1 from rfl,Nat.mul_one,Nat.add_zero] at aX);(try rw [show ((0:Int)).toNat=0 from rfl] at aX);(try simp only [Nat.reduceMul,Nat.zero_mul,Nat.zero_add,Nat.reduceAdd] at aX);clear dP bR bS bZ dR;(try clear dQ);(try simp only [show ((Kd.slice 3 (Kd.int .i64))).sz=1 from rfl,Nat.mul_one,Nat.add_zero] at bI))|((with_reducible refine aaI (t:=28) (p:=23) rfl ?_);refine aat (t:=28) (p:=23) (v:=?eX) (w1:=(w16.setCell ⟨ah,0,none⟩ ((.slice Aoz aQ.length coz)))) ?hg ?ho ?hn ?hr ?_;(case ho=>rfl);(case hg=>rfl);(case hn=>rfl);(case hr=>first|(go_simp;done)|(go_simp;rfl));intro eY hw;have hg:w16.grownBy eY (some ah):=(by rw [hw];exact bI.2);have hp_:Kd.S (Kd.slice 3 (Kd.int .i64)) 28 eY w.heap.size (fun _=>True) (.slice (some ⟨ah,0,none⟩) au.length ay) dF:=(by rw [hw,bA.out];exact bI.1);clear bI;replace aa:=aM hp_;replace HB:=aM ((by rw [hw];exact aad (HB.out) dM.out:Below w.heap.size w eY));clear bn;clear hg hw hp_));go_loopg [] k1 (fun kq w'=>∃ (aJ:List (List Int)),aa1 (acY kq l0 aJ=some r)/\aa1 (kq<=k1)/\aa1 (Kd.S (Kd.slice 3 (Kd.int .i64)) 28 w' w.heap.size (fun _=>True) (.slice (some ⟨ah,0,none⟩) au.length ay) aJ)/\aa1 (Below w.heap.size w w'));case atStart=>exact⟨(dF),H',⟨Nat.le_refl _⟩,⟨qS aa⟩,⟨qB⟩⟩
  clear H';try clear bY;try clear c14;try clear bN;try clear bO;try clear dG;try clear dH;try clear dI;try clear aD;try clear aG
  obtain⟨aJ,HA,dz,aa,HB⟩:=hrel;have aH:=(S_reads' aa.out).1;rw [aH] at aa;(try simp only [aH]);rcases gk with _|k2
  ·exact absurd HA.out (by simp [acY])
  have H:=HA.out;clear HA;simp only [acY] at H;obtain⟨⟨gy,cu⟩,fE,H⟩:=qE H;try dsimp only at H
  replace H:=jB H;rcases H with ⟨rfl,H⟩ | ⟨rfl,H⟩
  ·have H':=aM H;clear H;go_wp2_with (first|((with_reducible refine jc 87 26 ?_);refine jG func87 #[.slice A0 l0.length c0,.slice (some ⟨ah,0,none⟩) aJ.length ay] ?_;refine (Sbc.calls k2 _ _ l0 ?fF (.slice (some ⟨ah,0,none⟩) aJ.length ay) aJ true cu w _ ?aA ?aC ?bB ?bC fE.out).mono ?_;(case bC=>exact S_bound aa.out);(case aA=>exact qB);(case aC=>exact C_kept_came acF ek.out qB (fun k_ hs_=>(by first|exact R_base aa.out k_ hs_.symm|exact hs_.2.1)));(case bB=>exact eu.out);rintro e gz ⟨rfl,hy0,hb,hkp⟩;refine⟨_,rfl,?_⟩;replace aa:=aM ((by first|exact S_mono (ok':=fun k_=>True) hy0 (fun k_ h_=>Or.elim h_ (fun h_=>h_.1) (fun h_=>.inr (by first|exact Nat.le_trans HK.out.1 h_|exact Nat.le_trans (aa4 HB.out) h_)))|exact S_mono (ok':=fun k_=>True) hy0 (fun _ _=>trivial)));replace HB:=aM hb;(try clear hb);(try clear hkp);(try clear hy0)));(try simp only [<- aH]);go_roundg k2;case measure=>have:=bM.out;have:=dz.out;omega
   exact⟨_,H',⟨by have:=bM.out;have:=dz.out;omega⟩,⟨by (try simp only [aH]);(with_reducible repeat (first|apply S_alloc|apply S_drewN|apply S_drew));exact aa.out⟩,⟨qB⟩⟩
  have H':=aM H;clear H;go_wp2_with (first|((with_reducible refine jc 87 26 ?_);refine jG func87 #[.slice A0 l0.length c0,.slice (some ⟨ah,0,none⟩) aJ.length ay] ?_;refine (Sbc.calls k2 _ _ l0 ?fG (.slice (some ⟨ah,0,none⟩) aJ.length ay) aJ false cu w _ ?aA ?aC ?bB ?bC fE.out).mono ?_;(case bC=>exact S_bound aa.out);(case aA=>exact qB);(case aC=>exact C_kept_came acF ek.out qB (fun k_ hs_=>(by first|exact R_base aa.out k_ hs_.symm|exact hs_.2.1)));(case bB=>exact eu.out);rintro e gJ ⟨rfl,hy0,hb,hkp⟩;refine⟨_,rfl,?_⟩;replace aa:=aM ((by first|exact S_mono (ok':=fun k_=>True) hy0 (fun k_ h_=>Or.elim h_ (fun h_=>h_.1) (fun h_=>.inr (by first|exact Nat.le_trans HK.out.1 h_|exact Nat.le_trans (aa4 HB.out) h_)))|exact S_mono (ok':=fun k_=>True) hy0 (fun _ _=>trivial)));replace HB:=aM hb;(try clear hb);(try clear hkp);(try clear hy0)));go_loopg [5] k2 (fun kq v5 w'=>∃ (aj:List (List Int)) (ag:Int),v5 = iV ag/\aa1 (acX kq l0 aj ag=some r)/\aa1 (kq<=k2)/\aa1 (Kd.S (Kd.slice 3 (Kd.int .i64)) 28 w' w.heap.size (fun _=>True) (.slice (some ⟨ah,0,none⟩) aJ.length ay) aj)/\aa1 (Below w.heap.size w w'));case atStart=>exact⟨(cu),(0),qZ,H',⟨Nat.le_refl _⟩,⟨by (try simp only [aH]);(with_reducible repeat (first|apply S_alloc|apply S_drewN|apply S_drew));exact aa.out⟩,⟨qB⟩⟩
  clear H';try clear bY;try clear c14;try clear bN;try clear bO;try clear dG;try clear dH;try clear dI;try clear aD;try clear aG
  obtain⟨aj,ag,rfl,HA,eB,aa,HB⟩:=hrel;have aN:=(S_reads' aa.out).1;rw [aN] at aa;(try simp only [aN]);rcases gk with _|k3
  ·exact absurd HA.out (by simp [acX])
  have H:=HA.out;clear HA;simp only [acX] at H;replace H:=jD H;rcases H with ⟨dS,H⟩ | ⟨dS,H⟩
  ·replace H:=jI H;obtain⟨fH,H⟩:=H;replace H:=jI H;obtain⟨fI,H⟩:=H;replace H:=jE H;rcases H with ⟨dU,dV,H⟩ | ⟨gB,dU,dV,H⟩
   ·obtain⟨aR,gK,H⟩:=qE H;try dsimp only at H
    obtain⟨eZ,bD⟩:=ky ((aj.set (ag:Int).toNat aR):List (List Int));replace H:=kv bD H;have H':=aM H;clear H;have aT:0<=(ag:Int):=qD;have aU:ag < (aj.length:Int):=qD;obtain⟨bE,cz,cB,cK,af,av,ax⟩:=afr (S_reads' aa.out).2.2 ag aT aU;obtain rfl:(⟨ah,0,none⟩:Addr)=bE:=(by injection cK);obtain⟨dW,aY,aZ,aI⟩:=S_get aa.out [] ag aT (by first|exact aU|exact qD|(have e_:=(S_reads' aa.out).1;omega));obtain⟨bJ,rfl,ai⟩:=aZ;have ae:=aI 0 _ rfl;rw [Nat.add_zero,show ((Kd.slice 3 (Kd.int .i64))).sz=1 from rfl,Nat.mul_one] at ae;replace ae:=Option.some.inj (ae.symm.trans af);rw [ae] at ai;have ak:=aM (show Kd.R (Kd.int .i64) 3 _ _ _ _ (ab1 aj ag) from ai);clear ae ai;clear aI aY;(first|simp only [add_plain] at af|simp only [agY] at af|simp only [Addr.add,Nat.zero_add] at af|skip);have aV:=aM ax;have bK:=aM av;clear ax av;replace aT:=eq_true aT;replace aU:=eq_true aU;go_wp2_with (first|((with_reducible refine jc 86 41 ?_);refine jG func86 #[] ?_;refine (ais _ _ _ (aa1.out (by assumption))).mono ?_;rintro e cO ⟨gD,rfl,ho0,hb⟩;refine⟨_,rfl,?_⟩;have bq:=aM (R_lower (R_new' ho0 (R_lt (qR ak))) (aa4 qB));replace aa:=aM (S_elder' (qS aa) (R_base ho0) hb);replace ak:=kO ak ho0 hb;replace aV:=kQ aV hb;replace HB:=kH hb;clear hb;(try clear hk);(try clear ho0);obtain⟨Aoz,coz,eoz⟩:=R_slice bq.out;subst eoz;have p28:0<=(ag:Int):=qD;have fe:(ag:Int) < ((aj.length:Int):Int):=qD;obtain⟨_,gF,dX,dY,bT,bU,_,_⟩:=S_elem aa.out [] (ag:Int) p28 fe;obtain⟨fo,rfl,fq⟩:=dY;have df:=bT 0 _ rfl;have dh:=bU 0;(try simp only [show ((Kd.slice 3 (Kd.int .i64))).sz=1 from rfl,Nat.mul_one,Nat.add_zero] at df);(try simp only [show ((Kd.slice 3 (Kd.int .i64))).sz=1 from rfl,Nat.mul_one,Nat.add_zero] at dh);clear dX bT bU;(try clear dY);replace p28:=eq_true p28;replace fe:=eq_true fe;have n_:=aM (S_mono (ok':=(fun k_=>some k_≠((.slice Aoz aR.length coz):Value).ownBlock)) aa.out (fun k_ hk=>hk.2));clear aa;have aa:=n_;clear n_;have fu:=aM (show Kd.S (Kd.slice 3 (Kd.int .i64)) 28 cO w.heap.size (fun k_=>((fun _=>True)) k_/\¬ ((fun k_=>some k_=((.slice Aoz aR.length coz):Value).ownBlock)) k_) (.slice (some ⟨ah,0,none⟩) aj.length ay) aj from (by (with_reducible repeat (first|apply S_alloc|apply S_drewN|apply S_drew));exact S_mono aa.out (by first|exact fun k_ hk=>⟨trivial,fun e_=>hk e_⟩|exact fun k_ hk=>hk)));obtain⟨fJ,gG,dZ,d9,bV,bW,di,ed⟩:=S_elem fu.out [] (ag:Int) (qD) (by have h_:(ag:Int) < ((aj.length:Int):Int):=qD;first|exact h_|(have e_:=(S_reads' aa.out).1;omega)|simpa using h_);obtain⟨fw,rfl,fA⟩:=d9;have bL:=S_seg ed (qD) (by have h_:(ag:Int) < ((aj.length:Int):Int):=qD;first|exact h_|(have e_:=(S_reads' aa.out).1;omega)|simpa using h_) (seg:=[(.slice Aoz aR.length coz)]) (j:=0) (show 1<=1 from by decide) (x':=aR) (M_row (R_mono (R_tight rfl (R_mono (ok':=fun k_=>((fun _=>True)) k_/\k_≠ah) (R_apart' (bq.out) (S_typed aa.out) (by decide)) (fun k_ hk=>⟨trivial,fun e_=>(hk.2) (by rw [e_];rfl)⟩))) (fun _ h_=>Or.inr (h_)))) (fun _ hk=>hk) (fun k_ hk_=>((R_mono (ok':=fun k_=>((fun _=>True)) k_/\k_≠ah) (R_apart' (bq.out) (S_typed aa.out) (by decide)) (fun k_ hk=>⟨trivial,fun e_=>(hk.2) (by rw [e_];rfl)⟩))).1 k_ hk_.symm);have dn:=bV 0 _ rfl;(try simp only [show ((Kd.slice 3 (Kd.int .i64))).sz=1 from rfl,Nat.mul_one,Nat.add_zero] at dn);have dw:=bW 0;(try simp only [show ((Kd.slice 3 (Kd.int .i64))).sz=1 from rfl,Nat.mul_one,Nat.add_zero] at dw);clear dZ bV bW di ed;(try clear d9);(try simp only [show ((Kd.slice 3 (Kd.int .i64))).sz=1 from rfl,Nat.mul_one,Nat.add_zero] at bL))|((with_reducible refine aaI (t:=28) (p:=42) rfl ?_);refine aat (t:=28) (p:=42) (v:=?fB) (w1:=(cO.setCell ⟨ah,(ag:Int).toNat,none⟩ ((.slice Aoz aR.length coz)))) ?hg ?ho ?hn ?hr ?_;(case ho=>rfl);(case hg=>rfl);(case hn=>rfl);(case hr=>first|(go_simp;done)|(go_simp;rfl));intro dx hw;have hg:cO.grownBy dx (some ah):=(by rw [hw];exact bL.2);have hp_:Kd.S (Kd.slice 3 (Kd.int .i64)) 28 dx w.heap.size (fun _=>True) (.slice (some ⟨ah,0,none⟩) aj.length ay) eZ:=(by rw [hw,bD.out];exact bL.1);clear bL;replace aa:=aM hp_;replace ak:=aM (R_after (v:=(.slice (some ⟨ah,0,none⟩) aj.length ay)) (v1:=(.slice (some ⟨ah,0,none⟩) aj.length ay)) (ok:=(fun k_=>some k_≠((.slice Aoz aR.length coz):Value).ownBlock)) (by (with_reducible repeat (first|apply R_alloc|apply R_drewN|apply R_drew));exact R_mono ak.out (fun _ hk=>⟨hk.2,hk.1.2⟩)) hg (.inl rfl));replace HB:=aM ((by rw [hw];exact aad (HB.out) dM.out:Below w.heap.size w dx));clear bq;clear hg hw hp_));(try simp only [<- aN]);go_roundg k3;case measure=>have:=bM.out;have:=dz.out;have:=eB.out;omega
    exact⟨_,_,qZ,H',⟨by have:=bM.out;have:=dz.out;have:=eB.out;omega⟩,⟨by (try simp only [aH]);(try simp only [aN]);(with_reducible repeat (first|apply S_alloc|apply S_drewN|apply S_drew));exact aa.out⟩,⟨qB⟩⟩
   have fK:¬ ((ab1 aj ag)=[]):=fun h_=>gB (by rw [h_];rfl)
   have H':=aM H;clear H;have aT:0<=(ag:Int):=qD;have aU:ag < (aj.length:Int):=qD;obtain⟨bE,cz,cB,cK,af,av,ax⟩:=afr (S_reads' aa.out).2.2 ag aT aU;obtain rfl:(⟨ah,0,none⟩:Addr)=bE:=(by injection cK);obtain⟨dW,aY,aZ,aI⟩:=S_get aa.out [] ag aT (by first|exact aU|exact qD|(have e_:=(S_reads' aa.out).1;omega));obtain⟨bJ,rfl,ai⟩:=aZ;have ae:=aI 0 _ rfl;rw [Nat.add_zero,show ((Kd.slice 3 (Kd.int .i64))).sz=1 from rfl,Nat.mul_one] at ae;replace ae:=Option.some.inj (ae.symm.trans af);rw [ae] at ai;have ak:=aM (show Kd.R (Kd.int .i64) 3 _ _ _ _ (ab1 aj ag) from ai);clear ae ai;clear aI aY;(first|simp only [add_plain] at af|simp only [agY] at af|simp only [Addr.add,Nat.zero_add] at af|skip);have aV:=aM ax;have bK:=aM av;clear ax av;replace aT:=eq_true aT;replace aU:=eq_true aU;go_wp2;(try simp only [<- aN]);go_roundg k3;case measure=>have:=bM.out;have:=dz.out;have:=eB.out;omega
   exact⟨(aj),(wrap64 (ag+1)),qZ,H',⟨by have:=bM.out;have:=dz.out;have:=eB.out;omega⟩,⟨by (try simp only [aH]);(try simp only [aN]);(with_reducible repeat (first|apply S_alloc|apply S_drewN|apply S_drew));exact aa.out⟩,⟨qB⟩⟩
  obtain rfl:=oJ H;go_wp2;go_ret;exact⟨_,qW,qS aa,qB⟩
 obtain rfl:=oJ H;go_enter func52,ntmps52;go_wp2_with (first|((with_reducible refine jd 6 ?_);refine S_lit (Kd.slice 3 (Kd.int .i64)) _ 28 ?hg (N:=6) ?hd (xs:=([]:List (List Int))) (inner:=[]) (ok:=fun _=>True) (okp:=fun _=>True) ?hr ?hp (fun _ hk=>hk) trivial (Below.refl _ _) (Nat.le_refl _) (by simp) ?_;(case hd=>rfl);(case hg=>rfl);(case hr=>first|(go_simp;done)|(go_simp;rfl));(case hp=>exact (aa8 _ _));intro eD gH bF hb hg_ hnew_;clear hg_ hnew_;replace bF:=kr aK bF;have az:=aM (S_lower bF (aa4 qB));replace HB:=kH hb;clear hb bF)|((with_reducible refine jc 44 8 ?_);refine jK func44 (Sag.calls k _ _ l0 false _ (kb ek HB) eu.out A2.out) ?_;intro gI hb;replace az:=kS az hb;replace HB:=kH hb;clear hb));go_ret;exact⟨_,qW,qS az,qB⟩
end Go.Proofs.YtdkkdiiceaomaaaGreat.M
namespace Go.Proofs.YtdkkdiiceaomaaaGreat.M
open Go.Proofs.Tryz Go.RowKit Go.Proofs.YtdkkdiiceaomaaaGreatW.PrintWords Go.Proofs.YtdkkdiiceaomaaaGreatW.PrintLast Go.Proofs.YtdkkdiiceaomaaaGreatW.PrintMore
attribute [local go_sem] aas aaq aaH aaG aaj aai aar aap
def acG:Nat->List Int->Int->Bool->Int->Int->Int->Int->Int->Option (Int × Int × Int × Int × Int)
 | 0,_,_,_,_,_,_,_,_=>none
 | k+1,x1,x6,x7,xa,xb,xc,xd,xe=>if x7=true then (if 0<=xc then (if xc < (x1.length:Int) then (some (xa,xb,rd x1 xc,xd,xe)) else (none)) else (none)) else (if x6=3 then (if 0<=xc then (if xc < (x1.length:Int) then (if 0<=xd then (if xd < (x1.length:Int) then (some (xa,xb,rd x1 xc,rd x1 xd,xe)) else (none)) else (none)) else (none)) else (none)) else (some (xa,xb,xc,xd,xe)))
def ait (k:Nat) (aa au af aj av:Int) (l1:List Int):Option (Int × Int × Int × Int × Int):=if aa=2 then (acG k l1 aa (aa == 2) aa au af aj av) else (if aa=5 then (acG k l1 aa (aa == 5) aa au af aj av) else (if aa=6 then (acG k l1 aa (aa == 6) aa au af aj av) else (acG k l1 aa (aa == 9) aa au af aj av)))
theorem ah4:∀ k,(∀ y0 y1 y2 y3 y4 y5 y6 y7,LeO (acG k y0 y1 y2 y3 y4 y5 y6 y7) (acG (k+1) y0 y1 y2 y3 y4 y5 y6 y7))
 | 0=>fun _ _ _ _ _ _ _ _ r h=>by simp [acG] at h
 | k+1=>by
  have bH:=ah4 k
  intros;unfold acG;exact mM
theorem Sbb.mono:∀ a0 a1 a2 a3 a4 a5 k,LeO (ait k a0 a1 a2 a3 a4 a5) (ait (k+1) a0 a1 a2 a3 a4 a5):=by
 intro a0 a1 a2 a3 a4 a5 k;have bH:=ah4 k;unfold ait;exact mM
theorem am5 (k:Nat) (aa au af aj av:Int) (A1:Option Addr) (c1:Nat) (l1:List Int) (r1 r2 r3 r4 r5:Int) (w:World) (hr1:Kd.C (Kd.int .i64) w A1 l1.length l1) (hc1:l1.length<=c1) (h:ait k aa au af aj av l1=some (r1,r2,r3,r4,r5)) :
  Calls prog 53 #[.agg #[iV aa,iV au,iV af,iV aj,iV av],.slice A1 l1.length c1] w fun e w'=>e = .returned (.agg #[iV r1,iV r2,iV r3,iV r4,iV r5])/\Below w.heap.size w w':=by
 have bI:=underlying31;have HR1:=aM hr1;have bS:=aM hc1;clear hr1 hc1;have HB:=jb_ w;have H:=h;unfold ait at H;clear h;have aT:=aM H;clear H;go_enter func53,ntmps53;go_upto_if 7 with (first|((with_reducible refine jd 2 ?_);refine jY _ 31 ?_;intro aB hg w4 ae hb;have aN:=kG hg;replace HB:=kH hb;clear hb hg)|((with_reducible refine jd 4 ?_);refine jY _ 31 ?_;intro ax hg w5 ag hb;have bg:=kG hg;have ah:=kN hg ae;have ai:=kM hg ae;replace ae:=kB ae hb;replace HB:=kH hb;clear hb hg;have bJ:=ah.out;have bK:=ai.out;have bL:=jz5 ae));(try simp only [Act.put,List.setIfInBounds_toArray,List.set_cons_zero,List.set_cons_succ]);go_cut [7] (fun v7 wc=>∃ (kq:Nat) (aF:Bool),v7 = .bool aF/\aa1 (acG kq l1 aa aF aa au af aj av=some (r1,r2,r3,r4,r5))/\aa1 (kq<=k)/\aa1 (wc.heap[aB]?=some (.cells #[iV aa,iV au,iV af,iV aj,iV av] 31 (0,0)))/\aa1 (wc.heap[ax]?=some (.cells #[iV 0,iV 0,iV 0,iV 0,iV 0] 31 (0,0)))/\aa1 (Below w.heap.size w wc))
 case first =>
  have H:=aT.out;clear aT;replace H:=jE H;rcases H with ⟨aC,aU,H⟩ | ⟨c8,aC,aU,H⟩
  ·(first|rw [aC]|(simp only [aaw,aaA];rw [aC])|skip);have H':=aM H;clear H;go_wp2;go_meet;exact⟨_,((aa == 2)),qZ,H',⟨by first|omega|exact Nat.le_refl _⟩,⟨qK ae⟩,⟨qK ag⟩,⟨qB⟩⟩
  (first|rw [aC]|(simp only [aaw,aaA];rw [aC])|skip);replace H:=jE H;rcases H with ⟨aV,aW,H⟩ | ⟨c9,aV,aW,H⟩
  ·have H':=aM H;clear H;go_wp2;go_meet;exact⟨_,((aa == 5)),qZ,H',⟨by first|omega|exact Nat.le_refl _⟩,⟨qK ae⟩,⟨qK ag⟩,⟨qB⟩⟩
  replace H:=jE H;rcases H with ⟨aO,aP,H⟩ | ⟨c10,aO,aP,H⟩
  ·have H':=aM H;clear H;go_wp2;go_meet;exact⟨_,((aa == 6)),qZ,H',⟨by first|omega|exact Nat.le_refl _⟩,⟨qK ae⟩,⟨qK ag⟩,⟨qB⟩⟩
  have H':=aM H;clear H;go_wp2;go_meet;exact⟨_,((aa == 9)),qZ,H',⟨by first|omega|exact Nat.le_refl _⟩,⟨qK ae⟩,⟨qK ag⟩,⟨qB⟩⟩
 clear aT;try clear c1;try clear bL
 obtain⟨kq,aF,rfl,HA,HJ2,ae,ag,HB⟩:=hcut
 cases kq with
 | zero=>exact absurd HA.out (by simp [acG])
 | succ bT =>
  have H:=HA.out;clear HA;simp only [acG] at H;replace H:=jB H;rcases H with ⟨rfl,H⟩ | ⟨rfl,H⟩
  ·replace H:=jI H;obtain⟨bi,H⟩:=H;replace H:=jI H;obtain⟨bn,H⟩:=H;obtain⟨rfl,rfl,rfl,rfl,rfl⟩:=oJ5 H;have bq:=ah.out;have bu:=ai.out;have bM:=jz5 ae;have aG:0<=(af:Int):=qD;have aH:af < (l1.length:Int):=qD;obtain⟨bv,aX,ay⟩:=Kd.at_int HR1.out af aG aH;cases aX;replace ay:=kx HB ay;replace aG:=eq_true aG;replace aH:=eq_true aH;have bN:=jz5 ag;go_wp2;refine bodyPost_ret (results_cell_row rfl _ _ ax 31 #[iV aa,iV au,iV (rd l1 af),iV aj,iV av] (0,0) _ rfl (qF ag) underlying31 rfl (by kernel_rfl)) rfl ?_;exact⟨qW,qB⟩
  replace H:=jE H;rcases H with ⟨aQ,aR,H⟩ | ⟨c17,aQ,aR,H⟩
  ·replace H:=jI H;obtain⟨bz,H⟩:=H;replace H:=jI H;obtain⟨bA,H⟩:=H;replace H:=jI H;obtain⟨bB,H⟩:=H;replace H:=jI H;obtain⟨bC,H⟩:=H;obtain⟨rfl,rfl,rfl,rfl,rfl⟩:=oJ5 H;have bD:=ah.out;have bE:=ai.out;have bO:=jz5 ae;have aI:0<=(af:Int):=qD;have aJ:af < (l1.length:Int):=qD;obtain⟨aD,aY,az⟩:=Kd.at_int HR1.out af aI aJ;cases aY;replace az:=kx HB az;replace aI:=eq_true aI;replace aJ:=eq_true aJ;have aK:0<=(aj:Int):=qD;have aL:aj < (l1.length:Int):=qD;obtain⟨aS,aZ,ak⟩:=Kd.at_int HR1.out aj aK aL;obtain rfl:aD=aS:=(by injection aZ);have aA:aD.block≠aB:=kn ak aN;replace ak:=kx HB ak;replace ak:=(cell_far (p:=⟨aB,2,none⟩) (kf (aA)) (iV (rd l1 af))).trans ak;clear aA;replace aK:=eq_true aK;replace aL:=eq_true aL;have bP:=jz5 ag;go_wp2;refine bodyPost_ret (results_cell_row rfl _ _ ax 31 #[iV aa,iV au,iV (rd l1 af),iV (rd l1 aj),iV av] (0,0) _ rfl (qF ag) underlying31 rfl (by kernel_rfl)) rfl ?_;exact⟨qW,qB⟩
  obtain⟨rfl,rfl,rfl,rfl,rfl⟩:=oJ5 H;have bF:=ah.out;have bG:=ai.out;have bQ:=jz5 ae;have bR:=jz5 ag;go_wp2;refine bodyPost_ret (results_cell_row rfl _ _ ax 31 #[iV aa,iV au,iV af,iV aj,iV av] (0,0) _ rfl (qF ag) underlying31 rfl (by kernel_rfl)) rfl ?_;exact⟨qW,qB⟩
end Go.Proofs.YtdkkdiiceaomaaaGreat.M
namespace Go.Proofs.YtdkkdiiceaomaaaGreat.M
open Go.Proofs.Tryz Go.RowKit Go.Proofs.YtdkkdiiceaomaaaGreatW.PrintWords Go.Proofs.YtdkkdiiceaomaaaGreatW.PrintLast Go.Proofs.YtdkkdiiceaomaaaGreatW.PrintMore Kd
attribute [local go_sem] aas aaq aaH aaG aaj aai aar aap
def adk:Nat->List S31->List S31->List (List Int)->Int->Option ((List S31) × Bool)
 | 0,_,_,_,_=>none
 | k+1,x0,x4,x5,x6=>if x6 < (x0.length:Int) then (if 0<=x6 then (if x6 < (x5.length:Int) then ((ait k ((aa0 x0 x6).f0) ((aa0 x0 x6).f1) ((aa0 x0 x6).f2) ((aa0 x0 x6).f3) ((aa0 x0 x6).f4) (ab1 x5 x6)).bind fun aJ=>(if x4.length < 3518437208883 then (adk k x0 (x4 ++ [(⟨aJ.1,aJ.2.1,aJ.2.2.1,aJ.2.2.2.1,aJ.2.2.2.2⟩:S31)]) x5 (wrap64 (x6+1))) else (none))) else (none)) else (none)) else (some (x4,true))
def Saj.f (k:Nat) (l0:List S31):Option ((List S31) × Bool):=(some (([]:List S31):List S31)).bind fun bA=>((Sag.f k l0).bind fun bI=>(if bI=true then ((Sai.f k l0).bind fun aC=>(adk k l0 bA aC 0)) else (some (bA,false))))
theorem aha:∀ k,(∀ y0 y1 y2 y3,LeO (adk k y0 y1 y2 y3) (adk (k+1) y0 y1 y2 y3))
 | 0=>fun _ _ _ _ r h=>by simp [adk] at h
 | k+1=>by
  have dh:=aha k;have m0:=@Sag.mono;have m1:=@Sai.mono;have m2:=@Sbb.mono
  intros;unfold adk;exact mM
theorem Saj.mono:∀ a0 k,LeO (Saj.f k a0) (Saj.f (k+1) a0):=by
 intro a0 k;have dh:=aha k;unfold Saj.f;have m0:=@Sag.mono;have m1:=@Sai.mono;have m2:=@Sbb.mono;exact mM
def aoC:Bool × List (List Nat × List Nat):=(true,[([],[]),([],[]),([],[]),([1,2],[1,2]),([3],[3]),([],[]),([],[]),([5,6],[5,6]),([7],[7]),([4,8],[4,8]),([9],[9]),([0,10,9],[0,10]),([11,11,0,1,2,3,4,5,6,7,8,9,10,11],[0,11])])
def aqQ:List Nat:=[0,0,0,6,14,0,0,96,224,510,1022,2047,4095]
theorem anU:ad7 .any (opsOf f23 8)=aoC:=by kernel_rfl
theorem amB:abl aoC.2 aqQ=true:=by kernel_rfl
theorem Saj.calls (k:Nat) (A0:Option Addr) (c0:Nat) (l0 r1:List S31) (r2:Bool) (w:World) (hr0:Kd.C k31 w A0 l0.length l0) (hc0:l0.length<=c0) (h:Saj.f k l0=some (r1,r2)) :
  Calls prog 23 #[.slice A0 l0.length c0] w fun e w'=>∃ bZ:Value,e = .returned (.tuple #[bZ,.bool r2])/\Kd.R k31 31 w' w.heap.size (fun _=>True) bZ r1/\Below w.heap.size w w':=by
 have di:=underlying31;have bP:=aM hr0;have bR:=aM hc0;clear hr0 hc0;have HB:=jb_ w;have H:=h;unfold Saj.f at H;clear h;obtain⟨bA,aG⟩:=ky ([]:List S31);replace H:=kv aG H;obtain⟨bI,A2,H⟩:=qE H;try dsimp only at H
 replace H:=jB H;rcases H with ⟨rfl,H⟩ | ⟨rfl,H⟩
 ·obtain⟨aC,A4,H⟩:=qE H;try dsimp only at H
  have H':=aM H;clear H;go_enter func23,ntmps23;go_wp2_with (first|((with_reducible refine jd 7 ?_);refine jV k31 31 ([]:List S31) [] (aa8 _ _) ?_;intro bS w5 bJ hb;replace bJ:=kr aG bJ;have ae:=kL bJ;replace HB:=kH hb;clear hb bJ)|((with_reducible refine jc 44 9 ?_);refine jK func44 (Sag.calls k _ _ l0 true _ (kb bP HB) bR.out A2.out) ?_;intro w7 hb;replace ae:=kR ae hb;replace HB:=kH hb;clear hb)|((with_reducible refine jc 52 13 ?_);refine jM func52 (Sai.calls k _ _ l0 aC _ (kb bP HB) bR.out A4.out) ?_;rintro bT w8 ⟨ho0,hb⟩;have bK:=aM (S_lower ho0 (aa4 qB));replace ae:=kR ae hb;replace HB:=kH hb;clear hb;(try clear ho0)));go_loopg [4,6] k (fun kq v4 v6 w'=>∃ (aW:List S31) (aa:Int),v6 = iV aa/\aa1 (adk kq l0 aW aC aa=some (r1,r2))/\aa1 (kq<=k)/\aa1 (Kd.R k31 31 w' w.heap.size (fun _=>True) v4 aW)/\aa1 (Kd.S (Kd.slice 3 (Kd.int .i64)) 28 w' w.heap.size (fun _=>True) bT aC)/\aa1 (Below w.heap.size w w'));case atStart=>exact⟨(bA),(0),qZ,H',⟨Nat.le_refl _⟩,⟨qR ae⟩,⟨qS bK⟩,⟨qB⟩⟩
  clear H';obtain⟨aW,aa,rfl,HA,cu,aD,ai,HB⟩:=hrel;rcases gk with _|k1
  ·exact absurd HA.out (by simp [adk])
  have H:=HA.out;clear HA;simp only [adk] at H;replace H:=jD H;rcases H with ⟨bU,H⟩ | ⟨bU,H⟩
  ·replace H:=jI H;obtain⟨cz,H⟩:=H;replace H:=jI H;obtain⟨cB,H⟩:=H;obtain⟨⟨aX,aY,aZ,bg,bi⟩,dn,H⟩:=qE H;try dsimp only at H
   replace H:=jL H;obtain⟨bL,H⟩:=H;obtain⟨bV,bn⟩:=ky ((aW ++ [(⟨aX,aY,aZ,bg,bi⟩:S31)]):List S31);replace H:=kv bn H;have H':=aM H;clear H;try go_wp2
   replace aD:=aM (R_drew aD.out);replace ai:=aM (S_drew ai.out);replace HB:=aM (aah HB.out);have bE:0<=(aa:Int):=qD;have bF:aa < (l0.length:Int):=qD;obtain⟨af,bW,aj,ak,au,av,ax⟩:=aaQ bP.out aa bE bF;have aK:=ax;have aN:=av;have aQ:=au;have aR:=ak;have aT:=aj;cases bW;replace aj:=kx HB aj;replace ak:=kx HB ak;replace au:=kx HB au;replace av:=kx HB av;replace ax:=kx HB ax;replace bE:=eq_true bE;replace bF:=eq_true bF;obtain⟨dw,dx,bM⟩:=S_slice ai.out;(first|subst bM|(injection bM with cK dz cO;have dA:=cK.symm;have dB:=cO.symm;clear cK dz cO;subst dA;subst dB));have bB:0<=(aa:Int):=qD;have bC:aa < (aC.length:Int):=qD;obtain⟨bN,bq,bu,bX,aH,aU,aV⟩:=afr (S_reads' ai.out).2.2 aa bB bC;cases bX;obtain⟨df,bG,bH,bv⟩:=S_get ai.out [] aa bB (by first|exact bC|exact qD|(have e_:=(S_reads' ai.out).1;omega));obtain⟨bQ,rfl,aI⟩:=bH;have ag:=bv 0 _ rfl;rw [Nat.add_zero,show ((Kd.slice 3 (Kd.int .i64))).sz=1 from rfl,Nat.mul_one] at ag;replace ag:=Option.some.inj (ag.symm.trans aH);rw [ag] at aI;have ah:=aM (show Kd.R (Kd.int .i64) 3 _ _ _ _ (ab1 aC aa) from aI);clear ag aI;clear bv bG;have ay:=aM aV;have bD:=aM aU;clear aV aU;replace bB:=eq_true bB;replace bC:=eq_true bC;refine abx (n:=13) (S:=fun w'=>w'.cell? (af.add ((aa).toNat*5))=some (iV ((aa0 l0 aa).f0))/\w'.cell? ⟨(af.add ((aa).toNat*5)).block,(af.add ((aa).toNat*5)).off+1,none⟩=some (iV ((aa0 l0 aa).f1))/\w'.cell? ⟨(af.add ((aa).toNat*5)).block,(af.add ((aa).toNat*5)).off+2,none⟩=some (iV ((aa0 l0 aa).f2))/\w'.cell? ⟨(af.add ((aa).toNat*5)).block,(af.add ((aa).toNat*5)).off+3,none⟩=some (iV ((aa0 l0 aa).f3))/\w'.cell? ⟨(af.add ((aa).toNat*5)).block,(af.add ((aa).toNat*5)).off+4,none⟩=some (iV ((aa0 l0 aa).f4))/\w'.cell? (bN.add (aa).toNat)=some (.slice bq (ab1 aC aa).length bu)) (ds:=[10,11]) (jb 13 0) (by kernel_rfl) rfl rfl ⟨(kx HB aT),(kx HB aR),(kx HB aQ),(kx HB aN),(kx HB aK),aH⟩ (fun hHeld=>?_);refine ab7 anU amB (fun HT_ HW_=>?_);generalize wr.drew=dD at aD ai HB ah ay aj ak au av ax aH hHeld ⊢;refine jp 0 20 (jb 13 1) ?_;refine jp 1 21 (jb 13 3) ?_;refine jp 2 22 (jb 13 7) ?_;refine jp 3 23 (jb 13 15) ?_;refine jp 5 25 (jb 13 47) ?_;refine jp 6 26 (jb 13 111) ?_;refine jp 7 27 (jb 13 239) ?_;refine jt 4 24 (jb 13 255) ?_;refine jt 8 28 (jb 13 511) ?_;refine ad3 (i:=9) (N:=some 29) (jb 13 1023) rfl rfl (ab0 HT_.out (by kernel_rfl)) (by decide) (fun K hK=>?_);refine abm func53 (by kernel_rfl) rfl #[.agg #[iV ((aa0 l0 aa).f0),iV ((aa0 l0 aa).f1),iV ((aa0 l0 aa).f2),iV ((aa0 l0 aa).f3),iV ((aa0 l0 aa).f4)],.slice bq (ab1 aC aa).length bu] (by rfl) rfl rfl qM ?_
   with_reducible refine (am5 k1 ((aa0 l0 aa).f0) ((aa0 l0 aa).f1) ((aa0 l0 aa).f2) ((aa0 l0 aa).f3) ((aa0 l0 aa).f4) _ _ (ab1 aC aa) aX aY aZ bg bi _ ?az ?aA dn.out).mono ?_
   (case az=>repeat (first|exact (kC ay.out)|(with_reducible refine C_alloc ?_ _)|(with_reducible refine C_drewN ?_ _)|(with_reducible refine C_drew ?_)));(case aA=>exact bD.out);rintro e w16 ⟨rfl,hb⟩;have bY:=(hb.cell (World.block_lt_of_cell? _ _ (hHeld.2.2.2.2.2))).trans (hHeld.2.2.2.2.2);refine⟨_,rfl,?_⟩;replace aD:=kR aD hb;replace ai:=kS ai hb;replace ah:=kR ah hb;replace ay:=kQ ay hb;replace HB:=kH hb;(try clear hb);(try clear hb2);(try clear hk);(try clear hi);refine hK.out _ _ ⟨(kx HB aT),(kx HB aR),(kx HB aQ),(kx HB aN),(kx HB aK),bY⟩ (fun hHeld=>?_);clear hK K;refine aau (a':=?_) ?_ ?_;rotate_left
   ·show Act.put _ (some 29) _=_
    simp only [Act.put,List.setIfInBounds_toArray,List.set_cons_zero,List.set_cons_succ,aaw,aaA];rfl
   refine ai7 (i:=10) (N:=some 30) (jb 13 2047) rfl rfl (ab0 HT_.out (by kernel_rfl)) (by decide) (fun K hK=>?_);refine ao4 (w1:=?_) (v:=?_) (by rfl) rfl ?_ ?_;rotate_left 2
   ·go_simp;constructor
    ·rfl
    rfl
   refine hK.out _ _ ?_;clear hK K;refine aau (a':=?_) ?_ ?_;rotate_left
   ·show Act.put _ (some 30) _=_
    simp only [Act.put,List.setIfInBounds_toArray,List.set_cons_zero,List.set_cons_succ,aaw,aaA];rfl
   refine ai7 (i:=11) (N:=some 31) (jb 13 4095) rfl rfl (ab0 HT_.out (by kernel_rfl)) (by decide) (fun K hK=>?_);refine R_append_step k31 (w0:=w) w.heap.size (by rfl) (.tmp 20) (.tmp 30) 23 31 (.agg #[(iV 0),(iV 0),(iV 0),(iV 0),(iV 0)]) 40 rfl underlying23 abb rfl (by decide) (by omega) u4 aW (⟨aX,aY,aZ,bg,bi⟩:S31) [iV aX,iV aY,iV aZ,iV bg,iV bi] (fun _=>True) (fun _=>False) rfl rfl ?aP (fun _ hk=>hk.elim) ?aF ?aO ?aB ?aS ?aL ?_;(case aP=>exact aaV _ _ _ (⟨aX,aY,aZ,bg,bi⟩:S31));(case aB=>exact qB);(case aF=>exact (fun _ _=>trivial));(case aO=>exact (qR aD));(case aS=>exact (aa4 qB));(case aL=>have:=bL.out;omega);intro dC dE ho hb hg hat;rw [<- bn.out] at ho;have bO:=aM ho;replace ai:=aM (S_over' (qS ai) (R_typed (qR aD)) (by decide) hg);replace ah:=aM (R_over' (qR ah) (R_typed (qR aD)) (by decide) hg);replace HB:=aM hb;clear aD;clear ho hb hg hat;refine hK.out _ _ ?_;clear hK K;refine aau (a':=?_) ?_ ?_;rotate_left
   ·show Act.put _ (some 31) _=_
    simp only [Act.put,List.setIfInBounds_toArray,List.set_cons_zero,List.set_cons_succ,aaw,aaA];rfl
   refine jp 12 4 (jb 13 8191) ?_;refine ac6 (abu HT_.out (by kernel_rfl)) ?_;try go_wp2
   go_roundg k1;case measure=>have:=cu.out;omega
   exact⟨(bV),(wrap64 (aa+1)),qZ,H',⟨by have:=cu.out;omega⟩,⟨qR bO⟩,⟨qS ai⟩,⟨qB⟩⟩
  obtain⟨rfl,rfl⟩:=oJ2 H;go_wp2;go_ret2;exact⟨_,qW,qR aD,qB⟩
 obtain⟨rfl,rfl⟩:=oJ2 H;go_enter func23,ntmps23;go_wp2_with (first|((with_reducible refine jd 7 ?_);refine jV k31 31 ([]:List S31) [] (aa8 _ _) ?_;intro bS dF bz hb;replace bz:=kr aG bz;have ae:=kL bz;replace HB:=kH hb;clear hb bz)|((with_reducible refine jc 44 9 ?_);refine jK func44 (Sag.calls k _ _ l0 false _ (kb bP HB) bR.out A2.out) ?_;intro dG hb;replace ae:=kR ae hb;replace HB:=kH hb;clear hb));go_ret2;exact⟨_,qW,qR ae,qB⟩
end Go.Proofs.YtdkkdiiceaomaaaGreat.M
namespace Go.Proofs.YtdkkdiiceaomaaaGreat.PM
structure Q where
 op:Int
 dst:Int
 a:Int
 b:Int
 n:Int
def rg (x:Int):Prop:=0<=x/\x<=11
def wd (x:Int):Prop:=-2147483648<=x/\x<=2147483647
def QV (q:Q) (many:Int):Prop :=
 (q.op=1/\rg q.dst/\q.a=0/\q.b=0/\wd q.n)\/(q.op=2/\rg q.dst/\rg q.a/\q.b=0/\q.n=0)\/(q.op=3/\rg q.dst/\rg q.a/\rg q.b/\1<=q.n/\q.n<=12) \/
 (q.op=4/\q.dst=0/\q.a=0/\q.b=0/\0<=q.n/\q.n < many)\/(q.op=5/\q.dst=0/\rg q.a/\q.b=0/\0<=q.n/\q.n < many) \/
 (q.op=6/\q.dst=0/\rg q.a/\q.b=0/\0<=q.n/\q.n<=2)\/(q.op=7/\rg q.dst/\q.a=0/\q.b=0/\0<=q.n/\q.n<=2) \/
 (q.op=9/\q.dst=0/\rg q.a/\q.b=0/\q.n=0)\/((q.op=8\/q.op=10)/\q.dst=0/\q.a=0/\q.b=0/\q.n=0)
instance (x:Int):Decidable (rg x):=by unfold rg;infer_instance
instance (x:Int):Decidable (wd x):=by unfold wd;infer_instance
instance (q:Q) (many:Int):Decidable (QV q many):=by unfold QV;infer_instance
def rgB (x:Int):Bool:=decide (rg x)
def wdB (x:Int):Bool:=decide (wd x)
def qvB (q:Q) (many:Int):Bool:=decide (QV q many)
theorem rgB_iff {x:Int}:rgB x=true↔0<=x/\x<=11:=by unfold rgB rg;exact decide_eq_true_iff
theorem wdB_iff {x:Int}:wdB x=true↔-2147483648<=x/\x<=2147483647:=by unfold wdB wd;exact decide_eq_true_iff
theorem qvB_iff {q:Q} {many:Int}:qvB q many=true↔QV q many:=by unfold qvB;exact decide_eq_true_iff
def rgU (x:Int) (use:Bool):Bool:=if use then rgB x else x == 0
def rgs (d a b:Int) (ud ua ub:Bool):Bool:=rgU d ud && rgU a ua && rgU b ub
def q0:Q:=⟨0,0,0,0,0⟩
def at_ (c:List Q) (i:Nat):Q:=c.getD i q0
def CV (c:List Q):Prop:=1<=c.length/\c.length<=600/\(∀ i,i < c.length->QV (at_ c i) c.length)/\((at_ c (c.length - 1)).op=10\/(at_ c (c.length - 1)).op=4)
/-- The indexes that may follow,in the order of the text. -/
def nx (q:Q) (i:Nat):List Nat :=
 if q.op=10 then [] else if q.op=4 then [q.n.toNat] else if q.op=5 then (if q.n < i+1 then [q.n.toNat,i+1] else if (i:Int)+1 < q.n then [i+1,q.n.toNat] else [i+1]) else [i+1]
theorem nx_lt {c:List Q} (h:CV c) {i j:Nat} (hi:i < c.length) (hj:j∈nx (at_ c i) i):j < c.length:=by
 obtain⟨_,_,hv,hl⟩:=h
 have v:=hv i hi
 have hlast:i+1 < c.length\/(at_ c i).op=10\/(at_ c i).op=4:=by
  rcases Nat.lt_or_ge (i+1) c.length with h|h
  ·exact .inl h
  have:i=c.length - 1:=by omega
  exact .inr (this ▸ hl)
 unfold QV at v
 unfold nx at hj
 (repeat' split at hj) <;> simp at hj <;> omega
def sets (q:Q):Int:=if q.op=1\/q.op=2\/q.op=3\/q.op=7 then q.dst else -1
def uses (q:Q) (r:Nat):Prop:=((q.op=2\/q.op=5\/q.op=6\/q.op=9)/\q.a=r)\/(q.op=3/\(q.a=r\/q.b=r))
instance (q:Q) (r:Nat):Decidable (uses q r):=by unfold uses;infer_instance
/-- Register r is live before the quad i. -/
inductive Live (c:List Q):Nat->Nat->Prop
 | use {i r:Nat}:i < c.length->uses (at_ c i) r->Live c i r
 | flow {i j r:Nat}:i < c.length->sets (at_ c i)≠r->j∈nx (at_ c i) i->Live c j r->Live c i r
/-- The quad i is reached from the quad 0. -/
inductive Reach (c:List Q):Nat->Prop
 | zero:Reach c 0
 | step {i j:Nat}:Reach c i->i < c.length->j∈nx (at_ c i) i->Reach c j
/-- A table of flags that is sound and closed is the table of liveness. -/
theorem live_of_closed {c:List Q} {T:Nat->Nat->Prop} (sound:∀ i r,i < c.length->T i r->Live c i r)
  (use:∀ i r,i < c.length->uses (at_ c i) r->T i r) (flow:∀ i j r:Nat,i < c.length->sets (at_ c i)≠r->j∈nx (at_ c i) i->T j r->T i r) (i r:Nat) (hi:i < c.length):T i r↔Live c i r:=by
 refine⟨sound i r hi,fun h=>?_⟩
 induction h with
 | use h1 h2=>exact use _ _ h1 h2
 | flow h1 h2 h3 h4 ih =>
  refine flow _ _ _ h1 h2 h3 (ih ?_)
  cases h4 <;> assumption
end Go.Proofs.YtdkkdiiceaomaaaGreat.PM
namespace Go.Proofs.YtdkkdiiceaomaaaGreat.M
open Go.Proofs.Tryz Go.RowKit Go.Proofs.YtdkkdiiceaomaaaGreatW.PrintWords Go.Proofs.YtdkkdiiceaomaaaGreatW.PrintLast Go.Proofs.YtdkkdiiceaomaaaGreatW.PrintMore PM
theorem ae9 {a b:Bool} (h:a=b):Ending.returned (.bool a) = .returned (.bool b):=by rw [h]
theorem aoR {P:Program} {f:FuncId} {args:Array Value} {w:World} {n:Nat} {v:Value} (h:Calls P f args (w.drewN n) fun e w'=>e = .returned v/\w.drewN n=w'):Calls P f args (w.drewN n) fun e w''=>e = .returned v/\∃ m,w''=w.drewN m :=
 h.mono fun _ _ h=>⟨h.1,n,h.2.symm⟩
theorem akD (r:Int) (w:World):Calls prog 57 #[iV r] w fun e w'=>e = .returned (.bool (rgB r))/\w=w':=by
 go_enter func57,ntmps57;go_wp2
 all_goals
  go_ret;refine⟨ae9 (Bool.eq_iff_iff.2 ?_),rfl⟩;simp only [decide_eq_true_eq,Bool.and_eq_true,Bool.false_eq_true,false_iff,rgB_iff];omega
theorem ari (n:Int) (w:World):Calls prog 81 #[iV n] w fun e w'=>e = .returned (.bool (wdB n))/\w=w':=by
 go_enter func81,ntmps81;go_wp2
 all_goals
  go_ret;refine⟨ae9 (Bool.eq_iff_iff.2 ?_),rfl⟩;simp only [Bool.and_eq_true,decide_eq_true_eq,wdB_iff,Bool.false_eq_true,false_iff];omega
theorem vop (n:Int) (w:World):Calls prog 82 #[iV n] w fun e w'=>e = .returned (.bool (decide (1<=n/\n<=12)))/\w=w':=by
 go_enter func82,ntmps82;go_wp2
 all_goals
  go_ret;refine⟨ae9 (Bool.eq_iff_iff.2 ?_),rfl⟩;simp only [Bool.and_eq_true,decide_eq_true_eq,Bool.false_eq_true,false_iff];omega
def ao2 (aa ae af ag ah a1:Int):Option Bool:=some (qvB ⟨aa,ae,af,ag,ah⟩ a1)
set_option maxHeartbeats 4000000 in
theorem Sa3.calls (op dst a b n many:Int) (r:Bool) (w:World) (h:ao2 op dst a b n many=some r) :
  Calls prog 47 #[.agg #[iV op,iV dst,iV a,iV b,iV n],iV many] w fun e w'=>e = .returned (.bool r)/\Below w.heap.size w w':=by
 unfold ao2 at h;injection h with h
 subst h;have cd:=fun W=>akD dst W
 have ca:=fun W=>akD a W
 have cb:=fun W=>akD b W
 have cw:=fun W=>ari n W
 have co:=fun W=>vop n W
 go_enter func47,ntmps47;go_wp2;go_quiet (first|(go_at_call 57;with_reducible exact aoR (cd _))|(go_at_call 57;with_reducible exact aoR (ca _))|(go_at_call 57;with_reducible exact aoR (cb _)));go_wp2_with (first|(go_at_call 81;(with_reducible refine (cw _).mono ?_);rintro e w1 ⟨rfl,rfl⟩)|(go_at_call 82;(with_reducible refine (co _).mono ?_);rintro e w1 ⟨rfl,rfl⟩))
 all_goals
  go_ret;refine⟨ae9 ?_,by repeat (first|(with_reducible exact Below.refl _ _)|(with_reducible apply aax)|(with_reducible apply aan)|(with_reducible apply aah))⟩;rw [Bool.eq_iff_iff];clear cd ca cb cw co;try simp only [rgB_iff,wdB_iff,Bool.eq_false_iff,ne_eq,beq_iff_eq] at *
  simp only [*,qvB_iff,QV,rg,wd,rgB_iff,wdB_iff,beq_iff_eq,Bool.and_eq_true,decide_eq_true_eq,Bool.false_eq_true,Int.reduceEq,false_and,or_false,false_or,or_self,true_and,and_true,and_false,false_iff,true_iff,iff_self,not_false_eq_true,reduceIte];try (first|omega|(simp only [and_false,not_false_eq_true];done))
end Go.Proofs.YtdkkdiiceaomaaaGreat.M
namespace Go.Proofs.YtdkkdiiceaomaaaGreat.M
open Go.Proofs.Tryz Go.RowKit Go.Proofs.YtdkkdiiceaomaaaGreatW.PrintWords Go.Proofs.YtdkkdiiceaomaaaGreatW.PrintLast Go.Proofs.YtdkkdiiceaomaaaGreatW.PrintMore
attribute [local go_sem] aas aaq aaH aaG aaj aai aar aap
mutual
def afo:Nat->List S31->Bool->Option (Bool)
 | 0,_,_=>none
 | k+1,x0,bB=>if bB=true then (some false) else (afn k x0 x0 (x0.length:Int) 0)
def afn:Nat->List S31->List S31->Int->Int->Option (Bool)
 | 0,_,_,_,_=>none
 | k+1,x0,aO,bn,aL=>if aL < bn then (if 0<=aL then (if aL < (aO.length:Int) then ((ao2 ((aa0 aO aL).f0) ((aa0 aO aL).f1) ((aa0 aO aL).f2) ((aa0 aO aL).f3) ((aa0 aO aL).f4) (x0.length:Int)).bind fun aN=>(if aN=true then (afn k x0 aO bn (wrap64 (aL+1))) else (some false))) else (none)) else (none)) else (if 0<=(wrap64 ((x0.length:Int) - 1)) then (if (wrap64 ((x0.length:Int) - 1)) < (x0.length:Int) then (if ((aa0 x0 (wrap64 ((x0.length:Int) - 1))).f0)=10 then (some true) else (some (((aa0 x0 (wrap64 ((x0.length:Int) - 1))).f0) == 4))) else (none)) else (none))
end
def Sa0.f (k:Nat) (l0:List S31):Option (Bool):=if (l0.length:Int) < 1 then (afo k l0 true) else (afo k l0 (decide ((l0.length:Int) > 600)))
theorem Sa0.calls (k:Nat) (A0:Option Addr) (c0:Nat) (l0:List S31) (r:Bool) (w:World) (hr0:Kd.C k31 w A0 l0.length l0) (hc0:l0.length<=c0) (h:Sa0.f k l0=some r) :
  Calls prog 20 #[.slice A0 l0.length c0] w fun e w'=>e = .returned (.bool r)/\Below w.heap.size w w':=by
 have bD:=underlying31;have aU:=aM hr0;have bG:=aM hc0;clear hr0 hc0;have HB:=jb_ w;have H:=h;unfold Sa0.f at H;clear h;have aV:=aM H;clear H;go_enter func20,ntmps20;go_upto_region 1 with (fail);go_cut [13] (fun v13 wc=>∃ (kq:Nat) (aH:Bool),v13 = .bool aH/\aa1 (afo kq l0 aH=some r)/\aa1 (kq<=k)/\aa1 (Below w.heap.size w wc))
 case first =>
  have H:=aV.out;clear aV;by_cases c3:(l0.length:Int) < 1
  ·rw [if_pos c3] at H;have aI:=decide_eq_true c3;have aW:decide (l0.length < 1)=true:=decide_eq_true (by omega);clear c3;(first|rw [aI]|(simp only [aaw,aaA];rw [aI])|skip);have H':=aM H;clear H;go_wp2;go_meet;exact⟨_,(true),qZ,H',⟨by first|omega|exact Nat.le_refl _⟩,⟨qB⟩⟩
  rw [if_neg c3] at H;have aI:=decide_eq_false c3;have aW:decide (l0.length < 1)=false:=decide_eq_false (by omega);clear c3;(first|rw [aI]|(simp only [aaw,aaA];rw [aI])|skip);have H':=aM H;clear H;go_wp2;go_meet;exact⟨_,(decide ((l0.length:Int) > 600)),qZ,H',⟨by first|omega|exact Nat.le_refl _⟩,⟨qB⟩⟩
 clear aV;obtain⟨kq,aH,rfl,HA,bq,HB⟩:=hcut
 cases kq with
 | zero=>exact absurd HA.out (by simp [afo])
 | succ bu =>
  have H:=HA.out;clear HA;simp only [afo] at H;replace H:=jB H;rcases H with ⟨rfl,H⟩ | ⟨rfl,H⟩
  ·obtain rfl:=oJ H;go_wp2;go_ret;exact⟨qW,qB⟩
  have H':=aM H;clear H;go_wp2;go_loopg [16] bu (fun kq v16 w'=>∃ (aa:Int),v16 = iV aa/\aa1 (afn kq l0 l0 (l0.length:Int) aa=some r)/\aa1 (kq<=bu)/\aa1 (Below w.heap.size w w'));case atStart=>exact⟨(0),qZ,H',⟨Nat.le_refl _⟩,⟨qB⟩⟩
  clear H';obtain⟨aa,rfl,HA,bv,HB⟩:=hrel;rcases gk with _|k2
  ·exact absurd HA.out (by simp [afn])
  have H:=HA.out;clear HA;simp only [afn] at H;replace H:=jD H;rcases H with ⟨aX,H⟩ | ⟨aX,H⟩
  ·replace H:=jI H;obtain⟨bE,H⟩:=H;replace H:=jI H;obtain⟨bF,H⟩:=H;obtain⟨aN,A8,H⟩:=qE H;try dsimp only at H
   replace H:=jB H;rcases H with ⟨rfl,H⟩ | ⟨rfl,H⟩
   ·have H':=aM H;clear H;have az:0<=(aa:Int):=qD;have aA:aa < (l0.length:Int):=qD;obtain⟨aP,aJ,ae,af,ag,ah,ai⟩:=aaQ aU.out aa az aA;cases aJ;replace ae:=kx HB ae;replace af:=kx HB af;replace ag:=kx HB ag;replace ah:=kx HB ah;replace ai:=kx HB ai;replace az:=eq_true az;replace aA:=eq_true aA;go_wp2_with (first|((with_reducible refine jd 4 ?_);(try (refine aal (by rfl) ?_;dsimp only));refine jY _ 31 ?_;intro aG hg aY ay hb;have aQ:=kG hg;replace HB:=kH hb;clear hb hg;have aZ:=jz5 ay)|((with_reducible refine jc 47 23 ?_);refine jG func47 #[.agg #[iV ((aa0 l0 aa).f0),iV ((aa0 l0 aa).f1),iV ((aa0 l0 aa).f2),iV ((aa0 l0 aa).f3),iV ((aa0 l0 aa).f4)],iV (l0.length:Int)] ?_;refine (Sa3.calls _ _ _ _ _ _ _ _ (aa1.out (by assumption))).mono ?_;rintro e bg ⟨rfl,hb⟩;refine⟨_,rfl,?_⟩;replace ay:=aM (aaO (g:=aG) (qF ay) hb);replace HB:=kH hb;clear hb));go_roundg k2;case measure=>have:=bq.out;have:=bv.out;omega
    exact⟨_,qZ,H',⟨by have:=bq.out;have:=bv.out;omega⟩,⟨qB⟩⟩
   obtain rfl:=oJ H;have az:0<=(aa:Int):=qD;have aA:aa < (l0.length:Int):=qD;obtain⟨aP,aJ,ae,af,ag,ah,ai⟩:=aaQ aU.out aa az aA;cases aJ;replace ae:=kx HB ae;replace af:=kx HB af;replace ag:=kx HB ag;replace ah:=kx HB ah;replace ai:=kx HB ai;replace az:=eq_true az;replace aA:=eq_true aA;go_wp2_with (first|((with_reducible refine jd 4 ?_);(try (refine aal (by rfl) ?_;dsimp only));refine jY _ 31 ?_;intro aG hg aY ay hb;have aQ:=kG hg;replace HB:=kH hb;clear hb hg;have aZ:=jz5 ay)|((with_reducible refine jc 47 23 ?_);refine jG func47 #[.agg #[iV ((aa0 l0 aa).f0),iV ((aa0 l0 aa).f1),iV ((aa0 l0 aa).f2),iV ((aa0 l0 aa).f3),iV ((aa0 l0 aa).f4)],iV (l0.length:Int)] ?_;refine (Sa3.calls _ _ _ _ _ _ _ _ (aa1.out (by assumption))).mono ?_;rintro e bg ⟨rfl,hb⟩;refine⟨_,rfl,?_⟩;replace ay:=aM (aaO (g:=aG) (qF ay) hb);replace HB:=kH hb;clear hb));go_ret;exact⟨qW,qB⟩
  obtain⟨aB,aF⟩:∃ j_:Int,(wrap64 ((l0.length:Int) - 1))=j_:=⟨_,rfl⟩
  replace H:(if 0<=(aB) then (if (aB) < (l0.length:Int) then (if ((aa0 l0 (aB)).f0)=10 then (some true) else (some (((aa0 l0 (aB)).f0) == 4))) else (none)) else (none))=some r:=by first|(rw [aF] at H;exact H)|(simp only [aF] at H ⊢;exact H)
  have bi:(IntKind.i64.wrap ((l0.length:Int) - 1))=aB:=(aaw _).trans aF;replace H:=jI H;obtain⟨bz,H⟩:=H;replace H:=jI H;obtain⟨bA,H⟩:=H;replace H:=jE H;rcases H with ⟨aS,aT,H⟩ | ⟨c19,aS,aT,H⟩
  ·obtain rfl:=oJ H;have aC:0<=((aB):Int):=qD;have aD:(aB) < (l0.length:Int):=qD;obtain⟨aR,aK,aj,ak,au,av,ax⟩:=aaQ aU.out (aB) aC aD;cases aK;replace aj:=kx HB aj;replace ak:=kx HB ak;replace au:=kx HB au;replace av:=kx HB av;replace ax:=kx HB ax;replace aC:=eq_true aC;replace aD:=eq_true aD;go_wp2;go_ret;exact⟨by first|rfl|(simp [aaF,aaE] <;> rfl)|(simp only [<- aF];first|rfl|(simp [aaF,aaE] <;> rfl))|(simp [*,aaF,aaE] <;> rfl),qB⟩
  obtain rfl:=oJ H;have aC:0<=((aB):Int):=qD;have aD:(aB) < (l0.length:Int):=qD;obtain⟨aR,aK,aj,ak,au,av,ax⟩:=aaQ aU.out (aB) aC aD;cases aK;replace aj:=kx HB aj;replace ak:=kx HB ak;replace au:=kx HB au;replace av:=kx HB av;replace ax:=kx HB ax;replace aC:=eq_true aC;replace aD:=eq_true aD;go_wp2;go_ret;exact⟨by first|rfl|(simp [aaF,aaE] <;> rfl)|(simp only [<- aF];first|rfl|(simp [aaF,aaE] <;> rfl))|(simp [*,aaF,aaE] <;> rfl),qB⟩
theorem arx (d:Nat) (w:World) (x0 y0 x1 y1 x2 y2 x3 y3 x4 y4:Int) :
  (Op.equalIn (d+2) 31 (.agg #[iV x0,iV x1,iV x2,iV x3,iV x4]) (.agg #[iV y0,iV y1,iV y2,iV y3,iV y4])).run prog w = .ok (x0 == y0 && (x1 == y1 && (x2 == y2 && (x3 == y3 && (x4 == y4))))) w:=by
 refine aof underlying31 (by kernel_rfl) ?_;refine ael (by rfl) (by go_simp;rfl) (by go_simp;rfl) (by go_simp) ?_;refine ael (by rfl) (by go_simp;rfl) (by go_simp;rfl) (by go_simp) ?_;refine ael (by rfl) (by go_simp;rfl) (by go_simp;rfl) (by go_simp) ?_;refine ael (by rfl) (by go_simp;rfl) (by go_simp;rfl) (by go_simp) ?_;exact ajT (by rfl) (by go_simp;rfl) (by go_simp;rfl) (by go_simp)
attribute [local go_sem high] arx
def afa:Nat->List S31->List S31->Int->Option (Bool)
 | 0,_,_,_=>none
 | k+1,x0,x1,x5=>if x5 < (x0.length:Int) then (if 0<=x5 then (if x5 < (x1.length:Int) then (if (!(((aa0 x0 x5).f0) == ((aa0 x1 x5).f0)) || (!(((aa0 x0 x5).f1) == ((aa0 x1 x5).f1)) || (!(((aa0 x0 x5).f2) == ((aa0 x1 x5).f2)) || (!(((aa0 x0 x5).f3) == ((aa0 x1 x5).f3)) || (!(((aa0 x0 x5).f4) == ((aa0 x1 x5).f4)))))))=true then (some false) else (afa k x0 x1 (wrap64 (x5+1)))) else (none)) else (none)) else (some true)
def SbH.f (k:Nat) (l0 l1:List S31):Option (Bool):=if (l0.length:Int)=(l1.length:Int) then (afa k l0 l1 0) else (some false)
theorem SbH.calls (k:Nat) (A0:Option Addr) (c0:Nat) (l0:List S31) (A1:Option Addr) (c1:Nat) (l1:List S31) (r:Bool) (w:World) (hr0:Kd.C k31 w A0 l0.length l0) (hc0:l0.length<=c0) (hr1:Kd.C k31 w A1 l1.length l1) (hc1:l1.length<=c1) (h:SbH.f k l0 l1=some r) :
  Calls prog 16 #[.slice A0 l0.length c0,.slice A1 l1.length c1] w fun e w'=>e = .returned (.bool r)/\aaC w w':=by
 have aQ:=underlying31;have aN:=aM hr0;have aT:=aM hc0;clear hr0 hc0;have HR1:=aM hr1;have aU:=aM hc1;clear hr1 hc1;have H:=h;unfold SbH.f at H;clear h;by_cases c3:(l0.length:Int)=(l1.length:Int)
 ·rw [if_pos c3] at H;have aC:((l0.length:Int) == (l1.length:Int))=true:=beq_iff_eq.mpr c3;have aD:((l0.length:Int) != (l1.length:Int))=false:=bne_eq_false_iff_eq.mpr c3;have aF:(l0.length == l1.length)=true:=by first|simpa using c3|(simp at c3 ⊢;omega)
  clear c3;have H':=aM H;clear H;go_enter func16,ntmps16;go_wp2;repeat (go_quiet (fail);try go_wp2)
  go_loopg [5] k (fun kq v5 w'=>∃ (aa:Int),v5 = iV aa/\aa1 (afa kq l0 l1 aa=some r)/\aa1 (kq<=k)/\aaC w w');case atStart=>exact⟨(0),qZ,H',⟨Nat.le_refl _⟩,by repeat (first|exact aaW _|apply aaC.step)⟩
  clear H';try clear c1;try clear c3;try clear aC;try clear aD;try clear aF
  obtain⟨aa,rfl,HA,aO,⟨m1,rfl⟩⟩:=hrel;rcases gk with _|k1
  ·exact absurd HA.out (by simp [afa])
  have H:=HA.out;clear HA;simp only [afa] at H;replace H:=jD H;rcases H with ⟨aK,H⟩ | ⟨aK,H⟩
  ·replace H:=jI H;obtain⟨aR,H⟩:=H;replace H:=jI H;obtain⟨aS,H⟩:=H;by_cases c7:(!(((aa0 l0 aa).f0) == ((aa0 l1 aa).f0)) || (!(((aa0 l0 aa).f1) == ((aa0 l1 aa).f1)) || (!(((aa0 l0 aa).f2) == ((aa0 l1 aa).f2)) || (!(((aa0 l0 aa).f3) == ((aa0 l1 aa).f3)) || (!(((aa0 l0 aa).f4) == ((aa0 l1 aa).f4)))))))=true
   ·rw [if_pos c7] at H;have aL:(!(((aa0 l0 aa).f0) == ((aa0 l1 aa).f0)) || (!(((aa0 l0 aa).f1) == ((aa0 l1 aa).f1)) || (!(((aa0 l0 aa).f2) == ((aa0 l1 aa).f2)) || (!(((aa0 l0 aa).f3) == ((aa0 l1 aa).f3)) || (!(((aa0 l0 aa).f4) == ((aa0 l1 aa).f4)))))))=true:=c7;clear c7;obtain rfl:=oJ H;obtain⟨aA,ae,af,ag,ah,ai,aj,aG,aH⟩:=an8 aN aa;cases ae;obtain⟨aB,ak,au,av,ax,ay,az,aI,aJ⟩:=an8 HR1 aa;cases ak;go_wp2;repeat (go_quiet (fail);try go_wp2)
    go_ret;exact⟨qZ,qU⟩
   rw [if_neg c7] at H;have aL:(!(((aa0 l0 aa).f0) == ((aa0 l1 aa).f0)) || (!(((aa0 l0 aa).f1) == ((aa0 l1 aa).f1)) || (!(((aa0 l0 aa).f2) == ((aa0 l1 aa).f2)) || (!(((aa0 l0 aa).f3) == ((aa0 l1 aa).f3)) || (!(((aa0 l0 aa).f4) == ((aa0 l1 aa).f4)))))))=false:=by simpa using c7
   clear c7;have H':=aM H;clear H;obtain⟨aA,ae,af,ag,ah,ai,aj,aG,aH⟩:=an8 aN aa;cases ae;obtain⟨aB,ak,au,av,ax,ay,az,aI,aJ⟩:=an8 HR1 aa;cases ak;go_wp2;repeat (go_quiet (fail);try go_wp2)
   go_roundg k1;case measure=>have:=aO.out;omega
   exact⟨(wrap64 (aa+1)),qZ,H',⟨by have:=aO.out;omega⟩,by repeat (first|exact aaW _|apply aaC.step)⟩
  obtain rfl:=oJ H;go_wp2;repeat (go_quiet (fail);try go_wp2)
  go_ret;exact⟨qZ,qU⟩
 rw [if_neg c3] at H;have aC:((l0.length:Int) == (l1.length:Int))=false:=beq_eq_false_iff_ne.mpr c3;have aD:((l0.length:Int) != (l1.length:Int))=true:=bne_iff_ne.mpr c3;have aF:(l0.length == l1.length)=false:=by first|simpa using c3|(simp at c3 ⊢;omega)
 obtain rfl:=oJ H;go_enter func16,ntmps16;go_wp2;repeat (go_quiet (fail);try go_wp2)
 go_ret;exact⟨qZ,qU⟩
/-- A state of type 88 at block g of W;what its slices lead to came in by w0. -/
def Sab (w0 W:World) (g:Nat) (f0:List Int) (f1:Int):Prop:=∃ A0 c0,W.heap[g]?=some (.cells #[.slice A0 f0.length c0,iV f1] 88 (0,0))/\w0.heap.size<=g/\Kd.C (Kd.int .u8) w0 A0 f0.length f0
theorem Sab.grown {w0 W:World} {g:Nat} {f0:List Int} {f1:Int} {W1:World} {row:Option Nat} (h:Sab w0 W g f0 f1) (hw:W.grownBy W1 row) (hne:some g≠row):Sab w0 W1 g f0 f1:=by
 obtain⟨A0,c0,hb,hg,hr0⟩:=h;exact⟨A0,c0,aak hb hw hne,hg,hr0⟩
theorem ajq {w0 W:World} {g:Nat} {f0:List Int} {f1:Int} {α:Type} {d:Kd α} {e base:Nat} {ok:Nat->Prop} {v:Value} {xs:List α} (h:Sab w0 W g f0 f1) (ho:Kd.N d e W base ok v xs) (ht:e≠88):some g≠v.ownBlock:=by
 obtain⟨A0,c0,hb,hg,hr0⟩:=h;exact Kd.N_ne ho hb ht
theorem Sab.fresh {w0 W:World} {g:Nat} {f0:List Int} {f1:Int} (h:Sab w0 W g f0 f1):∀ k,W.heap.size<=k->k≠g:=by
 obtain⟨A0,c0,hb,hg,hr0⟩:=h;exact Kd.freshB hb
theorem Sab.below {w0 W:World} {g:Nat} {f0:List Int} {f1:Int} {W1:World} (h:Sab w0 W g f0 f1) (hw:Below W.heap.size W W1):Sab w0 W1 g f0 f1:=h.grown (adQ hw none) (by simp)
theorem Sab.alloc {w0 W:World} {g:Nat} {f0:List Int} {f1:Int} (h:Sab w0 W g f0 f1) (o:Obj):Sab w0 (W.alloc o) g f0 f1:=h.below (aax (Below.refl _ _) o)
theorem Sab.drewN {w0 W:World} {g:Nat} {f0:List Int} {f1:Int} (h:Sab w0 W g f0 f1) (m:Nat):Sab w0 (W.drewN m) g f0 f1:=h
theorem Sab.drew {w0 W:World} {g:Nat} {f0:List Int} {f1:Int} (h:Sab w0 W g f0 f1):Sab w0 W.drew g f0 f1:=h
theorem Sab.at_ {w0 W:World} {g:Nat} {f0:List Int} {f1:Int} {w':World} {m:Nat} (hq:W.drewN m=w') (h:Sab w0 W g f0 f1):Sab w0 w' g f0 f1:=by subst hq;exact Sab.drewN h m
theorem Sab.apart {w0 W:World} {g:Nat} {f0:List Int} {f1:Int} {α:Type} {d:Kd α} {e base:Nat} {ok:Nat->Prop} {v:Value} {xs:List α} (h:Sab w0 W g f0 f1) (ho:d.R e W base ok v xs) (ht:∀ q,q∈e :: d.E->q≠88):d.R e W base (fun k=>ok k/\k≠g) v xs:=by
 obtain⟨A0,c0,hb,hg,hr0⟩:=h;exact Kd.R_types ho hb ht
theorem aci {w0 W:World} {g:Nat} {f0:List Int} {f1:Int} {α:Type} {d:Kd α} {e base:Nat} {ok:Nat->Prop} {v:Value} {xs:List α} (h:Sab w0 W g f0 f1) (ho:d.R e W base ok v xs) (ht:e≠88):some g≠v.ownBlock:=by
 obtain⟨A0,c0,hb,hg,hr0⟩:=h;exact Kd.R_ne ho hb ht
theorem abv {w0 W:World} {g:Nat} {f0:List Int} {f1:Int} (h:Sab w0 W g f0 f1):g < W.heap.size:=by
 obtain⟨A0,c0,hb,hg,hr0⟩:=h;exact ab3 hb
theorem aqU {w0 W:World} {g:Nat} {f0:List Int} {f1:Int} (h:Sab w0 W g f0 f1):w0.heap.size<=g:=by
 obtain⟨A0,c0,hb,hg,hr0⟩:=h;exact hg
theorem amH {w0 W:World} {g:Nat} {f0:List Int} {f1:Int} {p:Addr} (h:Sab w0 W g f0 f1) (hne:g≠p.block) (u:Value):Sab w0 (W.setCell p u) g f0 f1:=by
 obtain⟨A0,c0,hb,hg,hr0⟩:=h;exact⟨A0,c0,acp hb hne u,hg,hr0⟩
theorem aep {W:World} {g:Nat} {A0:Option Addr} {c0:Nat} {f0:List Int} {f1:Int} (h:W.heap[g]?=some (.cells #[.slice A0 f0.length c0,iV f1] 88 (0,0))):W.cell? ⟨g,0,none⟩=some (.slice A0 f0.length c0):=(aa3 h 0).trans rfl
theorem aeo {W:World} {g:Nat} {A0:Option Addr} {c0:Nat} {f0:List Int} {f1:Int} (h:W.heap[g]?=some (.cells #[.slice A0 f0.length c0,iV f1] 88 (0,0))):W.cell? ⟨g,1,none⟩=some (iV f1):=(aa3 h 1).trans rfl
theorem amG {w0 W:World} {g:Nat} {f0:List Int} {f1:Int} (h:Sab w0 W g f0 f1) (x:Int):Sab w0 (W.setCell ⟨g,1,none⟩ (iV x)) g f0 x:=by
 obtain⟨A0,c0,hb,hg,hr0⟩:=h;exact⟨A0,c0,by simpa using aeX hb 1 (iV x),hg,hr0⟩
theorem qI {p q:Prop} (h:aa1 p) (f:p->q:=by intro h_;repeat (first|(with_reducible first|exact h_|apply Sab.alloc|apply Sab.drewN|apply Sab.drew|apply amG|refine amH ?_ (aa1.out (by assumption)) _)|exact h_)):q:=f h.out
theorem qBI {B:Nat} {w W:World} (h:Below B w W:=by repeat (first|(with_reducible first|exact HB.out|apply aax|apply aan|apply aah|refine aad ?_ (aqU (aa1.out (by assumption))))|exact HB.out)):Below B w W:=h
def af9:Nat->Int->Bool->List Int->Int->Option (Int × Int)
 | 0,_,_,_,_=>none
 | k+1,x1,x24,x1000,ae=>if x24=true then (some (0,ae)) else (if (wrap64 (ae - 1)) < (x1000.length:Int) then (if 0<=(wrap64 (ae - 1)) then (if x1=0 then (none) else (some (Int.tmod (wrap64 (rd x1000 (wrap64 (ae - 1)))) x1,ae))) else (none)) else (if (x1000.length:Int)=0 then (none) else (if 0<=(Int.tmod (wrap64 (ae - 1)) (x1000.length:Int)) then (if (Int.tmod (wrap64 (ae - 1)) (x1000.length:Int)) < (x1000.length:Int) then (if 0<=(Int.tmod (wrap64 ((wrap64 ((wrap64 (ae - 1))*7))+3)) (x1000.length:Int)) then (if (Int.tmod (wrap64 ((wrap64 ((wrap64 (ae - 1))*7))+3)) (x1000.length:Int)) < (x1000.length:Int) then (if x1=0 then (none) else (some (Int.tmod (Go.bits .xor .i64 (wrap64 ((wrap64 ((wrap64 ((wrap64 ((wrap64 (rd x1000 (Int.tmod (wrap64 (ae - 1)) (x1000.length:Int))))*131))+(wrap64 ((wrap64 (rd x1000 (Int.tmod (wrap64 ((wrap64 ((wrap64 (ae - 1))*7))+3)) (x1000.length:Int))))*1117))))+(wrap64 ((wrap64 (ae - 1))*29))))+(wrap64 ((wrap64 (Int.tdiv (wrap64 (ae - 1)) (x1000.length:Int)))*53)))) (wrap64 (Int.tdiv (wrap64 ((wrap64 ((wrap64 ((wrap64 ((wrap64 (rd x1000 (Int.tmod (wrap64 (ae - 1)) (x1000.length:Int))))*131))+(wrap64 ((wrap64 (rd x1000 (Int.tmod (wrap64 ((wrap64 ((wrap64 (ae - 1))*7))+3)) (x1000.length:Int))))*1117))))+(wrap64 ((wrap64 (ae - 1))*29))))+(wrap64 ((wrap64 (Int.tdiv (wrap64 (ae - 1)) (x1000.length:Int)))*53)))) 64))) x1,ae))) else (none)) else (none)) else (none)) else (none))))
def ab4 (k:Nat) (aa:List Int) (af a1:Int):Option (Int × Int):=if a1 < 1 then (af9 k a1 true aa (wrap64 (af+1))) else (af9 k a1 ((aa.length:Int) == 0) aa (wrap64 (af+1)))
theorem aab (k g:Nat) (aa:List Int) (af a1 r1 r2:Int) (w0 w:World) (hI:Sab w0 w g aa af) (hB:Below w0.heap.size w0 w) (h:ab4 k aa af a1=some (r1,r2)) :
  Calls prog 55 #[.pointer (some ⟨g,0,none⟩),iV a1] w fun e w'=>e = .returned (iV r1)/\Sab w0 w' g aa r2/\Below w0.heap.size w0 w'/\aa7 w w' g none:=by
 have HI0:=aM hI;have HK:=aM (aaK w g none);have HL:=aM hB.size;clear hI;have HW0:=aM hB.size;have HB:=aM hB;clear hB;have H:=h;unfold ab4 at H;clear h;have aY:=aM H;clear H;obtain⟨aZ,bg,aD,bi,bn⟩:=HI0.out;have bY:=aep aD;have bZ:=aeo aD;have cu:=aa6 aD 1;clear aD bi;go_enter func55,ntmps55;go_upto_region 2 with (fail);repeat (go_quiet (fail);go_upto_region 2 with (fail))
 go_cut [24] (fun v24 wc=>∃ (kq:Nat) (ay:Bool),v24 = .bool ay/\aa1 (af9 kq a1 ay aa (wrap64 (af+1))=some (r1,r2))/\aa1 (kq<=k)/\aa1 (Sab w0 wc g aa (wrap64 (af+1)))/\aa1 (aa7 w wc g none)/\aa1 (Below w0.heap.size w0 wc))
 case first =>
  have H:=aY.out;clear aY;replace H:=jD H;rcases H with ⟨az,H⟩ | ⟨az,H⟩
  ·(first|rw [az]|(simp only [aaw,aaA];rw [az])|skip);have H':=aM H;clear H;go_wp2;repeat (go_quiet (fail);try go_wp2)
   go_meet;exact⟨_,(true),qZ,H',⟨by first|omega|exact Nat.le_refl _⟩,⟨qI HI0⟩,⟨qH⟩,⟨qBI⟩⟩
  (first|rw [az]|(simp only [aaw,aaA];rw [az])|skip);have H':=aM H;clear H;obtain⟨bq,bu,aF,bv,bz⟩:=HI0.out;have cz:=aep aF;have cB:=aeo aF;have cK:=aa6 aF 1;clear aF bv;go_wp2;repeat (go_quiet (fail);try go_wp2)
  go_meet;exact⟨_,(((aa.length:Int) == 0)),qZ,H',⟨by first|omega|exact Nat.le_refl _⟩,⟨qI HI0⟩,⟨qH⟩,⟨qBI⟩⟩
 clear aY;obtain⟨kq,ay,rfl,HA,HJ2,HI0,HK,HB⟩:=hcut
 cases kq with
 | zero=>exact absurd HA.out (by simp [af9])
 | succ cO =>
  have H:=HA.out;clear HA;simp only [af9] at H;replace H:=jB H;rcases H with ⟨rfl,H⟩ | ⟨rfl,H⟩
  ·obtain⟨rfl,rfl⟩:=oJ2 H;go_wp2;repeat (go_quiet (fail);try go_wp2)
   go_ret;exact⟨qW,qI HI0,qBI,qH⟩
  replace H:=jD H;rcases H with ⟨aP,H⟩ | ⟨aP,H⟩
  ·obtain⟨aO,aA⟩:∃ j_:Int,(wrap64 ((wrap64 (af+1)) - 1))=j_:=⟨_,rfl⟩
   replace H:(if 0<=(aO) then (if a1=0 then (none) else (some (Int.tmod (wrap64 (rd aa (aO))) a1,(wrap64 (af+1))))) else (none))=some (r1,r2):=by first|(rw [aA] at H;exact H)|(simp only [aA] at H ⊢;exact H)
   (try rw [aA] at aP);have bD:(IntKind.i64.wrap ((wrap64 (af+1)) - 1))=aO:=(aaw _).trans aA;replace H:=jI H;obtain⟨bE,H⟩:=H;by_cases c11:a1=0
   ·rw [if_pos c11] at H;exact absurd H (by simp)
   rw [if_neg c11] at H;have bF:(a1 == 0)=false:=beq_eq_false_iff_ne.mpr c11;have bG:(a1 != 0)=true:=bne_iff_ne.mpr c11;obtain⟨rfl,rfl⟩:=oJ2 H;obtain⟨aU,aV,ai,aQ,aG⟩:=HI0.out;have bH:=aep ai;have bI:=aeo ai;have bJ:=aa6 ai 1;clear ai aQ;have aH:0<=((aO):Int):=qD;have aI:(aO) < (aa.length:Int):=qD;obtain⟨bK,bA,aj⟩:=Kd.at_int aG (aO) aH aI;cases bA;replace aj:=abn HB.out aj;replace aH:=eq_true aH;replace aI:=eq_true aI;go_wp2;repeat (go_quiet (fail);try go_wp2)
   go_ret;exact⟨by first|rfl|(simp [aaF,aaE] <;> rfl)|(simp only [<- aA];first|rfl|(simp [aaF,aaE] <;> rfl))|(simp [*,aaF,aaE] <;> rfl),qI HI0,qBI,qH⟩
  by_cases c13:(aa.length:Int)=0
  ·rw [if_pos c13] at H;exact absurd H (by simp)
  rw [if_neg c13] at H;have bL:((aa.length:Int) == 0)=false:=beq_eq_false_iff_ne.mpr c13;have bM:((aa.length:Int) != 0)=true:=bne_iff_ne.mpr c13;have bN:¬ (aa=[]):=fun h_=>c13 (by rw [h_];rfl)
  obtain⟨ag,aB⟩:∃ j_:Int,(Int.tmod (wrap64 ((wrap64 (af+1)) - 1)) (aa.length:Int))=j_:=⟨_,rfl⟩
  replace H:(if 0<=(ag) then (if (ag) < (aa.length:Int) then (if 0<=(Int.tmod (wrap64 ((wrap64 ((wrap64 ((wrap64 (af+1)) - 1))*7))+3)) (aa.length:Int)) then (if (Int.tmod (wrap64 ((wrap64 ((wrap64 ((wrap64 (af+1)) - 1))*7))+3)) (aa.length:Int)) < (aa.length:Int) then (if a1=0 then (none) else (some (Int.tmod (Go.bits .xor .i64 (wrap64 ((wrap64 ((wrap64 ((wrap64 ((wrap64 (rd aa (ag)))*131))+(wrap64 ((wrap64 (rd aa (Int.tmod (wrap64 ((wrap64 ((wrap64 ((wrap64 (af+1)) - 1))*7))+3)) (aa.length:Int))))*1117))))+(wrap64 ((wrap64 ((wrap64 (af+1)) - 1))*29))))+(wrap64 ((wrap64 (Int.tdiv (wrap64 ((wrap64 (af+1)) - 1)) (aa.length:Int)))*53)))) (wrap64 (Int.tdiv (wrap64 ((wrap64 ((wrap64 ((wrap64 ((wrap64 (rd aa (ag)))*131))+(wrap64 ((wrap64 (rd aa (Int.tmod (wrap64 ((wrap64 ((wrap64 ((wrap64 (af+1)) - 1))*7))+3)) (aa.length:Int))))*1117))))+(wrap64 ((wrap64 ((wrap64 (af+1)) - 1))*29))))+(wrap64 ((wrap64 (Int.tdiv (wrap64 ((wrap64 (af+1)) - 1)) (aa.length:Int)))*53)))) 64))) a1,(wrap64 (af+1))))) else (none)) else (none)) else (none)) else (none))=some (r1,r2):=by first|(rw [aB] at H;exact H)|(simp only [aB] at H ⊢;exact H)
  replace H:=jI H;obtain⟨bO,H⟩:=H;replace H:=jI H;obtain⟨bP,H⟩:=H;obtain⟨ah,aC⟩:∃ j_:Int,(Int.tmod (wrap64 ((wrap64 ((wrap64 ((wrap64 (af+1)) - 1))*7))+3)) (aa.length:Int))=j_:=⟨_,rfl⟩
  replace H:(if 0<=(ah) then (if (ah) < (aa.length:Int) then (if a1=0 then (none) else (some (Int.tmod (Go.bits .xor .i64 (wrap64 ((wrap64 ((wrap64 ((wrap64 ((wrap64 (rd aa (ag)))*131))+(wrap64 ((wrap64 (rd aa (ah)))*1117))))+(wrap64 ((wrap64 ((wrap64 (af+1)) - 1))*29))))+(wrap64 ((wrap64 (Int.tdiv (wrap64 ((wrap64 (af+1)) - 1)) (aa.length:Int)))*53)))) (wrap64 (Int.tdiv (wrap64 ((wrap64 ((wrap64 ((wrap64 ((wrap64 (rd aa (ag)))*131))+(wrap64 ((wrap64 (rd aa (ah)))*1117))))+(wrap64 ((wrap64 ((wrap64 (af+1)) - 1))*29))))+(wrap64 ((wrap64 (Int.tdiv (wrap64 ((wrap64 (af+1)) - 1)) (aa.length:Int)))*53)))) 64))) a1,(wrap64 (af+1))))) else (none)) else (none))=some (r1,r2):=by first|(rw [aC] at H;exact H)|(simp only [aC] at H ⊢;exact H)
  replace H:=jI H;obtain⟨bQ,H⟩:=H;replace H:=jI H;obtain⟨bR,H⟩:=H;by_cases c20:a1=0
  ·rw [if_pos c20] at H;exact absurd H (by simp)
  rw [if_neg c20] at H;have bS:(a1 == 0)=false:=beq_eq_false_iff_ne.mpr c20;have bT:(a1 != 0)=true:=bne_iff_ne.mpr c20;obtain⟨rfl,rfl⟩:=oJ2 H;obtain⟨aW,aX,ak,aR,au⟩:=HI0.out;have bU:=aep ak;have bV:=aeo ak;have bW:=aa6 ak 1;clear ak aR;have aJ:0<=((ag):Int):=qD;have aK:(ag) < (aa.length:Int):=qD;obtain⟨aS,bB,av⟩:=Kd.at_int au (ag) aJ aK;cases bB;replace av:=abn HB.out av;replace aJ:=eq_true aJ;replace aK:=eq_true aK;have aL:0<=((ah):Int):=qD;have aN:(ah) < (aa.length:Int):=qD;obtain⟨aT,bC,ax⟩:=Kd.at_int au (ah) aL aN;obtain rfl:aS=aT:=(by injection bC);replace ax:=abn HB.out ax;replace aL:=eq_true aL;replace aN:=eq_true aN;go_wp2;repeat (go_quiet (fail);try go_wp2)
  go_ret;exact⟨by first|rfl|(simp [aaF,aaE] <;> rfl)|(simp only [<- aB,<- aC];first|rfl|(simp [aaF,aaE] <;> rfl))|(simp [*,aaF,aaE] <;> rfl),qI HI0,qBI,qH⟩
def aew (k:Nat) (aa:List Int) (ae:Int):Option (Int × Int):=(ab4 k aa ae 6).bind fun af=>(some (af.1,af.2))
theorem abG (k g:Nat) (aa:List Int) (ae r1 r2:Int) (w0 w:World) (hI:Sab w0 w g aa ae) (hB:Below w0.heap.size w0 w) (h:aew k aa ae=some (r1,r2)) :
  Calls prog 54 #[.pointer (some ⟨g,0,none⟩)] w fun e w'=>e = .returned (iV r1)/\Sab w0 w' g aa r2/\Below w0.heap.size w0 w'/\aa7 w w' g none:=by
 have HI0:=aM hI;have HK:=aM (aaK w g none);have HL:=aM hB.size;clear hI;have HW0:=aM hB.size;have HB:=aM hB;clear hB;have H:=h;unfold aew at H;clear h;obtain⟨⟨ai,t105⟩,A2,H⟩:=qE H;try dsimp only at H
 obtain⟨rfl,rfl⟩:=oJ2 H;go_enter func54,ntmps54;go_wp2_with (first|((with_reducible refine jc 55 4 ?_);refine jK func55 (aab k g aa ae 6 ai t105 w0 _ (qI HI0) qB A2.out) ?_;rintro w3 ⟨hi,hb,hk⟩;replace HK:=kI hk;replace HB:=aM hb;replace HI0:=aM hi;clear hb hk hi));go_ret;exact⟨qW,qI HI0,qB,qH⟩
def af0 (a0:Int):Option (Int):=if (Int.tmod a0 4294967296) > 2147483647 then (some (wrap64 ((Int.tmod a0 4294967296) - 4294967296))) else (if (Int.tmod a0 4294967296) < (-2147483648) then (some (wrap64 ((Int.tmod a0 4294967296)+4294967296))) else (some (Int.tmod a0 4294967296)))
theorem Saz.calls (a0 r:Int) (w:World) (h:af0 a0=some r) :
  Calls prog 135 #[iV a0] w fun e w'=>e = .returned (iV r)/\aaC w w':=by
 have H:=h;unfold af0 at H;clear h;replace H:=jD H;rcases H with ⟨aa,H⟩ | ⟨aa,H⟩
 ·obtain rfl:=oJ H;go_enter func135,ntmps135;go_wp2;go_ret;exact⟨qZ,qU⟩
 replace H:=jD H;rcases H with ⟨ae,H⟩ | ⟨ae,H⟩
 ·obtain rfl:=oJ H;go_enter func135,ntmps135;go_wp2;go_ret;exact⟨qZ,qU⟩
 obtain rfl:=oJ H;go_enter func135,ntmps135;go_wp2;go_ret;exact⟨qZ,qU⟩
def alS (k:Nat) (af:List Int) (ak:Int):Option (Int × Int):=(ab4 k af ak 6).bind fun ag=>(if ag.1=0 then ((some (([(-2147483648),2147483647,(-1),0,1,(-2147483647),65536,(-65536)]:List Int):List Int)).bind fun av=>((ab4 k af ag.2 8).bind fun ah=>(if 0<=ah.1 then (if ah.1 < (av.length:Int) then (some (rd av ah.1,ah.2)) else (none)) else (none)))) else (if ag.1=1 then ((ab4 k af ag.2 256).bind fun ay=>((ab4 k af ay.2 256).bind fun az=>((ab4 k af az.2 256).bind fun aA=>((ab4 k af aA.2 200).bind fun aB=>((af0 (wrap64 ((wrap64 ((wrap64 ((wrap64 (ay.1*65536))+(wrap64 (az.1*256))))+aA.1))*(wrap64 (1+aB.1))))).bind fun aF=>(some (aF,aB.2))))))) else (if ag.1=2 then ((ab4 k af ag.2 200).bind fun aC=>(some (wrap64 (-aC.1),aC.2))) else ((ab4 k af ag.2 20).bind fun aD=>(some (aD.1,aD.2))))))
theorem anH {G:Prop} (h:G:=by
  go_enter func125,ntmps125;go_wp2_with (first|((with_reducible refine jc 55 4 ?_);refine jK func55 (aab k g af ak 6 aS t107 w0 _ (qI HI0) qB A2.out) ?_;rintro bq ⟨hi,hb,hk⟩;replace HK:=kI hk;replace HB:=aM hb;replace HI0:=aM hi;clear hb hk hi)|((with_reducible refine jd 7 ?_);refine jV (Kd.int .i64) 3 ([(-2147483648),2147483647,(-1),0,1,(-2147483647),65536,(-65536)]:List Int) [iV (-2147483648),iV 2147483647,iV (-1),iV 0,iV 1,iV (-2147483647),iV 65536,iV (-65536)] (aav.one (show Kd.M (Kd.int .i64) _ _ _ (-2147483648) [iV (-2147483648)] from rfl) (aav.one (show Kd.M (Kd.int .i64) _ _ _ 2147483647 [iV 2147483647] from rfl) (aav.one (show Kd.M (Kd.int .i64) _ _ _ (-1) [iV (-1)] from rfl) (aav.one (show Kd.M (Kd.int .i64) _ _ _ 0 [iV 0] from rfl) (aav.one (show Kd.M (Kd.int .i64) _ _ _ 1 [iV 1] from rfl) (aav.one (show Kd.M (Kd.int .i64) _ _ _ (-2147483647) [iV (-2147483647)] from rfl) (aav.one (show Kd.M (Kd.int .i64) _ _ _ 65536 [iV 65536] from rfl) (aav.one (show Kd.M (Kd.int .i64) _ _ _ (-65536) [iV (-65536)] from rfl) (aa8 _ _))))))))) ?_;intro v109 bu au hb;replace au:=kr ai au;have aj:=aM (Kd.R_lower au kU);replace HI0:=aM (Sab.below (qI HI0) hb);replace HK:=kY hb;replace HB:=kH hb;clear hb au)|((with_reducible refine jc 55 9 ?_);refine jK func55 (aab k g af t107 8 ax aT w0 _ (qI HI0) qB A4.out) ?_;rintro bv ⟨hi,hb,hk⟩;replace aj:=aM (Kd.R_mono (Kd.R_keep (Sab.apart (show Sab w0 _ g af t107 from qI HI0) (qR aj) (by decide)) hk (fun _ h=>h.2)) (fun _ h=>h.1));replace HK:=kI hk;replace HB:=aM hb;replace HI0:=aM hi;clear hb hk hi;obtain⟨bz,bA,aU⟩:=Kd.R_slice aj.out;subst aU;have aG:0<=(ax:Int):=qD;have aH:ax < (av.length:Int):=qD;obtain⟨bn,aV,aR⟩:=Kd.at_int (Kd.R_reads' aj.out).2.2 ax aG aH;cases aV;replace aG:=eq_true aG;replace aH:=eq_true aH)|((with_reducible refine jc 55 15 ?_);refine jK func55 (aab k g af t107 256 aI aL w0 _ (qI HI0) qB bB.out) ?_;rintro bC ⟨hi,hb,hk⟩;replace HK:=kI hk;replace HB:=aM hb;replace HI0:=aM hi;clear hb hk hi)|((with_reducible refine jc 55 18 ?_);refine jK func55 (aab k g af aL 256 t116 t117 w0 _ (qI HI0) qB bD.out) ?_;rintro bE ⟨hi,hb,hk⟩;replace HK:=kI hk;replace HB:=aM hb;replace HI0:=aM hi;clear hb hk hi)|((with_reducible refine jc 55 22 ?_);refine jK func55 (aab k g af t117 256 aJ t119 w0 _ (qI HI0) qB bF.out) ?_;rintro bG ⟨hi,hb,hk⟩;replace HK:=kI hk;replace HB:=aM hb;replace HI0:=aM hi;clear hb hk hi)|((with_reducible refine jc 55 25 ?_);refine jK func55 (aab k g af t119 200 aK aW w0 _ (qI HI0) qB bH.out) ?_;rintro bI ⟨hi,hb,hk⟩;replace HK:=kI hk;replace HB:=aM hb;replace HI0:=aM hi;clear hb hk hi)|((with_reducible refine jc 135 28 ?_);refine jK func135 (Saz.calls (wrap64 ((wrap64 ((wrap64 ((wrap64 (aI*65536))+(wrap64 (t116*256))))+aJ))*(wrap64 (1+aK)))) aF _ bJ.out) ?_;rintro w' ⟨nd,rfl⟩)|((with_reducible refine jc 55 32 ?_);refine jK func55 (aab k g af t107 200 aX t124 w0 _ (qI HI0) qB bK.out) ?_;rintro bL ⟨hi,hb,hk⟩;replace HK:=kI hk;replace HB:=aM hb;replace HI0:=aM hi;clear hb hk hi)|((with_reducible refine jc 55 35 ?_);refine jK func55 (aab k g af t107 20 aY aZ w0 _ (qI HI0) qB bM.out) ?_;rintro bN ⟨hi,hb,hk⟩;replace HK:=kI hk;replace HB:=aM hb;replace HI0:=aM hi;clear hb hk hi));go_ret
  exact⟨qW,qI HI0,qB,qH⟩):G:=h
theorem alT (k g:Nat) (af:List Int) (ak r1 r2:Int) (w0 w:World) (hI:Sab w0 w g af ak) (hB:Below w0.heap.size w0 w) (h:alS k af ak=some (r1,r2)) :
  Calls prog 125 #[.pointer (some ⟨g,0,none⟩)] w fun e w'=>e = .returned (iV r1)/\Sab w0 w' g af r2/\Below w0.heap.size w0 w'/\aa7 w w' g none:=by
 have HI0:=aM hI;have HK:=aM (aaK w g none);have HL:=aM hB.size;clear hI;have HW0:=aM hB.size;have HB:=aM hB;clear hB;have H:=h;unfold alS at H;clear h;obtain⟨⟨aS,t107⟩,A2,H⟩:=qE H;try dsimp only at H
 replace H:=jE H;rcases H with ⟨bg,bi,H⟩ | ⟨c3,bg,bi,H⟩
 ·obtain⟨av,ai⟩:=ky ((([(-2147483648),2147483647,(-1),0,1,(-2147483647),65536,(-65536)]:List Int)):List Int);replace H:=kv ai H;obtain⟨⟨ax,aT⟩,A4,H⟩:=qE H;try dsimp only at H
  replace H:=jI H;obtain⟨bO,H⟩:=H;replace H:=jI H;obtain⟨bP,H⟩:=H;obtain⟨rfl,rfl⟩:=oJ2 H;exact anH
 replace H:=jE H;rcases H with ⟨aN,aO,H⟩ | ⟨c12,aN,aO,H⟩
 ·obtain⟨⟨aI,aL⟩,bB,H⟩:=qE H;try dsimp only at H
  obtain⟨⟨t116,t117⟩,bD,H⟩:=qE H;try dsimp only at H
  obtain⟨⟨aJ,t119⟩,bF,H⟩:=qE H;try dsimp only at H
  obtain⟨⟨aK,aW⟩,bH,H⟩:=qE H;try dsimp only at H
  obtain⟨aF,bJ,H⟩:=qE H;try dsimp only at H
  obtain⟨rfl,rfl⟩:=oJ2 H;exact anH
 replace H:=jE H;rcases H with ⟨aP,aQ,H⟩ | ⟨c23,aP,aQ,H⟩
 ·obtain⟨⟨aX,t124⟩,bK,H⟩:=qE H;try dsimp only at H
  obtain⟨rfl,rfl⟩:=oJ2 H;exact anH
 obtain⟨⟨aY,aZ⟩,bM,H⟩:=qE H;try dsimp only at H
 obtain⟨rfl,rfl⟩:=oJ2 H;exact anH
def akn (k:Nat) (aa:List Int) (ae:Int):Option (Int × Int):=(ab4 k aa ae 12).bind fun af=>(some (wrap64 (1+af.1),af.2))
theorem ain (k g:Nat) (aa:List Int) (ae r1 r2:Int) (w0 w:World) (hI:Sab w0 w g aa ae) (hB:Below w0.heap.size w0 w) (h:akn k aa ae=some (r1,r2)) :
  Calls prog 126 #[.pointer (some ⟨g,0,none⟩)] w fun e w'=>e = .returned (iV r1)/\Sab w0 w' g aa r2/\Below w0.heap.size w0 w'/\aa7 w w' g none:=by
 have HI0:=aM hI;have HK:=aM (aaK w g none);have HL:=aM hB.size;clear hI;have HW0:=aM hB.size;have HB:=aM hB;clear hB;have H:=h;unfold akn at H;clear h;obtain⟨⟨t127,ai⟩,A2,H⟩:=qE H;try dsimp only at H
 obtain⟨rfl,rfl⟩:=oJ2 H;go_enter func126,ntmps126;go_wp2_with (first|((with_reducible refine jc 55 4 ?_);refine jK func55 (aab k g aa ae 12 t127 ai w0 _ (qI HI0) qB A2.out) ?_;rintro w3 ⟨hi,hb,hk⟩;replace HK:=kI hk;replace HB:=aM hb;replace HI0:=aM hi;clear hb hk hi));go_ret;exact⟨qW,qI HI0,qB,qH⟩
mutual
def aga:Nat->Int->Int->Bool->List Int->Int->Option (Int × Int × Int × Int × Int × Int)
 | 0,_,_,_,_,_=>none
 | k+1,x1,ax,eB,x1000,ak=>if eB=true then ((aew k x1000 ak).bind fun aO=>((alS k x1000 aO.2).bind fun aP=>((some (([0,1,2,aP.1]:List Int):List Int)).bind fun aI=>((ab4 k x1000 aP.2 4).bind fun aD=>(if 0<=aD.1 then (if aD.1 < (aI.length:Int) then (some (1,aO.1,0,0,rd aI aD.1,aD.2)) else (none)) else (none)))))) else (if ax=2 then (ag9 k x1 ax (ax == 2) x1000 ak) else (ag9 k x1 ax (ax == 3) x1000 ak))
def ag9:Nat->Int->Int->Bool->List Int->Int->Option (Int × Int × Int × Int × Int × Int)
 | 0,_,_,_,_,_=>none
 | k+1,x1,ax,x27,x1000,ak=>if x27=true then ((aew k x1000 ak).bind fun aQ=>((aew k x1000 aQ.2).bind fun aR=>(some (2,aQ.1,aR.1,0,0,aR.2)))) else (if ax=4 then (afe k x1 ax (ax == 4) x1000 ak) else (if ax=5 then (afe k x1 ax (ax == 5) x1000 ak) else (afe k x1 ax (ax == 6) x1000 ak)))
def afe:Nat->Int->Int->Bool->List Int->Int->Option (Int × Int × Int × Int × Int × Int)
 | 0,_,_,_,_,_=>none
 | k+1,x1,ax,eD,x1000,ak=>if eD=true then ((aew k x1000 ak).bind fun aS=>((aew k x1000 aS.2).bind fun aT=>((aew k x1000 aT.2).bind fun aU=>((akn k x1000 aU.2).bind fun aV=>(some (3,aS.1,aT.1,aU.1,aV.1,aV.2)))))) else (if ax=7 then ((ab4 k x1000 ak x1).bind fun aW=>(some (4,0,0,0,aW.1,aW.2))) else (if ax=8 then ((aew k x1000 ak).bind fun aX=>((ab4 k x1000 aX.2 x1).bind fun aY=>(some (5,0,aX.1,0,aY.1,aY.2)))) else (if ax=9 then ((aew k x1000 ak).bind fun aZ=>((ab4 k x1000 aZ.2 2).bind fun bg=>(some (6,0,aZ.1,0,bg.1,bg.2)))) else (if ax=10 then ((aew k x1000 ak).bind fun bi=>((ab4 k x1000 bi.2 2).bind fun bn=>(some (7,bi.1,0,0,bn.1,bn.2)))) else ((ab4 k x1000 ak 4).bind fun aJ=>(if aJ.1=0 then (some (8,0,0,0,0,aJ.2)) else ((aew k x1000 aJ.2).bind fun bq=>(some (9,0,bq.1,0,0,bq.2)))))))))
end
def am6 (k:Nat) (ai:List Int) (aA a1:Int):Option (Int × Int × Int × Int × Int × Int):=(ab4 k ai aA 12).bind fun av=>(if av.1=0 then (aga k a1 av.1 (av.1 == 0) ai av.2) else (aga k a1 av.1 (av.1 == 1) ai av.2))
theorem am7 (k g:Nat) (ai:List Int) (aA a1 r1 r2 r3 r4 r5 r6:Int) (w0 w:World) (hI:Sab w0 w g ai aA) (hB:Below w0.heap.size w0 w) (h:am6 k ai aA a1=some (r1,r2,r3,r4,r5,r6)) :
  Calls prog 112 #[.pointer (some ⟨g,0,none⟩),iV a1] w fun e w'=>e = .returned (.agg #[iV r1,iV r2,iV r3,iV r4,iV r5])/\Sab w0 w' g ai r6/\Below w0.heap.size w0 w'/\aa7 w w' g none:=by
 have eG:=underlying31;have HI0:=aM hI;have HK:=aM (aaK w g none);have HL:=aM hB.size;clear hI;have HW0:=aM hB.size;have HB:=aM hB;clear hB;have H:=h;unfold am6 at H;clear h;obtain⟨⟨t130,t131⟩,A3,H⟩:=qE H;try dsimp only at H
 have dw:=aM H;clear H;go_enter func112,ntmps112;go_upto_if 14 with (first|((with_reducible refine jd 4 ?_);refine jY _ 31 ?_;intro ah hg w5 aa hb;have dF:=aM ((by rw [hg];exact kU:w.heap.size<=ah));have dG:=aM ((Nat.le_trans HW0.out (by rw [hg];exact kU:w.heap.size<=ah):w0.heap.size<=ah));have aj:=aM ((by rw [hg];exact Nat.ne_of_lt (abv (show Sab w0 _ g ai aA from qI HI0)):g≠ah));have ae:=aM ((by rw [hg];exact Nat.ne_of_gt (abv (show Sab w0 _ g ai aA from qI HI0)):ah≠g));replace HI0:=aM (Sab.below (qI HI0) hb);replace HK:=kY hb;replace HB:=kH hb;clear hb hg)|((with_reducible refine jc 55 13 ?_);refine jK func55 (aab k g ai aA 12 t130 t131 w0 _ (qI HI0) qB A3.out) ?_;rintro w6 ⟨hi,hb,hk⟩;replace aa:=kw hk aa ae;replace HK:=kI hk;replace HB:=aM hb;replace HI0:=aM hi;clear hb hk hi));(try simp only [Act.put,List.setIfInBounds_toArray,List.set_cons_zero,List.set_cons_succ]);go_cut [14] (fun v14 wc=>∃ (kq:Nat) (aK:Bool),v14 = .bool aK/\aa1 (aga kq a1 t130 aK ai t131=some (r1,r2,r3,r4,r5,r6))/\aa1 (kq<=k)/\aa1 (wc.heap[ah]?=some (.cells #[iV 0,iV 0,iV 0,iV 0,iV 0] 31 (0,0)))/\aa1 (Sab w0 wc g ai t131)/\aa1 (aa7 w wc g none)/\aa1 (Below w0.heap.size w0 wc))
 case first =>
  have H:=dw.out;clear dw;replace H:=jE H;rcases H with ⟨aL,dx,H⟩ | ⟨c7,aL,dx,H⟩
  ·(first|rw [aL]|(simp only [aaw,aaA];rw [aL])|skip);have H':=aM H;clear H;go_wp2;go_meet;exact⟨_,((t130 == 0)),qZ,H',⟨by first|omega|exact Nat.le_refl _⟩,⟨qK aa⟩,⟨qI HI0⟩,⟨qH⟩,⟨qB⟩⟩
  (first|rw [aL]|(simp only [aaw,aaA];rw [aL])|skip);have H':=aM H;clear H;go_wp2;go_meet;exact⟨_,((t130 == 1)),qZ,H',⟨by first|omega|exact Nat.le_refl _⟩,⟨qK aa⟩,⟨qI HI0⟩,⟨qH⟩,⟨qB⟩⟩
 clear dw;obtain⟨kq,aK,rfl,HA,bF,aa,HI0,HK,HB⟩:=hcut
 cases kq with
 | zero=>exact absurd HA.out (by simp [aga])
 | succ di =>
  have H:=HA.out;clear HA;simp only [aga] at H;replace H:=jB H;rcases H with ⟨rfl,H⟩ | ⟨rfl,H⟩
  ·obtain⟨⟨bG,bH⟩,A9,H⟩:=qE H;try dsimp only at H
   obtain⟨⟨aH,bu⟩,eH,H⟩:=qE H;try dsimp only at H
   obtain⟨aI,aF⟩:=ky ((([0,1,2,aH]:List Int)):List Int);replace H:=kv aF H;obtain⟨⟨t139,dz⟩,eO,H⟩:=qE H;try dsimp only at H
   replace H:=jI H;obtain⟨dH,H⟩:=H;replace H:=jI H;obtain⟨dI,H⟩:=H;obtain⟨rfl,rfl,rfl,rfl,rfl,rfl⟩:=oJ6 H;go_wp2_with (first|((with_reducible refine jc 54 18 ?_);refine jK func54 (abG di g ai t131 bG bH w0 _ (qI HI0) qB A9.out) ?_;rintro fT ⟨hi,hb,hk⟩;replace aa:=kw hk aa ae;replace HK:=kI hk;replace HB:=aM hb;replace HI0:=aM hi;clear hb hk hi)|((with_reducible refine jc 125 20 ?_);refine jK func125 (alT di g ai bH aH bu w0 _ (qI HI0) qB eH.out) ?_;rintro fU ⟨hi,hb,hk⟩;replace aa:=kw hk aa ae;replace HK:=kI hk;replace HB:=aM hb;replace HI0:=aM hi;clear hb hk hi)|((with_reducible refine jd 21 ?_);refine jV (Kd.int .i64) 3 ([0,1,2,aH]:List Int) [iV 0,iV 1,iV 2,iV aH] (aav.one (show Kd.M (Kd.int .i64) _ _ _ 0 [iV 0] from rfl) (aav.one (show Kd.M (Kd.int .i64) _ _ _ 1 [iV 1] from rfl) (aav.one (show Kd.M (Kd.int .i64) _ _ _ 2 [iV 2] from rfl) (aav.one (show Kd.M (Kd.int .i64) _ _ _ aH [iV aH] from rfl) (aa8 _ _))))) ?_;intro eP w16 aN hb;replace aN:=kr aF aN;have aG:=aM (Kd.R_lower aN kU);replace aa:=kB aa hb;replace HI0:=aM (Sab.below (qI HI0) hb);replace HK:=kY hb;replace HB:=kH hb;clear hb aN)|((with_reducible refine jc 55 23 ?_);refine jK func55 (aab di g ai bu 4 t139 dz w0 _ (qI HI0) qB eO.out) ?_;rintro fV ⟨hi,hb,hk⟩;replace aa:=kw hk aa ae;replace aG:=aM (Kd.R_mono (Kd.R_keep (Sab.apart (show Sab w0 _ g ai bu from qI HI0) (qR aG) (by decide)) hk (fun _ h=>h.2)) (fun _ h=>h.1));replace HK:=kI hk;replace HB:=aM hb;replace HI0:=aM hi;clear hb hk hi;obtain⟨eQ,eT,dA⟩:=Kd.R_slice aG.out;subst dA;have bv:0<=(t139:Int):=qD;have bz:t139 < (aI.length:Int):=qD;obtain⟨dJ,dB,dn⟩:=Kd.at_int (Kd.R_reads' aG.out).2.2 t139 bv bz;cases dB;replace bv:=eq_true bv;replace bz:=eq_true bz;have dK:=ae.out;have dL:=aj.out;have eU:=jz5 aa));refine bodyPost_ret (results_cell_row rfl _ _ ah 31 #[iV 1,iV bG,iV 0,iV 0,iV (rd aI t139)] (0,0) _ rfl (qF aa) underlying31 rfl (by kernel_rfl)) rfl ?_;exact⟨qW,qI HI0,qB,qH⟩
  have bA:=aM H;clear H;go_upto_if 27 with (fail);go_cut [27] (fun v27 wc=>∃ (kq:Nat) (aB:Bool),v27 = .bool aB/\aa1 (ag9 kq a1 t130 aB ai t131=some (r1,r2,r3,r4,r5,r6))/\aa1 (kq<=di)/\aa1 (wc.heap[ah]?=some (.cells #[iV 0,iV 0,iV 0,iV 0,iV 0] 31 (0,0)))/\aa1 (Sab w0 wc g ai t131)/\aa1 (aa7 w wc g none)/\aa1 (Below w0.heap.size w0 wc))
  case first =>
   have H:=bA.out;clear bA;replace H:=jE H;rcases H with ⟨ay,bI,H⟩ | ⟨c23,ay,bI,H⟩
   ·(first|rw [ay]|(simp only [aaw,aaA];rw [ay])|skip);have H':=aM H;clear H;go_wp2;go_meet;exact⟨_,((t130 == 2)),qZ,H',⟨by have:=bF.out;first|omega|exact Nat.le_refl _⟩,⟨qK aa⟩,⟨qI HI0⟩,⟨qH⟩,⟨qB⟩⟩
   (first|rw [ay]|(simp only [aaw,aaA];rw [ay])|skip);have H':=aM H;clear H;go_wp2;go_meet;exact⟨_,((t130 == 3)),qZ,H',⟨by have:=bF.out;first|omega|exact Nat.le_refl _⟩,⟨qK aa⟩,⟨qI HI0⟩,⟨qH⟩,⟨qB⟩⟩
  clear bA;obtain⟨kq,aB,rfl,HA,bB,aa,HI0,HK,HB⟩:=hcut
  cases kq with
  | zero=>exact absurd HA.out (by simp [ag9])
  | succ bC =>
   have H:=HA.out;clear HA;simp only [ag9] at H;replace H:=jB H;rcases H with ⟨rfl,H⟩ | ⟨rfl,H⟩
   ·obtain⟨⟨bJ,t143⟩,eX,H⟩:=qE H;try dsimp only at H
    obtain⟨⟨bK,t145⟩,eY,H⟩:=qE H;try dsimp only at H
    obtain⟨rfl,rfl,rfl,rfl,rfl,rfl⟩:=oJ6 H;go_wp2_with (first|((with_reducible refine jc 54 31 ?_);refine jK func54 (abG bC g ai t131 bJ t143 w0 _ (qI HI0) qB eX.out) ?_;rintro fZ ⟨hi,hb,hk⟩;replace aa:=kw hk aa ae;replace HK:=kI hk;replace HB:=aM hb;replace HI0:=aM hi;clear hb hk hi)|((with_reducible refine jc 54 34 ?_);refine jK func54 (abG bC g ai t143 bK t145 w0 _ (qI HI0) qB eY.out) ?_;rintro gm ⟨hi,hb,hk⟩;replace aa:=kw hk aa ae;replace HK:=kI hk;replace HB:=aM hb;replace HI0:=aM hi;clear hb hk hi;have dM:=ae.out;have dN:=aj.out;have eZ:=jz5 aa));refine bodyPost_ret (results_cell_row rfl _ _ ah 31 #[iV 2,iV bJ,iV bK,iV 0,iV 0] (0,0) _ rfl (qF aa) underlying31 rfl (by kernel_rfl)) rfl ?_;exact⟨qW,qI HI0,qB,qH⟩
   have bD:=aM H;clear H;go_upto_if 36 with (fail);go_cut [36] (fun v36 wc=>∃ (kq:Nat) (aC:Bool),v36 = .bool aC/\aa1 (afe kq a1 t130 aC ai t131=some (r1,r2,r3,r4,r5,r6))/\aa1 (kq<=bC)/\aa1 (wc.heap[ah]?=some (.cells #[iV 0,iV 0,iV 0,iV 0,iV 0] 31 (0,0)))/\aa1 (Sab w0 wc g ai t131)/\aa1 (aa7 w wc g none)/\aa1 (Below w0.heap.size w0 wc))
   case first =>
    have H:=bD.out;clear bD;replace H:=jE H;rcases H with ⟨az,bL,H⟩ | ⟨c32,az,bL,H⟩
    ·(first|rw [az]|(simp only [aaw,aaA];rw [az])|skip);have H':=aM H;clear H;go_wp2;go_meet;exact⟨_,((t130 == 4)),qZ,H',⟨by have:=bF.out;have:=bB.out;first|omega|exact Nat.le_refl _⟩,⟨qK aa⟩,⟨qI HI0⟩,⟨qH⟩,⟨qB⟩⟩
    (first|rw [az]|(simp only [aaw,aaA];rw [az])|skip);replace H:=jE H;rcases H with ⟨bM,bN,H⟩ | ⟨gp,bM,bN,H⟩
    ·have H':=aM H;clear H;go_wp2;go_meet;exact⟨_,((t130 == 5)),qZ,H',⟨by have:=bF.out;have:=bB.out;first|omega|exact Nat.le_refl _⟩,⟨qK aa⟩,⟨qI HI0⟩,⟨qH⟩,⟨qB⟩⟩
    have H':=aM H;clear H;go_wp2;go_meet;exact⟨_,((t130 == 6)),qZ,H',⟨by have:=bF.out;have:=bB.out;first|omega|exact Nat.le_refl _⟩,⟨qK aa⟩,⟨qI HI0⟩,⟨qH⟩,⟨qB⟩⟩
   clear bD;obtain⟨kq,aC,rfl,HA,fe,aa,HI0,HK,HB⟩:=hcut
   cases kq with
   | zero=>exact absurd HA.out (by simp [afe])
   | succ au =>
    have H:=HA.out;clear HA;simp only [afe] at H;replace H:=jB H;rcases H with ⟨rfl,H⟩ | ⟨rfl,H⟩
    ·obtain⟨⟨t146,bO⟩,fo,H⟩:=qE H;try dsimp only at H
     obtain⟨⟨t148,bP⟩,fq,H⟩:=qE H;try dsimp only at H
     obtain⟨⟨bQ,bR⟩,fu,H⟩:=qE H;try dsimp only at H
     obtain⟨⟨t152,dC⟩,fw,H⟩:=qE H;try dsimp only at H
     obtain⟨rfl,rfl,rfl,rfl,rfl,rfl⟩:=oJ6 H;go_wp2_with (first|((with_reducible refine jc 54 41 ?_);refine jK func54 (abG au g ai t131 t146 bO w0 _ (qI HI0) qB fo.out) ?_;rintro gq ⟨hi,hb,hk⟩;replace aa:=kw hk aa ae;replace HK:=kI hk;replace HB:=aM hb;replace HI0:=aM hi;clear hb hk hi)|((with_reducible refine jc 54 43 ?_);refine jK func54 (abG au g ai bO t148 bP w0 _ (qI HI0) qB fq.out) ?_;rintro gu ⟨hi,hb,hk⟩;replace aa:=kw hk aa ae;replace HK:=kI hk;replace HB:=aM hb;replace HI0:=aM hi;clear hb hk hi)|((with_reducible refine jc 54 45 ?_);refine jK func54 (abG au g ai bP bQ bR w0 _ (qI HI0) qB fu.out) ?_;rintro gy ⟨hi,hb,hk⟩;replace aa:=kw hk aa ae;replace HK:=kI hk;replace HB:=aM hb;replace HI0:=aM hi;clear hb hk hi)|((with_reducible refine jc 126 50 ?_);refine jK func126 (ain au g ai bR t152 dC w0 _ (qI HI0) qB fw.out) ?_;rintro gz ⟨hi,hb,hk⟩;replace aa:=kw hk aa ae;replace HK:=kI hk;replace HB:=aM hb;replace HI0:=aM hi;clear hb hk hi;have dO:=ae.out;have dP:=aj.out;have fA:=jz5 aa));refine bodyPost_ret (results_cell_row rfl _ _ ah 31 #[iV 3,iV t146,iV t148,iV bQ,iV t152] (0,0) _ rfl (qF aa) underlying31 rfl (by kernel_rfl)) rfl ?_;exact⟨qW,qI HI0,qB,qH⟩
    replace H:=jE H;rcases H with ⟨bS,bT,H⟩ | ⟨gB,bS,bT,H⟩
    ·obtain⟨⟨t154,dD⟩,fB,H⟩:=qE H;try dsimp only at H
     obtain⟨rfl,rfl,rfl,rfl,rfl,rfl⟩:=oJ6 H;go_wp2_with (first|((with_reducible refine jc 55 56 ?_);refine jK func55 (aab au g ai t131 a1 t154 dD w0 _ (qI HI0) qB fB.out) ?_;rintro gD ⟨hi,hb,hk⟩;replace aa:=kw hk aa ae;replace HK:=kI hk;replace HB:=aM hb;replace HI0:=aM hi;clear hb hk hi;have dQ:=ae.out;have dR:=aj.out;have fC:=jz5 aa));refine bodyPost_ret (results_cell_row rfl _ _ ah 31 #[iV 4,iV 0,iV 0,iV 0,iV t154] (0,0) _ rfl (qF aa) underlying31 rfl (by kernel_rfl)) rfl ?_;exact⟨qW,qI HI0,qB,qH⟩
    replace H:=jE H;rcases H with ⟨bU,bV,H⟩ | ⟨gF,bU,bV,H⟩
    ·obtain⟨⟨t156,t157⟩,fD,H⟩:=qE H;try dsimp only at H
     obtain⟨⟨bW,t159⟩,fE,H⟩:=qE H;try dsimp only at H
     obtain⟨rfl,rfl,rfl,rfl,rfl,rfl⟩:=oJ6 H;go_wp2_with (first|((with_reducible refine jc 54 61 ?_);refine jK func54 (abG au g ai t131 t156 t157 w0 _ (qI HI0) qB fD.out) ?_;rintro gG ⟨hi,hb,hk⟩;replace aa:=kw hk aa ae;replace HK:=kI hk;replace HB:=aM hb;replace HI0:=aM hi;clear hb hk hi)|((with_reducible refine jc 55 65 ?_);refine jK func55 (aab au g ai t157 a1 bW t159 w0 _ (qI HI0) qB fE.out) ?_;rintro gH ⟨hi,hb,hk⟩;replace aa:=kw hk aa ae;replace HK:=kI hk;replace HB:=aM hb;replace HI0:=aM hi;clear hb hk hi;have dS:=ae.out;have dU:=aj.out;have fF:=jz5 aa));refine bodyPost_ret (results_cell_row rfl _ _ ah 31 #[iV 5,iV 0,iV t156,iV 0,iV bW] (0,0) _ rfl (qF aa) underlying31 rfl (by kernel_rfl)) rfl ?_;exact⟨qW,qI HI0,qB,qH⟩
    replace H:=jE H;rcases H with ⟨bX,bY,H⟩ | ⟨gI,bX,bY,H⟩
    ·obtain⟨⟨t160,bZ⟩,fG,H⟩:=qE H;try dsimp only at H
     obtain⟨⟨t162,dE⟩,fH,H⟩:=qE H;try dsimp only at H
     obtain⟨rfl,rfl,rfl,rfl,rfl,rfl⟩:=oJ6 H;go_wp2_with (first|((with_reducible refine jc 54 70 ?_);refine jK func54 (abG au g ai t131 t160 bZ w0 _ (qI HI0) qB fG.out) ?_;rintro gJ ⟨hi,hb,hk⟩;replace aa:=kw hk aa ae;replace HK:=kI hk;replace HB:=aM hb;replace HI0:=aM hi;clear hb hk hi)|((with_reducible refine jc 55 73 ?_);refine jK func55 (aab au g ai bZ 2 t162 dE w0 _ (qI HI0) qB fH.out) ?_;rintro gK ⟨hi,hb,hk⟩;replace aa:=kw hk aa ae;replace HK:=kI hk;replace HB:=aM hb;replace HI0:=aM hi;clear hb hk hi;have dV:=ae.out;have dW:=aj.out;have fI:=jz5 aa));refine bodyPost_ret (results_cell_row rfl _ _ ah 31 #[iV 6,iV 0,iV t160,iV 0,iV t162] (0,0) _ rfl (qF aa) underlying31 rfl (by kernel_rfl)) rfl ?_;exact⟨qW,qI HI0,qB,qH⟩
    replace H:=jE H;rcases H with ⟨cu,cz,H⟩ | ⟨c64,cu,cz,H⟩
    ·obtain⟨⟨t164,cB⟩,fJ,H⟩:=qE H;try dsimp only at H
     obtain⟨⟨cK,t167⟩,fK,H⟩:=qE H;try dsimp only at H
     obtain⟨rfl,rfl,rfl,rfl,rfl,rfl⟩:=oJ6 H;go_wp2_with (first|((with_reducible refine jc 54 78 ?_);refine jK func54 (abG au g ai t131 t164 cB w0 _ (qI HI0) qB fJ.out) ?_;rintro gL ⟨hi,hb,hk⟩;replace aa:=kw hk aa ae;replace HK:=kI hk;replace HB:=aM hb;replace HI0:=aM hi;clear hb hk hi)|((with_reducible refine jc 55 81 ?_);refine jK func55 (aab au g ai cB 2 cK t167 w0 _ (qI HI0) qB fK.out) ?_;rintro gM ⟨hi,hb,hk⟩;replace aa:=kw hk aa ae;replace HK:=kI hk;replace HB:=aM hb;replace HI0:=aM hi;clear hb hk hi;have dX:=ae.out;have dY:=aj.out;have fM:=jz5 aa));refine bodyPost_ret (results_cell_row rfl _ _ ah 31 #[iV 7,iV t164,iV 0,iV 0,iV cK] (0,0) _ rfl (qF aa) underlying31 rfl (by kernel_rfl)) rfl ?_;exact⟨qW,qI HI0,qB,qH⟩
    obtain⟨⟨t168,bE⟩,dZ,H⟩:=qE H;try dsimp only at H
    replace H:=jE H;rcases H with ⟨cO,df,H⟩ | ⟨c72,cO,df,H⟩
    ·obtain⟨rfl,rfl,rfl,rfl,rfl,rfl⟩:=oJ6 H;go_wp2_with (first|((with_reducible refine jc 55 84 ?_);refine jK func55 (aab au g ai t131 4 t168 bE w0 _ (qI HI0) qB dZ.out) ?_;rintro gN ⟨hi,hb,hk⟩;replace aa:=kw hk aa ae;replace HK:=kI hk;replace HB:=aM hb;replace HI0:=aM hi;clear hb hk hi;have d9:=ae.out;have ed:=aj.out;have fO:=jz5 aa));refine bodyPost_ret (results_cell_row rfl _ _ ah 31 #[iV 8,iV 0,iV 0,iV 0,iV 0] (0,0) _ rfl (qF aa) underlying31 rfl (by kernel_rfl)) rfl ?_;exact⟨qW,qI HI0,qB,qH⟩
    obtain⟨⟨dh,t171⟩,fP,H⟩:=qE H;try dsimp only at H
    obtain⟨rfl,rfl,rfl,rfl,rfl,rfl⟩:=oJ6 H;go_wp2_with (first|((with_reducible refine jc 55 84 ?_);refine jK func55 (aab au g ai t131 4 t168 bE w0 _ (qI HI0) qB dZ.out) ?_;rintro gP ⟨hi,hb,hk⟩;replace aa:=kw hk aa ae;replace HK:=kI hk;replace HB:=aM hb;replace HI0:=aM hi;clear hb hk hi)|((with_reducible refine jc 54 88 ?_);refine jK func54 (abG au g ai bE dh t171 w0 _ (qI HI0) qB fP.out) ?_;rintro gQ ⟨hi,hb,hk⟩;replace aa:=kw hk aa ae;replace HK:=kI hk;replace HB:=aM hb;replace HI0:=aM hi;clear hb hk hi;have ek:=ae.out;have eu:=aj.out;have fQ:=jz5 aa));refine bodyPost_ret (results_cell_row rfl _ _ ah 31 #[iV 9,iV 0,iV dh,iV 0,iV 0] (0,0) _ rfl (qF aa) underlying31 rfl (by kernel_rfl)) rfl ?_;exact⟨qW,qI HI0,qB,qH⟩
end Go.Proofs.YtdkkdiiceaomaaaGreat.M
namespace Go.Proofs.YtdkkdiiceaomaaaGreat.M
open Go.Proofs.Tryz Go.RowKit Go.Proofs.YtdkkdiiceaomaaaGreatW.PrintWords Go.Proofs.YtdkkdiiceaomaaaGreatW.PrintLast Go.Proofs.YtdkkdiiceaomaaaGreatW.PrintMore Kd
attribute [local go_sem] aas aaq aaH aaG aaj aai aar aap
def afd:Nat->Int->List S31->Int->List Int->Int->Option ((List S31) × Int)
 | 0,_,_,_,_,_=>none
 | k+1,x3,x4,x5,x1000,aK=>if (wrap64 (x5+1)) < x3 then ((am6 k x1000 aK x3).bind fun ai=>(if x4.length < 3518437208883 then (afd k x3 (x4 ++ [(⟨ai.1,ai.2.1,ai.2.2.1,ai.2.2.2.1,ai.2.2.2.2.1⟩:S31)]) (wrap64 (x5+1)) x1000 ai.2.2.2.2.2) else (none))) else ((ab4 k x1000 aK 3).bind fun av=>(if av.1=0 then ((ab4 k x1000 av.2 x3).bind fun aN=>(if x4.length < 3518437208883 then (some ((x4 ++ [(⟨4,0,0,0,aN.1⟩:S31)]),aN.2)) else (none))) else (if x4.length < 3518437208883 then (some ((x4 ++ [(⟨10,0,0,0,0⟩:S31)]),av.2)) else (none))))
def ako (k:Nat) (af:List Int) (ax:Int):Option ((List S31) × Int):=(ab4 k af ax 14).bind fun aQ=>(afd k (wrap64 (1+aQ.1)) (([]:List S31)) 0 af aQ.2)
theorem aiu (k g:Nat) (af:List Int) (ax:Int) (r1:List S31) (r2:Int) (w0 w:World) (hI:Sab w0 w g af ax) (hB:Below w0.heap.size w0 w) (h:ako k af ax=some (r1,r2)) :
  Calls prog 94 #[.pointer (some ⟨g,0,none⟩)] w fun e w'=>∃ bB:Value,e = .returned (bB)/\Kd.R k31 31 w' w.heap.size (fun _=>True) bB r1/\Sab w0 w' g af r2/\Below w0.heap.size w0 w'/\aa7 w w' g none:=by
 have bF:=underlying31;have HI0:=aM hI;have HK:=aM (aaK w g none);have HL:=aM hB.size;clear hI;have HW0:=aM hB.size;have HB:=aM hB;clear hB;have H:=h;unfold ako at H;clear h;obtain⟨⟨au,t173⟩,A2,H⟩:=qE H;try dsimp only at H
 obtain⟨bq,ak⟩:=ky ([]:List S31);replace H:=kv ak H;have H':=aM H;clear H;go_enter func94,ntmps94;go_wp2_with (first|((with_reducible refine jc 55 7 ?_);refine jK func55 (aab k g af ax 14 au t173 w0 _ (qI HI0) qB A2.out) ?_;rintro w3 ⟨hi,hb,hk⟩;replace HK:=kI hk;replace HB:=aM hb;replace HI0:=aM hi;clear hb hk hi)|((with_reducible refine jd 9 ?_);refine jV k31 31 ([]:List S31) [] (aa8 _ _) ?_;intro v175 w4 aT hb;replace aT:=kr ak aT;have aU:=aM (R_lower aT kU);replace HI0:=aM (Sab.below (qI HI0) hb);replace HK:=kY hb;replace HB:=kH hb;clear hb aT));go_loopg [4,5] k (fun kq v4 v5 w'=>∃ (aj:List S31) (aR:Int) (aa:Int),v5 = iV aR/\aa1 (afd kq (wrap64 (1+au)) aj aR af aa=some (r1,r2))/\aa1 (kq<=k)/\aa1 (Kd.R k31 31 w' w.heap.size (fun _=>True) v4 aj)/\aa1 (Sab w0 w' g af aa)/\aa1 (aa7 w w' g none)/\aa1 (Below w0.heap.size w0 w'));case atStart=>exact⟨(bq),(0),(t173),qZ,H',⟨Nat.le_refl _⟩,⟨qR aU⟩,⟨qI HI0⟩,⟨qH⟩,⟨qB⟩⟩
 clear H';obtain⟨aj,aR,aa,rfl,HA,bC,ae,HI0,HK,HB⟩:=hrel;rcases gk with _|k1
 ·exact absurd HA.out (by simp [afd])
 have H:=HA.out;clear HA;simp only [afd] at H;replace H:=jD H;rcases H with ⟨bu,H⟩ | ⟨bu,H⟩
 ·obtain⟨⟨ay,az,aA,aB,aC,t182⟩,A7,H⟩:=qE H;try dsimp only at H
  replace H:=jL H;obtain⟨bv,H⟩:=H;obtain⟨bG,aD⟩:=ky ((aj ++ [(⟨ay,az,aA,aB,aC⟩:S31)]):List S31);replace H:=kv aD H;have H':=aM H;clear H;go_wp2_with (first|((with_reducible refine jc 112 19 ?_);refine jK func112 (am7 k1 g af aa (wrap64 (1+au)) ay az aA aB aC t182 w0 _ (qI HI0) qB A7.out) ?_;rintro bH ⟨hi,hb,hk⟩;replace ae:=aM (R_mono (R_keep (Sab.apart (show Sab w0 _ g af aa from qI HI0) (qR ae) (by decide)) hk (fun _ h=>h.2)) (fun _ h=>h.1));replace HK:=kI hk;replace HB:=aM hb;replace HI0:=aM hi;clear hb hk hi)|((with_reducible refine aa9 (b:=.append) (xs:=#[.tmp 16,.tmp 20]) rfl ?_);at_builtin;refine R_append k31 w.heap.size rfl (.tmp 16) (.tmp 20) 23 31 (.agg #[(iV 0),(iV 0),(iV 0),(iV 0),(iV 0)]) 40 rfl underlying23 abb rfl (by decide) (by omega) u4 aj (⟨ay,az,aA,aB,aC⟩:S31) [iV ay,iV az,iV aA,iV aB,iV aC] (fun _=>True) (fun _=>False) rfl rfl ?aP (fun _ hk=>hk.elim) ?aF ?aO (Below.refl _ _) ?aS ?aL ?_;(case aP=>exact aaV _ _ _ (⟨ay,az,aA,aB,aC⟩:S31));(case aF=>exact (fun _ _=>trivial));(case aO=>exact (qR ae));(case aS=>exact kU);(case aL=>have:=bv.out;omega);intro bI bJ ho hb hg hat;rw [<- aD.out] at ho;have aV:=aM ho;replace HI0:=aM (Sab.grown (qI HI0) hg (aci HI0.out ae.out (by decide)));replace HB:=aM (abO qB HL.out hb);replace HK:=aM (aa7.trans qH (aaU hg g) (R_base2 ae.out));clear ae;clear ho hb hg hat));go_roundg k1;case measure=>have:=bC.out;omega
  exact⟨_,_,_,qZ,H',⟨by have:=bC.out;omega⟩,⟨qR aV⟩,⟨qI HI0⟩,⟨qH⟩,⟨qB⟩⟩
 obtain⟨⟨aW,aJ⟩,bD,H⟩:=qE H;try dsimp only at H
 replace H:=jE H;rcases H with ⟨aX,aY,H⟩ | ⟨c12,aX,aY,H⟩
 ·obtain⟨⟨aG,bz⟩,bK,H⟩:=qE H;try dsimp only at H
  replace H:=jL H;obtain⟨aZ,H⟩:=H;obtain⟨bL,aH⟩:=ky ((aj ++ [(⟨4,0,0,0,aG⟩:S31)]):List S31);replace H:=kv aH H;obtain⟨rfl,rfl⟩:=oJ2 H;go_wp2_with (first|((with_reducible refine jc 55 23 ?_);refine jK func55 (aab k1 g af aa 3 aW aJ w0 _ (qI HI0) qB bD.out) ?_;rintro bA ⟨hi,hb,hk⟩;replace ae:=aM (R_mono (R_keep (Sab.apart (show Sab w0 _ g af aa from qI HI0) (qR ae) (by decide)) hk (fun _ h=>h.2)) (fun _ h=>h.1));replace HK:=kI hk;replace HB:=aM hb;replace HI0:=aM hi;clear hb hk hi)|((with_reducible refine jc 55 28 ?_);refine jK func55 (aab k1 g af aJ (wrap64 (1+au)) aG bz w0 _ (qI HI0) qB bK.out) ?_;rintro bM ⟨hi,hb,hk⟩;replace ae:=aM (R_mono (R_keep (Sab.apart (show Sab w0 _ g af aJ from qI HI0) (qR ae) (by decide)) hk (fun _ h=>h.2)) (fun _ h=>h.1));replace HK:=kI hk;replace HB:=aM hb;replace HI0:=aM hi;clear hb hk hi)|((with_reducible refine aa9 (b:=.append) (xs:=#[.tmp 25,.tmp 30]) rfl ?_);at_builtin;refine R_append k31 w.heap.size rfl (.tmp 25) (.tmp 30) 23 31 (.agg #[(iV 0),(iV 0),(iV 0),(iV 0),(iV 0)]) 40 rfl underlying23 abb rfl (by decide) (by omega) u4 aj (⟨4,0,0,0,aG⟩:S31) [iV 4,iV 0,iV 0,iV 0,iV aG] (fun _=>True) (fun _=>False) rfl rfl ?aP (fun _ hk=>hk.elim) ?aF ?aO (Below.refl _ _) ?aS ?aL ?_;(case aP=>exact aaV _ _ _ (⟨4,0,0,0,aG⟩:S31));(case aF=>exact (fun _ _=>trivial));(case aO=>exact (qR ae));(case aS=>exact kU);(case aL=>have:=aZ.out;omega);intro bN bO ho hb hg hat;rw [<- aH.out] at ho;have bg:=aM ho;replace HI0:=aM (Sab.grown (qI HI0) hg (aci HI0.out ae.out (by decide)));replace HB:=aM (abO qB HL.out hb);replace HK:=aM (aa7.trans qH (aaU hg g) (R_base2 ae.out));clear ae;clear ho hb hg hat));go_ret;exact⟨_,qW,qR bg,qI HI0,qB,qH⟩
 replace H:=jL H;obtain⟨bi,H⟩:=H;obtain⟨bP,aI⟩:=ky ((aj ++ [(⟨10,0,0,0,0⟩:S31)]):List S31);replace H:=kv aI H;obtain⟨rfl,rfl⟩:=oJ2 H;go_wp2_with (first|((with_reducible refine jc 55 23 ?_);refine jK func55 (aab k1 g af aa 3 aW aJ w0 _ (qI HI0) qB bD.out) ?_;rintro bA ⟨hi,hb,hk⟩;replace ae:=aM (R_mono (R_keep (Sab.apart (show Sab w0 _ g af aa from qI HI0) (qR ae) (by decide)) hk (fun _ h=>h.2)) (fun _ h=>h.1));replace HK:=kI hk;replace HB:=aM hb;replace HI0:=aM hi;clear hb hk hi)|((with_reducible refine aa9 (b:=.append) (xs:=#[.tmp 32,.tmp 34]) rfl ?_);at_builtin;refine R_append k31 w.heap.size rfl (.tmp 32) (.tmp 34) 23 31 (.agg #[(iV 0),(iV 0),(iV 0),(iV 0),(iV 0)]) 40 rfl underlying23 abb rfl (by decide) (by omega) u4 aj (⟨10,0,0,0,0⟩:S31) [iV 10,iV 0,iV 0,iV 0,iV 0] (fun _=>True) (fun _=>False) rfl rfl ?aP (fun _ hk=>hk.elim) ?aF ?aO (Below.refl _ _) ?aS ?aL ?_;(case aP=>exact aaV _ _ _ (⟨10,0,0,0,0⟩:S31));(case aF=>exact (fun _ _=>trivial));(case aO=>exact (qR ae));(case aS=>exact kU);(case aL=>have:=bi.out;omega);intro v194 bQ ho hb hg hat;rw [<- aI.out] at ho;have bn:=aM ho;replace HI0:=aM (Sab.grown (qI HI0) hg (aci HI0.out ae.out (by decide)));replace HB:=aM (abO qB HL.out hb);replace HK:=aM (aa7.trans qH (aaU hg g) (R_base2 ae.out));clear ae;clear ho hb hg hat));go_ret;exact⟨_,qW,qR bn,qI HI0,qB,qH⟩
end Go.Proofs.YtdkkdiiceaomaaaGreat.M
namespace Go.Proofs.YtdkkdiiceaomaaaGreat.M
open Go.Proofs.Tryz Go.RowKit Go.Proofs.YtdkkdiiceaomaaaGreatW.PrintWords Go.Proofs.YtdkkdiiceaomaaaGreatW.PrintLast Go.Proofs.YtdkkdiiceaomaaaGreatW.PrintMore
attribute [local go_sem] aas aaq aaH aaG aaj aai aar aap
mutual
def aeJ:Nat->List aam->Int->Int->Option (Int)
 | 0,_,_,_=>none
 | k+1,x0,x3,x4=>if x4 < (x0.length:Int) then (if 0<=x4 then ((SaC.f k ((aac x0 x4).f4)).bind fun bM=>((SaC.f k ((aac x0 x4).f5)).bind fun bN=>(aeJ k x0 (wrap64 ((wrap64 ((wrap64 (x3+1))+bM))+bN)) (wrap64 (x4+1))))) else (none)) else (some x3)
def SaC.f:Nat->List aam->Option (Int)
 | 0,_=>none
 | k+1,l0=>aeJ k l0 0 0
end
def aoK:Bool × List (List Nat × List Nat):=(true,[([],[]),([0],[0]),([],[]),([],[]),([2,3],[2,3]),([4],[4]),([5],[5]),([6],[6]),([1,7],[1,7]),([],[]),([],[]),([9,10],[9,10]),([11],[11]),([12],[12]),([13,7],[13]),([8,14],[8,14]),([15,14,0,1,2,3,4,5,6,7,8,9,10,11,12,13,14,15],[0,15])])
def ar2:List Nat:=[0,1,0,0,12,28,60,124,255,0,0,1536,3584,7680,16124,32767,65535]
theorem ao1:ad7 .any (opsOf f116 5)=aoK:=by kernel_rfl
theorem amY:abl aoK.2 ar2=true:=by kernel_rfl
theorem SaC.calls (k:Nat):∀ (A0:Option Addr) (c0:Nat) (l0:List aam) (r:Int) (w:World) (hr0:Kd.C abt w A0 l0.length l0) (hc0:l0.length<=c0) (h:SaC.f k l0=some r),
  Calls prog 116 #[.slice A0 l0.length c0] w fun e w'=>e = .returned (iV r)/\Below w.heap.size w w':=by
 induction k using Nat.strongRecOn with
 | _ k ih =>
 intro A0 c0 l0 r w hr0 hc0 h
 cases k with
 | zero=>exact absurd h (by simp [SaC.f])
 | succ k =>
 simp only [SaC.f] at h;have dD:=aM hr0;have dF:=aM hc0;clear hr0 hc0;have HB:=jb_ w;have H:(aeJ k l0 0 0)=some r:=h;clear h;have H':=aM H;clear H;go_enter func116,ntmps116;go_wp2;go_loopg [3,4] k (fun kq v3 v4 w'=>∃ (bO:Int) (aa:Int),v3 = iV bO/\v4 = iV aa/\aa1 (aeJ kq l0 bO aa=some r)/\aa1 (kq<=k)/\aa1 (Below w.heap.size w w'));case atStart=>exact⟨(0),(0),qZ,qZ,H',⟨Nat.le_refl _⟩,⟨qB⟩⟩
 clear H';obtain⟨bO,aa,rfl,rfl,HA,cu,HB⟩:=hrel;rcases gk with _|k1
 ·exact absurd HA.out (by simp [aeJ])
 have H:=HA.out;clear HA;simp only [aeJ] at H;replace H:=jD H;rcases H with ⟨df,H⟩ | ⟨df,H⟩
 ·replace H:=jI H;obtain⟨dE,H⟩:=H;obtain⟨bM,A4,H⟩:=qE H;try dsimp only at H
  obtain⟨bN,A5,H⟩:=qE H;try dsimp only at H
  have H':=aM H;clear H;try go_wp2
  replace HB:=aM (aah HB.out);have bV:0<=(aa:Int):=qD;have bW:aa < (l0.length:Int):=qD;obtain⟨ae,bI,bJ,aX,aY,aZ,bg,dh,au,av,ax,ay,az,af,ag,ah,bi,bn,bq,bu,bv,bz⟩:=ag6 dD.out aa bV bW;have aG:=ah;have aH:=ag;have aI:=af;have aJ:=az;have aK:=ay;have aL:=ax;have aN:=av;have aO:=au;cases dh;replace au:=kx HB au;replace av:=kx HB av;replace ax:=kx HB ax;replace ay:=kx HB ay;replace az:=kx HB az;replace af:=kx HB af;replace ag:=kx HB ag;replace ah:=kx HB ah;have bP:=aM bn;have cz:=aM bi;clear bn bi;have bA:=aM bu;have bQ:=aM bq;clear bu bq;have bR:=aM bz;have cB:=aM bv;clear bz bv;replace bV:=eq_true bV;replace bW:=eq_true bW;have bX:0<=(aa:Int):=qD;have bY:aa < (l0.length:Int):=qD;obtain⟨bZ,di,dn,dw,dx,dz,dA,dB,aA,aB,aC,aD,aF,ai,aj,ak,bB,bC,bD,bE,bF,bG⟩:=ag6 dD.out aa bX bY;have aP:=ak;have aQ:=aj;have aR:=ai;have aS:=aF;have aT:=aD;have aU:=aC;have aV:=aB;have aW:=aA;obtain rfl:ae=bZ:=(by injection dB);replace aA:=kx HB aA;replace aB:=kx HB aB;replace aC:=kx HB aC;replace aD:=kx HB aD;replace aF:=kx HB aF;replace ai:=kx HB ai;replace aj:=kx HB aj;replace ak:=kx HB ak;have bS:=aM bC;have cK:=aM bB;clear bC bB;have bT:=aM bE;have cO:=aM bD;clear bE bD;have bH:=aM bG;have bU:=aM bF;clear bG bF;replace bX:=eq_true bX;replace bY:=eq_true bY;have ea_:=Option.some.inj (af.symm.trans ai);injection ea_ with ea_ en_ ec_
  subst ea_;subst ec_;clear en_;have ea_:=Option.some.inj (ag.symm.trans aj);injection ea_ with ea_ en_ ec_
  subst ea_;subst ec_;clear en_;have ea_:=Option.some.inj (ah.symm.trans ak);injection ea_ with ea_ en_ ec_
  subst ea_;subst ec_;clear en_;refine abx (n:=17) (S:=fun w'=>w'.cell? (ae.add ((aa).toNat*8))=some (iV ((aac l0 aa).f0))/\w'.cell? ⟨(ae.add ((aa).toNat*8)).block,(ae.add ((aa).toNat*8)).off+1,none⟩=some (iV ((aac l0 aa).f1))/\w'.cell? ⟨(ae.add ((aa).toNat*8)).block,(ae.add ((aa).toNat*8)).off+2,none⟩=some (iV ((aac l0 aa).f2))/\w'.cell? ⟨(ae.add ((aa).toNat*8)).block,(ae.add ((aa).toNat*8)).off+3,none⟩=some (iV ((aac l0 aa).f3.f0))/\w'.cell? ⟨(ae.add ((aa).toNat*8)).block,(ae.add ((aa).toNat*8)).off+4,none⟩=some (iV ((aac l0 aa).f3.f1))/\w'.cell? ⟨(ae.add ((aa).toNat*8)).block,(ae.add ((aa).toNat*8)).off+5,none⟩=some (.slice bI ((aac l0 aa).f3.f2).length bJ)/\w'.cell? ⟨(ae.add ((aa).toNat*8)).block,(ae.add ((aa).toNat*8)).off+6,none⟩=some (.slice aX ((aac l0 aa).f4).length aY)/\w'.cell? ⟨(ae.add ((aa).toNat*8)).block,(ae.add ((aa).toNat*8)).off+7,none⟩=some (.slice aZ ((aac l0 aa).f5).length bg)/\w'.cell? (ae.add ((aa).toNat*8))=some (iV ((aac l0 aa).f0))/\w'.cell? ⟨(ae.add ((aa).toNat*8)).block,(ae.add ((aa).toNat*8)).off+1,none⟩=some (iV ((aac l0 aa).f1))/\w'.cell? ⟨(ae.add ((aa).toNat*8)).block,(ae.add ((aa).toNat*8)).off+2,none⟩=some (iV ((aac l0 aa).f2))/\w'.cell? ⟨(ae.add ((aa).toNat*8)).block,(ae.add ((aa).toNat*8)).off+3,none⟩=some (iV ((aac l0 aa).f3.f0))/\w'.cell? ⟨(ae.add ((aa).toNat*8)).block,(ae.add ((aa).toNat*8)).off+4,none⟩=some (iV ((aac l0 aa).f3.f1))/\w'.cell? ⟨(ae.add ((aa).toNat*8)).block,(ae.add ((aa).toNat*8)).off+5,none⟩=some (.slice bI ((aac l0 aa).f3.f2).length bJ)/\w'.cell? ⟨(ae.add ((aa).toNat*8)).block,(ae.add ((aa).toNat*8)).off+6,none⟩=some (.slice aX ((aac l0 aa).f4).length aY)/\w'.cell? ⟨(ae.add ((aa).toNat*8)).block,(ae.add ((aa).toNat*8)).off+7,none⟩=some (.slice aZ ((aac l0 aa).f5).length bg)) (ds:=[]) (jb 17 0) (by kernel_rfl) rfl rfl ⟨(kx HB aO),(kx HB aN),(kx HB aL),(kx HB aK),(kx HB aJ),(kx HB aI),(kx HB aH),(kx HB aG),(kx HB aW),(kx HB aV),(kx HB aU),(kx HB aT),(kx HB aS),(kx HB aR),(kx HB aQ),(kx HB aP)⟩ (fun hHeld=>?_);refine ab7 ao1 amY (fun HT_ HW_=>?_);generalize wr.drew=w6 at HB bP bA bR bS bT bH au av ax ay az af ag ah aA aB aC aD aF ai aj ak hHeld ⊢;refine jp 0 11 (jb 17 1) ?_;refine jp 1 12 (jb 17 3) ?_;refine jp 2 13 (jb 17 7) ?_;refine jp 3 14 (jb 17 15) ?_;refine jp 4 15 (jb 17 31) ?_;refine jp 5 16 (jb 17 63) ?_;refine jp 9 20 (jb 17 575) ?_;refine jp 10 21 (jb 17 1599) ?_;refine jp 11 22 (jb 17 3647) ?_;refine jp 12 23 (jb 17 7743) ?_;refine jt 6 17 (jb 17 7807) ?_;refine jt 13 24 (jb 17 15999) ?_;refine ad3 (i:=7) (N:=some 18) (jb 17 16127) rfl rfl (ab0 HT_.out (by kernel_rfl)) (by decide) (fun K hK=>?_);refine abm func116 (by kernel_rfl) rfl #[.slice aX ((aac l0 aa).f4).length aY] (by rfl) rfl rfl qM ?_
  with_reducible refine (ih k1 (by have:=cu.out;omega) _ _ ((aac l0 aa).f4) bM _ ?bK ?bL A4.out).mono ?_
  (case bK=>exact kb bA HB);(case bL=>exact bQ.out);rintro e w7 ⟨rfl,hb⟩;refine⟨_,rfl,?_⟩;replace HB:=kH hb;(try clear hb);(try clear hb2);(try clear hk);(try clear hi);refine hK.out _ _ ⟨(kx HB aO),(kx HB aN),(kx HB aL),(kx HB aK),(kx HB aJ),(kx HB aI),(kx HB aH),(kx HB aG),(kx HB aW),(kx HB aV),(kx HB aU),(kx HB aT),(kx HB aS),(kx HB aR),(kx HB aQ),(kx HB aP)⟩ (fun hHeld=>?_);clear hK K;refine aau (a':=?_) ?_ ?_;rotate_left
  ·show Act.put _ (some 18) _=_
   simp only [Act.put,List.setIfInBounds_toArray,List.set_cons_zero,List.set_cons_succ,aaw,aaA];rfl
  refine jp 8 19 (jb 17 16383) ?_;refine ad3 (i:=14) (N:=some 25) (jb 17 32767) rfl rfl (ab0 HT_.out (by kernel_rfl)) (by decide) (fun K hK=>?_);refine abm func116 (by kernel_rfl) rfl #[.slice aZ ((aac l0 aa).f5).length bg] (by rfl) rfl rfl qM ?_
  with_reducible refine (ih k1 (by have:=cu.out;omega) _ _ ((aac l0 aa).f5) bN _ ?bK ?bL A5.out).mono ?_
  (case bK=>exact kb bH HB);(case bL=>exact bU.out);rintro e w8 ⟨rfl,hb⟩;refine⟨_,rfl,?_⟩;replace HB:=kH hb;(try clear hb);(try clear hb2);(try clear hk);(try clear hi);refine hK.out _ _ ⟨(kx HB aO),(kx HB aN),(kx HB aL),(kx HB aK),(kx HB aJ),(kx HB aI),(kx HB aH),(kx HB aG),(kx HB aW),(kx HB aV),(kx HB aU),(kx HB aT),(kx HB aS),(kx HB aR),(kx HB aQ),(kx HB aP)⟩ (fun hHeld=>?_);clear hK K;refine aau (a':=?_) ?_ ?_;rotate_left
  ·show Act.put _ (some 25) _=_
   simp only [Act.put,List.setIfInBounds_toArray,List.set_cons_zero,List.set_cons_succ,aaw,aaA];rfl
  refine jp 15 26 (jb 17 65535) ?_;refine jp 16 3 (jb 17 131071) ?_;refine ac6 (abu HT_.out (by kernel_rfl)) ?_;try go_wp2
  go_roundg k1;case measure=>have:=cu.out;omega
  exact⟨(wrap64 ((wrap64 ((wrap64 (bO+1))+bM))+bN)),(wrap64 (aa+1)),qZ,qZ,H',⟨by have:=cu.out;omega⟩,⟨qB⟩⟩
 obtain rfl:=oJ H;go_wp2;go_ret;exact⟨qW,qB⟩
def agD (ax aa ay az aA:Int) (ae:List aaN) (af ag:List aam) (a1:Bool):Option (Bool):=if a1=true then ((ae4 aa 0 3).bind fun t201=>(some t201)) else (some (aa == 0))
theorem ar1 {G:Prop} (h:G:=by
  go_enter func153,ntmps153;go_wp2_with (first|((with_reducible refine jd 2 ?_);refine jY _ 135 ?_;intro aJ hg aT aB hb;have aK:=kG hg;replace HB:=kH hb;clear hb hg;have aU:=jz8 aB)|((with_reducible refine jc 60 8 ?_);refine jG func60 #[iV aa,iV 0,iV 3] ?_;refine (Sbm.calls _ _ _ _ _ (aa1.out (by assumption))).mono ?_;rintro e w' ⟨rfl,⟨nd,rfl⟩⟩;refine⟨_,rfl,?_⟩));go_ret
  exact⟨qW,qB⟩):G:=h
theorem aaY (ax aa ay az aA:Int) (aC:Option Addr) (aD:Nat) (ae:List aaN) (aF:Option Addr) (aG:Nat) (af:List aam) (aH:Option Addr) (aI:Nat) (ag:List aam) (a1 r:Bool) (w:World) (ah:Kd.C acN w aC ae.length ae) (ai:ae.length<=aD) (aj:Kd.C abt w aF af.length af) (ak:af.length<=aG) (au:Kd.C abt w aH ag.length ag) (av:ag.length<=aI) (h:agD ax aa ay az aA ae af ag a1=some r) :
  Calls prog 153 #[.agg #[iV ax,iV aa,iV ay,iV az,iV aA,.slice aC ae.length aD,.slice aF af.length aG,.slice aH ag.length aI],.bool a1] w fun e w'=>e = .returned (.bool r)/\Below w.heap.size w w':=by
 have aL:=underlying135;have aN:=aM ah;have aO:=aM ai;clear ah ai;have aP:=aM aj;have aQ:=aM ak;clear aj ak;have aR:=aM au;have aS:=aM av;clear au av;have HB:=jb_ w;have H:=h;unfold agD at H;clear h;replace H:=jB H;rcases H with ⟨rfl,H⟩ | ⟨rfl,H⟩
 ·obtain⟨t201,A4,H⟩:=qE H;try dsimp only at H
  obtain rfl:=oJ H;exact ar1
 obtain rfl:=oJ H;exact ar1
def agF (ax ay aa az aA:Int) (ae:List aaN) (af ag:List aam) (a1:Bool):Option (Bool):=if a1=true then ((ae4 aa 0 2).bind fun t203=>(some t203)) else (some (aa == 0))
theorem ar3 {G:Prop} (h:G:=by
  go_enter func154,ntmps154;go_wp2_with (first|((with_reducible refine jd 2 ?_);refine jY _ 135 ?_;intro aJ hg aT aB hb;have aK:=kG hg;replace HB:=kH hb;clear hb hg;have aU:=jz8 aB)|((with_reducible refine jc 60 8 ?_);refine jG func60 #[iV aa,iV 0,iV 2] ?_;refine (Sbm.calls _ _ _ _ _ (aa1.out (by assumption))).mono ?_;rintro e w' ⟨rfl,⟨nd,rfl⟩⟩;refine⟨_,rfl,?_⟩));go_ret
  exact⟨qW,qB⟩):G:=h
theorem abj (ax ay aa az aA:Int) (aC:Option Addr) (aD:Nat) (ae:List aaN) (aF:Option Addr) (aG:Nat) (af:List aam) (aH:Option Addr) (aI:Nat) (ag:List aam) (a1 r:Bool) (w:World) (ah:Kd.C acN w aC ae.length ae) (ai:ae.length<=aD) (aj:Kd.C abt w aF af.length af) (ak:af.length<=aG) (au:Kd.C abt w aH ag.length ag) (av:ag.length<=aI) (h:agF ax ay aa az aA ae af ag a1=some r) :
  Calls prog 154 #[.agg #[iV ax,iV ay,iV aa,iV az,iV aA,.slice aC ae.length aD,.slice aF af.length aG,.slice aH ag.length aI],.bool a1] w fun e w'=>e = .returned (.bool r)/\Below w.heap.size w w':=by
 have aL:=underlying135;have aN:=aM ah;have aO:=aM ai;clear ah ai;have aP:=aM aj;have aQ:=aM ak;clear aj ak;have aR:=aM au;have aS:=aM av;clear au av;have HB:=jb_ w;have H:=h;unfold agF at H;clear h;replace H:=jB H;rcases H with ⟨rfl,H⟩ | ⟨rfl,H⟩
 ·obtain⟨t203,A4,H⟩:=qE H;try dsimp only at H
  obtain rfl:=oJ H;exact ar3
 obtain rfl:=oJ H;exact ar3
def ahM:Nat->Int->Int->List aaN->Int->Option (Bool)
 | 0,_,_,_,_=>none
 | k+1,ai,aj,ae,a1=>if a1 < 1 then (some false) else (if ai=0 then ((ae4 aj 0 99999).bind fun t206=>(if t206=true then (some ((ae.length:Int) == 0)) else (some false))) else (if ai=13 then ((ae4 aj 0 3).bind fun aX=>(if aX=true then (some ((ae.length:Int) == 0)) else (some false))) else ((ajm ai).bind fun t208=>(if t208=true then (if aj=0 then (if (ae.length:Int)=2 then (if 0 < (ae.length:Int) then ((ahM k ((aaB ae 0).f0) ((aaB ae 0).f1) ((aaB ae 0).f2) (wrap64 (a1 - 1))).bind fun t210=>(if t210=true then (if 1 < (ae.length:Int) then ((ahM k ((aaB ae 1).f0) ((aaB ae 1).f1) ((aaB ae 1).f2) (wrap64 (a1 - 1))).bind fun t212=>(some t212)) else (none)) else (some false))) else (none)) else (some false)) else (some false)) else (some false)))))
theorem alZ (k:Nat):∀ (ai:Int) (aj:Int) (aR:Option Addr) (aS:Nat) (ae:List aaN) (a1:Int) (r:Bool) (w:World) (aK:Kd.C acN w aR ae.length ae) (aL:ae.length<=aS) (h:ahM k ai aj ae a1=some r),
  Calls prog 161 #[.agg #[iV ai,iV aj,.slice aR ae.length aS],iV a1] w fun e w'=>e = .returned (.bool r)/\Below w.heap.size w w':=by
 induction k using Nat.strongRecOn with
 | _ k ih =>
 intro ai aj aR aS ae a1 r w aK aL h
 cases k with
 | zero=>exact absurd h (by simp [ahM])
 | succ k =>
 simp only [ahM] at h;have bG:=underlying133;have aN:=aM aK;have bH:=aM aL;clear aK aL;have HB:=jb_ w;have H:=h;clear h;replace H:=jD H;rcases H with ⟨bA,H⟩ | ⟨bA,H⟩
 ·obtain rfl:=oJ H;go_enter func161,ntmps161;go_wp2_with (first|((with_reducible refine jd 2 ?_);(try (refine aal (by rfl) ?_;dsimp only));refine jY _ 133 ?_;intro ak hg w4 aa hb;have au:=kG hg;replace HB:=kH hb;clear hb hg));go_ret;exact⟨qW,qB⟩
 replace H:=jE H;rcases H with ⟨bB,bC,H⟩ | ⟨c5,bB,bC,H⟩
 ·obtain⟨t206,A6,H⟩:=qE H;try dsimp only at H
  replace H:=jB H;rcases H with ⟨rfl,H⟩ | ⟨rfl,H⟩
  ·obtain rfl:=oJ H;go_enter func161,ntmps161;go_wp2_with (first|((with_reducible refine jd 2 ?_);(try (refine aal (by rfl) ?_;dsimp only));refine jY _ 133 ?_;intro ak hg w8 aa hb;have au:=kG hg;replace HB:=kH hb;clear hb hg;have cu:=jz3 aa)|((with_reducible refine jc 60 12 ?_);refine jK func60 (Sbm.calls aj 0 99999 true _ A6.out) ?_;rintro w' ⟨nd,rfl⟩));go_ret;exact⟨qW,qB⟩
  obtain rfl:=oJ H;go_enter func161,ntmps161;go_wp2_with (first|((with_reducible refine jd 2 ?_);(try (refine aal (by rfl) ?_;dsimp only));refine jY _ 133 ?_;intro ak hg cz aa hb;have au:=kG hg;replace HB:=kH hb;clear hb hg;have bQ:=jz3 aa)|((with_reducible refine jc 60 12 ?_);refine jK func60 (Sbm.calls aj 0 99999 false _ A6.out) ?_;rintro w' ⟨nd,rfl⟩));go_ret;exact⟨qW,qB⟩
 replace H:=jE H;rcases H with ⟨aY,aZ,H⟩ | ⟨c12,aY,aZ,H⟩
 ·obtain⟨aX,bI,H⟩:=qE H;try dsimp only at H
  replace H:=jB H;rcases H with ⟨rfl,H⟩ | ⟨rfl,H⟩
  ·obtain rfl:=oJ H;go_enter func161,ntmps161;go_wp2_with (first|((with_reducible refine jd 2 ?_);(try (refine aal (by rfl) ?_;dsimp only));refine jY _ 133 ?_;intro ak hg cB aa hb;have au:=kG hg;replace HB:=kH hb;clear hb hg;have bR:=jz3 aa)|((with_reducible refine jc 60 24 ?_);refine jK func60 (Sbm.calls aj 0 3 true _ bI.out) ?_;rintro w' ⟨nd,rfl⟩));go_ret;exact⟨qW,qB⟩
  obtain rfl:=oJ H;go_enter func161,ntmps161;go_wp2_with (first|((with_reducible refine jd 2 ?_);(try (refine aal (by rfl) ?_;dsimp only));refine jY _ 133 ?_;intro ak hg cK aa hb;have au:=kG hg;replace HB:=kH hb;clear hb hg;have bS:=jz3 aa)|((with_reducible refine jc 60 24 ?_);refine jK func60 (Sbm.calls aj 0 3 false _ bI.out) ?_;rintro w' ⟨nd,rfl⟩));go_ret;exact⟨qW,qB⟩
 obtain⟨t208,bg,H⟩:=qE H;try dsimp only at H
 replace H:=jB H;rcases H with ⟨rfl,H⟩ | ⟨rfl,H⟩
 ·replace H:=jE H;rcases H with ⟨bi,bn,H⟩ | ⟨c21,bi,bn,H⟩
  ·replace H:=jE H;rcases H with ⟨bq,bu,H⟩ | ⟨cO,bq,bu,H⟩
   ·replace H:=jU H;obtain⟨c23,H⟩:=H;have bJ:=decide_eq_true c23;have bK:decide (0 < ae.length)=true:=decide_eq_true (by omega);clear c23;obtain⟨t210,bL,H⟩:=qE H;try dsimp only at H
    replace H:=jB H;rcases H with ⟨rfl,H⟩ | ⟨rfl,H⟩
    ·replace H:=jU H;obtain⟨bM,H⟩:=H;have bN:=decide_eq_true bM;have bO:decide (1 < ae.length)=true:=decide_eq_true (by omega);clear bM;obtain⟨t212,bT,H⟩:=qE H;try dsimp only at H
     obtain rfl:=oJ H;go_enter func161,ntmps161;go_wp2_with (first|((with_reducible refine jd 2 ?_);(try (refine aal (by rfl) ?_;dsimp only));refine jY _ 133 ?_;intro ak hg df aa hb;have au:=kG hg;replace HB:=kH hb;clear hb hg;have bU:=jz3 aa)|((with_reducible refine jc 102 33 ?_);refine jK func102 (acw ai true _ bg.out) ?_;rintro w' ⟨nd,rfl⟩;have aG:0<=(0:Int):=(by omega);have aH:0 < (ae.length:Int):=qD;obtain⟨aQ,aT,aU,e209,af,ag,ah,av,ax⟩:=ag7 aN.out 0 aG aH;cases e209;have bv:(0 < ae.length)=True:=eq_true (by omega);(try rw [show ((0:Int)).toNat=0 from rfl] at af);(try rw [show 0*3=0 from rfl] at af);(try rw [Addr.add_zero'] at af);(try rw [show ((0:Int)).toNat=0 from rfl] at ag);(try rw [show 0*3=0 from rfl] at ag);(try rw [Addr.add_zero'] at ag);(try rw [show ((0:Int)).toNat=0 from rfl] at ah);(try rw [show 0*3=0 from rfl] at ah);(try rw [Addr.add_zero'] at ah);replace af:=kx HB af;replace ag:=kx HB ag;replace ah:=kx HB ah;have aB:=aM ax;have aC:=aM av;clear ax av;replace aG:=eq_true aG;replace aH:=eq_true aH)|(go_at_call 161;(with_reducible refine (ih k (by omega) ((aaB ae 0).f0) ((aaB ae 0).f1) _ _ ((aaB ae 0).f2) (wrap64 (a1 - 1)) true _ ?aD ?aF bL.out).mono ?_);(case aD=>exact kC (Kd.C_below aB.out qB));(case aF=>exact aC.out);rintro e dh ⟨rfl,hb⟩;replace aa:=kB aa hb;replace HB:=kH hb;clear hb;have bV:=jz3 aa;have aV:0<=(1:Int):=(by omega);have aW:1 < (ae.length:Int):=qD;obtain⟨bz,bD,bE,e211,ay,az,aA,aI,aJ⟩:=ag7 aN.out 1 aV aW;obtain rfl:aQ=bz:=(by injection e211);(try simp only [show (1:Int).toNat=1 from rfl,Nat.reduceMul,Nat.reduceEqDiff,Go.Addr.add,↓reduceIte] at ay);(try simp only [show (1:Int).toNat=1 from rfl,Nat.reduceMul,Nat.reduceEqDiff,Go.Addr.add,↓reduceIte] at az);(try simp only [show (1:Int).toNat=1 from rfl,Nat.reduceMul,Nat.reduceEqDiff,Go.Addr.add,↓reduceIte] at aA);have bP:(1 < ae.length)=True:=eq_true (by omega);(try rw [show ((1:Int)).toNat=1 from rfl] at ay);(try rw [show 1*3=3 from rfl] at ay);(try rw [show ((1:Int)).toNat=1 from rfl] at az);(try rw [show 1*3=3 from rfl] at az);(try rw [show ((1:Int)).toNat=1 from rfl] at aA);(try rw [show 1*3=3 from rfl] at aA);replace ay:=kx HB ay;replace az:=kx HB az;replace aA:=kx HB aA;have aO:=aM aJ;have aP:=aM aI;clear aJ aI;replace aV:=eq_true aV;replace aW:=eq_true aW)|(go_at_call 161;(with_reducible refine (ih k (by omega) ((aaB ae 1).f0) ((aaB ae 1).f1) _ _ ((aaB ae 1).f2) (wrap64 (a1 - 1)) t212 _ ?aD ?aF bT.out).mono ?_);(case aD=>exact kb aO HB);(case aF=>exact aP.out);rintro e w32 ⟨rfl,hb⟩;replace aa:=kB aa hb;replace HB:=kH hb;clear hb));go_ret;exact⟨qW,qB⟩
    obtain rfl:=oJ H;go_enter func161,ntmps161;go_wp2_with (first|((with_reducible refine jd 2 ?_);(try (refine aal (by rfl) ?_;dsimp only));refine jY _ 133 ?_;intro ak hg di aa hb;have au:=kG hg;replace HB:=kH hb;clear hb hg;have bW:=jz3 aa)|((with_reducible refine jc 102 33 ?_);refine jK func102 (acw ai true _ bg.out) ?_;rintro w' ⟨nd,rfl⟩;have aG:0<=(0:Int):=(by omega);have aH:0 < (ae.length:Int):=qD;obtain⟨aQ,aT,aU,e209,af,ag,ah,av,ax⟩:=ag7 aN.out 0 aG aH;cases e209;have bv:(0 < ae.length)=True:=eq_true (by omega);(try rw [show ((0:Int)).toNat=0 from rfl] at af);(try rw [show 0*3=0 from rfl] at af);(try rw [Addr.add_zero'] at af);(try rw [show ((0:Int)).toNat=0 from rfl] at ag);(try rw [show 0*3=0 from rfl] at ag);(try rw [Addr.add_zero'] at ag);(try rw [show ((0:Int)).toNat=0 from rfl] at ah);(try rw [show 0*3=0 from rfl] at ah);(try rw [Addr.add_zero'] at ah);replace af:=kx HB af;replace ag:=kx HB ag;replace ah:=kx HB ah;have aB:=aM ax;have aC:=aM av;clear ax av;replace aG:=eq_true aG;replace aH:=eq_true aH)|(go_at_call 161;(with_reducible refine (ih k (by omega) ((aaB ae 0).f0) ((aaB ae 0).f1) _ _ ((aaB ae 0).f2) (wrap64 (a1 - 1)) false _ ?aD ?aF bL.out).mono ?_);(case aD=>exact kC (Kd.C_below aB.out qB));(case aF=>exact aC.out);rintro e dn ⟨rfl,hb⟩;replace aa:=kB aa hb;replace HB:=kH hb;clear hb));go_ret;exact⟨qW,qB⟩
   obtain rfl:=oJ H;go_enter func161,ntmps161;go_wp2_with (first|((with_reducible refine jd 2 ?_);(try (refine aal (by rfl) ?_;dsimp only));refine jY _ 133 ?_;intro ak hg dw aa hb;have au:=kG hg;replace HB:=kH hb;clear hb hg;have bX:=jz3 aa)|((with_reducible refine jc 102 33 ?_);refine jK func102 (acw ai true _ bg.out) ?_;rintro w' ⟨nd,rfl⟩));go_ret;exact⟨qW,qB⟩
  obtain rfl:=oJ H;go_enter func161,ntmps161;go_wp2_with (first|((with_reducible refine jd 2 ?_);(try (refine aal (by rfl) ?_;dsimp only));refine jY _ 133 ?_;intro ak hg dx aa hb;have au:=kG hg;replace HB:=kH hb;clear hb hg;have bY:=jz3 aa)|((with_reducible refine jc 102 33 ?_);refine jK func102 (acw ai true _ bg.out) ?_;rintro w' ⟨nd,rfl⟩));go_ret;exact⟨qW,qB⟩
 obtain rfl:=oJ H;go_enter func161,ntmps161;go_wp2_with (first|((with_reducible refine jd 2 ?_);(try (refine aal (by rfl) ?_;dsimp only));refine jY _ 133 ?_;intro ak hg dz aa hb;have au:=kG hg;replace HB:=kH hb;clear hb hg;have bZ:=jz3 aa)|((with_reducible refine jc 102 33 ?_);refine jK func102 (acw ai false _ bg.out) ?_;rintro w' ⟨nd,rfl⟩));go_ret;exact⟨qW,qB⟩
def ajn (k:Nat) (ae af:Int) (aa:List aaN):Option (Bool):=(ahM k ae af aa 5).bind fun ag=>(some ag)
theorem acW (k:Nat) (ae af:Int) (ak:Option Addr) (au:Nat) (aa:List aaN) (r:Bool) (w:World) (ai:Kd.C acN w ak aa.length aa) (aj:aa.length<=au) (h:ajn k ae af aa=some r) :
  Calls prog 155 #[.agg #[iV ae,iV af,.slice ak aa.length au]] w fun e w'=>e = .returned (.bool r)/\Below w.heap.size w w':=by
 have aA:=underlying133;have av:=aM ai;have ax:=aM aj;clear ai aj;have HB:=jb_ w;have H:((ahM k ae af aa 5).bind fun ag=>(some ag))=some r:=h;clear h;obtain⟨ag,A2,H⟩:=qE H;try dsimp only at H
 obtain rfl:=oJ H;go_enter func155,ntmps155;go_wp2_with (first|((with_reducible refine jd 1 ?_);refine jY _ 133 ?_;intro aB hg w3 ah hb;have aC:=kG hg;replace HB:=kH hb;clear hb hg;have aD:=jz3 ah)|((with_reducible refine jc 161 4 ?_);refine jK func161 (alZ k ae af _ _ aa 5 ag _ (kb av HB) ax.out A2.out) ?_;intro w5 hb;replace ah:=kB ah hb;replace HB:=kH hb;clear hb));go_ret;exact⟨qW,qB⟩
def amX (ae af:Int) (aa:List aaN):Option (Bool):=if ae=0 then (if af=0 then (some ((aa.length:Int) == 0)) else (some false)) else (some false)
theorem apA {G:Prop} (h:G:=by
  go_enter func160,ntmps160;go_wp2_with (first|((with_reducible refine jd 1 ?_);(try (refine aal (by rfl) ?_;dsimp only));refine jY _ 133 ?_;intro az hg aF ai hb;have aA:=kG hg;replace HB:=kH hb;clear hb hg;have aG:=jz3 ai));go_ret
  exact⟨qW,qB⟩):G:=h
theorem aiD (ae af:Int) (aj:Option Addr) (ak:Nat) (aa:List aaN) (r:Bool) (w:World) (ag:Kd.C acN w aj aa.length aa) (ah:aa.length<=ak) (h:amX ae af aa=some r) :
  Calls prog 160 #[.agg #[iV ae,iV af,.slice aj aa.length ak]] w fun e w'=>e = .returned (.bool r)/\Below w.heap.size w w':=by
 have aB:=underlying133;have aC:=aM ag;have aD:=aM ah;clear ag ah;have HB:=jb_ w;have H:=h;unfold amX at H;clear h;replace H:=jE H;rcases H with ⟨au,av,H⟩ | ⟨c2,au,av,H⟩
 ·replace H:=jE H;rcases H with ⟨ax,ay,H⟩ | ⟨c3,ax,ay,H⟩
  ·obtain rfl:=oJ H;exact apA
  obtain rfl:=oJ H;exact apA
 obtain rfl:=oJ H;exact apA
end Go.Proofs.YtdkkdiiceaomaaaGreat.M
