/- Part 1 of the proof: FnExactOptimizeCode holds, for every input. -/
import Derived.Test.YtahbkldagpfcaaaProg
import Derived.Below
import Derived.Deep.Draws
import Derived.Deep.AppendLies
import Derived.Maps.AppendAt
import Derived.OwnWalk
import Derived.Laws.BytesArg
import Derived.Laws.MakeOwn
import Derived.Laws.OwnMore
import Derived.Deep.OwnRows
import Derived.Tactics
import Derived.Lib.ConvBytes
import Derived.Laws.Slices
import Derived.WalkKit
import Derived.KernelRfl
import Derived.RowKit3
import Derived.Deep.LoopGhost
import Derived.Deep.QuietTactic
import Derived.BigQuiet
import Derived.WideLaws
import Derived.Deep.DeepCutAuto
import Derived.Deep.CutBlock
import Derived.Deep.RegionHeld3
import Derived.Laws.Rows
import Derived.Lib.AppendStr
import Derived.ArgAppend
import Derived.Laws.IdiomCopy
import Derived.OrdersHeld
import Derived.Laws.BitsLemmas
import Derived.RowKit
import Derived.Test.YtahbkldagpfcaaaZFWWords
import Derived.Test.YtahbkldagpfcaaaZFWLast
import Derived.Test.YtahbkldagpfcaaaZFWTab
import Derived.Test.YtahbkldagpfcaaaZFWFour
import Derived.Test.YtahbkldagpfcaaaZFWQPut
import Derived.Test.YtahbkldagpfcaaaZFWApart
import Derived.Test.YtahbkldagpfcaaaZFWArr
import Derived.Test.YtahbkldagpfcaaaZFWZeros
import Derived.Test.YtahbkldagpfcaaaZFWFoot
import Derived.Test.YtahbkldagpfcaaaZFWKept
import Derived.Test.YtahbkldagpfcaaaZFWShare
import Derived.Test.YtahbkldagpfcaaaZFWN
import Derived.Test.YtahbkldagpfcaaaZFWFootNe
import Derived.Test.YtahbkldagpfcaaaZFWAt
import Derived.Test.YtahbkldagpfcaaaZFWEqStruct
import Derived.Test.YtahbkldagpfcaaaZFWRepsOne
import Derived.Test.YtahbkldagpfcaaaZFWInv
import Derived.Test.YtahbkldagpfcaaaZFWInvWords
import Derived.Test.YtahbkldagpfcaaaZFWGuard
import Derived.Test.YtahbkldagpfcaaaZFWNEv
import Derived.Test.YtahbkldagpfcaaaZFWMore
set_option linter.unusedVariables false
set_option linter.unusedSimpArgs false
set_option maxHeartbeats 8000000
set_option maxRecDepth 100000
namespace Go.Proofs.Ytahbkldagpfcaaa.M
open Go.RowKit Go.Proofs.YtahbkldagpfcaaaW.PrintWords Go.Proofs.YtahbkldagpfcaaaW.PrintLast Go.Proofs.YtahbkldagpfcaaaW.PrintMore
attribute [local go_sem] max2_int min2_int max_two min_two max_three min_three max_four min_four
def errW:Option Int->Value
  | none=>.nilIface
  | some c=>.iface 0 (.int .i64 c)
theorem errW_none:errW none = .nilIface:=rfl
theorem errW_some (c:Int):errW (some c) = .iface 0 (.int .i64 c):=rfl
theorem info3:(Try.prog.info? 3).map (fun i=>(i.zero,i.size,i.bytes))=some (some (.int .i64 0),1,8):=by kernel_rfl
theorem info4:(Try.prog.info? 4).map (fun i=>(i.zero,i.size,i.bytes))=some (some (.bool false),1,1):=by kernel_rfl
theorem info31:(Try.prog.info? 31).map (fun i=>(i.zero,i.size,i.bytes))=some (some (.slice none 0 0),1,24):=by kernel_rfl
theorem info46:(Try.prog.info? 46).map (fun i=>(i.zero,i.size,i.bytes))=some (some (.agg #[(.int .i64 0),(.int .i64 0),(.int .i64 0),(.int .i64 0),(.int .i64 0)]),5,40):=by kernel_rfl
theorem info51:(Try.prog.info? 51).map (fun i=>(i.zero,i.size,i.bytes))=some (some (.int .u16 0),1,2):=by kernel_rfl
theorem info65:(Try.prog.info? 65).map (fun i=>(i.zero,i.size,i.bytes))=some (some (.slice none 0 0),1,24):=by kernel_rfl
theorem info74:(Try.prog.info? 74).map (fun i=>(i.zero,i.size,i.bytes))=some (some (.agg #[(.int .i64 0),(.int .i64 0)]),2,16):=by kernel_rfl
theorem info91:(Try.prog.info? 91).map (fun i=>(i.zero,i.size,i.bytes))=some (some (.slice none 0 0),1,24):=by kernel_rfl
-- the values' own types
structure S48 where
  f0:Int
  f1:Int
  f2:Int
  f3:Int
  f4:Int
def z48:S48:=⟨(0:Int),(0:Int),(0:Int),(0:Int),(0:Int)⟩
def k48:Kd S48:=Kd.iso (Kd.pair (Kd.int .i64) (Kd.pair (Kd.int .i64) (Kd.pair (Kd.int .i64) (Kd.pair (Kd.int .i64) (Kd.int .i64))))) (fun x:S48=>(x.f0,x.f1,x.f2,x.f3,x.f4))
theorem k48_open {w:World} {x:S48} {cs:List Value} (h:k48.K w x cs):cs=[.int .i64 x.f0,.int .i64 x.f1,.int .i64 x.f2,.int .i64 x.f3,.int .i64 x.f4]:=by
  obtain⟨_,_,rfl,rfl,⟨_,_,rfl,rfl,⟨_,_,rfl,rfl,⟨_,_,rfl,rfl,rfl⟩⟩⟩⟩:=h
  exact rfl
theorem k48_mkM (w:World) (base:Nat) (ok:Nat->Prop) (x:S48)  : k48.M w base ok x [.int .i64 x.f0,.int .i64 x.f1,.int .i64 x.f2,.int .i64 x.f3,.int .i64 x.f4]:=⟨[.int .i64 x.f0],[.int .i64 x.f1,.int .i64 x.f2,.int .i64 x.f3,.int .i64 x.f4],rfl,rfl,⟨[.int .i64 x.f1],[.int .i64 x.f2,.int .i64 x.f3,.int .i64 x.f4],rfl,rfl,⟨[.int .i64 x.f2],[.int .i64 x.f3,.int .i64 x.f4],rfl,rfl,⟨[.int .i64 x.f3],[.int .i64 x.f4],rfl,rfl,rfl⟩⟩⟩⟩
def rd_T48 (xs:List S48) (i:Int):S48:=xs.getD i.toNat z48
theorem at_T48 {w:World} {A:Option Addr} {n:Nat} {xs:List S48} (h:Kd.C k48 w A n xs) (i:Int) (h0:0<=i) (h1:i < n):∃ ad ,A=some ad/\w.cell? (ad.add (i.toNat*5))=some (.int .i64 (rd_T48 xs i).f0)/\w.cell? ⟨(ad.add (i.toNat*5)).block,(ad.add (i.toNat*5)).off+1,none⟩=some (.int .i64 (rd_T48 xs i).f1)/\w.cell? ⟨(ad.add (i.toNat*5)).block,(ad.add (i.toNat*5)).off+2,none⟩=some (.int .i64 (rd_T48 xs i).f2)/\w.cell? ⟨(ad.add (i.toNat*5)).block,(ad.add (i.toNat*5)).off+3,none⟩=some (.int .i64 (rd_T48 xs i).f3)/\w.cell? ⟨(ad.add (i.toNat*5)).block,(ad.add (i.toNat*5)).off+4,none⟩=some (.int .i64 (rd_T48 xs i).f4):=by
  obtain⟨ad,c,e,_,hK,hc0⟩:=Kd.C_get h z48 i h0 h1
  have hc:∀ j u,c[j]?=some u->w.cell? (ad.add (i.toNat*5+j))=some u:=hc0
  obtain rfl:=k48_open hK
  exact⟨ad,e,hc 0 _ rfl,by rw [<- add_field _ _ 1 (by omega)];exact hc 1 _ rfl,by rw [<- add_field _ _ 2 (by omega)];exact hc 2 _ rfl,by rw [<- add_field _ _ 3 (by omega)];exact hc 3 _ rfl,by rw [<- add_field _ _ 4 (by omega)];exact hc 4 _ rfl⟩
structure S46 where
  f0:Int
  f1:Int
  f2:Int
  f3:Int
  f4:Int
def z46:S46:=⟨(0:Int),(0:Int),(0:Int),(0:Int),(0:Int)⟩
def k46:Kd S46:=Kd.iso (Kd.pair (Kd.int .i64) (Kd.pair (Kd.int .i64) (Kd.pair (Kd.int .i64) (Kd.pair (Kd.int .i64) (Kd.int .i64))))) (fun x:S46=>(x.f0,x.f1,x.f2,x.f3,x.f4))
theorem k46_heap:Kd.Heap k46:=Kd.heap_iso _ (Kd.heap_pair (Kd.heap_int .i64) (Kd.heap_pair (Kd.heap_int .i64) (Kd.heap_pair (Kd.heap_int .i64) (Kd.heap_pair (Kd.heap_int .i64) (Kd.heap_int .i64)))))
theorem k46_open {w:World} {x:S46} {cs:List Value} (h:k46.K w x cs):cs=[.int .i64 x.f0,.int .i64 x.f1,.int .i64 x.f2,.int .i64 x.f3,.int .i64 x.f4]:=by
  obtain⟨_,_,rfl,rfl,⟨_,_,rfl,rfl,⟨_,_,rfl,rfl,⟨_,_,rfl,rfl,rfl⟩⟩⟩⟩:=h
  exact rfl
theorem k46_openM {w:World} {base:Nat} {ok:Nat->Prop} {x:S46} {cs:List Value} (h:k46.M w base ok x cs):cs=[.int .i64 x.f0,.int .i64 x.f1,.int .i64 x.f2,.int .i64 x.f3,.int .i64 x.f4]:=by
  obtain⟨_,_,rfl,rfl,⟨_,_,rfl,rfl,⟨_,_,rfl,rfl,⟨_,_,rfl,rfl,rfl⟩⟩⟩⟩:=h
  exact rfl
theorem k46_mkM (w:World) (base:Nat) (ok:Nat->Prop) (x:S46)  : k46.M w base ok x [.int .i64 x.f0,.int .i64 x.f1,.int .i64 x.f2,.int .i64 x.f3,.int .i64 x.f4]:=⟨[.int .i64 x.f0],[.int .i64 x.f1,.int .i64 x.f2,.int .i64 x.f3,.int .i64 x.f4],rfl,rfl,⟨[.int .i64 x.f1],[.int .i64 x.f2,.int .i64 x.f3,.int .i64 x.f4],rfl,rfl,⟨[.int .i64 x.f2],[.int .i64 x.f3,.int .i64 x.f4],rfl,rfl,⟨[.int .i64 x.f3],[.int .i64 x.f4],rfl,rfl,rfl⟩⟩⟩⟩
def rd_T46 (xs:List S46) (i:Int):S46:=xs.getD i.toNat z46
theorem at_T46 {w:World} {A:Option Addr} {n:Nat} {xs:List S46} (h:Kd.C k46 w A n xs) (i:Int) (h0:0<=i) (h1:i < n):∃ ad ,A=some ad/\w.cell? (ad.add (i.toNat*5))=some (.int .i64 (rd_T46 xs i).f0)/\w.cell? ⟨(ad.add (i.toNat*5)).block,(ad.add (i.toNat*5)).off+1,none⟩=some (.int .i64 (rd_T46 xs i).f1)/\w.cell? ⟨(ad.add (i.toNat*5)).block,(ad.add (i.toNat*5)).off+2,none⟩=some (.int .i64 (rd_T46 xs i).f2)/\w.cell? ⟨(ad.add (i.toNat*5)).block,(ad.add (i.toNat*5)).off+3,none⟩=some (.int .i64 (rd_T46 xs i).f3)/\w.cell? ⟨(ad.add (i.toNat*5)).block,(ad.add (i.toNat*5)).off+4,none⟩=some (.int .i64 (rd_T46 xs i).f4):=by
  obtain⟨ad,c,e,_,hK,hc0⟩:=Kd.C_get h z46 i h0 h1
  have hc:∀ j u,c[j]?=some u->w.cell? (ad.add (i.toNat*5+j))=some u:=hc0
  obtain rfl:=k46_open hK
  exact⟨ad,e,hc 0 _ rfl,by rw [<- add_field _ _ 1 (by omega)];exact hc 1 _ rfl,by rw [<- add_field _ _ 2 (by omega)];exact hc 2 _ rfl,by rw [<- add_field _ _ 3 (by omega)];exact hc 3 _ rfl,by rw [<- add_field _ _ 4 (by omega)];exact hc 4 _ rfl⟩
def rd_L4 (xs:List (List Bool)) (i:Int):(List Bool):=xs.getD i.toNat ([]:List Bool)
theorem at_L4 {w:World} {A:Option Addr} {n:Nat} {xs:List (List Bool)} (h:Kd.C (Kd.slice 4 Kd.bool) w A n xs) (i:Int) (h0:0<=i) (h1:i < n):∃ ad A0 c0,A=some ad/\w.cell? (ad.add i.toNat)=some (.slice A0 (rd_L4 xs i).length c0)/\(rd_L4 xs i).length<=c0/\Kd.bool.C w A0 (rd_L4 xs i).length (rd_L4 xs i):=by
  obtain⟨ad,c,e,_,hK,hc0⟩:=Kd.C_get h ([]:List Bool) i h0 h1
  have hc:∀ j u,c[j]?=some u->w.cell? (ad.add (i.toNat*1+j))=some u:=hc0
  obtain⟨A0,c0,rfl,l0,g0⟩:=hK
  exact⟨ad,A0,c0,e,by have hq:=hc 0 _ rfl;rwa [Nat.mul_one,Nat.add_zero] at hq,l0,g0⟩
def rd_L7 (xs:List (List Int)) (i:Int):(List Int):=xs.getD i.toNat ([]:List Int)
theorem at_L7 {w:World} {A:Option Addr} {n:Nat} {xs:List (List Int)} (h:Kd.C (Kd.slice 3 (Kd.int .i64)) w A n xs) (i:Int) (h0:0<=i) (h1:i < n):∃ ad A0 c0,A=some ad/\w.cell? (ad.add i.toNat)=some (.slice A0 (rd_L7 xs i).length c0)/\(rd_L7 xs i).length<=c0/\(Kd.int .i64).C w A0 (rd_L7 xs i).length (rd_L7 xs i):=by
  obtain⟨ad,c,e,_,hK,hc0⟩:=Kd.C_get h ([]:List Int) i h0 h1
  have hc:∀ j u,c[j]?=some u->w.cell? (ad.add (i.toNat*1+j))=some u:=hc0
  obtain⟨A0,c0,rfl,l0,g0⟩:=hK
  exact⟨ad,A0,c0,e,by have hq:=hc 0 _ rfl;rwa [Nat.mul_one,Nat.add_zero] at hq,l0,g0⟩
structure S74 where
  f0:Int
  f1:Int
def z74:S74:=⟨(0:Int),(0:Int)⟩
def k74:Kd S74:=Kd.iso (Kd.pair (Kd.int .i64) (Kd.int .i64)) (fun x:S74=>(x.f0,x.f1))
theorem k74_open {w:World} {x:S74} {cs:List Value} (h:k74.K w x cs):cs=[.int .i64 x.f0,.int .i64 x.f1]:=by
  obtain⟨_,_,rfl,rfl,rfl⟩:=h
  exact rfl
theorem k74_openM {w:World} {base:Nat} {ok:Nat->Prop} {x:S74} {cs:List Value} (h:k74.M w base ok x cs):cs=[.int .i64 x.f0,.int .i64 x.f1]:=by
  obtain⟨_,_,rfl,rfl,rfl⟩:=h
  exact rfl
theorem k74_mkM (w:World) (base:Nat) (ok:Nat->Prop) (x:S74)  : k74.M w base ok x [.int .i64 x.f0,.int .i64 x.f1]:=⟨[.int .i64 x.f0],[.int .i64 x.f1],rfl,rfl,rfl⟩
def rd_T74 (xs:List S74) (i:Int):S74:=xs.getD i.toNat z74
theorem at_T74 {w:World} {A:Option Addr} {n:Nat} {xs:List S74} (h:Kd.C k74 w A n xs) (i:Int) (h0:0<=i) (h1:i < n):∃ ad ,A=some ad/\w.cell? (ad.add (i.toNat*2))=some (.int .i64 (rd_T74 xs i).f0)/\w.cell? ⟨(ad.add (i.toNat*2)).block,(ad.add (i.toNat*2)).off+1,none⟩=some (.int .i64 (rd_T74 xs i).f1):=by
  obtain⟨ad,c,e,_,hK,hc0⟩:=Kd.C_get h z74 i h0 h1
  have hc:∀ j u,c[j]?=some u->w.cell? (ad.add (i.toNat*2+j))=some u:=hc0
  obtain rfl:=k74_open hK
  exact⟨ad,e,hc 0 _ rfl,by rw [<- add_field _ _ 1 (by omega)];exact hc 1 _ rfl⟩
def rd_L9 (xs:List (List S74)) (i:Int):(List S74):=xs.getD i.toNat ([]:List S74)
theorem at_L9 {w:World} {A:Option Addr} {n:Nat} {xs:List (List S74)} (h:Kd.C (Kd.slice 74 k74) w A n xs) (i:Int) (h0:0<=i) (h1:i < n):∃ ad A0 c0,A=some ad/\w.cell? (ad.add i.toNat)=some (.slice A0 (rd_L9 xs i).length c0)/\(rd_L9 xs i).length<=c0/\k74.C w A0 (rd_L9 xs i).length (rd_L9 xs i):=by
  obtain⟨ad,c,e,_,hK,hc0⟩:=Kd.C_get h ([]:List S74) i h0 h1
  have hc:∀ j u,c[j]?=some u->w.cell? (ad.add (i.toNat*1+j))=some u:=hc0
  obtain⟨A0,c0,rfl,l0,g0⟩:=hK
  exact⟨ad,A0,c0,e,by have hq:=hc 0 _ rfl;rwa [Nat.mul_one,Nat.add_zero] at hq,l0,g0⟩
theorem qE {α β:Type} {o:Option α} {f:α->Option β} {r:β} (h:o.bind f=some r):∃ a,Aside0 (o=some a)/\f a=some r:=by
  obtain⟨a,h1,h2⟩:=Option.bind_eq_some_iff.mp h
  exact⟨a,⟨h1⟩,h2⟩
theorem qB {B:Nat} {w W:World} (h:Below B w W:=by repeat (first|(with_reducible first|exact HB.out|apply below_alloc|apply pw_below_drewN|apply below_drew1|refine below_set ?_ (Aside0.out (by assumption)))|exact HB.out)):Below B w W:=h
theorem qD {p:Prop} [d:Decidable p] (h:decide p=true:=by first|(with_reducible assumption)|assumption):p:=of_decide_eq_true h
theorem qZ {p:Prop} (h:p:=by first|rfl|(simp;done)|(simp [*];done)):p:=h
theorem qM {p:Prop} (h:p:=by (try simp only [List.map_toArray,List.map_cons,List.map_nil]);first|done|rfl|(simp only [List.length_drop,List.length_take];rfl)):p:=h
theorem qK {p q:Prop} (h:Aside0 p) (f:p->q:=by intro h_;(with_reducible repeat (first|refine blk_drewN ?_ _|refine blk_drew ?_|refine blk_alloc ?_ _));exact h_):q:=f h.out
theorem qR {p q:Prop} (h:Aside0 p) (f:p->q:=by intro h_;(with_reducible repeat (first|apply Kd.R_alloc|apply Kd.R_drewN|apply Kd.R_drew));exact h_):q:=f h.out
theorem qT {p:Prop} (h:p:=by repeat (first|(with_reducible first|exact HK.out|apply Kept.alloc|apply Kept.drewN|apply Kept.drew)|exact HK.out)):p:=h
theorem qS {p q:Prop} (h:Aside0 p) (f:p->q:=by intro h_;(with_reducible repeat (first|apply Kd.S_alloc|apply Kd.S_drewN|apply Kd.S_drew));exact h_):q:=f h.out
theorem foot_T46_0 {w:World} {ad:Addr} {n:Nat} {xs:List S46} (h:Kd.C k46 w (some ad) n xs) (i:Int) (h0:0<=i) (h1:i < n):w.cell? (ad.add (i.toNat*5))=some (.int .i64 (rd_T46 xs i).f0):=by
  obtain⟨ad2,e,h_0,h_1,h_2,h_3,h_4⟩:=at_T46 h i h0 h1
  injection e with e
  subst e
  exact h_0
theorem foot_T46_1 {w:World} {ad:Addr} {n:Nat} {xs:List S46} (h:Kd.C k46 w (some ad) n xs) (i:Int) (h0:0<=i) (h1:i < n):w.cell? ⟨(ad.add (i.toNat*5)).block,(ad.add (i.toNat*5)).off+1,none⟩=some (.int .i64 (rd_T46 xs i).f1):=by
  obtain⟨ad2,e,h_0,h_1,h_2,h_3,h_4⟩:=at_T46 h i h0 h1
  injection e with e
  subst e
  exact h_1
theorem foot_T46_2 {w:World} {ad:Addr} {n:Nat} {xs:List S46} (h:Kd.C k46 w (some ad) n xs) (i:Int) (h0:0<=i) (h1:i < n):w.cell? ⟨(ad.add (i.toNat*5)).block,(ad.add (i.toNat*5)).off+2,none⟩=some (.int .i64 (rd_T46 xs i).f2):=by
  obtain⟨ad2,e,h_0,h_1,h_2,h_3,h_4⟩:=at_T46 h i h0 h1
  injection e with e
  subst e
  exact h_2
theorem foot_T46_3 {w:World} {ad:Addr} {n:Nat} {xs:List S46} (h:Kd.C k46 w (some ad) n xs) (i:Int) (h0:0<=i) (h1:i < n):w.cell? ⟨(ad.add (i.toNat*5)).block,(ad.add (i.toNat*5)).off+3,none⟩=some (.int .i64 (rd_T46 xs i).f3):=by
  obtain⟨ad2,e,h_0,h_1,h_2,h_3,h_4⟩:=at_T46 h i h0 h1
  injection e with e
  subst e
  exact h_3
theorem foot_T46_4 {w:World} {ad:Addr} {n:Nat} {xs:List S46} (h:Kd.C k46 w (some ad) n xs) (i:Int) (h0:0<=i) (h1:i < n):w.cell? ⟨(ad.add (i.toNat*5)).block,(ad.add (i.toNat*5)).off+4,none⟩=some (.int .i64 (rd_T46 xs i).f4):=by
  obtain⟨ad2,e,h_0,h_1,h_2,h_3,h_4⟩:=at_T46 h i h0 h1
  injection e with e
  subst e
  exact h_4
theorem foot_T74_0 {w:World} {ad:Addr} {n:Nat} {xs:List S74} (h:Kd.C k74 w (some ad) n xs) (i:Int) (h0:0<=i) (h1:i < n):w.cell? (ad.add (i.toNat*2))=some (.int .i64 (rd_T74 xs i).f0):=by
  obtain⟨ad2,e,h_0,h_1⟩:=at_T74 h i h0 h1
  injection e with e
  subst e
  exact h_0
theorem foot_T74_1 {w:World} {ad:Addr} {n:Nat} {xs:List S74} (h:Kd.C k74 w (some ad) n xs) (i:Int) (h0:0<=i) (h1:i < n):w.cell? ⟨(ad.add (i.toNat*2)).block,(ad.add (i.toNat*2)).off+1,none⟩=some (.int .i64 (rd_T74 xs i).f1):=by
  obtain⟨ad2,e,h_0,h_1⟩:=at_T74 h i h0 h1
  injection e with e
  subst e
  exact h_1
theorem frozen_at {W w':World} {n:Nat} (hq:W.drewN n=w') {a:Addr} {b:Bool} (h:W.frozen? a=b):w'.frozen? a=b:=by
  rw [<- hq,World.frozen?_drewN];exact h
theorem tyap {α β:Type} {d:Kd α} {d':Kd β} {e e':Nat} {w:World} {base:Nat} {ok:Nat->Prop} {v:Value} {xs:List α} (h:d.R e w base ok v xs) (hne:∀ q,q∈e' :: d'.E->q≠e) {k:Nat} (hk:some k=v.ownBlock) (hs:∃ q,q∈e' :: d'.E/\∃ cells,w.heap[k]?=some (.cells cells q (0,0))):False:=by
  obtain⟨q,hq,c,hc⟩:=hs
  obtain⟨c',hc'⟩:=Kd.R_typed h k hk.symm
  rw [hc] at hc'
  injection hc' with hc'
  injection hc' with _ hc'
  exact hne q hq hc'
def jb (n k:Nat):Array Bool:=((List.range n).map fun i=>k.testBit i).toArray
theorem jI {c:Prop} [Decidable c] {α:Type} {A:Option α} {r:α} (h:(if c then A else none)=some r):decide c=true/\A=some r:=by
  by_cases x:c
  · exact⟨decide_eq_true x,by rwa [if_pos x] at h⟩
  · rw [if_neg x] at h;cases h
theorem jU {c:Prop} [Decidable c] {α:Type} {A:Option α} {r:α} (h:(if c then A else none)=some r):c/\A=some r:=⟨of_decide_eq_true (jI h).1,(jI h).2⟩
theorem jJ {c:Prop} [Decidable c] {α:Type} {A:Option α} {r:α} (h:(if c then A else none)=some r):c=True/\decide c=true/\A=some r:=⟨eq_true (jU h).1,jI h⟩
theorem jL {c:Prop} [Decidable c] {α:Type} {A:Option α} {r:α} (h:(if c then A else none)=some r):Aside0 c/\A=some r:=⟨⟨(jU h).1⟩,(jU h).2⟩
theorem jD {c:Prop} [Decidable c] {α:Type} {A B:Option α} {r:α} (h:(if c then A else B)=some r):(decide c=true/\A=some r)\/(decide c=false/\B=some r):=by
  by_cases x:c
  · exact .inl ⟨decide_eq_true x,by rwa [if_pos x] at h⟩
  · exact .inr ⟨decide_eq_false x,by rwa [if_neg x] at h⟩
theorem jE {β:Type} [BEq β] [LawfulBEq β] {x y:β} [Decidable (x=y)] {α:Type} {A B:Option α} {r:α} (h:(if x=y then A else B)=some r):((x == y)=true/\(x != y)=false/\A=some r)\/(¬ x=y/\(x == y)=false/\(x != y)=true/\B=some r):=by
  by_cases c:x=y
  · exact .inl ⟨beq_iff_eq.mpr c,bne_eq_false_iff_eq.mpr c,by rwa [if_pos c] at h⟩
  · exact .inr ⟨c,beq_eq_false_iff_ne.mpr c,bne_iff_ne.mpr c,by rwa [if_neg c] at h⟩
theorem jB {b:Bool} {α:Type} {A B:Option α} {r:α} (h:(if b=true then A else B)=some r):(b=true/\A=some r)\/(b=false/\B=some r):=by
  cases b
  · exact .inr ⟨rfl,h⟩
  · exact .inl ⟨rfl,h⟩
theorem blk_farO {w:World} {g g' j:Nat} {o:Option Obj} (h:w.heap[g]?=o) (hp:g≠g') (u:Value):(w.setCell ⟨g',j,none⟩ u).heap[g]?=o:=(Below.heap_setCell w ⟨g',j,none⟩ u g hp).trans h
theorem blk_farQ {w:World} {g g' j:Nat} {o:Option Obj} {u:Value} (h:w.heap[g]?=o) (hp:Aside0 (g≠g')):(w.setCell ⟨g',j,none⟩ u).heap[g]?=o:=(Below.heap_setCell w ⟨g',j,none⟩ u g hp.out).trans h
theorem blk_putE {w:World} {g t j:Nat} {cs:Array Value} {v:Value} (h:w.heap[g]?=some (.cells cs t (0,0))):(w.setCell ⟨g,j,none⟩ v).heap[g]?=some (.cells (cs.setIfInBounds j v) t (0,0)):=blk_put h j v rfl
theorem qF {p q:Prop} (h:Aside0 p) (f:p->q:=by
    intro h_
    apply Eq.trans
    · repeat (with_reducible first|exact h_|assumption|apply blk_putE|apply blk_farQ|apply blk_drewN|apply blk_drew|apply blk_alloc)
    · rfl):q:=f h.out
theorem mM {α:Type} {x y:Option α} (h:LeO x y:=by repeat' (first|(with_reducible first|exact LeO.refl _|exact LeO.none _|refine LeO.ite ?_ ?_|refine LeO.bind ?_ (fun _=>?_)|apply_assumption)|exact LeO.none _|apply_assumption|refine LeO.ite ?_ ?_|refine LeO.bind ?_ (fun _=>?_))):LeO x y:=h
theorem kC {p q:Prop} (h:p) (f:p->q:=by intro h_;repeat (first|exact h_|(with_reducible refine Kd.C_alloc ?_ _)|(with_reducible refine Kd.C_drewN ?_ _)|(with_reducible refine Kd.C_drew ?_))):q:=f h
theorem kn {w:World} {a:Addr} {v:Value} {b g:Nat} (h:w.cell? a=some v) (hg:Aside0 (w.heap.size<=g)) (e:a.block=b:=by first|rfl|exact add_block _ _):b≠g:=Nat.ne_of_lt (Nat.lt_of_lt_of_le (e ▸ World.block_lt_of_cell? _ _ h) hg.out)
theorem kx {w W:World} {a:Addr} {v:Value} (hb:Aside0 (Below w.heap.size w W)) (h:w.cell? a=some v):W.cell? a=some v:=(hb.out.cell (World.block_lt_of_cell? w _ h)).trans h
theorem ky {α:Type} (E:α):∃ y,Aside0 (y=E):=⟨E,⟨rfl⟩⟩
theorem kz {α β:Type} {y E:α} {f:α->Option β} {r:β} (N:Aside0 (y=E)) (h:(some E).bind f=some r):f y=some r:=by rw [N.out];exact h
theorem kQ {α:Type} {d:Kd α} {A:Option Addr} {n:Nat} {xs:List α} {w0 W w1:World} (h:Aside0 (d.C w0 A n xs)) (hb:Below W.heap.size W w1) (f:d.C w0 A n xs->d.C W A n xs:=by intro h_;exact kC h_):Aside0 (d.C w1 A n xs):=⟨Kd.C_below (f h.out) hb⟩
theorem kT {w W w1:World} {S:Nat->Prop} (hb:Below W.heap.size W w1) (h:Kept w W S:=by exact qT):Aside0 (Kept w w1 S):=⟨Kept.below h hb⟩
theorem kW {W w1:World} {a:Addr} {v:Value} (hb:Below W.heap.size W w1) (h:Aside0 (W.cell? a=some v)):Aside0 (w1.cell? a=some v):=⟨pw_cell_below hb h.out⟩
theorem kL {α:Type} {d:Kd α} {e:Nat} {ok:Nat->Prop} {v:Value} {xs:List α} {w W w1:World} (h:d.R e w1 W.heap.size ok v xs) (hb:w.heap.size<=W.heap.size:=by exact below_size qB):Aside0 (d.R e w1 w.heap.size ok v xs):=⟨Kd.R_lower h hb⟩
theorem kO {α β:Type} {d:Kd α} {d':Kd β} {e e' base:Nat} {ok ok':Nat->Prop} {u v:Value} {xs:List α} {ys:List β} {w0 W w1 w2:World} (h:Aside0 (d.R e w0 base ok u xs)) (ho:d'.R e' w2 W.heap.size ok' v ys) (hb:Below W.heap.size W w1) (f:d.R e w0 base ok u xs->d.R e W base ok u xs:=by intro h_;(with_reducible repeat (first|apply Kd.R_alloc|apply Kd.R_drewN|apply Kd.R_drew));exact h_):Aside0 (d.R e w1 base (fun k=>ok k/\some k≠v.ownBlock) u xs):=⟨Kd.R_elder' (f h.out) (Kd.R_base ho) hb⟩
theorem kf {p q:Prop} (h:p) (f:p->q:=by intro h_;first|exact h_|(rw [add_block];exact h_)|(show (Addr.add _ _).block≠_;rw [add_block];exact h_)|(dsimp only;exact h_)):q:=f h
theorem qW {p:Prop} (h:p:=by first|rfl|(simp [errW_none,errW_some] <;> rfl)|(simp [*,errW_none,errW_some] <;> rfl)):p:=h
theorem qU {p:Prop} (h:p:=by repeat (first|exact Drawn0.refl _|apply Drawn0.step)):p:=h
theorem kH {w W w1:World} (hb:Below W.heap.size W w1) (h:Below w.heap.size w W:=by exact qB):Aside0 (Below w.heap.size w w1):=⟨below_step h hb⟩
theorem kB {w0 W w1:World} {g:Nat} {o:Obj} (h:Aside0 (w0.heap[g]?=some o)) (hb:Below W.heap.size W w1) (f:w0.heap[g]?=some o->W.heap[g]?=some o:=by intro h_;(with_reducible repeat (first|refine blk_drewN ?_ _|refine blk_drew ?_|refine blk_alloc ?_ _|refine blk_farO ?_ (Aside0.out (by assumption)) _));exact h_):Aside0 (w1.heap[g]?=some o):=⟨blk_below (f h.out) hb⟩
theorem kR {α:Type} {d:Kd α} {e base:Nat} {ok:Nat->Prop} {v:Value} {xs:List α} {w0 W w1:World} (h:Aside0 (d.R e w0 base ok v xs)) (hb:Below W.heap.size W w1) (f:d.R e w0 base ok v xs->d.R e W base ok v xs:=by intro h_;(with_reducible repeat (first|apply Kd.R_alloc|apply Kd.R_drewN|apply Kd.R_drew));exact h_):Aside0 (d.R e w1 base ok v xs):=⟨Kd.R_below (f h.out) hb⟩
theorem kG {w W:World} {g:Nat} (hg:g=W.heap.size) (h:w.heap.size<=W.heap.size:=by exact below_size qB):Aside0 (w.heap.size<=g):=⟨hg ▸ h⟩
theorem kN {w0 W:World} {g g1:Nat} {o:Obj} (hg:g1=W.heap.size) (h:Aside0 (w0.heap[g]?=some o)) (f:w0.heap[g]?=some o->W.heap[g]?=some o:=by intro h_;(with_reducible repeat (first|refine blk_drewN ?_ _|refine blk_drew ?_|refine blk_alloc ?_ _|refine blk_farO ?_ (Aside0.out (by assumption)) _));exact h_):Aside0 (g≠g1):=⟨by rw [hg];exact Nat.ne_of_lt (blk_lt (f h.out))⟩
theorem kM {w0 W:World} {g g1:Nat} {o:Obj} (hg:g1=W.heap.size) (h:Aside0 (w0.heap[g]?=some o)) (f:w0.heap[g]?=some o->W.heap[g]?=some o:=by intro h_;(with_reducible repeat (first|refine blk_drewN ?_ _|refine blk_drew ?_|refine blk_alloc ?_ _|refine blk_farO ?_ (Aside0.out (by assumption)) _));exact h_):Aside0 (g1≠g):=⟨by rw [hg];exact Nat.ne_of_gt (blk_lt (f h.out))⟩
theorem kS {α:Type} {d:Kd α} {e base:Nat} {ok:Nat->Prop} {v:Value} {xs:List α} {w0 W w1:World} (h:Aside0 (d.S e w0 base ok v xs)) (hb:Below W.heap.size W w1) (f:d.S e w0 base ok v xs->d.S e W base ok v xs:=by intro h_;(with_reducible repeat (first|apply Kd.S_alloc|apply Kd.S_drewN|apply Kd.S_drew));exact h_):Aside0 (d.S e w1 base ok v xs):=⟨Kd.S_below (f h.out) hb⟩
section
variable {P:Program} {ops:Array Oper} {rest:List Oper} {o:Oper} {a:Act} {Q:Exit->Act->World->Prop}
theorem jV {α:Type} (d:Kd α) {W:World} (e:Nat) (xs:List α) (inner:List Value) {N:Tmp} (hrep:Reps (d.M W W.heap.size (fun _=>True)) d.sz xs inner) (h:∀ v1 w1,d.R e w1 W.heap.size (fun _=>True) v1 xs->Below W.heap.size W w1->wpList P ops Q rest (a.put o.dst v1) w1) (hgd:o.guard=none:=by rfl) (hd:o.dst=some N:=by rfl)
    (hrun:(execOp a.eval o).run P W = .ok (.value (.slice (some ⟨W.heap.size,0,none⟩) xs.length xs.length)) (W.alloc (.cells inner.toArray e)):=by first|(go_simp;done)|(go_simp;rfl)) (hm:xs.length<=9223372036854775807:=by simp):wpList P ops Q (o :: rest) a W :=
  Kd.R_lit d _ e hgd hd hrun hrep (fun _ hk=>hk) trivial (Below.refl _ _) (Nat.le_refl _) hm (fun v1 w1 h1 h2 _ _=>h v1 w1 h1 h2)
theorem jc {w:World} (f m:Nat) {xs:Array Operand} {ts:Array TypeId} (_h:o.op = .call { callee:=.value (.func f),args:=xs,argTypes:=ts }) (_g:o.dst=some m) (h:wpList P ops Q (o :: rest) a w):wpList P ops Q (o :: rest) a w:=h
theorem jd {w:World} (m:Nat) (_g:o.dst=some m) (h:wpList P ops Q (o :: rest) a w):wpList P ops Q (o :: rest) a w:=h
theorem jX {W:World} (cs:Array Value) (t:TypeId) {N:Tmp} (h:∀ g,g=W.heap.size->∀ w1,w1.heap[g]?=some (.cells cs t (0,0))->Below W.heap.size W w1->wpList P ops Q rest (a.put o.dst (.pointer (some ⟨g,0,none⟩))) w1) (hgd:o.guard=none:=by rfl) (hd:o.dst=some N:=by rfl)
    (hrun:(execOp a.eval o).run P W = .ok (.value (.pointer (some ⟨W.heap.size,0,none⟩))) (W.alloc (.cells cs t (0,0))):=by first|(go_simp;done)|(go_simp;rfl)):wpList P ops Q (o :: rest) a W:=box_event hgd hd hrun h
theorem jG {w:World} {f:FuncId} {fn:Func} {xs:Array Operand} {ts:Array TypeId} {N:Option Tmp} (hf:P.funcs[f]?=some fn) (args:Array Value) (h:Calls P f args w fun e w'=>∃ v,e = .returned v/\wpList P ops Q rest (a.put N v) w') (hd:o.dst=N:=by rfl) (hg:o.guard=none:=by rfl) (hname:(fn.name == "runtime.NumGoroutine")=false:=by kernel_rfl) (hb:fn.body.isSome=true:=by rfl)
    (hop:o.op = .call { callee:=.value (.func f),args:=xs,argTypes:=ts }:=by rfl) (hargs:xs.map a.eval=args:=by exact qM):wpList P ops Q (o :: rest) a w:=goesL_ N hd hg hf hname hb args hop hargs h
theorem jp {md:Region.Mode} {S:World->Prop} {ds:List Nat} (i m:Nat) {oi:Oper} {v:Value} {fuel:Nat} {l:Array Bool} {w:World} (l':Array Bool) {a':Act} (h:wpAnyLast P md ops Q S ds fuel l' a' w) (hi:ops[i]?=some oi:=by rfl) (hN:oi.dst=some m:=by rfl) (hc:anyB md ops l l' i=true:=by exact any_of HT_.out (by kernel_rfl))
    (hQ:∀ c a w,Q (.panic c) (a.put oi.dst v) w->Q (.panic c) a w:=by exact fun _ _ _ h=>h) (hy:Yields P ops oi v a:=by refine Or.inl ⟨by rfl,?_⟩;intro w';go_simp;with_reducible rfl) (ha:a.put (some m) v=a':=by simp only [Act.put,List.setIfInBounds_toArray,List.set_cons_zero,List.set_cons_succ,i64_w,i32_w];rfl):wpAnyLast P md ops Q S ds (fuel+1) l a w:=pure_ l' hi hN hc hQ hy ha h
theorem jt {md:Region.Mode} {S:World->Prop} {ds:List Nat} (i m:Nat) {oi:Oper} {v:Value} {fuel:Nat} {l:Array Bool} {w:World} (l':Array Bool) {a':Act} (h:wpAnyLast P md ops Q S ds fuel l' a' w) (hi:ops[i]?=some oi:=by rfl) (hN:oi.dst=some m:=by rfl) (hc:takeB md ops ds l l' i=true:=by exact take_ofW HT_.out HW_.out (by kernel_rfl))
    (hQ:∀ c a w,Q (.panic c) (a.put oi.dst v) w->Q (.panic c) a w:=by exact fun _ _ _ h=>h) (hy:YieldsIf P ops S oi v a:=by refine Or.inl ⟨by rfl,?_⟩;intro w' hS_;repeat (obtain⟨s_,hS_⟩:=hS_);go_simp;with_reducible rfl) (hS:S w:=by exact hHeld) (ha:a.put (some m) v=a':=by simp only [Act.put,List.setIfInBounds_toArray,List.set_cons_zero,List.set_cons_succ,i64_w,i32_w];rfl):wpAnyLast P md ops Q S ds (fuel+1) l a w:=take_ l' hi hN hc hQ hy hS ha h
end
theorem jz2 {w:World} {g t:Nat} {a0 a1:Value} (h:Aside0 (w.heap[g]?=some (.cells #[a0,a1] t (0,0)))):w.cell? ⟨g,0,none⟩=some a0/\w.cell? ⟨g,1,none⟩=some a1/\w.frozen? ⟨g,0,none⟩=false/\w.frozen? ⟨g,1,none⟩=false:=⟨(blk_cell h.out 0).trans rfl,(blk_cell h.out 1).trans rfl,blk_frozen h.out 0,blk_frozen h.out 1⟩
theorem jz5 {w:World} {g t:Nat} {a0 a1 a2 a3 a4:Value} (h:Aside0 (w.heap[g]?=some (.cells #[a0,a1,a2,a3,a4] t (0,0)))):w.cell? ⟨g,0,none⟩=some a0/\w.cell? ⟨g,1,none⟩=some a1/\w.cell? ⟨g,2,none⟩=some a2/\w.cell? ⟨g,3,none⟩=some a3/\w.cell? ⟨g,4,none⟩=some a4/\w.frozen? ⟨g,0,none⟩=false/\w.frozen? ⟨g,1,none⟩=false/\w.frozen? ⟨g,2,none⟩=false/\w.frozen? ⟨g,3,none⟩=false/\w.frozen? ⟨g,4,none⟩=false:=⟨(blk_cell h.out 0).trans rfl,(blk_cell h.out 1).trans rfl,(blk_cell h.out 2).trans rfl,(blk_cell h.out 3).trans rfl,(blk_cell h.out 4).trans rfl,blk_frozen h.out 0,blk_frozen h.out 1,blk_frozen h.out 2,blk_frozen h.out 3,blk_frozen h.out 4⟩
theorem jT46 {w:World} {A:Option Addr} {n:Nat} {xs:List S46} (hr:Aside0 (Kd.C k46 w A n xs)) (i:Int) (p:decide (0<=i)=true:=by first|(with_reducible assumption)|assumption) (q:decide (i < (n:Int))=true:=by first|(with_reducible assumption)|assumption):∃ ad,A=some ad/\w.cell? (ad.add (i.toNat*5))=some (.int .i64 (rd_T46 xs i).f0)/\w.cell? ⟨(ad.add (i.toNat*5)).block,(ad.add (i.toNat*5)).off+1,none⟩=some (.int .i64 (rd_T46 xs i).f1)/\w.cell? ⟨(ad.add (i.toNat*5)).block,(ad.add (i.toNat*5)).off+2,none⟩=some (.int .i64 (rd_T46 xs i).f2)/\w.cell? ⟨(ad.add (i.toNat*5)).block,(ad.add (i.toNat*5)).off+3,none⟩=some (.int .i64 (rd_T46 xs i).f3)/\w.cell? ⟨(ad.add (i.toNat*5)).block,(ad.add (i.toNat*5)).off+4,none⟩=some (.int .i64 (rd_T46 xs i).f4)/\(0<=i)=True/\(i < (n:Int))=True:=by
  obtain⟨ad,e,h0,h1,h2,h3,h4⟩:=at_T46 hr.out i (of_decide_eq_true p) (of_decide_eq_true q)
  exact⟨ad,e,h0,h1,h2,h3,h4,eq_true (of_decide_eq_true p),eq_true (of_decide_eq_true q)⟩
theorem qP {p:Prop} (h:p:=by simp only [Act.put,List.setIfInBounds_toArray,List.set_cons_zero,List.set_cons_succ,i64_w,i32_w];rfl):p:=h
theorem aM {p:Prop} (h:p):Aside0 p:=⟨h⟩
theorem jq {P:Program} {ops:Array Oper} {a:Act} {Q:Exit->Act->World->Prop} {md:Region.Mode} {S:World->Prop} {ds:List Nat} (i m:Nat) {oi:Oper} {v:Value} {fuel:Nat} {l:Array Bool} {w:World} (l':Array Bool) {a':Act} (h:wpAnyLast P md ops Q S ds fuel l' a' w) (hi:ops[i]?=some oi:=by rfl) (hN:oi.dst=some m:=by rfl) (hc:anyB md ops l l' i=true:=by kernel_rfl)
    (hQ:∀ c a w,Q (.panic c) (a.put oi.dst v) w->Q (.panic c) a w:=by exact fun _ _ _ h=>h) (hy:Yields P ops oi v a:=by refine Or.inl ⟨by rfl,?_⟩;intro w';go_simp;with_reducible rfl) (ha:a.put (some m) v=a':=by simp only [Act.put,List.setIfInBounds_toArray,List.set_cons_zero,List.set_cons_succ,i64_w,i32_w];rfl):wpAnyLast P md ops Q S ds (fuel+1) l a w:=pure_ l' hi hN hc hQ hy ha h
def Sl6In.f (a0:Int) (a1:Int) (a2:Int):Option (Bool):=if a0>=a1 then (some (decide (a0<=a2))) else (some false)
theorem Sl6In.calls (a0:Int) (a1:Int) (a2:Int) (r:Bool) (w:World) (h:Sl6In.f a0 a1 a2=some r) :
  Calls Try.prog 30 #[.int .i64 a0,.int .i64 a1,.int .i64 a2] w fun e w'=>e = .returned (.bool r)/\Drawn0 w w':=by
 have H:(if a0>=a1 then (some (decide (a0<=a2))) else (some false))=some r:=h
 clear h
 replace H:=jD H;rcases H with ⟨c4b0,H⟩ | ⟨c4b0,H⟩
 ·obtain rfl:=Option.some.inj H
  go_enter Try.func30,Try.ntmps30
  go_wp2
  go_ret
  exact⟨qZ,qU⟩
 obtain rfl:=Option.some.inj H
 go_enter Try.func30,Try.ntmps30
 go_wp2
 go_ret
 exact⟨qZ,qU⟩
def Sl21Reg.f (a0:Int) (a1:Bool):Option (Bool):=if a1=true then ((Sl6In.f a0 0 11).bind fun t101=>(some t101)) else (some (a0 == 0))
theorem Sl21Reg.calls (a0:Int) (a1:Bool) (r:Bool) (w:World) (h:Sl21Reg.f a0 a1=some r) :
  Calls Try.prog 101 #[.int .i64 a0,.bool a1] w fun e w'=>e = .returned (.bool r)/\Drawn0 w w':=by
 have H:=h;unfold Sl21Reg.f at H
 clear h
 replace H:=jB H;rcases H with ⟨rfl,H⟩ | ⟨rfl,H⟩
 ·obtain⟨t101,A4,H⟩:=qE H
  try dsimp only at H
  obtain rfl:=Option.some.inj H
  go_enter Try.func101,Try.ntmps101
  go_wp2_with (first|((with_reducible refine jc 30 7 rfl rfl ?_);refine jG Try.func30 #[.int .i64 a0,.int .i64 0,.int .i64 11] ?_;(with_reducible refine (Sl6In.calls a0 0 11 t101 _ A4.out).mono ?_);rintro e w' ⟨rfl,⟨nd,rfl⟩⟩;refine⟨_,rfl,?_⟩))
  go_ret
  exact⟨qZ,qU⟩
 obtain rfl:=Option.some.inj H
 go_enter Try.func101,Try.ntmps101
 go_wp2
 go_ret
 exact⟨qZ,qU⟩
def Sl21Regs.f (a0_0:Int) (a0_1:Int) (a0_2:Int) (a0_3:Int) (a0_4:Int) (a1:Bool) (a2:Bool) (a3:Bool):Option (Bool):=(Sl21Reg.f a0_1 a1).bind fun t103=>(if t103=true then ((Sl21Reg.f a0_2 a2).bind fun t104=>(if t104=true then ((Sl21Reg.f a0_3 a3).bind fun t105=>(some t105)) else (some false))) else (some false))
theorem Sl21Regs_calls_s0 {G:Prop} (h:G:=by
  go_enter Try.func76,Try.ntmps76
  go_wp2_with (first|((with_reducible refine jd 4 rfl ?_);refine jX _ 46 ?_;intro gb102 hg w_0a hbox hb;have BK102:=aM hbox;have GW102:=kG hg;replace HB:=kH hb;clear hb hbox hg;have c_0b:=jz5 BK102)|((with_reducible refine jc 101 12 rfl rfl ?_);refine jG Try.func101 #[.int .i64 a0_1,.bool a1] ?_;(with_reducible refine (Sl21Reg.calls _ _ _ _ (Aside0.out (by assumption))).mono ?_);rintro e w' ⟨rfl,⟨nd,rfl⟩⟩;refine⟨_,rfl,?_⟩)|(go_at_call 101;(with_reducible refine (Sl21Reg.calls _ _ _ _ (Aside0.out (by assumption))).mono ?_);rintro e w' ⟨rfl,⟨nd,rfl⟩⟩))
  go_ret
  exact⟨qW,qB⟩):G:=h
theorem Sl21Regs.calls (a0_0:Int) (a0_1:Int) (a0_2:Int) (a0_3:Int) (a0_4:Int) (a1:Bool) (a2:Bool) (a3:Bool) (r:Bool) (w:World) (h:Sl21Regs.f a0_0 a0_1 a0_2 a0_3 a0_4 a1 a2 a3=some r) :
  Calls Try.prog 76 #[.agg #[.int .i64 a0_0,.int .i64 a0_1,.int .i64 a0_2,.int .i64 a0_3,.int .i64 a0_4],.bool a1,.bool a2,.bool a3] w fun e w'=>e = .returned (.bool r)/\Below w.heap.size w w':=by
 have hu46:=Try.underlying46
 have HB:=aM (Below.refl w.heap.size w)
 have H:=h;unfold Sl21Regs.f at H
 clear h
 obtain⟨t103,A5,H⟩:=qE H
 try dsimp only at H
 replace H:=jB H;rcases H with ⟨rfl,H⟩ | ⟨rfl,H⟩
 ·obtain⟨t104,A7,H⟩:=qE H
  try dsimp only at H
  replace H:=jB H;rcases H with ⟨rfl,H⟩ | ⟨rfl,H⟩
  ·obtain⟨t105,A9,H⟩:=qE H
   try dsimp only at H
   obtain rfl:=Option.some.inj H
   exact Sl21Regs_calls_s0
  obtain rfl:=Option.some.inj H
  exact Sl21Regs_calls_s0
 obtain rfl:=Option.some.inj H
 exact Sl21Regs_calls_s0
def SWordValid.f (a0:Int):Option (Bool):=(Sl6In.f a0 (-2147483648) 2147483647).bind fun t106=>(some t106)
theorem SWordValid.calls (a0:Int) (r:Bool) (w:World) (h:SWordValid.f a0=some r) :
  Calls Try.prog 77 #[.int .i64 a0] w fun e w'=>e = .returned (.bool r)/\Drawn0 w w':=by
 have H:=h;unfold SWordValid.f at H
 clear h
 obtain⟨t106,A2,H⟩:=qE H
 try dsimp only at H
 obtain rfl:=Option.some.inj H
 go_enter Try.func77,Try.ntmps77
 go_wp2_with (first|((with_reducible refine jc 30 4 rfl rfl ?_);refine jG Try.func30 #[.int .i64 a0,.int .i64 (-2147483648),.int .i64 2147483647] ?_;(with_reducible refine (Sl6In.calls _ _ _ _ _ (Aside0.out (by assumption))).mono ?_);rintro e w' ⟨rfl,⟨nd,rfl⟩⟩;refine⟨_,rfl,?_⟩))
 go_ret
 exact⟨qZ,qU⟩
def SOpValid.f (a0:Int):Option (Bool):=(Sl6In.f a0 1 12).bind fun t107=>(some t107)
theorem SOpValid.calls (a0:Int) (r:Bool) (w:World) (h:SOpValid.f a0=some r) :
  Calls Try.prog 78 #[.int .i64 a0] w fun e w'=>e = .returned (.bool r)/\Drawn0 w w':=by
 have H:((Sl6In.f a0 1 12).bind fun t107=>(some t107))=some r:=h
 clear h
 obtain⟨t107,A2,H⟩:=qE H
 try dsimp only at H
 obtain rfl:=Option.some.inj H
 go_enter Try.func78,Try.ntmps78
 go_wp2_with (first|((with_reducible refine jc 30 4 rfl rfl ?_);refine jG Try.func30 #[.int .i64 a0,.int .i64 1,.int .i64 12] ?_;(with_reducible refine (Sl6In.calls a0 1 12 t107 _ A2.out).mono ?_);rintro e w' ⟨rfl,⟨nd,rfl⟩⟩;refine⟨_,rfl,?_⟩))
 go_ret
 exact⟨qZ,qU⟩
def SQuadValid.f (a0_0:Int) (a0_1:Int) (a0_2:Int) (a0_3:Int) (a0_4:Int) (a1:Int):Option (Bool):=if a0_0=1 then ((Sl21Regs.f a0_0 a0_1 a0_2 a0_3 a0_4 true false false).bind fun t109=>(if t109=true then ((SWordValid.f a0_4).bind fun t110=>(some t110)) else (some false))) else (if a0_0=2 then ((Sl21Regs.f a0_0 a0_1 a0_2 a0_3 a0_4 true true false).bind fun t111=>(if t111=true then (some (a0_4 == 0)) else (some false))) else (if a0_0=3 then ((Sl21Regs.f a0_0 a0_1 a0_2 a0_3 a0_4 true true true).bind fun t112=>(if t112=true then ((SOpValid.f a0_4).bind fun t113=>(some t113)) else (some false))) else (if a0_0=4 then ((Sl21Regs.f a0_0 a0_1 a0_2 a0_3 a0_4 false false false).bind fun t114=>(if t114=true then (if a0_4>=0 then (some (decide (a0_4 < a1))) else (some false)) else (some false))) else (if a0_0=5 then ((Sl21Regs.f a0_0 a0_1 a0_2 a0_3 a0_4 false true false).bind fun t115=>(if t115=true then (if a0_4>=0 then (some (decide (a0_4 < a1))) else (some false)) else (some false))) else (if a0_0=6 then ((Sl21Regs.f a0_0 a0_1 a0_2 a0_3 a0_4 false true false).bind fun t116=>(if t116=true then ((Sl6In.f a0_4 0 2).bind fun t117=>(some t117)) else (some false))) else (if a0_0=7 then ((Sl21Regs.f a0_0 a0_1 a0_2 a0_3 a0_4 true false false).bind fun t118=>(if t118=true then ((Sl6In.f a0_4 0 2).bind fun t119=>(some t119)) else (some false))) else (if a0_0=9 then ((Sl21Regs.f a0_0 a0_1 a0_2 a0_3 a0_4 false true false).bind fun t120=>(if t120=true then (some (a0_4 == 0)) else (some false))) else (if a0_0=8 then ((Sl21Regs.f a0_0 a0_1 a0_2 a0_3 a0_4 false false false).bind fun t121=>(if t121=true then (some (a0_4 == 0)) else (some false))) else (if a0_0=10 then ((Sl21Regs.f a0_0 a0_1 a0_2 a0_3 a0_4 false false false).bind fun t122=>(if t122=true then (some (a0_4 == 0)) else (some false))) else (some false))))))))))
theorem SQuadValid_calls_s0 {G:Prop} (h:G:=by
  go_enter Try.func54,Try.ntmps54
  go_wp2_with (first|((with_reducible refine jd 2 rfl ?_);refine jX _ 46 ?_;intro gb108 hg w_0a hbox hb;have BK108:=aM hbox;have GW108:=kG hg;replace HB:=kH hb;clear hb hbox hg;have c_0b:=jz5 BK108)|((with_reducible refine jc 76 10 rfl rfl ?_);refine jG Try.func76 #[.agg #[.int .i64 a0_0,.int .i64 a0_1,.int .i64 a0_2,.int .i64 a0_3,.int .i64 a0_4],.bool true,.bool false,.bool false] ?_;(with_reducible refine (Sl21Regs.calls _ _ _ _ _ _ _ _ _ _ (Aside0.out (by assumption))).mono ?_);rintro e w_1a ⟨rfl,hb⟩;refine⟨_,rfl,?_⟩;replace BK108:=kB BK108 hb;replace HB:=kH hb;clear hb;have c_1b:=jz5 BK108)|(go_at_call 77;(with_reducible refine (SWordValid.calls _ _ _ (Aside0.out (by assumption))).mono ?_);rintro e w' ⟨rfl,⟨nd,rfl⟩⟩)|((with_reducible refine jc 76 19 rfl rfl ?_);refine jG Try.func76 #[.agg #[.int .i64 a0_0,.int .i64 a0_1,.int .i64 a0_2,.int .i64 a0_3,.int .i64 a0_4],.bool true,.bool true,.bool false] ?_;(with_reducible refine (Sl21Regs.calls _ _ _ _ _ _ _ _ _ _ (Aside0.out (by assumption))).mono ?_);rintro e w_2a ⟨rfl,hb⟩;refine⟨_,rfl,?_⟩;replace BK108:=kB BK108 hb;replace HB:=kH hb;clear hb;have c_2b:=jz5 BK108)|((with_reducible refine jc 76 28 rfl rfl ?_);refine jG Try.func76 #[.agg #[.int .i64 a0_0,.int .i64 a0_1,.int .i64 a0_2,.int .i64 a0_3,.int .i64 a0_4],.bool true,.bool true,.bool true] ?_;(with_reducible refine (Sl21Regs.calls _ _ _ _ _ _ _ _ _ _ (Aside0.out (by assumption))).mono ?_);rintro e w_3a ⟨rfl,hb⟩;refine⟨_,rfl,?_⟩;replace BK108:=kB BK108 hb;replace HB:=kH hb;clear hb;have c_3b:=jz5 BK108)|(go_at_call 78;(with_reducible refine (SOpValid.calls _ _ _ (Aside0.out (by assumption))).mono ?_);rintro e w' ⟨rfl,⟨nd,rfl⟩⟩)|((with_reducible refine jc 76 37 rfl rfl ?_);refine jG Try.func76 #[.agg #[.int .i64 a0_0,.int .i64 a0_1,.int .i64 a0_2,.int .i64 a0_3,.int .i64 a0_4],.bool false,.bool false,.bool false] ?_;(with_reducible refine (Sl21Regs.calls _ _ _ _ _ _ _ _ _ _ (Aside0.out (by assumption))).mono ?_);rintro e w_4a ⟨rfl,hb⟩;refine⟨_,rfl,?_⟩;replace BK108:=kB BK108 hb;replace HB:=kH hb;clear hb;have c_4b:=jz5 BK108)|((with_reducible refine jc 76 52 rfl rfl ?_);refine jG Try.func76 #[.agg #[.int .i64 a0_0,.int .i64 a0_1,.int .i64 a0_2,.int .i64 a0_3,.int .i64 a0_4],.bool false,.bool true,.bool false] ?_;(with_reducible refine (Sl21Regs.calls _ _ _ _ _ _ _ _ _ _ (Aside0.out (by assumption))).mono ?_);rintro e w_5a ⟨rfl,hb⟩;refine⟨_,rfl,?_⟩;replace BK108:=kB BK108 hb;replace HB:=kH hb;clear hb;have c_5b:=jz5 BK108)|((with_reducible refine jc 76 67 rfl rfl ?_);refine jG Try.func76 #[.agg #[.int .i64 a0_0,.int .i64 a0_1,.int .i64 a0_2,.int .i64 a0_3,.int .i64 a0_4],.bool false,.bool true,.bool false] ?_;(with_reducible refine (Sl21Regs.calls _ _ _ _ _ _ _ _ _ _ (Aside0.out (by assumption))).mono ?_);rintro e w_6a ⟨rfl,hb⟩;refine⟨_,rfl,?_⟩;replace BK108:=kB BK108 hb;replace HB:=kH hb;clear hb;have c_6b:=jz5 BK108)|(go_at_call 30;(with_reducible refine (Sl6In.calls _ _ _ _ _ (Aside0.out (by assumption))).mono ?_);rintro e w' ⟨rfl,⟨nd,rfl⟩⟩)|((with_reducible refine jc 76 76 rfl rfl ?_);refine jG Try.func76 #[.agg #[.int .i64 a0_0,.int .i64 a0_1,.int .i64 a0_2,.int .i64 a0_3,.int .i64 a0_4],.bool true,.bool false,.bool false] ?_;(with_reducible refine (Sl21Regs.calls _ _ _ _ _ _ _ _ _ _ (Aside0.out (by assumption))).mono ?_);rintro e w_7a ⟨rfl,hb⟩;refine⟨_,rfl,?_⟩;replace BK108:=kB BK108 hb;replace HB:=kH hb;clear hb;have c_7b:=jz5 BK108)|((with_reducible refine jc 76 85 rfl rfl ?_);refine jG Try.func76 #[.agg #[.int .i64 a0_0,.int .i64 a0_1,.int .i64 a0_2,.int .i64 a0_3,.int .i64 a0_4],.bool false,.bool true,.bool false] ?_;(with_reducible refine (Sl21Regs.calls _ _ _ _ _ _ _ _ _ _ (Aside0.out (by assumption))).mono ?_);rintro e w_8a ⟨rfl,hb⟩;refine⟨_,rfl,?_⟩;replace BK108:=kB BK108 hb;replace HB:=kH hb;clear hb;have c_8b:=jz5 BK108)|((with_reducible refine jc 76 95 rfl rfl ?_);refine jG Try.func76 #[.agg #[.int .i64 a0_0,.int .i64 a0_1,.int .i64 a0_2,.int .i64 a0_3,.int .i64 a0_4],.bool false,.bool false,.bool false] ?_;(with_reducible refine (Sl21Regs.calls _ _ _ _ _ _ _ _ _ _ (Aside0.out (by assumption))).mono ?_);rintro e w_9a ⟨rfl,hb⟩;refine⟨_,rfl,?_⟩;replace BK108:=kB BK108 hb;replace HB:=kH hb;clear hb;have c_9b:=jz5 BK108))
  go_ret
  exact⟨qW,qB⟩):G:=h
theorem SQuadValid.calls (a0_0:Int) (a0_1:Int) (a0_2:Int) (a0_3:Int) (a0_4:Int) (a1:Int) (r:Bool) (w:World) (h:SQuadValid.f a0_0 a0_1 a0_2 a0_3 a0_4 a1=some r) :
  Calls Try.prog 54 #[.agg #[.int .i64 a0_0,.int .i64 a0_1,.int .i64 a0_2,.int .i64 a0_3,.int .i64 a0_4],.int .i64 a1] w fun e w'=>e = .returned (.bool r)/\Below w.heap.size w w':=by
 have hu46:=Try.underlying46
 have HB:=aM (Below.refl w.heap.size w)
 have H:=h;unfold SQuadValid.f at H
 clear h
 replace H:=jE H;rcases H with ⟨c3b0,c3b1,H⟩ | ⟨c3,c3b0,c3b1,H⟩
 ·obtain⟨t109,A4,H⟩:=qE H
  try dsimp only at H
  replace H:=jB H;rcases H with ⟨rfl,H⟩ | ⟨rfl,H⟩
  ·obtain⟨t110,A6,H⟩:=qE H
   try dsimp only at H
   obtain rfl:=Option.some.inj H
   exact SQuadValid_calls_s0
  obtain rfl:=Option.some.inj H
  exact SQuadValid_calls_s0
 replace H:=jE H;rcases H with ⟨c14b0,c14b1,H⟩ | ⟨c14,c14b0,c14b1,H⟩
 ·obtain⟨t111,A15,H⟩:=qE H
  try dsimp only at H
  replace H:=jB H;rcases H with ⟨rfl,H⟩ | ⟨rfl,H⟩
  ·obtain rfl:=Option.some.inj H
   exact SQuadValid_calls_s0
  obtain rfl:=Option.some.inj H
  exact SQuadValid_calls_s0
 replace H:=jE H;rcases H with ⟨c24b0,c24b1,H⟩ | ⟨c24,c24b0,c24b1,H⟩
 ·obtain⟨t112,A25,H⟩:=qE H
  try dsimp only at H
  replace H:=jB H;rcases H with ⟨rfl,H⟩ | ⟨rfl,H⟩
  ·obtain⟨t113,A27,H⟩:=qE H
   try dsimp only at H
   obtain rfl:=Option.some.inj H
   exact SQuadValid_calls_s0
  obtain rfl:=Option.some.inj H
  exact SQuadValid_calls_s0
 replace H:=jE H;rcases H with ⟨c35b0,c35b1,H⟩ | ⟨c35,c35b0,c35b1,H⟩
 ·obtain⟨t114,A36,H⟩:=qE H
  try dsimp only at H
  replace H:=jB H;rcases H with ⟨rfl,H⟩ | ⟨rfl,H⟩
  ·replace H:=jD H;rcases H with ⟨c38b0,H⟩ | ⟨c38b0,H⟩
   ·obtain rfl:=Option.some.inj H
    exact SQuadValid_calls_s0
   obtain rfl:=Option.some.inj H
   exact SQuadValid_calls_s0
  obtain rfl:=Option.some.inj H
  exact SQuadValid_calls_s0
 replace H:=jE H;rcases H with ⟨c50b0,c50b1,H⟩ | ⟨c50,c50b0,c50b1,H⟩
 ·obtain⟨t115,A51,H⟩:=qE H
  try dsimp only at H
  replace H:=jB H;rcases H with ⟨rfl,H⟩ | ⟨rfl,H⟩
  ·replace H:=jD H;rcases H with ⟨c53b0,H⟩ | ⟨c53b0,H⟩
   ·obtain rfl:=Option.some.inj H
    exact SQuadValid_calls_s0
   obtain rfl:=Option.some.inj H
   exact SQuadValid_calls_s0
  obtain rfl:=Option.some.inj H
  exact SQuadValid_calls_s0
 replace H:=jE H;rcases H with ⟨c65b0,c65b1,H⟩ | ⟨c65,c65b0,c65b1,H⟩
 ·obtain⟨t116,A66,H⟩:=qE H
  try dsimp only at H
  replace H:=jB H;rcases H with ⟨rfl,H⟩ | ⟨rfl,H⟩
  ·obtain⟨t117,A68,H⟩:=qE H
   try dsimp only at H
   obtain rfl:=Option.some.inj H
   exact SQuadValid_calls_s0
  obtain rfl:=Option.some.inj H
  exact SQuadValid_calls_s0
 replace H:=jE H;rcases H with ⟨c76b0,c76b1,H⟩ | ⟨c76,c76b0,c76b1,H⟩
 ·obtain⟨t118,A77,H⟩:=qE H
  try dsimp only at H
  replace H:=jB H;rcases H with ⟨rfl,H⟩ | ⟨rfl,H⟩
  ·obtain⟨t119,A79,H⟩:=qE H
   try dsimp only at H
   obtain rfl:=Option.some.inj H
   exact SQuadValid_calls_s0
  obtain rfl:=Option.some.inj H
  exact SQuadValid_calls_s0
 replace H:=jE H;rcases H with ⟨c87b0,c87b1,H⟩ | ⟨c87,c87b0,c87b1,H⟩
 ·obtain⟨t120,A88,H⟩:=qE H
  try dsimp only at H
  replace H:=jB H;rcases H with ⟨rfl,H⟩ | ⟨rfl,H⟩
  ·obtain rfl:=Option.some.inj H
   exact SQuadValid_calls_s0
  obtain rfl:=Option.some.inj H
  exact SQuadValid_calls_s0
 replace H:=jE H;rcases H with ⟨c97b0,c97b1,H⟩ | ⟨c97,c97b0,c97b1,H⟩
 ·obtain⟨t121,A98,H⟩:=qE H
  try dsimp only at H
  replace H:=jB H;rcases H with ⟨rfl,H⟩ | ⟨rfl,H⟩
  ·obtain rfl:=Option.some.inj H
   exact SQuadValid_calls_s0
  obtain rfl:=Option.some.inj H
  exact SQuadValid_calls_s0
 replace H:=jE H;rcases H with ⟨c107b0,c107b1,H⟩ | ⟨c107,c107b0,c107b1,H⟩
 ·obtain⟨t122,A108,H⟩:=qE H
  try dsimp only at H
  replace H:=jB H;rcases H with ⟨rfl,H⟩ | ⟨rfl,H⟩
  ·obtain rfl:=Option.some.inj H
   exact SQuadValid_calls_s0
  obtain rfl:=Option.some.inj H
  exact SQuadValid_calls_s0
 obtain rfl:=Option.some.inj H
 exact SQuadValid_calls_s0
def SCodeValid.l0:Nat->List (S46)->Int->Int->Option (Bool)
 | 0,_,_,_=>none
 | k+1,x0,x3,x4=>if x4 < x3 then (if 0<=x4 then (if x4 < (x0.length:Int) then ((SQuadValid.f ((rd_T46 x0 x4).f0) ((rd_T46 x0 x4).f1) ((rd_T46 x0 x4).f2) ((rd_T46 x0 x4).f3) ((rd_T46 x0 x4).f4) x3).bind fun t125=>(if t125=true then (SCodeValid.l0 k x0 x3 (wrap64 (x4+1))) else (some false))) else (none)) else (none)) else (if 0<=(wrap64 (x3 - 1)) then (if (wrap64 (x3 - 1)) < (x0.length:Int) then (if ((rd_T46 x0 (wrap64 (x3 - 1))).f0)=10 then (some true) else (some (((rd_T46 x0 (wrap64 (x3 - 1))).f0) == 4))) else (none)) else (none))
def SCodeValid.f (k:Nat) (l0:List (S46)):Option (Bool):=(Sl6In.f (l0.length:Int) 1 600).bind fun t123=>(if t123=true then (SCodeValid.l0 k l0 (l0.length:Int) 0) else (some false))
theorem SCodeValid.mono_l:∀ k,(∀ y0 y1 y2,LeO (SCodeValid.l0 k y0 y1 y2) (SCodeValid.l0 (k+1) y0 y1 y2))
 | 0=>fun _ _ _ r h=>by simp [SCodeValid.l0] at h
 | k+1=>by
  have ih0:=SCodeValid.mono_l k
  intros;unfold SCodeValid.l0;exact mM
theorem SCodeValid.mono:∀ a0 k,LeO (SCodeValid.f k a0) (SCodeValid.f (k+1) a0):=by
 intro a0 k;have ih0:=SCodeValid.mono_l k;unfold SCodeValid.f;exact mM
theorem SCodeValid.calls (k:Nat) (A0:Option Addr) (c0:Nat) (l0:List (S46)) (r:Bool) (w:World) (hr0:Kd.C k46 w A0 l0.length l0) (hc0:l0.length<=c0) (h:SCodeValid.f k l0=some r) :
  Calls Try.prog 29 #[.slice A0 l0.length c0] w fun e w'=>e = .returned (.bool r)/\Below w.heap.size w w':=by
 have hu46:=Try.underlying46
 have HR0:=aM hr0
 have HC0:=aM hc0
 clear hr0 hc0
 have HB:=aM (Below.refl w.heap.size w)
 have H:=h;unfold SCodeValid.f at H
 clear h
 obtain⟨t123,A2,H⟩:=qE H
 try dsimp only at H
 replace H:=jB H;rcases H with ⟨rfl,H⟩ | ⟨rfl,H⟩
 ·have H':=aM H
  clear H
  go_enter Try.func29,Try.ntmps29
  go_wp2_with (first|((with_reducible refine jc 30 8 rfl rfl ?_);refine jG Try.func30 #[.int .i64 (l0.length:Int),.int .i64 1,.int .i64 600] ?_;(with_reducible refine (Sl6In.calls (l0.length:Int) 1 600 true _ A2.out).mono ?_);rintro e w' ⟨rfl,⟨nd,rfl⟩⟩;refine⟨_,rfl,?_⟩))
  go_loopg [4] k (fun kq v4 w'=>∃ (x4_1:Int),v4 = .int .i64 x4_1/\Aside0 (SCodeValid.l0 kq l0 (l0.length:Int) x4_1=some r)/\Aside0 (kq<=k)/\Aside0 (Below w.heap.size w w'))
  case atStart=>exact⟨(0),qZ,H',⟨Nat.le_refl _⟩,⟨qB⟩⟩
  clear H'
  obtain⟨x4_1,rfl,HA,HK1,HB⟩:=hrel
  rcases gk with _|k1
  ·exact absurd HA.out (by simp [SCodeValid.l0])
  have H:=HA.out
  clear HA
  simp only [SCodeValid.l0] at H
  replace H:=jD H;rcases H with ⟨c4b0,H⟩ | ⟨c4b0,H⟩
  ·replace H:=jI H;obtain⟨c5b0,H⟩:=H
   replace H:=jI H;obtain⟨c6b0,H⟩:=H
   obtain⟨t125,A7,H⟩:=qE H
   try dsimp only at H
   replace H:=jB H;rcases H with ⟨rfl,H⟩ | ⟨rfl,H⟩
   ·have H':=aM H
    clear H
    have p124:0<=(x4_1:Int):=qD
    have q124:x4_1 < (l0.length:Int):=qD
    obtain⟨ad124,e124,hx124_0,hx124_1,hx124_2,hx124_3,hx124_4⟩:=at_T46 HR0.out x4_1 p124 q124
    cases e124
    replace hx124_0:=kx HB hx124_0
    replace hx124_1:=kx HB hx124_1
    replace hx124_2:=kx HB hx124_2
    replace hx124_3:=kx HB hx124_3
    replace hx124_4:=kx HB hx124_4
    replace p124:=eq_true p124
    replace q124:=eq_true q124
    go_wp2_with (first|((with_reducible refine jc 54 20 rfl rfl ?_);refine jG Try.func54 #[.agg #[.int .i64 ((rd_T46 l0 x4_1).f0),.int .i64 ((rd_T46 l0 x4_1).f1),.int .i64 ((rd_T46 l0 x4_1).f2),.int .i64 ((rd_T46 l0 x4_1).f3),.int .i64 ((rd_T46 l0 x4_1).f4)],.int .i64 (l0.length:Int)] ?_;(with_reducible refine (SQuadValid.calls _ _ _ _ _ _ _ _ (Aside0.out (by assumption))).mono ?_);rintro e w_0a ⟨rfl,hb⟩;refine⟨_,rfl,?_⟩;replace HB:=kH hb;clear hb))
    go_roundg k1
    case measure=>have:=HK1.out;omega
    exact⟨_,qZ,H',⟨by have:=HK1.out;omega⟩,⟨qB⟩⟩
   obtain rfl:=Option.some.inj H
   have p124:0<=(x4_1:Int):=qD
   have q124:x4_1 < (l0.length:Int):=qD
   obtain⟨ad124,e124,hx124_0,hx124_1,hx124_2,hx124_3,hx124_4⟩:=at_T46 HR0.out x4_1 p124 q124
   cases e124
   replace hx124_0:=kx HB hx124_0
   replace hx124_1:=kx HB hx124_1
   replace hx124_2:=kx HB hx124_2
   replace hx124_3:=kx HB hx124_3
   replace hx124_4:=kx HB hx124_4
   replace p124:=eq_true p124
   replace q124:=eq_true q124
   go_wp2_with (first|((with_reducible refine jc 54 20 rfl rfl ?_);refine jG Try.func54 #[.agg #[.int .i64 ((rd_T46 l0 x4_1).f0),.int .i64 ((rd_T46 l0 x4_1).f1),.int .i64 ((rd_T46 l0 x4_1).f2),.int .i64 ((rd_T46 l0 x4_1).f3),.int .i64 ((rd_T46 l0 x4_1).f4)],.int .i64 (l0.length:Int)] ?_;(with_reducible refine (SQuadValid.calls _ _ _ _ _ _ _ _ (Aside0.out (by assumption))).mono ?_);rintro e w_0a ⟨rfl,hb⟩;refine⟨_,rfl,?_⟩;replace HB:=kH hb;clear hb))
   go_ret
   exact⟨qW,qB⟩
  obtain⟨ji11,hji11⟩:∃ j_:Int,(wrap64 ((l0.length:Int) - 1))=j_:=⟨_,rfl⟩
  replace H:(if 0<=(ji11) then (if (ji11) < (l0.length:Int) then (if ((rd_T46 l0 (ji11)).f0)=10 then (some true) else (some (((rd_T46 l0 (ji11)).f0) == 4))) else (none)) else (none))=some r:=by first|(rw [hji11] at H;exact H)|(simp only [hji11] at H ⊢;exact H)
  have hji11w:(IntKind.i64.wrap ((l0.length:Int) - 1))=ji11:=(i64_w _).trans hji11
  replace H:=jI H;obtain⟨c12b0,H⟩:=H
  replace H:=jI H;obtain⟨c13b0,H⟩:=H
  replace H:=jE H;rcases H with ⟨c14b0,c14b1,H⟩ | ⟨c14,c14b0,c14b1,H⟩
  ·obtain rfl:=Option.some.inj H
   have p126:0<=((ji11):Int):=qD
   have q126:(ji11) < (l0.length:Int):=qD
   obtain⟨ad126,e126,hx126_0,hx126_1,hx126_2,hx126_3,hx126_4⟩:=at_T46 HR0.out (ji11) p126 q126
   cases e126
   replace hx126_0:=kx HB hx126_0
   replace hx126_1:=kx HB hx126_1
   replace hx126_2:=kx HB hx126_2
   replace hx126_3:=kx HB hx126_3
   replace hx126_4:=kx HB hx126_4
   replace p126:=eq_true p126
   replace q126:=eq_true q126
   go_wp2
   go_ret
   exact⟨by first|rfl|(simp [errW_none,errW_some] <;> rfl)|(simp only [<- hji11];first|rfl|(simp [errW_none,errW_some] <;> rfl))|(simp [*,errW_none,errW_some] <;> rfl),qB⟩
  obtain rfl:=Option.some.inj H
  have p126:0<=((ji11):Int):=qD
  have q126:(ji11) < (l0.length:Int):=qD
  obtain⟨ad126,e126,hx126_0,hx126_1,hx126_2,hx126_3,hx126_4⟩:=at_T46 HR0.out (ji11) p126 q126
  cases e126
  replace hx126_0:=kx HB hx126_0
  replace hx126_1:=kx HB hx126_1
  replace hx126_2:=kx HB hx126_2
  replace hx126_3:=kx HB hx126_3
  replace hx126_4:=kx HB hx126_4
  replace p126:=eq_true p126
  replace q126:=eq_true q126
  have p127:0<=((ji11):Int):=qD
  have q127:(ji11) < (l0.length:Int):=qD
  obtain⟨ad127,e127,hx127_0,hx127_1,hx127_2,hx127_3,hx127_4⟩:=at_T46 HR0.out (ji11) p127 q127
  obtain rfl:ad126=ad127:=(by injection e127)
  replace hx127_0:=kx HB hx127_0
  replace hx127_1:=kx HB hx127_1
  replace hx127_2:=kx HB hx127_2
  replace hx127_3:=kx HB hx127_3
  replace hx127_4:=kx HB hx127_4
  replace p127:=eq_true p127
  replace q127:=eq_true q127
  go_wp2
  go_ret
  exact⟨by first|rfl|(simp [errW_none,errW_some] <;> rfl)|(simp only [<- hji11];first|rfl|(simp [errW_none,errW_some] <;> rfl))|(simp [*,errW_none,errW_some] <;> rfl),qB⟩
 obtain rfl:=Option.some.inj H
 go_enter Try.func29,Try.ntmps29
 go_wp2_with (first|((with_reducible refine jc 30 8 rfl rfl ?_);refine jG Try.func30 #[.int .i64 (l0.length:Int),.int .i64 1,.int .i64 600] ?_;(with_reducible refine (Sl6In.calls _ _ _ _ _ (Aside0.out (by assumption))).mono ?_);rintro e w' ⟨rfl,⟨nd,rfl⟩⟩;refine⟨_,rfl,?_⟩))
 go_ret
 exact⟨qW,qB⟩
def Sl31Next.j0:Nat->Int->Bool->Int->Int->Int->Int->Int->Option (List Int)
 | 0,_,_,_,_,_,_,_=>none
 | k+1,x1,x22,xa,xb,xc,xd,xe=>if x22=true then (some (([xe,wrap64 (x1+1)]:List Int))) else (if xa=5 then (if xe > (wrap64 (x1+1)) then (some (([wrap64 (x1+1),xe]:List Int))) else (some (([wrap64 (x1+1)]:List Int)))) else (some (([wrap64 (x1+1)]:List Int))))
def Sl31Next.f (k:Nat) (l0:List (S46)) (a1:Int):Option (List Int):=if 0<=a1 then (if a1 < (l0.length:Int) then (if ((rd_T46 l0 a1).f0)=10 then (some (([]:List Int))) else (if ((rd_T46 l0 a1).f0)=4 then (some (([(rd_T46 l0 a1).f4]:List Int))) else (if ((rd_T46 l0 a1).f0)=5 then (Sl31Next.j0 k a1 (decide (((rd_T46 l0 a1).f4) < (wrap64 (a1+1)))) ((rd_T46 l0 a1).f0) ((rd_T46 l0 a1).f1) ((rd_T46 l0 a1).f2) ((rd_T46 l0 a1).f3) ((rd_T46 l0 a1).f4)) else (Sl31Next.j0 k a1 false ((rd_T46 l0 a1).f0) ((rd_T46 l0 a1).f1) ((rd_T46 l0 a1).f2) ((rd_T46 l0 a1).f3) ((rd_T46 l0 a1).f4))))) else (none)) else (none)
theorem Sl31Next.mono_l:∀ k,(∀ y0 y1 y2 y3 y4 y5 y6,LeO (Sl31Next.j0 k y0 y1 y2 y3 y4 y5 y6) (Sl31Next.j0 (k+1) y0 y1 y2 y3 y4 y5 y6))
 | 0=>fun _ _ _ _ _ _ _ r h=>by simp [Sl31Next.j0] at h
 | k+1=>by
  have ih0:=Sl31Next.mono_l k
  intros;unfold Sl31Next.j0;exact mM
theorem Sl31Next.mono:∀ a0 a1 k,LeO (Sl31Next.f k a0 a1) (Sl31Next.f (k+1) a0 a1):=by
 intro a0 a1 k;have ih0:=Sl31Next.mono_l k;unfold Sl31Next.f;exact mM
theorem Sl31Next.calls (k:Nat) (A0:Option Addr) (c0:Nat) (l0:List (S46)) (a1:Int) (r:List Int) (w:World) (hr0:Kd.C k46 w A0 l0.length l0) (hc0:l0.length<=c0) (h:Sl31Next.f k l0 a1=some r) :
  Calls Try.prog 80 #[.slice A0 l0.length c0,.int .i64 a1] w fun e w'=>∃ v0_:Value,e = .returned (v0_)/\Kd.R (Kd.int .i64) 3 w' w.heap.size (fun _=>True) v0_ r/\Below w.heap.size w w':=by
 have hu46:=Try.underlying46
 have HR0:=aM hr0
 have HC0:=aM hc0
 clear hr0 hc0
 have HB:=aM (Below.refl w.heap.size w)
 have H:=h;unfold Sl31Next.f at H
 clear h
 replace H:=jI H;obtain⟨c3b0,H⟩:=H
 replace H:=jI H;obtain⟨c4b0,H⟩:=H
 replace H:=jE H;rcases H with ⟨c5b0,c5b1,H⟩ | ⟨c5,c5b0,c5b1,H⟩
 ·obtain⟨y141,Ny141⟩:=ky ((([]:List Int)):List Int)
  first|replace H:=kz Ny141 H|rw [<- Ny141.out] at H
  obtain rfl:=Option.some.inj H
  obtain⟨ad139,e139,hx139_0,hx139_1,hx139_2,hx139_3,hx139_4,p139,q139⟩:=jT46 HR0 a1
  cases e139
  go_enter Try.func80,Try.ntmps80
  go_wp2_with (first|((with_reducible refine jd 5 rfl ?_);refine jX _ 46 ?_;intro gb140 hg w6 hbox hb;have BK140:=aM hbox;have GW140:=kG hg;replace HB:=kH hb;clear hb hbox hg;have cz7:=jz5 BK140)|((with_reducible refine jd 14 rfl ?_);refine jV (Kd.int .i64) 3 ([]:List Int) [] (Reps.none _ _) ?_;intro v142 w8 ho9 hb;(first|rw [<- Ny141.out] at ho9|(simp only [Int.reduceToNat] at ho9;rw [<- Ny141.out] at ho9));have HO143:=kL ho9;replace BK140:=aM (blk_below (g:=gb140) (o:=.cells #[.int .i64 ((rd_T46 l0 a1).f0),.int .i64 ((rd_T46 l0 a1).f1),.int .i64 ((rd_T46 l0 a1).f2),.int .i64 ((rd_T46 l0 a1).f3),.int .i64 ((rd_T46 l0 a1).f4)] 46 (0,0)) (qF BK140) hb);replace HB:=kH hb;clear hb ho9))
  go_ret
  exact⟨_,by first|rfl|(simp [errW_none,errW_some] <;> rfl)|(simp [*,errW_none,errW_some] <;> rfl),qR HO143,qB⟩
 replace H:=jE H;rcases H with ⟨c10b0,c10b1,H⟩ | ⟨c10,c10b0,c10b1,H⟩
 ·obtain⟨y144,Ny144⟩:=ky ((([(rd_T46 l0 a1).f4]:List Int)):List Int)
  first|replace H:=kz Ny144 H|rw [<- Ny144.out] at H
  obtain rfl:=Option.some.inj H
  obtain⟨ad139,e139,hx139_0,hx139_1,hx139_2,hx139_3,hx139_4,p139,q139⟩:=jT46 HR0 a1
  cases e139
  go_enter Try.func80,Try.ntmps80
  go_wp2_with (first|((with_reducible refine jd 5 rfl ?_);refine jX _ 46 ?_;intro gb140 hg w11 hbox hb;have BK140:=aM hbox;have GW140:=kG hg;replace HB:=kH hb;clear hb hbox hg;have cz12:=jz5 BK140)|((with_reducible refine jd 21 rfl ?_);refine jV (Kd.int .i64) 3 ([(rd_T46 l0 a1).f4]:List Int) [.int .i64 ((rd_T46 l0 a1).f4)] (Reps.one (show Kd.M (Kd.int .i64) _ _ _ ((rd_T46 l0 a1).f4) [.int .i64 ((rd_T46 l0 a1).f4)] from rfl) (Reps.none _ _)) ?_;intro v145 w13 ho14 hb;(first|rw [<- Ny144.out] at ho14|(simp only [Int.reduceToNat] at ho14;rw [<- Ny144.out] at ho14));have HO146:=kL ho14;replace BK140:=aM (blk_below (g:=gb140) (o:=.cells #[.int .i64 ((rd_T46 l0 a1).f0),.int .i64 ((rd_T46 l0 a1).f1),.int .i64 ((rd_T46 l0 a1).f2),.int .i64 ((rd_T46 l0 a1).f3),.int .i64 ((rd_T46 l0 a1).f4)] 46 (0,0)) (qF BK140) hb);replace HB:=kH hb;clear hb ho14))
  go_ret
  exact⟨_,by first|rfl|(simp [errW_none,errW_some] <;> rfl)|(simp [*,errW_none,errW_some] <;> rfl),qR HO146,qB⟩
 have HC15:=aM H
 clear H
 obtain⟨ad139,e139,hx139_0,hx139_1,hx139_2,hx139_3,hx139_4,p139,q139⟩:=jT46 HR0 a1
 cases e139
 go_enter Try.func80,Try.ntmps80
 go_upto_region 6 with (first|((with_reducible refine jd 5 rfl ?_);refine jX _ 46 ?_;intro gb140 hg w16 hbox hb;have BK140:=aM hbox;have GW140:=kG hg;replace HB:=kH hb;clear hb hbox hg;have cz17:=jz5 BK140))
 (try simp only [Act.put,List.setIfInBounds_toArray,List.set_cons_zero,List.set_cons_succ])
 go_cut [22] (fun v22 wc=>∃ (kq:Nat) (x22_14:Bool),v22 = .bool x22_14/\Aside0 (Sl31Next.j0 kq a1 x22_14 ((rd_T46 l0 a1).f0) ((rd_T46 l0 a1).f1) ((rd_T46 l0 a1).f2) ((rd_T46 l0 a1).f3) ((rd_T46 l0 a1).f4)=some r)/\Aside0 (kq<=k)/\Aside0 (wc.heap[gb140]?=some (.cells #[.int .i64 ((rd_T46 l0 a1).f0),.int .i64 ((rd_T46 l0 a1).f1),.int .i64 ((rd_T46 l0 a1).f2),.int .i64 ((rd_T46 l0 a1).f3),.int .i64 ((rd_T46 l0 a1).f4)] 46 (0,0)))/\Aside0 (Below w.heap.size w wc))
 case first =>
  have H:=HC15.out
  clear HC15
  replace H:=jE H;rcases H with ⟨c18b0,c18b1,H⟩ | ⟨c18,c18b0,c18b1,H⟩
  ·(first|rw [c18b0]|(simp only [i64_w,i32_w];rw [c18b0])|skip)
   have H':=aM H
   clear H
   have cz19:=jz5 BK140
   go_wp2
   go_meet
   exact⟨_,(decide (((rd_T46 l0 a1).f4) < (wrap64 (a1+1)))),qZ,H',⟨by first|omega|exact Nat.le_refl _⟩,⟨qF BK140⟩,⟨qB⟩⟩
  (first|rw [c18b0]|(simp only [i64_w,i32_w];rw [c18b0])|skip)
  have H':=aM H
  clear H
  have cz20:=jz5 BK140
  go_wp2
  go_meet
  exact⟨_,(false),qZ,H',⟨by first|omega|exact Nat.le_refl _⟩,⟨qF BK140⟩,⟨qB⟩⟩
 clear HC15
 try clear c3b0;try clear c4b0;try clear c5;try clear c5b0;try clear c5b1;try clear c10;try clear c10b0;try clear c10b1;try clear cz17;try clear hx139_0;try clear hx139_1;try clear hx139_2;try clear hx139_3;try clear hx139_4;try clear p139;try clear q139
 obtain⟨kq,x22_14,rfl,HA,HJ14,BK140,HB⟩:=hcut
 cases kq with
 | zero=>exact absurd HA.out (by simp [Sl31Next.j0])
 | succ kj14 =>
  have H:=HA.out
  clear HA
  simp only [Sl31Next.j0] at H
  replace H:=jB H;rcases H with ⟨rfl,H⟩ | ⟨rfl,H⟩
  ·obtain⟨y147,Ny147⟩:=ky ((([((rd_T46 l0 a1).f4),wrap64 (a1+1)]:List Int)):List Int)
   first|replace H:=kz Ny147 H|rw [<- Ny147.out] at H
   obtain rfl:=Option.some.inj H
   have cz22:=jz5 BK140
   go_wp2_with (first|((with_reducible refine jd 37 rfl ?_);refine jV (Kd.int .i64) 3 ([((rd_T46 l0 a1).f4),wrap64 (a1+1)]:List Int) [.int .i64 ((rd_T46 l0 a1).f4),.int .i64 (wrap64 (a1+1))] (Reps.one (show Kd.M (Kd.int .i64) _ _ _ ((rd_T46 l0 a1).f4) [.int .i64 ((rd_T46 l0 a1).f4)] from rfl) (Reps.one (show Kd.M (Kd.int .i64) _ _ _ (wrap64 (a1+1)) [.int .i64 (wrap64 (a1+1))] from rfl) (Reps.none _ _))) ?_;intro v148 w23 ho24 hb;(first|rw [<- Ny147.out] at ho24|(simp only [Int.reduceToNat] at ho24;rw [<- Ny147.out] at ho24));have HO149:=kL ho24;replace BK140:=kB BK140 hb;replace HB:=kH hb;clear hb ho24))
   go_ret
   exact⟨_,by first|rfl|(simp [errW_none,errW_some] <;> rfl)|(simp [*,errW_none,errW_some] <;> rfl),qR HO149,qB⟩
  replace H:=jE H;rcases H with ⟨c25b0,c25b1,H⟩ | ⟨c25,c25b0,c25b1,H⟩
  ·replace H:=jD H;rcases H with ⟨c26b0,H⟩ | ⟨c26b0,H⟩
   ·obtain⟨y150,Ny150⟩:=ky ((([wrap64 (a1+1),((rd_T46 l0 a1).f4)]:List Int)):List Int)
    first|replace H:=kz Ny150 H|rw [<- Ny150.out] at H
    obtain rfl:=Option.some.inj H
    have cz27:=jz5 BK140
    go_wp2_with (first|((with_reducible refine jd 53 rfl ?_);refine jV (Kd.int .i64) 3 ([wrap64 (a1+1),((rd_T46 l0 a1).f4)]:List Int) [.int .i64 (wrap64 (a1+1)),.int .i64 ((rd_T46 l0 a1).f4)] (Reps.one (show Kd.M (Kd.int .i64) _ _ _ (wrap64 (a1+1)) [.int .i64 (wrap64 (a1+1))] from rfl) (Reps.one (show Kd.M (Kd.int .i64) _ _ _ ((rd_T46 l0 a1).f4) [.int .i64 ((rd_T46 l0 a1).f4)] from rfl) (Reps.none _ _))) ?_;intro v151 w28 ho29 hb;(first|rw [<- Ny150.out] at ho29|(simp only [Int.reduceToNat] at ho29;rw [<- Ny150.out] at ho29));have HO152:=kL ho29;replace BK140:=kB BK140 hb;replace HB:=kH hb;clear hb ho29))
    go_ret
    exact⟨_,by first|rfl|(simp [errW_none,errW_some] <;> rfl)|(simp [*,errW_none,errW_some] <;> rfl),qR HO152,qB⟩
   obtain⟨y153,Ny153⟩:=ky ((([wrap64 (a1+1)]:List Int)):List Int)
   first|replace H:=kz Ny153 H|rw [<- Ny153.out] at H
   obtain rfl:=Option.some.inj H
   have cz30:=jz5 BK140
   go_wp2_with (first|((with_reducible refine jd 56 rfl ?_);refine jV (Kd.int .i64) 3 ([wrap64 (a1+1)]:List Int) [.int .i64 (wrap64 (a1+1))] (Reps.one (show Kd.M (Kd.int .i64) _ _ _ (wrap64 (a1+1)) [.int .i64 (wrap64 (a1+1))] from rfl) (Reps.none _ _)) ?_;intro v154 w31 ho32 hb;(first|rw [<- Ny153.out] at ho32|(simp only [Int.reduceToNat] at ho32;rw [<- Ny153.out] at ho32));have HO155:=kL ho32;replace BK140:=kB BK140 hb;replace HB:=kH hb;clear hb ho32))
   go_ret
   exact⟨_,by first|rfl|(simp [errW_none,errW_some] <;> rfl)|(simp [*,errW_none,errW_some] <;> rfl),qR HO155,qB⟩
  obtain⟨y156,Ny156⟩:=ky ((([wrap64 (a1+1)]:List Int)):List Int)
  first|replace H:=kz Ny156 H|rw [<- Ny156.out] at H
  obtain rfl:=Option.some.inj H
  have cz33:=jz5 BK140
  go_wp2_with (first|((with_reducible refine jd 56 rfl ?_);refine jV (Kd.int .i64) 3 ([wrap64 (a1+1)]:List Int) [.int .i64 (wrap64 (a1+1))] (Reps.one (show Kd.M (Kd.int .i64) _ _ _ (wrap64 (a1+1)) [.int .i64 (wrap64 (a1+1))] from rfl) (Reps.none _ _)) ?_;intro v157 w34 ho35 hb;(first|rw [<- Ny156.out] at ho35|(simp only [Int.reduceToNat] at ho35;rw [<- Ny156.out] at ho35));have HO158:=kL ho35;replace BK140:=kB BK140 hb;replace HB:=kH hb;clear hb ho35))
  go_ret
  exact⟨_,by first|rfl|(simp [errW_none,errW_some] <;> rfl)|(simp [*,errW_none,errW_some] <;> rfl),qR HO158,qB⟩
def Sl33Edges.j0:Nat->List (S46)->List (S74)->Int->Bool->Int->Int->Int->Int->Int->Option (List Int)
 | 0,_,_,_,_,_,_,_,_,_=>none
 | k+1,x0,x1,x2,x23,xa,xb,xc,xd,xe=>if x23=true then ((Sl31Next.f k x0 x2).bind fun t513=>(some t513)) else (if 0<=xc then (if xc < (x1.length:Int) then (if ((rd_T74 x1 xc).f1)=0 then (some (([xe]:List Int))) else (some (([wrap64 (x2+1)]:List Int)))) else (none)) else (none))
def Sl33Edges.f (k:Nat) (l0:List (S46)) (l1:List (S74)) (a2:Int):Option (List Int):=if 0<=a2 then (if a2 < (l0.length:Int) then (if ((rd_T46 l0 a2).f0)=5 then (if 0<=((rd_T46 l0 a2).f2) then (if ((rd_T46 l0 a2).f2) < (l1.length:Int) then (Sl33Edges.j0 k l0 l1 a2 (((rd_T74 l1 ((rd_T46 l0 a2).f2)).f0) != 1) ((rd_T46 l0 a2).f0) ((rd_T46 l0 a2).f1) ((rd_T46 l0 a2).f2) ((rd_T46 l0 a2).f3) ((rd_T46 l0 a2).f4)) else (none)) else (none)) else (Sl33Edges.j0 k l0 l1 a2 true ((rd_T46 l0 a2).f0) ((rd_T46 l0 a2).f1) ((rd_T46 l0 a2).f2) ((rd_T46 l0 a2).f3) ((rd_T46 l0 a2).f4))) else (none)) else (none)
theorem Sl33Edges.mono_l:∀ k,(∀ y0 y1 y2 y3 y4 y5 y6 y7 y8,LeO (Sl33Edges.j0 k y0 y1 y2 y3 y4 y5 y6 y7 y8) (Sl33Edges.j0 (k+1) y0 y1 y2 y3 y4 y5 y6 y7 y8))
 | 0=>fun _ _ _ _ _ _ _ _ _ r h=>by simp [Sl33Edges.j0] at h
 | k+1=>by
  have ih0:=Sl33Edges.mono_l k;have m0:=@Sl31Next.mono
  intros;unfold Sl33Edges.j0;exact mM
theorem Sl33Edges.mono:∀ a0 a1 a2 k,LeO (Sl33Edges.f k a0 a1 a2) (Sl33Edges.f (k+1) a0 a1 a2):=by
 intro a0 a1 a2 k;have ih0:=Sl33Edges.mono_l k;unfold Sl33Edges.f;have m0:=@Sl31Next.mono;exact mM
theorem Sl33Edges.calls (k:Nat) (A0:Option Addr) (c0:Nat) (l0:List (S46)) (A1:Option Addr) (c1:Nat) (l1:List (S74)) (a2:Int) (r:List Int) (w:World) (hr0:Kd.C k46 w A0 l0.length l0) (hc0:l0.length<=c0) (hr1:Kd.C k74 w A1 l1.length l1) (hc1:l1.length<=c1) (h:Sl33Edges.f k l0 l1 a2=some r) :
  Calls Try.prog 112 #[.slice A0 l0.length c0,.slice A1 l1.length c1,.int .i64 a2] w fun e w'=>∃ v0_:Value,e = .returned (v0_)/\Kd.R (Kd.int .i64) 3 w' w.heap.size (fun _=>True) v0_ r/\Below w.heap.size w w':=by
 have hu46:=Try.underlying46
 have HR0:=aM hr0
 have HC0:=aM hc0
 clear hr0 hc0
 have HR1:=aM hr1
 have HC1:=aM hc1
 clear hr1 hc1
 have HB:=aM (Below.refl w.heap.size w)
 have H:=h;unfold Sl33Edges.f at H
 clear h
 replace H:=jI H;obtain⟨c4b0,H⟩:=H
 replace H:=jI H;obtain⟨c5b0,H⟩:=H
 have HC6:=aM H
 clear H
 obtain⟨ad510,e510,hx510_0,hx510_1,hx510_2,hx510_3,hx510_4,p510,q510⟩:=jT46 HR0 a2
 cases e510
 go_enter Try.func112,Try.ntmps112
 go_upto_region 2 with (first|((with_reducible refine jd 7 rfl ?_);refine jX _ 46 ?_;intro gb511 hg w7 hbox hb;have BK511:=aM hbox;have GW511:=kG hg;replace HB:=kH hb;clear hb hbox hg;have cz8:=jz5 BK511))
 (try simp only [Act.put,List.setIfInBounds_toArray,List.set_cons_zero,List.set_cons_succ])
 go_cut [23] (fun v23 wc=>∃ (kq:Nat) (x23_5:Bool),v23 = .bool x23_5/\Aside0 (Sl33Edges.j0 kq l0 l1 a2 x23_5 ((rd_T46 l0 a2).f0) ((rd_T46 l0 a2).f1) ((rd_T46 l0 a2).f2) ((rd_T46 l0 a2).f3) ((rd_T46 l0 a2).f4)=some r)/\Aside0 (kq<=k)/\Aside0 (wc.heap[gb511]?=some (.cells #[.int .i64 ((rd_T46 l0 a2).f0),.int .i64 ((rd_T46 l0 a2).f1),.int .i64 ((rd_T46 l0 a2).f2),.int .i64 ((rd_T46 l0 a2).f3),.int .i64 ((rd_T46 l0 a2).f4)] 46 (0,0)))/\Aside0 (Below w.heap.size w wc))
 case first =>
  have H:=HC6.out
  clear HC6
  replace H:=jE H;rcases H with ⟨c9b0,c9b1,H⟩ | ⟨c9,c9b0,c9b1,H⟩
  ·(first|rw [c9b0]|(simp only [i64_w,i32_w];rw [c9b0])|skip)
   replace H:=jI H;obtain⟨c10b0,H⟩:=H
   replace H:=jI H;obtain⟨c11b0,H⟩:=H
   have H':=aM H
   clear H
   have cz12:=jz5 BK511
   have p512:0<=(((rd_T46 l0 a2).f2):Int):=qD
   have q512:((rd_T46 l0 a2).f2) < (l1.length:Int):=qD
   obtain⟨ad512,e512,hx512_0,hx512_1⟩:=at_T74 HR1.out ((rd_T46 l0 a2).f2) p512 q512
   cases e512
   have hn512_0:ad512.block≠gb511:=kn hx512_0 GW511
   have hn512_1:ad512.block≠gb511:=kn hx512_0 GW511
   have hn512_2:ad512.block≠gb511:=kn hx512_0 GW511
   have hn512_3:ad512.block≠gb511:=kn hx512_0 GW511
   have hn512_4:ad512.block≠gb511:=kn hx512_0 GW511
   replace hx512_0:=kx HB hx512_0
   replace hx512_1:=kx HB hx512_1
   replace hx512_0:=(cell_far (p:=⟨gb511,0,none⟩) (kf (hn512_0)) (.int .i64 ((rd_T46 l0 a2).f0))).trans hx512_0
   replace hx512_1:=(cell_far (p:=⟨gb511,0,none⟩) (kf (hn512_0)) (.int .i64 ((rd_T46 l0 a2).f0))).trans hx512_1
   replace hx512_0:=(cell_far (p:=⟨gb511,1,none⟩) (kf (hn512_1)) (.int .i64 ((rd_T46 l0 a2).f1))).trans hx512_0
   replace hx512_1:=(cell_far (p:=⟨gb511,1,none⟩) (kf (hn512_1)) (.int .i64 ((rd_T46 l0 a2).f1))).trans hx512_1
   replace hx512_0:=(cell_far (p:=⟨gb511,2,none⟩) (kf (hn512_2)) (.int .i64 ((rd_T46 l0 a2).f2))).trans hx512_0
   replace hx512_1:=(cell_far (p:=⟨gb511,2,none⟩) (kf (hn512_2)) (.int .i64 ((rd_T46 l0 a2).f2))).trans hx512_1
   replace hx512_0:=(cell_far (p:=⟨gb511,3,none⟩) (kf (hn512_3)) (.int .i64 ((rd_T46 l0 a2).f3))).trans hx512_0
   replace hx512_1:=(cell_far (p:=⟨gb511,3,none⟩) (kf (hn512_3)) (.int .i64 ((rd_T46 l0 a2).f3))).trans hx512_1
   replace hx512_0:=(cell_far (p:=⟨gb511,4,none⟩) (kf (hn512_4)) (.int .i64 ((rd_T46 l0 a2).f4))).trans hx512_0
   replace hx512_1:=(cell_far (p:=⟨gb511,4,none⟩) (kf (hn512_4)) (.int .i64 ((rd_T46 l0 a2).f4))).trans hx512_1
   clear hn512_0
   clear hn512_1
   clear hn512_2
   clear hn512_3
   clear hn512_4
   replace p512:=eq_true p512
   replace q512:=eq_true q512
   go_wp2
   go_meet
   exact⟨_,((((rd_T74 l1 ((rd_T46 l0 a2).f2)).f0) != 1)),qZ,H',⟨by first|omega|exact Nat.le_refl _⟩,⟨qF BK511⟩,⟨qB⟩⟩
  (first|rw [c9b0]|(simp only [i64_w,i32_w];rw [c9b0])|skip)
  have H':=aM H
  clear H
  have cz13:=jz5 BK511
  go_wp2
  go_meet
  exact⟨_,(true),qZ,H',⟨by first|omega|exact Nat.le_refl _⟩,⟨qF BK511⟩,⟨qB⟩⟩
 clear HC6
 try clear c1;try clear c4b0;try clear c5b0;try clear cz8;try clear hx510_0;try clear hx510_1;try clear hx510_2;try clear hx510_3;try clear hx510_4;try clear p510;try clear q510
 obtain⟨kq,x23_5,rfl,HA,HJ5,BK511,HB⟩:=hcut
 cases kq with
 | zero=>exact absurd HA.out (by simp [Sl33Edges.j0])
 | succ kj5 =>
  have H:=HA.out
  clear HA
  simp only [Sl33Edges.j0] at H
  replace H:=jB H;rcases H with ⟨rfl,H⟩ | ⟨rfl,H⟩
  ·obtain⟨t513,A15,H⟩:=qE H
   try dsimp only at H
   obtain rfl:=Option.some.inj H
   go_wp2_with (first|((with_reducible refine jc 80 26 rfl rfl ?_);refine jG Try.func80 #[.slice (some ad510) l0.length c0,.int .i64 a2] ?_;(with_reducible refine (Sl31Next.calls kj5 _ _ l0 a2 t513 _ ?side1 ?side2 A15.out).mono ?_);(case side1=>exact kC (Kd.C_below HR0.out HB.out));(case side2=>exact HC0.out);rintro e w16 ⟨v514,rfl,ho0,hb⟩;refine⟨_,rfl,?_⟩;have HO515:=kL ho0;replace BK511:=kB BK511 hb;replace HB:=kH hb;clear hb;(try clear ho0)))
   go_ret
   exact⟨_,by first|rfl|(simp [errW_none,errW_some] <;> rfl)|(simp [*,errW_none,errW_some] <;> rfl),qR HO515,qB⟩
  replace H:=jI H;obtain⟨c17b0,H⟩:=H
  replace H:=jI H;obtain⟨c18b0,H⟩:=H
  replace H:=jE H;rcases H with ⟨c19b0,c19b1,H⟩ | ⟨c19,c19b0,c19b1,H⟩
  ·obtain⟨y517,Ny517⟩:=ky ((([((rd_T46 l0 a2).f4)]:List Int)):List Int)
   first|replace H:=kz Ny517 H|rw [<- Ny517.out] at H
   obtain rfl:=Option.some.inj H
   have cz20:=jz5 BK511
   have p516:0<=(((rd_T46 l0 a2).f2):Int):=qD
   have q516:((rd_T46 l0 a2).f2) < (l1.length:Int):=qD
   obtain⟨ad516,e516,hx516_0,hx516_1⟩:=at_T74 HR1.out ((rd_T46 l0 a2).f2) p516 q516
   cases e516
   replace hx516_0:=kx HB hx516_0
   replace hx516_1:=kx HB hx516_1
   replace p516:=eq_true p516
   replace q516:=eq_true q516
   go_wp2_with (first|((with_reducible refine jd 36 rfl ?_);refine jV (Kd.int .i64) 3 ([((rd_T46 l0 a2).f4)]:List Int) [.int .i64 ((rd_T46 l0 a2).f4)] (Reps.one (show Kd.M (Kd.int .i64) _ _ _ ((rd_T46 l0 a2).f4) [.int .i64 ((rd_T46 l0 a2).f4)] from rfl) (Reps.none _ _)) ?_;intro v518 w21 ho22 hb;(first|rw [<- Ny517.out] at ho22|(simp only [Int.reduceToNat] at ho22;rw [<- Ny517.out] at ho22));have HO519:=kL ho22;replace BK511:=kB BK511 hb;replace HB:=kH hb;clear hb ho22))
   go_ret
   exact⟨_,by first|rfl|(simp [errW_none,errW_some] <;> rfl)|(simp [*,errW_none,errW_some] <;> rfl),qR HO519,qB⟩
  obtain⟨y520,Ny520⟩:=ky ((([wrap64 (a2+1)]:List Int)):List Int)
  first|replace H:=kz Ny520 H|rw [<- Ny520.out] at H
  obtain rfl:=Option.some.inj H
  have cz23:=jz5 BK511
  have p516:0<=(((rd_T46 l0 a2).f2):Int):=qD
  have q516:((rd_T46 l0 a2).f2) < (l1.length:Int):=qD
  obtain⟨ad516,e516,hx516_0,hx516_1⟩:=at_T74 HR1.out ((rd_T46 l0 a2).f2) p516 q516
  cases e516
  replace hx516_0:=kx HB hx516_0
  replace hx516_1:=kx HB hx516_1
  replace p516:=eq_true p516
  replace q516:=eq_true q516
  go_wp2_with (first|((with_reducible refine jd 39 rfl ?_);refine jV (Kd.int .i64) 3 ([wrap64 (a2+1)]:List Int) [.int .i64 (wrap64 (a2+1))] (Reps.one (show Kd.M (Kd.int .i64) _ _ _ (wrap64 (a2+1)) [.int .i64 (wrap64 (a2+1))] from rfl) (Reps.none _ _)) ?_;intro v521 w24 ho25 hb;(first|rw [<- Ny520.out] at ho25|(simp only [Int.reduceToNat] at ho25;rw [<- Ny520.out] at ho25));have HO522:=kL ho25;replace BK511:=kB BK511 hb;replace HB:=kH hb;clear hb ho25))
  go_ret
  exact⟨_,by first|rfl|(simp [errW_none,errW_some] <;> rfl)|(simp [*,errW_none,errW_some] <;> rfl),qR HO522,qB⟩
def Sl2Flag.f (a0:Bool):Option (Int):=if a0=true then (some 1) else (some 0)
theorem Sl2Flag.calls (a0:Bool) (r:Int) (w:World) (h:Sl2Flag.f a0=some r) :
  Calls Try.prog 123 #[.bool a0] w fun e w'=>e = .returned (.int .i64 r)/\Drawn0 w w':=by
 have H:(if a0=true then (some 1) else (some 0))=some r:=h
 clear h
 replace H:=jB H;rcases H with ⟨rfl,H⟩ | ⟨rfl,H⟩
 ·obtain rfl:=Option.some.inj H
  go_enter Try.func123,Try.ntmps123
  go_wp2
  go_ret
  exact⟨qZ,qU⟩
 obtain rfl:=Option.some.inj H
 go_enter Try.func123,Try.ntmps123
 go_wp2
 go_ret
 exact⟨qZ,qU⟩
def SWrap.f (a0:Int):Option (Int):=if (Int.tmod a0 4294967296) > 2147483647 then (some (wrap64 ((Int.tmod a0 4294967296) - 4294967296))) else (if (Int.tmod a0 4294967296) < (-2147483648) then (some (wrap64 ((Int.tmod a0 4294967296)+4294967296))) else (some (Int.tmod a0 4294967296)))
theorem SWrap.calls (a0:Int) (r:Int) (w:World) (h:SWrap.f a0=some r) :
  Calls Try.prog 125 #[.int .i64 a0] w fun e w'=>e = .returned (.int .i64 r)/\Drawn0 w w':=by
 have H:=h;unfold SWrap.f at H
 clear h
 replace H:=jD H;rcases H with ⟨c2b0,H⟩ | ⟨c2b0,H⟩
 ·obtain rfl:=Option.some.inj H
  go_enter Try.func125,Try.ntmps125
  go_wp2
  go_ret
  exact⟨qZ,qU⟩
 replace H:=jD H;rcases H with ⟨c3b0,H⟩ | ⟨c3b0,H⟩
 ·obtain rfl:=Option.some.inj H
  go_enter Try.func125,Try.ntmps125
  go_wp2
  go_ret
  exact⟨qZ,qU⟩
 obtain rfl:=Option.some.inj H
 go_enter Try.func125,Try.ntmps125
 go_wp2
 go_ret
 exact⟨qZ,qU⟩
def Sl2Shift.f (a0:Int) (a1:Int) (a2:Bool):Option (Int):=if a2=true then (if 0<=(Go.bits .and .i64 a1 31) then (some (shr .i64 a0 (Go.bits .and .i64 a1 31))) else (none)) else (if 0<=(Go.bits .and .i64 a1 31) then ((SWrap.f (shl .i64 a0 (Go.bits .and .i64 a1 31))).bind fun t523=>(some t523)) else (none))
theorem Sl2Shift.calls (a0:Int) (a1:Int) (a2:Bool) (r:Int) (w:World) (h:Sl2Shift.f a0 a1 a2=some r) :
  Calls Try.prog 124 #[.int .i64 a0,.int .i64 a1,.bool a2] w fun e w'=>e = .returned (.int .i64 r)/\Drawn0 w w':=by
 have H:=h;unfold Sl2Shift.f at H
 clear h
 replace H:=jB H;rcases H with ⟨rfl,H⟩ | ⟨rfl,H⟩
 ·replace H:=jJ H;obtain⟨c5b0,c5b1,H⟩:=H
  obtain⟨ji6,hji6⟩:∃ j_:Int,(shr .i64 a0 (Go.bits .and .i64 a1 31))=j_:=⟨_,rfl⟩
  replace H:(some ji6)=some r:=by first|(rw [hji6] at H;exact H)|(simp only [hji6] at H ⊢;exact H)
  have hji6_:(a0 / 2 ^ min (Go.bits .and .i64 a1 31).toNat 64)=ji6:=hji6
  have hji6z:(Go.bits .and .i64 a1 31)<=64->(a0 / 2 ^ (Go.bits .and .i64 a1 31).toNat)=ji6:=shr_small hji6
  obtain rfl:=Option.some.inj H
  go_enter Try.func124,Try.ntmps124
  go_wp2
  go_ret
  exact⟨by first|rfl|(simp;done)|(simp only [<- hji6] <;> (first|rfl|simp))|(simp [*];done),by repeat (first|exact Drawn0.refl _|apply Drawn0.step)⟩
 replace H:=jJ H;obtain⟨c7b0,c7b1,H⟩:=H
 obtain⟨ji8,hji8⟩:∃ j_:Int,(shl .i64 a0 (Go.bits .and .i64 a1 31))=j_:=⟨_,rfl⟩
 replace H:((SWrap.f (ji8)).bind fun t523=>(some t523))=some r:=by first|(rw [hji8] at H;exact H)|(simp only [hji8] at H ⊢;exact H)
 have hji8_:(IntKind.i64.wrap (a0*2 ^ min (Go.bits .and .i64 a1 31).toNat 64))=ji8:=hji8
 have hji8z:(Go.bits .and .i64 a1 31)<=64->(IntKind.i64.wrap (a0*2 ^ (Go.bits .and .i64 a1 31).toNat))=ji8:=shl_small hji8
 have hji8y:(wrap64 (a0*2 ^ min (Go.bits .and .i64 a1 31).toNat 64))=ji8:=(i64_w _).symm.trans hji8_
 have hji8x:(Go.bits .and .i64 a1 31)<=64->(wrap64 (a0*2 ^ (Go.bits .and .i64 a1 31).toNat))=ji8:=fun h_=>(i64_w _).symm.trans (hji8z h_)
 obtain⟨t523,A9,H⟩:=qE H
 try dsimp only at H
 obtain rfl:=Option.some.inj H
 go_enter Try.func124,Try.ntmps124
 go_wp2_with (first|((with_reducible refine gate_callee (f:=125) rfl ?_);refine goesL_ (some 16) rfl rfl Try.func125 (by kernel_rfl) rfl #[.int .i64 ji8] rfl (by (try simp only [List.map_toArray,List.map_cons,List.map_nil]);first|done|(simp only [hji8];rfl)|rfl|(simp only [List.length_drop,List.length_take];rfl)) ?_;(with_reducible refine (SWrap.calls ji8 t523 _ A9.out).mono ?_);rintro e w' ⟨rfl,⟨nd,rfl⟩⟩;refine⟨_,rfl,?_⟩))
 go_ret
 exact⟨by first|rfl|(simp;done)|(simp only [<- hji8] <;> (first|rfl|simp))|(simp [*];done),by repeat (first|exact Drawn0.refl _|apply Drawn0.step)⟩
def Sl2Divide.f (a0:Int) (a1:Int):Option (Int):=if a1=0 then (some (-1)) else ((SWrap.f (wrap64 (Int.tdiv a0 a1))).bind fun t524=>(some t524))
theorem Sl2Divide.calls (a0:Int) (a1:Int) (r:Int) (w:World) (h:Sl2Divide.f a0 a1=some r) :
  Calls Try.prog 126 #[.int .i64 a0,.int .i64 a1] w fun e w'=>e = .returned (.int .i64 r)/\Drawn0 w w':=by
 have H:=h;unfold Sl2Divide.f at H
 clear h
 replace H:=jE H;rcases H with ⟨c3b0,c3b1,H⟩ | ⟨c3,c3b0,c3b1,H⟩
 ·obtain rfl:=Option.some.inj H
  go_enter Try.func126,Try.ntmps126
  go_wp2
  go_ret
  exact⟨qZ,qU⟩
 obtain⟨t524,A4,H⟩:=qE H
 try dsimp only at H
 obtain rfl:=Option.some.inj H
 go_enter Try.func126,Try.ntmps126
 go_wp2_with (first|((with_reducible refine jc 125 10 rfl rfl ?_);refine jG Try.func125 #[.int .i64 (wrap64 (Int.tdiv a0 a1))] ?_;(with_reducible refine (SWrap.calls _ _ _ (Aside0.out (by assumption))).mono ?_);rintro e w' ⟨rfl,⟨nd,rfl⟩⟩;refine⟨_,rfl,?_⟩))
 go_ret
 exact⟨qZ,qU⟩
def Sl2Remain.f (a0:Int) (a1:Int):Option (Int):=if a1=0 then (some a0) else (some (Int.tmod a0 a1))
theorem Sl2Remain.calls (a0:Int) (a1:Int) (r:Int) (w:World) (h:Sl2Remain.f a0 a1=some r) :
  Calls Try.prog 127 #[.int .i64 a0,.int .i64 a1] w fun e w'=>e = .returned (.int .i64 r)/\Drawn0 w w':=by
 have H:(if a1=0 then (some a0) else (some (Int.tmod a0 a1)))=some r:=h
 clear h
 replace H:=jE H;rcases H with ⟨c3b0,c3b1,H⟩ | ⟨c3,c3b0,c3b1,H⟩
 ·obtain rfl:=Option.some.inj H
  go_enter Try.func127,Try.ntmps127
  go_wp2
  go_ret
  exact⟨qZ,qU⟩
 obtain rfl:=Option.some.inj H
 go_enter Try.func127,Try.ntmps127
 go_wp2
 go_ret
 exact⟨qZ,qU⟩
def SApply.j0:Nat->Int->Int->Int->Bool->Option (Int × Bool)
 | 0,_,_,_,_=>none
 | k+1,x0,x1,x2,x20=>if x20=true then (some (0,false)) else (if x0=1 then (some (Go.bits .or .i64 x1 x2,true)) else (if x0=2 then (some (Go.bits .xor .i64 x1 x2,true)) else (if x0=3 then (some (Go.bits .and .i64 x1 x2,true)) else (if x0=4 then ((Sl2Flag.f (x1 == x2)).bind fun t528=>(some (t528,true))) else (if x0=5 then ((Sl2Flag.f (decide (x1 < x2))).bind fun t529=>(some (t529,true))) else (if x0=6 then ((Sl2Shift.f x1 x2 false).bind fun t530=>(some (t530,true))) else (if x0=7 then ((Sl2Shift.f x1 x2 true).bind fun t531=>(some (t531,true))) else (if x0=8 then ((SWrap.f (wrap64 (x1+x2))).bind fun t532=>(some (t532,true))) else (if x0=9 then ((SWrap.f (wrap64 (x1 - x2))).bind fun t533=>(some (t533,true))) else (if x0=10 then ((SWrap.f (wrap64 (x1*x2))).bind fun t534=>(some (t534,true))) else (if x0=11 then ((Sl2Divide.f x1 x2).bind fun t535=>(some (t535,true))) else ((Sl2Remain.f x1 x2).bind fun t536=>(some (t536,true))))))))))))))
def SApply.f (k:Nat) (a0:Int) (a1:Int) (a2:Int):Option (Int × Bool):=(SOpValid.f a0).bind fun t525=>(if t525=true then ((SWordValid.f a1).bind fun t526=>(if t526=true then ((SWordValid.f a2).bind fun t527=>(SApply.j0 k a0 a1 a2 (!t527))) else (SApply.j0 k a0 a1 a2 true))) else (SApply.j0 k a0 a1 a2 true))
theorem SApply.mono_l:∀ k,(∀ y0 y1 y2 y3,LeO (SApply.j0 k y0 y1 y2 y3) (SApply.j0 (k+1) y0 y1 y2 y3))
 | 0=>fun _ _ _ _ r h=>by simp [SApply.j0] at h
 | k+1=>by
  have ih0:=SApply.mono_l k
  intros;unfold SApply.j0;exact mM
theorem SApply.mono:∀ a0 a1 a2 k,LeO (SApply.f k a0 a1 a2) (SApply.f (k+1) a0 a1 a2):=by
 intro a0 a1 a2 k;have ih0:=SApply.mono_l k;unfold SApply.f;exact mM
theorem SApply_calls_s0 {G:Prop} (h:G:=by
  go_wp2_with (first|((with_reducible refine jc 123 42 rfl rfl ?_);refine jG Try.func123 #[.bool (a1 == a2)] ?_;(with_reducible refine (Sl2Flag.calls _ _ _ (Aside0.out (by assumption))).mono ?_);rintro e w' ⟨rfl,⟨nd,rfl⟩⟩;refine⟨_,rfl,?_⟩)|((with_reducible refine jc 123 48 rfl rfl ?_);refine jG Try.func123 #[.bool (decide (a1 < a2))] ?_;(with_reducible refine (Sl2Flag.calls _ _ _ (Aside0.out (by assumption))).mono ?_);rintro e w' ⟨rfl,⟨nd,rfl⟩⟩;refine⟨_,rfl,?_⟩)|((with_reducible refine jc 124 53 rfl rfl ?_);refine jG Try.func124 #[.int .i64 a1,.int .i64 a2,.bool false] ?_;(with_reducible refine (Sl2Shift.calls _ _ _ _ _ (Aside0.out (by assumption))).mono ?_);rintro e w' ⟨rfl,⟨nd,rfl⟩⟩;refine⟨_,rfl,?_⟩)|((with_reducible refine jc 124 58 rfl rfl ?_);refine jG Try.func124 #[.int .i64 a1,.int .i64 a2,.bool true] ?_;(with_reducible refine (Sl2Shift.calls _ _ _ _ _ (Aside0.out (by assumption))).mono ?_);rintro e w' ⟨rfl,⟨nd,rfl⟩⟩;refine⟨_,rfl,?_⟩)|((with_reducible refine jc 125 64 rfl rfl ?_);refine jG Try.func125 #[.int .i64 (wrap64 (a1+a2))] ?_;(with_reducible refine (SWrap.calls _ _ _ (Aside0.out (by assumption))).mono ?_);rintro e w' ⟨rfl,⟨nd,rfl⟩⟩;refine⟨_,rfl,?_⟩)|((with_reducible refine jc 125 70 rfl rfl ?_);refine jG Try.func125 #[.int .i64 (wrap64 (a1 - a2))] ?_;(with_reducible refine (SWrap.calls _ _ _ (Aside0.out (by assumption))).mono ?_);rintro e w' ⟨rfl,⟨nd,rfl⟩⟩;refine⟨_,rfl,?_⟩)|((with_reducible refine jc 125 76 rfl rfl ?_);refine jG Try.func125 #[.int .i64 (wrap64 (a1*a2))] ?_;(with_reducible refine (SWrap.calls _ _ _ (Aside0.out (by assumption))).mono ?_);rintro e w' ⟨rfl,⟨nd,rfl⟩⟩;refine⟨_,rfl,?_⟩)|((with_reducible refine jc 126 81 rfl rfl ?_);refine jG Try.func126 #[.int .i64 a1,.int .i64 a2] ?_;(with_reducible refine (Sl2Divide.calls _ _ _ _ (Aside0.out (by assumption))).mono ?_);rintro e w' ⟨rfl,⟨nd,rfl⟩⟩;refine⟨_,rfl,?_⟩)|((with_reducible refine jc 127 84 rfl rfl ?_);refine jG Try.func127 #[.int .i64 a1,.int .i64 a2] ?_;(with_reducible refine (Sl2Remain.calls _ _ _ _ (Aside0.out (by assumption))).mono ?_);rintro e w' ⟨rfl,⟨nd,rfl⟩⟩;refine⟨_,rfl,?_⟩))
  go_ret2
  exact⟨qZ,qU⟩):G:=h
theorem SApply_calls_s1 {G:Prop} (h:G:=by
  go_wp2_with (first|((with_reducible refine jc 78 9 rfl rfl ?_);refine jG Try.func78 #[.int .i64 a0] ?_;(with_reducible refine (SOpValid.calls _ _ _ (Aside0.out (by assumption))).mono ?_);rintro e w' ⟨rfl,⟨nd,rfl⟩⟩;refine⟨_,rfl,?_⟩)|(go_at_call 77;(with_reducible refine (SWordValid.calls _ _ _ (Aside0.out (by assumption))).mono ?_);rintro e w' ⟨rfl,⟨nd,rfl⟩⟩))
  go_meet
  exact⟨_,_,qZ,H',⟨by first|omega|exact Nat.le_refl _⟩,by repeat (first|exact Drawn0.refl _|apply Drawn0.step)⟩):G:=h
theorem SApply.calls (k:Nat) (a0:Int) (a1:Int) (a2:Int) (r1:Int) (r2:Bool) (w:World) (h:SApply.f k a0 a1 a2=some (r1,r2)) :
  Calls Try.prog 122 #[.int .i64 a0,.int .i64 a1,.int .i64 a2] w fun e w'=>e = .returned (.tuple #[.int .i64 r1,.bool r2])/\Drawn0 w w':=by
 have H:=h;unfold SApply.f at H
 clear h
 have HC4:=aM H
 clear H
 go_enter Try.func122,Try.ntmps122
 go_upto_region 1 with (fail)
 go_cut [20] (fun v20 wc=>∃ (kq:Nat) (x20_3:Bool),v20 = .bool x20_3/\Aside0 (SApply.j0 kq a0 a1 a2 x20_3=some (r1,r2))/\Aside0 (kq<=k)/\Drawn0 w wc)
 case first =>
  have H:=HC4.out
  clear HC4
  obtain⟨t525,A5,H⟩:=qE H
  try dsimp only at H
  replace H:=jB H;rcases H with ⟨rfl,H⟩ | ⟨rfl,H⟩
  ·obtain⟨t526,A7,H⟩:=qE H
   try dsimp only at H
   replace H:=jB H;rcases H with ⟨rfl,H⟩ | ⟨rfl,H⟩
   ·obtain⟨t527,A9,H⟩:=qE H
    try dsimp only at H
    have H':=aM H
    clear H
    exact SApply_calls_s1
   have H':=aM H
   clear H
   exact SApply_calls_s1
  have H':=aM H
  clear H
  exact SApply_calls_s1
 clear HC4
 obtain⟨kq,x20_3,rfl,HA,HJ3,⟨mc3,rfl⟩⟩:=hcut
 cases kq with
 | zero=>exact absurd HA.out (by simp [SApply.j0])
 | succ kj3 =>
  have H:=HA.out
  clear HA
  simp only [SApply.j0] at H
  replace H:=jB H;rcases H with ⟨rfl,H⟩ | ⟨rfl,H⟩
  ·simp only [Option.some.injEq,Prod.mk.injEq] at H
   obtain⟨rfl,rfl⟩:=H
   go_wp2
   go_ret2
   exact⟨qZ,qU⟩
  replace H:=jE H;rcases H with ⟨c11b0,c11b1,H⟩ | ⟨c11,c11b0,c11b1,H⟩
  ·simp only [Option.some.injEq,Prod.mk.injEq] at H
   obtain⟨rfl,rfl⟩:=H
   go_wp2
   go_ret2
   exact⟨qZ,qU⟩
  replace H:=jE H;rcases H with ⟨c12b0,c12b1,H⟩ | ⟨c12,c12b0,c12b1,H⟩
  ·simp only [Option.some.injEq,Prod.mk.injEq] at H
   obtain⟨rfl,rfl⟩:=H
   go_wp2
   go_ret2
   exact⟨qZ,qU⟩
  replace H:=jE H;rcases H with ⟨c13b0,c13b1,H⟩ | ⟨c13,c13b0,c13b1,H⟩
  ·simp only [Option.some.injEq,Prod.mk.injEq] at H
   obtain⟨rfl,rfl⟩:=H
   go_wp2
   go_ret2
   exact⟨qZ,qU⟩
  replace H:=jE H;rcases H with ⟨c14b0,c14b1,H⟩ | ⟨c14,c14b0,c14b1,H⟩
  ·obtain⟨t528,A15,H⟩:=qE H
   try dsimp only at H
   simp only [Option.some.injEq,Prod.mk.injEq] at H
   obtain⟨rfl,rfl⟩:=H
   exact SApply_calls_s0
  replace H:=jE H;rcases H with ⟨c16b0,c16b1,H⟩ | ⟨c16,c16b0,c16b1,H⟩
  ·obtain⟨t529,A17,H⟩:=qE H
   try dsimp only at H
   simp only [Option.some.injEq,Prod.mk.injEq] at H
   obtain⟨rfl,rfl⟩:=H
   exact SApply_calls_s0
  replace H:=jE H;rcases H with ⟨c18b0,c18b1,H⟩ | ⟨c18,c18b0,c18b1,H⟩
  ·obtain⟨t530,A19,H⟩:=qE H
   try dsimp only at H
   simp only [Option.some.injEq,Prod.mk.injEq] at H
   obtain⟨rfl,rfl⟩:=H
   exact SApply_calls_s0
  replace H:=jE H;rcases H with ⟨c20b0,c20b1,H⟩ | ⟨c20,c20b0,c20b1,H⟩
  ·obtain⟨t531,A21,H⟩:=qE H
   try dsimp only at H
   simp only [Option.some.injEq,Prod.mk.injEq] at H
   obtain⟨rfl,rfl⟩:=H
   exact SApply_calls_s0
  replace H:=jE H;rcases H with ⟨c22b0,c22b1,H⟩ | ⟨c22,c22b0,c22b1,H⟩
  ·obtain⟨t532,A23,H⟩:=qE H
   try dsimp only at H
   simp only [Option.some.injEq,Prod.mk.injEq] at H
   obtain⟨rfl,rfl⟩:=H
   exact SApply_calls_s0
  replace H:=jE H;rcases H with ⟨c24b0,c24b1,H⟩ | ⟨c24,c24b0,c24b1,H⟩
  ·obtain⟨t533,A25,H⟩:=qE H
   try dsimp only at H
   simp only [Option.some.injEq,Prod.mk.injEq] at H
   obtain⟨rfl,rfl⟩:=H
   exact SApply_calls_s0
  replace H:=jE H;rcases H with ⟨c26b0,c26b1,H⟩ | ⟨c26,c26b0,c26b1,H⟩
  ·obtain⟨t534,A27,H⟩:=qE H
   try dsimp only at H
   simp only [Option.some.injEq,Prod.mk.injEq] at H
   obtain⟨rfl,rfl⟩:=H
   exact SApply_calls_s0
  replace H:=jE H;rcases H with ⟨c28b0,c28b1,H⟩ | ⟨c28,c28b0,c28b1,H⟩
  ·obtain⟨t535,A29,H⟩:=qE H
   try dsimp only at H
   simp only [Option.some.injEq,Prod.mk.injEq] at H
   obtain⟨rfl,rfl⟩:=H
   exact SApply_calls_s0
  obtain⟨t536,A30,H⟩:=qE H
  try dsimp only at H
  simp only [Option.some.injEq,Prod.mk.injEq] at H
  obtain⟨rfl,rfl⟩:=H
  exact SApply_calls_s0
def Sl33Result.f (k:Nat) (a0_0:Int) (a0_1:Int) (a0_2:Int) (a0_3:Int) (a0_4:Int) (a1_0:Int) (a1_1:Int) (a2_0:Int) (a2_1:Int):Option (Int × Int):=if a1_0=1 then (if a2_0=1 then ((SApply.f k a0_4 a1_1 a2_1).bind fun bt541=>(some (1,bt541.1))) else (some (2,0))) else (some (2,0))
theorem Sl33Result.mono:∀ a0 a1 a2 a3 a4 a5 a6 a7 a8 k,LeO (Sl33Result.f k a0 a1 a2 a3 a4 a5 a6 a7 a8) (Sl33Result.f (k+1) a0 a1 a2 a3 a4 a5 a6 a7 a8):=by
 intro a0 a1 a2 a3 a4 a5 a6 a7 a8 k;unfold Sl33Result.f;have m0:=@SApply.mono;exact mM
theorem Sl33Result.calls (k:Nat) (a0_0:Int) (a0_1:Int) (a0_2:Int) (a0_3:Int) (a0_4:Int) (a1_0:Int) (a1_1:Int) (a2_0:Int) (a2_1:Int) (r1:Int) (r2:Int) (w:World) (h:Sl33Result.f k a0_0 a0_1 a0_2 a0_3 a0_4 a1_0 a1_1 a2_0 a2_1=some (r1,r2)) :
  Calls Try.prog 115 #[.agg #[.int .i64 a0_0,.int .i64 a0_1,.int .i64 a0_2,.int .i64 a0_3,.int .i64 a0_4],.agg #[.int .i64 a1_0,.int .i64 a1_1],.agg #[.int .i64 a2_0,.int .i64 a2_1]] w fun e w'=>e = .returned (.agg #[.int .i64 r1,.int .i64 r2])/\Below w.heap.size w w':=by
 have hu46:=Try.underlying46
 have hu74:=Try.underlying74
 have HB:=aM (Below.refl w.heap.size w)
 have H:=h;unfold Sl33Result.f at H
 clear h
 replace H:=jE H;rcases H with ⟨c4b0,c4b1,H⟩ | ⟨c4,c4b0,c4b1,H⟩
 ·replace H:=jE H;rcases H with ⟨c5b0,c5b1,H⟩ | ⟨c5,c5b0,c5b1,H⟩
  ·obtain⟨⟨t541,t542⟩,A6,H⟩:=qE H
   try dsimp only at H
   simp only [Option.some.injEq,Prod.mk.injEq] at H
   obtain⟨rfl,rfl⟩:=H
   go_enter Try.func115,Try.ntmps115
   go_wp2_with (first|((with_reducible refine jd 3 rfl ?_);refine jX _ 46 ?_;intro gb537 hg w_0a hbox hb;have BK537:=aM hbox;have GW537:=kG hg;replace HB:=kH hb;clear hb hbox hg)|((with_reducible refine jd 4 rfl ?_);refine jX _ 74 ?_;intro gb538 hg w_1a hbox hb;have BK538:=aM hbox;have GW538:=kG hg;have NB537_538:=kN hg BK537;have NB538_537:=kM hg BK537;replace BK537:=kB BK537 hb;replace HB:=kH hb;clear hb hbox hg)|((with_reducible refine jd 5 rfl ?_);refine jX _ 74 ?_;intro gb539 hg w_2a hbox hb;have BK539:=aM hbox;have GW539:=kG hg;have NB537_539:=kN hg BK537;have NB539_537:=kM hg BK537;have NB538_539:=kN hg BK538;have NB539_538:=kM hg BK538;replace BK537:=kB BK537 hb;replace BK538:=kB BK538 hb;replace HB:=kH hb;clear hb hbox hg)|((with_reducible refine jd 6 rfl ?_);refine jX _ 74 ?_;intro gb540 hg w_3a hbox hb;have BK540:=aM hbox;have GW540:=kG hg;have NB537_540:=kN hg BK537;have NB540_537:=kM hg BK537;have NB538_540:=kN hg BK538;have NB540_538:=kM hg BK538;have NB539_540:=kN hg BK539;have NB540_539:=kM hg BK539;replace BK537:=kB BK537 hb;replace BK538:=kB BK538 hb;replace BK539:=kB BK539 hb;replace HB:=kH hb;clear hb hbox hg;have h_3b:=NB538_537.out;have h_3c:=NB537_538.out;have h_3d:=NB538_539.out;have h_3e:=NB539_538.out;have h_3f:=NB538_540.out;have h_3g:=NB540_538.out;have c_3h:=jz2 BK538;have h_3i:=NB539_537.out;have h_3j:=NB537_539.out;have h_3k:=NB539_540.out;have h_3l:=NB540_539.out;have c_3m:=jz2 BK539;have h_3n:=NB537_540.out;have h_3o:=NB540_537.out;have c_3p:=jz5 BK537)|((with_reducible refine jc 122 25 rfl rfl ?_);refine jG Try.func122 #[.int .i64 a0_4,.int .i64 a1_1,.int .i64 a2_1] ?_;(with_reducible refine (SApply.calls _ _ _ _ _ _ _ (Aside0.out (by assumption))).mono ?_);rintro e w' ⟨rfl,⟨nd,rfl⟩⟩;refine⟨_,rfl,?_⟩;(try (rw [drewN_self w_3a];generalize hq_:World.drewN w_3a _=w_3a;have n0_:Aside0 (w_3a.heap[gb537]?=some (.cells #[.int .i64 a0_0,.int .i64 a0_1,.int .i64 a0_2,.int .i64 a0_3,.int .i64 a0_4] 46 (0,0))):=⟨by rw [<- hq_];exact (qK BK537)⟩;have n1_:Aside0 (w_3a.heap[gb538]?=some (.cells #[.int .i64 a1_0,.int .i64 a1_1] 74 (0,0))):=⟨by rw [<- hq_];exact (qK BK538)⟩;have n2_:Aside0 (w_3a.heap[gb539]?=some (.cells #[.int .i64 a2_0,.int .i64 a2_1] 74 (0,0))):=⟨by rw [<- hq_];exact (qK BK539)⟩;have n3_:Aside0 (w_3a.heap[gb540]?=some (.cells #[.int .i64 0,.int .i64 0] 74 (0,0))):=⟨by rw [<- hq_];exact (qK BK540)⟩;have n4_:Aside0 (Below w.heap.size w w_3a):=⟨by rw [<- hq_];exact qB⟩;clear BK537 BK538 BK539 BK540 HB hq_;have BK537:=n0_;have BK538:=n1_;have BK539:=n2_;have BK540:=n3_;have HB:=n4_;clear n0_ n1_ n2_ n3_ n4_));have c_4a:=jz2 BK540))
   refine bodyPost_ret (results_cell_row rfl _ _ gb540 74 #[.int .i64 1,.int .i64 t541] (0,0) _ rfl (qF BK540) Try.underlying74 rfl (by kernel_rfl)) rfl ?_
   exact⟨qW,qB⟩
  simp only [Option.some.injEq,Prod.mk.injEq] at H
  obtain⟨rfl,rfl⟩:=H
  go_enter Try.func115,Try.ntmps115
  go_wp2_with (first|((with_reducible refine jd 3 rfl ?_);refine jX _ 46 ?_;intro gb537 hg w_0a hbox hb;have BK537:=aM hbox;have GW537:=kG hg;replace HB:=kH hb;clear hb hbox hg)|((with_reducible refine jd 4 rfl ?_);refine jX _ 74 ?_;intro gb538 hg w_1a hbox hb;have BK538:=aM hbox;have GW538:=kG hg;have NB537_538:=kN hg BK537;have NB538_537:=kM hg BK537;replace BK537:=kB BK537 hb;replace HB:=kH hb;clear hb hbox hg)|((with_reducible refine jd 5 rfl ?_);refine jX _ 74 ?_;intro gb539 hg w_2a hbox hb;have BK539:=aM hbox;have GW539:=kG hg;have NB537_539:=kN hg BK537;have NB539_537:=kM hg BK537;have NB538_539:=kN hg BK538;have NB539_538:=kM hg BK538;replace BK537:=kB BK537 hb;replace BK538:=kB BK538 hb;replace HB:=kH hb;clear hb hbox hg)|((with_reducible refine jd 6 rfl ?_);refine jX _ 74 ?_;intro gb540 hg w_3a hbox hb;have BK540:=aM hbox;have GW540:=kG hg;have NB537_540:=kN hg BK537;have NB540_537:=kM hg BK537;have NB538_540:=kN hg BK538;have NB540_538:=kM hg BK538;have NB539_540:=kN hg BK539;have NB540_539:=kM hg BK539;replace BK537:=kB BK537 hb;replace BK538:=kB BK538 hb;replace BK539:=kB BK539 hb;replace HB:=kH hb;clear hb hbox hg;have h_3b:=NB538_537.out;have h_3c:=NB537_538.out;have h_3d:=NB538_539.out;have h_3e:=NB539_538.out;have h_3f:=NB538_540.out;have h_3g:=NB540_538.out;have c_3h:=jz2 BK538;have h_3i:=NB539_537.out;have h_3j:=NB537_539.out;have h_3k:=NB539_540.out;have h_3l:=NB540_539.out;have c_3m:=jz2 BK539;have h_3n:=NB540_537.out;have h_3o:=NB537_540.out;have c_3p:=jz2 BK540))
  refine bodyPost_ret (results_cell_row rfl _ _ gb540 74 #[.int .i64 2,.int .i64 0] (0,0) _ rfl (qF BK540) Try.underlying74 rfl (by kernel_rfl)) rfl ?_
  exact⟨qW,qB⟩
 simp only [Option.some.injEq,Prod.mk.injEq] at H
 obtain⟨rfl,rfl⟩:=H
 go_enter Try.func115,Try.ntmps115
 go_wp2_with (first|((with_reducible refine jd 3 rfl ?_);refine jX _ 46 ?_;intro gb537 hg w_0a hbox hb;have BK537:=aM hbox;have GW537:=kG hg;replace HB:=kH hb;clear hb hbox hg)|((with_reducible refine jd 4 rfl ?_);refine jX _ 74 ?_;intro gb538 hg w_1a hbox hb;have BK538:=aM hbox;have GW538:=kG hg;have NB537_538:=kN hg BK537;have NB538_537:=kM hg BK537;replace BK537:=kB BK537 hb;replace HB:=kH hb;clear hb hbox hg)|((with_reducible refine jd 5 rfl ?_);refine jX _ 74 ?_;intro gb539 hg w_2a hbox hb;have BK539:=aM hbox;have GW539:=kG hg;have NB537_539:=kN hg BK537;have NB539_537:=kM hg BK537;have NB538_539:=kN hg BK538;have NB539_538:=kM hg BK538;replace BK537:=kB BK537 hb;replace BK538:=kB BK538 hb;replace HB:=kH hb;clear hb hbox hg)|((with_reducible refine jd 6 rfl ?_);refine jX _ 74 ?_;intro gb540 hg w_3a hbox hb;have BK540:=aM hbox;have GW540:=kG hg;have NB537_540:=kN hg BK537;have NB540_537:=kM hg BK537;have NB538_540:=kN hg BK538;have NB540_538:=kM hg BK538;have NB539_540:=kN hg BK539;have NB540_539:=kM hg BK539;replace BK537:=kB BK537 hb;replace BK538:=kB BK538 hb;replace BK539:=kB BK539 hb;replace HB:=kH hb;clear hb hbox hg;have h_3b:=NB538_537.out;have h_3c:=NB537_538.out;have h_3d:=NB538_539.out;have h_3e:=NB539_538.out;have h_3f:=NB538_540.out;have h_3g:=NB540_538.out;have c_3h:=jz2 BK538;have h_3i:=NB540_537.out;have h_3j:=NB537_540.out;have h_3k:=NB540_539.out;have h_3l:=NB539_540.out;have c_3m:=jz2 BK540))
 refine bodyPost_ret (results_cell_row rfl _ _ gb540 74 #[.int .i64 2,.int .i64 0] (0,0) _ rfl (qF BK540) Try.underlying74 rfl (by kernel_rfl)) rfl ?_
 exact⟨qW,qB⟩
def Sl33After.f (k:Nat) (a0_0:Int) (a0_1:Int) (a0_2:Int) (a0_3:Int) (a0_4:Int) (l1:List (S74)):Option ((List (S74))):=(some (([]:List (S74)):List (S74))).bind fun y544=>(if y544.length+l1.length < 8796093022208 then ((some (y544 ++ l1:List (S74))).bind fun y547=>(if a0_0=1 then (if 0<=a0_1 then (if a0_1 < (y547.length:Int) then (some (y547.set (a0_1:Int).toNat (⟨1,a0_4⟩:S74))) else (none)) else (none)) else (if a0_0=2 then (if 0<=a0_2 then (if a0_2 < (l1.length:Int) then (if 0<=a0_1 then (if a0_1 < (y547.length:Int) then (some (y547.set (a0_1:Int).toNat (⟨(rd_T74 l1 a0_2).f0,(rd_T74 l1 a0_2).f1⟩:S74))) else (none)) else (none)) else (none)) else (none)) else (if a0_0=7 then (if 0<=a0_1 then (if a0_1 < (y547.length:Int) then (some (y547.set (a0_1:Int).toNat (⟨2,0⟩:S74))) else (none)) else (none)) else (if a0_0=3 then (if 0<=a0_2 then (if a0_2 < (l1.length:Int) then (if 0<=a0_3 then (if a0_3 < (l1.length:Int) then ((Sl33Result.f k a0_0 a0_1 a0_2 a0_3 a0_4 ((rd_T74 l1 a0_2).f0) ((rd_T74 l1 a0_2).f1) ((rd_T74 l1 a0_3).f0) ((rd_T74 l1 a0_3).f1)).bind fun bt556=>(if 0<=a0_1 then (if a0_1 < (y547.length:Int) then (some (y547.set (a0_1:Int).toNat (⟨bt556.1,bt556.2⟩:S74))) else (none)) else (none))) else (none)) else (none)) else (none)) else (none)) else (some y547)))))) else (none))
theorem Sl33After.mono:∀ a0 a1 a2 a3 a4 a5 k,LeO (Sl33After.f k a0 a1 a2 a3 a4 a5) (Sl33After.f (k+1) a0 a1 a2 a3 a4 a5):=by
 intro a0 a1 a2 a3 a4 a5 k;unfold Sl33After.f;have m0:=@Sl33Result.mono;exact mM
def Sl33After.T6:Bool × List (List Nat × List Nat):=(true,[([],[]),([],[]),([1],[1]),([],[]),([],[]),([4],[4]),([3,5],[3,5]),([6],[6]),([0,2,0,1,2,3,4,5,6,7],[0,2]),([8,7,0,1,2,3,4,5,6,7],[7,8])])
def Sl33After.B6:List Nat:=[0,0,2,0,0,16,56,120,255,511]
theorem Sl33After.tab6:rtab .any (opsOf Try.f113 6)=Sl33After.T6:=by kernel_rfl
theorem Sl33After.bits6:waitsOk Sl33After.T6.2 Sl33After.B6=true:=by kernel_rfl
def Sl33After.T10:Bool × List (List Nat × List Nat):=(true,[([],[]),([],[]),([1],[1]),([],[]),([],[]),([],[]),([5],[5]),([4,6],[4,6]),([7],[7]),([],[]),([],[]),([10],[10]),([9,11],[9,11]),([12],[12]),([3,8,13],[3,8,13]),([0,2,0,1,2,3,4,5,6,7,8,9,10,11,12,13,14],[0,2]),([15,14,14,0,1,2,3,4,5,6,7,8,9,10,11,12,13,14],[14,15])])
def Sl33After.B10:List Nat:=[0,0,2,0,0,0,32,112,240,0,0,1024,3584,7680,16376,32767,65535]
theorem Sl33After.tab10:rtab .any (opsOf Try.f113 10)=Sl33After.T10:=by kernel_rfl
theorem Sl33After.bits10:waitsOk Sl33After.T10.2 Sl33After.B10=true:=by kernel_rfl
theorem Sl33After.calls (k:Nat) (a0_0:Int) (a0_1:Int) (a0_2:Int) (a0_3:Int) (a0_4:Int) (A1:Option Addr) (c1:Nat) (l1:List (S74)) (r:List (S74)) (w:World) (hr1:Kd.C k74 w A1 l1.length l1) (hc1:l1.length<=c1) (h:Sl33After.f k a0_0 a0_1 a0_2 a0_3 a0_4 l1=some r) :
  Calls Try.prog 113 #[.agg #[.int .i64 a0_0,.int .i64 a0_1,.int .i64 a0_2,.int .i64 a0_3,.int .i64 a0_4],.slice A1 l1.length c1] w fun e w'=>∃ v0_:Value,e = .returned (v0_)/\Kd.R k74 74 w' w.heap.size (fun _=>True) v0_ r/\Below w.heap.size w w':=by
 have hu46:=Try.underlying46
 have hu74:=Try.underlying74
 have HR1:=aM hr1
 have HC1:=aM hc1
 clear hr1 hc1
 have HB:=aM (Below.refl w.heap.size w)
 have H:=h;unfold Sl33After.f at H
 clear h
 obtain⟨y544,Ny544⟩:=ky ((([]:List (S74))):List (S74))
 first|replace H:=kz Ny544 H|rw [<- Ny544.out] at H
 replace H:=jL H;obtain⟨LMc3,H⟩:=H
 obtain⟨y547,Ny547⟩:=ky ((y544 ++ l1):List (S74))
 first|replace H:=kz Ny547 H|rw [<- Ny547.out] at H
 replace H:=jE H;rcases H with ⟨c4b0,c4b1,H⟩ | ⟨c4,c4b0,c4b1,H⟩
 ·replace H:=jI H;obtain⟨c5b0,H⟩:=H
  replace H:=jI H;obtain⟨c6b0,H⟩:=H
  obtain⟨y550,Ny550⟩:=ky ((y547.set (a0_1:Int).toNat (⟨1,a0_4⟩:S74)):List (S74))
  first|replace H:=kz Ny550 H|rw [<- Ny550.out] at H
  obtain rfl:=Option.some.inj H
  go_enter Try.func113,Try.ntmps113
  go_wp2_with (first|((with_reducible refine jd 2 rfl ?_);refine jX _ 46 ?_;intro gb543 hg w8 hbox hb;have BK543:=aM hbox;have GW543:=kG hg;have GE543:=kG hg;replace HB:=kH hb;clear hb hbox hg)|((with_reducible refine jd 6 rfl ?_);refine jV k74 74 ([]:List (S74)) [] (Reps.none _ _) ?_;intro v545 w9 ho10 hb;(first|rw [<- Ny544.out] at ho10|(simp only [Int.reduceToNat] at ho10;rw [<- Ny544.out] at ho10));have HO546:=kL ho10;replace BK543:=kB BK543 hb;replace HB:=kH hb;clear hb ho10)|((with_reducible refine gate_builtin (b:=.append) (xs:=#[.tmp 6,.tmp 7]) rfl ?_);at_builtin;refine Kd.R_append_rows k74 (w0:=w) w.heap.size rfl (.tmp 6) (.tmp 7) 91 74 (.agg #[(.int .i64 0),(.int .i64 0)]) 16 rfl Try.underlying91 info74 rfl (by decide) (by omega) v545 y544 l1 _ _ _ (fun _=>True) (fun _=>False) rfl rfl ?aO ?aR (fun _ _ h=>h) (fun _ h=>h.elim) ?aF ?aB ?aS ?aL ?_;(case aR=>exact kC (Kd.C_below HR1.out HB.out));(case aB=>exact qB);(case aF=>exact (fun _ _=>trivial));(case aO=>exact (qR HO546));(case aS=>exact (below_size qB));(case aL=>have:=LMc3.out;omega);intro v548 w11 ho hb hg hat;rw [<- Ny547.out] at ho;have HO549:=aM ho;replace BK543:=aM (blk_grown (g:=gb543) (o:=.cells #[.int .i64 a0_0,.int .i64 a0_1,.int .i64 a0_2,.int .i64 a0_3,.int .i64 a0_4] 46 (0,0)) (qK BK543) hg (Kd.R_ne HO546.out BK543.out (by decide)));replace HB:=aM hb;clear HO546;clear ho hb hg hat;have cz12:=jz5 BK543;have p7:0<=(a0_1:Int):=qD;have q7:(a0_1:Int) < ((y547.length:Int):Int):=qD;obtain⟨go7,co7,eo7,gb7,gl7,cl7,HG7⟩:=Kd.R_form HO549.out (by omega);(first|cases eo7|(injection eo7 with ea_ en_ ec_;(first|subst ea_|(injection ea_ with ea_;subst ea_));subst ec_;clear en_));have GB7:=aM gb7;have GG7:=aM HG7;clear gb7 gl7 HG7;obtain⟨ce7,hcl7,hM7,hcc7,hfr7⟩:=Kd.R_elem HO549.out z74 (a0_1:Int) p7 q7;obtain rfl:=k74_openM hM7;have hx7_0:w11.cell? ⟨go7,(a0_1:Int).toNat*2,none⟩=some (.int .i64 ((rd_T74 y547 a0_1).f0)):=hcc7 0 _ rfl;have hx7_1:w11.cell? ⟨go7,(a0_1:Int).toNat*2+1,none⟩=some (.int .i64 ((rd_T74 y547 a0_1).f1)):=hcc7 1 _ rfl;have hf7_0:w11.frozen? ⟨go7,(a0_1:Int).toNat*2,none⟩=false:=hfr7 0;have hf7_1:w11.frozen? ⟨go7,(a0_1:Int).toNat*2+1,none⟩=false:=hfr7 1;clear hcl7 hcc7 hfr7 hM7;replace p7:=eq_true p7;replace q7:=eq_true q7;have HX13:=aM (show Kd.R k74 74 w11 w.heap.size (fun _=>True) (.slice (some ⟨go7,0,none⟩) y547.length co7) y547 from (qR HO549));obtain⟨ce13,hcl13,hM13,hcc13,hfr13⟩:=Kd.R_elem HX13.out z74 (a0_1:Int) (qD) (by have h_:(a0_1:Int) < ((y547.length:Int):Int):=qD;first|exact h_|(have e_:=(Kd.R_reads' HO549.out).1;omega)|simpa using h_);obtain rfl:=k74_openM hM13;have HP13:=Kd.R_seg HX13.out (a0_1:Int) (qD) (by have h_:(a0_1:Int) < ((y547.length:Int):Int):=qD;first|exact h_|(have e_:=(Kd.R_reads' HO549.out).1;omega)|simpa using h_) (seg:=[.int .i64 1,.int .i64 a0_4]) (j:=0) hcl13 hcc13 (show 2<=2 from by decide) (x':=(⟨1,a0_4⟩:S74)) (k74_mkM _ _ _ (⟨1,a0_4⟩:S74) ) (fun _ hk=>hk);have hx13_0:=hcc13 0 _ rfl;(try simp only [show (k74).sz=2 from rfl,Nat.mul_one,Nat.add_zero] at hx13_0);have hf13_0:=hfr13 0;(try simp only [show (k74).sz=2 from rfl,Nat.mul_one,Nat.add_zero] at hf13_0);have hx13_1:=hcc13 1 _ rfl;(try simp only [show (k74).sz=2 from rfl,Nat.mul_one,Nat.add_zero] at hx13_1);have hf13_1:=hfr13 1;(try simp only [show (k74).sz=2 from rfl,Nat.mul_one,Nat.add_zero] at hf13_1);clear hcl13 hcc13 hfr13 hM13)|((with_reducible refine gate_store (t:=74) (p:=19) rfl ?_);refine store_event (t:=74) (p:=19) (v:=?vo_w14) (w1:=((w11.setCell ⟨go7,(a0_1:Int).toNat*2,none⟩ (.int .i64 1)).setCell ⟨go7,(a0_1:Int).toNat*2+1,none⟩ (.int .i64 a0_4))) ?hg ?ho ?hn ?hr ?_;(case ho=>rfl);(case hg=>rfl);(case hn=>rfl);(case hr=>first|(go_simp;done)|(go_simp;rfl));intro w14 hw;have hg:w11.grownBy w14 (some go7):=(by rw [hw];exact HP13.2);have hp_:Kd.R k74 74 w14 w.heap.size (fun _=>True) (.slice (some ⟨go7,0,none⟩) y547.length co7) y550:=(by rw [hw,Ny550.out];exact HP13.1);clear HP13;replace BK543:=aM (blk_grown (g:=gb543) (o:=.cells #[.int .i64 a0_0,.int .i64 a0_1,.int .i64 a0_2,.int .i64 a0_3,.int .i64 a0_4] 46 (0,0)) (qK BK543) hg (Kd.R_ne HO549.out BK543.out (by decide)));replace HO549:=aM hp_;replace HB:=aM ((by rw [hw];exact below_set (below_set (HB.out) GB7.out) GB7.out:Below w.heap.size w w14));clear hg hw hp_))
  go_ret
  exact⟨_,by first|rfl|(simp [errW_none,errW_some] <;> rfl)|(simp [*,errW_none,errW_some] <;> rfl),qR HO549,qB⟩
 replace H:=jE H;rcases H with ⟨c15b0,c15b1,H⟩ | ⟨c15,c15b0,c15b1,H⟩
 ·replace H:=jI H;obtain⟨c16b0,H⟩:=H
  replace H:=jI H;obtain⟨c17b0,H⟩:=H
  replace H:=jI H;obtain⟨c18b0,H⟩:=H
  replace H:=jI H;obtain⟨c19b0,H⟩:=H
  obtain⟨y552,Ny552⟩:=ky ((y547.set (a0_1:Int).toNat (⟨(rd_T74 l1 a0_2).f0,(rd_T74 l1 a0_2).f1⟩:S74)):List (S74))
  first|replace H:=kz Ny552 H|rw [<- Ny552.out] at H
  obtain rfl:=Option.some.inj H
  go_enter Try.func113,Try.ntmps113
  try go_wp2_with (first|((with_reducible refine jd 2 rfl ?_);refine jX _ 46 ?_;intro gb543 hg w21 hbox hb;have BK543:=aM hbox;have GW543:=kG hg;have GE543:=kG hg;replace HB:=kH hb;clear hb hbox hg)|((with_reducible refine jd 6 rfl ?_);refine jV k74 74 ([]:List (S74)) [] (Reps.none _ _) ?_;intro v545 w22 ho23 hb;(first|rw [<- Ny544.out] at ho23|(simp only [Int.reduceToNat] at ho23;rw [<- Ny544.out] at ho23));have HO546:=kL ho23;replace BK543:=kB BK543 hb;replace HB:=kH hb;clear hb ho23)|((with_reducible refine gate_builtin (b:=.append) (xs:=#[.tmp 6,.tmp 7]) rfl ?_);at_builtin;refine Kd.R_append_rows k74 (w0:=w) w.heap.size rfl (.tmp 6) (.tmp 7) 91 74 (.agg #[(.int .i64 0),(.int .i64 0)]) 16 rfl Try.underlying91 info74 rfl (by decide) (by omega) v545 y544 l1 _ _ _ (fun _=>True) (fun _=>False) rfl rfl ?aO ?aR (fun _ _ h=>h) (fun _ h=>h.elim) ?aF ?aB ?aS ?aL ?_;(case aR=>exact kC (Kd.C_below HR1.out HB.out));(case aB=>exact qB);(case aF=>exact (fun _ _=>trivial));(case aO=>exact (qR HO546));(case aS=>exact (below_size qB));(case aL=>have:=LMc3.out;omega);intro v548 w24 ho hb hg hat;rw [<- Ny547.out] at ho;have HO549:=aM ho;replace BK543:=aM (blk_grown (g:=gb543) (o:=.cells #[.int .i64 a0_0,.int .i64 a0_1,.int .i64 a0_2,.int .i64 a0_3,.int .i64 a0_4] 46 (0,0)) (qK BK543) hg (Kd.R_ne HO546.out BK543.out (by decide)));replace HB:=aM hb;clear HO546;clear ho hb hg hat;have cz25:=jz5 BK543))
  replace HO549:=aM (Kd.R_drew HO549.out)
  replace BK543:=aM (blk_drew BK543.out)
  replace HB:=aM (below_drew1 HB.out)
  have p551:0<=(a0_2:Int):=qD
  have q551:a0_2 < (l1.length:Int):=qD
  obtain⟨ad551,e551,hx551_0,hx551_1⟩:=at_T74 HR1.out a0_2 p551 q551
  have hw551_1:=hx551_1
  have hw551_0:=hx551_0
  cases e551
  replace hx551_0:=kx HB hx551_0
  replace hx551_1:=kx HB hx551_1
  replace p551:=eq_true p551
  replace q551:=eq_true q551
  have p20:0<=(a0_1:Int):=qD
  have q20:(a0_1:Int) < ((y547.length:Int):Int):=qD
  obtain⟨go20,co20,eo20,gb20,gl20,cl20,HG20⟩:=Kd.R_form HO549.out (by omega)
  (first|cases eo20|(injection eo20 with ea_ en_ ec_;(first|subst ea_|(injection ea_ with ea_;subst ea_));subst ec_;clear en_))
  have GB20:=aM gb20
  have GG20:=aM HG20
  clear gb20 gl20 HG20
  obtain⟨ce20,hcl20,hM20,hcc20,hfr20⟩:=Kd.R_elem HO549.out z74 (a0_1:Int) p20 q20
  obtain rfl:=k74_openM hM20
  have hx20_0:World.cell? _ ⟨go20,(a0_1:Int).toNat*2,none⟩=some (.int .i64 ((rd_T74 y547 a0_1).f0)):=hcc20 0 _ rfl
  have hx20_1:World.cell? _ ⟨go20,(a0_1:Int).toNat*2+1,none⟩=some (.int .i64 ((rd_T74 y547 a0_1).f1)):=hcc20 1 _ rfl
  have hf20_0:World.frozen? _ ⟨go20,(a0_1:Int).toNat*2,none⟩=false:=hfr20 0
  have hf20_1:World.frozen? _ ⟨go20,(a0_1:Int).toNat*2+1,none⟩=false:=hfr20 1
  clear hcl20 hcc20 hfr20 hM20
  replace p20:=eq_true p20
  replace q20:=eq_true q20
  obtain⟨ce27,hcl27,hM27,hcc27,hfr27⟩:=Kd.R_elem HO549.out z74 (a0_1:Int) (qD) (by have h_:(a0_1:Int) < ((y547.length:Int):Int):=qD;first|exact h_|(have e_:=(Kd.R_reads' HO549.out).1;omega)|simpa using h_)
  obtain rfl:=k74_openM hM27
  have HP27:=(Kd.R_seg HO549.out (a0_1:Int) (qD) (by have h_:(a0_1:Int) < ((y547.length:Int):Int):=qD;first|exact h_|(have e_:=(Kd.R_reads' HO549.out).1;omega)|simpa using h_) (seg:=[.int .i64 ((rd_T74 l1 a0_2).f0),.int .i64 ((rd_T74 l1 a0_2).f1)]) (j:=0) hcl27 hcc27 (show 2<=2 from by decide) (x':=(⟨(rd_T74 l1 a0_2).f0,(rd_T74 l1 a0_2).f1⟩:S74)) (k74_mkM _ _ _ (⟨(rd_T74 l1 a0_2).f0,(rd_T74 l1 a0_2).f1⟩:S74) ) (fun _ hk=>hk)).1
  rw [<- Ny552.out] at HP27
  have HQ27:=aM HP27
  clear hcl27 hcc27 hfr27 hM27 HP27
  refine start_ (n:=10) (S:=fun w'=>w'.cell? ⟨gb543,0,none⟩=some (.int .i64 a0_0)/\w'.cell? ⟨gb543,1,none⟩=some (.int .i64 a0_1)/\w'.cell? ⟨gb543,2,none⟩=some (.int .i64 a0_2)/\w'.cell? ⟨gb543,3,none⟩=some (.int .i64 a0_3)/\w'.cell? ⟨gb543,4,none⟩=some (.int .i64 a0_4)/\w'.cell? (ad551.add ((a0_2).toNat*2))=some (.int .i64 ((rd_T74 l1 a0_2).f0))/\w'.cell? ⟨(ad551.add ((a0_2).toNat*2)).block,(ad551.add ((a0_2).toNat*2)).off+1,none⟩=some (.int .i64 ((rd_T74 l1 a0_2).f1))) (ds:=[9]) (jb 10 0) (by kernel_rfl) rfl rfl ⟨(blk_cell BK543.out 0).trans rfl,(blk_cell BK543.out 1).trans rfl,(blk_cell BK543.out 2).trans rfl,(blk_cell BK543.out 3).trans rfl,(blk_cell BK543.out 4).trans rfl,(kx HB hw551_0),(kx HB hw551_1)⟩ (fun hHeld=>?_);refine with_tabW Sl33After.tab6 Sl33After.bits6 (fun HT_ HW_=>?_)
  generalize w24.drew=w26 at HO549 BK543 HB GG20 HQ27 hf20_0 hf20_1 hx20_0 hx20_1 hx551_0 hx551_1 hHeld ⊢
  refine jp 0 22 (jb 10 1) ?_
  refine jp 1 23 (jb 10 3) ?_
  refine jp 3 25 (jb 10 11) ?_
  refine jp 4 26 (jb 10 27) ?_
  refine jt 2 24 (jb 10 31) ?_
  refine jt 5 27 (jb 10 63) ?_
  refine jp 6 28 (jb 10 127) ?_
  refine jt 7 29 (jb 10 255) ?_
  refine jp 8 30 (jb 10 511) ?_
  refine last_ (i:=9) (N:=none) (jb 10 1023) rfl rfl (one_of HT_.out (by kernel_rfl)) (by decide) (fun K hK=>?_)
  refine skip_ (w1:=?_) (by rfl) rfl ?_ ?_
  rotate_left
  ·go_simp
   rfl
  refine hK.out _ _ ?_
  clear hK K
  refine done_ (done_of HT_.out (by kernel_rfl)) ?_
  try go_wp2
  go_ret
  exact⟨_,by first|rfl|(simp [errW_none,errW_some] <;> rfl)|(simp [*,errW_none,errW_some] <;> rfl),by (with_reducible repeat (first|apply Kd.R_alloc|apply Kd.R_drewN|apply Kd.R_drew));exact HQ27.out,by repeat (first|(with_reducible first|exact HB.out|apply below_alloc|apply pw_below_drewN|apply below_drew1|refine below_set ?_ GB20.out|refine below_set ?_ GB20.out|refine below_set ?_ GE543.out)|exact HB.out)⟩
 replace H:=jE H;rcases H with ⟨c28b0,c28b1,H⟩ | ⟨c28,c28b0,c28b1,H⟩
 ·replace H:=jI H;obtain⟨c29b0,H⟩:=H
  replace H:=jI H;obtain⟨c30b0,H⟩:=H
  obtain⟨y553,Ny553⟩:=ky ((y547.set (a0_1:Int).toNat (⟨2,0⟩:S74)):List (S74))
  first|replace H:=kz Ny553 H|rw [<- Ny553.out] at H
  obtain rfl:=Option.some.inj H
  go_enter Try.func113,Try.ntmps113
  go_wp2_with (first|((with_reducible refine jd 2 rfl ?_);refine jX _ 46 ?_;intro gb543 hg w32 hbox hb;have BK543:=aM hbox;have GW543:=kG hg;have GE543:=kG hg;replace HB:=kH hb;clear hb hbox hg)|((with_reducible refine jd 6 rfl ?_);refine jV k74 74 ([]:List (S74)) [] (Reps.none _ _) ?_;intro v545 w33 ho34 hb;(first|rw [<- Ny544.out] at ho34|(simp only [Int.reduceToNat] at ho34;rw [<- Ny544.out] at ho34));have HO546:=kL ho34;replace BK543:=kB BK543 hb;replace HB:=kH hb;clear hb ho34)|((with_reducible refine gate_builtin (b:=.append) (xs:=#[.tmp 6,.tmp 7]) rfl ?_);at_builtin;refine Kd.R_append_rows k74 (w0:=w) w.heap.size rfl (.tmp 6) (.tmp 7) 91 74 (.agg #[(.int .i64 0),(.int .i64 0)]) 16 rfl Try.underlying91 info74 rfl (by decide) (by omega) v545 y544 l1 _ _ _ (fun _=>True) (fun _=>False) rfl rfl ?aO ?aR (fun _ _ h=>h) (fun _ h=>h.elim) ?aF ?aB ?aS ?aL ?_;(case aR=>exact kC (Kd.C_below HR1.out HB.out));(case aB=>exact qB);(case aF=>exact (fun _ _=>trivial));(case aO=>exact (qR HO546));(case aS=>exact (below_size qB));(case aL=>have:=LMc3.out;omega);intro v548 w35 ho hb hg hat;rw [<- Ny547.out] at ho;have HO549:=aM ho;replace BK543:=aM (blk_grown (g:=gb543) (o:=.cells #[.int .i64 a0_0,.int .i64 a0_1,.int .i64 a0_2,.int .i64 a0_3,.int .i64 a0_4] 46 (0,0)) (qK BK543) hg (Kd.R_ne HO546.out BK543.out (by decide)));replace HB:=aM hb;clear HO546;clear ho hb hg hat;have cz36:=jz5 BK543;have p31:0<=(a0_1:Int):=qD;have q31:(a0_1:Int) < ((y547.length:Int):Int):=qD;obtain⟨go31,co31,eo31,gb31,gl31,cl31,HG31⟩:=Kd.R_form HO549.out (by omega);(first|cases eo31|(injection eo31 with ea_ en_ ec_;(first|subst ea_|(injection ea_ with ea_;subst ea_));subst ec_;clear en_));have GB31:=aM gb31;have GG31:=aM HG31;clear gb31 gl31 HG31;obtain⟨ce31,hcl31,hM31,hcc31,hfr31⟩:=Kd.R_elem HO549.out z74 (a0_1:Int) p31 q31;obtain rfl:=k74_openM hM31;have hx31_0:w35.cell? ⟨go31,(a0_1:Int).toNat*2,none⟩=some (.int .i64 ((rd_T74 y547 a0_1).f0)):=hcc31 0 _ rfl;have hx31_1:w35.cell? ⟨go31,(a0_1:Int).toNat*2+1,none⟩=some (.int .i64 ((rd_T74 y547 a0_1).f1)):=hcc31 1 _ rfl;have hf31_0:w35.frozen? ⟨go31,(a0_1:Int).toNat*2,none⟩=false:=hfr31 0;have hf31_1:w35.frozen? ⟨go31,(a0_1:Int).toNat*2+1,none⟩=false:=hfr31 1;clear hcl31 hcc31 hfr31 hM31;replace p31:=eq_true p31;replace q31:=eq_true q31;have HX37:=aM (show Kd.R k74 74 w35 w.heap.size (fun _=>True) (.slice (some ⟨go31,0,none⟩) y547.length co31) y547 from (qR HO549));obtain⟨ce37,hcl37,hM37,hcc37,hfr37⟩:=Kd.R_elem HX37.out z74 (a0_1:Int) (qD) (by have h_:(a0_1:Int) < ((y547.length:Int):Int):=qD;first|exact h_|(have e_:=(Kd.R_reads' HO549.out).1;omega)|simpa using h_);obtain rfl:=k74_openM hM37;have HP37:=Kd.R_seg HX37.out (a0_1:Int) (qD) (by have h_:(a0_1:Int) < ((y547.length:Int):Int):=qD;first|exact h_|(have e_:=(Kd.R_reads' HO549.out).1;omega)|simpa using h_) (seg:=[.int .i64 2,.int .i64 0]) (j:=0) hcl37 hcc37 (show 2<=2 from by decide) (x':=(⟨2,0⟩:S74)) (k74_mkM _ _ _ (⟨2,0⟩:S74) ) (fun _ hk=>hk);have hx37_0:=hcc37 0 _ rfl;(try simp only [show (k74).sz=2 from rfl,Nat.mul_one,Nat.add_zero] at hx37_0);have hf37_0:=hfr37 0;(try simp only [show (k74).sz=2 from rfl,Nat.mul_one,Nat.add_zero] at hf37_0);have hx37_1:=hcc37 1 _ rfl;(try simp only [show (k74).sz=2 from rfl,Nat.mul_one,Nat.add_zero] at hx37_1);have hf37_1:=hfr37 1;(try simp only [show (k74).sz=2 from rfl,Nat.mul_one,Nat.add_zero] at hf37_1);clear hcl37 hcc37 hfr37 hM37)|((with_reducible refine gate_store (t:=74) (p:=37) rfl ?_);refine store_event (t:=74) (p:=37) (v:=?vo_w38) (w1:=((w35.setCell ⟨go31,(a0_1:Int).toNat*2,none⟩ (.int .i64 2)).setCell ⟨go31,(a0_1:Int).toNat*2+1,none⟩ (.int .i64 0))) ?hg ?ho ?hn ?hr ?_;(case ho=>rfl);(case hg=>rfl);(case hn=>rfl);(case hr=>first|(go_simp;done)|(go_simp;rfl));intro w38 hw;have hg:w35.grownBy w38 (some go31):=(by rw [hw];exact HP37.2);have hp_:Kd.R k74 74 w38 w.heap.size (fun _=>True) (.slice (some ⟨go31,0,none⟩) y547.length co31) y553:=(by rw [hw,Ny553.out];exact HP37.1);clear HP37;replace BK543:=aM (blk_grown (g:=gb543) (o:=.cells #[.int .i64 a0_0,.int .i64 a0_1,.int .i64 a0_2,.int .i64 a0_3,.int .i64 a0_4] 46 (0,0)) (qK BK543) hg (Kd.R_ne HO549.out BK543.out (by decide)));replace HO549:=aM hp_;replace HB:=aM ((by rw [hw];exact below_set (below_set (HB.out) GB31.out) GB31.out:Below w.heap.size w w38));clear hg hw hp_))
  go_ret
  exact⟨_,by first|rfl|(simp [errW_none,errW_some] <;> rfl)|(simp [*,errW_none,errW_some] <;> rfl),qR HO549,qB⟩
 replace H:=jE H;rcases H with ⟨c39b0,c39b1,H⟩ | ⟨c39,c39b0,c39b1,H⟩
 ·replace H:=jI H;obtain⟨c40b0,H⟩:=H
  replace H:=jI H;obtain⟨c41b0,H⟩:=H
  replace H:=jI H;obtain⟨c42b0,H⟩:=H
  replace H:=jI H;obtain⟨c43b0,H⟩:=H
  obtain⟨⟨t556,t557⟩,A44,H⟩:=qE H
  try dsimp only at H
  replace H:=jI H;obtain⟨c45b0,H⟩:=H
  replace H:=jI H;obtain⟨c46b0,H⟩:=H
  obtain⟨y558,Ny558⟩:=ky ((y547.set (a0_1:Int).toNat (⟨t556,t557⟩:S74)):List (S74))
  first|replace H:=kz Ny558 H|rw [<- Ny558.out] at H
  obtain rfl:=Option.some.inj H
  go_enter Try.func113,Try.ntmps113
  try go_wp2_with (first|((with_reducible refine jd 2 rfl ?_);refine jX _ 46 ?_;intro gb543 hg w48 hbox hb;have BK543:=aM hbox;have GW543:=kG hg;have GE543:=kG hg;replace HB:=kH hb;clear hb hbox hg)|((with_reducible refine jd 6 rfl ?_);refine jV k74 74 ([]:List (S74)) [] (Reps.none _ _) ?_;intro v545 w49 ho50 hb;(first|rw [<- Ny544.out] at ho50|(simp only [Int.reduceToNat] at ho50;rw [<- Ny544.out] at ho50));have HO546:=kL ho50;replace BK543:=kB BK543 hb;replace HB:=kH hb;clear hb ho50)|((with_reducible refine gate_builtin (b:=.append) (xs:=#[.tmp 6,.tmp 7]) rfl ?_);at_builtin;refine Kd.R_append_rows k74 (w0:=w) w.heap.size rfl (.tmp 6) (.tmp 7) 91 74 (.agg #[(.int .i64 0),(.int .i64 0)]) 16 rfl Try.underlying91 info74 rfl (by decide) (by omega) v545 y544 l1 _ _ _ (fun _=>True) (fun _=>False) rfl rfl ?aO ?aR (fun _ _ h=>h) (fun _ h=>h.elim) ?aF ?aB ?aS ?aL ?_;(case aR=>exact kC (Kd.C_below HR1.out HB.out));(case aB=>exact qB);(case aF=>exact (fun _ _=>trivial));(case aO=>exact (qR HO546));(case aS=>exact (below_size qB));(case aL=>have:=LMc3.out;omega);intro v548 w51 ho hb hg hat;rw [<- Ny547.out] at ho;have HO549:=aM ho;replace BK543:=aM (blk_grown (g:=gb543) (o:=.cells #[.int .i64 a0_0,.int .i64 a0_1,.int .i64 a0_2,.int .i64 a0_3,.int .i64 a0_4] 46 (0,0)) (qK BK543) hg (Kd.R_ne HO546.out BK543.out (by decide)));replace HB:=aM hb;clear HO546;clear ho hb hg hat;have cz52:=jz5 BK543))
  replace HO549:=aM (Kd.R_drew HO549.out)
  replace BK543:=aM (blk_drew BK543.out)
  replace HB:=aM (below_drew1 HB.out)
  have p554:0<=(a0_2:Int):=qD
  have q554:a0_2 < (l1.length:Int):=qD
  obtain⟨ad554,e554,hx554_0,hx554_1⟩:=at_T74 HR1.out a0_2 p554 q554
  have hw554_1:=hx554_1
  have hw554_0:=hx554_0
  cases e554
  replace hx554_0:=kx HB hx554_0
  replace hx554_1:=kx HB hx554_1
  replace p554:=eq_true p554
  replace q554:=eq_true q554
  have p555:0<=(a0_3:Int):=qD
  have q555:a0_3 < (l1.length:Int):=qD
  obtain⟨ad555,e555,hx555_0,hx555_1⟩:=at_T74 HR1.out a0_3 p555 q555
  have hw555_1:=hx555_1
  have hw555_0:=hx555_0
  obtain rfl:ad554=ad555:=(by injection e555)
  replace hx555_0:=kx HB hx555_0
  replace hx555_1:=kx HB hx555_1
  replace p555:=eq_true p555
  replace q555:=eq_true q555
  refine start_ (n:=17) (S:=fun w'=>w'.cell? ⟨gb543,0,none⟩=some (.int .i64 a0_0)/\w'.cell? ⟨gb543,1,none⟩=some (.int .i64 a0_1)/\w'.cell? ⟨gb543,2,none⟩=some (.int .i64 a0_2)/\w'.cell? ⟨gb543,3,none⟩=some (.int .i64 a0_3)/\w'.cell? ⟨gb543,4,none⟩=some (.int .i64 a0_4)/\w'.cell? (ad554.add ((a0_2).toNat*2))=some (.int .i64 ((rd_T74 l1 a0_2).f0))/\w'.cell? ⟨(ad554.add ((a0_2).toNat*2)).block,(ad554.add ((a0_2).toNat*2)).off+1,none⟩=some (.int .i64 ((rd_T74 l1 a0_2).f1))/\w'.cell? (ad554.add ((a0_3).toNat*2))=some (.int .i64 ((rd_T74 l1 a0_3).f0))/\w'.cell? ⟨(ad554.add ((a0_3).toNat*2)).block,(ad554.add ((a0_3).toNat*2)).off+1,none⟩=some (.int .i64 ((rd_T74 l1 a0_3).f1))) (ds:=[16]) (jb 17 0) (by kernel_rfl) rfl rfl ⟨(blk_cell BK543.out 0).trans rfl,(blk_cell BK543.out 1).trans rfl,(blk_cell BK543.out 2).trans rfl,(blk_cell BK543.out 3).trans rfl,(blk_cell BK543.out 4).trans rfl,(kx HB hw554_0),(kx HB hw554_1),(kx HB hw555_0),(kx HB hw555_1)⟩ (fun hHeld=>?_);refine with_tabW Sl33After.tab10 Sl33After.bits10 (fun HT_ HW_=>?_)
  generalize w51.drew=w53 at HO549 BK543 HB hx554_0 hx554_1 hx555_0 hx555_1 hHeld ⊢
  refine jp 0 40 (jb 17 1) ?_
  refine jp 1 41 (jb 17 3) ?_
  refine jp 4 44 (jb 17 19) ?_
  refine jp 5 45 (jb 17 51) ?_
  refine jp 9 49 (jb 17 563) ?_
  refine jp 10 50 (jb 17 1587) ?_
  refine jt 2 42 (jb 17 1591) ?_
  refine jt 3 43 (jb 17 1599) ?_
  refine jt 6 46 (jb 17 1663) ?_
  refine jp 7 47 (jb 17 1791) ?_
  refine jt 8 48 (jb 17 2047) ?_
  refine jt 11 51 (jb 17 4095) ?_
  refine jp 12 52 (jb 17 8191) ?_
  refine jt 13 53 (jb 17 16383) ?_
  refine one_ (i:=14) (N:=some 54) (jb 17 32767) rfl rfl (one_of HT_.out (by kernel_rfl)) (by decide) (fun K hK=>?_)
  refine goes_ Try.func115 (by kernel_rfl) rfl #[.agg #[.int .i64 a0_0,.int .i64 a0_1,.int .i64 a0_2,.int .i64 a0_3,.int .i64 a0_4],.agg #[.int .i64 ((rd_T74 l1 a0_2).f0),.int .i64 ((rd_T74 l1 a0_2).f1)],.agg #[.int .i64 ((rd_T74 l1 a0_3).f0),.int .i64 ((rd_T74 l1 a0_3).f1)]] (by rfl) rfl rfl qM ?_
  with_reducible refine (Sl33Result.calls k a0_0 a0_1 a0_2 a0_3 a0_4 ((rd_T74 l1 a0_2).f0) ((rd_T74 l1 a0_2).f1) ((rd_T74 l1 a0_3).f0) ((rd_T74 l1 a0_3).f1) t556 t557 _ A44.out).mono ?_
  rintro e w54 ⟨rfl,hb⟩
  refine⟨_,rfl,?_⟩
  replace HO549:=kR HO549 hb
  replace BK543:=kB BK543 hb
  replace HB:=kH hb
  (try clear hb)
  (try clear hb2)
  (try clear hk)
  (try clear hi)
  have p47:0<=(a0_1:Int):=qD
  have q47:(a0_1:Int) < ((y547.length:Int):Int):=qD
  obtain⟨go47,co47,eo47,gb47,gl47,cl47,HG47⟩:=Kd.R_form HO549.out (by omega)
  (first|cases eo47|(injection eo47 with ea_ en_ ec_;(first|subst ea_|(injection ea_ with ea_;subst ea_));subst ec_;clear en_))
  have GB47:=aM gb47
  have GG47:=aM HG47
  clear gb47 gl47 HG47
  obtain⟨ce47,hcl47,hM47,hcc47,hfr47⟩:=Kd.R_elem HO549.out z74 (a0_1:Int) p47 q47
  obtain rfl:=k74_openM hM47
  have hx47_0:World.cell? _ ⟨go47,(a0_1:Int).toNat*2,none⟩=some (.int .i64 ((rd_T74 y547 a0_1).f0)):=hcc47 0 _ rfl
  have hx47_1:World.cell? _ ⟨go47,(a0_1:Int).toNat*2+1,none⟩=some (.int .i64 ((rd_T74 y547 a0_1).f1)):=hcc47 1 _ rfl
  have hf47_0:World.frozen? _ ⟨go47,(a0_1:Int).toNat*2,none⟩=false:=hfr47 0
  have hf47_1:World.frozen? _ ⟨go47,(a0_1:Int).toNat*2+1,none⟩=false:=hfr47 1
  clear hcl47 hcc47 hfr47 hM47
  replace p47:=eq_true p47
  replace q47:=eq_true q47
  obtain⟨ce55,hcl55,hM55,hcc55,hfr55⟩:=Kd.R_elem HO549.out z74 (a0_1:Int) (qD) (by have h_:(a0_1:Int) < ((y547.length:Int):Int):=qD;first|exact h_|(have e_:=(Kd.R_reads' HO549.out).1;omega)|simpa using h_)
  obtain rfl:=k74_openM hM55
  have HP55:=(Kd.R_seg HO549.out (a0_1:Int) (qD) (by have h_:(a0_1:Int) < ((y547.length:Int):Int):=qD;first|exact h_|(have e_:=(Kd.R_reads' HO549.out).1;omega)|simpa using h_) (seg:=[.int .i64 t556,.int .i64 t557]) (j:=0) hcl55 hcc55 (show 2<=2 from by decide) (x':=(⟨t556,t557⟩:S74)) (k74_mkM _ _ _ (⟨t556,t557⟩:S74) ) (fun _ hk=>hk)).1
  rw [<- Ny558.out] at HP55
  have HQ55:=aM HP55
  clear hcl55 hcc55 hfr55 hM55 HP55
  refine hK.out _ _ ⟨(blk_cell BK543.out 0).trans rfl,(blk_cell BK543.out 1).trans rfl,(blk_cell BK543.out 2).trans rfl,(blk_cell BK543.out 3).trans rfl,(blk_cell BK543.out 4).trans rfl,(kx HB hw554_0),(kx HB hw554_1),(kx HB hw555_0),(kx HB hw555_1)⟩ (fun hHeld=>?_)
  clear hK K
  refine norm_ (a':=?_) ?_ ?_
  rotate_left
  ·show Act.put _ (some 54) _=_
   simp only [Act.put,List.setIfInBounds_toArray,List.set_cons_zero,List.set_cons_succ,i64_w,i32_w]
   rfl
  refine jp 15 55 (jb 17 65535) ?_
  refine last_ (i:=16) (N:=none) (jb 17 131071) rfl rfl (one_of HT_.out (by kernel_rfl)) (by decide) (fun K hK=>?_)
  refine skip_ (w1:=?_) (by rfl) rfl ?_ ?_
  rotate_left
  ·go_simp
   rfl
  refine hK.out _ _ ?_
  clear hK K
  refine done_ (done_of HT_.out (by kernel_rfl)) ?_
  try go_wp2
  go_ret
  exact⟨_,by first|rfl|(simp [errW_none,errW_some] <;> rfl)|(simp [*,errW_none,errW_some] <;> rfl),by (with_reducible repeat (first|apply Kd.R_alloc|apply Kd.R_drewN|apply Kd.R_drew));exact HQ55.out,by repeat (first|(with_reducible first|exact HB.out|apply below_alloc|apply pw_below_drewN|apply below_drew1|refine below_set ?_ GB47.out|refine below_set ?_ GB47.out|refine below_set ?_ GE543.out)|exact HB.out)⟩
 obtain rfl:=Option.some.inj H
 go_enter Try.func113,Try.ntmps113
 go_wp2_with (first|((with_reducible refine jd 2 rfl ?_);refine jX _ 46 ?_;intro gb543 hg w56 hbox hb;have BK543:=aM hbox;have GW543:=kG hg;have GE543:=kG hg;replace HB:=kH hb;clear hb hbox hg)|((with_reducible refine jd 6 rfl ?_);refine jV k74 74 ([]:List (S74)) [] (Reps.none _ _) ?_;intro v545 w57 ho58 hb;(first|rw [<- Ny544.out] at ho58|(simp only [Int.reduceToNat] at ho58;rw [<- Ny544.out] at ho58));have HO546:=kL ho58;replace BK543:=kB BK543 hb;replace HB:=kH hb;clear hb ho58)|((with_reducible refine gate_builtin (b:=.append) (xs:=#[.tmp 6,.tmp 7]) rfl ?_);at_builtin;refine Kd.R_append_rows k74 (w0:=w) w.heap.size rfl (.tmp 6) (.tmp 7) 91 74 (.agg #[(.int .i64 0),(.int .i64 0)]) 16 rfl Try.underlying91 info74 rfl (by decide) (by omega) v545 y544 l1 _ _ _ (fun _=>True) (fun _=>False) rfl rfl ?aO ?aR (fun _ _ h=>h) (fun _ h=>h.elim) ?aF ?aB ?aS ?aL ?_;(case aR=>exact kC (Kd.C_below HR1.out HB.out));(case aB=>exact qB);(case aF=>exact (fun _ _=>trivial));(case aO=>exact (qR HO546));(case aS=>exact (below_size qB));(case aL=>have:=LMc3.out;omega);intro v548 w59 ho hb hg hat;rw [<- Ny547.out] at ho;have HO549:=aM ho;replace BK543:=aM (blk_grown (g:=gb543) (o:=.cells #[.int .i64 a0_0,.int .i64 a0_1,.int .i64 a0_2,.int .i64 a0_3,.int .i64 a0_4] 46 (0,0)) (qK BK543) hg (Kd.R_ne HO546.out BK543.out (by decide)));replace HB:=aM hb;clear HO546;clear ho hb hg hat;have cz60:=jz5 BK543))
 go_ret
 exact⟨_,by first|rfl|(simp [errW_none,errW_some] <;> rfl)|(simp [*,errW_none,errW_some] <;> rfl),qR HO549,qB⟩
theorem eqA74 (d:Nat) (w:World) (x0 y0:Int) (x1 y1:Int) :
  (Op.equalIn (d+2) 74 (.agg #[.int .i64 x0,.int .i64 x1]) (.agg #[.int .i64 y0,.int .i64 y1])).run Try.prog w = .ok (x0 == y0 && (x1 == y1)) w:=by
 refine eqA_of Try.underlying74 (by kernel_rfl) ?_
 refine eqf_cons (by rfl) (by go_simp;rfl) (by go_simp;rfl) (by go_simp) ?_
 exact eqf_last (by rfl) (by go_simp;rfl) (by go_simp;rfl) (by go_simp)
attribute [local go_sem high] eqA74
def Sl33Join.f (a0_0:Int) (a0_1:Int) (a1_0:Int) (a1_1:Int):Option (Int × Int):=if a0_0=0 then (some (a1_0,a1_1)) else (if a1_0=0 then (some (a0_0,a0_1)) else (if (a0_0 == a1_0 && (a0_1 == a1_1))=true then (some (a0_0,a0_1)) else (some (2,0))))
theorem Sl33Join_calls_s0 {G:Prop} (h:G:=by
  go_enter Try.func121,Try.ntmps121
  go_wp2_with (first|((with_reducible refine jd 2 rfl ?_);refine jX _ 74 ?_;intro gb559 hg w_0a hbox hb;have BK559:=aM hbox;have GW559:=kG hg;replace HB:=kH hb;clear hb hbox hg)|((with_reducible refine jd 3 rfl ?_);refine jX _ 74 ?_;intro gb560 hg w_1a hbox hb;have BK560:=aM hbox;have GW560:=kG hg;have NB559_560:=kN hg BK559;have NB560_559:=kM hg BK559;replace BK559:=kB BK559 hb;replace HB:=kH hb;clear hb hbox hg)|((with_reducible refine jd 4 rfl ?_);refine jX _ 74 ?_;intro gb561 hg w_2a hbox hb;have BK561:=aM hbox;have GW561:=kG hg;have NB559_561:=kN hg BK559;have NB561_559:=kM hg BK559;have NB560_561:=kN hg BK560;have NB561_560:=kM hg BK560;replace BK559:=kB BK559 hb;replace BK560:=kB BK560 hb;replace HB:=kH hb;clear hb hbox hg;have h_2b:=NB559_560.out;have h_2c:=NB560_559.out;have h_2d:=NB559_561.out;have h_2e:=NB561_559.out;have c_2f:=jz2 BK559;have h_2g:=NB560_561.out;have h_2h:=NB561_560.out;have c_2i:=jz2 BK560;have c_2j:=jz2 BK561))
  refine bodyPost_ret (results_cell_row rfl _ _ gb561 74 #[.int .i64 a0_0,.int .i64 a0_1] (0,0) _ rfl (qF BK561) Try.underlying74 rfl (by kernel_rfl)) rfl ?_
  exact⟨qW,qB⟩):G:=h
theorem Sl33Join.calls (a0_0:Int) (a0_1:Int) (a1_0:Int) (a1_1:Int) (r1:Int) (r2:Int) (w:World) (h:Sl33Join.f a0_0 a0_1 a1_0 a1_1=some (r1,r2)) :
  Calls Try.prog 121 #[.agg #[.int .i64 a0_0,.int .i64 a0_1],.agg #[.int .i64 a1_0,.int .i64 a1_1]] w fun e w'=>e = .returned (.agg #[.int .i64 r1,.int .i64 r2])/\Below w.heap.size w w':=by
 have hu74:=Try.underlying74
 have HB:=aM (Below.refl w.heap.size w)
 have H:=h;unfold Sl33Join.f at H
 clear h
 replace H:=jE H;rcases H with ⟨c3b0,c3b1,H⟩ | ⟨c3,c3b0,c3b1,H⟩
 ·simp only [Option.some.injEq,Prod.mk.injEq] at H
  obtain⟨rfl,rfl⟩:=H
  go_enter Try.func121,Try.ntmps121
  go_wp2_with (first|((with_reducible refine jd 2 rfl ?_);refine jX _ 74 ?_;intro gb559 hg w_0a hbox hb;have BK559:=aM hbox;have GW559:=kG hg;replace HB:=kH hb;clear hb hbox hg)|((with_reducible refine jd 3 rfl ?_);refine jX _ 74 ?_;intro gb560 hg w_1a hbox hb;have BK560:=aM hbox;have GW560:=kG hg;have NB559_560:=kN hg BK559;have NB560_559:=kM hg BK559;replace BK559:=kB BK559 hb;replace HB:=kH hb;clear hb hbox hg)|((with_reducible refine jd 4 rfl ?_);refine jX _ 74 ?_;intro gb561 hg w_2a hbox hb;have BK561:=aM hbox;have GW561:=kG hg;have NB559_561:=kN hg BK559;have NB561_559:=kM hg BK559;have NB560_561:=kN hg BK560;have NB561_560:=kM hg BK560;replace BK559:=kB BK559 hb;replace BK560:=kB BK560 hb;replace HB:=kH hb;clear hb hbox hg;have h_2b:=NB559_560.out;have h_2c:=NB560_559.out;have h_2d:=NB559_561.out;have h_2e:=NB561_559.out;have c_2f:=jz2 BK559;have h_2g:=NB560_561.out;have h_2h:=NB561_560.out;have c_2i:=jz2 BK560;have c_2j:=jz2 BK561))
  refine bodyPost_ret (results_cell_row rfl _ _ gb561 74 #[.int .i64 a1_0,.int .i64 a1_1] (0,0) _ rfl (qF BK561) Try.underlying74 rfl (by kernel_rfl)) rfl ?_
  exact⟨qW,qB⟩
 replace H:=jE H;rcases H with ⟨c13b0,c13b1,H⟩ | ⟨c13,c13b0,c13b1,H⟩
 ·simp only [Option.some.injEq,Prod.mk.injEq] at H
  obtain⟨rfl,rfl⟩:=H
  exact Sl33Join_calls_s0
 by_cases c23:(a0_0 == a1_0 && (a0_1 == a1_1))=true
 ·rw [if_pos c23] at H
  have c23b0:(a0_0 == a1_0 && (a0_1 == a1_1))=true:=c23
  (try (have c23b1:decide (a0_0=a1_0 && (a0_1 == a1_1))=true:=by simpa using c23))
  (try (have c23b2:(a0_0 == a1_0 && (a0_1 == a1_1))=true:=by simpa using c23))
  clear c23
  simp only [Option.some.injEq,Prod.mk.injEq] at H
  obtain⟨rfl,rfl⟩:=H
  exact Sl33Join_calls_s0
 rw [if_neg c23] at H
 have c23b0:(a0_0 == a1_0 && (a0_1 == a1_1))=false:=by simpa using c23
 (try (have c23b1:decide (a0_0=a1_0 && (a0_1 == a1_1))=false:=by simpa using c23))
 (try (have c23b2:(a0_0 == a1_0 && (a0_1 == a1_1))=false:=by simpa using c23))
 (try (have c23b3:¬ (a0_0=a1_0 && (a0_1 == a1_1)):=by simpa using c23))
 clear c23
 simp only [Option.some.injEq,Prod.mk.injEq] at H
 obtain⟨rfl,rfl⟩:=H
 go_enter Try.func121,Try.ntmps121
 go_wp2_with (first|((with_reducible refine jd 2 rfl ?_);refine jX _ 74 ?_;intro gb559 hg w_0a hbox hb;have BK559:=aM hbox;have GW559:=kG hg;replace HB:=kH hb;clear hb hbox hg)|((with_reducible refine jd 3 rfl ?_);refine jX _ 74 ?_;intro gb560 hg w_1a hbox hb;have BK560:=aM hbox;have GW560:=kG hg;have NB559_560:=kN hg BK559;have NB560_559:=kM hg BK559;replace BK559:=kB BK559 hb;replace HB:=kH hb;clear hb hbox hg)|((with_reducible refine jd 4 rfl ?_);refine jX _ 74 ?_;intro gb561 hg w_2a hbox hb;have BK561:=aM hbox;have GW561:=kG hg;have NB559_561:=kN hg BK559;have NB561_559:=kM hg BK559;have NB560_561:=kN hg BK560;have NB561_560:=kM hg BK560;replace BK559:=kB BK559 hb;replace BK560:=kB BK560 hb;replace HB:=kH hb;clear hb hbox hg;have h_2b:=NB559_560.out;have h_2c:=NB560_559.out;have h_2d:=NB559_561.out;have h_2e:=NB561_559.out;have c_2f:=jz2 BK559;have h_2g:=NB560_561.out;have h_2h:=NB561_560.out;have c_2i:=jz2 BK560;have c_2j:=jz2 BK561))
 refine bodyPost_ret (results_cell_row rfl _ _ gb561 74 #[.int .i64 2,.int .i64 0] (0,0) _ rfl (qF BK561) Try.underlying74 rfl (by kernel_rfl)) rfl ?_
 exact⟨qW,qB⟩
attribute [local go_sem high] eqA74
def Sl33Carry.l0:Nat->List (List (S74))->Int->List (S74)->Bool->Int->Option (Bool × (List (List (S74))))
 | 0,_,_,_,_,_=>none
 | k+1,x0,x1,x2,x7,x8=>if x8 < 12 then (if 0<=x1 then (if x1 < (x0.length:Int) then (if 0<=x8 then (if x8 < ((rd_L9 x0 x1).length:Int) then (if x8 < (x2.length:Int) then ((Sl33Join.f ((rd_T74 (rd_L9 x0 x1) x8).f0) ((rd_T74 (rd_L9 x0 x1) x8).f1) ((rd_T74 x2 x8).f0) ((rd_T74 x2 x8).f1)).bind fun bt565=>(if (!(bt565.1 == ((rd_T74 (rd_L9 x0 x1) x8).f0)) || (!(bt565.2 == ((rd_T74 (rd_L9 x0 x1) x8).f1))))=true then (Sl33Carry.l0 k (x0.set (x1:Int).toNat ((rd_L9 x0 x1).set (x8:Int).toNat (⟨bt565.1,bt565.2⟩:S74))) x1 x2 true (wrap64 (x8+1))) else (Sl33Carry.l0 k x0 x1 x2 x7 (wrap64 (x8+1))))) else (none)) else (none)) else (none)) else (none)) else (none)) else (some (x7,x0))
def Sl33Carry.f (k:Nat) (l0:List (List (S74))) (a1:Int) (l2:List (S74)):Option (Bool × (List (List (S74)))):=Sl33Carry.l0 k l0 a1 l2 false 0
theorem Sl33Carry.mono_l:∀ k,(∀ y0 y1 y2 y3 y4,LeO (Sl33Carry.l0 k y0 y1 y2 y3 y4) (Sl33Carry.l0 (k+1) y0 y1 y2 y3 y4))
 | 0=>fun _ _ _ _ _ r h=>by simp [Sl33Carry.l0] at h
 | k+1=>by
  have ih0:=Sl33Carry.mono_l k
  intros;unfold Sl33Carry.l0;exact mM
theorem Sl33Carry.mono:∀ a0 a1 a2 k,LeO (Sl33Carry.f k a0 a1 a2) (Sl33Carry.f (k+1) a0 a1 a2):=by
 intro a0 a1 a2 k;have ih0:=Sl33Carry.mono_l k;unfold Sl33Carry.f;exact mM
def Sl33Carry.T5:Bool × List (List Nat × List Nat):=(true,[([],[]),([],[]),([0,1],[0,1]),([2],[2]),([],[]),([3,4],[3,4]),([5],[5]),([],[]),([],[]),([7,8],[7,8]),([9],[9]),([6,10],[6,10]),([],[]),([12,11,11,0,1,2,3,4,5,6,7,8,9,10,11,12],[11,12])])
def Sl33Carry.B5:List Nat:=[0,0,3,7,0,31,63,0,0,384,896,2047,0,8191]
theorem Sl33Carry.tab5:rtab .any (opsOf Try.f114 5)=Sl33Carry.T5:=by kernel_rfl
theorem Sl33Carry.bits5:waitsOk Sl33Carry.T5.2 Sl33Carry.B5=true:=by kernel_rfl
def Sl33Carry.T6:Bool × List (List Nat × List Nat):=(true,[([],[]),([],[]),([],[]),([1,2],[1,2]),([3],[3]),([],[]),([4,5],[4,5]),([6],[6]),([0,7],[0,7])])
def Sl33Carry.B6:List Nat:=[0,0,0,6,14,0,62,126,255]
theorem Sl33Carry.tab6:rtab .any (opsOf Try.f114 6)=Sl33Carry.T6:=by kernel_rfl
theorem Sl33Carry.bits6:waitsOk Sl33Carry.T6.2 Sl33Carry.B6=true:=by kernel_rfl
def Sl33Carry.T7:Bool × List (List Nat × List Nat):=(true,[([],[]),([],[]),([0,1],[0,1]),([2],[2]),([],[]),([],[]),([3,4,0,1,2,3,4,5],[3,4]),([6,5,0,1,2,3,4,5],[5,6])])
def Sl33Carry.B7:List Nat:=[0,0,3,7,0,0,63,127]
theorem Sl33Carry.tab7:rtab .any (opsOf Try.f114 7)=Sl33Carry.T7:=by kernel_rfl
theorem Sl33Carry.bits7:waitsOk Sl33Carry.T7.2 Sl33Carry.B7=true:=by kernel_rfl
theorem Sl33Carry.calls (k:Nat) (P0_:Nat->Prop) (u9000_:Value) (l0:List (List (S74))) (a1:Int) (A2:Option Addr) (c2:Nat) (l2:List (S74)) (r1:Bool) (r2:List (List (S74))) (w0 w:World) (hB:Below w0.heap.size w0 w) (ho0:Kd.S (Kd.slice 74 k74) 91 w w0.heap.size P0_ u9000_ l0) (hr2:∀ W_,Kept w W_ (fun k_=>P0_ k_)->Kd.C k74 W_ A2 l2.length l2) (hc2:l2.length<=c2) (h:Sl33Carry.f k l0 a1 l2=some (r1,r2)) :
  Calls Try.prog 114 #[u9000_,.int .i64 a1,.slice A2 l2.length c2] w fun e w'=>e = .returned (.bool r1)/\Kd.S (Kd.slice 74 k74) 91 w' w0.heap.size (fun k_=>(P0_ k_\/w.heap.size<=k_)) u9000_ r2/\Below w0.heap.size w0 w'/\Kept w w' (fun k_=>P0_ k_):=by
 have hu74:=Try.underlying74
 have HO0:=aM (show Kd.S (Kd.slice 74 k74) 91 w w0.heap.size (fun k_=>(P0_ k_\/w.heap.size<=k_)) u9000_ l0 from Kd.S_mono ho0 (fun k_ hk=>(.inl hk)))
 have HR2:=aM hr2
 have HC2:=aM hc2
 clear hr2 hc2
 have HK:=aM (Kept.refl w (fun k_=>P0_ k_))
 have HW0:=aM hB.size
 have HB:=aM hB
 clear hB
 have H:(Sl33Carry.l0 k l0 a1 l2 false 0)=some (r1,r2):=h
 clear h
 have H':=aM H
 clear H
 go_enter Try.func114,Try.ntmps114
 go_wp2
 go_loopg [7,8] k (fun kq v7 v8 w'=>∃ (x0_1:List (List (S74))) (x7_1:Bool) (x8_1:Int),v7 = .bool x7_1/\v8 = .int .i64 x8_1/\Aside0 (Sl33Carry.l0 kq x0_1 a1 l2 x7_1 x8_1=some (r1,r2))/\Aside0 (kq<=k)/\Aside0 (Kd.S (Kd.slice 74 k74) 91 w' w0.heap.size (fun k_=>(P0_ k_\/w.heap.size<=k_)) u9000_ x0_1)/\Aside0 (Kept w w' (fun k_=>P0_ k_))/\Aside0 (Below w0.heap.size w0 w'))
 case atStart=>exact⟨(l0),(false),(0),qZ,qZ,H',⟨Nat.le_refl _⟩,⟨qS HO0⟩,⟨qT⟩,⟨qB⟩⟩
 clear H'
 try clear c2
 obtain⟨x0_1,x7_1,x8_1,rfl,rfl,HA,HK1,HO_0,HK,HB⟩:=hrel
 rcases gk with _|k1
 ·exact absurd HA.out (by simp [Sl33Carry.l0])
 have H:=HA.out
 clear HA
 simp only [Sl33Carry.l0] at H
 replace H:=jD H;rcases H with ⟨c4b0,H⟩ | ⟨c4b0,H⟩
 ·replace H:=jI H;obtain⟨c5b0,H⟩:=H
  replace H:=jI H;obtain⟨c6b0,H⟩:=H
  replace H:=jI H;obtain⟨c7b0,H⟩:=H
  replace H:=jI H;obtain⟨c8b0,H⟩:=H
  replace H:=jI H;obtain⟨c9b0,H⟩:=H
  obtain⟨⟨t565,t566⟩,A10,H⟩:=qE H
  try dsimp only at H
  have HXc11:=aM H;clear H
  try go_wp2
  replace HO_0:=aM (Kd.S_drew HO_0.out)
  replace HK:=aM (Kept.drew HK.out)
  replace HB:=aM (below_drew1 HB.out)
  obtain⟨Ao14,co14,eo14⟩:=Kd.S_slice HO_0.out
  (first|subst eo14|(injection eo14 with f1_ f2_ f3_;have f4_:=f1_.symm;have f5_:=f3_.symm;clear f1_ f2_ f3_;subst f4_;subst f5_))
  have p562:0<=(a1:Int):=qD
  have q562:a1 < (x0_1.length:Int):=qD
  obtain⟨ad562,A562_0,c562_0,e562,hx562_0,hl562_0,hi562_0⟩:=at_L9 (Kd.S_reads' HO_0.out).2.2 a1 p562 q562
  cases e562
  obtain⟨ce562,hce562,hMe562,hcc562⟩:=Kd.S_get HO_0.out [] a1 p562 (by first|exact q562|exact qD|(have e_:=(Kd.S_reads' HO_0.out).1;omega))
  obtain⟨ve562_0,rfl,ge562_0⟩:=hMe562
  have hv562_0:=hcc562 0 _ rfl
  rw [Nat.add_zero,show ((Kd.slice 74 k74)).sz=1 from rfl,Nat.mul_one] at hv562_0
  replace hv562_0:=Option.some.inj (hv562_0.symm.trans hx562_0)
  rw [hv562_0] at ge562_0
  have HL562_0:=aM (show Kd.R k74 74 _ _ _ _ (rd_L9 x0_1 a1) from ge562_0)
  clear hv562_0 ge562_0
  have HX562_0:=aM hx562_0
  clear hcc562 hce562
  have HR562_0:=aM hi562_0
  have HC562_0:=aM hl562_0
  clear hi562_0 hl562_0
  replace p562:=eq_true p562
  replace q562:=eq_true q562
  have p563:0<=(x8_1:Int):=qD
  have q563:x8_1 < ((rd_L9 x0_1 a1).length:Int):=qD
  obtain⟨ad563,e563,hx563_0,hx563_1⟩:=at_T74 (kC HR562_0.out) x8_1 p563 q563
  cases e563
  replace p563:=eq_true p563
  replace q563:=eq_true q563
  have p564:0<=(x8_1:Int):=qD
  have q564:x8_1 < (l2.length:Int):=qD
  obtain⟨ad564,e564,hx564_0,hx564_1⟩:=at_T74 (Kd.C_kept_now HR2.out HK.out) x8_1 p564 q564
  have hw564_1:=hx564_1
  have hw564_0:=hx564_0
  cases e564
  replace p564:=eq_true p564
  replace q564:=eq_true q564
  refine start_ (n:=14) (S:=fun w'=>w'.cell? (ad562.add (a1).toNat)=some (.slice (some ad563) (rd_L9 x0_1 a1).length c562_0)/\w'.cell? (ad563.add ((x8_1).toNat*2))=some (.int .i64 ((rd_T74 (rd_L9 x0_1 a1) x8_1).f0))/\w'.cell? ⟨(ad563.add ((x8_1).toNat*2)).block,(ad563.add ((x8_1).toNat*2)).off+1,none⟩=some (.int .i64 ((rd_T74 (rd_L9 x0_1 a1) x8_1).f1))/\w'.cell? (ad564.add ((x8_1).toNat*2))=some (.int .i64 ((rd_T74 l2 x8_1).f0))/\w'.cell? ⟨(ad564.add ((x8_1).toNat*2)).block,(ad564.add ((x8_1).toNat*2)).off+1,none⟩=some (.int .i64 ((rd_T74 l2 x8_1).f1))) (ds:=[]) (jb 14 0) (by kernel_rfl) rfl rfl ⟨hx562_0,hx563_0,hx563_1,(foot_T74_0 (HR2.out _ (by repeat (first|exact HK.out|apply Kept.alloc|apply Kept.drewN|apply Kept.drew|refine Kept.setCell ?_ (.inr GW567.out) _|refine Kept.setCell ?_ (.inr GW567.out) _))) x8_1 (of_eq_true p564) (of_eq_true q564)),(foot_T74_1 (HR2.out _ (by repeat (first|exact HK.out|apply Kept.alloc|apply Kept.drewN|apply Kept.drew|refine Kept.setCell ?_ (.inr GW567.out) _|refine Kept.setCell ?_ (.inr GW567.out) _))) x8_1 (of_eq_true p564) (of_eq_true q564))⟩ (fun hHeld=>?_);refine with_tabW Sl33Carry.tab5 Sl33Carry.bits5 (fun HT_ HW_=>?_)
  generalize wr.drew=w13 at HO_0 HK HB HL562_0 HR562_0 HX562_0 hx562_0 hx563_0 hx563_1 hx564_0 hx564_1 hHeld ⊢
  refine jp 0 14 (jb 14 1) ?_
  refine jp 1 15 (jb 14 3) ?_
  refine jp 2 16 (jb 14 7) ?_
  refine jp 4 18 (jb 14 23) ?_
  refine jp 7 21 (jb 14 151) ?_
  refine jp 8 22 (jb 14 407) ?_
  refine jp 9 23 (jb 14 919) ?_
  refine jt 3 17 (jb 14 927) ?_
  refine jp 5 19 (jb 14 959) ?_
  refine jt 6 20 (jb 14 1023) ?_
  refine jt 10 24 (jb 14 2047) ?_
  refine join_ (σ:=Nat) 1 (jb 14 8191) (fun s_=>[(25,.agg #[.int .i64 t565,.int .i64 t566]),(9,.pointer (some ⟨s_,0,none⟩))]) (fun s_ w'=>(w'.cell? (ad562.add (a1).toNat)=some (.slice (some ad563) (rd_L9 x0_1 a1).length c562_0)/\w'.cell? (ad563.add ((x8_1).toNat*2))=some (.int .i64 ((rd_T74 (rd_L9 x0_1 a1) x8_1).f0))/\w'.cell? ⟨(ad563.add ((x8_1).toNat*2)).block,(ad563.add ((x8_1).toNat*2)).off+1,none⟩=some (.int .i64 ((rd_T74 (rd_L9 x0_1 a1) x8_1).f1))/\w'.cell? (ad564.add ((x8_1).toNat*2))=some (.int .i64 ((rd_T74 l2 x8_1).f0))/\w'.cell? ⟨(ad564.add ((x8_1).toNat*2)).block,(ad564.add ((x8_1).toNat*2)).off+1,none⟩=some (.int .i64 ((rd_T74 l2 x8_1).f1)))/\(Kd.R k74 74 w' w0.heap.size (fun k_=>(P0_ k_\/w.heap.size<=k_)/\some k_≠(.slice (some ad562) x0_1.length co14:Value).ownBlock/\k_≠s_) (.slice (some ad563) (rd_L9 x0_1 a1).length c562_0) (rd_L9 x0_1 a1))/\(Kd.S (Kd.slice 74 k74) 91 w' w0.heap.size (fun k_=>(P0_ k_\/w.heap.size<=k_)/\k_≠s_) (.slice (some ad562) x0_1.length co14) x0_1)/\(w'.cell? (ad562.add (a1).toNat)=some (.slice (some ad563) (rd_L9 x0_1 a1).length c562_0))/\(w'.heap[s_]?=some (.cells #[.int .i64 0,.int .i64 0] 74 (0,0)))/\(w.heap.size<=s_)/\(w0.heap.size<=s_)/\(Kept w w' (fun k_=>P0_ k_))/\(Below w0.heap.size w0 w')) ?_ ?_
  rotate_left
  ·intro hCont
   refine two_ (i:=11) (j:=12) (Ni:=some 25) (Nj:=some 9) (jb 14 4095) (jb 14 6143) rfl rfl rfl rfl (two_of HT_.out (by kernel_rfl)) (by decide) (by decide) (fun K hK=>?_) (fun K hK=>?_)
   ·skip
    refine goes_ Try.func121 (by kernel_rfl) rfl #[.agg #[.int .i64 ((rd_T74 (rd_L9 x0_1 a1) x8_1).f0),.int .i64 ((rd_T74 (rd_L9 x0_1 a1) x8_1).f1)],.agg #[.int .i64 ((rd_T74 l2 x8_1).f0),.int .i64 ((rd_T74 l2 x8_1).f1)]] (by rfl) rfl rfl qM ?_
    with_reducible refine (Sl33Join.calls ((rd_T74 (rd_L9 x0_1 a1) x8_1).f0) ((rd_T74 (rd_L9 x0_1 a1) x8_1).f1) ((rd_T74 l2 x8_1).f0) ((rd_T74 l2 x8_1).f1) t565 t566 _ A10.out).mono ?_
    rintro e w15 ⟨rfl,hb⟩
    have HS0_:=(hb.cell (World.block_lt_of_cell? _ _ (hHeld.1))).trans (hHeld.1)
    have HS1_:=(hb.cell (World.block_lt_of_cell? _ _ (hHeld.2.1))).trans (hHeld.2.1)
    have HS2_:=(hb.cell (World.block_lt_of_cell? _ _ (hHeld.2.2.1))).trans (hHeld.2.2.1)
    refine⟨_,rfl,?_⟩
    replace HO_0:=kS HO_0 hb
    replace HL562_0:=kR HL562_0 hb
    replace HR562_0:=kQ HR562_0 hb
    replace HX562_0:=kW hb HX562_0
    replace HK:=kT hb
    replace HB:=kH hb
    (try clear hb)
    (try clear hb2)
    (try clear hk)
    (try clear hi)
    refine hK.out _ _ ⟨HS0_,HS1_,HS2_,(foot_T74_0 (HR2.out _ (by repeat (first|exact HK.out|apply Kept.alloc|apply Kept.drewN|apply Kept.drew|refine Kept.setCell ?_ (.inr GW567.out) _|refine Kept.setCell ?_ (.inr GW567.out) _))) x8_1 (of_eq_true p564) (of_eq_true q564)),(foot_T74_1 (HR2.out _ (by repeat (first|exact HK.out|apply Kept.alloc|apply Kept.drewN|apply Kept.drew|refine Kept.setCell ?_ (.inr GW567.out) _|refine Kept.setCell ?_ (.inr GW567.out) _))) x8_1 (of_eq_true p564) (of_eq_true q564))⟩ (fun hHeld=>?_)
    clear hK K
    refine norm_ (a':=?_) ?_ ?_
    rotate_left
    ·show Act.put _ (some 25) _=_
     simp only [Act.put,List.setIfInBounds_toArray,List.set_cons_zero,List.set_cons_succ,i64_w,i32_w]
     rfl
    refine one_ (i:=12) (N:=some 9) (jb 14 8191) rfl rfl (one_of HT_.out (by kernel_rfl)) (by decide) (fun K hK=>?_)
    refine box_step ?hg (N:=9) ?hd (cs:=#[.int .i64 0,.int .i64 0]) (t:=74) ?hr ?_;(case hd=>rfl);(case hg=>rfl);(case hr=>first|(go_simp;done)|(go_simp;rfl))
    intro gb567 hg w16 hbox hb
    have HS0_:=(hb.cell (World.block_lt_of_cell? _ _ (hHeld.1))).trans (hHeld.1)
    have HS1_:=(hb.cell (World.block_lt_of_cell? _ _ (hHeld.2.1))).trans (hHeld.2.1)
    have HS2_:=(hb.cell (World.block_lt_of_cell? _ _ (hHeld.2.2.1))).trans (hHeld.2.2.1)
    have BK567:=aM hbox
    have GW567:=aM ((by rw [hg];exact (by first|exact HK.out.1|exact (show Kept w _ (fun k_=>P0_ k_) from qT).1):w.heap.size<=gb567))
    have GE567:=aM ((by rw [hg];exact (below_size qB):w0.heap.size<=gb567))
    replace HO_0:=aM (Kd.S_below (Kd.S_elderB (qS HO_0) gb567 (Nat.le_of_eq hg.symm)) hb)
    replace HL562_0:=aM (Kd.R_below (Kd.R_elderB (qR HL562_0) gb567 (Nat.le_of_eq hg.symm)) hb)
    replace HR562_0:=kQ HR562_0 hb
    replace HX562_0:=kW hb HX562_0
    replace HK:=kT hb
    replace HB:=kH hb
    clear hb hbox hg
    refine hK.out _ _ ⟨HS0_,HS1_,HS2_,(foot_T74_0 (HR2.out _ (by repeat (first|exact HK.out|apply Kept.alloc|apply Kept.drewN|apply Kept.drew|refine Kept.setCell ?_ (.inr GW567.out) _|refine Kept.setCell ?_ (.inr GW567.out) _))) x8_1 (of_eq_true p564) (of_eq_true q564)),(foot_T74_1 (HR2.out _ (by repeat (first|exact HK.out|apply Kept.alloc|apply Kept.drewN|apply Kept.drew|refine Kept.setCell ?_ (.inr GW567.out) _|refine Kept.setCell ?_ (.inr GW567.out) _))) x8_1 (of_eq_true p564) (of_eq_true q564))⟩ (fun hHeld=>?_)
    clear hK K
    refine norm_ (a':=?_) ?_ ?_
    rotate_left
    ·show Act.put _ (some 9) _=_
     simp only [Act.put,List.setIfInBounds_toArray,List.set_cons_zero,List.set_cons_succ,i64_w,i32_w]
     rfl
    exact norm_ (by simp only [putAll,Act.put,List.setIfInBounds_toArray,List.set_cons_zero,List.set_cons_succ]) (hCont (gb567) _ ⟨hHeld,(by (with_reducible repeat (first|apply Kd.R_alloc|apply Kd.R_drewN|apply Kd.R_drew));exact Kd.R_mono HL562_0.out (fun _ hk=>⟨hk.1.1,⟨hk.1.2,hk.2⟩⟩)),(qS HO_0),HX562_0.out,(qK BK567),GW567.out,GE567.out,(by repeat (first|(with_reducible first|exact HK.out|apply Kept.alloc|apply Kept.drewN|apply Kept.drew|refine Kept.setCell ?_ (.inr GW567.out) _)|exact HK.out)),qB⟩)
   skip
   refine box_step ?hg (N:=9) ?hd (cs:=#[.int .i64 0,.int .i64 0]) (t:=74) ?hr ?_;(case hd=>rfl);(case hg=>rfl);(case hr=>first|(go_simp;done)|(go_simp;rfl))
   intro gb567 hg w15 hbox hb
   have HS0_:=(hb.cell (World.block_lt_of_cell? _ _ (hHeld.1))).trans (hHeld.1)
   have HS1_:=(hb.cell (World.block_lt_of_cell? _ _ (hHeld.2.1))).trans (hHeld.2.1)
   have HS2_:=(hb.cell (World.block_lt_of_cell? _ _ (hHeld.2.2.1))).trans (hHeld.2.2.1)
   have BK567:=aM hbox
   have GW567:=aM ((by rw [hg];exact (by first|exact HK.out.1|exact (show Kept w _ (fun k_=>P0_ k_) from qT).1):w.heap.size<=gb567))
   have GE567:=aM ((by rw [hg];exact (below_size qB):w0.heap.size<=gb567))
   replace HO_0:=aM (Kd.S_below (Kd.S_elderB (qS HO_0) gb567 (Nat.le_of_eq hg.symm)) hb)
   replace HL562_0:=aM (Kd.R_below (Kd.R_elderB (qR HL562_0) gb567 (Nat.le_of_eq hg.symm)) hb)
   replace HR562_0:=kQ HR562_0 hb
   replace HX562_0:=kW hb HX562_0
   replace HK:=kT hb
   replace HB:=kH hb
   clear hb hbox hg
   refine hK.out _ _ ⟨HS0_,HS1_,HS2_,(foot_T74_0 (HR2.out _ (by repeat (first|exact HK.out|apply Kept.alloc|apply Kept.drewN|apply Kept.drew|refine Kept.setCell ?_ (.inr GW567.out) _|refine Kept.setCell ?_ (.inr GW567.out) _))) x8_1 (of_eq_true p564) (of_eq_true q564)),(foot_T74_1 (HR2.out _ (by repeat (first|exact HK.out|apply Kept.alloc|apply Kept.drewN|apply Kept.drew|refine Kept.setCell ?_ (.inr GW567.out) _|refine Kept.setCell ?_ (.inr GW567.out) _))) x8_1 (of_eq_true p564) (of_eq_true q564))⟩ (fun hHeld=>?_)
   clear hK K
   refine norm_ (a':=?_) ?_ ?_
   rotate_left
   ·show Act.put _ (some 9) _=_
    simp only [Act.put,List.setIfInBounds_toArray,List.set_cons_zero,List.set_cons_succ,i64_w,i32_w]
    rfl
   refine one_ (i:=11) (N:=some 25) (jb 14 8191) rfl rfl (one_of HT_.out (by kernel_rfl)) (by decide) (fun K hK=>?_)
   refine goes_ Try.func121 (by kernel_rfl) rfl #[.agg #[.int .i64 ((rd_T74 (rd_L9 x0_1 a1) x8_1).f0),.int .i64 ((rd_T74 (rd_L9 x0_1 a1) x8_1).f1)],.agg #[.int .i64 ((rd_T74 l2 x8_1).f0),.int .i64 ((rd_T74 l2 x8_1).f1)]] (by rfl) rfl rfl qM ?_
   with_reducible refine (Sl33Join.calls ((rd_T74 (rd_L9 x0_1 a1) x8_1).f0) ((rd_T74 (rd_L9 x0_1 a1) x8_1).f1) ((rd_T74 l2 x8_1).f0) ((rd_T74 l2 x8_1).f1) t565 t566 _ A10.out).mono ?_
   rintro e w16 ⟨rfl,hb⟩
   have HS0_:=(hb.cell (World.block_lt_of_cell? _ _ (hHeld.1))).trans (hHeld.1)
   have HS1_:=(hb.cell (World.block_lt_of_cell? _ _ (hHeld.2.1))).trans (hHeld.2.1)
   have HS2_:=(hb.cell (World.block_lt_of_cell? _ _ (hHeld.2.2.1))).trans (hHeld.2.2.1)
   refine⟨_,rfl,?_⟩
   replace HO_0:=kS HO_0 hb
   replace HL562_0:=kR HL562_0 hb
   replace HR562_0:=kQ HR562_0 hb
   replace HX562_0:=kW hb HX562_0
   replace BK567:=kB BK567 hb
   replace HK:=aM (Kept.below (S:=(fun k_=>P0_ k_)) (by repeat (first|(with_reducible first|exact HK.out|apply Kept.alloc|apply Kept.drewN|apply Kept.drew|refine Kept.setCell ?_ (.inr GW567.out) _)|exact HK.out)) hb)
   replace HB:=kH hb
   (try clear hb)
   (try clear hb2)
   (try clear hk)
   (try clear hi)
   refine hK.out _ _ ⟨HS0_,HS1_,HS2_,(foot_T74_0 (HR2.out _ (by repeat (first|exact HK.out|apply Kept.alloc|apply Kept.drewN|apply Kept.drew|refine Kept.setCell ?_ (.inr GW567.out) _|refine Kept.setCell ?_ (.inr GW567.out) _))) x8_1 (of_eq_true p564) (of_eq_true q564)),(foot_T74_1 (HR2.out _ (by repeat (first|exact HK.out|apply Kept.alloc|apply Kept.drewN|apply Kept.drew|refine Kept.setCell ?_ (.inr GW567.out) _|refine Kept.setCell ?_ (.inr GW567.out) _))) x8_1 (of_eq_true p564) (of_eq_true q564))⟩ (fun hHeld=>?_)
   clear hK K
   refine norm_ (a':=?_) ?_ ?_
   rotate_left
   ·show Act.put _ (some 25) _=_
    simp only [Act.put,List.setIfInBounds_toArray,List.set_cons_zero,List.set_cons_succ,i64_w,i32_w]
    rfl
   exact norm_ (by simp only [putAll,Act.put,List.setIfInBounds_toArray,List.set_cons_zero,List.set_cons_succ]) (hCont (gb567) _ ⟨hHeld,(by (with_reducible repeat (first|apply Kd.R_alloc|apply Kd.R_drewN|apply Kd.R_drew));exact Kd.R_mono HL562_0.out (fun _ hk=>⟨hk.1.1,⟨hk.1.2,hk.2⟩⟩)),(qS HO_0),HX562_0.out,(qK BK567),GW567.out,GE567.out,(by repeat (first|(with_reducible first|exact HK.out|apply Kept.alloc|apply Kept.drewN|apply Kept.drew|refine Kept.setCell ?_ (.inr GW567.out) _)|exact HK.out)),qB⟩)
  rintro gb567 w17 ⟨hS_,h0_,h1_,h2_,h3_,h4_,h5_,h6_,h7_⟩
  have n0_:Aside0 (Kd.R k74 74 w17 w0.heap.size (fun k_=>(P0_ k_\/w.heap.size<=k_)/\some k_≠(.slice (some ad562) x0_1.length co14:Value).ownBlock/\k_≠gb567) (.slice (some ad563) (rd_L9 x0_1 a1).length c562_0) (rd_L9 x0_1 a1)):=⟨h0_⟩
  have n1_:Aside0 (Kd.S (Kd.slice 74 k74) 91 w17 w0.heap.size (fun k_=>(P0_ k_\/w.heap.size<=k_)/\k_≠gb567) (.slice (some ad562) x0_1.length co14) x0_1):=⟨h1_⟩
  have n2_:Aside0 (w17.cell? (ad562.add (a1).toNat)=some (.slice (some ad563) (rd_L9 x0_1 a1).length c562_0)):=⟨h2_⟩
  have n3_:Aside0 (w17.heap[gb567]?=some (.cells #[.int .i64 0,.int .i64 0] 74 (0,0))):=⟨h3_⟩
  have n4_:Aside0 (w.heap.size<=gb567):=⟨h4_⟩
  have n5_:Aside0 (w0.heap.size<=gb567):=⟨h5_⟩
  have n6_:Aside0 (Kept w w17 (fun k_=>P0_ k_)):=⟨h6_⟩
  have n7_:Aside0 (Below w0.heap.size w0 w17):=⟨h7_⟩
  clear HO_0
  clear HK
  clear HB
  clear h0_ h1_ h2_ h3_ h4_ h5_ h6_ h7_
  have HL562_0:=n0_
  have HO_0:=n1_
  have HX562_0:=n2_
  have BK567:=n3_
  have GW567:=n4_
  have GE567:=n5_
  have HK:=n6_
  have HB:=n7_
  clear n0_ n1_ n2_ n3_ n4_ n5_ n6_ n7_
  have hHeld:w17.cell? (ad562.add (a1).toNat)=some (.slice (some ad563) (rd_L9 x0_1 a1).length c562_0)/\w17.cell? (ad563.add ((x8_1).toNat*2))=some (.int .i64 ((rd_T74 (rd_L9 x0_1 a1) x8_1).f0))/\w17.cell? ⟨(ad563.add ((x8_1).toNat*2)).block,(ad563.add ((x8_1).toNat*2)).off+1,none⟩=some (.int .i64 ((rd_T74 (rd_L9 x0_1 a1) x8_1).f1))/\w17.cell? (ad564.add ((x8_1).toNat*2))=some (.int .i64 ((rd_T74 l2 x8_1).f0))/\w17.cell? ⟨(ad564.add ((x8_1).toNat*2)).block,(ad564.add ((x8_1).toNat*2)).off+1,none⟩=some (.int .i64 ((rd_T74 l2 x8_1).f1)):=hS_
  refine norm_ (a':=?_) ?_ ?_
  rotate_left
  ·simp only [putAll,Act.put,List.setIfInBounds_toArray,List.set_cons_zero,List.set_cons_succ]
   rfl
  refine one_ (i:=13) (N:=none) (jb 14 16383) rfl rfl (one_of HT_.out (by kernel_rfl)) (by decide) (fun K hK=>?_)
  have hs18:w17.cell? ⟨gb567,0,none⟩=some (.int .i64 0):=(blk_cell BK567.out 0).trans rfl
  have hfs18:=blk_frozen BK567.out 0
  have hs19:w17.cell? ⟨gb567,1,none⟩=some (.int .i64 0):=(blk_cell BK567.out 1).trans rfl
  have hfs19:=blk_frozen BK567.out 1
  refine skip_ (w1:=?_) (by rfl) rfl ?_ ?_
  rotate_left
  ·go_simp
   rfl
  refine hK.out _ _ ⟨((cell_far (p:=⟨gb567,_,none⟩) (kf (Kd.own_blk (Kd.S_away HO_0.out (fun _ hk=>hk.2)))) _).trans (((cell_far (p:=⟨gb567,_,none⟩) (kf (Kd.own_blk (Kd.S_away HO_0.out (fun _ hk=>hk.2)))) _).trans (hHeld.1)))),((cell_far (p:=⟨gb567,_,none⟩) (kf (Kd.own_blk (Kd.R_away HL562_0.out (fun _ hk=>hk.2.2)))) _).trans (((cell_far (p:=⟨gb567,_,none⟩) (kf (Kd.own_blk (Kd.R_away HL562_0.out (fun _ hk=>hk.2.2)))) _).trans (hHeld.2.1)))),((cell_far (p:=⟨gb567,_,none⟩) (kf (Kd.own_blk (Kd.R_away HL562_0.out (fun _ hk=>hk.2.2)))) _).trans (((cell_far (p:=⟨gb567,_,none⟩) (kf (Kd.own_blk (Kd.R_away HL562_0.out (fun _ hk=>hk.2.2)))) _).trans (hHeld.2.2.1)))),(foot_T74_0 (HR2.out _ (by repeat (first|exact HK.out|apply Kept.alloc|apply Kept.drewN|apply Kept.drew|refine Kept.setCell ?_ (.inr GW567.out) _|refine Kept.setCell ?_ (.inr GW567.out) _))) x8_1 (of_eq_true p564) (of_eq_true q564)),(foot_T74_1 (HR2.out _ (by repeat (first|exact HK.out|apply Kept.alloc|apply Kept.drewN|apply Kept.drew|refine Kept.setCell ?_ (.inr GW567.out) _|refine Kept.setCell ?_ (.inr GW567.out) _))) x8_1 (of_eq_true p564) (of_eq_true q564))⟩ (fun hHeld=>?_)
  clear hK K
  refine done_ (done_of HT_.out (by kernel_rfl)) ?_
  try go_wp2
  have n0_:Aside0 (Kd.S (Kd.slice 74 k74) 91 ((w17.setCell ⟨gb567,0,none⟩ (.int .i64 t565)).setCell ⟨gb567,1,none⟩ (.int .i64 t566)) w0.heap.size (fun k_=>(P0_ k_\/w.heap.size<=k_)/\k_≠gb567) (.slice (some ad562) x0_1.length co14) x0_1):=⟨by (with_reducible repeat (first|apply Kd.S_alloc|apply Kd.S_drewN|apply Kd.S_drew));exact Kd.S_mono (Kd.S_far (p:=⟨gb567,1,none⟩) (Kd.S_far (p:=⟨gb567,0,none⟩) (Kd.S_mono HO_0.out (fun k_ hk=>(⟨hk,hk.2⟩:_/\k_≠gb567))) (fun _ hk=>hk.2) (.int .i64 t565)) (fun _ hk=>hk.2) (.int .i64 t566)) (fun _ hk=>⟨hk.1.1,hk.1.2⟩)⟩
  have n1_:Aside0 (Kd.R k74 74 ((w17.setCell ⟨gb567,0,none⟩ (.int .i64 t565)).setCell ⟨gb567,1,none⟩ (.int .i64 t566)) w0.heap.size (fun k_=>(P0_ k_\/w.heap.size<=k_)/\some k_≠(.slice (some ad562) x0_1.length co14:Value).ownBlock/\k_≠gb567) (.slice (some ad563) (rd_L9 x0_1 a1).length c562_0) (rd_L9 x0_1 a1)):=⟨by (with_reducible repeat (first|apply Kd.R_alloc|apply Kd.R_drewN|apply Kd.R_drew));exact Kd.R_mono (Kd.R_far (p:=⟨gb567,1,none⟩) (Kd.R_far (p:=⟨gb567,0,none⟩) (Kd.R_mono HL562_0.out (fun k_ hk=>(⟨hk,hk.2.2⟩:_/\k_≠gb567))) (fun _ hk=>hk.2) (.int .i64 t565)) (fun _ hk=>hk.2) (.int .i64 t566)) (fun _ hk=>⟨hk.1.1,⟨hk.1.2.1,hk.1.2.2⟩⟩)⟩
  have n2_:Aside0 (((w17.setCell ⟨gb567,0,none⟩ (.int .i64 t565)).setCell ⟨gb567,1,none⟩ (.int .i64 t566)).heap[gb567]?=some (.cells #[.int .i64 t565,.int .i64 t566] 74 (0,0))):=⟨qF BK567⟩
  have n3_:Aside0 (Kept w ((w17.setCell ⟨gb567,0,none⟩ (.int .i64 t565)).setCell ⟨gb567,1,none⟩ (.int .i64 t566)) (fun k_=>P0_ k_)):=⟨by repeat (first|(with_reducible first|exact HK.out|apply Kept.alloc|apply Kept.drewN|apply Kept.drew|refine Kept.setCell ?_ (.inr GW567.out) _)|exact HK.out)⟩
  have n4_:Aside0 (Below w0.heap.size w0 ((w17.setCell ⟨gb567,0,none⟩ (.int .i64 t565)).setCell ⟨gb567,1,none⟩ (.int .i64 t566))):=⟨qB⟩
  (try clear HO_0)
  (try clear HL562_0)
  (try clear BK567)
  (try clear HK)
  (try clear HB)
  generalize ((w17.setCell ⟨gb567,0,none⟩ (.int .i64 t565)).setCell ⟨gb567,1,none⟩ (.int .i64 t566))=w20 at n0_ n1_ n2_ n3_ n4_ ⊢
  have HO_0:=n0_
  have HL562_0:=n1_
  have BK567:=n2_
  have HK:=n3_
  have HB:=n4_
  clear n0_ n1_ n2_ n3_ n4_
  replace HO_0:=aM (Kd.S_drew HO_0.out)
  replace HL562_0:=aM (Kd.R_drew HL562_0.out)
  replace BK567:=aM (blk_drew BK567.out)
  replace HK:=aM (Kept.drew HK.out)
  replace HB:=aM (below_drew1 HB.out)
  have p568:0<=(a1:Int):=qD
  have q568:a1 < (x0_1.length:Int):=qD
  obtain⟨ad568,A568_0,c568_0,e568,hx568_0,hl568_0,hi568_0⟩:=at_L9 (Kd.S_reads' HO_0.out).2.2 a1 p568 q568
  obtain rfl:ad562=ad568:=(by injection e568)
  obtain⟨ce568,hce568,hMe568,hcc568⟩:=Kd.S_get HO_0.out [] a1 p568 (by first|exact q568|exact qD|(have e_:=(Kd.S_reads' HO_0.out).1;omega))
  obtain⟨ve568_0,rfl,ge568_0⟩:=hMe568
  have hv568_0:=hcc568 0 _ rfl
  rw [Nat.add_zero,show ((Kd.slice 74 k74)).sz=1 from rfl,Nat.mul_one] at hv568_0
  replace hv568_0:=Option.some.inj (hv568_0.symm.trans hx568_0)
  rw [hv568_0] at ge568_0
  have HL568_0:=aM (show Kd.R k74 74 _ _ _ _ (rd_L9 x0_1 a1) from ge568_0)
  clear hv568_0 ge568_0
  have HX568_0:=aM hx568_0
  clear hcc568 hce568
  have HR568_0:=aM hi568_0
  have HC568_0:=aM hl568_0
  clear hi568_0 hl568_0
  replace p568:=eq_true p568
  replace q568:=eq_true q568
  have p569:0<=(x8_1:Int):=qD
  have q569:x8_1 < ((rd_L9 x0_1 a1).length:Int):=qD
  obtain⟨ad569,e569,hx569_0,hx569_1⟩:=at_T74 (kC HR568_0.out) x8_1 p569 q569
  cases e569
  replace p569:=eq_true p569
  replace q569:=eq_true q569
  refine start_ (n:=9) (S:=fun w'=>w'.cell? ⟨gb567,0,none⟩=some (.int .i64 t565)/\w'.cell? ⟨gb567,1,none⟩=some (.int .i64 t566)/\w'.cell? (ad562.add (a1).toNat)=some (.slice (some ad569) (rd_L9 x0_1 a1).length c568_0)/\w'.cell? (ad569.add ((x8_1).toNat*2))=some (.int .i64 ((rd_T74 (rd_L9 x0_1 a1) x8_1).f0))/\w'.cell? ⟨(ad569.add ((x8_1).toNat*2)).block,(ad569.add ((x8_1).toNat*2)).off+1,none⟩=some (.int .i64 ((rd_T74 (rd_L9 x0_1 a1) x8_1).f1))) (ds:=[]) (jb 9 0) (by kernel_rfl) rfl rfl ⟨(blk_cell BK567.out 0).trans rfl,(blk_cell BK567.out 1).trans rfl,hx568_0,hx569_0,hx569_1⟩ (fun hHeld=>?_);refine with_tabW Sl33Carry.tab6 Sl33Carry.bits6 (fun HT_ HW_=>?_)
  generalize w20.drew=w21 at HO_0 HL562_0 BK567 HK HB HL568_0 HR568_0 HX568_0 hx568_0 hx569_0 hx569_1 hHeld ⊢
  refine jp 1 27 (jb 9 2) ?_
  refine jp 2 28 (jb 9 6) ?_
  refine jp 3 29 (jb 9 14) ?_
  refine jp 5 31 (jb 9 46) ?_
  refine jt 0 26 (jb 9 47) ?_
  refine jt 4 30 (jb 9 63) ?_
  refine jp 6 32 (jb 9 127) ?_
  refine jt 7 33 (jb 9 255) ?_
  have H:=HXc11.out;clear HXc11
  by_cases c11:(!(t565 == ((rd_T74 (rd_L9 x0_1 a1) x8_1).f0)) || (!(t566 == ((rd_T74 (rd_L9 x0_1 a1) x8_1).f1))))=true
  ·rw [if_pos c11] at H
   have c11b0:(!(t565 == ((rd_T74 (rd_L9 x0_1 a1) x8_1).f0)) || (!(t566 == ((rd_T74 (rd_L9 x0_1 a1) x8_1).f1))))=true:=c11
   clear c11
   obtain⟨y571,Ny571⟩:=ky (((rd_L9 x0_1 a1).set (x8_1:Int).toNat (⟨t565,t566⟩:S74)):List (S74))
   first|replace H:=kz Ny571 H|rw [<- Ny571.out] at H
   obtain⟨y573,Ny573⟩:=ky ((x0_1.set (a1:Int).toNat y571):List (List (S74)))
   first|replace H:=kz Ny573 H|rw [<- Ny573.out] at H
   have H':=aM H
   clear H
   refine jp 8 34 (jb 9 511) ?_
   refine done_ (done_of HT_.out (by kernel_rfl)) ?_
   try go_wp2
   replace HO_0:=aM (Kd.S_drew HO_0.out)
   replace HL562_0:=aM (Kd.R_drew HL562_0.out)
   replace HL568_0:=aM (Kd.R_drew HL568_0.out)
   replace BK567:=aM (blk_drew BK567.out)
   replace HR568_0:=aM (Kd.C_drew HR568_0.out)
   replace HK:=aM (Kept.drew HK.out)
   replace HB:=aM (below_drew1 HB.out)
   have p570:0<=(a1:Int):=qD
   have q570:a1 < (x0_1.length:Int):=qD
   obtain⟨ad570,A570_0,c570_0,e570,hx570_0,hl570_0,hi570_0⟩:=at_L9 (Kd.S_reads' HO_0.out).2.2 a1 p570 q570
   obtain rfl:ad562=ad570:=(by injection e570)
   obtain⟨ce570,hce570,hMe570,hcc570⟩:=Kd.S_get HO_0.out [] a1 p570 (by first|exact q570|exact qD|(have e_:=(Kd.S_reads' HO_0.out).1;omega))
   obtain⟨ve570_0,rfl,ge570_0⟩:=hMe570
   have hv570_0:=hcc570 0 _ rfl
   rw [Nat.add_zero,show ((Kd.slice 74 k74)).sz=1 from rfl,Nat.mul_one] at hv570_0
   replace hv570_0:=Option.some.inj (hv570_0.symm.trans hx570_0)
   rw [hv570_0] at ge570_0
   have HL570_0:=aM (show Kd.R k74 74 _ _ _ _ (rd_L9 x0_1 a1) from ge570_0)
   clear hv570_0 ge570_0
   have HX570_0:=aM hx570_0
   clear hcc570 hce570
   have HR570_0:=aM hi570_0
   have HC570_0:=aM hl570_0
   clear hi570_0 hl570_0
   replace p570:=eq_true p570
   replace q570:=eq_true q570
   have p12:0<=(x8_1:Int):=qD
   have q12:(x8_1:Int) < (((rd_L9 x0_1 a1).length:Int):Int):=qD
   obtain⟨go12,co12,eo12,gb12,gl12,cl12,HG12⟩:=Kd.R_form HL570_0.out (by omega)
   (first|cases eo12|(injection eo12 with ea_ en_ ec_;(first|subst ea_|(injection ea_ with ea_;subst ea_));subst ec_;clear en_))
   have GB12:=aM gb12
   have GG12:=aM HG12
   clear gb12 gl12 HG12
   have HMgo12:=aM (show (P0_ go12\/w.heap.size<=go12) from (HL570_0.out.1 _ rfl).1.1)
   obtain⟨ce12,hcl12,hM12,hcc12,hfr12⟩:=Kd.R_elem HL570_0.out z74 (x8_1:Int) p12 q12
   obtain rfl:=k74_openM hM12
   have hx12_0:World.cell? _ ⟨go12,(x8_1:Int).toNat*2,none⟩=some (.int .i64 ((rd_T74 (rd_L9 x0_1 a1) x8_1).f0)):=hcc12 0 _ rfl
   have hx12_1:World.cell? _ ⟨go12,(x8_1:Int).toNat*2+1,none⟩=some (.int .i64 ((rd_T74 (rd_L9 x0_1 a1) x8_1).f1)):=hcc12 1 _ rfl
   have hf12_0:World.frozen? _ ⟨go12,(x8_1:Int).toNat*2,none⟩=false:=hfr12 0
   have hf12_1:World.frozen? _ ⟨go12,(x8_1:Int).toNat*2+1,none⟩=false:=hfr12 1
   clear hcl12 hcc12 hfr12;(try clear hM12)
   replace p12:=eq_true p12
   replace q12:=eq_true q12
   have hq23:(a1:Int) < (x0_1.length:Int):=(by have h_:(a1:Int) < ((x0_1.length:Int):Int):=qD;first|exact h_|(have e_:=(Kd.S_reads' HO_0.out).1;omega)|simpa only [List.length_set,List.length_set] using h_)
   obtain⟨oki23,ce23,hcl23,hM23,hcc23,hok23,hbk23⟩:=Kd.S_borrow HO_0.out [] (a1:Int) (qD) hq23
   obtain⟨ve23_0,rfl,ge23_0⟩:=hM23
   have hv23:=hcc23 0 _ rfl
   rw [Nat.add_zero,show ((Kd.slice 74 k74)).sz=1 from rfl,Nat.mul_one] at hv23
   replace hv23:=Option.some.inj (hv23.symm.trans HX570_0.out)
   subst hv23
   clear hcc23 hcl23
   replace ge23_0:=(show Kd.R k74 74 _ _ _ _ (rd_L9 x0_1 a1) from ge23_0)
   obtain⟨cf23,hcl23,hN23,hcc23,hfr23⟩:=Kd.R_elem ge23_0 z74 (x8_1:Int) (qD) (by have h_:(x8_1:Int) < (((rd_L9 x0_1 a1).length:Int):Int):=qD;first|exact h_|(have e_:=(Kd.R_reads' HR570_0.out).1;omega)|simpa using h_)
   obtain rfl:=k74_openM hN23
   have HP23:=Kd.R_seg ge23_0 (x8_1:Int) (qD) (by have h_:(x8_1:Int) < (((rd_L9 x0_1 a1).length:Int):Int):=qD;first|exact h_|(have e_:=(Kd.R_reads' HR570_0.out).1;omega)|simpa using h_) (seg:=[.int .i64 t565,.int .i64 t566]) (j:=0) hcl23 hcc23 (show 2<=2 from by decide) (x':=(⟨t565,t566⟩:S74)) (k74_mkM _ _ _ (⟨t565,t566⟩:S74)) (fun _ hk=>hk)
   clear hcl23 hcc23 hfr23 hN23
   rw [<- Ny571.out] at HP23
   have HS23:=hbk23 HP23.2 (fun k_ e_=>by injection e_ with e_;subst e_;exact ge23_0.1 _ rfl) (x':=y571) (Kd.M_row HP23.1)
   rw [<- Ny573.out] at HS23
   have HQ23:=aM HS23
   clear HP23 HS23 hbk23 hok23
   refine start_ (n:=8) (S:=fun w'=>w'.cell? ⟨gb567,0,none⟩=some (.int .i64 t565)/\w'.cell? ⟨gb567,1,none⟩=some (.int .i64 t566)/\w'.cell? (ad562.add (a1).toNat)=some (.slice (some ⟨go12,0,none⟩) (rd_L9 x0_1 a1).length c570_0)) (ds:=[7]) (jb 8 0) (by kernel_rfl) rfl rfl ⟨(blk_cell BK567.out 0).trans rfl,(blk_cell BK567.out 1).trans rfl,hx570_0⟩ (fun hHeld=>?_);refine with_tabW Sl33Carry.tab7 Sl33Carry.bits7 (fun HT_ HW_=>?_)
   generalize w21.drew=w22 at HO_0 HL562_0 HL568_0 BK567 HR568_0 HK HB GG12 HL570_0 HQ23 HR570_0 HX570_0 hf12_0 hf12_1 hx12_0 hx12_1 hx570_0 hHeld ⊢
   refine jp 0 35 (jb 8 1) ?_
   refine jp 1 36 (jb 8 3) ?_
   refine jp 2 37 (jb 8 7) ?_
   refine jp 4 39 (jb 8 23) ?_
   refine jt 3 38 (jb 8 31) ?_
   refine jt 5 40 (jb 8 63) ?_
   refine jp 6 41 (jb 8 127) ?_
   refine last_ (i:=7) (N:=none) (jb 8 255) rfl rfl (one_of HT_.out (by kernel_rfl)) (by decide) (fun K hK=>?_)
   refine skip_ (w1:=?_) (by rfl) rfl ?_ ?_
   rotate_left
   ·go_simp
    rfl
   refine hK.out _ _ ?_
   clear hK K
   refine done_ (done_of HT_.out (by kernel_rfl)) ?_
   try go_wp2
   go_roundg k1
   case measure=>have:=HK1.out;omega
   exact⟨(y573),(true),(wrap64 (x8_1+1)),qZ,qZ,H',⟨by have:=HK1.out;omega⟩,⟨by (with_reducible repeat (first|apply Kd.S_alloc|apply Kd.S_drewN|apply Kd.S_drew));exact Kd.S_mono HQ23.out (fun _ hk=>hk.1)⟩,⟨by repeat (first|(with_reducible first|exact HK.out|apply Kept.alloc|apply Kept.drewN|apply Kept.drew|refine Kept.setCell ?_ HMgo12.out _|refine Kept.setCell ?_ HMgo12.out _|refine Kept.setCell ?_ (.inr GW567.out) _)|exact HK.out)⟩,⟨by repeat (first|(with_reducible first|exact HB.out|apply below_alloc|apply pw_below_drewN|apply below_drew1|refine below_set ?_ GB12.out|refine below_set ?_ GB12.out|refine below_set ?_ GE567.out)|exact HB.out)⟩⟩
  rw [if_neg c11] at H
  have c11b0:(!(t565 == ((rd_T74 (rd_L9 x0_1 a1) x8_1).f0)) || (!(t566 == ((rd_T74 (rd_L9 x0_1 a1) x8_1).f1))))=false:=by simpa using c11
  clear c11
  have H':=aM H
  clear H
  refine jp 8 34 (jb 9 511) ?_
  refine done_ (done_of HT_.out (by kernel_rfl)) ?_
  try go_wp2
  go_roundg k1
  case measure=>have:=HK1.out;omega
  exact⟨(x0_1),(x7_1),(wrap64 (x8_1+1)),qZ,qZ,H',⟨by have:=HK1.out;omega⟩,⟨by (with_reducible repeat (first|apply Kd.S_alloc|apply Kd.S_drewN|apply Kd.S_drew));exact Kd.S_mono HO_0.out (fun _ hk=>hk.1)⟩,⟨by repeat (first|(with_reducible first|exact HK.out|apply Kept.alloc|apply Kept.drewN|apply Kept.drew|refine Kept.setCell ?_ (.inr GW567.out) _)|exact HK.out)⟩,⟨qB⟩⟩
 simp only [Option.some.injEq,Prod.mk.injEq] at H
 obtain⟨rfl,rfl⟩:=H
 go_wp2
 go_ret
 exact⟨qW,qS HO_0,qB,qT⟩
mutual
def Sl33Round.l0:Nat->List (S46)->List (List (S74))->Bool->Int->Option (Bool × (List (List (S74))))
 | 0,_,_,_,_=>none
 | k+1,x0,x1,x5,x6=>if x6 < (x0.length:Int) then (if 0<=x6 then (if x6 < (x1.length:Int) then (if 0 < ((rd_L9 x1 x6).length:Int) then (if ((rd_T74 (rd_L9 x1 x6) 0).f0)=0 then (Sl33Round.l0 k x0 x1 x5 (wrap64 (x6+1))) else ((Sl33Edges.f k x0 (rd_L9 x1 x6) x6).bind fun t577=>((Sl33After.f k ((rd_T46 x0 x6).f0) ((rd_T46 x0 x6).f1) ((rd_T46 x0 x6).f2) ((rd_T46 x0 x6).f3) ((rd_T46 x0 x6).f4) (rd_L9 x1 x6)).bind fun t582=>(Sl33Round.l1 k x0 x1 x5 x6 t577 t582 0)))) else (none)) else (none)) else (none)) else (some (x5,x1))
def Sl33Round.l1:Nat->List (S46)->List (List (S74))->Bool->Int->List Int->List (S74)->Int->Option (Bool × (List (List (S74))))
 | 0,_,_,_,_,_,_,_=>none
 | k+1,x0,x1,x5,x6,x7,x8,x9=>if x9 < (x7.length:Int) then (if 0<=x9 then ((Sl33Carry.f k x1 (rd x7 x9) x8).bind fun bt586=>(if bt586.1=true then (Sl33Round.l1 k x0 bt586.2 true x6 x7 x8 (wrap64 (x9+1))) else (Sl33Round.l1 k x0 bt586.2 x5 x6 x7 x8 (wrap64 (x9+1))))) else (none)) else (Sl33Round.l0 k x0 x1 x5 (wrap64 (x6+1)))
end
def Sl33Round.f (k:Nat) (l0:List (S46)) (l1:List (List (S74))):Option (Bool × (List (List (S74)))):=Sl33Round.l0 k l0 l1 false 0
theorem Sl33Round.mono_l:∀ k,(∀ y0 y1 y2 y3,LeO (Sl33Round.l0 k y0 y1 y2 y3) (Sl33Round.l0 (k+1) y0 y1 y2 y3))/\(∀ y0 y1 y2 y3 y4 y5 y6,LeO (Sl33Round.l1 k y0 y1 y2 y3 y4 y5 y6) (Sl33Round.l1 (k+1) y0 y1 y2 y3 y4 y5 y6))
 | 0=>⟨fun _ _ _ _ r h=>by simp [Sl33Round.l0] at h,fun _ _ _ _ _ _ _ r h=>by simp [Sl33Round.l1] at h⟩
 | k+1=>by
  obtain⟨ih0,ih1⟩:=Sl33Round.mono_l k;have m0:=@Sl33After.mono;have m1:=@Sl33Carry.mono;have m2:=@Sl33Edges.mono
  exact⟨by intros;unfold Sl33Round.l0;exact mM,by intros;unfold Sl33Round.l1;exact mM⟩
theorem Sl33Round.mono:∀ a0 a1 k,LeO (Sl33Round.f k a0 a1) (Sl33Round.f (k+1) a0 a1):=by
 intro a0 a1 k;obtain⟨ih0,ih1⟩:=Sl33Round.mono_l k;unfold Sl33Round.f;have m0:=@Sl33After.mono;have m1:=@Sl33Carry.mono;have m2:=@Sl33Edges.mono;exact mM
def Sl33Round.T7:Bool × List (List Nat × List Nat):=(true,[([],[]),([],[]),([0,1],[0,1]),([2],[2]),([],[]),([],[]),([4,5],[4,5]),([6],[6]),([3,7],[3,7]),([8,8,0,1,2,3,4,5,6,7,8],[8])])
def Sl33Round.B7:List Nat:=[0,0,3,7,0,0,48,112,255,511]
theorem Sl33Round.tab7:rtab .any (opsOf Try.f104 7)=Sl33Round.T7:=by kernel_rfl
theorem Sl33Round.bits7:waitsOk Sl33Round.T7.2 Sl33Round.B7=true:=by kernel_rfl
theorem Sl33Round.calls (k:Nat) (A0:Option Addr) (c0:Nat) (l0:List (S46)) (P1_:Nat->Prop) (u9000_:Value) (l1:List (List (S74))) (r1:Bool) (r2:List (List (S74))) (w0 w:World) (hB:Below w0.heap.size w0 w) (hr0:∀ W_,Kept w W_ (fun k_=>P1_ k_)->Kd.C k46 W_ A0 l0.length l0) (hc0:l0.length<=c0) (ho1:Kd.S (Kd.slice 74 k74) 91 w w0.heap.size P1_ u9000_ l1) (h:Sl33Round.f k l0 l1=some (r1,r2)) :
  Calls Try.prog 104 #[.slice A0 l0.length c0,u9000_] w fun e w'=>e = .returned (.bool r1)/\Kd.S (Kd.slice 74 k74) 91 w' w0.heap.size (fun k_=>(P1_ k_\/w.heap.size<=k_)) u9000_ r2/\Below w0.heap.size w0 w'/\Kept w w' (fun k_=>P1_ k_):=by
 have hu46:=Try.underlying46
 have HR0:=aM hr0
 have HC0:=aM hc0
 clear hr0 hc0
 have HO1:=aM (show Kd.S (Kd.slice 74 k74) 91 w w0.heap.size (fun k_=>(P1_ k_\/w.heap.size<=k_)) u9000_ l1 from Kd.S_mono ho1 (fun k_ hk=>(.inl hk)))
 have HK:=aM (Kept.refl w (fun k_=>P1_ k_))
 have HW0:=aM hB.size
 have HB:=aM hB
 clear hB
 have H:(Sl33Round.l0 k l0 l1 false 0)=some (r1,r2):=h
 clear h
 have H':=aM H
 clear H
 go_enter Try.func104,Try.ntmps104
 go_wp2
 go_loopg [5,6] k (fun kq v5 v6 w'=>∃ (x1_1:List (List (S74))) (x5_1:Bool) (x6_1:Int),v5 = .bool x5_1/\v6 = .int .i64 x6_1/\Aside0 (Sl33Round.l0 kq l0 x1_1 x5_1 x6_1=some (r1,r2))/\Aside0 (kq<=k)/\Aside0 (Kd.S (Kd.slice 74 k74) 91 w' w0.heap.size (fun k_=>(P1_ k_\/w.heap.size<=k_)) u9000_ x1_1)/\Aside0 (Kept w w' (fun k_=>P1_ k_))/\Aside0 (Below w0.heap.size w0 w'))
 case atStart=>exact⟨(l1),(false),(0),qZ,qZ,H',⟨Nat.le_refl _⟩,⟨qS HO1⟩,⟨qT⟩,⟨qB⟩⟩
 clear H'
 obtain⟨x1_1,x5_1,x6_1,rfl,rfl,HA,HK1,HO_1,HK,HB⟩:=hrel
 rcases gk with _|k1
 ·exact absurd HA.out (by simp [Sl33Round.l0])
 have H:=HA.out
 clear HA
 simp only [Sl33Round.l0] at H
 replace H:=jD H;rcases H with ⟨c3b0,H⟩ | ⟨c3b0,H⟩
 ·replace H:=jI H;obtain⟨c4b0,H⟩:=H
  replace H:=jI H;obtain⟨c5b0,H⟩:=H
  replace H:=jU H;obtain⟨c6,H⟩:=H
  have c6b0:=decide_eq_true c6
  have c6b1:decide (0 < (rd_L9 x1_1 x6_1).length)=true:=decide_eq_true (by omega)
  clear c6
  replace H:=jE H;rcases H with ⟨c7b0,c7b1,H⟩ | ⟨c7,c7b0,c7b1,H⟩
  ·have H':=aM H
   clear H
   obtain⟨Ao8,co8,eo8⟩:=Kd.S_slice HO_1.out
   subst eo8
   have p574:0<=(x6_1:Int):=qD
   have q574:x6_1 < (x1_1.length:Int):=qD
   obtain⟨ad574,A574_0,c574_0,e574,hx574_0,hl574_0,hi574_0⟩:=at_L9 (Kd.S_reads' HO_1.out).2.2 x6_1 p574 q574
   cases e574
   obtain⟨ce574,hce574,hMe574,hcc574⟩:=Kd.S_get HO_1.out [] x6_1 p574 (by first|exact q574|exact qD|(have e_:=(Kd.S_reads' HO_1.out).1;omega))
   obtain⟨ve574_0,rfl,ge574_0⟩:=hMe574
   have hv574_0:=hcc574 0 _ rfl
   rw [Nat.add_zero,show ((Kd.slice 74 k74)).sz=1 from rfl,Nat.mul_one] at hv574_0
   replace hv574_0:=Option.some.inj (hv574_0.symm.trans hx574_0)
   rw [hv574_0] at ge574_0
   have HL574_0:=aM (show Kd.R k74 74 _ _ _ _ (rd_L9 x1_1 x6_1) from ge574_0)
   clear hv574_0 ge574_0
   clear hcc574 hce574
   have HR574_0:=aM hi574_0
   have HC574_0:=aM hl574_0
   clear hi574_0 hl574_0
   replace p574:=eq_true p574
   replace q574:=eq_true q574
   have p575:0<=(0:Int):=(by omega)
   have q575:0 < ((rd_L9 x1_1 x6_1).length:Int):=qD
   obtain⟨ad575,e575,hx575_0,hx575_1⟩:=at_T74 (kC HR574_0.out) 0 p575 q575
   cases e575
   have qi575:(0 < (rd_L9 x1_1 x6_1).length)=True:=eq_true (by omega)
   (try rw [show ((0:Int)).toNat=0 from rfl] at hx575_0)
   (try rw [show 0*2=0 from rfl] at hx575_0)
   (try rw [Addr.add_zero'] at hx575_0)
   (try rw [show ((0:Int)).toNat=0 from rfl] at hx575_1)
   (try rw [show 0*2=0 from rfl] at hx575_1)
   (try rw [Addr.add_zero'] at hx575_1)
   replace p575:=eq_true p575
   replace q575:=eq_true q575
   go_wp2
   go_roundg k1
   case measure=>have:=HK1.out;omega
   exact⟨(x1_1),(x5_1),(wrap64 (x6_1+1)),qZ,qZ,H',⟨by have:=HK1.out;omega⟩,⟨qS HO_1⟩,⟨qT⟩,⟨qB⟩⟩
  obtain⟨t577,A9,H⟩:=qE H
  try dsimp only at H
  obtain⟨t582,A10,H⟩:=qE H
  try dsimp only at H
  have H':=aM H
  clear H
  obtain⟨Ao11,co11,eo11⟩:=Kd.S_slice HO_1.out
  subst eo11
  have p574:0<=(x6_1:Int):=qD
  have q574:x6_1 < (x1_1.length:Int):=qD
  obtain⟨ad574,A574_0,c574_0,e574,hx574_0,hl574_0,hi574_0⟩:=at_L9 (Kd.S_reads' HO_1.out).2.2 x6_1 p574 q574
  cases e574
  obtain⟨ce574,hce574,hMe574,hcc574⟩:=Kd.S_get HO_1.out [] x6_1 p574 (by first|exact q574|exact qD|(have e_:=(Kd.S_reads' HO_1.out).1;omega))
  obtain⟨ve574_0,rfl,ge574_0⟩:=hMe574
  have hv574_0:=hcc574 0 _ rfl
  rw [Nat.add_zero,show ((Kd.slice 74 k74)).sz=1 from rfl,Nat.mul_one] at hv574_0
  replace hv574_0:=Option.some.inj (hv574_0.symm.trans hx574_0)
  rw [hv574_0] at ge574_0
  have HL574_0:=aM (show Kd.R k74 74 _ _ _ _ (rd_L9 x1_1 x6_1) from ge574_0)
  clear hv574_0 ge574_0
  clear hcc574 hce574
  have HR574_0:=aM hi574_0
  have HC574_0:=aM hl574_0
  clear hi574_0 hl574_0
  replace p574:=eq_true p574
  replace q574:=eq_true q574
  have p575:0<=(0:Int):=(by omega)
  have q575:0 < ((rd_L9 x1_1 x6_1).length:Int):=qD
  obtain⟨ad575,e575,hx575_0,hx575_1⟩:=at_T74 (kC HR574_0.out) 0 p575 q575
  cases e575
  have qi575:(0 < (rd_L9 x1_1 x6_1).length)=True:=eq_true (by omega)
  (try rw [show ((0:Int)).toNat=0 from rfl] at hx575_0)
  (try rw [show 0*2=0 from rfl] at hx575_0)
  (try rw [Addr.add_zero'] at hx575_0)
  (try rw [show ((0:Int)).toNat=0 from rfl] at hx575_1)
  (try rw [show 0*2=0 from rfl] at hx575_1)
  (try rw [Addr.add_zero'] at hx575_1)
  replace p575:=eq_true p575
  replace q575:=eq_true q575
  have p576:0<=(x6_1:Int):=qD
  have q576:x6_1 < (x1_1.length:Int):=qD
  obtain⟨ad576,A576_0,c576_0,e576,hx576_0,hl576_0,hi576_0⟩:=at_L9 (Kd.S_reads' HO_1.out).2.2 x6_1 p576 q576
  obtain rfl:ad574=ad576:=(by injection e576)
  obtain⟨ce576,hce576,hMe576,hcc576⟩:=Kd.S_get HO_1.out [] x6_1 p576 (by first|exact q576|exact qD|(have e_:=(Kd.S_reads' HO_1.out).1;omega))
  obtain⟨ve576_0,rfl,ge576_0⟩:=hMe576
  have hv576_0:=hcc576 0 _ rfl
  rw [Nat.add_zero,show ((Kd.slice 74 k74)).sz=1 from rfl,Nat.mul_one] at hv576_0
  replace hv576_0:=Option.some.inj (hv576_0.symm.trans hx576_0)
  rw [hv576_0] at ge576_0
  have HL576_0:=aM (show Kd.R k74 74 _ _ _ _ (rd_L9 x1_1 x6_1) from ge576_0)
  clear hv576_0 ge576_0
  clear hcc576 hce576
  have HR576_0:=aM hi576_0
  have HC576_0:=aM hl576_0
  clear hi576_0 hl576_0
  replace p576:=eq_true p576
  replace q576:=eq_true q576
  have ea_:=Option.some.inj (hx574_0.symm.trans hx576_0)
  injection ea_ with ea_ en_ ec_
  subst ea_
  subst ec_
  clear en_
  try go_wp2_with (first|((with_reducible refine jc 112 30 rfl rfl ?_);refine jG Try.func112 #[.slice A0 l0.length c0,.slice (some ad575) (rd_L9 x1_1 x6_1).length c574_0,.int .i64 x6_1] ?_;(with_reducible refine (Sl33Edges.calls k1 _ _ l0 _ _ (rd_L9 x1_1 x6_1) x6_1 t577 _ ?side1 ?side2 ?side3 ?side4 A9.out).mono ?_);(case side1=>exact Kd.C_kept_now HR0.out qT);(case side2=>exact HC0.out);(case side3=>repeat (first|exact (kC HR576_0.out)|(with_reducible refine Kd.C_alloc ?_ _)|(with_reducible refine Kd.C_drewN ?_ _)|(with_reducible refine Kd.C_drew ?_)));(case side4=>exact HC576_0.out);rintro e w12 ⟨v578,rfl,ho0,hb⟩;refine⟨_,rfl,?_⟩;have HO579:=aM (Kd.R_lower (Kd.R_newM (M:=fun k_=>(P1_ k_\/w.heap.size<=k_)) ho0 (by first|exact HK.out.1|exact (show Kept w _ (fun k_=>P1_ k_) from qT).1) (fun k_ h_=>.inr h_)) (below_size qB));replace HO_1:=kS HO_1 hb;replace HL574_0:=kR HL574_0 hb;replace HL576_0:=kR HL576_0 hb;replace HR574_0:=kQ HR574_0 hb;replace HR576_0:=kQ HR576_0 hb;replace HK:=kT hb;replace HB:=kH hb;clear hb;(try clear ho0)))
  replace HO_1:=aM (Kd.S_drew HO_1.out)
  replace HL574_0:=aM (Kd.R_drew HL574_0.out)
  replace HL576_0:=aM (Kd.R_drew HL576_0.out)
  replace HO579:=aM (Kd.R_drew HO579.out)
  replace HR574_0:=aM (Kd.C_drew HR574_0.out)
  replace HR576_0:=aM (Kd.C_drew HR576_0.out)
  replace HK:=aM (Kept.drew HK.out)
  replace HB:=aM (below_drew1 HB.out)
  have p580:0<=(x6_1:Int):=qD
  have q580:x6_1 < (l0.length:Int):=qD
  obtain⟨ad580,e580,hx580_0,hx580_1,hx580_2,hx580_3,hx580_4⟩:=at_T46 (Kd.C_kept_now HR0.out HK.out) x6_1 p580 q580
  have hw580_4:=hx580_4
  have hw580_3:=hx580_3
  have hw580_2:=hx580_2
  have hw580_1:=hx580_1
  have hw580_0:=hx580_0
  cases e580
  replace p580:=eq_true p580
  replace q580:=eq_true q580
  have p581:0<=(x6_1:Int):=qD
  have q581:x6_1 < (x1_1.length:Int):=qD
  obtain⟨ad581,A581_0,c581_0,e581,hx581_0,hl581_0,hi581_0⟩:=at_L9 (Kd.S_reads' HO_1.out).2.2 x6_1 p581 q581
  obtain rfl:ad574=ad581:=(by injection e581)
  obtain⟨ce581,hce581,hMe581,hcc581⟩:=Kd.S_get HO_1.out [] x6_1 p581 (by first|exact q581|exact qD|(have e_:=(Kd.S_reads' HO_1.out).1;omega))
  obtain⟨ve581_0,rfl,ge581_0⟩:=hMe581
  have hv581_0:=hcc581 0 _ rfl
  rw [Nat.add_zero,show ((Kd.slice 74 k74)).sz=1 from rfl,Nat.mul_one] at hv581_0
  replace hv581_0:=Option.some.inj (hv581_0.symm.trans hx581_0)
  rw [hv581_0] at ge581_0
  have HL581_0:=aM (show Kd.R k74 74 _ _ _ _ (rd_L9 x1_1 x6_1) from ge581_0)
  clear hv581_0 ge581_0
  clear hcc581 hce581
  have HR581_0:=aM hi581_0
  have HC581_0:=aM hl581_0
  clear hi581_0 hl581_0
  replace p581:=eq_true p581
  replace q581:=eq_true q581
  refine start_ (n:=10) (S:=fun w'=>w'.cell? (ad580.add ((x6_1).toNat*5))=some (.int .i64 ((rd_T46 l0 x6_1).f0))/\w'.cell? ⟨(ad580.add ((x6_1).toNat*5)).block,(ad580.add ((x6_1).toNat*5)).off+1,none⟩=some (.int .i64 ((rd_T46 l0 x6_1).f1))/\w'.cell? ⟨(ad580.add ((x6_1).toNat*5)).block,(ad580.add ((x6_1).toNat*5)).off+2,none⟩=some (.int .i64 ((rd_T46 l0 x6_1).f2))/\w'.cell? ⟨(ad580.add ((x6_1).toNat*5)).block,(ad580.add ((x6_1).toNat*5)).off+3,none⟩=some (.int .i64 ((rd_T46 l0 x6_1).f3))/\w'.cell? ⟨(ad580.add ((x6_1).toNat*5)).block,(ad580.add ((x6_1).toNat*5)).off+4,none⟩=some (.int .i64 ((rd_T46 l0 x6_1).f4))/\w'.cell? (ad574.add (x6_1).toNat)=some (.slice A581_0 (rd_L9 x1_1 x6_1).length c581_0)) (ds:=[]) (jb 10 0) (by kernel_rfl) rfl rfl ⟨(foot_T46_0 (HR0.out _ (by repeat (first|exact HK.out|apply Kept.alloc|apply Kept.drewN|apply Kept.drew))) x6_1 (of_eq_true p580) (of_eq_true q580)),(foot_T46_1 (HR0.out _ (by repeat (first|exact HK.out|apply Kept.alloc|apply Kept.drewN|apply Kept.drew))) x6_1 (of_eq_true p580) (of_eq_true q580)),(foot_T46_2 (HR0.out _ (by repeat (first|exact HK.out|apply Kept.alloc|apply Kept.drewN|apply Kept.drew))) x6_1 (of_eq_true p580) (of_eq_true q580)),(foot_T46_3 (HR0.out _ (by repeat (first|exact HK.out|apply Kept.alloc|apply Kept.drewN|apply Kept.drew))) x6_1 (of_eq_true p580) (of_eq_true q580)),(foot_T46_4 (HR0.out _ (by repeat (first|exact HK.out|apply Kept.alloc|apply Kept.drewN|apply Kept.drew))) x6_1 (of_eq_true p580) (of_eq_true q580)),hx581_0⟩ (fun hHeld=>?_);refine with_tabW Sl33Round.tab7 Sl33Round.bits7 (fun HT_ HW_=>?_)
  generalize w12.drew=w13 at HO_1 HL574_0 HL576_0 HO579 HR574_0 HR576_0 HK HB HL581_0 HR581_0 hx580_0 hx580_1 hx580_2 hx580_3 hx580_4 hx581_0 hHeld ⊢
  refine jp 0 31 (jb 10 1) ?_
  refine jp 1 32 (jb 10 3) ?_
  refine jp 2 33 (jb 10 7) ?_
  refine jp 4 35 (jb 10 23) ?_
  refine jp 5 36 (jb 10 55) ?_
  refine jp 6 37 (jb 10 119) ?_
  refine jt 3 34 (jb 10 127) ?_
  refine jt 7 38 (jb 10 255) ?_
  refine one_ (i:=8) (N:=some 39) (jb 10 511) rfl rfl (one_of HT_.out (by kernel_rfl)) (by decide) (fun K hK=>?_)
  refine goes_ Try.func113 (by kernel_rfl) rfl #[.agg #[.int .i64 ((rd_T46 l0 x6_1).f0),.int .i64 ((rd_T46 l0 x6_1).f1),.int .i64 ((rd_T46 l0 x6_1).f2),.int .i64 ((rd_T46 l0 x6_1).f3),.int .i64 ((rd_T46 l0 x6_1).f4)],.slice A581_0 (rd_L9 x1_1 x6_1).length c581_0] (by rfl) rfl rfl qM ?_
  with_reducible refine (Sl33After.calls k1 ((rd_T46 l0 x6_1).f0) ((rd_T46 l0 x6_1).f1) ((rd_T46 l0 x6_1).f2) ((rd_T46 l0 x6_1).f3) ((rd_T46 l0 x6_1).f4) _ _ (rd_L9 x1_1 x6_1) t582 _ ?side1 ?side2 A10.out).mono ?_
  (case side1=>repeat (first|exact (kC HR581_0.out)|(with_reducible refine Kd.C_alloc ?_ _)|(with_reducible refine Kd.C_drewN ?_ _)|(with_reducible refine Kd.C_drew ?_)))
  (case side2=>exact HC581_0.out)
  rintro e w14 ⟨v583,rfl,ho0,hb⟩
  have HS5_:=(hb.cell (World.block_lt_of_cell? _ _ (hHeld.2.2.2.2.2))).trans (hHeld.2.2.2.2.2)
  refine⟨_,rfl,?_⟩
  have HO584:=aM (Kd.R_lower (Kd.R_new' (Kd.R_new' (Kd.R_new' (Kd.R_newM (M:=fun k_=>(P1_ k_\/w.heap.size<=k_)) ho0 (by first|exact HK.out.1|exact (show Kept w _ (fun k_=>P1_ k_) from qT).1) (fun k_ h_=>.inr h_)) (Kd.R_lt (qR HL574_0))) (Kd.R_lt (qR HL576_0))) (Kd.R_lt (qR HL581_0))) (below_size qB))
  replace HO_1:=aM (Kd.S_elder' (qS HO_1) (Kd.R_base ho0) hb)
  replace HL574_0:=kO HL574_0 ho0 hb
  replace HL576_0:=kO HL576_0 ho0 hb
  replace HO579:=kR HO579 hb
  replace HL581_0:=kO HL581_0 ho0 hb
  replace HR574_0:=kQ HR574_0 hb
  replace HR576_0:=kQ HR576_0 hb
  replace HR581_0:=kQ HR581_0 hb
  replace HK:=kT hb
  replace HB:=kH hb
  (try clear hb)
  (try clear hb2)
  (try clear hk)
  (try clear hi)
  (try clear ho0)
  refine hK.out _ _ ⟨(foot_T46_0 (HR0.out _ (by repeat (first|exact HK.out|apply Kept.alloc|apply Kept.drewN|apply Kept.drew))) x6_1 (of_eq_true p580) (of_eq_true q580)),(foot_T46_1 (HR0.out _ (by repeat (first|exact HK.out|apply Kept.alloc|apply Kept.drewN|apply Kept.drew))) x6_1 (of_eq_true p580) (of_eq_true q580)),(foot_T46_2 (HR0.out _ (by repeat (first|exact HK.out|apply Kept.alloc|apply Kept.drewN|apply Kept.drew))) x6_1 (of_eq_true p580) (of_eq_true q580)),(foot_T46_3 (HR0.out _ (by repeat (first|exact HK.out|apply Kept.alloc|apply Kept.drewN|apply Kept.drew))) x6_1 (of_eq_true p580) (of_eq_true q580)),(foot_T46_4 (HR0.out _ (by repeat (first|exact HK.out|apply Kept.alloc|apply Kept.drewN|apply Kept.drew))) x6_1 (of_eq_true p580) (of_eq_true q580)),HS5_⟩ (fun hHeld=>?_)
  clear hK K
  refine norm_ (a':=?_) ?_ ?_
  rotate_left
  ·show Act.put _ (some 39) _=_
   simp only [Act.put,List.setIfInBounds_toArray,List.set_cons_zero,List.set_cons_succ,i64_w,i32_w]
   rfl
  refine jp 9 8 (jb 10 1023) ?_
  refine done_ (done_of HT_.out (by kernel_rfl)) ?_
  try go_wp2
  go_loopg [5,9] k1 (fun kq v5 v9 w'=>∃ (x1_2:List (List (S74))) (x5_2:Bool) (x9_2:Int),v5 = .bool x5_2/\v9 = .int .i64 x9_2/\Aside0 (Sl33Round.l1 kq l0 x1_2 x5_2 x6_1 t577 t582 x9_2=some (r1,r2))/\Aside0 (kq<=k1)/\Aside0 (Kd.S (Kd.slice 74 k74) 91 w' w0.heap.size (fun k_=>(P1_ k_\/w.heap.size<=k_)/\some k_≠(v583:Value).ownBlock) (.slice (some ad574) x1_1.length co11) x1_2)/\Aside0 (Kd.R (Kd.int .i64) 3 w' w0.heap.size (fun k_=>(P1_ k_\/w.heap.size<=k_)) v578 t577)/\Aside0 (Kd.R k74 74 w' w0.heap.size (fun k_=>(P1_ k_\/w.heap.size<=k_)) v583 t582)/\Aside0 (Kept w w' (fun k_=>P1_ k_))/\Aside0 (Below w0.heap.size w0 w'))
  case atStart=>exact⟨(x1_1),(x5_1),(0),qZ,qZ,H',⟨Nat.le_refl _⟩,⟨qS HO_1⟩,⟨by (with_reducible repeat (first|apply Kd.R_alloc|apply Kd.R_drewN|apply Kd.R_drew));exact Kd.R_mono HO579.out (fun _ hk=>hk.1)⟩,⟨by (with_reducible repeat (first|apply Kd.R_alloc|apply Kd.R_drewN|apply Kd.R_drew));exact Kd.R_mono HO584.out (fun _ hk=>hk.1.1.1.1)⟩,⟨qT⟩,⟨qB⟩⟩
  clear H'
  try clear c3b0;try clear c4b0;try clear c5b0;try clear c6;try clear c6b0;try clear c6b1;try clear c7;try clear c7b0;try clear c7b1;try clear hx574_0;try clear hx575_0;try clear hx575_1;try clear hx576_0;try clear hx580_0;try clear hx580_1;try clear hx580_2;try clear hx580_3;try clear hx580_4;try clear hx581_0;try clear p574;try clear p575;try clear p576;try clear p580;try clear p581;try clear q574;try clear q575;try clear q576;try clear q580;try clear q581
  obtain⟨x1_2,x5_2,x9_2,rfl,rfl,HA,HK2,HO_1,HO_7,HO_8,HK,HB⟩:=hrel
  have hl1_2:=(Kd.S_reads' HO_1.out).1
  rw [hl1_2] at HO_1
  (try simp only [hl1_2])
  (try simp only [hl1_2] at HO_7)
  (try simp only [hl1_2] at HO_8)
  rcases gk with _|k2
  ·exact absurd HA.out (by simp [Sl33Round.l1])
  have H:=HA.out
  clear HA
  simp only [Sl33Round.l1] at H
  replace H:=jD H;rcases H with ⟨c15b0,H⟩ | ⟨c15b0,H⟩
  ·replace H:=jI H;obtain⟨c16b0,H⟩:=H
   obtain⟨⟨t586,t587⟩,A17,H⟩:=qE H
   try dsimp only at H
   replace H:=jB H;rcases H with ⟨rfl,H⟩ | ⟨rfl,H⟩
   ·have H':=aM H
    clear H
    obtain⟨Ao19,co19,eo19⟩:=Kd.R_slice HO_7.out
    subst eo19
    have p585:0<=(x9_2:Int):=qD
    have q585:x9_2 < (t577.length:Int):=qD
    obtain⟨ad585,e585,hx585_0⟩:=Kd.at_int (Kd.R_reads' HO_7.out).2.2 x9_2 p585 q585
    cases e585
    replace p585:=eq_true p585
    replace q585:=eq_true q585
    obtain⟨Ao20,co20,eo20⟩:=Kd.R_slice HO_8.out
    subst eo20
    go_wp2_with (first|((with_reducible refine jc 114 52 rfl rfl ?_);refine jG Try.func114 #[.slice (some ad574) x1_2.length co11,.int .i64 (rd t577 x9_2),.slice Ao20 t582.length co20] ?_;(with_reducible refine (Sl33Carry.calls k2 ?P529_ (.slice (some ad574) x1_2.length co11) x1_2 (rd t577 x9_2) _ _ t582 true t587 w0 _ ?side1 ?side2 ?side3 ?side4 A17.out).mono ?_);(case side2=>exact Kd.S_bound HO_1.out);(case side1=>exact qB);(case side3=>exact Kd.C_kept_own (Kd.R_tight rfl HO_8.out) (fun k_ hk_ hs_=>by first|exact hs_.1.2 hk_|exact hs_.1.2.1 hk_|exact hs_.1.2.2 hk_|exact hs_.1.1.2 hk_|exact hs_.1.1.1.2 hk_|exact tyap HO_8.out (by decide) hk_ hs_.2.2.2));(case side4=>exact (Kd.R_reads' HO_8.out).2.1);rintro e w_0a ⟨rfl,hy0,hb,hkp⟩;refine⟨_,rfl,?_⟩;replace HO_1:=aM ((by first|exact Kd.S_mono (ok':=fun k_=>(((P1_ k_\/w.heap.size<=k_))/\some k_≠(.slice Ao20 t582.length co20:Value).ownBlock)) hy0 (fun k_ h_=>Or.elim h_ (fun h_=>h_.1) (fun h_=>.inr (by first|exact Nat.le_trans HK.out.1 h_|exact Nat.le_trans (below_size HB.out) h_)))|exact Kd.S_mono (ok':=fun k_=>(((P1_ k_\/w.heap.size<=k_))/\some k_≠(.slice Ao20 t582.length co20:Value).ownBlock)) hy0 (fun _ _=>trivial)|exact Kd.S_mono (ok':=fun k_=>(((P1_ k_\/w.heap.size<=k_))/\some k_≠(.slice Ao20 t582.length co20:Value).ownBlock)) hy0 (fun k_ h_=>Or.elim h_ (fun h_=>h_.1) (fun h_=>⟨.inr (Nat.le_trans HK.out.1 h_),fun e_=>by have:=Kd.R_lt HO_7.out k_ e_.symm;omega⟩))|exact Kd.S_mono (ok':=fun k_=>(((P1_ k_\/w.heap.size<=k_))/\some k_≠(.slice Ao20 t582.length co20:Value).ownBlock)) hy0 (fun k_ h_=>Or.elim h_ (fun h_=>h_.1) (fun h_=>⟨.inr (Nat.le_trans HK.out.1 h_),fun e_=>by have:=Kd.R_lt HO_8.out k_ e_.symm;omega⟩))|exact Kd.S_mono (ok':=fun k_=>(((P1_ k_\/w.heap.size<=k_))/\some k_≠(.slice Ao20 t582.length co20:Value).ownBlock)) hy0 (fun k_ h_=>Or.elim h_ (fun h_=>h_.1) (fun h_=>⟨⟨.inr (Nat.le_trans HK.out.1 h_),fun e_=>by have:=Kd.R_lt HO_7.out k_ e_.symm;omega⟩,fun e_=>by have:=Kd.R_lt HO_8.out k_ e_.symm;omega⟩))|exact Kd.S_mono (ok':=fun k_=>(((P1_ k_\/w.heap.size<=k_))/\some k_≠(.slice Ao20 t582.length co20:Value).ownBlock)) hy0 (fun k_ h_=>Or.elim h_ (fun h_=>h_.1) (fun h_=>⟨⟨.inr (Nat.le_trans HK.out.1 h_),fun e_=>by have:=Kd.R_lt HO_8.out k_ e_.symm;omega⟩,fun e_=>by have:=Kd.R_lt HO_7.out k_ e_.symm;omega⟩))|exact Kd.S_mono (ok':=fun k_=>(((P1_ k_\/w.heap.size<=k_))/\some k_≠(.slice Ao20 t582.length co20:Value).ownBlock)) hy0 (fun k_ h_=>Or.elim h_ (fun h_=>h_.1) (fun h_=>⟨.inr (Nat.le_trans HK.out.1 h_),⟨fun e_=>by have:=Kd.R_lt HO_7.out k_ e_.symm;omega,fun e_=>by have:=Kd.R_lt HO_8.out k_ e_.symm;omega⟩⟩))|exact Kd.S_mono (ok':=fun k_=>(((P1_ k_\/w.heap.size<=k_))/\some k_≠(.slice Ao20 t582.length co20:Value).ownBlock)) hy0 (fun k_ h_=>Or.elim h_ (fun h_=>h_.1) (fun h_=>⟨.inr (Nat.le_trans HK.out.1 h_),⟨fun e_=>by have:=Kd.R_lt HO_8.out k_ e_.symm;omega,fun e_=>by have:=Kd.R_lt HO_7.out k_ e_.symm;omega⟩⟩))));replace HO_7:=aM (Kd.R_mono (ok':=fun k_=>(P1_ k_\/w.heap.size<=k_)) (Kd.R_keptB (Kd.R_tight rfl HO_7.out) hkp (fun k_ hk_ hs_=>by first|exact hs_.1.2 hk_|exact hs_.1.2.1 hk_|exact hs_.1.2.2 hk_|exact hs_.1.1.2 hk_|exact hs_.1.1.1.2 hk_|exact tyap HO_7.out (by decide) hk_ hs_.2.2.2)) (fun k_ hk_=>HO_7.out.1 k_ hk_.1.symm));replace HO_8:=aM (Kd.R_mono (ok':=fun k_=>(P1_ k_\/w.heap.size<=k_)) (Kd.R_keptB (Kd.R_tight rfl HO_8.out) hkp (fun k_ hk_ hs_=>by first|exact hs_.1.2 hk_|exact hs_.1.2.1 hk_|exact hs_.1.2.2 hk_|exact hs_.1.1.2 hk_|exact hs_.1.1.1.2 hk_|exact tyap HO_8.out (by decide) hk_ hs_.2.2.2)) (fun k_ hk_=>HO_8.out.1 k_ hk_.1.symm));replace HK:=aM (Kept.then_ (S:=(fun k_=>P1_ k_)) qT hkp (fun k_ hs_=>by first|exact hs_.1.1|exact hs_.1.1.1|exact hs_.1));replace HB:=aM hb;(try clear hb);(try clear hkp);(try clear hy0)))
    (try simp only [<- hl1_2])
    go_roundg k2
    case measure=>have:=HK1.out;have:=HK2.out;omega
    exact⟨_,_,_,qZ,qZ,H',⟨by have:=HK1.out;have:=HK2.out;omega⟩,⟨by (try simp only [hl1_2]);(with_reducible repeat (first|apply Kd.S_alloc|apply Kd.S_drewN|apply Kd.S_drew));exact HO_1.out⟩,⟨by (try simp only [hl1_2]);(with_reducible repeat (first|apply Kd.R_alloc|apply Kd.R_drewN|apply Kd.R_drew));exact HO_7.out⟩,⟨by (try simp only [hl1_2]);(with_reducible repeat (first|apply Kd.R_alloc|apply Kd.R_drewN|apply Kd.R_drew));exact HO_8.out⟩,⟨qT⟩,⟨qB⟩⟩
   have H':=aM H
   clear H
   obtain⟨Ao22,co22,eo22⟩:=Kd.R_slice HO_7.out
   subst eo22
   have p585:0<=(x9_2:Int):=qD
   have q585:x9_2 < (t577.length:Int):=qD
   obtain⟨ad585,e585,hx585_0⟩:=Kd.at_int (Kd.R_reads' HO_7.out).2.2 x9_2 p585 q585
   cases e585
   replace p585:=eq_true p585
   replace q585:=eq_true q585
   obtain⟨Ao23,co23,eo23⟩:=Kd.R_slice HO_8.out
   subst eo23
   go_wp2_with (first|((with_reducible refine jc 114 52 rfl rfl ?_);refine jG Try.func114 #[.slice (some ad574) x1_2.length co11,.int .i64 (rd t577 x9_2),.slice Ao23 t582.length co23] ?_;(with_reducible refine (Sl33Carry.calls k2 ?P552_ (.slice (some ad574) x1_2.length co11) x1_2 (rd t577 x9_2) _ _ t582 false t587 w0 _ ?side1 ?side2 ?side3 ?side4 A17.out).mono ?_);(case side2=>exact Kd.S_bound HO_1.out);(case side1=>exact qB);(case side3=>exact Kd.C_kept_own (Kd.R_tight rfl HO_8.out) (fun k_ hk_ hs_=>by first|exact hs_.1.2 hk_|exact hs_.1.2.1 hk_|exact hs_.1.2.2 hk_|exact hs_.1.1.2 hk_|exact hs_.1.1.1.2 hk_|exact tyap HO_8.out (by decide) hk_ hs_.2.2.2));(case side4=>exact (Kd.R_reads' HO_8.out).2.1);rintro e w_0a ⟨rfl,hy0,hb,hkp⟩;refine⟨_,rfl,?_⟩;replace HO_1:=aM ((by first|exact Kd.S_mono (ok':=fun k_=>(((P1_ k_\/w.heap.size<=k_))/\some k_≠(.slice Ao23 t582.length co23:Value).ownBlock)) hy0 (fun k_ h_=>Or.elim h_ (fun h_=>h_.1) (fun h_=>.inr (by first|exact Nat.le_trans HK.out.1 h_|exact Nat.le_trans (below_size HB.out) h_)))|exact Kd.S_mono (ok':=fun k_=>(((P1_ k_\/w.heap.size<=k_))/\some k_≠(.slice Ao23 t582.length co23:Value).ownBlock)) hy0 (fun _ _=>trivial)|exact Kd.S_mono (ok':=fun k_=>(((P1_ k_\/w.heap.size<=k_))/\some k_≠(.slice Ao23 t582.length co23:Value).ownBlock)) hy0 (fun k_ h_=>Or.elim h_ (fun h_=>h_.1) (fun h_=>⟨.inr (Nat.le_trans HK.out.1 h_),fun e_=>by have:=Kd.R_lt HO_7.out k_ e_.symm;omega⟩))|exact Kd.S_mono (ok':=fun k_=>(((P1_ k_\/w.heap.size<=k_))/\some k_≠(.slice Ao23 t582.length co23:Value).ownBlock)) hy0 (fun k_ h_=>Or.elim h_ (fun h_=>h_.1) (fun h_=>⟨.inr (Nat.le_trans HK.out.1 h_),fun e_=>by have:=Kd.R_lt HO_8.out k_ e_.symm;omega⟩))|exact Kd.S_mono (ok':=fun k_=>(((P1_ k_\/w.heap.size<=k_))/\some k_≠(.slice Ao23 t582.length co23:Value).ownBlock)) hy0 (fun k_ h_=>Or.elim h_ (fun h_=>h_.1) (fun h_=>⟨⟨.inr (Nat.le_trans HK.out.1 h_),fun e_=>by have:=Kd.R_lt HO_7.out k_ e_.symm;omega⟩,fun e_=>by have:=Kd.R_lt HO_8.out k_ e_.symm;omega⟩))|exact Kd.S_mono (ok':=fun k_=>(((P1_ k_\/w.heap.size<=k_))/\some k_≠(.slice Ao23 t582.length co23:Value).ownBlock)) hy0 (fun k_ h_=>Or.elim h_ (fun h_=>h_.1) (fun h_=>⟨⟨.inr (Nat.le_trans HK.out.1 h_),fun e_=>by have:=Kd.R_lt HO_8.out k_ e_.symm;omega⟩,fun e_=>by have:=Kd.R_lt HO_7.out k_ e_.symm;omega⟩))|exact Kd.S_mono (ok':=fun k_=>(((P1_ k_\/w.heap.size<=k_))/\some k_≠(.slice Ao23 t582.length co23:Value).ownBlock)) hy0 (fun k_ h_=>Or.elim h_ (fun h_=>h_.1) (fun h_=>⟨.inr (Nat.le_trans HK.out.1 h_),⟨fun e_=>by have:=Kd.R_lt HO_7.out k_ e_.symm;omega,fun e_=>by have:=Kd.R_lt HO_8.out k_ e_.symm;omega⟩⟩))|exact Kd.S_mono (ok':=fun k_=>(((P1_ k_\/w.heap.size<=k_))/\some k_≠(.slice Ao23 t582.length co23:Value).ownBlock)) hy0 (fun k_ h_=>Or.elim h_ (fun h_=>h_.1) (fun h_=>⟨.inr (Nat.le_trans HK.out.1 h_),⟨fun e_=>by have:=Kd.R_lt HO_8.out k_ e_.symm;omega,fun e_=>by have:=Kd.R_lt HO_7.out k_ e_.symm;omega⟩⟩))));replace HO_7:=aM (Kd.R_mono (ok':=fun k_=>(P1_ k_\/w.heap.size<=k_)) (Kd.R_keptB (Kd.R_tight rfl HO_7.out) hkp (fun k_ hk_ hs_=>by first|exact hs_.1.2 hk_|exact hs_.1.2.1 hk_|exact hs_.1.2.2 hk_|exact hs_.1.1.2 hk_|exact hs_.1.1.1.2 hk_|exact tyap HO_7.out (by decide) hk_ hs_.2.2.2)) (fun k_ hk_=>HO_7.out.1 k_ hk_.1.symm));replace HO_8:=aM (Kd.R_mono (ok':=fun k_=>(P1_ k_\/w.heap.size<=k_)) (Kd.R_keptB (Kd.R_tight rfl HO_8.out) hkp (fun k_ hk_ hs_=>by first|exact hs_.1.2 hk_|exact hs_.1.2.1 hk_|exact hs_.1.2.2 hk_|exact hs_.1.1.2 hk_|exact hs_.1.1.1.2 hk_|exact tyap HO_8.out (by decide) hk_ hs_.2.2.2)) (fun k_ hk_=>HO_8.out.1 k_ hk_.1.symm));replace HK:=aM (Kept.then_ (S:=(fun k_=>P1_ k_)) qT hkp (fun k_ hs_=>by first|exact hs_.1.1|exact hs_.1.1.1|exact hs_.1));replace HB:=aM hb;(try clear hb);(try clear hkp);(try clear hy0)))
   (try simp only [<- hl1_2])
   go_roundg k2
   case measure=>have:=HK1.out;have:=HK2.out;omega
   exact⟨_,_,_,qZ,qZ,H',⟨by have:=HK1.out;have:=HK2.out;omega⟩,⟨by (try simp only [hl1_2]);(with_reducible repeat (first|apply Kd.S_alloc|apply Kd.S_drewN|apply Kd.S_drew));exact HO_1.out⟩,⟨by (try simp only [hl1_2]);(with_reducible repeat (first|apply Kd.R_alloc|apply Kd.R_drewN|apply Kd.R_drew));exact HO_7.out⟩,⟨by (try simp only [hl1_2]);(with_reducible repeat (first|apply Kd.R_alloc|apply Kd.R_drewN|apply Kd.R_drew));exact HO_8.out⟩,⟨qT⟩,⟨qB⟩⟩
  have H':=aM H
  clear H
  obtain⟨Ao25,co25,eo25⟩:=Kd.R_slice HO_7.out
  subst eo25
  go_wp2
  (try simp only [<- hl1_2])
  go_roundg k2
  case measure=>have:=HK1.out;have:=HK2.out;omega
  exact⟨(x1_2),(x5_2),(wrap64 (x6_1+1)),qZ,qZ,H',⟨by have:=HK1.out;have:=HK2.out;omega⟩,⟨by (try simp only [hl1_2]);(with_reducible repeat (first|apply Kd.S_alloc|apply Kd.S_drewN|apply Kd.S_drew));exact Kd.S_mono HO_1.out (fun _ hk=>hk.1)⟩,⟨qT⟩,⟨qB⟩⟩
 simp only [Option.some.injEq,Prod.mk.injEq] at H
 obtain⟨rfl,rfl⟩:=H
 go_wp2
 go_ret
 exact⟨qW,qS HO_1,qB,qT⟩
mutual
def SFactsOf.l0:Nat->List (S46)->List (List (S74))->Int->Option ((List (List (S74))))
 | 0,_,_,_=>none
 | k+1,x0,x3,x4=>if x4 < (x0.length:Int) then (if 12<=17592186044416 then (if x3.length < 5864062014805 then (SFactsOf.l0 k x0 (x3 ++ [(List.replicate 12 z74)]) (wrap64 (x4+1))) else (none)) else (none)) else (SFactsOf.l1 k x0 x3 0)
def SFactsOf.l1:Nat->List (S46)->List (List (S74))->Int->Option ((List (List (S74))))
 | 0,_,_,_=>none
 | k+1,x0,x3,x5=>if x5 < 12 then (if 0 < (x3.length:Int) then (if 0<=x5 then (if x5 < ((rd_L9 x3 0).length:Int) then (SFactsOf.l1 k x0 (x3.set (0:Int).toNat ((rd_L9 x3 0).set (x5:Int).toNat (⟨1,0⟩:S74))) (wrap64 (x5+1))) else (none)) else (none)) else (none)) else (SFactsOf.l2 k x0 x3)
def SFactsOf.l2:Nat->List (S46)->List (List (S74))->Option ((List (List (S74))))
 | 0,_,_=>none
 | k+1,x0,x3=>(Sl33Round.f k x0 x3).bind fun bt602=>(if bt602.1=true then (SFactsOf.l2 k x0 bt602.2) else (some bt602.2))
end
def SFactsOf.f (k:Nat) (l0:List (S46)):Option ((List (List (S74)))):=(some (([]:List (List (S74))):List (List (S74)))).bind fun y588=>((SCodeValid.f k l0).bind fun t591=>(if t591=true then (SFactsOf.l0 k l0 y588 0) else (some y588)))
theorem SFactsOf.mono_l:∀ k,(∀ y0 y1 y2,LeO (SFactsOf.l0 k y0 y1 y2) (SFactsOf.l0 (k+1) y0 y1 y2))/\(∀ y0 y1 y2,LeO (SFactsOf.l1 k y0 y1 y2) (SFactsOf.l1 (k+1) y0 y1 y2))/\(∀ y0 y1,LeO (SFactsOf.l2 k y0 y1) (SFactsOf.l2 (k+1) y0 y1))
 | 0=>⟨fun _ _ _ r h=>by simp [SFactsOf.l0] at h,fun _ _ _ r h=>by simp [SFactsOf.l1] at h,fun _ _ r h=>by simp [SFactsOf.l2] at h⟩
 | k+1=>by
  obtain⟨ih0,ih1,ih2⟩:=SFactsOf.mono_l k;have m0:=@SCodeValid.mono;have m1:=@Sl33Round.mono
  exact⟨by intros;unfold SFactsOf.l0;exact mM,by intros;unfold SFactsOf.l1;exact mM,by intros;unfold SFactsOf.l2;exact mM⟩
theorem SFactsOf.mono:∀ a0 k,LeO (SFactsOf.f k a0) (SFactsOf.f (k+1) a0):=by
 intro a0 k;obtain⟨ih0,ih1,ih2⟩:=SFactsOf.mono_l k;unfold SFactsOf.f;have m0:=@SCodeValid.mono;have m1:=@Sl33Round.mono;exact mM
theorem SFactsOf.calls (k:Nat) (A0:Option Addr) (c0:Nat) (l0:List (S46)) (r:List (List (S74))) (w:World) (hr0:Kd.C k46 w A0 l0.length l0) (hc0:l0.length<=c0) (h:SFactsOf.f k l0=some r) :
  Calls Try.prog 84 #[.slice A0 l0.length c0] w fun e w'=>∃ v0_:Value,e = .returned (v0_)/\Kd.S (Kd.slice 74 k74) 91 w' w.heap.size (fun _=>True) v0_ r/\Below w.heap.size w w':=by
 have hu74:=Try.underlying74
 have HR0:=aM hr0
 have HC0:=aM hc0
 clear hr0 hc0
 have HB:=aM (Below.refl w.heap.size w)
 have H:=h;unfold SFactsOf.f at H
 clear h
 obtain⟨y588,Ny588⟩:=ky ((([]:List (List (S74)))):List (List (S74)))
 first|replace H:=kz Ny588 H|rw [<- Ny588.out] at H
 obtain⟨t591,A2,H⟩:=qE H
 try dsimp only at H
 replace H:=jB H;rcases H with ⟨rfl,H⟩ | ⟨rfl,H⟩
 ·have H':=aM H
  clear H
  go_enter Try.func84,Try.ntmps84
  go_wp2_with (first|((with_reducible refine jd 6 rfl ?_);refine Kd.S_lit (Kd.slice 74 k74) _ 91 ?hg (N:=6) ?hd (xs:=([]:List (List (S74)))) (inner:=[]) (ok:=fun _=>True) (okp:=fun _=>True) ?hr ?hp (fun _ hk=>hk) trivial (Below.refl _ _) (Nat.le_refl _) (by simp) ?_;(case hd=>rfl);(case hg=>rfl);(case hr=>first|(go_simp;done)|(go_simp;rfl));(case hp=>exact (Reps.none _ _));intro v589 w4 ho5 hb hg_ hnew_;clear hg_ hnew_;(first|rw [<- Ny588.out] at ho5|(simp only [Int.reduceToNat] at ho5;rw [<- Ny588.out] at ho5));have HO590:=aM (Kd.S_lower ho5 (below_size qB));replace HB:=kH hb;clear hb ho5)|((with_reducible refine jc 29 8 rfl rfl ?_);refine jG Try.func29 #[.slice A0 l0.length c0] ?_;(with_reducible refine (SCodeValid.calls k _ _ l0 true _ ?side1 ?side2 A2.out).mono ?_);(case side1=>exact kC (Kd.C_below HR0.out HB.out));(case side2=>exact HC0.out);rintro e w6 ⟨rfl,hb⟩;refine⟨_,rfl,?_⟩;replace HO590:=kS HO590 hb;replace HB:=kH hb;clear hb))
  go_loopg [3,4] k (fun kq v3 v4 w'=>∃ (x3_1:List (List (S74))) (x4_1:Int),v4 = .int .i64 x4_1/\Aside0 (SFactsOf.l0 kq l0 x3_1 x4_1=some r)/\Aside0 (kq<=k)/\Aside0 (Kd.S (Kd.slice 74 k74) 91 w' w.heap.size (fun _=>True) v3 x3_1)/\Aside0 (Below w.heap.size w w'))
  case atStart=>exact⟨(y588),(0),qZ,H',⟨Nat.le_refl _⟩,⟨qS HO590⟩,⟨qB⟩⟩
  clear H'
  obtain⟨x3_1,x4_1,rfl,HA,HK1,HO_3,HB⟩:=hrel
  rcases gk with _|k1
  ·exact absurd HA.out (by simp [SFactsOf.l0])
  have H:=HA.out
  clear HA
  simp only [SFactsOf.l0] at H
  replace H:=jD H;rcases H with ⟨c7b0,H⟩ | ⟨c7b0,H⟩
  ·replace H:=jJ H;obtain⟨c8b0,c8b1,H⟩:=H
   obtain⟨y592,Ny592⟩:=ky ((List.replicate 12 z74):List (S74))
   first|replace H:=kz Ny592 H|rw [<- Ny592.out] at H
   replace H:=jL H;obtain⟨LMc9,H⟩:=H
   obtain⟨y595,Ny595⟩:=ky ((x3_1 ++ [y592]):List (List (S74)))
   first|replace H:=kz Ny595 H|rw [<- Ny595.out] at H
   have H':=aM H
   clear H
   go_wp2_with (first|((with_reducible refine jd 18 rfl ?_);refine Kd.R_make k74 _ 74 rfl (N:=18) rfl 91 _ _ rfl 12 rfl rfl Try.underlying91 (.agg #[(.int .i64 0),(.int .i64 0)]) 16 info74 rfl (by decide) (by omega) z74 (ok:=fun _=>True) (okp:=fun _=>True) (k74_mkM _ _ _ z74 ) (fun _ hk=>hk) trivial (by omega) (by omega) (Below.refl _ _) (Nat.le_refl _) ?_;intro v593 w_0a h_0b hb hg_ hnew_;clear hg_ hnew_;(first|rw [<- Ny592.out] at h_0b|(simp only [Int.reduceToNat] at h_0b;rw [<- Ny592.out] at h_0b));have HO594:=kL h_0b;replace HO_3:=aM (Kd.S_elder' (qS HO_3) (Kd.R_base h_0b) hb);replace HB:=kH hb;clear hb h_0b;obtain⟨A_0c,c_0d,e_0e⟩:=Kd.R_slice HO594.out;subst e_0e)|((with_reducible refine gate_builtin (b:=.append) (xs:=#[.tmp 17,.tmp 19]) rfl ?_);at_builtin;refine Kd.S_append (Kd.slice 74 k74) (w0:=w) w.heap.size rfl (.tmp 17) (.tmp 19) 88 91 (.slice none 0 0) 24 rfl Try.underlying88 info91 rfl (by decide) (by omega) u3 x3_1 y592 [.slice A_0c y592.length c_0d] (fun _=>True) (fun k_=>some k_=(.slice A_0c y592.length c_0d:Value).ownBlock) rfl rfl ?aP (fun k_ hk_=>((Kd.R_mono (ok':=fun k_=>((fun _=>True)) k_/\some k_≠(u3:Value).ownBlock) (Kd.R_apart' (HO594.out) (Kd.S_typed HO_3.out) (by decide)) (fun k_ hk=>⟨trivial,hk.2⟩))).1 k_ hk_.symm) ?aF ?aO ?aB ?aS ?aL ?_;(case aP=>exact Kd.M_row (Kd.R_mono (Kd.R_tight rfl (Kd.R_mono (ok':=fun k_=>((fun _=>True)) k_/\some k_≠(u3:Value).ownBlock) (Kd.R_apart' (HO594.out) (Kd.S_typed HO_3.out) (by decide)) (fun k_ hk=>⟨trivial,hk.2⟩))) (fun _ h_=>h_)));(case aB=>exact qB);(case aF=>exact (fun _ _=>trivial));(case aO=>exact (by (with_reducible repeat (first|apply Kd.S_alloc|apply Kd.S_drewN|apply Kd.S_drew));exact Kd.S_mono HO_3.out (by first|exact fun k_ hk=>⟨trivial,fun e_=>hk.2 e_⟩|exact fun k_ hk=>hk)));(case aS=>exact (below_size qB));(case aL=>have:=LMc9.out;omega);intro v596 w_1a ho hb hg hat;rw [<- Ny595.out] at ho;have HO597:=aM ho;replace HB:=aM hb;clear HO_3 HO594;clear ho hb hg hat))
   go_roundg k1
   case measure=>have:=HK1.out;omega
   exact⟨_,_,qZ,H',⟨by have:=HK1.out;omega⟩,⟨qS HO597⟩,⟨qB⟩⟩
  have H':=aM H
  clear H
  go_wp2
  go_loopg [5] k1 (fun kq v5 w'=>∃ (x3_2:List (List (S74))) (x5_2:Int),v5 = .int .i64 x5_2/\Aside0 (SFactsOf.l1 kq l0 x3_2 x5_2=some r)/\Aside0 (kq<=k1)/\Aside0 (Kd.S (Kd.slice 74 k74) 91 w' w.heap.size (fun _=>True) u3 x3_2)/\Aside0 (Below w.heap.size w w'))
  case atStart=>exact⟨(x3_1),(0),qZ,H',⟨Nat.le_refl _⟩,⟨qS HO_3⟩,⟨qB⟩⟩
  clear H'
  try clear c7b0
  obtain⟨x3_2,x5_2,rfl,HA,HK2,HO_3,HB⟩:=hrel
  rcases gk with _|k2
  ·exact absurd HA.out (by simp [SFactsOf.l1])
  have H:=HA.out
  clear HA
  simp only [SFactsOf.l1] at H
  replace H:=jD H;rcases H with ⟨c14b0,H⟩ | ⟨c14b0,H⟩
  ·replace H:=jU H;obtain⟨c15,H⟩:=H
   have c15b0:=decide_eq_true c15
   have c15b1:decide (0 < x3_2.length)=true:=decide_eq_true (by omega)
   clear c15
   replace H:=jI H;obtain⟨c16b0,H⟩:=H
   replace H:=jI H;obtain⟨c17b0,H⟩:=H
   obtain⟨y599,Ny599⟩:=ky (((rd_L9 x3_2 0).set (x5_2:Int).toNat (⟨1,0⟩:S74)):List (S74))
   first|replace H:=kz Ny599 H|rw [<- Ny599.out] at H
   obtain⟨y601,Ny601⟩:=ky ((x3_2.set (0:Int).toNat y599):List (List (S74)))
   first|replace H:=kz Ny601 H|rw [<- Ny601.out] at H
   have H':=aM H
   clear H
   obtain⟨Ao19,co19,eo19⟩:=Kd.S_slice HO_3.out
   subst eo19
   have p598:0<=(0:Int):=(by omega)
   have q598:0 < (x3_2.length:Int):=qD
   obtain⟨ad598,A598_0,c598_0,e598,hx598_0,hl598_0,hi598_0⟩:=at_L9 (Kd.S_reads' HO_3.out).2.2 0 p598 q598
   cases e598
   obtain⟨ce598,hce598,hMe598,hcc598⟩:=Kd.S_get HO_3.out [] 0 p598 (by first|exact q598|exact qD|(have e_:=(Kd.S_reads' HO_3.out).1;omega))
   obtain⟨ve598_0,rfl,ge598_0⟩:=hMe598
   have hv598_0:=hcc598 0 _ rfl
   rw [Nat.add_zero,show ((Kd.slice 74 k74)).sz=1 from rfl,Nat.mul_one] at hv598_0
   replace hv598_0:=Option.some.inj (hv598_0.symm.trans hx598_0)
   rw [hv598_0] at ge598_0
   have HL598_0:=aM (show Kd.R k74 74 _ _ _ _ (rd_L9 x3_2 0) from ge598_0)
   clear hv598_0 ge598_0
   have HX598_0:=aM hx598_0
   clear hcc598 hce598
   have qi598:(0 < x3_2.length)=True:=eq_true (by omega)
   (try rw [show ((0:Int)).toNat=0 from rfl] at hx598_0)
   (try rw [Addr.add_zero'] at hx598_0)
   have HR598_0:=aM hi598_0
   have HC598_0:=aM hl598_0
   clear hi598_0 hl598_0
   replace p598:=eq_true p598
   replace q598:=eq_true q598
   have p18:0<=(x5_2:Int):=qD
   have q18:(x5_2:Int) < (((rd_L9 x3_2 0).length:Int):Int):=qD
   obtain⟨go18,co18,eo18,gb18,gl18,cl18,HG18⟩:=Kd.R_form HL598_0.out (by omega)
   (first|cases eo18|(injection eo18 with ea_ en_ ec_;(first|subst ea_|(injection ea_ with ea_;subst ea_));subst ec_;clear en_))
   have GB18:=aM gb18
   have GG18:=aM HG18
   clear gb18 gl18 HG18
   obtain⟨ce18,hcl18,hM18,hcc18,hfr18⟩:=Kd.R_elem HL598_0.out z74 (x5_2:Int) p18 q18
   obtain rfl:=k74_openM hM18
   have hx18_0:wr.cell? ⟨go18,(x5_2:Int).toNat*2,none⟩=some (.int .i64 ((rd_T74 (rd_L9 x3_2 0) x5_2).f0)):=hcc18 0 _ rfl
   have hx18_1:wr.cell? ⟨go18,(x5_2:Int).toNat*2+1,none⟩=some (.int .i64 ((rd_T74 (rd_L9 x3_2 0) x5_2).f1)):=hcc18 1 _ rfl
   have hf18_0:wr.frozen? ⟨go18,(x5_2:Int).toNat*2,none⟩=false:=hfr18 0
   have hf18_1:wr.frozen? ⟨go18,(x5_2:Int).toNat*2+1,none⟩=false:=hfr18 1
   clear hcl18 hcc18 hfr18;(try clear hM18)
   replace p18:=eq_true p18
   replace q18:=eq_true q18
   have hq20:(0:Int) < (x3_2.length:Int):=(by have h_:(0:Int) < ((x3_2.length:Int):Int):=qD;first|exact h_|(have e_:=(Kd.S_reads' HO_3.out).1;omega)|simpa only [List.length_set,List.length_set] using h_)
   obtain⟨oki20,ce20,hcl20,hM20,hcc20,hok20,hbk20⟩:=Kd.S_borrow HO_3.out [] (0:Int) (by omega) hq20
   obtain⟨ve20_0,rfl,ge20_0⟩:=hM20
   have hv20:=hcc20 0 _ rfl
   rw [Nat.add_zero,show ((Kd.slice 74 k74)).sz=1 from rfl,Nat.mul_one] at hv20
   replace hv20:=Option.some.inj (hv20.symm.trans HX598_0.out)
   subst hv20
   clear hcc20 hcl20
   replace ge20_0:=(show Kd.R k74 74 _ _ _ _ (rd_L9 x3_2 0) from ge20_0)
   obtain⟨cf20,hcl20,hN20,hcc20,hfr20⟩:=Kd.R_elem ge20_0 z74 (x5_2:Int) (qD) (by have h_:(x5_2:Int) < (((rd_L9 x3_2 0).length:Int):Int):=qD;first|exact h_|(have e_:=(Kd.R_reads' HR598_0.out).1;omega)|simpa using h_)
   obtain rfl:=k74_openM hN20
   have HP20:=Kd.R_seg ge20_0 (x5_2:Int) (qD) (by have h_:(x5_2:Int) < (((rd_L9 x3_2 0).length:Int):Int):=qD;first|exact h_|(have e_:=(Kd.R_reads' HR598_0.out).1;omega)|simpa using h_) (seg:=[.int .i64 1,.int .i64 0]) (j:=0) hcl20 hcc20 (show 2<=2 from by decide) (x':=(⟨1,0⟩:S74)) (k74_mkM _ _ _ (⟨1,0⟩:S74)) (fun _ hk=>hk)
   clear hcl20 hcc20 hfr20 hN20
   go_wp2_with (first|((with_reducible refine gate_store (t:=74) (p:=30) rfl ?_);refine store_event (t:=74) (p:=30) (v:=?vo_w21) (w1:=((wr.setCell ⟨go18,(x5_2:Int).toNat*2,none⟩ (.int .i64 1)).setCell ⟨go18,(x5_2:Int).toNat*2+1,none⟩ (.int .i64 0))) ?hg ?ho ?hn ?hr ?_;(case ho=>rfl);(case hg=>rfl);(case hn=>rfl);(case hr=>first|(go_simp;done)|(go_simp;rfl));intro w_2a hw;have hg:wr.grownBy w_2a (some go18):=(by rw [hw];exact HP20.2);have hz_:Kd.R k74 74 w_2a w.heap.size oki20 (.slice (some ⟨go18,0,none⟩) (rd_L9 x3_2 0).length c598_0) y599:=(by rw [hw,Ny599.out];exact HP20.1);have hp_:Kd.S (Kd.slice 74 k74) 91 w_2a w.heap.size (fun _=>True) (.slice (some ad598) x3_2.length co19) y601:=(by rw [Ny601.out];exact hbk20 hg (fun k_ e_=>by injection e_ with e_;subst e_;exact ge20_0.1 _ rfl) (Kd.M_row hz_));have hm_:=Kd.R_mono hz_ hok20;clear HP20 hbk20;have HL604:=aM hm_;have HC600:=aM ((Kd.R_reads' hm_).2.1);replace HO_3:=aM hp_;replace HB:=aM ((by rw [hw];exact below_set (below_set (HB.out) GB18.out) GB18.out:Below w.heap.size w w_2a));clear HL598_0;clear hg hw hp_ hz_ hm_ hok20))
   go_roundg k2
   case measure=>have:=HK1.out;have:=HK2.out;omega
   exact⟨_,_,qZ,H',⟨by have:=HK1.out;have:=HK2.out;omega⟩,⟨qS HO_3⟩,⟨qB⟩⟩
  have H':=aM H
  clear H
  go_wp2
  go_loopg [] k2 (fun kq w'=>∃ (x3_3:List (List (S74))),Aside0 (SFactsOf.l2 kq l0 x3_3=some r)/\Aside0 (kq<=k2)/\Aside0 (Kd.S (Kd.slice 74 k74) 91 w' w.heap.size (fun _=>True) u3 x3_3)/\Aside0 (Below w.heap.size w w'))
  case atStart=>exact⟨(x3_2),H',⟨Nat.le_refl _⟩,⟨qS HO_3⟩,⟨qB⟩⟩
  clear H'
  try clear c7b0;try clear c14b0
  obtain⟨x3_3,HA,HK3,HO_3,HB⟩:=hrel
  rcases gk with _|k3
  ·exact absurd HA.out (by simp [SFactsOf.l2])
  have H:=HA.out
  clear HA
  simp only [SFactsOf.l2] at H
  obtain⟨⟨t602,t603⟩,A22,H⟩:=qE H
  try dsimp only at H
  replace H:=jB H;rcases H with ⟨rfl,H⟩ | ⟨rfl,H⟩
  ·have H':=aM H
   clear H
   obtain⟨Ao24,co24,eo24⟩:=Kd.S_slice HO_3.out
   subst eo24
   go_wp2_with (first|((with_reducible refine jc 104 33 rfl rfl ?_);refine jG Try.func104 #[.slice A0 l0.length c0,.slice Ao24 x3_3.length co24] ?_;(with_reducible refine (Sl33Round.calls k3 _ _ l0 ?P381_ (.slice Ao24 x3_3.length co24) x3_3 true t603 w _ ?side1 ?side2 ?side3 ?side4 A22.out).mono ?_);(case side4=>exact Kd.S_bound HO_3.out);(case side1=>exact qB);(case side2=>exact Kd.C_kept_came k46_heap HR0.out qB (fun k_ hs_=>(by first|exact Kd.R_base HO_3.out k_ hs_.symm|exact hs_.2.1)));(case side3=>exact HC0.out);rintro e w_3a ⟨rfl,hy0,hb,hkp⟩;refine⟨_,rfl,?_⟩;replace HO_3:=aM ((by first|exact Kd.S_mono (ok':=fun k_=>True) hy0 (fun k_ h_=>Or.elim h_ (fun h_=>h_.1) (fun h_=>.inr (by first|exact Nat.le_trans HK.out.1 h_|exact Nat.le_trans (below_size HB.out) h_)))|exact Kd.S_mono (ok':=fun k_=>True) hy0 (fun _ _=>trivial)));replace HB:=aM hb;(try clear hb);(try clear hkp);(try clear hy0)))
   go_roundg k3
   case measure=>have:=HK1.out;have:=HK2.out;have:=HK3.out;omega
   exact⟨_,H',⟨by have:=HK1.out;have:=HK2.out;have:=HK3.out;omega⟩,⟨qS HO_3⟩,⟨qB⟩⟩
  obtain rfl:=Option.some.inj H
  obtain⟨Ao26,co26,eo26⟩:=Kd.S_slice HO_3.out
  subst eo26
  go_wp2_with (first|((with_reducible refine jc 104 33 rfl rfl ?_);refine jG Try.func104 #[.slice A0 l0.length c0,.slice Ao26 x3_3.length co26] ?_;(with_reducible refine (Sl33Round.calls k3 _ _ l0 ?P394_ (.slice Ao26 x3_3.length co26) x3_3 false t603 w _ ?side1 ?side2 ?side3 ?side4 A22.out).mono ?_);(case side4=>exact Kd.S_bound HO_3.out);(case side1=>exact qB);(case side2=>exact Kd.C_kept_came k46_heap HR0.out qB (fun k_ hs_=>(by first|exact Kd.R_base HO_3.out k_ hs_.symm|exact hs_.2.1)));(case side3=>exact HC0.out);rintro e w_3a ⟨rfl,hy0,hb,hkp⟩;refine⟨_,rfl,?_⟩;replace HO_3:=aM ((by first|exact Kd.S_mono (ok':=fun k_=>True) hy0 (fun k_ h_=>Or.elim h_ (fun h_=>h_.1) (fun h_=>.inr (by first|exact Nat.le_trans HK.out.1 h_|exact Nat.le_trans (below_size HB.out) h_)))|exact Kd.S_mono (ok':=fun k_=>True) hy0 (fun _ _=>trivial)));replace HB:=aM hb;(try clear hb);(try clear hkp);(try clear hy0)))
  go_ret
  exact⟨_,by first|rfl|(simp [errW_none,errW_some] <;> rfl)|(simp [*,errW_none,errW_some] <;> rfl),qS HO_3,qB⟩
 obtain rfl:=Option.some.inj H
 go_enter Try.func84,Try.ntmps84
 go_wp2_with (first|((with_reducible refine jd 6 rfl ?_);refine Kd.S_lit (Kd.slice 74 k74) _ 91 ?hg (N:=6) ?hd (xs:=([]:List (List (S74)))) (inner:=[]) (ok:=fun _=>True) (okp:=fun _=>True) ?hr ?hp (fun _ hk=>hk) trivial (Below.refl _ _) (Nat.le_refl _) (by simp) ?_;(case hd=>rfl);(case hg=>rfl);(case hr=>first|(go_simp;done)|(go_simp;rfl));(case hp=>exact (Reps.none _ _));intro v589 w_4a h_4b hb hg_ hnew_;clear hg_ hnew_;(first|rw [<- Ny588.out] at h_4b|(simp only [Int.reduceToNat] at h_4b;rw [<- Ny588.out] at h_4b));have HO590:=aM (Kd.S_lower h_4b (below_size qB));replace HB:=kH hb;clear hb h_4b)|((with_reducible refine jc 29 8 rfl rfl ?_);refine jG Try.func29 #[.slice A0 l0.length c0] ?_;(with_reducible refine (SCodeValid.calls k _ _ l0 false _ ?side1 ?side2 A2.out).mono ?_);(case side1=>exact kC (Kd.C_below HR0.out HB.out));(case side2=>exact HC0.out);rintro e w_5a ⟨rfl,hb⟩;refine⟨_,rfl,?_⟩;replace HO590:=kS HO590 hb;replace HB:=kH hb;clear hb))
 go_ret
 exact⟨_,by first|rfl|(simp [errW_none,errW_some] <;> rfl)|(simp [*,errW_none,errW_some] <;> rfl),qS HO590,qB⟩
def Sl33Is.f (a0_0:Int) (a0_1:Int) (a1:Int):Option (Bool):=if a0_0=1 then (some (a0_1 == a1)) else (some false)
theorem Sl33Is_calls_s0 {G:Prop} (h:G:=by
  go_enter Try.func106,Try.ntmps106
  go_wp2_with (first|((with_reducible refine jd 2 rfl ?_);refine jX _ 74 ?_;intro gb605 hg w_0a hbox hb;have BK605:=aM hbox;have GW605:=kG hg;replace HB:=kH hb;clear hb hbox hg;have c_0b:=jz2 BK605))
  go_ret
  exact⟨qW,qB⟩):G:=h
theorem Sl33Is.calls (a0_0:Int) (a0_1:Int) (a1:Int) (r:Bool) (w:World) (h:Sl33Is.f a0_0 a0_1 a1=some r) :
  Calls Try.prog 106 #[.agg #[.int .i64 a0_0,.int .i64 a0_1],.int .i64 a1] w fun e w'=>e = .returned (.bool r)/\Below w.heap.size w w':=by
 have hu74:=Try.underlying74
 have HB:=aM (Below.refl w.heap.size w)
 have H:(if a0_0=1 then (some (a0_1 == a1)) else (some false))=some r:=h
 clear h
 replace H:=jE H;rcases H with ⟨c3b0,c3b1,H⟩ | ⟨c3,c3b0,c3b1,H⟩
 ·obtain rfl:=Option.some.inj H
  exact Sl33Is_calls_s0
 obtain rfl:=Option.some.inj H
 exact Sl33Is_calls_s0
def Sl31Has.l0:Nat->List Int->Int->Int->Option (Bool)
 | 0,_,_,_=>none
 | k+1,x0,x1,x5=>if x5 < (x0.length:Int) then (if 0<=x5 then (if (rd x0 x5)=x1 then (some true) else (Sl31Has.l0 k x0 x1 (wrap64 (x5+1)))) else (none)) else (some false)
def Sl31Has.f (k:Nat) (l0:List Int) (a1:Int):Option (Bool):=Sl31Has.l0 k l0 a1 0
theorem Sl31Has.mono_l:∀ k,(∀ y0 y1 y2,LeO (Sl31Has.l0 k y0 y1 y2) (Sl31Has.l0 (k+1) y0 y1 y2))
 | 0=>fun _ _ _ r h=>by simp [Sl31Has.l0] at h
 | k+1=>by
  have ih0:=Sl31Has.mono_l k
  intros;unfold Sl31Has.l0;exact mM
theorem Sl31Has.mono:∀ a0 a1 k,LeO (Sl31Has.f k a0 a1) (Sl31Has.f (k+1) a0 a1):=by
 intro a0 a1 k;have ih0:=Sl31Has.mono_l k;unfold Sl31Has.f;exact mM
theorem Sl31Has.calls (k:Nat) (A0:Option Addr) (c0:Nat) (l0:List Int) (a1:Int) (r:Bool) (w:World) (hr0:Kd.C (Kd.int .i64) w A0 l0.length l0) (hc0:l0.length<=c0) (h:Sl31Has.f k l0 a1=some r) :
  Calls Try.prog 40 #[.slice A0 l0.length c0,.int .i64 a1] w fun e w'=>e = .returned (.bool r)/\Drawn0 w w':=by
 have HR0:=aM hr0
 have HC0:=aM hc0
 clear hr0 hc0
 have H:(Sl31Has.l0 k l0 a1 0)=some r:=h
 clear h
 have H':=aM H
 clear H
 go_enter Try.func40,Try.ntmps40
 go_wp2
 go_loopg [5] k (fun kq v5 w'=>∃ (x5_1:Int),v5 = .int .i64 x5_1/\Aside0 (Sl31Has.l0 kq l0 a1 x5_1=some r)/\Aside0 (kq<=k)/\Drawn0 w w')
 case atStart=>exact⟨(0),qZ,H',⟨Nat.le_refl _⟩,by repeat (first|exact Drawn0.refl _|apply Drawn0.step)⟩
 clear H'
 obtain⟨x5_1,rfl,HA,HK1,⟨m1,rfl⟩⟩:=hrel
 rcases gk with _|k1
 ·exact absurd HA.out (by simp [Sl31Has.l0])
 have H:=HA.out
 clear HA
 simp only [Sl31Has.l0] at H
 replace H:=jD H;rcases H with ⟨c3b0,H⟩ | ⟨c3b0,H⟩
 ·replace H:=jI H;obtain⟨c4b0,H⟩:=H
  replace H:=jE H;rcases H with ⟨c5b0,c5b1,H⟩ | ⟨c5,c5b0,c5b1,H⟩
  ·obtain rfl:=Option.some.inj H
   have p336:0<=(x5_1:Int):=qD
   have q336:x5_1 < (l0.length:Int):=qD
   obtain⟨ad336,e336,hx336_0⟩:=Kd.at_int HR0.out x5_1 p336 q336
   cases e336
   replace p336:=eq_true p336
   replace q336:=eq_true q336
   go_wp2
   go_ret
   exact⟨qZ,qU⟩
  have H':=aM H
  clear H
  have p336:0<=(x5_1:Int):=qD
  have q336:x5_1 < (l0.length:Int):=qD
  obtain⟨ad336,e336,hx336_0⟩:=Kd.at_int HR0.out x5_1 p336 q336
  cases e336
  replace p336:=eq_true p336
  replace q336:=eq_true q336
  go_wp2
  go_roundg k1
  case measure=>have:=HK1.out;omega
  exact⟨(wrap64 (x5_1+1)),qZ,H',⟨by have:=HK1.out;omega⟩,by repeat (first|exact Drawn0.refl _|apply Drawn0.step)⟩
 obtain rfl:=Option.some.inj H
 go_wp2
 go_ret
 exact⟨qZ,qU⟩
def Sl33Any.f (k:Nat) (a0:Int) (l1:List Int):Option (Bool):=(Sl31Has.f k l1 a0).bind fun t606=>(some t606)
theorem Sl33Any.mono:∀ a0 a1 k,LeO (Sl33Any.f k a0 a1) (Sl33Any.f (k+1) a0 a1):=by
 intro a0 a1 k;unfold Sl33Any.f;have m0:=@Sl31Has.mono;exact mM
theorem Sl33Any.calls (k:Nat) (a0:Int) (A1:Option Addr) (c1:Nat) (l1:List Int) (r:Bool) (w:World) (hr1:Kd.C (Kd.int .i64) w A1 l1.length l1) (hc1:l1.length<=c1) (h:Sl33Any.f k a0 l1=some r) :
  Calls Try.prog 116 #[.int .i64 a0,.slice A1 l1.length c1] w fun e w'=>e = .returned (.bool r)/\Drawn0 w w':=by
 have HR1:=aM hr1
 have HC1:=aM hc1
 clear hr1 hc1
 have H:((Sl31Has.f k l1 a0).bind fun t606=>(some t606))=some r:=h
 clear h
 obtain⟨t606,A3,H⟩:=qE H
 try dsimp only at H
 obtain rfl:=Option.some.inj H
 go_enter Try.func116,Try.ntmps116
 go_wp2_with (first|((with_reducible refine jc 40 7 rfl rfl ?_);refine jG Try.func40 #[.slice A1 l1.length c1,.int .i64 a0] ?_;(with_reducible refine (Sl31Has.calls k _ _ l1 a0 t606 _ ?side1 ?side2 A3.out).mono ?_);(case side1=>exact kC HR1.out);(case side2=>exact HC1.out);rintro e w' ⟨rfl,⟨nd,rfl⟩⟩;refine⟨_,rfl,?_⟩))
 go_ret
 exact⟨qZ,qU⟩
mutual
def Sl33Bin.j0:Nat->Bool->Int->Int->Int->Int->Int->Int->Int->Int->Int->Option (Int × Int × Int × Int × Int)
 | 0,_,_,_,_,_,_,_,_,_,_=>none
 | k+1,x21,xa,xb,xc,xd,xe,xf,xg,xh,xi=>if x21=true then (some (2,xb,xc,0,0)) else ((Sl33Is.f xh xi 1).bind fun t619=>(if t619=true then ((Sl33Any.f k xe (([10,11]:List Int))).bind fun t623=>(Sl33Bin.j1 k t623 xa xb xc xd xe xf xg xh xi)) else (Sl33Bin.j1 k false xa xb xc xd xe xf xg xh xi)))
def Sl33Bin.j1:Nat->Bool->Int->Int->Int->Int->Int->Int->Int->Int->Int->Option (Int × Int × Int × Int × Int)
 | 0,_,_,_,_,_,_,_,_,_,_=>none
 | k+1,x35,xa,xb,xc,xd,xe,xf,xg,xh,xi=>if x35=true then (some (2,xb,xc,0,0)) else ((Sl33Is.f xf xg 0).bind fun t624=>(if t624=true then ((Sl33Any.f k xe (([1,2,8]:List Int))).bind fun t628=>(Sl33Bin.j2 k t628 xa xb xc xd xe xf xg xh xi)) else (Sl33Bin.j2 k false xa xb xc xd xe xf xg xh xi)))
def Sl33Bin.j2:Nat->Bool->Int->Int->Int->Int->Int->Int->Int->Int->Int->Option (Int × Int × Int × Int × Int)
 | 0,_,_,_,_,_,_,_,_,_,_=>none
 | k+1,x49,xa,xb,xc,xd,xe,xf,xg,xh,xi=>if x49=true then (some (2,xb,xd,0,0)) else ((Sl33Is.f xf xg 1).bind fun t629=>(if t629=true then (Sl33Bin.j3 k (xe == 10) xa xb xc xd xe xf xg xh xi) else (Sl33Bin.j3 k false xa xb xc xd xe xf xg xh xi)))
def Sl33Bin.j3:Nat->Bool->Int->Int->Int->Int->Int->Int->Int->Int->Int->Option (Int × Int × Int × Int × Int)
 | 0,_,_,_,_,_,_,_,_,_,_=>none
 | k+1,x63,xa,xb,xc,xd,xe,xf,xg,xh,xi=>if x63=true then (some (2,xb,xd,0,0)) else ((Sl33Is.f xf xg 0).bind fun t630=>(if t630=true then ((Sl33Any.f k xe (([3,10]:List Int))).bind fun t634=>(if t634=true then (some (1,xb,0,0,0)) else (some (xa,xb,xc,xd,xe)))) else ((Sl33Is.f xh xi 0).bind fun t635=>(if t635=true then ((Sl33Any.f k xe (([3,10]:List Int))).bind fun t639=>(if t639=true then (some (1,xb,0,0,0)) else (some (xa,xb,xc,xd,xe)))) else (some (xa,xb,xc,xd,xe))))))
end
def Sl33Bin.f (k:Nat) (a0_0:Int) (a0_1:Int) (a0_2:Int) (a0_3:Int) (a0_4:Int) (a1_0:Int) (a1_1:Int) (a2_0:Int) (a2_1:Int):Option (Int × Int × Int × Int × Int):=(Sl33Result.f k a0_0 a0_1 a0_2 a0_3 a0_4 a1_0 a1_1 a2_0 a2_1).bind fun bt611=>(if bt611.1=1 then (some (1,a0_1,0,0,bt611.2)) else ((Sl33Is.f a2_0 a2_1 0).bind fun t614=>(if t614=true then ((Sl33Any.f k a0_4 (([1,2,6,7,8,9]:List Int))).bind fun t618=>(Sl33Bin.j0 k t618 a0_0 a0_1 a0_2 a0_3 a0_4 a1_0 a1_1 a2_0 a2_1)) else (Sl33Bin.j0 k false a0_0 a0_1 a0_2 a0_3 a0_4 a1_0 a1_1 a2_0 a2_1))))
theorem Sl33Bin.mono_l:∀ k,(∀ y0 y1 y2 y3 y4 y5 y6 y7 y8 y9,LeO (Sl33Bin.j0 k y0 y1 y2 y3 y4 y5 y6 y7 y8 y9) (Sl33Bin.j0 (k+1) y0 y1 y2 y3 y4 y5 y6 y7 y8 y9))/\(∀ y0 y1 y2 y3 y4 y5 y6 y7 y8 y9,LeO (Sl33Bin.j1 k y0 y1 y2 y3 y4 y5 y6 y7 y8 y9) (Sl33Bin.j1 (k+1) y0 y1 y2 y3 y4 y5 y6 y7 y8 y9))/\(∀ y0 y1 y2 y3 y4 y5 y6 y7 y8 y9,LeO (Sl33Bin.j2 k y0 y1 y2 y3 y4 y5 y6 y7 y8 y9) (Sl33Bin.j2 (k+1) y0 y1 y2 y3 y4 y5 y6 y7 y8 y9))/\(∀ y0 y1 y2 y3 y4 y5 y6 y7 y8 y9,LeO (Sl33Bin.j3 k y0 y1 y2 y3 y4 y5 y6 y7 y8 y9) (Sl33Bin.j3 (k+1) y0 y1 y2 y3 y4 y5 y6 y7 y8 y9))
 | 0=>⟨fun _ _ _ _ _ _ _ _ _ _ r h=>by simp [Sl33Bin.j0] at h,fun _ _ _ _ _ _ _ _ _ _ r h=>by simp [Sl33Bin.j1] at h,fun _ _ _ _ _ _ _ _ _ _ r h=>by simp [Sl33Bin.j2] at h,fun _ _ _ _ _ _ _ _ _ _ r h=>by simp [Sl33Bin.j3] at h⟩
 | k+1=>by
  obtain⟨ih0,ih1,ih2,ih3⟩:=Sl33Bin.mono_l k;have m0:=@Sl33Any.mono;have m1:=@Sl33Result.mono
  exact⟨by intros;unfold Sl33Bin.j0;exact mM,by intros;unfold Sl33Bin.j1;exact mM,by intros;unfold Sl33Bin.j2;exact mM,by intros;unfold Sl33Bin.j3;exact mM⟩
theorem Sl33Bin.mono:∀ a0 a1 a2 a3 a4 a5 a6 a7 a8 k,LeO (Sl33Bin.f k a0 a1 a2 a3 a4 a5 a6 a7 a8) (Sl33Bin.f (k+1) a0 a1 a2 a3 a4 a5 a6 a7 a8):=by
 intro a0 a1 a2 a3 a4 a5 a6 a7 a8 k;obtain⟨ih0,ih1,ih2,ih3⟩:=Sl33Bin.mono_l k;unfold Sl33Bin.f;have m0:=@Sl33Any.mono;have m1:=@Sl33Result.mono;exact mM
theorem Sl33Bin_calls_s0 {G:Prop} (h:G:=by
  go_wp2_with (first|((with_reducible refine jc 106 78 rfl rfl ?_);refine jG Try.func106 #[.agg #[.int .i64 a1_0,.int .i64 a1_1],.int .i64 0] ?_;(with_reducible refine (Sl33Is.calls _ _ _ _ _ (Aside0.out (by assumption))).mono ?_);rintro e w_13a ⟨rfl,hb⟩;refine⟨_,rfl,?_⟩;replace BK607:=kB BK607 hb;replace BK608:=kB BK608 hb;replace BK609:=kB BK609 hb;replace BK610:=kB BK610 hb;replace BK613:=kB BK613 hb;replace HB:=kH hb;clear hb;have h_13b:=NB609_607.out;have h_13c:=NB607_609.out;have h_13d:=NB609_610.out;have h_13e:=NB610_609.out;have h_13f:=NB609_613.out;have h_13g:=NB613_609.out;have c_13h:=jz2 BK609)|(go_at_call 106;(with_reducible refine (Sl33Is.calls _ _ _ _ _ (Aside0.out (by assumption))).mono ?_);rintro e w_16a ⟨rfl,hb⟩;replace BK607:=kB BK607 hb;replace BK608:=kB BK608 hb;replace BK609:=kB BK609 hb;replace BK610:=kB BK610 hb;replace BK613:=kB BK613 hb;replace HB:=kH hb;clear hb;have h_16b:=NB607_610.out;have h_16c:=NB610_607.out;have h_16d:=NB607_613.out;have h_16e:=NB613_607.out;have c_16f:=jz5 BK607;have h_16g:=NB610_613.out;have h_16h:=NB613_610.out;have c_16i:=jz5 BK610)|((with_reducible refine jd 86 rfl ?_);(try (refine gate_guard (by rfl) ?_;dsimp only));refine jV (Kd.int .i64) 3 ([3,10]:List Int) [.int .i64 3,.int .i64 10] (Reps.one (show Kd.M (Kd.int .i64) _ _ _ 3 [.int .i64 3] from rfl) (Reps.one (show Kd.M (Kd.int .i64) _ _ _ 10 [.int .i64 10] from rfl) (Reps.none _ _))) ?_;intro v637 w_14a h_14b hb;(first|rw [<- Ny636.out] at h_14b|(simp only [Int.reduceToNat] at h_14b;rw [<- Ny636.out] at h_14b));have HO638:=kL h_14b;replace BK607:=kB BK607 hb;replace BK608:=kB BK608 hb;replace BK609:=kB BK609 hb;replace BK610:=kB BK610 hb;replace BK613:=kB BK613 hb;replace HB:=kH hb;clear hb h_14b;obtain⟨A_14c,c_14d,e_14e⟩:=Kd.R_slice HO638.out;subst e_14e)|(go_at_call 116;(with_reducible refine (Sl33Any.calls kj146 a0_4 _ _ y636 false _ ?side1 ?side2 A216.out).mono ?_);(case side1=>exact kC (Kd.R_reads' HO638.out).2.2);(case side2=>exact (Kd.R_reads' HO638.out).2.1);rintro e w' ⟨rfl,⟨nd,rfl⟩⟩;(try (rw [drewN_self w_14a];generalize hq_:World.drewN w_14a _=w_14a;have n0_:Aside0 (Kd.R (Kd.int .i64) 3 w_14a w.heap.size (fun _=>True) (.slice A_14c y636.length c_14d) y636):=⟨by rw [<- hq_];exact (qR HO638)⟩;have n1_:Aside0 (w_14a.heap[gb607]?=some (.cells #[.int .i64 a0_0,.int .i64 a0_1,.int .i64 a0_2,.int .i64 a0_3,.int .i64 a0_4] 46 (0,0))):=⟨by rw [<- hq_];exact (qK BK607)⟩;have n2_:Aside0 (w_14a.heap[gb608]?=some (.cells #[.int .i64 a1_0,.int .i64 a1_1] 74 (0,0))):=⟨by rw [<- hq_];exact (qK BK608)⟩;have n3_:Aside0 (w_14a.heap[gb609]?=some (.cells #[.int .i64 a2_0,.int .i64 a2_1] 74 (0,0))):=⟨by rw [<- hq_];exact (qK BK609)⟩;have n4_:Aside0 (w_14a.heap[gb610]?=some (.cells #[.int .i64 0,.int .i64 0,.int .i64 0,.int .i64 0,.int .i64 0] 46 (0,0))):=⟨by rw [<- hq_];exact (qK BK610)⟩;have n5_:Aside0 (w_14a.heap[gb613]?=some (.cells #[.int .i64 t611,.int .i64 t612] 74 (0,0))):=⟨by rw [<- hq_];exact (qK BK613)⟩;have n6_:Aside0 (Below w.heap.size w w_14a):=⟨by rw [<- hq_];exact qB⟩;clear HO638 BK607 BK608 BK609 BK610 BK613 HB hq_;have HO638:=n0_;have BK607:=n1_;have BK608:=n2_;have BK609:=n3_;have BK610:=n4_;have BK613:=n5_;have HB:=n6_;clear n0_ n1_ n2_ n3_ n4_ n5_ n6_));have c_15a:=jz5 BK607;have h_15b:=NB610_613.out;have h_15c:=NB613_610.out;have c_15d:=jz5 BK610))
  refine bodyPost_ret (results_cell_row rfl _ _ gb610 46 #[.int .i64 a0_0,.int .i64 a0_1,.int .i64 a0_2,.int .i64 a0_3,.int .i64 a0_4] (0,0) _ rfl (qF BK610) Try.underlying46 rfl (by kernel_rfl)) rfl ?_
  exact⟨qW,qB⟩):G:=h
theorem Sl33Bin_calls_s1 {G:Prop} (h:G:=by
  go_wp2_with (first|((with_reducible refine jc 106 23 rfl rfl ?_);refine jG Try.func106 #[.agg #[.int .i64 a2_0,.int .i64 a2_1],.int .i64 0] ?_;(with_reducible refine (Sl33Is.calls _ _ _ _ _ (Aside0.out (by assumption))).mono ?_);rintro e w_6a ⟨rfl,hb⟩;refine⟨_,rfl,?_⟩;replace BK607:=kB BK607 hb;replace BK608:=kB BK608 hb;replace BK609:=kB BK609 hb;replace BK610:=kB BK610 hb;replace BK613:=aM (blk_below (g:=gb613) (o:=.cells #[.int .i64 t611,.int .i64 t612] 74 (0,0)) (qF BK613) hb);replace HB:=kH hb;clear hb;have h_6b:=NB607_608.out;have h_6c:=NB608_607.out;have h_6d:=NB607_610.out;have h_6e:=NB610_607.out;have h_6f:=NB607_613.out;have h_6g:=NB613_607.out;have c_6h:=jz5 BK607)|((with_reducible refine jd 27 rfl ?_);(try (refine gate_guard (by rfl) ?_;dsimp only));refine jV (Kd.int .i64) 3 ([1,2,6,7,8,9]:List Int) [.int .i64 1,.int .i64 2,.int .i64 6,.int .i64 7,.int .i64 8,.int .i64 9] (Reps.one (show Kd.M (Kd.int .i64) _ _ _ 1 [.int .i64 1] from rfl) (Reps.one (show Kd.M (Kd.int .i64) _ _ _ 2 [.int .i64 2] from rfl) (Reps.one (show Kd.M (Kd.int .i64) _ _ _ 6 [.int .i64 6] from rfl) (Reps.one (show Kd.M (Kd.int .i64) _ _ _ 7 [.int .i64 7] from rfl) (Reps.one (show Kd.M (Kd.int .i64) _ _ _ 8 [.int .i64 8] from rfl) (Reps.one (show Kd.M (Kd.int .i64) _ _ _ 9 [.int .i64 9] from rfl) (Reps.none _ _))))))) ?_;intro v616 w_7a h_7b hb;(first|rw [<- Ny615.out] at h_7b|(simp only [Int.reduceToNat] at h_7b;rw [<- Ny615.out] at h_7b));have HO617:=kL h_7b;replace BK607:=kB BK607 hb;replace BK608:=kB BK608 hb;replace BK609:=kB BK609 hb;replace BK610:=kB BK610 hb;replace BK613:=kB BK613 hb;replace HB:=kH hb;clear hb h_7b;obtain⟨A_7c,c_7d,e_7e⟩:=Kd.R_slice HO617.out;subst e_7e)|(go_at_call 116;(with_reducible refine (Sl33Any.calls k a0_4 _ _ y615 t618 _ ?side1 ?side2 A51.out).mono ?_);(case side1=>exact kC (Kd.R_reads' HO617.out).2.2);(case side2=>exact (Kd.R_reads' HO617.out).2.1);rintro e w' ⟨rfl,⟨nd,rfl⟩⟩))
  go_meet
  exact⟨_,_,qZ,H',⟨by first|omega|exact Nat.le_refl _⟩,⟨qK BK607⟩,⟨qK BK608⟩,⟨qK BK609⟩,⟨qK BK610⟩,⟨qK BK613⟩,⟨qB⟩⟩):G:=h
theorem Sl33Bin_calls_s2 {G:Prop} (h:G:=by
  go_wp2_with (first|((with_reducible refine jc 106 51 rfl rfl ?_);refine jG Try.func106 #[.agg #[.int .i64 a1_0,.int .i64 a1_1],.int .i64 0] ?_;(with_reducible refine (Sl33Is.calls _ _ _ _ _ (Aside0.out (by assumption))).mono ?_);rintro e w_10a ⟨rfl,hb⟩;refine⟨_,rfl,?_⟩;replace BK607:=kB BK607 hb;replace BK608:=kB BK608 hb;replace BK609:=kB BK609 hb;replace BK610:=kB BK610 hb;replace BK613:=kB BK613 hb;replace HB:=kH hb;clear hb;have h_10b:=NB607_609.out;have h_10c:=NB609_607.out;have h_10d:=NB607_610.out;have h_10e:=NB610_607.out;have h_10f:=NB607_613.out;have h_10g:=NB613_607.out;have c_10h:=jz5 BK607)|((with_reducible refine jd 55 rfl ?_);(try (refine gate_guard (by rfl) ?_;dsimp only));refine jV (Kd.int .i64) 3 ([1,2,8]:List Int) [.int .i64 1,.int .i64 2,.int .i64 8] (Reps.one (show Kd.M (Kd.int .i64) _ _ _ 1 [.int .i64 1] from rfl) (Reps.one (show Kd.M (Kd.int .i64) _ _ _ 2 [.int .i64 2] from rfl) (Reps.one (show Kd.M (Kd.int .i64) _ _ _ 8 [.int .i64 8] from rfl) (Reps.none _ _)))) ?_;intro v626 w_11a h_11b hb;(first|rw [<- Ny625.out] at h_11b|(simp only [Int.reduceToNat] at h_11b;rw [<- Ny625.out] at h_11b));have HO627:=kL h_11b;replace BK607:=kB BK607 hb;replace BK608:=kB BK608 hb;replace BK609:=kB BK609 hb;replace BK610:=kB BK610 hb;replace BK613:=kB BK613 hb;replace HB:=kH hb;clear hb h_11b;obtain⟨A_11c,c_11d,e_11e⟩:=Kd.R_slice HO627.out;subst e_11e)|(go_at_call 116;(with_reducible refine (Sl33Any.calls kj80 a0_4 _ _ y625 t628 _ ?side1 ?side2 A117.out).mono ?_);(case side1=>exact kC (Kd.R_reads' HO627.out).2.2);(case side2=>exact (Kd.R_reads' HO627.out).2.1);rintro e w' ⟨rfl,⟨nd,rfl⟩⟩))
  go_meet
  exact⟨_,_,qZ,H',⟨by have:=HJ27.out;have:=HJ80.out;first|omega|exact Nat.le_refl _⟩,⟨qK BK607⟩,⟨qK BK608⟩,⟨qK BK609⟩,⟨qK BK610⟩,⟨qK BK613⟩,⟨qB⟩⟩):G:=h
theorem Sl33Bin_calls_s3 {G:Prop} (h:G:=by
  go_wp2_with (first|((with_reducible refine jc 106 37 rfl rfl ?_);refine jG Try.func106 #[.agg #[.int .i64 a2_0,.int .i64 a2_1],.int .i64 1] ?_;(with_reducible refine (Sl33Is.calls _ _ _ _ _ (Aside0.out (by assumption))).mono ?_);rintro e w_8a ⟨rfl,hb⟩;refine⟨_,rfl,?_⟩;replace BK607:=kB BK607 hb;replace BK608:=kB BK608 hb;replace BK609:=kB BK609 hb;replace BK610:=kB BK610 hb;replace BK613:=kB BK613 hb;replace HB:=kH hb;clear hb;have h_8b:=NB607_608.out;have h_8c:=NB608_607.out;have h_8d:=NB607_610.out;have h_8e:=NB610_607.out;have h_8f:=NB607_613.out;have h_8g:=NB613_607.out;have c_8h:=jz5 BK607)|((with_reducible refine jd 41 rfl ?_);(try (refine gate_guard (by rfl) ?_;dsimp only));refine jV (Kd.int .i64) 3 ([10,11]:List Int) [.int .i64 10,.int .i64 11] (Reps.one (show Kd.M (Kd.int .i64) _ _ _ 10 [.int .i64 10] from rfl) (Reps.one (show Kd.M (Kd.int .i64) _ _ _ 11 [.int .i64 11] from rfl) (Reps.none _ _))) ?_;intro v621 w_9a h_9b hb;(first|rw [<- Ny620.out] at h_9b|(simp only [Int.reduceToNat] at h_9b;rw [<- Ny620.out] at h_9b));have HO622:=kL h_9b;replace BK607:=kB BK607 hb;replace BK608:=kB BK608 hb;replace BK609:=kB BK609 hb;replace BK610:=kB BK610 hb;replace BK613:=kB BK613 hb;replace HB:=kH hb;clear hb h_9b;obtain⟨A_9c,c_9d,e_9e⟩:=Kd.R_slice HO622.out;subst e_9e)|(go_at_call 116;(with_reducible refine (Sl33Any.calls kj27 a0_4 _ _ y620 t623 _ ?side1 ?side2 A84.out).mono ?_);(case side1=>exact kC (Kd.R_reads' HO622.out).2.2);(case side2=>exact (Kd.R_reads' HO622.out).2.1);rintro e w' ⟨rfl,⟨nd,rfl⟩⟩))
  go_meet
  exact⟨_,_,qZ,H',⟨by have:=HJ27.out;first|omega|exact Nat.le_refl _⟩,⟨qK BK607⟩,⟨qK BK608⟩,⟨qK BK609⟩,⟨qK BK610⟩,⟨qK BK613⟩,⟨qB⟩⟩):G:=h
theorem Sl33Bin_calls_s4 {G:Prop} (h:G:=by
  go_wp2_with (first|((with_reducible refine jc 106 65 rfl rfl ?_);refine jG Try.func106 #[.agg #[.int .i64 a1_0,.int .i64 a1_1],.int .i64 1] ?_;(with_reducible refine (Sl33Is.calls _ _ _ _ _ (Aside0.out (by assumption))).mono ?_);rintro e w_12a ⟨rfl,hb⟩;refine⟨_,rfl,?_⟩;replace BK607:=kB BK607 hb;replace BK608:=kB BK608 hb;replace BK609:=kB BK609 hb;replace BK610:=kB BK610 hb;replace BK613:=kB BK613 hb;replace HB:=kH hb;clear hb;have h_12b:=NB607_609.out;have h_12c:=NB609_607.out;have h_12d:=NB607_610.out;have h_12e:=NB610_607.out;have h_12f:=NB607_613.out;have h_12g:=NB613_607.out;have c_12h:=jz5 BK607))
  go_meet
  exact⟨_,_,qZ,H',⟨by have:=HJ27.out;have:=HJ80.out;have:=HJ113.out;first|omega|exact Nat.le_refl _⟩,⟨qK BK607⟩,⟨qK BK608⟩,⟨qK BK609⟩,⟨qK BK610⟩,⟨qK BK613⟩,⟨qB⟩⟩):G:=h
theorem Sl33Bin.calls (k:Nat) (a0_0:Int) (a0_1:Int) (a0_2:Int) (a0_3:Int) (a0_4:Int) (a1_0:Int) (a1_1:Int) (a2_0:Int) (a2_1:Int) (r1:Int) (r2:Int) (r3:Int) (r4:Int) (r5:Int) (w:World) (h:Sl33Bin.f k a0_0 a0_1 a0_2 a0_3 a0_4 a1_0 a1_1 a2_0 a2_1=some (r1,r2,r3,r4,r5)) :
  Calls Try.prog 105 #[.agg #[.int .i64 a0_0,.int .i64 a0_1,.int .i64 a0_2,.int .i64 a0_3,.int .i64 a0_4],.agg #[.int .i64 a1_0,.int .i64 a1_1],.agg #[.int .i64 a2_0,.int .i64 a2_1]] w fun e w'=>e = .returned (.agg #[.int .i64 r1,.int .i64 r2,.int .i64 r3,.int .i64 r4,.int .i64 r5])/\Below w.heap.size w w':=by
 have hu46:=Try.underlying46
 have hu74:=Try.underlying74
 have HB:=aM (Below.refl w.heap.size w)
 have H:=h;unfold Sl33Bin.f at H
 clear h
 obtain⟨⟨t611,t612⟩,A4,H⟩:=qE H
 try dsimp only at H
 replace H:=jE H;rcases H with ⟨c5b0,c5b1,H⟩ | ⟨c5,c5b0,c5b1,H⟩
 ·simp only [Option.some.injEq,Prod.mk.injEq] at H
  obtain⟨rfl,rfl,rfl,rfl,rfl⟩:=H
  go_enter Try.func105,Try.ntmps105
  go_wp2_with (first|((with_reducible refine jd 3 rfl ?_);(try (refine gate_guard (by rfl) ?_;dsimp only));refine jX _ 46 ?_;intro gb607 hg w_0a hbox hb;have BK607:=aM hbox;have GW607:=kG hg;replace HB:=kH hb;clear hb hbox hg)|((with_reducible refine jd 4 rfl ?_);(try (refine gate_guard (by rfl) ?_;dsimp only));refine jX _ 74 ?_;intro gb608 hg w_1a hbox hb;have BK608:=aM hbox;have GW608:=kG hg;have NB607_608:=kN hg BK607;have NB608_607:=kM hg BK607;replace BK607:=kB BK607 hb;replace HB:=kH hb;clear hb hbox hg)|((with_reducible refine jd 5 rfl ?_);(try (refine gate_guard (by rfl) ?_;dsimp only));refine jX _ 74 ?_;intro gb609 hg w_2a hbox hb;have BK609:=aM hbox;have GW609:=kG hg;have NB607_609:=kN hg BK607;have NB609_607:=kM hg BK607;have NB608_609:=kN hg BK608;have NB609_608:=kM hg BK608;replace BK607:=kB BK607 hb;replace BK608:=kB BK608 hb;replace HB:=kH hb;clear hb hbox hg)|((with_reducible refine jd 6 rfl ?_);(try (refine gate_guard (by rfl) ?_;dsimp only));refine jX _ 46 ?_;intro gb610 hg w_3a hbox hb;have BK610:=aM hbox;have GW610:=kG hg;have NB607_610:=kN hg BK607;have NB610_607:=kM hg BK607;have NB608_610:=kN hg BK608;have NB610_608:=kM hg BK608;have NB609_610:=kN hg BK609;have NB610_609:=kM hg BK609;replace BK607:=kB BK607 hb;replace BK608:=kB BK608 hb;replace BK609:=kB BK609 hb;replace HB:=kH hb;clear hb hbox hg;have h_3b:=NB607_608.out;have h_3c:=NB608_607.out;have h_3d:=NB607_609.out;have h_3e:=NB609_607.out;have h_3f:=NB607_610.out;have h_3g:=NB610_607.out;have c_3h:=jz5 BK607;have h_3i:=NB608_609.out;have h_3j:=NB609_608.out;have h_3k:=NB608_610.out;have h_3l:=NB610_608.out;have c_3m:=jz2 BK608;have h_3n:=NB609_610.out;have h_3o:=NB610_609.out;have c_3p:=jz2 BK609)|((with_reducible refine jc 115 11 rfl rfl ?_);refine jG Try.func115 #[.agg #[.int .i64 a0_0,.int .i64 a0_1,.int .i64 a0_2,.int .i64 a0_3,.int .i64 a0_4],.agg #[.int .i64 a1_0,.int .i64 a1_1],.agg #[.int .i64 a2_0,.int .i64 a2_1]] ?_;(with_reducible refine (Sl33Result.calls _ _ _ _ _ _ _ _ _ _ _ _ _ (Aside0.out (by assumption))).mono ?_);rintro e w_4a ⟨rfl,hb⟩;refine⟨_,rfl,?_⟩;replace BK607:=kB BK607 hb;replace BK608:=kB BK608 hb;replace BK609:=kB BK609 hb;replace BK610:=kB BK610 hb;replace HB:=kH hb;clear hb)|((with_reducible refine jd 7 rfl ?_);(try (refine gate_guard (by rfl) ?_;dsimp only));refine jX _ 74 ?_;intro gb613 hg w_5a hbox hb;have BK613:=aM hbox;have GW613:=kG hg;have NB607_613:=kN hg BK607;have NB613_607:=kM hg BK607;have NB608_613:=kN hg BK608;have NB613_608:=kM hg BK608;have NB609_613:=kN hg BK609;have NB613_609:=kM hg BK609;have NB610_613:=kN hg BK610;have NB613_610:=kM hg BK610;replace BK607:=kB BK607 hb;replace BK608:=kB BK608 hb;replace BK609:=kB BK609 hb;replace BK610:=kB BK610 hb;replace HB:=kH hb;clear hb hbox hg;have h_5b:=NB613_607.out;have h_5c:=NB607_613.out;have h_5d:=NB613_608.out;have h_5e:=NB608_613.out;have h_5f:=NB613_609.out;have h_5g:=NB609_613.out;have h_5h:=NB613_610.out;have h_5i:=NB610_613.out;have c_5j:=jz2 BK613;have c_5k:=jz5 BK607;have c_5l:=jz5 BK610))
  refine bodyPost_ret (results_cell_row rfl _ _ gb610 46 #[.int .i64 1,.int .i64 a0_1,.int .i64 0,.int .i64 0,.int .i64 t612] (0,0) _ rfl (qF BK610) Try.underlying46 rfl (by kernel_rfl)) rfl ?_
  exact⟨qW,qB⟩
 have HC28:=aM H
 clear H
 go_enter Try.func105,Try.ntmps105
 go_upto_region 4 with (first|((with_reducible refine jd 3 rfl ?_);(try (refine gate_guard (by rfl) ?_;dsimp only));refine jX _ 46 ?_;intro gb607 hg w29 hbox hb;have BK607:=aM hbox;have GW607:=kG hg;replace HB:=kH hb;clear hb hbox hg)|((with_reducible refine jd 4 rfl ?_);(try (refine gate_guard (by rfl) ?_;dsimp only));refine jX _ 74 ?_;intro gb608 hg w30 hbox hb;have BK608:=aM hbox;have GW608:=kG hg;have NB607_608:=kN hg BK607;have NB608_607:=kM hg BK607;replace BK607:=kB BK607 hb;replace HB:=kH hb;clear hb hbox hg)|((with_reducible refine jd 5 rfl ?_);(try (refine gate_guard (by rfl) ?_;dsimp only));refine jX _ 74 ?_;intro gb609 hg w31 hbox hb;have BK609:=aM hbox;have GW609:=kG hg;have NB607_609:=kN hg BK607;have NB609_607:=kM hg BK607;have NB608_609:=kN hg BK608;have NB609_608:=kM hg BK608;replace BK607:=kB BK607 hb;replace BK608:=kB BK608 hb;replace HB:=kH hb;clear hb hbox hg)|((with_reducible refine jd 6 rfl ?_);(try (refine gate_guard (by rfl) ?_;dsimp only));refine jX _ 46 ?_;intro gb610 hg w32 hbox hb;have BK610:=aM hbox;have GW610:=kG hg;have NB607_610:=kN hg BK607;have NB610_607:=kM hg BK607;have NB608_610:=kN hg BK608;have NB610_608:=kM hg BK608;have NB609_610:=kN hg BK609;have NB610_609:=kM hg BK609;replace BK607:=kB BK607 hb;replace BK608:=kB BK608 hb;replace BK609:=kB BK609 hb;replace HB:=kH hb;clear hb hbox hg;have hnb33:=NB607_608.out;have hnc33:=NB608_607.out;have hnb34:=NB607_609.out;have hnc34:=NB609_607.out;have hnb35:=NB607_610.out;have hnc35:=NB610_607.out;have cz36:=jz5 BK607;have hnb37:=NB608_609.out;have hnc37:=NB609_608.out;have hnb38:=NB608_610.out;have hnc38:=NB610_608.out;have cz39:=jz2 BK608;have hnb40:=NB609_610.out;have hnc40:=NB610_609.out;have cz41:=jz2 BK609)|((with_reducible refine jc 115 11 rfl rfl ?_);refine jG Try.func115 #[.agg #[.int .i64 a0_0,.int .i64 a0_1,.int .i64 a0_2,.int .i64 a0_3,.int .i64 a0_4],.agg #[.int .i64 a1_0,.int .i64 a1_1],.agg #[.int .i64 a2_0,.int .i64 a2_1]] ?_;(with_reducible refine (Sl33Result.calls k a0_0 a0_1 a0_2 a0_3 a0_4 a1_0 a1_1 a2_0 a2_1 t611 t612 _ A4.out).mono ?_);rintro e w42 ⟨rfl,hb⟩;refine⟨_,rfl,?_⟩;replace BK607:=kB BK607 hb;replace BK608:=kB BK608 hb;replace BK609:=kB BK609 hb;replace BK610:=kB BK610 hb;replace HB:=kH hb;clear hb)|((with_reducible refine jd 7 rfl ?_);(try (refine gate_guard (by rfl) ?_;dsimp only));refine jX _ 74 ?_;intro gb613 hg w43 hbox hb;have BK613:=aM hbox;have GW613:=kG hg;have NB607_613:=kN hg BK607;have NB613_607:=kM hg BK607;have NB608_613:=kN hg BK608;have NB613_608:=kM hg BK608;have NB609_613:=kN hg BK609;have NB613_609:=kM hg BK609;have NB610_613:=kN hg BK610;have NB613_610:=kM hg BK610;replace BK607:=kB BK607 hb;replace BK608:=kB BK608 hb;replace BK609:=kB BK609 hb;replace BK610:=kB BK610 hb;replace HB:=kH hb;clear hb hbox hg;have hnb44:=NB613_607.out;have hnc44:=NB607_613.out;have hnb45:=NB613_608.out;have hnc45:=NB608_613.out;have hnb46:=NB613_609.out;have hnc46:=NB609_613.out;have hnb47:=NB613_610.out;have hnc47:=NB610_613.out;have cz48:=jz2 BK613))
 (try simp only [Act.put,List.setIfInBounds_toArray,List.set_cons_zero,List.set_cons_succ])
 go_cut [21] (fun v21 wc=>∃ (kq:Nat) (x21_27:Bool),v21 = .bool x21_27/\Aside0 (Sl33Bin.j0 kq x21_27 a0_0 a0_1 a0_2 a0_3 a0_4 a1_0 a1_1 a2_0 a2_1=some (r1,r2,r3,r4,r5))/\Aside0 (kq<=k)/\Aside0 (wc.heap[gb607]?=some (.cells #[.int .i64 a0_0,.int .i64 a0_1,.int .i64 a0_2,.int .i64 a0_3,.int .i64 a0_4] 46 (0,0)))/\Aside0 (wc.heap[gb608]?=some (.cells #[.int .i64 a1_0,.int .i64 a1_1] 74 (0,0)))/\Aside0 (wc.heap[gb609]?=some (.cells #[.int .i64 a2_0,.int .i64 a2_1] 74 (0,0)))/\Aside0 (wc.heap[gb610]?=some (.cells #[.int .i64 0,.int .i64 0,.int .i64 0,.int .i64 0,.int .i64 0] 46 (0,0)))/\Aside0 (wc.heap[gb613]?=some (.cells #[.int .i64 t611,.int .i64 t612] 74 (0,0)))/\Aside0 (Below w.heap.size w wc))
 case first =>
  have H:=HC28.out
  clear HC28
  obtain⟨t614,A49,H⟩:=qE H
  try dsimp only at H
  replace H:=jB H;rcases H with ⟨rfl,H⟩ | ⟨rfl,H⟩
  ·obtain⟨y615,Ny615⟩:=ky ((([1,2,6,7,8,9]:List Int)):List Int)
   first|replace H:=kz Ny615 H|rw [<- Ny615.out] at H
   obtain⟨t618,A51,H⟩:=qE H
   try dsimp only at H
   have H':=aM H
   clear H
   have hnb52:=NB609_607.out
   have hnc52:=NB607_609.out
   have hnb53:=NB609_608.out
   have hnc53:=NB608_609.out
   have hnb54:=NB609_610.out
   have hnc54:=NB610_609.out
   have hnb55:=NB609_613.out
   have hnc55:=NB613_609.out
   have cz56:=jz2 BK609
   exact Sl33Bin_calls_s1
  have H':=aM H
  clear H
  have hnb65:=NB609_607.out
  have hnc65:=NB607_609.out
  have hnb66:=NB609_608.out
  have hnc66:=NB608_609.out
  have hnb67:=NB609_610.out
  have hnc67:=NB610_609.out
  have hnb68:=NB609_613.out
  have hnc68:=NB613_609.out
  have cz69:=jz2 BK609
  exact Sl33Bin_calls_s1
 clear HC28
 try clear c5;try clear c5b0;try clear c5b1;try clear cz36;try clear cz39;try clear cz41;try clear cz48
 obtain⟨kq,x21_27,rfl,HA,HJ27,BK607,BK608,BK609,BK610,BK613,HB⟩:=hcut
 cases kq with
 | zero=>exact absurd HA.out (by simp [Sl33Bin.j0])
 | succ kj27 =>
  have H:=HA.out
  clear HA
  simp only [Sl33Bin.j0] at H
  replace H:=jB H;rcases H with ⟨rfl,H⟩ | ⟨rfl,H⟩
  ·simp only [Option.some.injEq,Prod.mk.injEq] at H
   obtain⟨rfl,rfl,rfl,rfl,rfl⟩:=H
   have hnb72:=NB607_608.out
   have hnc72:=NB608_607.out
   have hnb73:=NB607_609.out
   have hnc73:=NB609_607.out
   have hnb74:=NB607_610.out
   have hnc74:=NB610_607.out
   have hnb75:=NB607_613.out
   have hnc75:=NB613_607.out
   have cz76:=jz5 BK607
   have hnb77:=NB610_608.out
   have hnc77:=NB608_610.out
   have hnb78:=NB610_609.out
   have hnc78:=NB609_610.out
   have hnb79:=NB610_613.out
   have hnc79:=NB613_610.out
   have cz80:=jz5 BK610
   go_wp2
   refine bodyPost_ret (results_cell_row rfl _ _ gb610 46 #[.int .i64 2,.int .i64 a0_1,.int .i64 a0_2,.int .i64 0,.int .i64 0] (0,0) _ rfl (qF BK610) Try.underlying46 rfl (by kernel_rfl)) rfl ?_
   exact⟨qW,qB⟩
  have HC81:=aM H
  clear H
  go_upto_region 6 with (fail)
  go_cut [35] (fun v35 wc=>∃ (kq:Nat) (x35_80:Bool),v35 = .bool x35_80/\Aside0 (Sl33Bin.j1 kq x35_80 a0_0 a0_1 a0_2 a0_3 a0_4 a1_0 a1_1 a2_0 a2_1=some (r1,r2,r3,r4,r5))/\Aside0 (kq<=kj27)/\Aside0 (wc.heap[gb607]?=some (.cells #[.int .i64 a0_0,.int .i64 a0_1,.int .i64 a0_2,.int .i64 a0_3,.int .i64 a0_4] 46 (0,0)))/\Aside0 (wc.heap[gb608]?=some (.cells #[.int .i64 a1_0,.int .i64 a1_1] 74 (0,0)))/\Aside0 (wc.heap[gb609]?=some (.cells #[.int .i64 a2_0,.int .i64 a2_1] 74 (0,0)))/\Aside0 (wc.heap[gb610]?=some (.cells #[.int .i64 0,.int .i64 0,.int .i64 0,.int .i64 0,.int .i64 0] 46 (0,0)))/\Aside0 (wc.heap[gb613]?=some (.cells #[.int .i64 t611,.int .i64 t612] 74 (0,0)))/\Aside0 (Below w.heap.size w wc))
  case first =>
   have H:=HC81.out
   clear HC81
   obtain⟨t619,A82,H⟩:=qE H
   try dsimp only at H
   replace H:=jB H;rcases H with ⟨rfl,H⟩ | ⟨rfl,H⟩
   ·obtain⟨y620,Ny620⟩:=ky ((([10,11]:List Int)):List Int)
    first|replace H:=kz Ny620 H|rw [<- Ny620.out] at H
    obtain⟨t623,A84,H⟩:=qE H
    try dsimp only at H
    have H':=aM H
    clear H
    have hnb85:=NB609_607.out
    have hnc85:=NB607_609.out
    have hnb86:=NB609_608.out
    have hnc86:=NB608_609.out
    have hnb87:=NB609_610.out
    have hnc87:=NB610_609.out
    have hnb88:=NB609_613.out
    have hnc88:=NB613_609.out
    have cz89:=jz2 BK609
    exact Sl33Bin_calls_s3
   have H':=aM H
   clear H
   have hnb98:=NB609_607.out
   have hnc98:=NB607_609.out
   have hnb99:=NB609_608.out
   have hnc99:=NB608_609.out
   have hnb100:=NB609_610.out
   have hnc100:=NB610_609.out
   have hnb101:=NB609_613.out
   have hnc101:=NB613_609.out
   have cz102:=jz2 BK609
   exact Sl33Bin_calls_s3
  clear HC81
  try clear c5;try clear c5b0;try clear c5b1;try clear cz36;try clear cz39;try clear cz41;try clear cz48
  obtain⟨kq,x35_80,rfl,HA,HJ80,BK607,BK608,BK609,BK610,BK613,HB⟩:=hcut
  cases kq with
  | zero=>exact absurd HA.out (by simp [Sl33Bin.j1])
  | succ kj80 =>
   have H:=HA.out
   clear HA
   simp only [Sl33Bin.j1] at H
   replace H:=jB H;rcases H with ⟨rfl,H⟩ | ⟨rfl,H⟩
   ·simp only [Option.some.injEq,Prod.mk.injEq] at H
    obtain⟨rfl,rfl,rfl,rfl,rfl⟩:=H
    have hnb105:=NB607_608.out
    have hnc105:=NB608_607.out
    have hnb106:=NB607_609.out
    have hnc106:=NB609_607.out
    have hnb107:=NB607_610.out
    have hnc107:=NB610_607.out
    have hnb108:=NB607_613.out
    have hnc108:=NB613_607.out
    have cz109:=jz5 BK607
    have hnb110:=NB610_608.out
    have hnc110:=NB608_610.out
    have hnb111:=NB610_609.out
    have hnc111:=NB609_610.out
    have hnb112:=NB610_613.out
    have hnc112:=NB613_610.out
    have cz113:=jz5 BK610
    go_wp2
    refine bodyPost_ret (results_cell_row rfl _ _ gb610 46 #[.int .i64 2,.int .i64 a0_1,.int .i64 a0_2,.int .i64 0,.int .i64 0] (0,0) _ rfl (qF BK610) Try.underlying46 rfl (by kernel_rfl)) rfl ?_
    exact⟨qW,qB⟩
   have HC114:=aM H
   clear H
   go_upto_region 8 with (fail)
   go_cut [49] (fun v49 wc=>∃ (kq:Nat) (x49_113:Bool),v49 = .bool x49_113/\Aside0 (Sl33Bin.j2 kq x49_113 a0_0 a0_1 a0_2 a0_3 a0_4 a1_0 a1_1 a2_0 a2_1=some (r1,r2,r3,r4,r5))/\Aside0 (kq<=kj80)/\Aside0 (wc.heap[gb607]?=some (.cells #[.int .i64 a0_0,.int .i64 a0_1,.int .i64 a0_2,.int .i64 a0_3,.int .i64 a0_4] 46 (0,0)))/\Aside0 (wc.heap[gb608]?=some (.cells #[.int .i64 a1_0,.int .i64 a1_1] 74 (0,0)))/\Aside0 (wc.heap[gb609]?=some (.cells #[.int .i64 a2_0,.int .i64 a2_1] 74 (0,0)))/\Aside0 (wc.heap[gb610]?=some (.cells #[.int .i64 0,.int .i64 0,.int .i64 0,.int .i64 0,.int .i64 0] 46 (0,0)))/\Aside0 (wc.heap[gb613]?=some (.cells #[.int .i64 t611,.int .i64 t612] 74 (0,0)))/\Aside0 (Below w.heap.size w wc))
   case first =>
    have H:=HC114.out
    clear HC114
    obtain⟨t624,A115,H⟩:=qE H
    try dsimp only at H
    replace H:=jB H;rcases H with ⟨rfl,H⟩ | ⟨rfl,H⟩
    ·obtain⟨y625,Ny625⟩:=ky ((([1,2,8]:List Int)):List Int)
     first|replace H:=kz Ny625 H|rw [<- Ny625.out] at H
     obtain⟨t628,A117,H⟩:=qE H
     try dsimp only at H
     have H':=aM H
     clear H
     have hnb118:=NB608_607.out
     have hnc118:=NB607_608.out
     have hnb119:=NB608_609.out
     have hnc119:=NB609_608.out
     have hnb120:=NB608_610.out
     have hnc120:=NB610_608.out
     have hnb121:=NB608_613.out
     have hnc121:=NB613_608.out
     have cz122:=jz2 BK608
     exact Sl33Bin_calls_s2
    have H':=aM H
    clear H
    have hnb131:=NB608_607.out
    have hnc131:=NB607_608.out
    have hnb132:=NB608_609.out
    have hnc132:=NB609_608.out
    have hnb133:=NB608_610.out
    have hnc133:=NB610_608.out
    have hnb134:=NB608_613.out
    have hnc134:=NB613_608.out
    have cz135:=jz2 BK608
    exact Sl33Bin_calls_s2
   clear HC114
   try clear c5;try clear c5b0;try clear c5b1;try clear cz36;try clear cz39;try clear cz41;try clear cz48
   obtain⟨kq,x49_113,rfl,HA,HJ113,BK607,BK608,BK609,BK610,BK613,HB⟩:=hcut
   cases kq with
   | zero=>exact absurd HA.out (by simp [Sl33Bin.j2])
   | succ kj113 =>
    have H:=HA.out
    clear HA
    simp only [Sl33Bin.j2] at H
    replace H:=jB H;rcases H with ⟨rfl,H⟩ | ⟨rfl,H⟩
    ·simp only [Option.some.injEq,Prod.mk.injEq] at H
     obtain⟨rfl,rfl,rfl,rfl,rfl⟩:=H
     have hnb138:=NB607_608.out
     have hnc138:=NB608_607.out
     have hnb139:=NB607_609.out
     have hnc139:=NB609_607.out
     have hnb140:=NB607_610.out
     have hnc140:=NB610_607.out
     have hnb141:=NB607_613.out
     have hnc141:=NB613_607.out
     have cz142:=jz5 BK607
     have hnb143:=NB610_608.out
     have hnc143:=NB608_610.out
     have hnb144:=NB610_609.out
     have hnc144:=NB609_610.out
     have hnb145:=NB610_613.out
     have hnc145:=NB613_610.out
     have cz146:=jz5 BK610
     go_wp2
     refine bodyPost_ret (results_cell_row rfl _ _ gb610 46 #[.int .i64 2,.int .i64 a0_1,.int .i64 a0_3,.int .i64 0,.int .i64 0] (0,0) _ rfl (qF BK610) Try.underlying46 rfl (by kernel_rfl)) rfl ?_
     exact⟨qW,qB⟩
    have HC147:=aM H
    clear H
    go_upto_region 10 with (fail)
    go_cut [63] (fun v63 wc=>∃ (kq:Nat) (x63_146:Bool),v63 = .bool x63_146/\Aside0 (Sl33Bin.j3 kq x63_146 a0_0 a0_1 a0_2 a0_3 a0_4 a1_0 a1_1 a2_0 a2_1=some (r1,r2,r3,r4,r5))/\Aside0 (kq<=kj113)/\Aside0 (wc.heap[gb607]?=some (.cells #[.int .i64 a0_0,.int .i64 a0_1,.int .i64 a0_2,.int .i64 a0_3,.int .i64 a0_4] 46 (0,0)))/\Aside0 (wc.heap[gb608]?=some (.cells #[.int .i64 a1_0,.int .i64 a1_1] 74 (0,0)))/\Aside0 (wc.heap[gb609]?=some (.cells #[.int .i64 a2_0,.int .i64 a2_1] 74 (0,0)))/\Aside0 (wc.heap[gb610]?=some (.cells #[.int .i64 0,.int .i64 0,.int .i64 0,.int .i64 0,.int .i64 0] 46 (0,0)))/\Aside0 (wc.heap[gb613]?=some (.cells #[.int .i64 t611,.int .i64 t612] 74 (0,0)))/\Aside0 (Below w.heap.size w wc))
    case first =>
     have H:=HC147.out
     clear HC147
     obtain⟨t629,A148,H⟩:=qE H
     try dsimp only at H
     replace H:=jB H;rcases H with ⟨rfl,H⟩ | ⟨rfl,H⟩
     ·have H':=aM H
      clear H
      have hnb150:=NB608_607.out
      have hnc150:=NB607_608.out
      have hnb151:=NB608_609.out
      have hnc151:=NB609_608.out
      have hnb152:=NB608_610.out
      have hnc152:=NB610_608.out
      have hnb153:=NB608_613.out
      have hnc153:=NB613_608.out
      have cz154:=jz2 BK608
      exact Sl33Bin_calls_s4
     have H':=aM H
     clear H
     have hnb160:=NB608_607.out
     have hnc160:=NB607_608.out
     have hnb161:=NB608_609.out
     have hnc161:=NB609_608.out
     have hnb162:=NB608_610.out
     have hnc162:=NB610_608.out
     have hnb163:=NB608_613.out
     have hnc163:=NB613_608.out
     have cz164:=jz2 BK608
     exact Sl33Bin_calls_s4
    clear HC147
    try clear c5;try clear c5b0;try clear c5b1;try clear cz36;try clear cz39;try clear cz41;try clear cz48
    obtain⟨kq,x63_146,rfl,HA,HJ146,BK607,BK608,BK609,BK610,BK613,HB⟩:=hcut
    cases kq with
    | zero=>exact absurd HA.out (by simp [Sl33Bin.j3])
    | succ kj146 =>
     have H:=HA.out
     clear HA
     simp only [Sl33Bin.j3] at H
     replace H:=jB H;rcases H with ⟨rfl,H⟩ | ⟨rfl,H⟩
     ·simp only [Option.some.injEq,Prod.mk.injEq] at H
      obtain⟨rfl,rfl,rfl,rfl,rfl⟩:=H
      have hnb167:=NB607_608.out
      have hnc167:=NB608_607.out
      have hnb168:=NB607_609.out
      have hnc168:=NB609_607.out
      have hnb169:=NB607_610.out
      have hnc169:=NB610_607.out
      have hnb170:=NB607_613.out
      have hnc170:=NB613_607.out
      have cz171:=jz5 BK607
      have hnb172:=NB610_608.out
      have hnc172:=NB608_610.out
      have hnb173:=NB610_609.out
      have hnc173:=NB609_610.out
      have hnb174:=NB610_613.out
      have hnc174:=NB613_610.out
      have cz175:=jz5 BK610
      go_wp2
      refine bodyPost_ret (results_cell_row rfl _ _ gb610 46 #[.int .i64 2,.int .i64 a0_1,.int .i64 a0_3,.int .i64 0,.int .i64 0] (0,0) _ rfl (qF BK610) Try.underlying46 rfl (by kernel_rfl)) rfl ?_
      exact⟨qW,qB⟩
     obtain⟨t630,A176,H⟩:=qE H
     try dsimp only at H
     replace H:=jB H;rcases H with ⟨rfl,H⟩ | ⟨rfl,H⟩
     ·obtain⟨y631,Ny631⟩:=ky ((([3,10]:List Int)):List Int)
      first|replace H:=kz Ny631 H|rw [<- Ny631.out] at H
      obtain⟨t634,A178,H⟩:=qE H
      try dsimp only at H
      replace H:=jB H;rcases H with ⟨rfl,H⟩ | ⟨rfl,H⟩
      ·simp only [Option.some.injEq,Prod.mk.injEq] at H
       obtain⟨rfl,rfl,rfl,rfl,rfl⟩:=H
       have hnb180:=NB608_607.out
       have hnc180:=NB607_608.out
       have hnb181:=NB608_609.out
       have hnc181:=NB609_608.out
       have hnb182:=NB608_610.out
       have hnc182:=NB610_608.out
       have hnb183:=NB608_613.out
       have hnc183:=NB613_608.out
       have cz184:=jz2 BK608
       go_wp2_with (first|((with_reducible refine jc 106 78 rfl rfl ?_);refine jG Try.func106 #[.agg #[.int .i64 a1_0,.int .i64 a1_1],.int .i64 0] ?_;(with_reducible refine (Sl33Is.calls _ _ _ _ _ (Aside0.out (by assumption))).mono ?_);rintro e w_13a ⟨rfl,hb⟩;refine⟨_,rfl,?_⟩;replace BK607:=kB BK607 hb;replace BK608:=kB BK608 hb;replace BK609:=kB BK609 hb;replace BK610:=kB BK610 hb;replace BK613:=kB BK613 hb;replace HB:=kH hb;clear hb;have h_13b:=NB607_609.out;have h_13c:=NB609_607.out;have h_13d:=NB607_610.out;have h_13e:=NB610_607.out;have h_13f:=NB607_613.out;have h_13g:=NB613_607.out;have c_13h:=jz5 BK607)|((with_reducible refine jd 86 rfl ?_);(try (refine gate_guard (by rfl) ?_;dsimp only));refine jV (Kd.int .i64) 3 ([3,10]:List Int) [.int .i64 3,.int .i64 10] (Reps.one (show Kd.M (Kd.int .i64) _ _ _ 3 [.int .i64 3] from rfl) (Reps.one (show Kd.M (Kd.int .i64) _ _ _ 10 [.int .i64 10] from rfl) (Reps.none _ _))) ?_;intro v632 w_14a h_14b hb;(first|rw [<- Ny631.out] at h_14b|(simp only [Int.reduceToNat] at h_14b;rw [<- Ny631.out] at h_14b));have HO633:=kL h_14b;replace BK607:=kB BK607 hb;replace BK608:=kB BK608 hb;replace BK609:=kB BK609 hb;replace BK610:=kB BK610 hb;replace BK613:=kB BK613 hb;replace HB:=kH hb;clear hb h_14b;obtain⟨A_14c,c_14d,e_14e⟩:=Kd.R_slice HO633.out;subst e_14e)|(go_at_call 116;(with_reducible refine (Sl33Any.calls kj146 a0_4 _ _ y631 true _ ?side1 ?side2 A178.out).mono ?_);(case side1=>exact kC (Kd.R_reads' HO633.out).2.2);(case side2=>exact (Kd.R_reads' HO633.out).2.1);rintro e w' ⟨rfl,⟨nd,rfl⟩⟩;(try (rw [drewN_self w_14a];generalize hq_:World.drewN w_14a _=w_14a;have n0_:Aside0 (Kd.R (Kd.int .i64) 3 w_14a w.heap.size (fun _=>True) (.slice A_14c y631.length c_14d) y631):=⟨by rw [<- hq_];exact (qR HO633)⟩;have n1_:Aside0 (w_14a.heap[gb607]?=some (.cells #[.int .i64 a0_0,.int .i64 a0_1,.int .i64 a0_2,.int .i64 a0_3,.int .i64 a0_4] 46 (0,0))):=⟨by rw [<- hq_];exact (qK BK607)⟩;have n2_:Aside0 (w_14a.heap[gb608]?=some (.cells #[.int .i64 a1_0,.int .i64 a1_1] 74 (0,0))):=⟨by rw [<- hq_];exact (qK BK608)⟩;have n3_:Aside0 (w_14a.heap[gb609]?=some (.cells #[.int .i64 a2_0,.int .i64 a2_1] 74 (0,0))):=⟨by rw [<- hq_];exact (qK BK609)⟩;have n4_:Aside0 (w_14a.heap[gb610]?=some (.cells #[.int .i64 0,.int .i64 0,.int .i64 0,.int .i64 0,.int .i64 0] 46 (0,0))):=⟨by rw [<- hq_];exact (qK BK610)⟩;have n5_:Aside0 (w_14a.heap[gb613]?=some (.cells #[.int .i64 t611,.int .i64 t612] 74 (0,0))):=⟨by rw [<- hq_];exact (qK BK613)⟩;have n6_:Aside0 (Below w.heap.size w w_14a):=⟨by rw [<- hq_];exact qB⟩;clear HO633 BK607 BK608 BK609 BK610 BK613 HB hq_;have HO633:=n0_;have BK607:=n1_;have BK608:=n2_;have BK609:=n3_;have BK610:=n4_;have BK613:=n5_;have HB:=n6_;clear n0_ n1_ n2_ n3_ n4_ n5_ n6_));have c_15a:=jz5 BK607;have h_15b:=NB610_609.out;have h_15c:=NB609_610.out;have h_15d:=NB610_613.out;have h_15e:=NB613_610.out;have c_15f:=jz5 BK610))
       refine bodyPost_ret (results_cell_row rfl _ _ gb610 46 #[.int .i64 1,.int .i64 a0_1,.int .i64 0,.int .i64 0,.int .i64 0] (0,0) _ rfl (qF BK610) Try.underlying46 rfl (by kernel_rfl)) rfl ?_
       exact⟨qW,qB⟩
      simp only [Option.some.injEq,Prod.mk.injEq] at H
      obtain⟨rfl,rfl,rfl,rfl,rfl⟩:=H
      have hnb197:=NB608_607.out
      have hnc197:=NB607_608.out
      have hnb198:=NB608_609.out
      have hnc198:=NB609_608.out
      have hnb199:=NB608_610.out
      have hnc199:=NB610_608.out
      have hnb200:=NB608_613.out
      have hnc200:=NB613_608.out
      have cz201:=jz2 BK608
      go_wp2_with (first|((with_reducible refine jc 106 78 rfl rfl ?_);refine jG Try.func106 #[.agg #[.int .i64 a1_0,.int .i64 a1_1],.int .i64 0] ?_;(with_reducible refine (Sl33Is.calls _ _ _ _ _ (Aside0.out (by assumption))).mono ?_);rintro e w_13a ⟨rfl,hb⟩;refine⟨_,rfl,?_⟩;replace BK607:=kB BK607 hb;replace BK608:=kB BK608 hb;replace BK609:=kB BK609 hb;replace BK610:=kB BK610 hb;replace BK613:=kB BK613 hb;replace HB:=kH hb;clear hb;have h_13b:=NB607_609.out;have h_13c:=NB609_607.out;have h_13d:=NB607_610.out;have h_13e:=NB610_607.out;have h_13f:=NB607_613.out;have h_13g:=NB613_607.out;have c_13h:=jz5 BK607)|((with_reducible refine jd 86 rfl ?_);(try (refine gate_guard (by rfl) ?_;dsimp only));refine jV (Kd.int .i64) 3 ([3,10]:List Int) [.int .i64 3,.int .i64 10] (Reps.one (show Kd.M (Kd.int .i64) _ _ _ 3 [.int .i64 3] from rfl) (Reps.one (show Kd.M (Kd.int .i64) _ _ _ 10 [.int .i64 10] from rfl) (Reps.none _ _))) ?_;intro v632 w_14a h_14b hb;(first|rw [<- Ny631.out] at h_14b|(simp only [Int.reduceToNat] at h_14b;rw [<- Ny631.out] at h_14b));have HO633:=kL h_14b;replace BK607:=kB BK607 hb;replace BK608:=kB BK608 hb;replace BK609:=kB BK609 hb;replace BK610:=kB BK610 hb;replace BK613:=kB BK613 hb;replace HB:=kH hb;clear hb h_14b;obtain⟨A_14c,c_14d,e_14e⟩:=Kd.R_slice HO633.out;subst e_14e)|(go_at_call 116;(with_reducible refine (Sl33Any.calls kj146 a0_4 _ _ y631 false _ ?side1 ?side2 A178.out).mono ?_);(case side1=>exact kC (Kd.R_reads' HO633.out).2.2);(case side2=>exact (Kd.R_reads' HO633.out).2.1);rintro e w' ⟨rfl,⟨nd,rfl⟩⟩;(try (rw [drewN_self w_14a];generalize hq_:World.drewN w_14a _=w_14a;have n0_:Aside0 (Kd.R (Kd.int .i64) 3 w_14a w.heap.size (fun _=>True) (.slice A_14c y631.length c_14d) y631):=⟨by rw [<- hq_];exact (qR HO633)⟩;have n1_:Aside0 (w_14a.heap[gb607]?=some (.cells #[.int .i64 a0_0,.int .i64 a0_1,.int .i64 a0_2,.int .i64 a0_3,.int .i64 a0_4] 46 (0,0))):=⟨by rw [<- hq_];exact (qK BK607)⟩;have n2_:Aside0 (w_14a.heap[gb608]?=some (.cells #[.int .i64 a1_0,.int .i64 a1_1] 74 (0,0))):=⟨by rw [<- hq_];exact (qK BK608)⟩;have n3_:Aside0 (w_14a.heap[gb609]?=some (.cells #[.int .i64 a2_0,.int .i64 a2_1] 74 (0,0))):=⟨by rw [<- hq_];exact (qK BK609)⟩;have n4_:Aside0 (w_14a.heap[gb610]?=some (.cells #[.int .i64 0,.int .i64 0,.int .i64 0,.int .i64 0,.int .i64 0] 46 (0,0))):=⟨by rw [<- hq_];exact (qK BK610)⟩;have n5_:Aside0 (w_14a.heap[gb613]?=some (.cells #[.int .i64 t611,.int .i64 t612] 74 (0,0))):=⟨by rw [<- hq_];exact (qK BK613)⟩;have n6_:Aside0 (Below w.heap.size w w_14a):=⟨by rw [<- hq_];exact qB⟩;clear HO633 BK607 BK608 BK609 BK610 BK613 HB hq_;have HO633:=n0_;have BK607:=n1_;have BK608:=n2_;have BK609:=n3_;have BK610:=n4_;have BK613:=n5_;have HB:=n6_;clear n0_ n1_ n2_ n3_ n4_ n5_ n6_));have c_15a:=jz5 BK607;have h_15b:=NB610_609.out;have h_15c:=NB609_610.out;have h_15d:=NB610_613.out;have h_15e:=NB613_610.out;have c_15f:=jz5 BK610))
      refine bodyPost_ret (results_cell_row rfl _ _ gb610 46 #[.int .i64 a0_0,.int .i64 a0_1,.int .i64 a0_2,.int .i64 a0_3,.int .i64 a0_4] (0,0) _ rfl (qF BK610) Try.underlying46 rfl (by kernel_rfl)) rfl ?_
      exact⟨qW,qB⟩
     obtain⟨t635,A214,H⟩:=qE H
     try dsimp only at H
     replace H:=jB H;rcases H with ⟨rfl,H⟩ | ⟨rfl,H⟩
     ·obtain⟨y636,Ny636⟩:=ky ((([3,10]:List Int)):List Int)
      first|replace H:=kz Ny636 H|rw [<- Ny636.out] at H
      obtain⟨t639,A216,H⟩:=qE H
      try dsimp only at H
      replace H:=jB H;rcases H with ⟨rfl,H⟩ | ⟨rfl,H⟩
      ·simp only [Option.some.injEq,Prod.mk.injEq] at H
       obtain⟨rfl,rfl,rfl,rfl,rfl⟩:=H
       have hnb218:=NB608_607.out
       have hnc218:=NB607_608.out
       have hnb219:=NB608_609.out
       have hnc219:=NB609_608.out
       have hnb220:=NB608_610.out
       have hnc220:=NB610_608.out
       have hnb221:=NB608_613.out
       have hnc221:=NB613_608.out
       have cz222:=jz2 BK608
       go_wp2_with (first|((with_reducible refine jc 106 78 rfl rfl ?_);refine jG Try.func106 #[.agg #[.int .i64 a1_0,.int .i64 a1_1],.int .i64 0] ?_;(with_reducible refine (Sl33Is.calls _ _ _ _ _ (Aside0.out (by assumption))).mono ?_);rintro e w_13a ⟨rfl,hb⟩;refine⟨_,rfl,?_⟩;replace BK607:=kB BK607 hb;replace BK608:=kB BK608 hb;replace BK609:=kB BK609 hb;replace BK610:=kB BK610 hb;replace BK613:=kB BK613 hb;replace HB:=kH hb;clear hb;have h_13b:=NB609_607.out;have h_13c:=NB607_609.out;have h_13d:=NB609_610.out;have h_13e:=NB610_609.out;have h_13f:=NB609_613.out;have h_13g:=NB613_609.out;have c_13h:=jz2 BK609)|(go_at_call 106;(with_reducible refine (Sl33Is.calls _ _ _ _ _ (Aside0.out (by assumption))).mono ?_);rintro e w_16a ⟨rfl,hb⟩;replace BK607:=kB BK607 hb;replace BK608:=kB BK608 hb;replace BK609:=kB BK609 hb;replace BK610:=kB BK610 hb;replace BK613:=kB BK613 hb;replace HB:=kH hb;clear hb;have h_16b:=NB607_610.out;have h_16c:=NB610_607.out;have h_16d:=NB607_613.out;have h_16e:=NB613_607.out;have c_16f:=jz5 BK607)|((with_reducible refine jd 86 rfl ?_);(try (refine gate_guard (by rfl) ?_;dsimp only));refine jV (Kd.int .i64) 3 ([3,10]:List Int) [.int .i64 3,.int .i64 10] (Reps.one (show Kd.M (Kd.int .i64) _ _ _ 3 [.int .i64 3] from rfl) (Reps.one (show Kd.M (Kd.int .i64) _ _ _ 10 [.int .i64 10] from rfl) (Reps.none _ _))) ?_;intro v637 w_14a h_14b hb;(first|rw [<- Ny636.out] at h_14b|(simp only [Int.reduceToNat] at h_14b;rw [<- Ny636.out] at h_14b));have HO638:=kL h_14b;replace BK607:=kB BK607 hb;replace BK608:=kB BK608 hb;replace BK609:=kB BK609 hb;replace BK610:=kB BK610 hb;replace BK613:=kB BK613 hb;replace HB:=kH hb;clear hb h_14b;obtain⟨A_14c,c_14d,e_14e⟩:=Kd.R_slice HO638.out;subst e_14e)|(go_at_call 116;(with_reducible refine (Sl33Any.calls kj146 a0_4 _ _ y636 true _ ?side1 ?side2 A216.out).mono ?_);(case side1=>exact kC (Kd.R_reads' HO638.out).2.2);(case side2=>exact (Kd.R_reads' HO638.out).2.1);rintro e w' ⟨rfl,⟨nd,rfl⟩⟩;(try (rw [drewN_self w_14a];generalize hq_:World.drewN w_14a _=w_14a;have n0_:Aside0 (Kd.R (Kd.int .i64) 3 w_14a w.heap.size (fun _=>True) (.slice A_14c y636.length c_14d) y636):=⟨by rw [<- hq_];exact (qR HO638)⟩;have n1_:Aside0 (w_14a.heap[gb607]?=some (.cells #[.int .i64 a0_0,.int .i64 a0_1,.int .i64 a0_2,.int .i64 a0_3,.int .i64 a0_4] 46 (0,0))):=⟨by rw [<- hq_];exact (qK BK607)⟩;have n2_:Aside0 (w_14a.heap[gb608]?=some (.cells #[.int .i64 a1_0,.int .i64 a1_1] 74 (0,0))):=⟨by rw [<- hq_];exact (qK BK608)⟩;have n3_:Aside0 (w_14a.heap[gb609]?=some (.cells #[.int .i64 a2_0,.int .i64 a2_1] 74 (0,0))):=⟨by rw [<- hq_];exact (qK BK609)⟩;have n4_:Aside0 (w_14a.heap[gb610]?=some (.cells #[.int .i64 0,.int .i64 0,.int .i64 0,.int .i64 0,.int .i64 0] 46 (0,0))):=⟨by rw [<- hq_];exact (qK BK610)⟩;have n5_:Aside0 (w_14a.heap[gb613]?=some (.cells #[.int .i64 t611,.int .i64 t612] 74 (0,0))):=⟨by rw [<- hq_];exact (qK BK613)⟩;have n6_:Aside0 (Below w.heap.size w w_14a):=⟨by rw [<- hq_];exact qB⟩;clear HO638 BK607 BK608 BK609 BK610 BK613 HB hq_;have HO638:=n0_;have BK607:=n1_;have BK608:=n2_;have BK609:=n3_;have BK610:=n4_;have BK613:=n5_;have HB:=n6_;clear n0_ n1_ n2_ n3_ n4_ n5_ n6_));have c_15a:=jz5 BK607;have h_15b:=NB610_613.out;have h_15c:=NB613_610.out;have c_15d:=jz5 BK610))
       refine bodyPost_ret (results_cell_row rfl _ _ gb610 46 #[.int .i64 1,.int .i64 a0_1,.int .i64 0,.int .i64 0,.int .i64 0] (0,0) _ rfl (qF BK610) Try.underlying46 rfl (by kernel_rfl)) rfl ?_
       exact⟨qW,qB⟩
      simp only [Option.some.injEq,Prod.mk.injEq] at H
      obtain⟨rfl,rfl,rfl,rfl,rfl⟩:=H
      have hnb238:=NB608_607.out
      have hnc238:=NB607_608.out
      have hnb239:=NB608_609.out
      have hnc239:=NB609_608.out
      have hnb240:=NB608_610.out
      have hnc240:=NB610_608.out
      have hnb241:=NB608_613.out
      have hnc241:=NB613_608.out
      have cz242:=jz2 BK608
      exact Sl33Bin_calls_s0
     simp only [Option.some.injEq,Prod.mk.injEq] at H
     obtain⟨rfl,rfl,rfl,rfl,rfl⟩:=H
     have hnb258:=NB608_607.out
     have hnc258:=NB607_608.out
     have hnb259:=NB608_609.out
     have hnc259:=NB609_608.out
     have hnb260:=NB608_610.out
     have hnc260:=NB610_608.out
     have hnb261:=NB608_613.out
     have hnc261:=NB613_608.out
     have cz262:=jz2 BK608
     exact Sl33Bin_calls_s0
end Go.Proofs.Ytahbkldagpfcaaa.M
