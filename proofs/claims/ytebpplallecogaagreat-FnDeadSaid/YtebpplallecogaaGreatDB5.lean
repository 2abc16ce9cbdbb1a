/- Written by a program of mine. -/
import Derived.Test.YtebpplallecogaaGreatDB4
import Derived.Deep.MidRow
import Derived.WalkSpells
import Derived.Test.YtebpplallecogaaGreatRows
import Derived.WalkKit
import Derived.ProofKit
import Derived.OpenShut
import Derived.ShutString
import Derived.ChangeOld
import Derived.Below
import Derived.SizedLaws
import Derived.Test.YtebpplallecogaaGreatDBWSized
set_option linter.unusedVariables false
set_option linter.unusedSimpArgs false
set_option maxHeartbeats 8000000
set_option maxRecDepth 100000
namespace Go.Proofs.YtebpplallecogaaGreat.M
open Go.Proofs.Tryz Go.RowKit Go.Proofs.YtebpplallecogaaGreatW.PrintWords Go.Proofs.YtebpplallecogaaGreatW.PrintLast Go.Proofs.YtebpplallecogaaGreatW.PrintMore PM
theorem has_ev {l:List Int} (h:l.length < 9223372036854775807) (a:Int):∀ (d p:Nat),p+d=l.length->(∀ j,j < p->l.getD j 0≠a)->Ev (fun k=>SaR.l0 k l a (p:Int)) (decide (a∈l))
 | 0,p,hp,hn=>by
  refine Ev.succ ?_
  simp only [SaR.l0]
  refine Ev.neg (Ev.const (some_bool ?_))
  simp only [Bool.false_eq_true,decide_eq_true_eq,false_iff]
  intro hm
  obtain⟨j,hj,e⟩:=List.getElem_of_mem hm
  refine hn j (by omega) ?_
  rw [List.getD_eq_getElem?_getD,List.getElem?_eq_getElem hj]
  exact e
 | d+1,p,hp,hn=>by
  refine Ev.succ ?_
  simp only [SaR.l0,rd_nat,wrap_up (show p < 9223372036854775807 by omega)]
  refine Ev.pos (Ev.pos ?_)
  by_cases e:l.getD p 0=a
  ·refine Ev.pos (Ev.const (some_bool ?_))
   simp only [true_iff,decide_eq_true_eq]
   rw [<- e,List.getD_eq_getElem?_getD,List.getElem?_eq_getElem (by omega)]
   exact List.getElem_mem _
  refine Ev.neg (has_ev h a d (p+1) (by omega) fun j hj=>?_)
  by_cases x:j=p
  ·rw [x];exact e
  exact hn j (by omega)
theorem SaZ.ev (a:Int) {l:List Int} (h:l.length < 9223372036854775807):Ev (fun k=>SaZ.f k a l) (decide (a∈l)):=by
 simp only [SaZ.f,SaR.f]
 exact Ev.bind (has_ev h a l.length 0 (Nat.zero_add _) (by omega)) Ev.pure
def isF (f:SF) (n:Int):Bool:=f.f0 == 1 && f.f1 == n
theorem Sb4.e (f:SF) (n:Int):Sb4.f f.f0 f.f1 n=some (isF f n):=by
 unfold Sb4.f isF
 by_cases h:f.f0=1 <;> simp [h]
def binQ (q:SQ) (a b:SF):SQ :=
 if a.f0=1/\b.f0=1 then ⟨1,q.f1,0,0,ap q.f4 a.f1 b.f1⟩
 else if (isF b 0 && decide (q.f4∈([1,2,6,7,8,9]:List Int)))=true then ⟨2,q.f1,q.f2,0,0⟩
 else if (isF b 1 && decide (q.f4∈([10,11]:List Int)))=true then ⟨2,q.f1,q.f2,0,0⟩
 else if (isF a 0 && decide (q.f4∈([1,2,8]:List Int)))=true then ⟨2,q.f1,q.f3,0,0⟩
 else if (isF a 1 && (q.f4 == 10))=true then ⟨2,q.f1,q.f3,0,0⟩
 else if ((isF a 0 || isF b 0) && decide (q.f4∈([3,10]:List Int)))=true then ⟨1,q.f1,0,0,0⟩
 else q
abbrev tQ (q:SQ):Int × Int × Int × Int × Int:=(q.f0,q.f1,q.f2,q.f3,q.f4)
theorem ev_and {α:Type} {x y:Bool} {F:Nat->Bool->Option α} {A:Nat->Option Bool} {v:α} (hA:Ev A y) (h:Ev (fun k=>F k (x && y)) v):Ev (fun k=>if x=true then (A k).bind fun t=>F k t else F k false) v:=by
 cases x with
 | true=>exact Ev.pos (Ev.bind hA h) rfl
 | false=>exact Ev.neg h (by simp)
theorem Sb0.j3_ev (q:SQ) (a b:SF) (x:Bool):Ev (fun k=>Sb0.j3 k x q.f0 q.f1 q.f2 q.f3 q.f4 a.f0 a.f1 b.f0 b.f1) (tQ (if x=true then ⟨2,q.f1,q.f3,0,0⟩ else if ((isF a 0 || isF b 0) && decide (q.f4∈([3,10]:List Int)))=true then ⟨1,q.f1,0,0,0⟩ else q)):=by
 refine Ev.succ ?_
 simp only [Sb0.j3,Sb4.e,Option.bind_some]
 cases x with
 | true=>exact Ev.pos Ev.pure rfl
 | false =>
  refine Ev.neg ?_ (by simp)
  rw [if_neg (by simp)]
  have go:Ev (fun k=>(SaZ.f k q.f4 ([3,10]:List Int)).bind fun t=>if t=true then some ((1:Int),q.f1,(0:Int),(0:Int),(0:Int)) else some (q.f0,q.f1,q.f2,q.f3,q.f4)) (tQ (if decide (q.f4∈([3,10]:List Int))=true then ⟨1,q.f1,0,0,0⟩ else q)):=by
   refine Ev.bind (SaZ.ev q.f4 (by decide)) (Ev.const ?_)
   split <;> rfl
  cases isF a 0 with
  | true=>exact Ev.pos go rfl
  | false =>
   refine Ev.neg ?_ (by simp)
   cases isF b 0 with
   | true=>exact Ev.pos go rfl
   | false=>exact Ev.neg Ev.pure (by simp)
theorem Sb0.j2_ev (q:SQ) (a b:SF) (x:Bool):Ev (fun k=>Sb0.j2 k x q.f0 q.f1 q.f2 q.f3 q.f4 a.f0 a.f1 b.f0 b.f1) (tQ (if x=true then ⟨2,q.f1,q.f3,0,0⟩ else if (isF a 1 && (q.f4 == 10))=true then ⟨2,q.f1,q.f3,0,0⟩ else if ((isF a 0 || isF b 0) && decide (q.f4∈([3,10]:List Int)))=true then ⟨1,q.f1,0,0,0⟩ else q)):=by
 refine Ev.succ ?_
 simp only [Sb0.j2,Sb4.e,Option.bind_some]
 cases x with
 | true=>exact Ev.pos Ev.pure rfl
 | false =>
  refine Ev.neg ?_ (by simp)
  rw [if_neg (by simp)]
  cases isF a 1 with
  | true=>exact Ev.pos (Sb0.j3_ev q a b (q.f4 == 10)) rfl
  | false=>exact Ev.neg (Sb0.j3_ev q a b false) (by simp)
theorem Sb0.j1_ev (q:SQ) (a b:SF) (x:Bool):Ev (fun k=>Sb0.j1 k x q.f0 q.f1 q.f2 q.f3 q.f4 a.f0 a.f1 b.f0 b.f1) (tQ (if x=true then ⟨2,q.f1,q.f2,0,0⟩ else if (isF a 0 && decide (q.f4∈([1,2,8]:List Int)))=true then ⟨2,q.f1,q.f3,0,0⟩ else if (isF a 1 && (q.f4 == 10))=true then ⟨2,q.f1,q.f3,0,0⟩ else if ((isF a 0 || isF b 0) && decide (q.f4∈([3,10]:List Int)))=true then ⟨1,q.f1,0,0,0⟩ else q)):=by
 refine Ev.succ ?_
 simp only [Sb0.j1,Sb4.e,Option.bind_some]
 cases x with
 | true=>exact Ev.pos Ev.pure rfl
 | false =>
  refine Ev.neg ?_ (by simp)
  rw [if_neg (by simp)]
  exact ev_and (SaZ.ev q.f4 (by decide)) (Sb0.j2_ev q a b _)
theorem Sb0.j0_ev (q:SQ) (a b:SF) (x:Bool):Ev (fun k=>Sb0.j0 k x q.f0 q.f1 q.f2 q.f3 q.f4 a.f0 a.f1 b.f0 b.f1) (tQ (if x=true then ⟨2,q.f1,q.f2,0,0⟩ else if (isF b 1 && decide (q.f4∈([10,11]:List Int)))=true then ⟨2,q.f1,q.f2,0,0⟩ else if (isF a 0 && decide (q.f4∈([1,2,8]:List Int)))=true then ⟨2,q.f1,q.f3,0,0⟩ else if (isF a 1 && (q.f4 == 10))=true then ⟨2,q.f1,q.f3,0,0⟩ else if ((isF a 0 || isF b 0) && decide (q.f4∈([3,10]:List Int)))=true then ⟨1,q.f1,0,0,0⟩ else q)):=by
 refine Ev.succ ?_
 simp only [Sb0.j0,Sb4.e,Option.bind_some]
 cases x with
 | true=>exact Ev.pos Ev.pure rfl
 | false =>
  refine Ev.neg ?_ (by simp)
  rw [if_neg (by simp)]
  exact ev_and (SaZ.ev q.f4 (by decide)) (Sb0.j1_ev q a b _)
theorem Sb0.ev {q:SQ} (h1:1<=q.f4/\q.f4<=12) {a b:SF} (ha:okF a) (hb:okF b):Ev (fun k=>Sb0.f k q.f0 q.f1 q.f2 q.f3 q.f4 a.f0 a.f1 b.f0 b.f1) (tQ (binQ q a b)):=by
 simp only [Sb0.f]
 refine Ev.bind (Sb6.ev (q:=q_ q) h1 ha hb) ?_
 unfold binQ
 by_cases c:a.f0=1/\b.f0=1
 ·rw [if_pos c,if_pos c]
  exact Ev.pos Ev.pure rfl
 rw [if_neg c,if_neg c]
 refine Ev.neg ?_ (by simp)
 simp only [Sb4.e,Option.bind_some]
 exact ev_and (SaZ.ev q.f4 (by decide)) (Sb0.j0_ev q a b _)
def foldQ (q:SQ) (x:List SF) (i:Nat):SQ :=
 if (fa x 0).f0=0 then q else if q.f0=2 then (if (fa x q.f2.toNat).f0=1 then ⟨1,q.f1,0,0,(fa x q.f2.toNat).f1⟩ else q) else if q.f0=3 then binQ q (fa x q.f2.toNat) (fa x q.f3.toNat)
 else if q.f0=5 then (if isF (fa x q.f2.toNat) 0=true then ⟨4,0,0,0,q.f4⟩ else if (fa x q.f2.toNat).f0=1 then ⟨4,0,0,0,((i+1:Nat):Int)⟩ else q) else q
theorem Sb3.ev {q:SQ} {m:Int} (h:QV (q_ q) m) {x:List SF} (hx:okR x) {i:Nat} (hi:i < 9223372036854775807):Ev (fun k=>Sb3.f k q.f0 q.f1 q.f2 q.f3 q.f4 x (i:Int)) (tQ (foldQ q x i)):=by
 have hl:=hx.1
 obtain⟨⟨d0,d1⟩,⟨a0,a1⟩,b0,b1⟩:=regs_of h
 have ⟨ra,rb⟩:=regA h
 simp only [q_] at d0 d1 a0 a1 b0 b1 ra rb
 have h0:rd_T118 x 0=fa x 0:=rd_fa _ 0
 simp only [Sb3.f,hl,h0,rd_fa' x a0,rd_fa' x b0,wrap_up hi]
 unfold foldQ
 refine Ev.pos ?_
 by_cases c0:(fa x 0).f0=0
 ·rw [if_pos c0]
  exact Ev.pos Ev.pure
 rw [if_neg c0]
 refine Ev.neg ?_
 by_cases c2:q.f0=2
 ·rw [if_pos c2]
  refine Ev.pos (Ev.pos (Ev.pos (Ev.const ?_)))
  split <;> rfl
 rw [if_neg c2]
 refine Ev.neg ?_
 by_cases c3:q.f0=3
 ·rw [if_pos c3]
  refine Ev.pos (Ev.pos (Ev.pos (Ev.pos (Ev.pos ?_))))
  have hn:1<=q.f4/\q.f4<=12:=by unfold QV q_ at h;simp only at h;omega
  exact Ev.bind (Sb0.ev hn (hx.2.1 _ ra) (hx.2.1 _ rb)) Ev.pure
 rw [if_neg c3]
 refine Ev.neg ?_
 by_cases c5:q.f0=5
 ·rw [if_pos c5,if_pos c5]
  refine Ev.pos (Ev.pos ?_)
  rw [Sb4.e]
  refine Ev.some (Ev.const ?_)
  split
  ·rfl
  split <;> rfl
 rw [if_neg c5,if_neg c5]
 exact Ev.pure
def foldC (U:List (List SF)) (c:List SQ):List SQ:=(List.range c.length).map fun i=>foldQ (qa c i) ((FS c).at' U i) i
theorem foldC_len (U:List (List SF)) (c:List SQ):(foldC U c).length=c.length:=by simp [foldC]
theorem foldC_get (U:List (List SF)) {c:List SQ} {i:Nat} (h:i < c.length):qa (foldC U c) i=foldQ (qa c i) ((FS c).at' U i) i:=by simp [foldC,qa,List.getD_eq_getElem?_getD,h]
theorem take_next {α:Type} (d:α) {l:List α} {p:Nat} (h:p < l.length):l.take p ++ [l.getD p d]=l.take (p+1):=by
 rw [List.take_add_one,List.getD_eq_getElem?_getD,List.getElem?_eq_getElem h]
 rfl
theorem San.out {c:List SQ} (h:CV (qs c)) {U:List (List SF)} (hU:(FS c).St U):∀ (d p:Nat),p+d=c.length->Ev (fun k=>San.l0 k c ((foldC U c).take p) U (p:Int)) (foldC U c,true)
 | 0,p,hp=>by
  refine Ev.succ ?_
  simp only [San.l0]
  refine Ev.neg (Ev.eq Ev.pure ?_)
  rw [List.take_of_length_le (by rw [foldC_len];omega)]
 | d+1,p,hp=>by
  have h6:=cv600 h
  have hi:p < c.length:=by omega
  have hn:U.length=c.length:=hU.1
  have hr:rd_L8 U (p:Int)=(FS c).at' U p:=by
   rw [FS_at (by omega)]
   unfold rd_L8
   rw [Int.toNat_natCast]
  refine Ev.succ ?_
  simp only [San.l0,hr,rd_qa,wrap_up (show p < 9223372036854775807 by omega)]
  refine Ev.pos (Ev.pos (Ev.pos (Ev.bind (Sb3.ev (cv_at h hi) (hU.2 p hi) (by omega)) (Ev.pos ?_ (by rw [List.length_take,foldC_len];omega)))))
  have e:(foldC U c).take p ++ [foldQ (qa c p) ((FS c).at' U p) p]=(foldC U c).take (p+1):=by
   rw [<- foldC_get U hi]
   exact take_next _ (by rw [foldC_len];exact hi)
  have:=San.out h hU d (p+1) (by omega)
  rw [<- e] at this
  exact this
theorem San.ev {c:List SQ} (h:CV (qs c)):∃ U,(FS c).Lfp U/\Ev (fun k=>San.f k c) (foldC U c,true):=by
 obtain⟨U,hU,hE⟩:=Sam.ev h
 refine⟨U,hU,?_⟩
 simp only [San.f]
 refine Ev.some (Ev.bind (Saf.ev c) (Ev.pos (Ev.bind hE ?_) (decide_eq_true h)))
 exact San.out h hU.1.1 c.length 0 (Nat.zero_add _)
theorem binQ_valid {q:SQ} {m:Int} (h:QV (q_ q) m) (h3:q.f0=3) {a b:SF} (ha:okF a) (hb:okF b):QV (q_ (binQ q a b)) m:=by
 obtain⟨⟨d0,d1⟩,⟨a0,a1⟩,b0,b1⟩:=regs_of h
 have hn:1<=q.f4/\q.f4<=12:=by unfold QV q_ at h;simp only at h;omega
 simp only [q_] at d0 d1 a0 a1 b0 b1
 have ca:∀ r:Int,0<=r->r < 12->QV (q_ ⟨2,q.f1,r,0,0⟩) m:=fun r h1 h2=>.inr (.inl ⟨rfl,⟨d0,by show q.f1<=11;omega⟩,⟨h1,by show r<=11;omega⟩,rfl,rfl⟩)
 have cc:∀ n:Int,wd n->QV (q_ ⟨1,q.f1,0,0,n⟩) m:=fun n hn=>.inl ⟨rfl,⟨d0,by show q.f1<=11;omega⟩,rfl,rfl,hn⟩
 unfold binQ
 split
 ·rename_i g
  exact cc _ (wd_ap (wd_of ha g.1) (wd_of hb g.2))
 split
 ·exact ca _ a0 a1
 split
 ·exact ca _ a0 a1
 split
 ·exact ca _ b0 b1
 split
 ·exact ca _ b0 b1
 split
 ·exact cc 0 (by decide)
 exact h
theorem foldQ_valid {c:List SQ} (h:CV (qs c)) {i:Nat} (hi:i < c.length) {x:List SF} (hx:okR x):QV (q_ (foldQ (qa c i) x i)) c.length:=by
 have v:=cv_at h hi
 obtain⟨⟨d0,d1⟩,⟨a0,a1⟩,b0,b1⟩:=regs_of v
 have ⟨ra,rb⟩:=regA v
 simp only [q_] at d0 d1 a0 a1 b0 b1 ra rb
 unfold foldQ
 split
 ·exact v
 split
 ·split
  ·rename_i g
   exact .inl ⟨rfl,⟨d0,by show (qa c i).f1<=11;omega⟩,rfl,rfl,wd_of (hx.2.1 _ ra) g⟩
  exact v
 split
 ·rename_i g
  exact binQ_valid v g (hx.2.1 _ ra) (hx.2.1 _ rb)
 split
 ·rename_i g
  have hn:0<=(qa c i).f4/\(qa c i).f4 < c.length:=by unfold QV q_ at v;simp only at v;omega
  split
  ·exact .inr (.inr (.inr (.inl ⟨rfl,rfl,rfl,rfl,hn⟩)))
  split
  ·have lt:i+1 < c.length:=by
    have:=nx_lt h (i:=i) (j:=i+1) (by rw [qs_len];exact hi) (by
     rw [at_qs]
     unfold nx
     rw [if_neg (by show ¬ (qa c i).f0=10;omega),if_neg (by show ¬ (qa c i).f0=4;omega),if_pos (show (q_ (qa c i)).op=5 from g)]
     (repeat' split) <;> simp)
    rwa [qs_len] at this
   exact .inr (.inr (.inr (.inl ⟨rfl,rfl,rfl,rfl,by show (0:Int)<=((i+1:Nat):Int);omega,by show ((i+1:Nat):Int) < (c.length:Int);omega⟩)))
  exact v
 exact v
theorem foldQ_end {q:SQ} (h:q.f0=10\/q.f0=4) (x:List SF) (i:Nat):foldQ q x i=q:=by
 unfold foldQ
 (repeat' split) <;> first|rfl|omega
theorem cv_of {c:List SQ} (h1:1<=c.length) (h6:c.length<=600) (hv:∀ i,i < c.length->QV (q_ (qa c i)) c.length) (hl:(qa c (c.length - 1)).f0=10\/(qa c (c.length - 1)).f0=4):CV (qs c):=by
 refine⟨by rw [qs_len];exact h1,by rw [qs_len];exact h6,fun i hi=>?_,?_⟩
 ·rw [at_qs,qs_len]
  rw [qs_len] at hi
  exact hv i hi
 rw [at_qs,qs_len]
 exact hl
theorem cv_last {c:List SQ} (h:CV (qs c)):(qa c (c.length - 1)).f0=10\/(qa c (c.length - 1)).f0=4:=by
 have:=h.2.2.2
 rwa [at_qs,qs_len] at this
theorem foldC_valid {c:List SQ} (h:CV (qs c)) {U:List (List SF)} (hU:(FS c).St U):CV (qs (foldC U c)):=by
 have h6:=cv600 h
 refine cv_of (by rw [foldC_len];exact h6.1) (by rw [foldC_len];exact h6.2) (fun i hi=>?_) ?_
 ·rw [foldC_len] at hi ⊢
  rw [foldC_get U hi]
  exact foldQ_valid h hi (hU.2 i hi)
 rw [foldC_len,foldC_get U (by omega),foldQ_end (cv_last h)]
 exact cv_last h
theorem mix_len {α:Type} {A B:List α} (hl:A.length=B.length) {p:Nat} (hp:p<=A.length):(A.take p ++ B.drop p).length=A.length:=by
 rw [List.length_append,List.length_take,List.length_drop]
 omega
theorem mix_get {α:Type} (d:α) {A B:List α} (hl:A.length=B.length) {p:Nat} (hp:p<=A.length):(A.take p ++ B.drop p).getD p d=B.getD p d:=by
 rw [List.getD_eq_getElem?_getD,List.getElem?_append_right (by rw [List.length_take];omega),List.length_take,show p - min p A.length=0 from by omega,List.getElem?_drop,List.getD_eq_getElem?_getD]
 rfl
theorem mix_next {α:Type} (d:α) {A B:List α} (hl:A.length=B.length) {p:Nat} (hp:p < A.length):(A.take p ++ B.drop p).set p (A.getD p d)=A.take (p+1) ++ B.drop (p+1):=by
 rw [<- take_next d hp,drop_cons d (show p < B.length by omega),List.set_append_right _ _ (by rw [List.length_take];omega),List.length_take,show p - min p A.length=0 from by omega,List.set_cons_zero,List.append_assoc]
 rfl
def tgt (c:List SQ):Nat->Nat->Nat->Nat
 | 0,x,a=>a
 | d+1,x,a=>if (qa c x).f0=4 then tgt c d (qa c x).f4.toNat a else x
theorem n_of {c:List SQ} (h:CV (qs c)) {x:Nat} (hx:x < c.length) (h4:(qa c x).f0=4\/(qa c x).f0=5):0<=(qa c x).f4/\(qa c x).f4 < c.length:=by
 have v:=cv_at h hx
 unfold QV q_ at v
 simp only at v
 omega
theorem tgt_lt {c:List SQ} (h:CV (qs c)) {a:Nat} (ha:a < c.length):∀ d x,x < c.length->tgt c d x a < c.length
 | 0,x,hx=>ha
 | d+1,x,hx=>by
  unfold tgt
  split
  ·rename_i g
   have:=n_of h hx (.inl g)
   exact tgt_lt h ha d _ (by omega)
  exact hx
theorem Sbg.out {c:List SQ} (h:CV (qs c)) (a:Nat):∀ (d p x:Nat),p+d=c.length->x < c.length->Ev (fun k=>Sbg.l0 k c (a:Int) (x:Int) (p:Int)) (tgt c d x a:Int)
 | 0,p,x,hp,hx=>by
  refine Ev.succ ?_
  simp only [Sbg.l0]
  exact Ev.neg Ev.pure
 | d+1,p,x,hp,hx=>by
  refine Ev.succ ?_
  have h6:=cv600 h
  simp only [Sbg.l0,rd_qa,wrap_up (show p < 9223372036854775807 by omega)]
  refine Ev.pos (Ev.pos (Ev.pos ?_))
  by_cases g:(qa c x).f0=4
  ·have:=n_of h hx (.inl g)
   have ih:=Sbg.out h a d (p+1) (qa c x).f4.toNat (by omega) (by omega)
   rw [Int.toNat_of_nonneg this.1] at ih
   refine Ev.pos (Ev.eq ih ?_)
   rw [tgt,if_pos g]
  refine Ev.neg (Ev.eq Ev.pure ?_)
  rw [tgt,if_neg g]
def tgts (c:List SQ) (n:Int):Int:=(tgt c c.length n.toNat n.toNat:Nat)
theorem Sbg.ev {c:List SQ} (h:CV (qs c)) {n:Int} (h0:0<=n) (h1:n < c.length):Ev (fun k=>Sbg.f k c n) (tgts c n):=by
 have:=Sbg.out h n.toNat c.length 0 n.toNat (Nat.zero_add _) (by omega)
 rw [Int.toNat_of_nonneg h0] at this
 exact this
def jmpQ (c:List SQ) (q:SQ):SQ:=if q.f0=4\/q.f0=5 then ⟨q.f0,q.f1,q.f2,q.f3,tgts c q.f4⟩ else q
def jumpC (c:List SQ):List SQ:=c.map (jmpQ c)
theorem jumpC_len (c:List SQ):(jumpC c).length=c.length:=by simp [jumpC]
theorem map_qa (f:SQ->SQ) {c:List SQ} {i:Nat} (h:i < c.length):qa (c.map f) i=f (qa c i):=by simp [qa,List.getD_eq_getElem?_getD,List.getElem?_eq_getElem h]
theorem jumpC_get {c:List SQ} {i:Nat} (h:i < c.length):qa (jumpC c) i=jmpQ c (qa c i):=map_qa _ h
theorem Sao.out {c:List SQ} (h:CV (qs c)):∀ (d p:Nat),p+d=c.length->Ev (fun k=>Sao.l0 k c ((jumpC c).take p) (p:Int)) (jumpC c,true)
 | 0,p,hp=>by
  refine Ev.succ ?_
  simp only [Sao.l0]
  refine Ev.neg (Ev.eq Ev.pure ?_)
  rw [List.take_of_length_le (by rw [jumpC_len];omega)]
 | d+1,p,hp=>by
  have h6:=cv600 h
  have hi:p < c.length:=by omega
  refine Ev.succ ?_
  simp only [Sao.l0,rd_qa,wrap_up (show p < 9223372036854775807 by omega)]
  have lt:((jumpC c).take p).length < 3518437208883:=by rw [List.length_take,jumpC_len];omega
  have ih:=Sao.out h d (p+1) (by omega)
  have e:∀ x,jmpQ c (qa c p)=x->(jumpC c).take p ++ [x]=(jumpC c).take (p+1):=by
   intro x hx
   rw [<- hx,<- jumpC_get hi]
   exact take_next _ (by rw [jumpC_len];exact hi)
  refine Ev.pos (Ev.pos ?_)
  by_cases c4:(qa c p).f0=4
  ·have:=n_of h hi (.inl c4)
   refine Ev.pos (Ev.bind (Sbg.ev h this.1 this.2) (Ev.pos ?_ lt))
   rw [e _ (by rw [jmpQ,if_pos (.inl c4)])]
   exact ih
  refine Ev.neg ?_
  by_cases c5:(qa c p).f0=5
  ·have:=n_of h hi (.inr c5)
   refine Ev.pos (Ev.bind (Sbg.ev h this.1 this.2) (Ev.pos ?_ lt))
   rw [e _ (by rw [jmpQ,if_pos (.inr c5)])]
   exact ih
  refine Ev.neg (Ev.pos ?_ lt)
  have:=e _ (by rw [jmpQ,if_neg (by omega)])
  rw [<- this] at ih
  exact ih
theorem Sao.ev {c:List SQ} (h:CV (qs c)):Ev (fun k=>Sao.f k c) (jumpC c,true):=by
 simp only [Sao.f]
 exact Ev.some (Ev.bind (Saf.ev c) (Ev.pos (Sao.out h c.length 0 (Nat.zero_add _)) (decide_eq_true h)))
theorem jmpQ_op (c:List SQ) (q:SQ):(jmpQ c q).f0=q.f0:=by
 unfold jmpQ
 split <;> rfl
theorem jumpC_valid {c:List SQ} (h:CV (qs c)):CV (qs (jumpC c)):=by
 have h6:=cv600 h
 refine cv_of (by rw [jumpC_len];exact h6.1) (by rw [jumpC_len];exact h6.2) (fun i hi=>?_) ?_
 ·rw [jumpC_len] at hi ⊢
  rw [jumpC_get hi]
  have v:=cv_at h hi
  unfold jmpQ
  split
  ·rename_i g
   have n:=n_of h hi g
   have t:0<=tgts c (qa c i).f4/\tgts c (qa c i).f4 < c.length:=by
    have:=tgt_lt h (a:=(qa c i).f4.toNat) (by omega) c.length (qa c i).f4.toNat (by omega)
    unfold tgts
    omega
   rcases v with v|v|v | ⟨o,p1,p2,p3,_⟩ | ⟨o,p1,p2,p3,_⟩|v
   ·have:(qa c i).f0=1:=v.1
    omega
   ·have:(qa c i).f0=2:=v.1
    omega
   ·have:(qa c i).f0=3:=v.1
    omega
   ·exact .inr (.inr (.inr (.inl ⟨o,p1,p2,p3,t⟩)))
   ·exact .inr (.inr (.inr (.inr (.inl ⟨o,p1,p2,p3,t⟩))))
   have:¬ ((qa c i).f0=4\/(qa c i).f0=5):=by
    simp only [q_] at v
    omega
   exact absurd g this
  exact v
 rw [jumpC_len,jumpC_get (by omega),jmpQ_op]
 exact cv_last h
def RS (c:List SQ):Sys Bool where
 n:=c.length
 ok:=fun _=>True
 le:=fun a b=>a=true->b=true
 jn:=fun a b=>a || b
 out:=fun i x=>if x=true then (nx (q_ (qa c i)) i).map fun e=>(e,true) else []
 rk:=fun x=>if x=true then 1 else 0
 top:=1
 d:=false
 ini:=true
theorem nx_lt' {c:List SQ} (h:CV (qs c)) {i e:Nat} (hi:i < c.length) (he:e∈nx (q_ (qa c i)) i):e < c.length:=by
 have n:=nx_lt h (i:=i) (j:=e) (by rw [qs_len];exact hi) (by rw [at_qs];exact he)
 rwa [qs_len] at n
theorem RS_laws {c:List SQ} (h:CV (qs c)):(RS c).Laws where
 refl:=fun a _ x=>x
 trans:=fun a b c _ _ _ h g x=>g (h x)
 anti:=fun a b _ _ h g=>by cases a <;> cases b <;> first|rfl|(have:=h rfl;cases this)|(have:=g rfl;cases this)
 ub1:=fun a b _ _ x=>by show (a || b)=true;rw [x];rfl
 ub2:=fun a b _ _ x=>by show (a || b)=true;rw [x];simp
 lub:=fun a b c _ _ _ h g x=>by
  have x':(a || b)=true:=x
  rcases (Bool.or_eq_true a b).mp x' with y|y
  ·exact h y
  exact g y
 okj:=fun a b _ _=>trivial
 oko:=fun i x hi _ p hp=>by
  have hp':p∈(if x=true then (nx (q_ (qa c i)) i).map fun e=>(e,true) else []):=hp
  split at hp'
  ·obtain⟨e,he,rfl⟩:=List.mem_map.1 hp'
   exact⟨nx_lt' h hi he,trivial⟩
  simp at hp'
 mono:=fun i x y hi _ _ hl p hp=>by
  have hp':p∈(if x=true then (nx (q_ (qa c i)) i).map fun e=>(e,true) else []):=hp
  split at hp'
  ·rename_i g
   refine⟨true,?_,fun _=>rfl⟩
   show _∈(if y=true then (nx (q_ (qa c i)) i).map fun e=>(e,true) else [])
   rw [if_pos (hl g)]
   obtain⟨e,he,rfl⟩:=List.mem_map.1 hp'
   exact List.mem_map.2 ⟨e,he,rfl⟩
  simp at hp'
 rank:=fun a b _ _ h ne=>by
  show (if a=true then 1 else 0) < (if b=true then 1 else 0)
  cases a <;> cases b <;> first|exact absurd rfl ne|(have:=h rfl;cases this)|decide
 rtop:=fun a _=>by show (if a=true then 1 else 0)<=1;split <;> omega
 okd:=trivial
 oki:=trivial
 bot:=fun a _ x=>by cases x
 outd:=fun i=>by
  show (if false=true then (nx (q_ (qa c i)) i).map (fun e=>(e,true)) else [])=[]
  rw [if_neg (by decide)]
 pos:=(cv600 h).1
 inid:=by show ¬ true=false;decide
theorem SaT.in {c:List SQ} (h:CV (qs c)) {i:Nat} (hi:i < c.length) {es:List Nat} (hl:es.length < 1000) (he:∀ e∈es,e < c.length) {R:Bool × List Bool}:∀ (d p:Nat) (T:List Bool) (b:Bool),p+d=es.length->(RS c).St T->Ev (fun k=>SaT.l0 k c (Sys.pass (RS c) ((es.drop p).map fun e=>(e,true)) T b).1 (Sys.pass (RS c) ((es.drop p).map fun e=>(e,true)) T b).2 ((i+1:Nat):Int)) R->Ev (fun k=>SaT.l1 k c T b (i:Int) (ints es) (p:Int)) R
 | 0,p,T,b,hp,hT,g=>by
  refine Ev.succ ?_
  have h6:=cv600 h
  rw [List.drop_eq_nil_of_le (by omega)] at g
  simp only [SaT.l1,ints_len,wrap_up (show i < 9223372036854775807 by omega)]
  exact Ev.neg g
 | d+1,p,T,b,hp,hT,g=>by
  refine Ev.succ ?_
  have h6:=cv600 h
  have hm:es.getD p 0 < c.length:=he _ (getD_mem (by omega))
  have hn:T.length=c.length:=hT.1
  rw [drop_cons 0 (show p < es.length by omega)] at g
  have hT':=Sys.put_st (RS_laws h) hT (p:=(es.getD p 0,true)) hm trivial
  have go:=fun b'=>SaT.in h hi hl he (R:=R) d (p+1) (Sys.put (RS c) T (es.getD p 0,true)) b' (by omega) hT'
  simp only [SaT.l1,ints_len,rd_ints,rdOf_nat,hn,Int.toNat_natCast,wrap_up (show p < 9223372036854775807 by omega)]
  refine Ev.pos (Ev.pos (Ev.pos (Ev.pos ?_)))
  simp only [List.map_cons,Sys.pass] at g
  cases e:T.getD (es.getD p 0) false with
  | true =>
   refine Ev.pos ?_ rfl
   have hs:Sys.put (RS c) T (es.getD p 0,true)=T:=Sys.put_same (by show es.getD p 0 < T.length;omega) (by show (T.getD (es.getD p 0) false || true)=T.getD (es.getD p 0) false;rw [e];rfl)
   have hd:decide ((RS c).jn ((RS c).at' T (es.getD p 0)) true=(RS c).at' T (es.getD p 0))=true:=decide_eq_true (by show (T.getD (es.getD p 0) false || true)=T.getD (es.getD p 0) false;rw [e];rfl)
   have:=go b
   rw [hs] at this g
   refine this ?_
   rwa [hd,Bool.not_true,Bool.or_false] at g
  | false =>
   refine Ev.neg ?_ (by simp)
   have hd:decide ((RS c).jn ((RS c).at' T (es.getD p 0)) true=(RS c).at' T (es.getD p 0))=false:=decide_eq_false (by show ¬ (T.getD (es.getD p 0) false || true)=T.getD (es.getD p 0) false;rw [e];decide)
   have hs:Sys.put (RS c) T (es.getD p 0,true)=T.set (es.getD p 0) true:=by
    show T.set (es.getD p 0) (T.getD (es.getD p 0) false || true)=_
    rw [e]
    rfl
   rw [hd,Bool.not_false,Bool.or_true] at g
   have:=go true g
   rwa [hs] at this
theorem SaT.out {c:List SQ} (h:CV (qs c)):∀ (d:Nat),d<=c.length->∀ (T:List Bool) (b:Bool),(RS c).St T->Ev (fun k=>SaT.l0 k c T b ((c.length - d:Nat):Int)) ((Sys.rnds (RS c) d T b).2,(Sys.rnds (RS c) d T b).1)
 | 0,hd,T,b,hT=>by
  refine Ev.succ ?_
  simp only [SaT.l0,Nat.sub_zero]
  exact Ev.neg Ev.pure
 | d+1,hd,T,b,hT=>by
  refine Ev.succ ?_
  have h6:=cv600 h
  have hi:c.length - (d+1) < c.length:=by omega
  have hn:T.length=c.length:=hT.1
  have hw:=wrap_up (show c.length - (d+1) < 9223372036854775807 by omega)
  have hs:((c.length - (d+1)+1:Nat):Int)=((c.length - d:Nat):Int):=by congr 1;omega
  obtain⟨b1,_⟩:=Sys.pass_all (RS_laws h) ((RS c).out (c.length - (d+1)) ((RS c).at' T (c.length - (d+1)))) T b hT ((RS_laws h).oko _ _ hi trivial)
  have ih:=SaT.out h d (by omega) _ (Sys.pass (RS c) ((RS c).out (c.length - (d+1)) ((RS c).at' T (c.length - (d+1)))) T b).2 b1
  simp only [SaT.l0,rdOf_nat,hn,hw]
  refine Ev.pos (Ev.pos (Ev.pos ?_))
  show Ev _ ((Sys.rnds (RS c) d (Sys.pass (RS c) ((RS c).out (c.length - (d+1)) ((RS c).at' T (c.length - (d+1)))) T b).1 (Sys.pass (RS c) ((RS c).out (c.length - (d+1)) ((RS c).at' T (c.length - (d+1)))) T b).2).2,(Sys.rnds (RS c) d (Sys.pass (RS c) ((RS c).out (c.length - (d+1)) ((RS c).at' T (c.length - (d+1)))) T b).1 (Sys.pass (RS c) ((RS c).out (c.length - (d+1)) ((RS c).at' T (c.length - (d+1)))) T b).2).1)
  by_cases g:T.getD (c.length - (d+1)) false=true
  ·have e:(RS c).out (c.length - (d+1)) ((RS c).at' T (c.length - (d+1)))=(nx (q_ (qa c (c.length - (d+1)))) (c.length - (d+1))).map fun e=>(e,true):=if_pos g
   refine Ev.pos (Ev.bind (SaS.ev h hi) ?_) g
   refine SaT.in h hi (by have:=nx_len (q_ (qa c (c.length - (d+1)))) (c.length - (d+1));omega) (fun e he=>nx_lt' h hi he) _ 0 T b (Nat.zero_add _) hT ?_
   rw [List.drop_zero,<- e,hs]
   exact ih
  have e:(RS c).out (c.length - (d+1)) ((RS c).at' T (c.length - (d+1)))=[]:=if_neg g
  refine Ev.neg ?_ g
  rw [hs]
  rw [e] at ih ⊢
  exact ih
theorem Sae.rounds {c:List SQ} (h:CV (qs c)):∀ (m:Nat) (T:List Bool),(RS c).Rd T->(RS c).cap T<=m->∃ U,(RS c).Lfp U/\Ev (fun k=>Sae.l0 k c T) U
 | m,T,hT,hm=>by
  obtain⟨a,b,e⟩:=Sys.rd_step (RS_laws h) hT
  have o:=SaT.out h c.length (Nat.le_refl _) T false hT.1
  rw [Nat.sub_self] at o
  have o':Ev (fun k=>SaT.f k c T) ((Sys.rnds (RS c) c.length T false).2,(Sys.rnds (RS c) c.length T false).1):=o
  cases g:(Sys.rnds (RS c) c.length T false).2 with
  | false =>
   refine⟨_,e g,Ev.succ ?_⟩
   simp only [Sae.l0]
   exact Ev.bind o' (Ev.neg Ev.pure (by simp [g]))
  | true =>
   have lt:=b g
   match m,hm with
   | 0,hm=>omega
   | m+1,hm =>
    obtain⟨U,hU,hE⟩:=Sae.rounds h m _ a (by have:(RS c).cap (Sys.rnds (RS c) c.length T false).1 < (RS c).cap T:=lt;show (RS c).cap (Sys.rnds (RS c) c.length T false).1<=m;omega)
    refine⟨U,hU,Ev.succ ?_⟩
    simp only [Sae.l0]
    exact Ev.bind o' (Ev.pos hE (by simp [g]))
theorem Sae.ev {c:List SQ} (h:CV (qs c)):∃ U,(RS c).Lfp U/\Ev (fun k=>Sae.f k c) U:=by
 have h6:=cv600 h
 obtain⟨U,hU,hE⟩:=Sae.rounds h _ _ (Sys.rd0 (RS_laws h)) (Nat.le_refl _)
 refine⟨U,hU,?_⟩
 simp only [Sae.f,Int.toNat_natCast]
 refine Ev.bind (Saf.ev c) (Ev.pos (Ev.pos (Ev.pos (Ev.some (Ev.pos ?_ (by rw [List.length_replicate];omega))))) (decide_eq_true h))
 exact hE
end Go.Proofs.YtebpplallecogaaGreat.M
namespace Go.Proofs.YtebpplallecogaaGreat.M
open Go.Proofs.Tryz Go.RowKit Go.Proofs.YtebpplallecogaaGreatW.PrintWords Go.Proofs.YtebpplallecogaaGreatW.PrintLast Go.Proofs.YtebpplallecogaaGreatW.PrintMore
mutual
def Sav.l0:Nat->List S27->List S27->List Bool->Int->Option ((List S27) × Bool)
 | 0,_,_,_,_=>none
 | k+1,x0,x4,x5,x6=>if x6 < (x0.length:Int) then (if 0<=x6 then (if x6 < (x5.length:Int) then (if rdOf false x5 x6=true then ((Sbe.f k ((rd_T27 x0 x6).f0) ((rd_T27 x0 x6).f1) ((rd_T27 x0 x6).f2) ((rd_T27 x0 x6).f3) ((rd_T27 x0 x6).f4) x6).bind fun af=>(Sav.l0 k x0 x4 (x5.set (x6:Int).toNat (!af)) (wrap64 (x6+1)))) else (Sav.l0 k x0 x4 (x5.set (x6:Int).toNat false) (wrap64 (x6+1)))) else (none)) else (none)) else (Sav.l1 k x0 x4 x5 0)
def Sav.l1:Nat->List S27->List S27->List Bool->Int->Option ((List S27) × Bool)
 | 0,_,_,_,_=>none
 | k+1,x0,x4,x5,x7=>if x7 < (x0.length:Int) then (if 0<=x7 then (if x7 < (x5.length:Int) then (if rdOf false x5 x7=true then (if ((rd_T27 x0 x7).f0)=4 then ((Sbf.f k x5 ((rd_T27 x0 x7).f4)).bind fun ag=>(if x4.length < 3518437208883 then (Sav.l1 k x0 (x4 ++ [(⟨(rd_T27 x0 x7).f0,(rd_T27 x0 x7).f1,(rd_T27 x0 x7).f2,(rd_T27 x0 x7).f3,ag⟩:S27)]) x5 (wrap64 (x7+1))) else (none))) else (if ((rd_T27 x0 x7).f0)=5 then ((Sbf.f k x5 ((rd_T27 x0 x7).f4)).bind fun ah=>(if x4.length < 3518437208883 then (Sav.l1 k x0 (x4 ++ [(⟨(rd_T27 x0 x7).f0,(rd_T27 x0 x7).f1,(rd_T27 x0 x7).f2,(rd_T27 x0 x7).f3,ah⟩:S27)]) x5 (wrap64 (x7+1))) else (none))) else (if x4.length < 3518437208883 then (Sav.l1 k x0 (x4 ++ [(⟨(rd_T27 x0 x7).f0,(rd_T27 x0 x7).f1,(rd_T27 x0 x7).f2,(rd_T27 x0 x7).f3,(rd_T27 x0 x7).f4⟩:S27)]) x5 (wrap64 (x7+1))) else (none)))) else (Sav.l1 k x0 x4 x5 (wrap64 (x7+1)))) else (none)) else (none)) else (some (x4,true))
end
def Sav.f (k:Nat) (l0:List S27):Option ((List S27) × Bool):=(some (([]:List S27):List S27)).bind fun ae=>((Saf.f k l0).bind fun ai=>(if ai=true then ((Sae.f k l0).bind fun aj=>(Sav.l0 k l0 ae aj 0)) else (some (ae,false))))
theorem Sav.mono_l:∀ k,(∀ y0 y1 y2 y3,LeO (Sav.l0 k y0 y1 y2 y3) (Sav.l0 (k+1) y0 y1 y2 y3))/\(∀ y0 y1 y2 y3,LeO (Sav.l1 k y0 y1 y2 y3) (Sav.l1 (k+1) y0 y1 y2 y3))
 | 0=>⟨fun _ _ _ _ r h=>by simp [Sav.l0] at h,fun _ _ _ _ r h=>by simp [Sav.l1] at h⟩
 | k+1=>by
  obtain⟨aa,ih1⟩:=Sav.mono_l k
  refine⟨?_,?_⟩
  ·intro y0 y1 y2 y3
   unfold Sav.l0
   repeat' first
   | (with_reducible exact aa _ _ _ _)
   | (with_reducible exact ih1 _ _ _ _)
   | (with_reducible exact Sae.mono _ _)
   | (with_reducible exact Saf.mono _ _)
   | (with_reducible exact Sbe.mono _ _ _ _ _ _ _)
   | (with_reducible exact Sbf.mono _ _ _)
   | (with_reducible exact LeO.refl _)
   | (with_reducible exact LeO.none _)
   | (with_reducible refine LeO.ite ?_ ?_)
   | (with_reducible refine LeO.bind ?_ (fun _=>?_))
   | exact aa _ _ _ _
   | exact ih1 _ _ _ _
   | exact Sae.mono _ _
   | exact Saf.mono _ _
   | exact Sbe.mono _ _ _ _ _ _ _
   | exact Sbf.mono _ _ _
   | exact LeO.none _
   | refine LeO.ite ?_ ?_
   | refine LeO.bind ?_ (fun _=>?_)
  intro y0 y1 y2 y3
  unfold Sav.l1
  repeat' first
  | (with_reducible exact aa _ _ _ _)
  | (with_reducible exact ih1 _ _ _ _)
  | (with_reducible exact Sae.mono _ _)
  | (with_reducible exact Saf.mono _ _)
  | (with_reducible exact Sbe.mono _ _ _ _ _ _ _)
  | (with_reducible exact Sbf.mono _ _ _)
  | (with_reducible exact LeO.refl _)
  | (with_reducible exact LeO.none _)
  | (with_reducible refine LeO.ite ?_ ?_)
  | (with_reducible refine LeO.bind ?_ (fun _=>?_))
  | exact aa _ _ _ _
  | exact ih1 _ _ _ _
  | exact Sae.mono _ _
  | exact Saf.mono _ _
  | exact Sbe.mono _ _ _ _ _ _ _
  | exact Sbf.mono _ _ _
  | exact LeO.none _
  | refine LeO.ite ?_ ?_
  | refine LeO.bind ?_ (fun _=>?_)
theorem Sav.mono:∀ a0 k,LeO (Sav.f k a0) (Sav.f (k+1) a0):=by
 intro a0 k
 obtain⟨aa,ih1⟩:=Sav.mono_l k
 unfold Sav.f
 repeat' first
   | (with_reducible exact aa _ _ _ _)
   | (with_reducible exact ih1 _ _ _ _)
   | (with_reducible exact Sae.mono _ _)
   | (with_reducible exact Saf.mono _ _)
   | (with_reducible exact Sbe.mono _ _ _ _ _ _ _)
   | (with_reducible exact Sbf.mono _ _ _)
   | (with_reducible exact LeO.refl _)
   | (with_reducible exact LeO.none _)
   | (with_reducible refine LeO.ite ?_ ?_)
   | (with_reducible refine LeO.bind ?_ (fun _=>?_))
   | exact aa _ _ _ _
   | exact ih1 _ _ _ _
   | exact Sae.mono _ _
   | exact Saf.mono _ _
   | exact Sbe.mono _ _ _ _ _ _ _
   | exact Sbf.mono _ _ _
   | exact LeO.none _
   | refine LeO.ite ?_ ?_
   | refine LeO.bind ?_ (fun _=>?_)
end Go.Proofs.YtebpplallecogaaGreat.M
namespace Go.Proofs.YtebpplallecogaaGreat.M
open Go.Proofs.Tryz Go.RowKit Go.Proofs.YtebpplallecogaaGreatW.PrintWords Go.Proofs.YtebpplallecogaaGreatW.PrintLast Go.Proofs.YtebpplallecogaaGreatW.PrintMore PM
def idle (q:SQ) (i:Nat):Bool:=if q.f0=4\/q.f0=5 then q.f4 == ((i+1:Nat):Int) else q.f0 == 2 && q.f1 == q.f2
theorem Sbe.ev (q:SQ) {i:Nat} (hi:i < 9223372036854775807):Ev (fun k=>Sbe.f k q.f0 q.f1 q.f2 q.f3 q.f4 (i:Int)) (idle q i):=by
 simp only [Sbe.f]
 by_cases c4:q.f0=4
 ·have e:idle q i=(q.f4 == ((i+1:Nat):Int)):=if_pos (.inl c4)
  rw [e]
  refine Ev.pos (Ev.succ ?_)
  simp only [Sbe.j0,wrap_up hi]
  exact Ev.pos Ev.pure (by simp [c4])
 refine Ev.neg (Ev.succ ?_)
 simp only [Sbe.j0,wrap_up hi]
 by_cases c5:q.f0=5
 ·have e:idle q i=(q.f4 == ((i+1:Nat):Int)):=if_pos (.inr c5)
  rw [e]
  exact Ev.pos Ev.pure (by simp [c5])
 refine Ev.neg ?_ (by simp [c5])
 have e:idle q i=(q.f0 == 2 && q.f1 == q.f2):=if_neg (by omega)
 rw [e]
 by_cases c2:q.f0=2
 ·refine Ev.pos (Ev.eq Ev.pure ?_)
  simp [c2]
 refine Ev.neg (Ev.eq Ev.pure ?_)
 simp [c2]
def kp (c:List SQ) (U:List Bool) (i:Nat):Bool:=U.getD i false && !idle (qa c i) i
def kps (c:List SQ) (U:List Bool):List Bool:=(List.range c.length).map (kp c U)
theorem kps_len (c:List SQ) (U:List Bool):(kps c U).length=c.length:=by simp [kps]
theorem kps_get {c:List SQ} {U:List Bool} {i:Nat} (h:i < c.length):(kps c U).getD i false=kp c U i:=by simp [kps,List.getD_eq_getElem?_getD,h]
def plc (c:List SQ) (U:List Bool) (n:Nat):Nat:=((List.range n).filter (kp c U)).length
theorem plc_next (c:List SQ) (U:List Bool) (n:Nat):plc c U (n+1)=plc c U n+(if kp c U n=true then 1 else 0):=by
 unfold plc
 rw [List.range_succ,List.filter_append,List.length_append]
 congr 1
 by_cases h:kp c U n=true <;> simp [h]
theorem plc_le (c:List SQ) (U:List Bool) (n:Nat):plc c U n<=n:=by
 have:=List.length_filter_le (kp c U) (List.range n)
 rwa [List.length_range] at this
theorem plc_mono (c:List SQ) (U:List Bool) {a b:Nat} (h:a<=b):plc c U a<=plc c U b:=by
 induction b with
 | zero=>rw [show a=0 from by omega];exact Nat.le_refl _
 | succ b ih =>
  by_cases e:a=b+1
  ·rw [e];exact Nat.le_refl _
  rw [plc_next]
  have:=ih (by omega)
  omega
theorem plc_lt (c:List SQ) (U:List Bool) {a b m:Nat} (h:a<=m) (hm:m < b) (hk:kp c U m=true):plc c U a < plc c U b:=by
 have h1:=plc_mono c U h
 have h2:=plc_next c U m
 rw [if_pos hk] at h2
 have h3:=plc_mono c U (show m+1<=b by omega)
 omega
theorem Sbf.out {c:List SQ} {U:List Bool} (h9:c.length < 9223372036854775807) {n:Nat} (hn:n<=c.length):∀ (d p:Nat),p+d=n->Ev (fun k=>Sbf.l0 k (kps c U) (n:Int) (plc c U p:Int) (p:Int)) (plc c U n:Int)
 | 0,p,hp=>by
  refine Ev.succ ?_
  simp only [Sbf.l0]
  refine Ev.neg (Ev.eq Ev.pure ?_)
  rw [show p=n from by omega]
 | d+1,p,hp=>by
  refine Ev.succ ?_
  have h1:=plc_le c U p
  have ih:=Sbf.out (U:=U) h9 hn d (p+1) (by omega)
  rw [plc_next] at ih
  simp only [Sbf.l0,rdOf_nat,kps_len,kps_get (show p < c.length by omega),wrap_up (show p < 9223372036854775807 by omega),wrap_up (show plc c U p < 9223372036854775807 by omega)]
  refine Ev.pos (Ev.pos (Ev.pos ?_))
  by_cases g:kp c U p=true
  ·rw [if_pos g] at ih
   exact Ev.pos ih
  rw [if_neg g] at ih
  exact Ev.neg ih
theorem Sbf.ev {c:List SQ} {U:List Bool} (h9:c.length < 9223372036854775807) {n:Int} (h0:0<=n) (hn:n<=c.length):Ev (fun k=>Sbf.f k (kps c U) n) (plc c U n.toNat:Int):=by
 have:=Sbf.out (U:=U) h9 (n:=n.toNat) (by omega) n.toNat 0 (Nat.zero_add _)
 rw [Int.toNat_of_nonneg h0] at this
 exact this
def sqQ (c:List SQ) (U:List Bool) (q:SQ):SQ:=if q.f0=4\/q.f0=5 then ⟨q.f0,q.f1,q.f2,q.f3,(plc c U q.f4.toNat:Int)⟩ else q
def sqU (c:List SQ) (U:List Bool) (p:Nat):List SQ:=((List.range p).filter (kp c U)).map fun i=>sqQ c U (qa c i)
def sqC (c:List SQ) (U:List Bool):List SQ:=sqU c U c.length
theorem sqU_next (c:List SQ) (U:List Bool) (p:Nat):sqU c U (p+1)=sqU c U p ++ (if kp c U p=true then [sqQ c U (qa c p)] else []):=by
 unfold sqU
 rw [List.range_succ,List.filter_append,List.map_append]
 congr 1
 by_cases h:kp c U p=true <;> simp [h]
theorem sqU_len (c:List SQ) (U:List Bool) (p:Nat):(sqU c U p).length=plc c U p:=by simp [sqU,plc]
theorem Sav.two {c:List SQ} (h:CV (qs c)) {U:List Bool}:∀ (d p:Nat),p+d=c.length->Ev (fun k=>Sav.l1 k c (sqU c U p) (kps c U) (p:Int)) (sqC c U,true)
 | 0,p,hp=>by
  refine Ev.succ ?_
  simp only [Sav.l1]
  refine Ev.neg (Ev.eq Ev.pure ?_)
  rw [show p=c.length from by omega]
  rfl
 | d+1,p,hp=>by
  have h6:=cv600 h
  have hi:p < c.length:=by omega
  refine Ev.succ ?_
  have ih:=Sav.two h (U:=U) d (p+1) (by omega)
  rw [sqU_next] at ih
  have lt:(sqU c U p).length < 3518437208883:=by rw [sqU_len];have:=plc_le c U p;omega
  simp only [Sav.l1,rdOf_nat,kps_len,kps_get hi,rd_qa,wrap_up (show p < 9223372036854775807 by omega)]
  refine Ev.pos (Ev.pos (Ev.pos ?_))
  by_cases g:kp c U p=true
  ·refine Ev.pos ?_
   rw [if_pos g] at ih
   by_cases c4:(qa c p).f0=4
   ·have n:=n_of h hi (.inl c4)
    refine Ev.pos (Ev.bind (Sbf.ev (by omega) n.1 (by omega)) (Ev.pos ?_ lt))
    rw [sqQ,if_pos (.inl c4)] at ih
    exact ih
   refine Ev.neg ?_
   by_cases c5:(qa c p).f0=5
   ·have n:=n_of h hi (.inr c5)
    refine Ev.pos (Ev.bind (Sbf.ev (by omega) n.1 (by omega)) (Ev.pos ?_ lt))
    rw [sqQ,if_pos (.inr c5)] at ih
    exact ih
   refine Ev.neg (Ev.pos ?_ lt)
   rw [sqQ,if_neg (by omega)] at ih
   exact ih
  rw [if_neg g,List.append_nil] at ih
  exact Ev.neg ih
theorem Sav.one {c:List SQ} (h:CV (qs c)) {U:List Bool} (hU:U.length=c.length):∀ (d p:Nat),p+d=c.length->Ev (fun k=>Sav.l0 k c [] ((kps c U).take p ++ U.drop p) (p:Int)) (sqC c U,true)
 | 0,p,hp=>by
  refine Ev.succ ?_
  simp only [Sav.l0]
  refine Ev.neg ?_
  rw [List.take_of_length_le (by rw [kps_len];omega),List.drop_eq_nil_of_le (by omega),List.append_nil]
  exact Sav.two h c.length 0 (Nat.zero_add _)
 | d+1,p,hp=>by
  have h6:=cv600 h
  have hi:p < c.length:=by omega
  have kl:=kps_len c U
  have hl:=mix_len (A:=kps c U) (B:=U) (by omega) (show p<=(kps c U).length by omega)
  have hg:=mix_get false (A:=kps c U) (B:=U) (by omega) (show p<=(kps c U).length by omega)
  have hn:=mix_next false (A:=kps c U) (B:=U) (by omega) (show p < (kps c U).length by omega)
  rw [kps_get hi] at hn
  have ih:=Sav.one h hU d (p+1) (by omega)
  rw [<- hn] at ih
  refine Ev.succ ?_
  simp only [Sav.l0,rdOf_nat,hl,kl,hg,rd_qa,Int.toNat_natCast,wrap_up (show p < 9223372036854775807 by omega)]
  refine Ev.pos (Ev.pos (Ev.pos ?_))
  by_cases g:U.getD p false=true
  ·refine Ev.pos (Ev.bind (Sbe.ev (qa c p) (by omega)) ?_)
   rw [kp,g,Bool.true_and] at ih
   exact ih
  refine Ev.neg ?_
  rw [kp,Bool.eq_false_iff.mpr g,Bool.false_and] at ih
  exact ih
theorem Sav.ev {c:List SQ} (h:CV (qs c)):∃ U,(RS c).Lfp U/\Ev (fun k=>Sav.f k c) (sqC c U,true):=by
 obtain⟨U,hU,hE⟩:=Sae.ev h
 refine⟨U,hU,?_⟩
 simp only [Sav.f]
 exact Ev.some (Ev.bind (Saf.ev c) (Ev.pos (Ev.bind hE (Sav.one h hU.1.1.1 c.length 0 (Nat.zero_add _))) (decide_eq_true h)))
theorem reach_zero {c:List SQ} {U:List Bool} (hU:(RS c).Lfp U):U.getD 0 false=true:=hU.1.2.1 rfl
theorem reach_step {c:List SQ} {U:List Bool} (hU:(RS c).Lfp U) {i e:Nat} (hi:i < c.length) (g:U.getD i false=true) (he:e∈nx (q_ (qa c i)) i):U.getD e false=true:=by
 refine hU.1.2.2 i hi (e,true) ?_ rfl
 show _∈(if U.getD i false=true then (nx (q_ (qa c i)) i).map fun e=>(e,true) else [])
 rw [if_pos g]
 exact List.mem_map.2 ⟨e,he,rfl⟩
theorem idle_nx {c:List SQ} {i:Nat} (g:idle (qa c i) i=true):i+1∈nx (q_ (qa c i)) i:=by
 unfold idle at g
 unfold nx
 by_cases c4:(qa c i).f0=4
 ·rw [if_pos (.inl c4)] at g
  have e:(qa c i).f4=((i+1:Nat):Int):=by simpa using g
  rw [if_neg (show ¬ (q_ (qa c i)).op=10 by show ¬ (qa c i).f0=10;omega),if_pos (show (q_ (qa c i)).op=4 from c4)]
  show i+1∈[(qa c i).f4.toNat]
  rw [e,Int.toNat_natCast]
  simp
 by_cases c5:(qa c i).f0=5
 ·rw [if_neg (show ¬ (q_ (qa c i)).op=10 by show ¬ (qa c i).f0=10;omega),if_neg (show ¬ (q_ (qa c i)).op=4 from c4),if_pos (show (q_ (qa c i)).op=5 from c5)]
  (repeat' split) <;> simp
 rw [if_neg (by omega)] at g
 have c2:(qa c i).f0=2:=by
  have:(qa c i).f0=2/\(qa c i).f1=(qa c i).f2:=by simpa using g
  exact this.1
 rw [if_neg (show ¬ (q_ (qa c i)).op=10 by show ¬ (qa c i).f0=10;omega),if_neg (show ¬ (q_ (qa c i)).op=4 from c4),if_neg (show ¬ (q_ (qa c i)).op=5 from c5)]
 simp
theorem not_idle_last {c:List SQ} (h:CV (qs c)):idle (qa c (c.length - 1)) (c.length - 1)=false:=by
 have h6:=cv600 h
 have hl:=cv_last h
 unfold idle
 rcases hl with hl|hl
 ·rw [if_neg (by omega)]
  simp [hl]
 rw [if_pos (.inl hl)]
 have:=n_of h (x:=c.length - 1) (by omega) (.inl hl)
 simp
 omega
theorem kept_from {c:List SQ} (h:CV (qs c)) {U:List Bool} (hU:(RS c).Lfp U):∀ (d i:Nat),i+d=c.length - 1->i < c.length->U.getD i false=true->∃ m,i<=m/\m < c.length/\kp c U m=true
 | 0,i,hd,hi,g=>⟨i,Nat.le_refl _,hi,by
  unfold kp
  rw [g,show i=c.length - 1 from by omega,not_idle_last h]
  rfl⟩
 | d+1,i,hd,hi,g=>by
  by_cases x:idle (qa c i) i=true
  ·obtain⟨m,h1,h2,h3⟩:=kept_from h hU d (i+1) (by omega) (by omega) (reach_step hU hi g (idle_nx x))
   exact⟨m,by omega,h2,h3⟩
  refine⟨i,Nat.le_refl _,hi,?_⟩
  unfold kp
  rw [g,Bool.eq_false_iff.mpr x]
  rfl
theorem kp_reach {c:List SQ} {U:List Bool} {i:Nat} (h:kp c U i=true):U.getD i false=true/\idle (qa c i) i=false:=by
 unfold kp at h
 simpa using h
theorem n_nx {c:List SQ} (h:CV (qs c)) {i:Nat} (hi:i < c.length) (h4:(qa c i).f0=4\/(qa c i).f0=5):(qa c i).f4.toNat∈nx (q_ (qa c i)) i:=by
 have hn:=n_of h hi h4
 unfold nx
 rw [if_neg (show ¬ (q_ (qa c i)).op=10 by show ¬ (qa c i).f0=10;omega)]
 by_cases c4:(qa c i).f0=4
 ·rw [if_pos (show (q_ (qa c i)).op=4 from c4)]
  exact List.mem_singleton.2 rfl
 rw [if_neg (show ¬ (q_ (qa c i)).op=4 from c4),if_pos (show (q_ (qa c i)).op=5 by show (qa c i).f0=5;omega)]
 have e:(q_ (qa c i)).n=(qa c i).f4:=rfl
 rw [e]
 split
 ·simp
 split
 ·simp
 simp
 omega
theorem get_filter {p:Nat->Bool}:∀ (n:Nat) {j:Nat},j < ((List.range n).filter p).length->∃ i,i < n/\p i=true/\((List.range n).filter p)[j]?=some i/\((List.range i).filter p).length=j
 | 0,j,h=>by simp at h
 | n+1,j,h=>by
  rw [List.range_succ,List.filter_append] at h ⊢
  by_cases hj:j < ((List.range n).filter p).length
  ·obtain⟨i,h1,h2,h3,h4⟩:=get_filter (p:=p) n hj
   exact⟨i,by omega,h2,by rw [List.getElem?_append_left hj];exact h3,h4⟩
  by_cases g:p n=true
  ·have e:List.filter p [n]=[n]:=by simp [g]
   rw [e,List.length_append,List.length_singleton] at h
   refine⟨n,by omega,g,?_,by omega⟩
   rw [e,List.getElem?_append_right (by omega),show j - ((List.range n).filter p).length=0 from by omega]
   rfl
  have e:List.filter p [n]=[]:=by simp [g]
  rw [e,List.append_nil] at h
  omega
theorem sqC_get {c:List SQ} {U:List Bool} {j:Nat} (h:j < (sqC c U).length):∃ i,i < c.length/\kp c U i=true/\qa (sqC c U) j=sqQ c U (qa c i)/\plc c U i=j:=by
 have h':j < ((List.range c.length).filter (kp c U)).length:=by
  unfold sqC sqU at h
  rwa [List.length_map] at h
 obtain⟨i,h1,h2,h3,h4⟩:=get_filter _ h'
 refine⟨i,h1,h2,?_,h4⟩
 unfold qa sqC sqU
 rw [List.getD_eq_getElem?_getD,List.getElem?_map,h3]
 rfl
theorem sqC_valid {c:List SQ} (h:CV (qs c)) {U:List Bool} (hU:(RS c).Lfp U):CV (qs (sqC c U)):=by
 have h6:=cv600 h
 have hl:(sqC c U).length=plc c U c.length:=sqU_len c U _
 have hle:=plc_le c U c.length
 have h1:1<=(sqC c U).length:=by
  obtain⟨m,_,h2,h3⟩:=kept_from h hU (c.length - 1) 0 (Nat.zero_add _) (by omega) (reach_zero hU)
  have:=plc_lt c U (Nat.zero_le m) h2 h3
  omega
 refine cv_of h1 (by omega) (fun j hj=>?_) ?_
 ·obtain⟨i,hi,hk,e,_⟩:=sqC_get hj
  rw [e]
  have v:=cv_at h hi
  unfold sqQ
  split
  ·rename_i g
   have n:=n_of h hi g
   obtain⟨m,m1,m2,m3⟩:=kept_from h hU (c.length - 1 - (qa c i).f4.toNat) (qa c i).f4.toNat (by omega) (by omega) (reach_step hU hi (kp_reach hk).1 (n_nx h hi g))
   have lt:=plc_lt c U m1 m2 m3
   have t:0<=(plc c U (qa c i).f4.toNat:Int)/\(plc c U (qa c i).f4.toNat:Int) < ((sqC c U).length:Int):=by omega
   rcases v with v|v|v | ⟨o,p1,p2,p3,_⟩ | ⟨o,p1,p2,p3,_⟩|v
   ·have:(qa c i).f0=1:=v.1
    omega
   ·have:(qa c i).f0=2:=v.1
    omega
   ·have:(qa c i).f0=3:=v.1
    omega
   ·exact .inr (.inr (.inr (.inl ⟨o,p1,p2,p3,t⟩)))
   ·exact .inr (.inr (.inr (.inr (.inl ⟨o,p1,p2,p3,t⟩))))
   have:¬ ((qa c i).f0=4\/(qa c i).f0=5):=by
    simp only [q_] at v
    omega
   exact absurd g this
  rename_i g
  rcases v with v|v|v|v|v|v
  ·exact .inl v
  ·exact .inr (.inl v)
  ·exact .inr (.inr (.inl v))
  ·exact absurd (.inl v.1) g
  ·exact absurd (.inr v.1) g
  exact .inr (.inr (.inr (.inr (.inr v))))
 obtain⟨i,hi,hk,e,hj⟩:=sqC_get (c:=c) (U:=U) (j:=(sqC c U).length - 1) (by omega)
 rw [e]
 have key:(qa c i).f0=10\/(qa c i).f0=4:=by
  apply Classical.byContradiction
  intro x
  have hn:i+1∈nx (q_ (qa c i)) i:=by
   unfold nx
   rw [if_neg (show ¬ (q_ (qa c i)).op=10 from fun y=>x (.inl y)),if_neg (show ¬ (q_ (qa c i)).op=4 from fun y=>x (.inr y))]
   (repeat' split) <;> simp
  have lt:=nx_lt' h hi hn
  obtain⟨m,m1,m2,m3⟩:=kept_from h hU (c.length - 1 - (i+1)) (i+1) (by omega) lt (reach_step hU hi (kp_reach hk).1 hn)
  have l1:=plc_lt c U (Nat.le_refl i) (Nat.lt_succ_self i) hk
  have l2:=plc_lt c U m1 m2 m3
  have:plc c U (i+1)<=plc c U c.length - 1:=by omega
  have e1:=plc_next c U i
  rw [if_pos hk] at e1
  omega
 have eo:(sqQ c U (qa c i)).f0=(qa c i).f0:=by
  unfold sqQ
  split <;> rfl
 rw [eo]
 exact key
def ca (l:List Int) (r:Nat):Int:=l.getD r 0
theorem ca_mk (f:Nat->Int) {r:Nat} (h:r < 12):ca (mk12 f) r=f r:=mk12_get _ _ h
theorem ca_set {l:List Int} (hl:l.length=12) {s r:Nat} (hs:s < 12) (v:Int):ca (l.set s v) r=if r=s then v else ca l r:=getD_set l s r v 0 (by omega)
theorem ca_ext {a b:List Int} (ha:a.length=12) (hb:b.length=12) (h:∀ r,r < 12->ca a r=ca b r):a=b:=ext12 0 ha hb h
theorem mk_ne {α:Type} (f:Nat->α):mk12 f≠[]:=fun e=>by have:=mk12_len f;rw [e] at this;simp at this
def okC (l:List Int):Prop:=l=[]\/(l.length=12/\∀ r,r < 12->0<=ca l r/\ca l r < 12)
def leC (a b:List Int):Prop:=a=[]\/(b≠[]/\∀ r:Nat,r < 12->ca b r=ca a r\/ca b r=r)
def jC (a b:List Int):List Int:=if a=[] then b else if b=[] then a else mk12 fun r=>if ca a r=ca b r then ca a r else r
def selfC:List Int:=mk12 fun r=>(r:Int)
def aftC (q:Q) (x:List Int):List Int:=if sets q < 0 then x else mk12 fun r=>if (r:Int)=sets q then (if q.op=2 then q.a else r) else if ca x r=sets q then r else ca x r
def rkC (x:List Int):Nat:=if x=[] then 0 else 1+sumTo (fun r=>if ca x r=r then 1 else 0) 12
def CS (c:List SQ):Sys (List Int) where
 n:=c.length
 ok:=okC
 le:=leC
 jn:=jC
 out:=fun i x=>if x=[] then [] else (nx (q_ (qa c i)) i).map fun e=>(e,aftC (q_ (qa c i)) x)
 rk:=rkC
 top:=13
 d:=[]
 ini:=selfC
theorem okC_len {l:List Int} (h:okC l) (g:l≠[]):l.length=12/\∀ r,r < 12->0<=ca l r/\ca l r < 12:=by
 rcases h with h|h
 ·exact absurd h g
 exact h
theorem aftC_ok {q:Q} {m:Int} (h:QV q m) {x:List Int} (hx:okC x) (g:x≠[]):okC (aftC q x)/\aftC q x≠[]:=by
 unfold aftC
 split
 ·exact⟨hx,g⟩
 refine⟨.inr ⟨mk12_len _,fun r hr=>?_⟩,mk_ne _⟩
 have k:=(okC_len hx g).2 r hr
 obtain⟨_,⟨a0,a1⟩,_⟩:=regs_of h
 rw [ca_mk _ hr]
 (repeat' split) <;> omega
theorem aftC_mono {q:Q} {m:Int} (h:QV q m) {x y:List Int} (hx:okC x) (hy:okC y) (g:x≠[]) (g':y≠[]) (hl:leC x y):leC (aftC q x) (aftC q y):=by
 rcases hl with hl|hl
 ·exact absurd hl g
 refine .inr ⟨(aftC_ok h hy g').2,fun r hr=>?_⟩
 have k:=hl.2 r hr
 unfold aftC
 split
 ·exact k
 rw [ca_mk _ hr,ca_mk _ hr]
 by_cases e:(r:Int)=sets q
 ·rw [if_pos e,if_pos e]
  exact .inl rfl
 rw [if_neg e,if_neg e]
 rcases k with k|k
 ·rw [k]
  exact .inl rfl
 rw [k,if_neg e]
 exact .inr rfl
theorem leC_some {a b:List Int} (h:leC a b) (g:a≠[]):b≠[]:=by
 rcases h with h|h
 ·exact absurd h g
 exact h.1
theorem jC_some {a b:List Int} (ha:a≠[]):jC a b≠[]:=by
 unfold jC
 rw [if_neg ha]
 split
 ·exact ha
 exact mk_ne _
theorem leC_refl (a:List Int):leC a a:=by
 by_cases h:a=[]
 ·exact .inl h
 exact .inr ⟨h,fun r _=>.inl rfl⟩
theorem CS_laws {c:List SQ} (h:CV (qs c)):(CS c).Laws where
 refl:=fun a _=>leC_refl a
 trans:=fun a b c _ _ _ h g=>by
  rcases h with h|h
  ·exact .inl h
  rcases g with g|g
  ·exact absurd g h.1
  refine .inr ⟨g.1,fun r hr=>?_⟩
  rcases g.2 r hr with x|x
  ·rw [x]
   exact h.2 r hr
  exact .inr x
 anti:=fun a b ha hb h g=>by
  by_cases ea:a=[]
  ·rcases g with g|g
   ·rw [ea,g]
   exact absurd ea g.1
  have eb:=leC_some h ea
  rcases h with h|h
  ·exact absurd h ea
  rcases g with g|g
  ·exact absurd g eb
  refine ca_ext (okC_len ha ea).1 (okC_len hb eb).1 fun r hr=>?_
  rcases h.2 r hr with x|x
  ·exact x.symm
  rcases g.2 r hr with y|y
  ·exact y
  omega
 ub1:=fun a b ha hb=>by
  show leC a (jC a b)
  by_cases ea:a=[]
  ·exact .inl ea
  refine .inr ⟨jC_some ea,fun r hr=>?_⟩
  unfold jC
  rw [if_neg ea]
  split
  ·exact .inl rfl
  rw [ca_mk _ hr]
  split
  ·exact .inl rfl
  exact .inr rfl
 ub2:=fun a b ha hb=>by
  show leC b (jC a b)
  by_cases eb:b=[]
  ·exact .inl eb
  by_cases ea:a=[]
  ·unfold jC
   rw [if_pos ea]
   exact leC_refl b
  refine .inr ⟨jC_some ea,fun r hr=>?_⟩
  unfold jC
  rw [if_neg ea,if_neg eb,ca_mk _ hr]
  split
  ·rename_i x
   exact .inl x
  exact .inr rfl
 lub:=fun a b c ha hb hc h g=>by
  show leC (jC a b) c
  by_cases ea:a=[]
  ·unfold jC
   rwa [if_pos ea]
  by_cases eb:b=[]
  ·unfold jC
   rwa [if_neg ea,if_pos eb]
  refine .inr ⟨leC_some h ea,fun r hr=>?_⟩
  rcases h with h|h
  ·exact absurd h ea
  rcases g with g|g
  ·exact absurd g eb
  unfold jC
  rw [if_neg ea,if_neg eb,ca_mk _ hr]
  have k:=h.2 r hr
  have k':=g.2 r hr
  split <;> omega
 okj:=fun a b ha hb=>by
  show okC (jC a b)
  unfold jC
  split
  ·exact hb
  split
  ·exact ha
  rename_i ea eb
  refine .inr ⟨mk12_len _,fun r hr=>?_⟩
  rw [ca_mk _ hr]
  have:=(okC_len ha ea).2 r hr
  split <;> omega
 oko:=fun i x hi hx p hp=>by
  have hp':p∈(if x=[] then [] else (nx (q_ (qa c i)) i).map fun e=>(e,aftC (q_ (qa c i)) x)):=hp
  split at hp'
  ·simp at hp'
  rename_i g
  obtain⟨e,he,rfl⟩:=List.mem_map.1 hp'
  have n:=nx_lt h (i:=i) (j:=e) (by rw [qs_len];exact hi) (by rw [at_qs];exact he)
  rw [qs_len] at n
  exact⟨n,(aftC_ok (cv_at h hi) hx g).1⟩
 mono:=fun i x y hi hx hy hl p hp=>by
  have hp':p∈(if x=[] then [] else (nx (q_ (qa c i)) i).map fun e=>(e,aftC (q_ (qa c i)) x)):=hp
  split at hp'
  ·simp at hp'
  rename_i g
  obtain⟨e,he,rfl⟩:=List.mem_map.1 hp'
  have g':=leC_some hl g
  refine⟨aftC (q_ (qa c i)) y,?_,aftC_mono (cv_at h hi) hx hy g g' hl⟩
  show _∈(if y=[] then [] else (nx (q_ (qa c i)) i).map fun e=>(e,aftC (q_ (qa c i)) y))
  rw [if_neg g']
  exact List.mem_map.2 ⟨e,he,rfl⟩
 rank:=fun a b ha hb hl ne=>by
  show rkC a < rkC b
  unfold rkC
  by_cases ea:a=[]
  ·have eb:b≠[]:=fun x=>ne (by rw [ea,x])
   rw [if_pos ea,if_neg eb]
   omega
  have eb:=leC_some hl ea
  rw [if_neg ea,if_neg eb]
  rcases hl with hl|hl
  ·exact absurd hl ea
  have k:∃ r,r < 12/\ca a r≠ca b r:=by
   apply Classical.byContradiction
   intro x
   exact ne (ca_ext (okC_len ha ea).1 (okC_len hb eb).1 fun r hr=>Classical.byContradiction fun y=>x ⟨r,hr,y⟩)
  obtain⟨r,hr,hne⟩:=k
  have:=sumTo_lt (f:=fun r=>if ca a r=r then 1 else 0) (g:=fun r=>if ca b r=r then 1 else 0) 12 (fun r hr=>by
   have:=hl.2 r hr
   split <;> split <;> omega) r hr (by
   have:=hl.2 r hr
   rw [if_neg (by omega),if_pos (by omega)]
   omega)
  omega
 rtop:=fun a ha=>by
  show rkC a<=13
  unfold rkC
  split
  ·omega
  have:=sumTo_le (f:=fun r=>if ca a r=r then 1 else 0) (g:=fun _=>1) 12 (fun r hr=>by split <;> omega)
  rw [sumTo_const] at this
  omega
 okd:=.inl rfl
 oki:=.inr ⟨mk12_len _,fun r hr=>by
  show 0<=ca (mk12 fun r=>(r:Int)) r/\ca (mk12 fun r=>(r:Int)) r < 12
  rw [ca_mk _ hr]
  omega⟩
 bot:=fun a _=>.inl rfl
 outd:=fun i=>by
  show (if ([]:List Int)=[] then ([]:List (Nat × List Int)) else (nx (q_ (qa c i)) i).map fun e=>(e,aftC (q_ (qa c i)) []))=[]
  exact if_pos rfl
 pos:=(cv600 h).1
 inid:=mk_ne _
theorem rd_ca (x:List Int) (r:Nat):rd x (r:Int)=ca x r:=rd_nat x r
theorem rd_ca' (x:List Int) {i:Int} (h:0<=i):rd x i=ca x i.toNat:=by rw [<- rd_ca,Int.toNat_of_nonneg h]
theorem Sbc.out:∀ (d p:Nat),p+d=12->Ev (fun k=>Sbc.l0 k (selfC.take p) (p:Int)) selfC
 | 0,p,hp=>by
  refine Ev.succ ?_
  simp only [Sbc.l0]
  refine Ev.neg (Ev.eq Ev.pure ?_)
  rw [List.take_of_length_le (by show (mk12 _).length<=p;rw [mk12_len];omega)]
 | d+1,p,hp=>by
  refine Ev.succ ?_
  have hl:selfC.length=12:=mk12_len _
  have e:selfC.take p ++ [(p:Int)]=selfC.take (p+1):=by
   rw [<- take_next 0 (show p < selfC.length by omega)]
   congr 2
   exact (ca_mk _ (show p < 12 by omega)).symm
  simp only [Sbc.l0,e,wrap_up (show p < 9223372036854775807 by omega)]
  refine Ev.pos (Ev.pos (Sbc.out d (p+1) (by omega)) (by rw [List.length_take];omega))
theorem Sbc.ev:Ev (fun k=>Sbc.f k) selfC:=Sbc.out 12 0 rfl
def cutC (s:Int) (p:Nat) (x:List Int):List Int:=mk12 fun r=>if r < p/\ca x r=s then (r:Int) else ca x r
theorem Sb8.out {q:Q} {s:Nat} (hs:s < 12) {x:List Int} (hx:x.length=12) (hq:sets q=s):∀ (d p:Nat),p+d=12->Ev (fun k=>Sb8.l0 k (cutC s p x) (s:Int) (p:Int) q.op q.dst q.a q.b q.n) (aftC q x)
 | 0,p,hp=>by
  have:p=12:=by omega
  subst this
  refine Ev.succ ?_
  have hl:(cutC s 12 x).length=12:=mk12_len _
  simp only [Sb8.l0,hl,Int.toNat_natCast,List.set_set]
  refine Ev.neg (Ev.pos (Ev.pos (Ev.some ?_)))
  have key:∀ v:Int,v=(if q.op=2 then q.a else (s:Int))->(cutC s 12 x).set s v=aftC q x:=by
   intro v hv
   unfold aftC
   rw [hq,if_neg (by omega)]
   refine ca_ext (by rw [List.length_set];exact hl) (mk12_len _) fun r hr=>?_
   rw [ca_set hl hs,ca_mk _ hr]
   by_cases e:r=s
   ·rw [if_pos e,if_pos (by omega),hv,e]
   rw [if_neg e,if_neg (by omega)]
   unfold cutC
   rw [ca_mk _ hr]
   by_cases g:ca x r=s
   ·rw [if_pos ⟨hr,g⟩,if_pos g]
   rw [if_neg (fun y=>g y.2),if_neg g]
  by_cases c2:q.op=2
  ·refine Ev.pos (Ev.eq Ev.pure ?_)
   simp only [List.set_set]
   exact key _ (by rw [if_pos c2])
  refine Ev.neg (Ev.eq Ev.pure ?_)
  exact key _ (by rw [if_neg c2])
 | d+1,p,hp=>by
  refine Ev.succ ?_
  have hl:(cutC s p x).length=12:=mk12_len _
  have aa:p < 12:=by omega
  have hc:ca (cutC s p x) p=ca x p:=by
   unfold cutC
   rw [ca_mk _ aa,if_neg (by omega)]
  simp only [Sb8.l0,hl,rd_ca,hc,Int.toNat_natCast,wrap_up (show p < 9223372036854775807 by omega)]
  refine Ev.pos (Ev.pos (Ev.pos ?_))
  by_cases g:ca x p=s
  ·refine Ev.pos ?_
   have e:(cutC s p x).set p (p:Int)=cutC s (p+1) x:=by
    refine ca_ext (by rw [List.length_set];exact hl) (mk12_len _) fun r hr=>?_
    rw [ca_set hl aa]
    unfold cutC
    rw [ca_mk _ hr,ca_mk _ hr]
    by_cases er:r=p
    ·rw [if_pos er,if_pos ⟨by omega,by rw [er];exact g⟩,er]
    rw [if_neg er]
    by_cases l:r < p/\ca x r=s
    ·rw [if_pos l,if_pos ⟨by omega,l.2⟩]
    rw [if_neg l,if_neg (fun y=>l ⟨by omega,y.2⟩)]
   rw [e]
   exact Sb8.out hs hx hq d (p+1) (by omega)
  refine Ev.neg ?_
  have e:cutC s p x=cutC s (p+1) x:=by
   refine ca_ext hl (mk12_len _) fun r hr=>?_
   unfold cutC
   rw [ca_mk _ hr,ca_mk _ hr]
   by_cases l:r < p/\ca x r=s
   ·rw [if_pos l,if_pos ⟨by omega,l.2⟩]
   rw [if_neg l,if_neg (fun y=>l ⟨by
    have:r≠p:=fun e=>g (by rw [<- e];exact y.2)
    omega,y.2⟩)]
  rw [e]
  exact Sb8.out hs hx hq d (p+1) (by omega)
theorem Sb8.ev {q:Q} (h:QV q 600) {x:List Int} (hx:okC x) (g:x≠[]):Ev (fun k=>Sb8.f k q.op q.dst q.a q.b q.n x) (aftC q x):=by
 have hl:=(okC_len hx g).1
 have hs:=setsR h
 simp only [Sb8.f,Sas.e h,List.nil_append]
 refine Ev.some (Ev.pos (Ev.some (Ev.some ?_)) (by simp [hl]))
 simp only [List.nil_append]
 by_cases c:sets q < 0
 ·refine Ev.pos (Ev.eq Ev.pure ?_)
  unfold aftC
  rw [if_pos c]
 refine Ev.neg ?_
 have e:sets q=((sets q).toNat:Int):=by omega
 have o:=Sb8.out hs hl e 12 0 rfl
 have e0:cutC ((sets q).toNat:Int) 0 x=x:=ca_ext (mk12_len _) hl fun r hr=>by
  unfold cutC
  rw [ca_mk _ hr,if_neg (by omega)]
 rw [e0,<- e] at o
 exact o
def mP (p:Nat) (a v:List Int):List Int:=mk12 fun r=>if r < p then (if ca a r=ca v r then ca a r else (r:Int)) else ca a r
theorem ca_mP (p:Nat) (a v:List Int) {r:Nat} (h:r < 12):ca (mP p a v) r=if r < p then (if ca a r=ca v r then ca a r else (r:Int)) else ca a r:=mk12_get _ _ h
theorem mP_step (p:Nat) (hp:p < 12) (a v:List Int) (z:Int) (hz:z=if ca a p=ca v p then ca a p else (p:Int)):(mP p a v).set p z=mP (p+1) a v:=by
 refine ca_ext (by rw [List.length_set];exact mk12_len _) (mk12_len _) fun r hr=>?_
 rw [ca_set (l:=mP p a v) (mk12_len _) hp,ca_mP _ _ _ hr,ca_mP _ _ _ hr]
 by_cases e:r=p
 ·rw [if_pos e,if_pos (by omega),e,hz]
 rw [if_neg e]
 by_cases l:r < p
 ·rw [if_pos l,if_pos (show r < p+1 by omega)]
 rw [if_neg l,if_neg (show ¬ r < p+1 by omega)]
theorem mP_same (p:Nat) (hp:p < 12) {a v:List Int} (h:ca a p=p\/ca a p=ca v p):mP p a v=mP (p+1) a v:=by
 refine ca_ext (mk12_len _) (mk12_len _) fun r hr=>?_
 rw [ca_mP _ _ _ hr,ca_mP _ _ _ hr]
 by_cases e:r=p
 ·subst e
  rw [if_neg (by omega),if_pos (by omega)]
  split <;> omega
 by_cases l:r < p
 ·rw [if_pos l,if_pos (show r < p+1 by omega)]
 rw [if_neg l,if_neg (show ¬ r < p+1 by omega)]
theorem Sb9.out {T:List (List Int)} {e:Nat} (he:e < T.length) (h9:T.length < 9223372036854775807) {a v:List Int} (hv:v.length=12):∀ (d p:Nat) (b:Bool),p+d=12->Ev (fun k=>Sb9.l0 k (T.set e (mP p a v)) (e:Int) v b (p:Int)) (b || !decide (mP 12 a v=mP p a v),T.set e (mP 12 a v))
 | 0,p,b,hp=>by
  refine Ev.succ ?_
  simp only [Sb9.l0]
  refine Ev.neg (Ev.eq Ev.pure ?_)
  rw [show p=12 from by omega]
  simp
 | d+1,p,b,hp=>by
  refine Ev.succ ?_
  have aa:p < 12:=by omega
  have hr:rd_L9 (T.set e (mP p a v)) (e:Int)=mP p a v:=by
   unfold rd_L9
   rw [Int.toNat_natCast]
   exact rd_set he _
  have hL:(mP p a v).length=12:=mk12_len _
  simp only [Sb9.l0,hr,rd_ca,List.length_set,hL,hv,ca_mP p a v aa,if_neg (Nat.lt_irrefl p),wrap_up (show p < 9223372036854775807 by omega),Int.toNat_natCast,List.set_set]
  refine Ev.pos (Ev.pos (Ev.pos (Ev.pos (Ev.pos ?_))))
  by_cases g:ca a p=p
  ·refine Ev.pos ?_
   rw [mP_same p aa (.inl g)]
   exact Sb9.out he h9 hv d (p+1) b (by omega)
  refine Ev.neg (Ev.pos ?_)
  by_cases g2:ca a p=ca v p
  ·refine Ev.pos ?_
   rw [mP_same p aa (.inr g2)]
   exact Sb9.out he h9 hv d (p+1) b (by omega)
  refine Ev.neg ?_
  have:=Sb9.out he h9 (a:=a) hv d (p+1) true (by omega)
  rw [<- mP_step p aa a v (p:Int) (by rw [if_neg g2])] at this
  refine Ev.eq this ?_
  have ne:¬ mP 12 a v=mP p a v:=by
   intro x
   have y:ca (mP 12 a v) p=ca (mP p a v) p:=by rw [x]
   rw [ca_mP _ _ _ aa,ca_mP _ _ _ aa,if_neg (Nat.lt_irrefl p),if_pos aa,if_neg g2] at y
   exact g y.symm
  rw [decide_eq_false ne]
  simp
theorem Sb9.ev {T:List (List Int)} {e:Nat} (he:e < T.length) (h9:T.length < 9223372036854775807) {a v:List Int} (ha:okC a) (hv:okC v) (gv:v≠[]) (hT:T.getD e []=a):Ev (fun k=>Sb9.f k T (e:Int) v) (!decide (jC a v=a),T.set e (jC a v)):=by
 have hr:rd_L9 T (e:Int)=a:=by
  unfold rd_L9
  rw [Int.toNat_natCast]
  exact hT
 have lv:=(okC_len hv gv).1
 simp only [Sb9.f,hr,Int.toNat_natCast]
 refine Ev.pos (Ev.pos ?_)
 by_cases ea:a=[]
 ·subst ea
  refine Ev.pos (Ev.some (Ev.pos (Ev.eq Ev.pure ?_) (by simp [lv]))) (by simp)
  have ej:jC [] v=v:=if_pos rfl
  rw [ej,decide_eq_false gv]
  simp
 have la:=(okC_len ha ea).1
 refine Ev.neg ?_ (by rw [la];decide)
 have o:=Sb9.out he h9 (a:=a) lv 12 0 false rfl
 have e0:mP 0 a v=a:=ca_ext (mk12_len _) la fun r hr=>by rw [ca_mP _ _ _ hr,if_neg (by omega)]
 have e1:mP 12 a v=jC a v:=by
  unfold jC
  rw [if_neg ea,if_neg gv]
  refine ca_ext (mk12_len _) (mk12_len _) fun r hr=>?_
  rw [ca_mP _ _ _ hr,if_pos hr,ca_mk _ hr]
 rw [e0,e1] at o
 have hs:T.set e a=T:=by
  rw [<- hT]
  apply List.ext_getElem (by simp)
  intro i h1 h2
  rw [List.getElem_set]
  split
  ·rename_i x
   subst x
   rw [List.getD_eq_getElem?_getD,List.getElem?_eq_getElem he]
   rfl
  rfl
 rw [hs] at o
 refine Ev.eq o ?_
 rw [Bool.false_or]
theorem Sbb.in {c:List SQ} (h:CV (qs c)) {i:Nat} (hi:i < c.length) {v:List Int} (hv:okC v) (gv:v≠[]) {es:List Nat} (hl:es.length < 1000) (he:∀ e∈es,e < c.length) {R:Bool × List (List Int)}:∀ (d p:Nat) (T:List (List Int)) (b:Bool),p+d=es.length->(CS c).St T->Ev (fun k=>Sbb.l0 k c (Sys.pass (CS c) ((es.drop p).map fun e=>(e,v)) T b).1 (Sys.pass (CS c) ((es.drop p).map fun e=>(e,v)) T b).2 ((i+1:Nat):Int)) R->Ev (fun k=>Sbb.l1 k c T b (i:Int) (ints es) v (p:Int)) R
 | 0,p,T,b,hp,hT,g=>by
  refine Ev.succ ?_
  have h6:=cv600 h
  rw [List.drop_eq_nil_of_le (by omega)] at g
  simp only [Sbb.l1,ints_len,wrap_up (show i < 9223372036854775807 by omega)]
  exact Ev.neg g
 | d+1,p,T,b,hp,hT,g=>by
  refine Ev.succ ?_
  have h6:=cv600 h
  have hm:es.getD p 0 < c.length:=he _ (getD_mem (by omega))
  have hn:T.length=c.length:=hT.1
  have hc:=Sb9.ev (T:=T) (e:=es.getD p 0) (by omega) (by omega) (a:=(CS c).at' T (es.getD p 0)) (hT.2 _ hm) hv gv rfl
  rw [drop_cons 0 (show p < es.length by omega)] at g
  have hT':=Sys.put_st (CS_laws h) hT (p:=(es.getD p 0,v)) hm hv
  simp only [Sbb.l1,ints_len,rd_ints,wrap_up (show p < 9223372036854775807 by omega)]
  refine Ev.pos (Ev.pos (Ev.bind hc ?_))
  have go:=fun b'=>Sbb.in h hi hv gv hl he (R:=R) d (p+1) (Sys.put (CS c) T (es.getD p 0,v)) b' (by omega) hT'
  by_cases e:jC ((CS c).at' T (es.getD p 0)) v=(CS c).at' T (es.getD p 0)
  ·rw [decide_eq_true e]
   refine Ev.neg (go b ?_)
   have:=g
   simp only [List.map_cons,Sys.pass] at this
   rwa [show decide ((CS c).jn ((CS c).at' T (es.getD p 0)) v=(CS c).at' T (es.getD p 0))=true from decide_eq_true e,Bool.not_true,Bool.or_false] at this
  rw [decide_eq_false e]
  refine Ev.pos (go true ?_)
  have:=g
  simp only [List.map_cons,Sys.pass] at this
  rwa [show decide ((CS c).jn ((CS c).at' T (es.getD p 0)) v=(CS c).at' T (es.getD p 0))=false from decide_eq_false e,Bool.not_false,Bool.or_true] at this
theorem Sbb.out {c:List SQ} (h:CV (qs c)):∀ (d:Nat),d<=c.length->∀ (T:List (List Int)) (b:Bool),(CS c).St T->Ev (fun k=>Sbb.l0 k c T b ((c.length - d:Nat):Int)) ((Sys.rnds (CS c) d T b).2,(Sys.rnds (CS c) d T b).1)
 | 0,hd,T,b,hT=>by
  refine Ev.succ ?_
  simp only [Sbb.l0,Nat.sub_zero]
  exact Ev.neg Ev.pure
 | d+1,hd,T,b,hT=>by
  refine Ev.succ ?_
  have h6:=cv600 h
  have hi:c.length - (d+1) < c.length:=by omega
  have hn:T.length=c.length:=hT.1
  have hr:rd_L9 T ((c.length - (d+1):Nat):Int)=(CS c).at' T (c.length - (d+1)):=by
   unfold rd_L9
   rw [Int.toNat_natCast]
   rfl
  have ok:=hT.2 _ hi
  have hw:=wrap_up (show c.length - (d+1) < 9223372036854775807 by omega)
  have hs:((c.length - (d+1)+1:Nat):Int)=((c.length - d:Nat):Int):=by congr 1;omega
  obtain⟨b1,_⟩:=Sys.pass_all (CS_laws h) ((CS c).out (c.length - (d+1)) ((CS c).at' T (c.length - (d+1)))) T b hT ((CS_laws h).oko _ _ hi ok)
  have ih:=Sbb.out h d (by omega) _ (Sys.pass (CS c) ((CS c).out (c.length - (d+1)) ((CS c).at' T (c.length - (d+1)))) T b).2 b1
  simp only [Sbb.l0,hr,hw,rd_qa]
  refine Ev.pos (Ev.pos (Ev.pos ?_))
  show Ev _ ((Sys.rnds (CS c) d (Sys.pass (CS c) ((CS c).out (c.length - (d+1)) ((CS c).at' T (c.length - (d+1)))) T b).1 (Sys.pass (CS c) ((CS c).out (c.length - (d+1)) ((CS c).at' T (c.length - (d+1)))) T b).2).2,(Sys.rnds (CS c) d (Sys.pass (CS c) ((CS c).out (c.length - (d+1)) ((CS c).at' T (c.length - (d+1)))) T b).1 (Sys.pass (CS c) ((CS c).out (c.length - (d+1)) ((CS c).at' T (c.length - (d+1)))) T b).2).1)
  by_cases g:(CS c).at' T (c.length - (d+1))=[]
  ·refine Ev.pos ?_ (by rw [g];rfl)
   rw [hs]
   have e:(CS c).out (c.length - (d+1)) ((CS c).at' T (c.length - (d+1)))=[]:=if_pos g
   rw [e] at ih ⊢
   exact ih
  have hL:=(okC_len ok g).1
  refine Ev.neg (Ev.bind (SaS.ev h hi) (Ev.bind (Sb8.ev (qa600 h hi) ok g) ?_)) (by rw [hL];decide)
  have e:(CS c).out (c.length - (d+1)) ((CS c).at' T (c.length - (d+1)))=(nx (q_ (qa c (c.length - (d+1)))) (c.length - (d+1))).map fun e=>(e,aftC (q_ (qa c (c.length - (d+1)))) ((CS c).at' T (c.length - (d+1)))):=if_neg g
  refine Sbb.in h hi (aftC_ok (cv_at h hi) ok g).1 (aftC_ok (cv_at h hi) ok g).2 (by have:=nx_len (q_ (qa c (c.length - (d+1)))) (c.length - (d+1));omega) (fun e he=>?_) _ 0 T b (Nat.zero_add _) hT ?_
  ·have n:=nx_lt h (i:=c.length - (d+1)) (j:=e) (by rw [qs_len];exact hi) (by rw [at_qs];exact he)
   rwa [qs_len] at n
  rw [List.drop_zero,<- e,hs]
  exact ih
def fin1 (x:List Int):List Int:=if x=[] then selfC else x
def finC (U:List (List Int)):List (List Int):=U.map fin1
theorem finC_len (U:List (List Int)):(finC U).length=U.length:=by simp [finC]
theorem finC_get {U:List (List Int)} {i:Nat} (h:i < U.length):(finC U).getD i []=fin1 (U.getD i []):=by simp [finC,List.getD_eq_getElem?_getD,List.getElem?_eq_getElem h]
theorem Sah.last {c:List SQ} (h:CV (qs c)) {U:List (List Int)} (hU:U.length=c.length):∀ (d p:Nat),p+d=c.length->Ev (fun k=>Sah.l2 k c ((finC U).take p ++ U.drop p) (p:Int)) (finC U)
 | 0,p,hp=>by
  refine Ev.succ ?_
  simp only [Sah.l2]
  refine Ev.neg (Ev.eq Ev.pure ?_)
  rw [List.take_of_length_le (by rw [finC_len];omega),List.drop_eq_nil_of_le (by omega),List.append_nil]
 | d+1,p,hp=>by
  refine Ev.succ ?_
  have h6:=cv600 h
  have hl:((finC U).take p ++ U.drop p).length=c.length:=by rw [List.length_append,List.length_take,List.length_drop,finC_len];omega
  have hr:rd_L9 ((finC U).take p ++ U.drop p) (p:Int)=U.getD p []:=by
   unfold rd_L9
   rw [Int.toNat_natCast,List.getD_eq_getElem?_getD,List.getElem?_append_right (by rw [List.length_take,finC_len];omega),List.length_take,finC_len,show p - min p U.length=0 from by omega,List.getElem?_drop,List.getD_eq_getElem?_getD]
   rfl
  have e:(finC U).take (p+1) ++ U.drop (p+1)=(finC U).take p ++ (fin1 (U.getD p []) :: U.drop (p+1)):=by
   rw [<- take_next [] (show p < (finC U).length by rw [finC_len];omega),finC_get (by omega),List.append_assoc]
   rfl
  simp only [Sah.l2,hr,hl,Int.toNat_natCast,wrap_up (show p < 9223372036854775807 by omega)]
  refine Ev.pos (Ev.pos (Ev.pos ?_))
  have ih:=Sah.last h hU d (p+1) (by omega)
  rw [e] at ih
  rw [drop_cons [] (show p < U.length by omega)]
  by_cases g:U.getD p []=[]
  ·refine Ev.pos (Ev.bind Sbc.ev ?_) (by rw [g];rfl)
   rw [List.set_append_right _ _ (by rw [List.length_take,finC_len];omega),List.length_take,finC_len,show p - min p U.length=0 from by omega,List.set_cons_zero]
   rw [fin1,if_pos g] at ih
   exact ih
  refine Ev.neg ?_ (by intro x;exact g (List.eq_nil_of_length_eq_zero (by omega)))
  rw [fin1,if_neg g] at ih
  exact ih
theorem Sah.rounds {c:List SQ} (h:CV (qs c)):∀ (m:Nat) (T:List (List Int)),(CS c).Rd T->(CS c).cap T<=m->∃ U,(CS c).Lfp U/\Ev (fun k=>Sah.l1 k c T) (finC U)
 | m,T,hT,hm=>by
  obtain⟨a,b,e⟩:=Sys.rd_step (CS_laws h) hT
  have o:=Sbb.out h c.length (Nat.le_refl _) T false hT.1
  rw [Nat.sub_self] at o
  have o':Ev (fun k=>Sbb.f k c T) ((Sys.rnds (CS c) c.length T false).2,(Sys.rnds (CS c) c.length T false).1):=o
  cases g:(Sys.rnds (CS c) c.length T false).2 with
  | false =>
   have l:=e g
   refine⟨_,l,Ev.succ ?_⟩
   simp only [Sah.l1]
   exact Ev.bind o' (Ev.neg (Sah.last h l.1.1.1 c.length 0 (Nat.zero_add _)) (by simp [g]))
  | true =>
   have lt:=b g
   match m,hm with
   | 0,hm=>omega
   | m+1,hm =>
    obtain⟨U,hU,hE⟩:=Sah.rounds h m _ a (by have:(CS c).cap (Sys.rnds (CS c) c.length T false).1 < (CS c).cap T:=lt;show (CS c).cap (Sys.rnds (CS c) c.length T false).1<=m;omega)
    refine⟨U,hU,Ev.succ ?_⟩
    simp only [Sah.l1]
    exact Ev.bind o' (Ev.pos hE (by simp [g]))
theorem Sah.fill {c:List SQ} (h:CV (qs c)) {U:List (List Int)} (g:Ev (fun k=>Sah.l1 k c (Sys.T0 (CS c))) U):∀ (d p:Nat),p+d=c.length->Ev (fun k=>Sah.l0 k c (List.replicate p []) (p:Int)) U
 | 0,p,hp=>by
  refine Ev.succ ?_
  have h6:=cv600 h
  simp only [Sah.l0,List.length_replicate]
  refine Ev.neg (Ev.bind Sbc.ev (Ev.pos ?_))
  have e:(List.replicate p ([]:List Int)).set (0:Int).toNat selfC=Sys.T0 (CS c):=by
   rw [show p=c.length from by omega]
   rfl
  rw [e]
  exact g
 | d+1,p,hp=>by
  have h6:=cv600 h
  refine Ev.succ ?_
  have e:List.replicate p ([]:List Int) ++ [[]]=List.replicate (p+1) []:=(List.replicate_succ' ..).symm
  simp only [Sah.l0,List.length_replicate,e,wrap_up (show p < 9223372036854775807 by omega)]
  exact Ev.pos (Ev.pos (Sah.fill h g d (p+1) (by omega)))
theorem Sah.ev {c:List SQ} (h:CV (qs c)):∃ U,(CS c).Lfp U/\Ev (fun k=>Sah.f k c) (finC U):=by
 obtain⟨U,hU,hE⟩:=Sah.rounds h _ _ (Sys.rd0 (CS_laws h)) (Nat.le_refl _)
 refine⟨U,hU,?_⟩
 simp only [Sah.f]
 refine Ev.some (Ev.bind (Saf.ev c) (Ev.pos ?_ (decide_eq_true h)))
 exact Sah.fill h hE c.length 0 (Nat.zero_add _)
def readQ (q:SQ) (x:List Int):SQ:=if q.f0=2\/q.f0=5\/q.f0=6\/q.f0=9 then ⟨q.f0,q.f1,ca x q.f2.toNat,q.f3,q.f4⟩ else if q.f0=3 then ⟨q.f0,q.f1,ca x q.f2.toNat,ca x q.f3.toNat,q.f4⟩ else q
theorem Sba.ev {q:SQ} {m:Int} (h:QV (q_ q) m) {x:List Int} (hl:x.length=12):Ev (fun k=>Sba.f k q.f0 q.f1 q.f2 q.f3 q.f4 x) (tQ (readQ q x)):=by
 obtain⟨_,⟨a0,a1⟩,b0,b1⟩:=regs_of h
 simp only [q_] at a0 a1 b0 b1
 have j:∀ b:Bool,b=true->(q.f0=2\/q.f0=5\/q.f0=6\/q.f0=9)->Ev (fun k=>Sba.j0 k x q.f0 b q.f0 q.f1 q.f2 q.f3 q.f4) (tQ (readQ q x)):=by
  intro b hb hq
  refine Ev.succ ?_
  simp only [Sba.j0,hl,rd_ca' x a0,rd_ca' x b0]
  refine Ev.pos (Ev.pos (Ev.pos (Ev.eq Ev.pure ?_)))
  rw [readQ,if_pos hq]
 simp only [Sba.f]
 by_cases c2:q.f0=2
 ·exact Ev.pos (j _ (by simp [c2]) (.inl c2))
 refine Ev.neg ?_
 by_cases c5:q.f0=5
 ·exact Ev.pos (j _ (by simp [c5]) (.inr (.inl c5)))
 refine Ev.neg ?_
 by_cases c6:q.f0=6
 ·exact Ev.pos (j _ (by simp [c6]) (.inr (.inr (.inl c6))))
 refine Ev.neg ?_
 by_cases c9:q.f0=9
 ·exact j _ (by simp [c9]) (.inr (.inr (.inr c9)))
 refine Ev.succ ?_
 simp only [Sba.j0,hl,rd_ca' x a0,rd_ca' x b0]
 refine Ev.neg ?_ (by simp [c9])
 have no:¬ (q.f0=2\/q.f0=5\/q.f0=6\/q.f0=9):=by omega
 by_cases c3:q.f0=3
 ·refine Ev.pos (Ev.pos (Ev.pos (Ev.pos (Ev.pos (Ev.eq Ev.pure ?_)))))
  rw [readQ,if_neg no,if_pos c3]
 refine Ev.neg (Ev.eq Ev.pure ?_)
 rw [readQ,if_neg no,if_neg c3]
def copyC (U:List (List Int)) (c:List SQ):List SQ:=(List.range c.length).map fun i=>readQ (qa c i) (fin1 ((CS c).at' U i))
theorem copyC_len (U:List (List Int)) (c:List SQ):(copyC U c).length=c.length:=by simp [copyC]
theorem copyC_get (U:List (List Int)) {c:List SQ} {i:Nat} (h:i < c.length):qa (copyC U c) i=readQ (qa c i) (fin1 ((CS c).at' U i)):=by simp [copyC,qa,List.getD_eq_getElem?_getD,h]
theorem fin1_ok {x:List Int} (h:okC x):(fin1 x).length=12/\∀ r,r < 12->0<=ca (fin1 x) r/\ca (fin1 x) r < 12:=by
 unfold fin1
 split
 ·refine⟨mk12_len _,fun r hr=>?_⟩
  unfold selfC
  rw [ca_mk _ hr]
  omega
 rename_i g
 exact okC_len h g
theorem Sai.out {c:List SQ} (h:CV (qs c)) {U:List (List Int)} (hU:(CS c).St U):∀ (d p:Nat),p+d=c.length->Ev (fun k=>Sai.l0 k c ((copyC U c).take p) (finC U) (p:Int)) (copyC U c,true)
 | 0,p,hp=>by
  refine Ev.succ ?_
  simp only [Sai.l0]
  refine Ev.neg (Ev.eq Ev.pure ?_)
  rw [List.take_of_length_le (by rw [copyC_len];omega)]
 | d+1,p,hp=>by
  have h6:=cv600 h
  have hi:p < c.length:=by omega
  have hn:U.length=c.length:=hU.1
  have hr:rd_L9 (finC U) (p:Int)=fin1 ((CS c).at' U p):=by
   unfold rd_L9
   rw [Int.toNat_natCast,finC_get (by omega)]
   rfl
  refine Ev.succ ?_
  simp only [Sai.l0,hr,rd_qa,finC_len,wrap_up (show p < 9223372036854775807 by omega)]
  refine Ev.pos (Ev.pos (Ev.pos (Ev.bind (Sba.ev (cv_at h hi) (fin1_ok (hU.2 p hi)).1) (Ev.pos ?_ (by rw [List.length_take,copyC_len];omega)))))
  have e:(copyC U c).take p ++ [readQ (qa c p) (fin1 ((CS c).at' U p))]=(copyC U c).take (p+1):=by
   rw [<- copyC_get U hi]
   exact take_next _ (by rw [copyC_len];exact hi)
  have:=Sai.out h hU d (p+1) (by omega)
  rw [<- e] at this
  exact this
theorem Sai.ev {c:List SQ} (h:CV (qs c)):∃ U,(CS c).Lfp U/\Ev (fun k=>Sai.f k c) (copyC U c,true):=by
 obtain⟨U,hU,hE⟩:=Sah.ev h
 refine⟨U,hU,?_⟩
 simp only [Sai.f]
 refine Ev.some (Ev.bind (Saf.ev c) (Ev.pos (Ev.bind hE ?_) (decide_eq_true h)))
 exact Sai.out h hU.1.1 c.length 0 (Nat.zero_add _)
theorem readQ_valid {q:SQ} {m:Int} (h:QV (q_ q) m) {x:List Int} (hx:∀ r,r < 12->0<=ca x r/\ca x r < 12):QV (q_ (readQ q x)) m:=by
 have ⟨ra,rb⟩:=regA h
 simp only [q_] at ra rb
 have ha:=hx _ ra
 have hb:=hx _ rb
 have ga:rg (ca x q.f2.toNat):=⟨ha.1,by omega⟩
 have gb:rg (ca x q.f3.toNat):=⟨hb.1,by omega⟩
 have keep:¬ (q.f0=2\/q.f0=5\/q.f0=6\/q.f0=9)->q.f0≠3->QV (q_ (readQ q x)) m:=by
  intro h1 h2
  rw [readQ,if_neg h1,if_neg h2]
  exact h
 have one:(q.f0=2\/q.f0=5\/q.f0=6\/q.f0=9)->readQ q x=⟨q.f0,q.f1,ca x q.f2.toNat,q.f3,q.f4⟩:=fun k=>by rw [readQ,if_pos k]
 rcases h with h1 | ⟨o,p1,_,p3⟩ | ⟨o,p1,_,_,p3⟩|h1 | ⟨o,p1,_,p3⟩ | ⟨o,p1,_,p3⟩|h1 | ⟨o,p1,_,p3⟩|h1
 ·have o:q.f0=1:=h1.1
  exact keep (by omega) (by omega)
 ·have o':q.f0=2:=o
  rw [one (.inl o')]
  exact .inr (.inl ⟨o,p1,ga,p3⟩)
 ·have o':q.f0=3:=o
  rw [readQ,if_neg (by omega),if_pos o']
  exact .inr (.inr (.inl ⟨o,p1,ga,gb,p3⟩))
 ·have o:q.f0=4:=h1.1
  exact keep (by omega) (by omega)
 ·have o':q.f0=5:=o
  rw [one (.inr (.inl o'))]
  exact .inr (.inr (.inr (.inr (.inl ⟨o,p1,ga,p3⟩))))
 ·have o':q.f0=6:=o
  rw [one (.inr (.inr (.inl o')))]
  exact .inr (.inr (.inr (.inr (.inr (.inl ⟨o,p1,ga,p3⟩)))))
 ·have o:q.f0=7:=h1.1
  exact keep (by omega) (by omega)
 ·have o':q.f0=9:=o
  rw [one (.inr (.inr (.inr o')))]
  exact .inr (.inr (.inr (.inr (.inr (.inr (.inr (.inl ⟨o,p1,ga,p3⟩)))))))
 have o:q.f0=8\/q.f0=10:=h1.1
 exact keep (by omega) (by omega)
theorem readQ_op (q:SQ) (x:List Int):(readQ q x).f0=q.f0:=by
 unfold readQ
 (repeat' split) <;> rfl
theorem copyC_valid {c:List SQ} (h:CV (qs c)) {U:List (List Int)} (hU:(CS c).St U):CV (qs (copyC U c)):=by
 have h6:=cv600 h
 refine cv_of (by rw [copyC_len];exact h6.1) (by rw [copyC_len];exact h6.2) (fun i hi=>?_) ?_
 ·rw [copyC_len] at hi ⊢
  rw [copyC_get U hi]
  exact readQ_valid (cv_at h hi) (fin1_ok (hU.2 i hi)).2
 rw [copyC_len,copyC_get U (by omega),readQ_op]
 exact cv_last h
abbrev ics (m:List Int):Array Value:=(encs (Value.int .i64) m).toArray
theorem ics_size (m:List Int):(ics m).size=m.length:=by simp [encs]
theorem ics_get {m:List Int} {i:Nat} (h:i < m.length):(ics m)[i]?=some (iV (m.getD i 0)):=by simp [encs,List.getD_eq_getElem?_getD,List.getElem?_eq_getElem h]
theorem ics_one (m:List Int):(ics m).all (·.oneCell')=true:=all_oneCell_toArray fun v hv=>by
 simp only [encs,List.mem_map] at hv
 obtain⟨n,_,rfl⟩:=hv
 rfl
theorem blk_ints {w:World} {g t:Nat} {m:List Int} (h:w.heap[g]?=some (.cells (ics m) t (0,0))) {i:Nat} (hi:i < m.length):w.cell? ⟨g,i,none⟩=some (iV (m.getD i 0)):=(blk_cell h i).trans (ics_get hi)
theorem there_ints {w:World} {g t:Nat} {m:List Int} (h:w.heap[g]?=some (.cells (ics m) t (0,0))) {o n:Nat} (hn:o+n<=m.length):w.there g o n:=fun j hj=>by
 refine⟨by rw [blk_ints h (by omega)];rfl,blk_frozen h _⟩
def over (m:List Int) (o:Nat) (r:List Int):List Int:=m.take o ++ r ++ m.drop (o+r.length)
theorem setCells_ints {t g:Nat}:∀ (r:List Int) (o:Nat) (m:List Int) (w:World),w.heap[g]?=some (.cells (ics m) t (0,0))->o+r.length<=m.length->(w.setCells g o (encs (Value.int .i64) r)).heap[g]?=some (.cells (ics (over m o r)) t (0,0))
 | [],o,m,w,h,hn=>by
  have:over m o []=m:=by simp [over]
  rw [this]
  exact h
 | a :: r,o,m,w,h,hn=>by
  rw [List.length_cons] at hn
  have h1:(w.setCell ⟨g,o,none⟩ (iV a)).heap[g]?=some (.cells (ics (m.set o a)) t (0,0)):=by
   rw [blk_set h]
   congr 1
   simp [encs,List.map_set]
  have:=setCells_ints r (o+1) (m.set o a) _ h1 (by rw [List.length_set];omega)
  have e:over (m.set o a) (o+1) r=over m o (a :: r):=by
   unfold over
   rw [List.length_cons,show o+(r.length+1)=o+1+r.length from by omega,List.drop_set_of_lt (by omega)]
   congr 1
   rw [List.take_set,List.take_add_one,List.getElem?_eq_getElem (by omega)]
   rw [List.set_append_right _ _ (by rw [List.length_take];omega),List.length_take,show o - min o m.length=0 from by omega]
   simp
  rw [e] at this
  exact this
theorem setCells_below {g:Nat} {w0:World} (hg:w0.heap.size<=g):∀ (r:List Value) (o:Nat) (w:World),Below w0.heap.size w0 w->Below w0.heap.size w0 (w.setCells g o r)
 | [],o,w,h=>h
 | a :: r,o,w,h=>setCells_below hg r (o+1) _ (below_set h hg)
theorem below_ {g:Nat} {w0 w w':World} {o:Nat} {r:List Value} (hw:w'=w.setCells g o r) (hg:w0.heap.size<=g) (h:Below w0.heap.size w0 w):Below w0.heap.size w0 w':=by
 rw [hw]
 exact setCells_below hg r o w h
theorem cells5' {w:World} {g t:Nat} {a0 a1 a2 a3 a4:Value} (h:w.heap[g]?=some (.cells #[a0,a1,a2,a3,a4] t (0,0))):w.cell? ⟨g,0,none⟩=some a0/\w.cell? ⟨g,1,none⟩=some a1/\w.cell? ⟨g,2,none⟩=some a2/\w.cell? ⟨g,3,none⟩=some a3/\w.cell? ⟨g,4,none⟩=some a4:=⟨(blk_cell h 0).trans rfl,(blk_cell h 1).trans rfl,(blk_cell h 2).trans rfl,(blk_cell h 3).trans rfl,(blk_cell h 4).trans rfl⟩
theorem R_setCells {α:Type} {d:Kd α} {e base g:Nat} {ok:Nat->Prop} {v:Value} {xs:List α} (hg:∀ k,ok k->k≠g):∀ (r:List Value) (o:Nat) {w:World},d.R e w base ok v xs->d.R e (w.setCells g o r) base ok v xs
 | [],o,w,h=>h
 | a :: r,o,w,h=>R_setCells hg r (o+1) (Kd.R_far (p:=⟨g,o,none⟩) h hg a)
theorem R_set_ {α:Type} {d:Kd α} {e base g o:Nat} {ok:Nat->Prop} {v:Value} {xs:List α} {r:List Value} {w w':World} (hw:w'=w.setCells g o r) (hg:∀ k,ok k->k≠g) (h:d.R e w base ok v xs):d.R e w' base ok v xs:=by
 rw [hw]
 exact R_setCells hg r o h
abbrev TQ:TypeId:=27
theorem sizeQ {l:List Int} (h:l.length=5):(prog.info? TQ).map (·.size)=some (ics l).size:=by
 rw [ics_size,h]
 kernel_rfl
section
variable {ops:Array Oper} {rest:List Oper} {op:Oper} {a:Act} {Q:Exit->Act->World->Prop}
theorem storeQ {w:World} {p v:Tmp} (ho:op.op = .store TQ (.tmp p) (.tmp v)) (hgd:op.guard=none) {g:Nat} (hx:a.eval (.tmp p) = .pointer (some ⟨g,0,none⟩)) {v0 v1 v2 v3 v4:Int} (hy:a.eval (.tmp v) = .agg #[iV v0,iV v1,iV v2,iV v3,iV v4]) (hb:w.heap[g]?=some (.cells (ics [0,0,0,0,0]) TQ (0,0)))
  (h:∀ w',w'=w.setCells g 0 (encs (Value.int .i64) [v0,v1,v2,v3,v4])->w'.heap[g]?=some (.cells (ics [v0,v1,v2,v3,v4]) TQ (0,0))->wpList prog ops Q rest (a.put op.dst undef) w'):wpList prog ops Q (op :: rest) a w:=by
 refine wpList_store_mid hgd TQ (.tmp p) (.tmp v) ho g 0 (ics [v0,v1,v2,v3,v4]) hx hy ?_ (sizeQ rfl) (ics_one _) ?_
 ·rw [ics_size]
  exact there_ints hb (by simp)
 exact h _ rfl (setCells_ints [v0,v1,v2,v3,v4] 0 [0,0,0,0,0] w hb (by simp))
end
theorem ev_val {α:Type} {F:Nat->Option α} {v r:α} (hm:∀ k,LeO (F k) (F (k+1))) (h:Ev F v) {k:Nat} (hk:F k=some r):r=v:=by
 obtain⟨K,hK⟩:=h
 have up:∀ d,F (k+d)=some r:=by
  intro d
  induction d with
  | zero=>exact hk
  | succ d ih=>exact hm _ _ ih
 have:=up K
 rw [hK (k+K) (by omega)] at this
 exact (Option.some.inj this).symm
section
variable {ops:Array Oper} {rest:List Oper} {op:Oper} {a:Act} {Q:Exit->Act->World->Prop}
theorem store1 {w:World} {p:Tmp} {v:Operand} (ho:op.op = .store 3 (.tmp p) v) (hgd:op.guard=none) (hN:op.dst=none) {g o t:Nat} (hx:a.eval (.tmp p) = .pointer (some ⟨g,o,none⟩)) {y:Int} {m:List Int} (hy:a.eval v = iV y) (hb:w.heap[g]?=some (.cells (ics m) t (0,0))) (hm:o < m.length)
  (h:∀ w',w'=w.setCell ⟨g,o,none⟩ (iV y)->w'.heap[g]?=some (.cells (ics (m.set o y)) t (0,0))->wpList prog ops Q rest (a.put op.dst undef) w'):wpList prog ops Q (op :: rest) a w:=by
 have hc:=blk_ints hb hm
 have hf:=blk_frozen hb o
 refine store_event (P:=prog) hgd ho hN (w1:=w.setCell ⟨g,o,none⟩ (iV y)) ?_ (fun w' hw=>?_)
 ·unfold execOp
  simp only [ho,hx,hy]
  first|(go_simp;done)|(go_simp;rfl)
 have e:w'.heap[g]?=some (.cells (ics (m.set o y)) t (0,0)):=by
  rw [hw,blk_set hb]
  congr 1
  simp [encs,List.map_set]
 have:=h w' hw e
 rwa [hN] at this
end
theorem R_put {α:Type} {d:Kd α} {e base g o:Nat} {ok:Nat->Prop} {v u:Value} {xs:List α} {w w':World} (hw:w'=w.setCell ⟨g,o,none⟩ u) (hg:∀ k,ok k->k≠g) (h:d.R e w base ok v xs):d.R e w' base ok v xs:=by
 rw [hw]
 exact Kd.R_far (p:=⟨g,o,none⟩) h hg u
theorem belowP {g:Nat} {w0 w w':World} {o:Nat} {u:Value} (hw:w'=w.setCell ⟨g,o,none⟩ u) (hg:w0.heap.size<=g) (h:Below w0.heap.size w0 w):Below w0.heap.size w0 w':=by
 rw [hw]
 exact below_set h hg
theorem Sav.bad {c:List SQ} (h:¬ CV (qs c)):Ev (fun k=>Sav.f k c) ([],false):=by
 simp only [Sav.f]
 exact Ev.some (Ev.bind (Saf.ev c) (Ev.neg Ev.pure (by unfold cvB;simp [h])))
theorem CV.goS {c:List SQ} {b:Bool} (hb:cvB c=b) (A0:Option Addr) (c0:Nat) (w:World) (hr0:Kd.C k27 w A0 c.length c) (hc0:c.length<=c0):Calls prog 36 #[.slice A0 c.length c0] w fun e w'=>e = .returned (.bool b)/\Below w.heap.size w w':=by
 obtain⟨k,hk⟩:=(Saf.ev c).get
 rw [hb] at hk
 exact Saf.calls k A0 c0 c b w hr0 hc0 hk
theorem CV.reachS {c:List SQ} (h:CV (qs c)):∃ U,(RS c).Lfp U/\∀ (A0:Option Addr) (c0:Nat) (w:World),Kd.C k27 w A0 c.length c->c.length<=c0->Calls prog 102 #[.slice A0 c.length c0] w fun e w'=>∃ v,e = .returned v/\Kd.R Kd.bool 4 w' w.heap.size (fun _=>True) v U/\Below w.heap.size w w':=by
 obtain⟨U,hU,hE⟩:=Sae.ev h
 obtain⟨k,hk⟩:=hE.get
 exact⟨U,hU,fun A0 c0 w hr hc=>Sae.calls k A0 c0 c U w hr hc hk⟩
theorem l36Idle_go (q:SQ) {i:Nat} (hi:i < 9223372036854775807) {b:Bool} (hb:idle q i=b) (w:World):Calls prog 103 #[.agg #[iV q.f0,iV q.f1,iV q.f2,iV q.f3,iV q.f4],iV (i:Int)] w fun e w'=>e = .returned (.bool b)/\Below w.heap.size w w':=by
 obtain⟨k,hk⟩:=(Sbe.ev q hi).get
 rw [hb] at hk
 exact Sbe.calls k _ _ _ _ _ _ b w hk
theorem l36Place_go {c:List SQ} {U:List Bool} (h9:c.length < 9223372036854775807) {n:Int} (h0:0<=n) (hn:n<=c.length) (A0:Option Addr) (c0:Nat) (w:World) (hr0:Kd.C Kd.bool w A0 (kps c U).length (kps c U)) (hc0:(kps c U).length<=c0):Calls prog 104 #[.slice A0 (kps c U).length c0,iV n] w fun e w'=>e = .returned (iV (plc c U n.toNat:Int))/\Below w.heap.size w w':=by
 obtain⟨k,hk⟩:=(Sbf.ev (U:=U) h9 h0 hn).get
 refine (Sbf.calls k A0 c0 _ _ _ w hr0 hc0 hk).mono ?_
 rintro e w' ⟨rfl,nd,rfl⟩
 exact⟨rfl,pw_below_drewN (Below.refl _ _) _⟩
theorem storeB1 {ops:Array Oper} {rest:List Oper} {op:Oper} {a:Act} {Q:Exit->Act->World->Prop} {w:World} {p:Tmp} {v:Operand} (ho:op.op = .store 4 (.tmp p) v) (hgd:op.guard=none) (hN:op.dst=none) {g o:Nat} (hx:a.eval (.tmp p) = .pointer (some ⟨g,o,none⟩)) {y:Bool} (hy:a.eval v = .bool y) {u:Value} (hc:w.cell? ⟨g,o,none⟩=some u) (hf:w.frozen? ⟨g,o,none⟩=false)
  (h:∀ w',w'=w.setCell ⟨g,o,none⟩ (.bool y)->wpList prog ops Q rest a w'):wpList prog ops Q (op :: rest) a w:=by
 refine store_event (P:=prog) hgd ho hN (w1:=w.setCell ⟨g,o,none⟩ (.bool y)) ?_ (fun w' hw=>h w' hw)
 unfold execOp
 simp only [ho,hx,hy]
 first|(go_simp;done)|(go_simp;rfl)
theorem SbE.bad {c:List SQ} (h:¬ CV (qs c)) (A0:Option Addr) (c0:Nat) (w:World) (hr0:Kd.C k27 w A0 c.length c) (hc0:c.length<=c0) :
  Calls prog 86 #[.slice A0 c.length c0] w fun e w'=>∃ ae:Value,e = .returned (.tuple #[ae,.bool false])/\Kd.R k27 TQ w' w.heap.size (fun _=>True) ae ([]:List SQ)/\Below w.heap.size w w':=by
 have af:=aM hr0
 have aj:=aM hc0
 clear hr0 hc0
 have hv:cvB c=false:=decide_eq_false h
 have HV:=aM hv
 clear h hv
 have HB:=aM (Below.refl w.heap.size w)
 go_enter func86,ntmps86
 go_wp2_with (first|((with_reducible refine jd 9 rfl ?_);refine Kd.R_lit k27 _ 27 ?hg (N:=9) ?hd (xs:=([]:List SQ)) (inner:=[]) (ok:=fun _=>True) (okp:=fun _=>True) ?hr ?hp (fun _ hk=>hk) trivial (Below.refl _ _) (Nat.le_refl _) (by simp) ?_;(case hd=>rfl);(case hg=>rfl);(case hr=>first|(go_simp;done)|(go_simp;rfl));(case hp=>exact (Reps.none _ _));intro v9 w5 ho hb hg_ hnew_;clear hg_ hnew_;have HO:=aM (Kd.R_lower ho HB.out.size);replace HB:=kH hb;clear ho hb)|((with_reducible refine gate_callee (f:=36) rfl ?_);skip;refine goesL_ (some 11) rfl rfl func36 (by kernel_rfl) rfl #[.slice A0 c.length c0] rfl qM ?_;(with_reducible refine (CV.goS HV.out A0 c0 _ ?s1 aj.out).mono ?_);(case s1=>exact Kd.C_below af.out HB.out);rintro e ay ⟨rfl,hb⟩;refine⟨_,rfl,?_⟩;replace HO:=kR HO hb;replace HB:=kH hb;clear hb))
 go_ret2
 exact⟨_,rfl,HO.out,HB.out⟩
theorem SqueezeCodeS_good_s0 {G:Prop} (h:G:=by
  go_wp2_with (first|((with_reducible refine jd 8 rfl ?_);refine jX (ics [0,0,0,0,0]) TQ ?_;intro g8 hg av hbox hb;have G8:=kG hg;replace HO:=aM (Kd.R_below (Kd.R_elderB HO.out g8 (Nat.le_of_eq hg.symm)) hb);replace HU:=kR HU hb;replace HB:=kH hb;clear x0 x1 x2 x3 x4;have B8:=aM hbox;clear hg hbox hb)|((with_reducible refine storeQ (p:=8) (v:=47) rfl rfl rfl rfl B8.out ?_);intro ax hw aa;replace HO:=aM (R_set_ hw (fun _ hk=>hk.2) HO.out);replace HU:=aM (Kd.R_mono (R_set_ hw (fun _ hk=>hk.2) (Kd.R_types HU.out B8.out (by decide))) (fun _ hk=>hk.1));replace HB:=aM (below_ hw G8.out HB.out);clear B8 hw;have B8:=aM aa;clear aa;obtain⟨d0,d1,d2,d3,d4⟩:=cells5' B8.out;obtain⟨ak,e9,z0⟩:=Kd.at_bool (Kd.R_reads' HU.out).2.2 ji ag.out.1 ag.out.2;rw [RZ.out] at z0;(first|cases e9|(injection e9 with e9;subst e9)))|((with_reducible refine gate_callee (f:=104) rfl ?_);skip;refine goesL_ (some 64) rfl rfl func104 (by kernel_rfl) rfl #[.slice (some ak) (kps c U).length cr,iV q.f4] rfl qM ?_;(with_reducible refine (PL.out (some ak) cr _ ?s3 ?s4).mono ?_);(case s3=>exact (Kd.R_reads' HU.out).2.2);(case s4=>exact (Kd.R_reads' HU.out).2.1);rintro e aH ⟨rfl,hb⟩;refine⟨_,rfl,?_⟩;replace HO:=kR HO hb;replace HU:=kR HU hb;replace B8:=kB B8 hb;replace HB:=kH hb;clear hb d0 d1 d2 d3 d4 z0;obtain⟨d0,d1,d2,d3,d4⟩:=cells5' B8.out)|((with_reducible refine store1 (p:=65) rfl rfl rfl rfl rfl B8.out (by simp only [List.length_cons,List.length_nil];omega) ?_);intro az hw aa;replace HO:=aM (R_put hw (fun _ hk=>hk.2) HO.out);replace HU:=aM (Kd.R_mono (R_put hw (fun _ hk=>hk.2) (Kd.R_types HU.out B8.out (by decide))) (fun _ hk=>hk.1));replace HB:=aM (belowP hw G8.out HB.out);clear B8 hw d0 d1 d2 d3 d4;have B8:Aside0 (az.heap[g8]?=some (.cells (ics [q.f0,q.f1,q.f2,q.f3,(plc c U q.f4.toNat:Int)]) TQ (0,0))):=⟨aa⟩;clear aa;obtain⟨d0,d1,d2,d3,d4⟩:=cells5' B8.out)|((with_reducible refine gate_builtin (b:=.append) (xs:=#[.tmp 66,.tmp 68]) rfl ?_);at_builtin;refine Kd.R_append k27 (w0:=w) w.heap.size rfl (.tmp 66) (.tmp 68) 23 27 (.agg #[(iV 0),(iV 0),(iV 0),(iV 0),(iV 0)]) 40 rfl underlying23 info27 rfl (by decide) (by omega) (.slice Ao (sqU c U j).length co) (sqU c U j) (⟨q.f0,q.f1,q.f2,q.f3,(plc c U q.f4.toNat:Int)⟩:SQ) [iV q.f0,iV q.f1,iV q.f2,iV q.f3,iV (plc c U q.f4.toNat:Int)] (fun k_=>True/\k_≠g8) (fun _=>False) rfl rfl ?aP (fun _ hk=>hk.elim) ?aF ?aO ?aB ?aS ?aL ?_;(case aP=>exact k27_mkM _ _ _ (⟨q.f0,q.f1,q.f2,q.f3,(plc c U q.f4.toNat:Int)⟩:SQ));(case aB=>exact HB.out);(case aF=>exact (fun k_ hk=>⟨trivial,Kd.freshB B8.out k_ hk⟩));(case aO=>exact HO.out);(case aS=>exact HB.out.size);(case aL=>have:=hlel.out;omega);intro v44 aA ho hb hg hat;have nHU:=aM (Kd.R_over' HU.out (Kd.R_typed HO.out) (by decide) hg);rw [<- HN.out] at ho;replace HO:=aM (Kd.R_mono (ok':=fun _=>True) ho (fun _ _=>trivial));replace HB:=aM hb;clear HU B8 ho hb hg hat d0 d1 d2 d3 d4;have HU:=nHU;clear nHU))
  go_roundg k1
  case measure=>omega
  exact⟨_,j+1,rfl,⟨by have:=HJI.out;(first|omega|(rw [wrap_id (by omega) (by omega)];omega)),by have:=HJ.out.2;omega⟩,HO,HU,HB⟩):G:=h
theorem SqueezeCodeS_good_s1 {G:Prop} (h:G:=by
  go_wp2_with (first|((with_reducible refine jc 103 34 rfl rfl ?_);(try (refine gate_guard (by rfl) ?_;dsimp only));refine jG func103 #[.agg #[iV (qa c p).f0,iV (qa c p).f1,iV (qa c p).f2,iV (qa c p).f3,iV (qa c p).f4],iV pi] ?_;refine (A3.out _).mono ?_;skip;rintro e w8 ⟨rfl,hb⟩;refine⟨_,rfl,?_⟩;replace HO:=kR HO hb;replace HU:=kR HU hb;replace HB:=kH hb;clear y0 y1 y2 y3 y4 hz;clear hb)|((with_reducible refine gate_store (t:=4) (p:=37) rfl ?_);obtain⟨ah,ai⟩:=Kd.R_celln false HU.out pi au.out.1 au.out.2;(with_reducible refine storeB1 (p:=37) (y:=false) rfl rfl rfl rfl rfl ah ai ?_);clear ah ai;intro w9 hw;have pg:=Kd.R_putg HU.out pi false;rw [HS.out] at pg;have nHO:=aM (Kd.R_over' (v:=.slice (some ⟨go,0,none⟩) U.length cr) HO.out (Kd.R_typed HU.out) (by decide) pg.2);have nHU:=aM pg.1;have nHB:=aM (belowP hw GO.out HB.out);change Aside0 (Kd.R _ _ (World.setCell _ _ (.bool false)) _ _ _ _) at nHO nHU;rw [<- hw] at nHO nHU;clear HB HO HU hw pg;have HB:=nHB;have HO:=nHO;have HU:=nHU;clear nHB nHO nHU))
  go_roundg k1
  case measure=>omega
  exact⟨_,p+1,rfl,⟨by have:=HPI.out;(first|omega|(rw [wrap_id (by omega) (by omega)];omega)),by have:=HP.out.2;omega⟩,HO,HU,HB⟩):G:=h
theorem SbE.good {c:List SQ} (h:CV (qs c)) (A0:Option Addr) (c0:Nat) (w:World) (hr0:Kd.C k27 w A0 c.length c) (hc0:c.length<=c0) :
  Calls prog 86 #[.slice A0 c.length c0] w fun e w'=>∃ (ae:Value) (U:List Bool),(RS c).Lfp U/\e = .returned (.tuple #[ae,.bool true])/\Kd.R k27 TQ w' w.heap.size (fun _=>True) ae (sqC c U)/\Below w.heap.size w w':=by
 have af:=aM hr0
 have aj:=aM hc0
 clear hr0 hc0
 have h6:=cv600 h
 have h6':c.length<=600:=h6.2
 have HV:=aM (show cvB c=true from decide_eq_true h)
 have HB:=aM (Below.refl w.heap.size w)
 obtain⟨U,hU,hgo⟩:=CV.reachS h
 have hUl:U.length=c.length:=hU.1.1.1
 have HUL:=aM hUl
 clear hUl
 have aC:=aM hU
 have HGO:=aM hgo
 clear hU hgo
 go_enter func86,ntmps86
 go_wp2_with (first|((with_reducible refine jd 9 rfl ?_);refine Kd.R_lit k27 _ 27 ?hg (N:=9) ?hd (xs:=([]:List SQ)) (inner:=[]) (ok:=fun _=>True) (okp:=fun _=>True) ?hr ?hp (fun _ hk=>hk) trivial (Below.refl _ _) (Nat.le_refl _) (by simp) ?_;(case hd=>rfl);(case hg=>rfl);(case hr=>first|(go_simp;done)|(go_simp;rfl));(case hp=>exact (Reps.none _ _));intro v9 w5 ho hb hg_ hnew_;clear hg_ hnew_;have HO:=aM (Kd.R_lower ho HB.out.size);replace HB:=kH hb;clear ho hb)|((with_reducible refine gate_callee (f:=36) rfl ?_);skip;refine goesL_ (some 11) rfl rfl func36 (by kernel_rfl) rfl #[.slice A0 c.length c0] rfl qM ?_;(with_reducible refine (CV.goS HV.out A0 c0 _ ?s1 aj.out).mono ?_);(case s1=>exact Kd.C_below af.out HB.out);rintro e ay ⟨rfl,hb⟩;refine⟨_,rfl,?_⟩;replace HO:=kR HO hb;replace HB:=kH hb;clear hb)|((with_reducible refine gate_callee (f:=102) rfl ?_);skip;refine goesL_ (some 15) rfl rfl func102 (by kernel_rfl) rfl #[.slice A0 c.length c0] rfl qM ?_;(with_reducible refine (HGO.out A0 c0 _ ?s2 aj.out).mono ?_);(case s2=>exact Kd.C_below af.out HB.out);rintro e w6 ⟨v17,rfl,ho,hb⟩;refine⟨_,rfl,?_⟩;obtain⟨Ar,cr,rfl⟩:=Kd.R_slice ho;have HU:=aM (Kd.R_lower ho HB.out.size);replace HO:=kR HO hb;replace HB:=kH hb;clear hb ho))
 have HM:Aside0 (∃ M:List Bool,M=(kps c U).take 0 ++ U.drop 0/\Kd.R Kd.bool 4 w6 w.heap.size (fun _=>True) (.slice Ar M.length cr) M):=⟨_,rfl,HU.out⟩
 go_loopg [6] c.length (fun kq v6 w'=>∃ (pi:Int) (p:Nat),v6 = iV pi/\Aside0 (pi=(p:Int)/\p+kq=c.length)/\Aside0 (Kd.R k27 TQ w' w.heap.size (fun _=>True) v9 ([]:List SQ))/\Aside0 (Kd.R Kd.bool 4 w' w.heap.size (fun _=>True) (.slice Ar U.length cr) ((kps c U).take p ++ U.drop p))/\Aside0 (Below w.heap.size w w'))
 case atStart=>exact⟨0,0,rfl,⟨rfl,Nat.zero_add _⟩,HO,⟨by rw [List.take_zero,List.nil_append,List.drop_zero];exact HU.out⟩,HB⟩
 clear HO HU HB HM
 obtain⟨pi,p,rfl,HP,HO,HU,HB⟩:=hrel
 rcases gk with _|k1
 ·have ep:p=c.length:=by have:=HP.out.2;omega
  subst ep
  have hpi:pi=(c.length:Int):=HP.out.1
  subst hpi
  have hfull:(kps c U).take c.length ++ U.drop c.length=kps c U:=by rw [List.take_of_length_le (by rw [kps_len];exact Nat.le_refl _),List.drop_eq_nil_of_le (by rw [HUL.out];exact Nat.le_refl _),List.append_nil]
  rw [hfull] at HU
  have hKU:U.length=(kps c U).length:=by rw [kps_len,HUL.out]
  have nHU:Aside0 (Kd.R Kd.bool 4 wr w.heap.size (fun _=>True) (.slice Ar (kps c U).length cr) (kps c U)):=⟨by rw [<- hKU];exact HU.out⟩
  have HKU:=aM hKU
  clear hfull HU
  have HU:=nHU
  clear nHU
  rw [hKU]
  clear hKU
  go_wp2
  go_loopg [4,7] c.length (fun kq v4 v7 w'=>∃ (ji:Int) (j:Nat),v7 = iV ji/\Aside0 (ji=(j:Int)/\j+kq=c.length)/\Aside0 (Kd.R k27 TQ w' w.heap.size (fun _=>True) v4 (sqU c U j))/\Aside0 (Kd.R Kd.bool 4 w' w.heap.size (fun _=>True) (.slice Ar (kps c U).length cr) (kps c U))/\Aside0 (Below w.heap.size w w'))
  case atStart=>exact⟨0,0,rfl,⟨rfl,Nat.zero_add _⟩,HO,HU,HB⟩
  clear HO HU HB
  obtain⟨ji,j,rfl,HJ,HO,HU,HB⟩:=hrel
  obtain⟨Ao,co,rfl⟩:=Kd.R_slice HO.out
  rcases gk with _|k1
  ·have ej:j=c.length:=by have:=HJ.out.2;omega
   subst ej
   have hji:ji=(c.length:Int):=HJ.out.1
   subst hji
   go_wp2
   go_ret2
   exact⟨_,U,aC.out,rfl,HO.out,HB.out⟩
  have hj:j < c.length:=by have:=HJ.out.2;omega
  have hji:ji=(j:Int):=HJ.out.1
  have j0:0<=ji:=by omega
  have j1:ji < (c.length:Int):=by omega
  have ju:ji < ((kps c U).length:Int):=by rw [kps_len];exact j1
  obtain⟨aq,e2,x0,x1,x2,x3,x4⟩:=at_T27 af.out ji j0 j1
  cases e2
  have rq:rd_T27 c ji=qa c j:=by rw [hji];exact rd_qa c j
  rw [rq] at x0 x1 x2 x3 x4
  replace x0:=kx HB x0
  replace x1:=kx HB x1
  replace x2:=kx HB x2
  replace x3:=kx HB x3
  replace x4:=kx HB x4
  have rz:rdOf false (kps c U) ji=kp c U j:=by rw [hji,rdOf_nat,kps_get hj]
  have hle:(sqU c U j).length<=600:=by rw [sqU_len];have:=plc_le c U j;omega
  have hlel:=aM hle
  have HN:=aM (sqU_next c U j)
  have HJI:=aM hji
  have hnr:(qa c j).f0=4\/(qa c j).f0=5->0<=(qa c j).f4/\(qa c j).f4 < c.length:=fun g=>n_of h hj g
  obtain⟨q,hq⟩:∃ q,q=qa c j:=⟨_,rfl⟩
  rw [<- hq] at x0 x1 x2 x3 x4 HN hnr
  have ag:=aM (And.intro j0 ju)
  have aI:=eq_true j0
  have aJ:=eq_true j1
  have jut:=eq_true ju
  have aK:=decide_eq_true j0
  have aN:=decide_eq_true j1
  have jub:=decide_eq_true ju
  clear hji rq j0 j1 ju hle hq
  by_cases g:kp c U j=true
  ·rw [g] at rz
   have RZ:=aM rz
   rw [if_pos g] at HN
   clear rz g
   by_cases g4:q.f0=4
   ·obtain⟨n0,n1⟩:=hnr (.inl g4)
    have es:sqQ c U q=⟨q.f0,q.f1,q.f2,q.f3,(plc c U q.f4.toNat:Int)⟩:=if_pos (.inl g4)
    rw [es] at HN
    have PL:=aM (fun (A0:Option Addr) (c0:Nat) (W:World)=>l36Place_go (c:=c) (U:=U) (n:=q.f4) (by omega) n0 (by omega) A0 c0 W)
    have aD:(q.f0 == 4)=true:=beq_iff_eq.mpr g4
    clear hnr g4 n0 n1 es
    exact SqueezeCodeS_good_s0
   have aD:(q.f0 == 4)=false:=beq_eq_false_iff_ne.mpr g4
   by_cases g5:q.f0=5
   ·obtain⟨n0,n1⟩:=hnr (.inr g5)
    have es:sqQ c U q=⟨q.f0,q.f1,q.f2,q.f3,(plc c U q.f4.toNat:Int)⟩:=if_pos (.inr g5)
    rw [es] at HN
    have PL:=aM (fun (A0:Option Addr) (c0:Nat) (W:World)=>l36Place_go (c:=c) (U:=U) (n:=q.f4) (by omega) n0 (by omega) A0 c0 W)
    have aG:(q.f0 == 5)=true:=beq_iff_eq.mpr g5
    clear hnr g4 g5 n0 n1 es
    exact SqueezeCodeS_good_s0
   have aG:(q.f0 == 5)=false:=beq_eq_false_iff_ne.mpr g5
   have es:sqQ c U q=q:=if_neg (by omega)
   rw [es] at HN
   clear hnr g4 g5 es
   go_wp2_with (first|((with_reducible refine jd 8 rfl ?_);refine jX (ics [0,0,0,0,0]) TQ ?_;intro g8 hg av hbox hb;have G8:=kG hg;replace HO:=aM (Kd.R_below (Kd.R_elderB HO.out g8 (Nat.le_of_eq hg.symm)) hb);replace HU:=kR HU hb;replace HB:=kH hb;clear x0 x1 x2 x3 x4;have B8:=aM hbox;clear hg hbox hb)|((with_reducible refine storeQ (p:=8) (v:=47) rfl rfl rfl rfl B8.out ?_);intro ax hw aa;replace HO:=aM (R_set_ hw (fun _ hk=>hk.2) HO.out);replace HU:=aM (Kd.R_mono (R_set_ hw (fun _ hk=>hk.2) (Kd.R_types HU.out B8.out (by decide))) (fun _ hk=>hk.1));replace HB:=aM (below_ hw G8.out HB.out);clear B8 hw;have B8:=aM aa;clear aa;obtain⟨d0,d1,d2,d3,d4⟩:=cells5' B8.out;obtain⟨ak,e9,z0⟩:=Kd.at_bool (Kd.R_reads' HU.out).2.2 ji ag.out.1 ag.out.2;rw [RZ.out] at z0;(first|cases e9|(injection e9 with e9;subst e9)))|((with_reducible refine gate_builtin (b:=.append) (xs:=#[.tmp 66,.tmp 68]) rfl ?_);at_builtin;refine Kd.R_append k27 (w0:=w) w.heap.size rfl (.tmp 66) (.tmp 68) 23 27 (.agg #[(iV 0),(iV 0),(iV 0),(iV 0),(iV 0)]) 40 rfl underlying23 info27 rfl (by decide) (by omega) (.slice Ao (sqU c U j).length co) (sqU c U j) (⟨q.f0,q.f1,q.f2,q.f3,q.f4⟩:SQ) [iV q.f0,iV q.f1,iV q.f2,iV q.f3,iV q.f4] (fun k_=>True/\k_≠g8) (fun _=>False) rfl rfl ?aP (fun _ hk=>hk.elim) ?aF ?aO ?aB ?aS ?aL ?_;(case aP=>exact k27_mkM _ _ _ (⟨q.f0,q.f1,q.f2,q.f3,q.f4⟩:SQ));(case aB=>exact HB.out);(case aF=>exact (fun k_ hk=>⟨trivial,Kd.freshB B8.out k_ hk⟩));(case aO=>exact HO.out);(case aS=>exact HB.out.size);(case aL=>have:=hlel.out;omega);intro v44 aA ho hb hg hat;have nHU:=aM (Kd.R_over' HU.out (Kd.R_typed HO.out) (by decide) hg);rw [<- HN.out] at ho;replace HO:=aM (Kd.R_mono (ok':=fun _=>True) ho (fun _ _=>trivial));replace HB:=aM hb;clear HU B8 ho hb hg hat d0 d1 d2 d3 d4;have HU:=nHU;clear nHU))
   go_roundg k1
   case measure=>omega
   exact⟨_,j+1,rfl,⟨by have:=HJI.out;(first|omega|(rw [wrap_id (by omega) (by omega)];omega)),by have:=HJ.out.2;omega⟩,HO,HU,HB⟩
  have g:=Bool.eq_false_iff.mpr g
  rw [g] at rz
  have RZ:=aM rz
  rw [if_neg (by rw [g];simp),List.append_nil] at HN
  clear rz g hnr
  go_wp2_with (first|((with_reducible refine jd 8 rfl ?_);refine jX (ics [0,0,0,0,0]) TQ ?_;intro g8 hg av hbox hb;have G8:=kG hg;replace HO:=aM (Kd.R_below (Kd.R_elderB HO.out g8 (Nat.le_of_eq hg.symm)) hb);replace HU:=kR HU hb;replace HB:=kH hb;clear x0 x1 x2 x3 x4;have B8:=aM hbox;clear hg hbox hb)|((with_reducible refine storeQ (p:=8) (v:=47) rfl rfl rfl rfl B8.out ?_);intro ax hw aa;replace HO:=aM (R_set_ hw (fun _ hk=>hk.2) HO.out);replace HU:=aM (Kd.R_mono (R_set_ hw (fun _ hk=>hk.2) (Kd.R_types HU.out B8.out (by decide))) (fun _ hk=>hk.1));replace HB:=aM (below_ hw G8.out HB.out);clear B8 hw;have B8:=aM aa;clear aa;obtain⟨d0,d1,d2,d3,d4⟩:=cells5' B8.out;obtain⟨ak,e9,z0⟩:=Kd.at_bool (Kd.R_reads' HU.out).2.2 ji ag.out.1 ag.out.2;rw [RZ.out] at z0;(first|cases e9|(injection e9 with e9;subst e9))))
  have nHO:=aM (Kd.R_mono (ok':=fun _=>True) HO.out (fun _ _=>trivial))
  clear HO
  have HO:=nHO
  clear nHO
  go_roundg k1
  case measure=>omega
  exact⟨_,j+1,rfl,⟨by have:=HJI.out;(first|omega|(rw [wrap_id (by omega) (by omega)];omega)),by have:=HJ.out.2;omega⟩,⟨by rw [HN.out];exact HO.out⟩,HU,HB⟩
 have hp:p < c.length:=by have:=HP.out.2;omega
 have hpi:pi=(p:Int):=HP.out.1
 have p0:0<=pi:=by omega
 have p1:pi < (c.length:Int):=by omega
 have pu:pi < (U.length:Int):=by rw [HUL.out];exact p1
 obtain⟨aq,e2,x0,x1,x2,x3,x4⟩:=at_T27 af.out pi p0 p1
 cases e2
 have rq:rd_T27 c pi=qa c p:=by rw [hpi];exact rd_qa c p
 rw [rq] at x0 x1 x2 x3 x4
 have kl:=kps_len c U
 have cl:=HUL.out
 have hl:=mix_len (A:=kps c U) (B:=U) (by omega) (show p<=(kps c U).length by omega)
 have hgt:=mix_get false (A:=kps c U) (B:=U) (by omega) (show p<=(kps c U).length by omega)
 have hn:=mix_next false (A:=kps c U) (B:=U) (by omega) (show p < (kps c U).length by omega)
 rw [kps_get hp] at hn
 obtain⟨M,hM⟩:∃ M,M=(kps c U).take p ++ U.drop p:=⟨_,rfl⟩
 rw [<- hM] at hl hgt hn HU
 obtain⟨go,cp,he,gb,gl,cells,HG⟩:=Kd.R_form HU.out (by omega)
 simp only [Value.slice.injEq] at he
 obtain⟨rfl,hbm,rfl⟩:=he
 have GO:=aM gb
 clear hbm gb gl HG
 have hz:=(Kd.R_celln false HU.out pi p0 pu).1
 have rz:rdOf false M pi=U.getD p false:=by rw [hpi,rdOf_nat,hgt]
 rw [rz] at hz
 have hset:∀ b,kp c U p=b->M.set pi.toNat b=(kps c U).take (p+1) ++ U.drop (p+1):=fun b e=>by rw [hpi,Int.toNat_natCast,<- e];exact hn
 have HSET:=aM hset
 have HPI:=aM hpi
 have X0:=aM x0
 have X1:=aM x1
 have X2:=aM x2
 have X3:=aM x3
 have X4:=aM x4
 have y0:=kx HB x0
 have y1:=kx HB x1
 have y2:=kx HB x2
 have y3:=kx HB x3
 have y4:=kx HB x4
 have au:=aM (And.intro p0 pu)
 have A2:=aM (show ∀ b,idle (qa c p) p=b->∀ W,Calls prog 103 #[.agg #[iV (qa c p).f0,iV (qa c p).f1,iV (qa c p).f2,iV (qa c p).f3,iV (qa c p).f4],iV pi] W fun e w'=>e = .returned (.bool b)/\Below W.heap.size W w' from fun b e W=>by rw [hpi];exact l36Idle_go _ (by omega) e W)
 have aQ:=eq_true p0
 have aT:=eq_true p1
 have put_:=eq_true pu
 have aU:=decide_eq_true p0
 have aV:=decide_eq_true p1
 have pub:=decide_eq_true pu
 clear x0 x1 x2 x3 x4 hset hpi rq rz p0 p1 pu hn hgt hl kl cl hM
 by_cases cu:U.getD p false=true
 ·rw [cu] at hz
  by_cases ci:idle (qa c p) p=true
  ·have HS:=aM (HSET.out false (by unfold kp;rw [cu,ci];rfl))
   have A3:=aM (A2.out true ci)
   clear cu ci A2 HSET
   exact SqueezeCodeS_good_s1
  have ci:=Bool.eq_false_iff.mpr ci
  have HS:=aM (HSET.out true (by unfold kp;rw [cu,ci];rfl))
  have A3:=aM (A2.out false ci)
  clear cu ci A2 HSET
  go_wp2_with (first|((with_reducible refine jc 103 34 rfl rfl ?_);(try (refine gate_guard (by rfl) ?_;dsimp only));refine jG func103 #[.agg #[iV (qa c p).f0,iV (qa c p).f1,iV (qa c p).f2,iV (qa c p).f3,iV (qa c p).f4],iV pi] ?_;refine (A3.out _).mono ?_;skip;rintro e w8 ⟨rfl,hb⟩;refine⟨_,rfl,?_⟩;replace HO:=kR HO hb;replace HU:=kR HU hb;replace HB:=kH hb;clear y0 y1 y2 y3 y4 hz;clear hb)|((with_reducible refine gate_store (t:=4) (p:=37) rfl ?_);obtain⟨ah,ai⟩:=Kd.R_celln false HU.out pi au.out.1 au.out.2;(with_reducible refine storeB1 (p:=37) (y:=true) rfl rfl rfl rfl rfl ah ai ?_);clear ah ai;intro w9 hw;have pg:=Kd.R_putg HU.out pi true;rw [HS.out] at pg;have nHO:=aM (Kd.R_over' (v:=.slice (some ⟨go,0,none⟩) U.length cr) HO.out (Kd.R_typed HU.out) (by decide) pg.2);have nHU:=aM pg.1;have nHB:=aM (belowP hw GO.out HB.out);change Aside0 (Kd.R _ _ (World.setCell _ _ (.bool true)) _ _ _ _) at nHO nHU;rw [<- hw] at nHO nHU;clear HB HO HU hw pg;have HB:=nHB;have HO:=nHO;have HU:=nHU;clear nHB nHO nHU))
  go_roundg k1
  case measure=>omega
  exact⟨_,p+1,rfl,⟨by have:=HPI.out;(first|omega|(rw [wrap_id (by omega) (by omega)];omega)),by have:=HP.out.2;omega⟩,HO,HU,HB⟩
 have cu:=Bool.eq_false_iff.mpr cu
 rw [cu] at hz
 have HS:=aM (HSET.out false (by unfold kp;rw [cu];rfl))
 clear cu A2 HSET
 exact SqueezeCodeS_good_s1
theorem Sav.calls (k:Nat) (A0:Option Addr) (c0:Nat) (l0 r1:List SQ) (r2:Bool) (w:World) (hr0:Kd.C k27 w A0 l0.length l0) (hc0:l0.length<=c0) (h:Sav.f k l0=some (r1,r2)) :
  Calls prog 86 #[.slice A0 l0.length c0] w fun e w'=>∃ ae:Value,e = .returned (.tuple #[ae,.bool r2])/\Kd.R k27 TQ w' w.heap.size (fun _=>True) ae r1/\Below w.heap.size w w':=by
 by_cases hv:CV (qs l0)
 ·obtain⟨U,hU,hE⟩:=Sav.ev hv
  have e:=ev_val (fun k=>Sav.mono l0 k) hE h
  obtain⟨rfl,rfl⟩:=Prod.mk.inj e
  refine (SbE.good hv A0 c0 w hr0 hc0).mono ?_
  rintro e w' ⟨v,V,hV,rfl,hR,hb⟩
  rw [Sys.lfp_unique (RS_laws hv) hV hU] at hR
  exact⟨v,rfl,hR,hb⟩
 have e:=ev_val (fun k=>Sav.mono l0 k) (Sav.bad hv) h
 obtain⟨rfl,rfl⟩:=Prod.mk.inj e
 exact SbE.bad hv A0 c0 w hr0 hc0
end Go.Proofs.YtebpplallecogaaGreat.M
namespace Go.Proofs.YtebpplallecogaaGreat.M
open Go.Proofs.Tryz Go.RowKit Go.Proofs.YtebpplallecogaaGreatW.PrintWords Go.Proofs.YtebpplallecogaaGreatW.PrintLast Go.Proofs.YtebpplallecogaaGreatW.PrintMore
attribute [local go_sem] max2_int min2_int max_two min_two max_three min_three max_four min_four
def Sbh.f (k:Nat) (l0:List S27):Option ((List S27)):=(San.f k l0).bind fun ay=>((Sai.f k ay.1).bind fun az=>((Sao.f k az.1).bind fun aA=>((Saj.f k aA.1).bind fun aC=>((Sav.f k aC.1).bind fun aD=>(some aD.1)))))
theorem Sbh.calls (k:Nat) (A0:Option Addr) (c0:Nat) (l0 r:List S27) (w:World) (hr0:Kd.C k27 w A0 l0.length l0) (hc0:l0.length<=c0) (h:Sbh.f k l0=some r) :
  Calls prog 75 #[.slice A0 l0.length c0] w fun e w'=>∃ bn:Value,e = .returned (bn)/\Kd.R k27 27 w' w.heap.size (fun _=>True) bn r/\Below w.heap.size w w':=by
 have bB:=aM hr0
 have bC:=aM hc0
 clear hr0 hc0
 have HB:=aM (Below.refl w.heap.size w)
 have H:=h;unfold Sbh.f at H
 clear h
 obtain⟨⟨aj,aH⟩,A2,H⟩:=qE H
 try dsimp only at H
 obtain⟨⟨au,aI⟩,A3,H⟩:=qE H
 try dsimp only at H
 obtain⟨⟨av,aJ⟩,A4,H⟩:=qE H
 try dsimp only at H
 obtain⟨⟨ax,aK⟩,A5,H⟩:=qE H
 try dsimp only at H
 obtain⟨⟨aN,aQ⟩,A6,H⟩:=qE H
 try dsimp only at H
 obtain rfl:=oJ H
 go_enter func75,ntmps75
 go_wp2_with (first|((with_reducible refine jc 83 15 rfl rfl ?_);refine jG func83 #[.slice A0 l0.length c0] ?_;refine (San.calls k _ _ l0 aj aH _ ?ag ?ah A2.out).mono ?_;(case ag=>exact kC bB.out);(case ah=>exact bC.out);rintro e w7 ⟨bq,rfl,ho0,hb⟩;refine⟨_,rfl,?_⟩;have aa:=kL ho0;replace HB:=kH hb;clear hb;(try clear ho0);obtain⟨bD,bE,bF⟩:=Kd.R_slice aa.out;subst bF)|((with_reducible refine jc 84 20 rfl rfl ?_);refine jG func84 #[.slice bD aj.length bE] ?_;refine (Sai.calls k _ _ aj au aI _ ?ag ?ah A3.out).mono ?_;(case ag=>exact kC (Kd.R_reads' aa.out).2.2);(case ah=>exact (Kd.R_reads' aa.out).2.1);rintro e w9 ⟨bu,rfl,ho0,hb⟩;refine⟨_,rfl,?_⟩;have ae:=aM (Kd.R_lower (Kd.R_new' ho0 (Kd.R_lt (qR aa))) (below_size qB));replace aa:=kO aa ho0 hb;replace HB:=kH hb;clear hb;(try clear ho0);obtain⟨aT,aU,aV⟩:=Kd.R_slice ae.out;subst aV)|((with_reducible refine jc 85 25 rfl rfl ?_);refine jG func85 #[.slice aT au.length aU] ?_;refine (Sao.calls k _ _ au av aJ _ ?ag ?ah A4.out).mono ?_;(case ag=>exact kC (Kd.R_reads' ae.out).2.2);(case ah=>exact (Kd.R_reads' ae.out).2.1);rintro e bG ⟨bv,rfl,ho0,hb⟩;refine⟨_,rfl,?_⟩;have af:=aM (Kd.R_lower (Kd.R_new' (Kd.R_new' ho0 (Kd.R_lt (qR aa))) (Kd.R_lt (qR ae))) (below_size qB));replace aa:=kO aa ho0 hb;replace ae:=kO ae ho0 hb;replace HB:=kH hb;clear hb;(try clear ho0);obtain⟨aW,aX,aY⟩:=Kd.R_slice af.out;subst aY)|((with_reducible refine jc 16 30 rfl rfl ?_);refine jG func16 #[.slice aW av.length aX] ?_;refine (Saj.calls k _ _ av ax aK _ ?ag ?ah A5.out).mono ?_;(case ag=>exact kC (Kd.R_reads' af.out).2.2);(case ah=>exact (Kd.R_reads' af.out).2.1);rintro e bH ⟨bz,rfl,ho0,hb⟩;refine⟨_,rfl,?_⟩;have ai:=aM (Kd.R_lower (Kd.R_new' (Kd.R_new' (Kd.R_new' ho0 (Kd.R_lt (qR aa))) (Kd.R_lt (qR ae))) (Kd.R_lt (qR af))) (below_size qB));replace aa:=kO aa ho0 hb;replace ae:=kO ae ho0 hb;replace af:=kO af ho0 hb;replace HB:=kH hb;clear hb;(try clear ho0);obtain⟨aZ,bg,bi⟩:=Kd.R_slice ai.out;subst bi)|((with_reducible refine jc 86 35 rfl rfl ?_);refine jG func86 #[.slice aZ ax.length bg] ?_;refine (Sav.calls k _ _ ax aN aQ _ ?ag ?ah A6.out).mono ?_;(case ag=>exact kC (Kd.R_reads' ai.out).2.2);(case ah=>exact (Kd.R_reads' ai.out).2.1);rintro e bI ⟨bA,rfl,ho0,hb⟩;refine⟨_,rfl,?_⟩;have aG:=aM (Kd.R_lower (Kd.R_new' (Kd.R_new' (Kd.R_new' (Kd.R_new' ho0 (Kd.R_lt (qR aa))) (Kd.R_lt (qR ae))) (Kd.R_lt (qR af))) (Kd.R_lt (qR ai))) (below_size qB));replace aa:=kO aa ho0 hb;replace ae:=kO ae ho0 hb;replace af:=kO af ho0 hb;replace ai:=kO ai ho0 hb;replace HB:=kH hb;clear hb;(try clear ho0)))
 go_ret
 exact⟨_,qW,by (with_reducible repeat (first|apply Kd.R_alloc|apply Kd.R_drewN|apply Kd.R_drew));exact Kd.R_mono aG.out (fun _ hk=>trivial),qB⟩
mutual
def Sar.j0:Nat->List S27->Int->Bool->Option ((List S27) × Bool)
 | 0,_,_,_=>none
 | k+1,x0,x1,bC=>if bC=true then (some ((([]:List S27)),false)) else ((some (([]:List S27):List S27)).bind fun af=>(if af.length+x0.length < 3518437208883 then (Sar.l0 k x1 (af ++ x0) 0) else (none)))
def Sar.l0:Nat->Int->List S27->Int->Option ((List S27) × Bool)
 | 0,_,_,_=>none
 | k+1,x1,x6,x7=>if x7 < x1 then ((Sbh.f k x6).bind fun au=>(Sar.l0 k x1 au (wrap64 (x7+1)))) else (some (x6,true))
end
def Sar.f (k:Nat) (l0:List S27) (a1:Int):Option ((List S27) × Bool):=(Saf.f k l0).bind fun aC=>(if aC=true then ((Sbl.f a1 0 4).bind fun aD=>(Sar.j0 k l0 a1 (!aD))) else (Sar.j0 k l0 a1 true))
theorem Sar.calls (k:Nat) (A0:Option Addr) (c0:Nat) (l0:List S27) (a1:Int) (r1:List S27) (r2:Bool) (w:World) (hr0:Kd.C k27 w A0 l0.length l0) (hc0:l0.length<=c0) (h:Sar.f k l0 a1=some (r1,r2)) :
  Calls prog 64 #[.slice A0 l0.length c0,iV a1] w fun e w'=>∃ bi:Value,e = .returned (.tuple #[bi,.bool r2])/\Kd.R k27 27 w' w.heap.size (fun _=>True) bi r1/\Below w.heap.size w w':=by
 have aV:=aM hr0
 have bn:=aM hc0
 clear hr0 hc0
 have HB:=aM (Below.refl w.heap.size w)
 have H:=h;unfold Sar.f at H
 clear h
 have aW:=aM H
 clear H
 go_enter func64,ntmps64
 go_upto_region 1 with (fail)
 go_cut [15] (fun v15 wc=>∃ (kq:Nat) (av:Bool),v15 = .bool av/\Aside0 (Sar.j0 kq l0 a1 av=some (r1,r2))/\Aside0 (kq<=k)/\Aside0 (Below w.heap.size w wc))
 case first =>
  have H:=aW.out
  clear aW
  obtain⟨aC,A4,H⟩:=qE H
  try dsimp only at H
  replace H:=jB H;rcases H with ⟨rfl,H⟩ | ⟨rfl,H⟩
  ·obtain⟨aD,A6,H⟩:=qE H
   try dsimp only at H
   have H':=aM H
   clear H
   go_wp2_with (first|((with_reducible refine jc 36 9 rfl rfl ?_);refine jG func36 #[.slice A0 l0.length c0] ?_;refine (Saf.calls k _ _ l0 true _ ?ag ?ah A4.out).mono ?_;(case ag=>exact kC (Kd.C_below aV.out HB.out));(case ah=>exact bn.out);rintro e aX ⟨rfl,hb⟩;refine⟨_,rfl,?_⟩;replace HB:=kH hb;clear hb)|(go_at_call 46;(with_reducible refine (Sbl.calls _ _ _ _ _ (Aside0.out (by assumption))).mono ?_);rintro e w' ⟨rfl,⟨nd,rfl⟩⟩))
   go_meet
   exact⟨_,_,qZ,H',⟨by first|omega|exact Nat.le_refl _⟩,⟨qB⟩⟩
  have H':=aM H
  clear H
  go_wp2_with (first|((with_reducible refine jc 36 9 rfl rfl ?_);refine jG func36 #[.slice A0 l0.length c0] ?_;refine (Saf.calls k _ _ l0 false _ ?ag ?ah A4.out).mono ?_;(case ag=>exact kC (Kd.C_below aV.out HB.out));(case ah=>exact bn.out);rintro e aX ⟨rfl,hb⟩;refine⟨_,rfl,?_⟩;replace HB:=kH hb;clear hb))
  go_meet
  exact⟨_,_,qZ,H',⟨by first|omega|exact Nat.le_refl _⟩,⟨qB⟩⟩
 clear aW
 obtain⟨kq,av,rfl,HA,HJ2,HB⟩:=hcut
 cases kq with
 | zero=>exact absurd HA.out (by simp [Sar.j0])
 | succ bq =>
  have H:=HA.out
  clear HA
  simp only [Sar.j0] at H
  replace H:=jB H;rcases H with ⟨rfl,H⟩ | ⟨rfl,H⟩
  ·obtain⟨bu,aa⟩:=ky ([]:List S27)
   first|replace H:=kz aa H|rw [<- aa.out] at H
   obtain⟨rfl,rfl⟩:=oJ2 H
   go_wp2_with (first|((with_reducible refine jd 16 rfl ?_);refine jV k27 27 ([]:List S27) [] (Reps.none _ _) ?_;intro bv bE ax hb;(first|rw [<- aa.out] at ax|(simp only [Int.reduceToNat] at ax;rw [<- aa.out] at ax));have aG:=kL ax;replace HB:=kH hb;clear hb ax))
   go_ret2
   exact⟨_,qW,qR aG,qB⟩
  obtain⟨af,ae⟩:=ky ([]:List S27)
  first|replace H:=kz ae H|rw [<- ae.out] at H
  replace H:=jL H;obtain⟨aN,H⟩:=H
  obtain⟨aQ,ai⟩:=ky ((af ++ l0):List S27)
  first|replace H:=kz ai H|rw [<- ai.out] at H
  have H':=aM H
  clear H
  go_wp2_with (first|((with_reducible refine jd 17 rfl ?_);refine jV k27 27 ([]:List S27) [] (Reps.none _ _) ?_;intro aT bH ay hb;(first|rw [<- ae.out] at ay|(simp only [Int.reduceToNat] at ay;rw [<- ae.out] at ay));have az:=kL ay;replace HB:=kH hb;clear hb ay)|((with_reducible refine gate_builtin (b:=.append) (xs:=#[.tmp 17,.tmp 18]) rfl ?_);at_builtin;refine Kd.R_append_rows k27 (w0:=w) w.heap.size rfl (.tmp 17) (.tmp 18) 23 27 (.agg #[(iV 0),(iV 0),(iV 0),(iV 0),(iV 0)]) 40 rfl underlying23 info27 rfl (by decide) (by omega) aT af l0 _ _ _ (fun _=>True) (fun _=>False) rfl rfl ?aO ?aR (fun _ _ h=>h) (fun _ h=>h.elim) ?aF ?aB ?aS ?aL ?_;(case aR=>exact kC (Kd.C_below aV.out HB.out));(case aB=>exact qB);(case aF=>exact (fun _ _=>trivial));(case aO=>exact (qR az));(case aS=>exact (below_size qB));(case aL=>have:=aN.out;omega);intro bz bI ho hb hg hat;rw [<- ai.out] at ho;have aH:=aM ho;replace HB:=aM hb;clear az;clear ho hb hg hat))
  go_loopg [6,7] bq (fun kq v6 v7 w'=>∃ (aA:List S27) (aI:Int),v7 = iV aI/\Aside0 (Sar.l0 kq a1 aA aI=some (r1,r2))/\Aside0 (kq<=bq)/\Aside0 (Kd.R k27 27 w' w.heap.size (fun _=>True) v6 aA)/\Aside0 (Below w.heap.size w w'))
  case atStart=>exact⟨(aQ),(0),qZ,H',⟨Nat.le_refl _⟩,⟨qR aH⟩,⟨qB⟩⟩
  clear H'
  obtain⟨aA,aI,rfl,HA,bA,aj,HB⟩:=hrel
  rcases gk with _|k2
  ·exact absurd HA.out (by simp [Sar.l0])
  have H:=HA.out
  clear HA
  simp only [Sar.l0] at H
  replace H:=jD H;rcases H with ⟨aU,H⟩ | ⟨aU,H⟩
  ·obtain⟨au,bF,H⟩:=qE H
   try dsimp only at H
   have H':=aM H
   clear H
   obtain⟨aY,aZ,bg⟩:=Kd.R_slice aj.out
   subst bg
   go_wp2_with (first|((with_reducible refine jc 75 26 rfl rfl ?_);refine jG func75 #[.slice aY aA.length aZ] ?_;refine (Sbh.calls k2 _ _ aA au _ ?ag ?ah bF.out).mono ?_;(case ag=>exact kC (Kd.R_reads' aj.out).2.2);(case ah=>exact (Kd.R_reads' aj.out).2.1);rintro e bG ⟨bB,rfl,aJ,hb⟩;refine⟨_,rfl,?_⟩;have aK:=aM (Kd.R_lower (Kd.R_new' aJ (Kd.R_lt (qR aj))) (below_size qB));replace aj:=kO aj aJ hb;replace HB:=kH hb;clear hb;(try clear aJ)))
   go_roundg k2
   case measure=>have:=HJ2.out;have:=bA.out;omega
   exact⟨_,_,qZ,H',⟨by have:=HJ2.out;have:=bA.out;omega⟩,⟨by (with_reducible repeat (first|apply Kd.R_alloc|apply Kd.R_drewN|apply Kd.R_drew));exact Kd.R_mono aK.out (fun _ hk=>trivial)⟩,⟨qB⟩⟩
  obtain⟨rfl,rfl⟩:=oJ2 H
  go_wp2
  go_ret2
  exact⟨_,qW,qR aj,qB⟩
def SbA.f (k:Nat) (ah:List Int) (ax:Int):Option ((List S27) × Int):=(Sbn.f k ah ax 2).bind fun ay=>(if ay.1=0 then ((SbC.f k ah ay.2).bind fun aA=>(some (aA.1,aA.2))) else ((Sbx.f k ah ay.2 2).bind fun az=>((Sag.f k az.1).bind fun aC=>(if (aC.1.length:Int) > 40 then ((SbC.f k ah az.2).bind fun aD=>(some (aD.1,aD.2))) else ((Sbn.f k ah az.2 3).bind fun aG=>((Sar.f k aC.1 (wrap64 (Int.tdiv aG.1 2))).bind fun aK=>(some (aK.1,aG.2))))))))
theorem SbA.calls (k g:Nat) (ah:List Int) (ax:Int) (r1:List S27) (r2:Int) (w0 w:World) (hI:Saa w0 w g ah ax) (hB:Below w0.heap.size w0 w) (h:SbA.f k ah ax=some (r1,r2)) :
  Calls prog 51 #[.pointer (some ⟨g,0,none⟩)] w fun e w'=>∃ bM:Value,e = .returned (bM)/\Kd.R k27 27 w' w.heap.size (fun _=>True) bM r1/\Saa w0 w' g ah r2/\Below w0.heap.size w0 w'/\KeepBut w w' g none:=by
 have HI0:=aM hI
 have HK:=aM (KeepBut.refl w g none)
 have HL:=aM hB.size
 clear hI
 have HW0:=aM hB.size
 have HB:=aM hB
 clear hB
 have H:=h;unfold SbA.f at H
 clear h
 obtain⟨⟨aH,aj⟩,A2,H⟩:=qE H
 try dsimp only at H
 replace H:=jE H;rcases H with ⟨bv,bz,H⟩ | ⟨c3,bv,bz,H⟩
 ·obtain⟨⟨aU,aV⟩,A4,H⟩:=qE H
  try dsimp only at H
  obtain⟨rfl,rfl⟩:=oJ2 H
  go_enter func51,ntmps51
  go_wp2_with (first|((with_reducible refine jc 52 8 rfl rfl ?_);refine jG func52 #[.pointer (some ⟨g,0,none⟩),iV 2] ?_;refine (Sbn.calls k g ah ax 2 aH aj w0 _ ?ae ?af A2.out).mono ?_;(case ae=>exact qI HI0);(case af=>exact qB);rintro e w5 ⟨rfl,hi,hb,hk⟩;refine⟨_,rfl,?_⟩;replace HK:=kI hk;replace HB:=aM hb;replace HI0:=aM hi;clear hb hk hi)|((with_reducible refine jc 61 11 rfl rfl ?_);refine jG func61 #[.pointer (some ⟨g,0,none⟩)] ?_;refine (SbC.calls k g ah aj aU aV w0 _ ?ae ?af A4.out).mono ?_;(case ae=>exact qI HI0);(case af=>exact qB);rintro e w6 ⟨bN,rfl,ho0,hi,hb,hk⟩;refine⟨_,rfl,?_⟩;have aN:=aM (Kd.R_lower ho0 (keep_size (w:=w) (g:=g) (row:=none) qH));replace HK:=kI hk;replace HB:=aM hb;replace HI0:=aM hi;clear hb hk hi;(try clear ho0)))
  go_ret
  exact⟨_,qW,qR aN,qI HI0,qB,qH⟩
 obtain⟨⟨au,av⟩,A7,H⟩:=qE H
 try dsimp only at H
 obtain⟨⟨ai,aJ⟩,A8,H⟩:=qE H
 try dsimp only at H
 by_cases c9:(ai.length:Int) > 40
 ·rw [if_pos c9] at H
  have bA:=decide_eq_true c9
  have bB:decide (40 < ai.length)=true:=decide_eq_true (by omega)
  clear c9
  obtain⟨⟨aW,aX⟩,bQ,H⟩:=qE H
  try dsimp only at H
  obtain⟨rfl,rfl⟩:=oJ2 H
  go_enter func51,ntmps51
  go_wp2_with (first|((with_reducible refine jc 52 8 rfl rfl ?_);refine jG func52 #[.pointer (some ⟨g,0,none⟩),iV 2] ?_;refine (Sbn.calls k g ah ax 2 aH aj w0 _ ?ae ?af A2.out).mono ?_;(case ae=>exact qI HI0);(case af=>exact qB);rintro e bT ⟨rfl,hi,hb,hk⟩;refine⟨_,rfl,?_⟩;replace HK:=kI hk;replace HB:=aM hb;replace HI0:=aM hi;clear hb hk hi)|((with_reducible refine jc 63 14 rfl rfl ?_);refine jG func63 #[.pointer (some ⟨g,0,none⟩),iV 2] ?_;refine (Sbx.calls k g ah aj 2 au av w0 _ ?ae ?af A7.out).mono ?_;(case ae=>exact qI HI0);(case af=>exact qB);rintro e bU ⟨aY,rfl,ho0,hi,hb,hk⟩;refine⟨_,rfl,?_⟩;have aa:=aM (Kd.N_lower (Kd.N_mono (ok':=fun k_=>k_≠g) ho0 (fun k_ hk_=>(Saa.fresh (qI HI0) k_ hk_))) (keep_size (w:=w) (g:=g) (row:=none) qH));replace HK:=kI hk;replace HB:=aM hb;replace HI0:=aM hi;clear hb hk hi;(try clear ho0);obtain⟨bC,bD,bE⟩:=Kd.N_slice aa.out;subst bE)|((with_reducible refine jc 62 15 rfl rfl ?_);refine jG func62 #[.slice bC au.length bD] ?_;refine (Sag.calls k _ _ au ai aJ _ ?ae ?af A8.out).mono ?_;(case ae=>exact kC (Kd.N_reads' aa.out).2.2);(case af=>exact (Kd.N_reads' aa.out).2.1);rintro e bV ⟨aZ,rfl,ho0,hb⟩;refine⟨_,rfl,?_⟩;have ag:=aM (Kd.R_lower ho0 (keep_size (w:=w) (g:=g) (row:=none) qH));replace aa:=aM (Kd.N_elder' (qN aa) (Kd.R_base ho0) hb);replace HI0:=aM (Saa.below (qI HI0) hb);replace HK:=aM (KeepBut.trans qH (KeepBut.of_below hb g none) (.inl rfl));replace HB:=kH hb;clear hb;(try clear ho0);obtain⟨bF,bG,bH⟩:=Kd.R_slice ag.out;subst bH)|((with_reducible refine jc 61 22 rfl rfl ?_);refine jG func61 #[.pointer (some ⟨g,0,none⟩)] ?_;refine (SbC.calls k g ah av aW aX w0 _ ?ae ?af bQ.out).mono ?_;(case ae=>exact qI HI0);(case af=>exact qB);rintro e w16 ⟨bO,rfl,ho0,hi,hb,hk⟩;refine⟨_,rfl,?_⟩;have aQ:=aM (Kd.R_lower (Kd.R_new' ho0 (Kd.R_lt (qR ag))) (keep_size (w:=w) (g:=g) (row:=none) qH));replace aa:=aM (Kd.N_mono (Kd.N_told (Kd.N_oldK (Kd.N_mono (ok:=fun k_=>(k_≠g/\some k_≠(.slice bF ai.length bG:Value).ownBlock)) (qN aa) (fun k_ hk_=>(⟨hk_,hk_.1⟩:_/\k_≠g))) hk) (Kd.R_base ho0)) (fun _ h_=>h_.1));replace ag:=aM (Kd.R_mono (Kd.R_told (Kd.R_oldK (Saa.apart (show Saa w0 _ g ah av from qI HI0) (qR ag) (by decide)) hk) (Kd.R_base ho0)) (fun _ h_=>h_.1));replace HK:=kI hk;replace HB:=aM hb;replace HI0:=aM hi;clear hb hk hi;(try clear ho0)))
  go_ret
  exact⟨_,qW,by (with_reducible repeat (first|apply Kd.R_alloc|apply Kd.R_drewN|apply Kd.R_drew));exact Kd.R_mono aQ.out (fun _ hk=>trivial),qI HI0,qB,qH⟩
 rw [if_neg c9] at H
 have bA:=decide_eq_false c9
 have bB:decide (40 < ai.length)=false:=decide_eq_false (by omega)
 clear c9
 obtain⟨⟨aI,bg⟩,bR,H⟩:=qE H
 try dsimp only at H
 obtain⟨⟨bi,bn⟩,bS,H⟩:=qE H
 try dsimp only at H
 obtain⟨rfl,rfl⟩:=oJ2 H
 go_enter func51,ntmps51
 go_wp2_with (first|((with_reducible refine jc 52 8 rfl rfl ?_);refine jG func52 #[.pointer (some ⟨g,0,none⟩),iV 2] ?_;refine (Sbn.calls k g ah ax 2 aH aj w0 _ ?ae ?af A2.out).mono ?_;(case ae=>exact qI HI0);(case af=>exact qB);rintro e bW ⟨rfl,hi,hb,hk⟩;refine⟨_,rfl,?_⟩;replace HK:=kI hk;replace HB:=aM hb;replace HI0:=aM hi;clear hb hk hi)|((with_reducible refine jc 63 14 rfl rfl ?_);refine jG func63 #[.pointer (some ⟨g,0,none⟩),iV 2] ?_;refine (Sbx.calls k g ah aj 2 au av w0 _ ?ae ?af A7.out).mono ?_;(case ae=>exact qI HI0);(case af=>exact qB);rintro e bX ⟨aY,rfl,ho0,hi,hb,hk⟩;refine⟨_,rfl,?_⟩;have aa:=aM (Kd.N_lower (Kd.N_mono (ok':=fun k_=>k_≠g) ho0 (fun k_ hk_=>(Saa.fresh (qI HI0) k_ hk_))) (keep_size (w:=w) (g:=g) (row:=none) qH));replace HK:=kI hk;replace HB:=aM hb;replace HI0:=aM hi;clear hb hk hi;(try clear ho0);obtain⟨bI,bJ,bK⟩:=Kd.N_slice aa.out;subst bK)|((with_reducible refine jc 62 15 rfl rfl ?_);refine jG func62 #[.slice bI au.length bJ] ?_;refine (Sag.calls k _ _ au ai aJ _ ?ae ?af A8.out).mono ?_;(case ae=>exact kC (Kd.N_reads' aa.out).2.2);(case af=>exact (Kd.N_reads' aa.out).2.1);rintro e bY ⟨aZ,rfl,ho0,hb⟩;refine⟨_,rfl,?_⟩;have ag:=aM (Kd.R_lower ho0 (keep_size (w:=w) (g:=g) (row:=none) qH));replace aa:=aM (Kd.N_elder' (qN aa) (Kd.R_base ho0) hb);replace HI0:=aM (Saa.below (qI HI0) hb);replace HK:=aM (KeepBut.trans qH (KeepBut.of_below hb g none) (.inl rfl));replace HB:=kH hb;clear hb;(try clear ho0);obtain⟨bq,bu,bL⟩:=Kd.R_slice ag.out;subst bL)|((with_reducible refine jc 52 26 rfl rfl ?_);refine jG func52 #[.pointer (some ⟨g,0,none⟩),iV 3] ?_;refine (Sbn.calls k g ah av 3 aI bg w0 _ ?ae ?af bR.out).mono ?_;(case ae=>exact qI HI0);(case af=>exact qB);rintro e bZ ⟨rfl,hi,hb,hk⟩;refine⟨_,rfl,?_⟩;replace aa:=aM (Kd.N_mono (Kd.N_keep (Kd.N_mono (ok:=fun k_=>(k_≠g/\some k_≠(.slice bq ai.length bu:Value).ownBlock)) (qN aa) (fun k_ hk_=>(⟨hk_,hk_.1⟩:_/\k_≠g))) hk (fun _ h=>h.2)) (fun _ h=>h.1));replace ag:=aM (Kd.R_mono (Kd.R_keep (Saa.apart (show Saa w0 _ g ah av from qI HI0) (qR ag) (by decide)) hk (fun _ h=>h.2)) (fun _ h=>h.1));replace HK:=kI hk;replace HB:=aM hb;replace HI0:=aM hi;clear hb hk hi)|((with_reducible refine jc 64 28 rfl rfl ?_);refine jG func64 #[.slice bq ai.length bu,iV (wrap64 (Int.tdiv aI 2))] ?_;refine (Sar.calls k _ _ ai (wrap64 (Int.tdiv aI 2)) bi bn _ ?ae ?af bS.out).mono ?_;(case ae=>exact kC (Kd.R_reads' ag.out).2.2);(case af=>exact (Kd.R_reads' ag.out).2.1);rintro e cz ⟨bP,rfl,ho0,hb⟩;refine⟨_,rfl,?_⟩;have aT:=aM (Kd.R_lower (Kd.R_new' ho0 (Kd.R_lt (qR ag))) (keep_size (w:=w) (g:=g) (row:=none) qH));replace aa:=aM (Kd.N_elder' (qN aa) (Kd.R_base ho0) hb);replace ag:=kO ag ho0 hb;replace HI0:=aM (Saa.below (qI HI0) hb);replace HK:=aM (KeepBut.trans qH (KeepBut.of_below hb g none) (.inl rfl));replace HB:=kH hb;clear hb;(try clear ho0)))
 go_ret
 exact⟨_,qW,by (with_reducible repeat (first|apply Kd.R_alloc|apply Kd.R_drewN|apply Kd.R_drew));exact Kd.R_mono aT.out (fun _ hk=>trivial),qI HI0,qB,qH⟩
def Sbz.f (k:Nat) (aj:List Int) (aC:Int):Option ((List S27) × Int):=(SbA.f k aj aC).bind fun ah=>((Sbn.f k aj ah.2 36).bind fun au=>(if au.1=0 then (if 0 < (ah.1.length:Int) then (some ((ah.1.set (0:Int).toNat (⟨(rd_T27 ah.1 0).f0,12,(rd_T27 ah.1 0).f2,(rd_T27 ah.1 0).f3,(rd_T27 ah.1 0).f4⟩:S27)),au.2)) else (none)) else (if au.1=1 then (if ah.1.length < 3518437208883 then (some ((ah.1 ++ [(⟨9,0,0,0,0⟩:S27)]),au.2)) else (none)) else (if au.1=2 then (if 0 < (ah.1.length:Int) then (some ((ah.1.set (0:Int).toNat (⟨4,0,0,0,(ah.1.length:Int)⟩:S27)),au.2)) else (none)) else (if au.1=3 then (some ((([]:List S27)),au.2)) else (some (ah.1,au.2)))))))
theorem Sbz.calls (k g:Nat) (aj:List Int) (aC:Int) (r1:List S27) (r2:Int) (w0 w:World) (hI:Saa w0 w g aj aC) (hB:Below w0.heap.size w0 w) (h:Sbz.f k aj aC=some (r1,r2)) :
  Calls prog 33 #[.pointer (some ⟨g,0,none⟩)] w fun e w'=>∃ dX:Value,e = .returned (dX)/\Kd.R k27 27 w' w.heap.size (fun _=>True) dX r1/\Saa w0 w' g aj r2/\Below w0.heap.size w0 w'/\KeepBut w w' g none:=by
 have eT:=underlying27
 have HI0:=aM hI
 have HK:=aM (KeepBut.refl w g none)
 have HL:=aM hB.size
 clear hI
 have HW0:=aM hB.size
 have HB:=aM hB
 clear hB
 have H:=h;unfold Sbz.f at H
 clear h
 obtain⟨⟨ae,ai⟩,A2,H⟩:=qE H
 try dsimp only at H
 obtain⟨⟨aG,aH⟩,A3,H⟩:=qE H
 try dsimp only at H
 replace H:=jE H;rcases H with ⟨dK,dL,H⟩ | ⟨c4,dK,dL,H⟩
 ·replace H:=jU H;obtain⟨c5,H⟩:=H
  have eU:=decide_eq_true c5
  have eX:decide (0 < ae.length)=true:=decide_eq_true (by omega)
  clear c5
  obtain⟨cK,aJ⟩:=ky ((ae.set (0:Int).toNat (⟨(rd_T27 ae 0).f0,12,(rd_T27 ae 0).f2,(rd_T27 ae 0).f3,(rd_T27 ae 0).f4⟩:S27)):List S27)
  first|replace H:=kz aJ H|rw [<- aJ.out] at H
  obtain⟨rfl,rfl⟩:=oJ2 H
  go_enter func33,ntmps33
  go_wp2_with (first|((with_reducible refine jc 51 5 rfl rfl ?_);refine jG func51 #[.pointer (some ⟨g,0,none⟩)] ?_;refine (SbA.calls k g aj aC ae ai w0 _ ?af ?ag A2.out).mono ?_;(case af=>exact qI HI0);(case ag=>exact qB);rintro e w7 ⟨aI,rfl,ho0,hi,hb,hk⟩;refine⟨_,rfl,?_⟩;have aa:=aM (Kd.R_lower ho0 (keep_size (w:=w) (g:=g) (row:=none) qH));replace HK:=kI hk;replace HB:=aM hb;replace HI0:=aM hi;clear hb hk hi;(try clear ho0))|((with_reducible refine jc 52 7 rfl rfl ?_);refine jG func52 #[.pointer (some ⟨g,0,none⟩),iV 36] ?_;refine (Sbn.calls k g aj ai 36 aG aH w0 _ ?af ?ag A3.out).mono ?_;(case af=>exact qI HI0);(case ag=>exact qB);rintro e w8 ⟨rfl,hi,hb,hk⟩;refine⟨_,rfl,?_⟩;replace aa:=aM (Kd.R_mono (Kd.R_keep (Saa.apart (show Saa w0 _ g aj ai from qI HI0) (qR aa) (by decide)) hk (fun _ h=>h.2)) (fun _ h=>h.1));replace HK:=kI hk;replace HB:=aM hb;replace HI0:=aM hi;clear hb hk hi;have p6:0<=(0:Int):=(by omega);have q6:(0:Int) < ((ae.length:Int):Int):=qD;have fC:(0 < ae.length)=True:=eq_true (by omega);obtain⟨bn,dY,dZ,d9,eY,fD,ek⟩:=Kd.R_form aa.out (by omega);(first|cases dZ|(injection dZ with ea_ en_ ec_;(first|subst ea_|(injection ea_ with ea_;subst ea_));subst ec_;clear en_));have eZ:=aM d9;have fE:=aM ek;clear d9 eY ek;obtain⟨fF,dM,eu,bq,bu⟩:=Kd.R_elem aa.out z27 (0:Int) p6 q6;obtain rfl:=k27_openM eu;have bN:w8.cell? ⟨bn,(0:Int).toNat*5,none⟩=some (iV ((rd_T27 ae 0).f0)):=bq 0 _ rfl;have bO:w8.cell? ⟨bn,(0:Int).toNat*5+1,none⟩=some (iV ((rd_T27 ae 0).f1)):=bq 1 _ rfl;have bP:w8.cell? ⟨bn,(0:Int).toNat*5+2,none⟩=some (iV ((rd_T27 ae 0).f2)):=bq 2 _ rfl;have bQ:w8.cell? ⟨bn,(0:Int).toNat*5+3,none⟩=some (iV ((rd_T27 ae 0).f3)):=bq 3 _ rfl;have bR:w8.cell? ⟨bn,(0:Int).toNat*5+4,none⟩=some (iV ((rd_T27 ae 0).f4)):=bq 4 _ rfl;have bS:w8.frozen? ⟨bn,(0:Int).toNat*5,none⟩=false:=bu 0;have bT:w8.frozen? ⟨bn,(0:Int).toNat*5+1,none⟩=false:=bu 1;have bU:w8.frozen? ⟨bn,(0:Int).toNat*5+2,none⟩=false:=bu 2;have bV:w8.frozen? ⟨bn,(0:Int).toNat*5+3,none⟩=false:=bu 3;have bW:w8.frozen? ⟨bn,(0:Int).toNat*5+4,none⟩=false:=bu 4;clear dM bq bu eu;(try rw [show ((0:Int)).toNat=0 from rfl] at bN);(try simp only [Nat.reduceMul,Nat.zero_mul,Nat.zero_add,Nat.reduceAdd] at bN);(try rw [show ((0:Int)).toNat=0 from rfl] at bS);(try simp only [Nat.reduceMul,Nat.zero_mul,Nat.zero_add,Nat.reduceAdd] at bS);(try rw [show ((0:Int)).toNat=0 from rfl] at bO);(try simp only [Nat.reduceMul,Nat.zero_mul,Nat.zero_add,Nat.reduceAdd] at bO);(try rw [show ((0:Int)).toNat=0 from rfl] at bT);(try simp only [Nat.reduceMul,Nat.zero_mul,Nat.zero_add,Nat.reduceAdd] at bT);(try rw [show ((0:Int)).toNat=0 from rfl] at bP);(try simp only [Nat.reduceMul,Nat.zero_mul,Nat.zero_add,Nat.reduceAdd] at bP);(try rw [show ((0:Int)).toNat=0 from rfl] at bU);(try simp only [Nat.reduceMul,Nat.zero_mul,Nat.zero_add,Nat.reduceAdd] at bU);(try rw [show ((0:Int)).toNat=0 from rfl] at bQ);(try simp only [Nat.reduceMul,Nat.zero_mul,Nat.zero_add,Nat.reduceAdd] at bQ);(try rw [show ((0:Int)).toNat=0 from rfl] at bV);(try simp only [Nat.reduceMul,Nat.zero_mul,Nat.zero_add,Nat.reduceAdd] at bV);(try rw [show ((0:Int)).toNat=0 from rfl] at bR);(try simp only [Nat.reduceMul,Nat.zero_mul,Nat.zero_add,Nat.reduceAdd] at bR);(try rw [show ((0:Int)).toNat=0 from rfl] at bW);(try simp only [Nat.reduceMul,Nat.zero_mul,Nat.zero_add,Nat.reduceAdd] at bW);replace p6:=eq_true p6;replace q6:=eq_true q6;have eB:=aM (show Kd.R k27 27 w8 w.heap.size (fun _=>True) (.slice (some ⟨bn,0,none⟩) ae.length dY) ae from (qR aa));obtain⟨fG,cO,eD,bY,df⟩:=Kd.R_elem eB.out z27 (0:Int) (by omega) (by have h_:(0:Int) < ((ae.length:Int):Int):=qD;first|exact h_|(have e_:=(Kd.R_reads' aa.out).1;omega)|simpa using h_);obtain rfl:=k27_openM eD;have dN:=Kd.R_seg eB.out (0:Int) (by omega) (by have h_:(0:Int) < ((ae.length:Int):Int):=qD;first|exact h_|(have e_:=(Kd.R_reads' aa.out).1;omega)|simpa using h_) (seg:=[iV 12]) (j:=1) cO bY (show 2<=5 from by decide) (x':=(⟨(rd_T27 ae 0).f0,12,(rd_T27 ae 0).f2,(rd_T27 ae 0).f3,(rd_T27 ae 0).f4⟩:S27)) (k27_mkM _ _ _ (⟨(rd_T27 ae 0).f0,12,(rd_T27 ae 0).f2,(rd_T27 ae 0).f3,(rd_T27 ae 0).f4⟩:S27) ) (fun _ hk=>hk);have bA:=bY 1 _ rfl;(try simp only [show (k27).sz=5 from rfl,Nat.mul_one,Nat.add_zero] at bA);(try rw [show ((0:Int)).toNat=0 from rfl] at bA);(try simp only [Nat.reduceMul,Nat.zero_mul,Nat.zero_add,Nat.reduceAdd] at bA);have bB:=df 1;(try simp only [show (k27).sz=5 from rfl,Nat.mul_one,Nat.add_zero] at bB);(try rw [show ((0:Int)).toNat=0 from rfl] at bB);(try simp only [Nat.reduceMul,Nat.zero_mul,Nat.zero_add,Nat.reduceAdd] at bB);clear cO bY df eD)|((with_reducible refine gate_store (t:=3) (p:=12) rfl ?_);refine store_event (t:=3) (p:=12) (v:=?dO) (w1:=(w8.setCell ⟨bn,1,none⟩ (iV 12))) ?hg ?ho ?hn ?hr ?_;(case ho=>rfl);(case hg=>rfl);(case hn=>rfl);(case hr=>first|(go_simp;done)|(go_simp;rfl));intro dP hw;have hg:w8.grownBy dP (some bn):=(by rw [hw];exact dN.2);have hp_:Kd.R k27 27 dP w.heap.size (fun _=>True) (.slice (some ⟨bn,0,none⟩) ae.length dY) cK:=(by rw [hw,aJ.out];exact dN.1);clear dN;replace HI0:=aM (Saa.grown (qI HI0) hg (Saa.own_ne HI0.out aa.out (by decide)));replace HB:=aM ((by rw [hw];exact below_set (HB.out) (Nat.le_trans HL.out eZ.out):Below w0.heap.size w0 dP));replace HK:=aM (KeepBut.trans qH (KeepBut.of_grown hg g) (Kd.R_base2 aa.out));replace aa:=aM hp_;clear hg hw hp_))
  go_ret
  exact⟨_,qW,qR aa,qI HI0,qB,qH⟩
 replace H:=jE H;rcases H with ⟨dh,di,H⟩ | ⟨c11,dh,di,H⟩
 ·replace H:=jL H;obtain⟨dn,H⟩:=H
  obtain⟨eF,aK⟩:=ky ((ae ++ [(⟨9,0,0,0,0⟩:S27)]):List S27)
  first|replace H:=kz aK H|rw [<- aK.out] at H
  obtain⟨rfl,rfl⟩:=oJ2 H
  go_enter func33,ntmps33
  go_wp2_with (first|((with_reducible refine jc 51 5 rfl rfl ?_);refine jG func51 #[.pointer (some ⟨g,0,none⟩)] ?_;refine (SbA.calls k g aj aC ae ai w0 _ ?af ?ag A2.out).mono ?_;(case af=>exact qI HI0);(case ag=>exact qB);rintro e fH ⟨aI,rfl,ho0,hi,hb,hk⟩;refine⟨_,rfl,?_⟩;have aa:=aM (Kd.R_lower ho0 (keep_size (w:=w) (g:=g) (row:=none) qH));replace HK:=kI hk;replace HB:=aM hb;replace HI0:=aM hi;clear hb hk hi;(try clear ho0))|((with_reducible refine jc 52 7 rfl rfl ?_);refine jG func52 #[.pointer (some ⟨g,0,none⟩),iV 36] ?_;refine (Sbn.calls k g aj ai 36 aG aH w0 _ ?af ?ag A3.out).mono ?_;(case af=>exact qI HI0);(case ag=>exact qB);rintro e fI ⟨rfl,hi,hb,hk⟩;refine⟨_,rfl,?_⟩;replace aa:=aM (Kd.R_mono (Kd.R_keep (Saa.apart (show Saa w0 _ g aj ai from qI HI0) (qR aa) (by decide)) hk (fun _ h=>h.2)) (fun _ h=>h.1));replace HK:=kI hk;replace HB:=aM hb;replace HI0:=aM hi;clear hb hk hi)|((with_reducible refine gate_builtin (b:=.append) (xs:=#[.tmp 15,.tmp 17]) rfl ?_);at_builtin;refine Kd.R_append k27 w.heap.size rfl (.tmp 15) (.tmp 17) 23 27 (.agg #[(iV 0),(iV 0),(iV 0),(iV 0),(iV 0)]) 40 rfl underlying23 info27 rfl (by decide) (by omega) aI ae (⟨9,0,0,0,0⟩:S27) [iV 9,iV 0,iV 0,iV 0,iV 0] (fun _=>True) (fun _=>False) rfl rfl ?aP (fun _ hk=>hk.elim) ?aF ?aO (Below.refl _ _) ?aS ?aL ?_;(case aP=>exact k27_mkM _ _ _ (⟨9,0,0,0,0⟩:S27));(case aF=>exact (fun _ _=>trivial));(case aO=>exact (qR aa));(case aS=>exact (keep_size (w:=w) (g:=g) (row:=none) qH));(case aL=>have:=dn.out;omega);intro eG fJ ho hb hg hat;rw [<- aK.out] at ho;have bZ:=aM ho;replace HI0:=aM (Saa.grown (qI HI0) hg (Saa.own_ne HI0.out aa.out (by decide)));replace HB:=aM (below_weaken qB HL.out hb);replace HK:=aM (KeepBut.trans qH (KeepBut.of_grown hg g) (Kd.R_base2 aa.out));clear aa;clear ho hb hg hat))
  go_ret
  exact⟨_,qW,qR bZ,qI HI0,qB,qH⟩
 replace H:=jE H;rcases H with ⟨dw,dx,H⟩ | ⟨c16,dw,dx,H⟩
 ·replace H:=jU H;obtain⟨c17,H⟩:=H
  have eH:=decide_eq_true c17
  have eO:decide (0 < ae.length)=true:=decide_eq_true (by omega)
  clear c17
  obtain⟨dz,aN⟩:=ky ((ae.set (0:Int).toNat (⟨4,0,0,0,(ae.length:Int)⟩:S27)):List S27)
  first|replace H:=kz aN H|rw [<- aN.out] at H
  obtain⟨rfl,rfl⟩:=oJ2 H
  go_enter func33,ntmps33
  go_wp2_with (first|((with_reducible refine jc 51 5 rfl rfl ?_);refine jG func51 #[.pointer (some ⟨g,0,none⟩)] ?_;refine (SbA.calls k g aj aC ae ai w0 _ ?af ?ag A2.out).mono ?_;(case af=>exact qI HI0);(case ag=>exact qB);rintro e fK ⟨aI,rfl,ho0,hi,hb,hk⟩;refine⟨_,rfl,?_⟩;have aa:=aM (Kd.R_lower ho0 (keep_size (w:=w) (g:=g) (row:=none) qH));replace HK:=kI hk;replace HB:=aM hb;replace HI0:=aM hi;clear hb hk hi;(try clear ho0))|((with_reducible refine jc 52 7 rfl rfl ?_);refine jG func52 #[.pointer (some ⟨g,0,none⟩),iV 36] ?_;refine (Sbn.calls k g aj ai 36 aG aH w0 _ ?af ?ag A3.out).mono ?_;(case af=>exact qI HI0);(case ag=>exact qB);rintro e bv ⟨rfl,hi,hb,hk⟩;refine⟨_,rfl,?_⟩;replace aa:=aM (Kd.R_mono (Kd.R_keep (Saa.apart (show Saa w0 _ g aj ai from qI HI0) (qR aa) (by decide)) hk (fun _ h=>h.2)) (fun _ h=>h.1));replace HK:=kI hk;replace HB:=aM hb;replace HI0:=aM hi;clear hb hk hi;obtain⟨fe,dA,dQ⟩:=Kd.R_slice aa.out;subst dQ;have dR:0<=(0:Int):=(by omega);have dS:(0:Int) < ((ae.length:Int):Int):=qD;have fo:(0 < ae.length)=True:=eq_true (by omega);obtain⟨av,fq,dB,dC,dU,fu,dD⟩:=Kd.R_form aa.out (by omega);(first|cases dB|(injection dB with ea_ en_ ec_;(first|subst ea_|(injection ea_ with ea_;subst ea_));subst ec_;clear en_));have bC:=aM dC;have fw:=aM dD;clear dC dU dD;obtain⟨fA,dE,dF,ay,az⟩:=Kd.R_elem aa.out z27 (0:Int) dR dS;obtain rfl:=k27_openM dF;have bD:bv.cell? ⟨av,(0:Int).toNat*5,none⟩=some (iV ((rd_T27 ae 0).f0)):=ay 0 _ rfl;have bE:bv.cell? ⟨av,(0:Int).toNat*5+1,none⟩=some (iV ((rd_T27 ae 0).f1)):=ay 1 _ rfl;have bF:bv.cell? ⟨av,(0:Int).toNat*5+2,none⟩=some (iV ((rd_T27 ae 0).f2)):=ay 2 _ rfl;have bG:bv.cell? ⟨av,(0:Int).toNat*5+3,none⟩=some (iV ((rd_T27 ae 0).f3)):=ay 3 _ rfl;have bH:bv.cell? ⟨av,(0:Int).toNat*5+4,none⟩=some (iV ((rd_T27 ae 0).f4)):=ay 4 _ rfl;have bI:bv.frozen? ⟨av,(0:Int).toNat*5,none⟩=false:=az 0;have bJ:bv.frozen? ⟨av,(0:Int).toNat*5+1,none⟩=false:=az 1;have bK:bv.frozen? ⟨av,(0:Int).toNat*5+2,none⟩=false:=az 2;have bL:bv.frozen? ⟨av,(0:Int).toNat*5+3,none⟩=false:=az 3;have bM:bv.frozen? ⟨av,(0:Int).toNat*5+4,none⟩=false:=az 4;clear dE ay az dF;(try rw [show ((0:Int)).toNat=0 from rfl] at bD);(try simp only [Nat.reduceMul,Nat.zero_mul,Nat.zero_add,Nat.reduceAdd] at bD);(try rw [show ((0:Int)).toNat=0 from rfl] at bI);(try simp only [Nat.reduceMul,Nat.zero_mul,Nat.zero_add,Nat.reduceAdd] at bI);(try rw [show ((0:Int)).toNat=0 from rfl] at bE);(try simp only [Nat.reduceMul,Nat.zero_mul,Nat.zero_add,Nat.reduceAdd] at bE);(try rw [show ((0:Int)).toNat=0 from rfl] at bJ);(try simp only [Nat.reduceMul,Nat.zero_mul,Nat.zero_add,Nat.reduceAdd] at bJ);(try rw [show ((0:Int)).toNat=0 from rfl] at bF);(try simp only [Nat.reduceMul,Nat.zero_mul,Nat.zero_add,Nat.reduceAdd] at bF);(try rw [show ((0:Int)).toNat=0 from rfl] at bK);(try simp only [Nat.reduceMul,Nat.zero_mul,Nat.zero_add,Nat.reduceAdd] at bK);(try rw [show ((0:Int)).toNat=0 from rfl] at bG);(try simp only [Nat.reduceMul,Nat.zero_mul,Nat.zero_add,Nat.reduceAdd] at bG);(try rw [show ((0:Int)).toNat=0 from rfl] at bL);(try simp only [Nat.reduceMul,Nat.zero_mul,Nat.zero_add,Nat.reduceAdd] at bL);(try rw [show ((0:Int)).toNat=0 from rfl] at bH);(try simp only [Nat.reduceMul,Nat.zero_mul,Nat.zero_add,Nat.reduceAdd] at bH);(try rw [show ((0:Int)).toNat=0 from rfl] at bM);(try simp only [Nat.reduceMul,Nat.zero_mul,Nat.zero_add,Nat.reduceAdd] at bM);replace dR:=eq_true dR;replace dS:=eq_true dS;have dG:=aM (show Kd.R k27 27 bv w.heap.size (fun _=>True) (.slice (some ⟨av,0,none⟩) ae.length dA) ae from (qR aa));obtain⟨fB,bX,dH,ax,aA⟩:=Kd.R_elem dG.out z27 (0:Int) (by omega) (by have h_:(0:Int) < ((ae.length:Int):Int):=qD;first|exact h_|(have e_:=(Kd.R_reads' aa.out).1;omega)|simpa using h_);obtain rfl:=k27_openM dH;have cz:=Kd.R_seg dG.out (0:Int) (by omega) (by have h_:(0:Int) < ((ae.length:Int):Int):=qD;first|exact h_|(have e_:=(Kd.R_reads' aa.out).1;omega)|simpa using h_) (seg:=[iV 4,iV 0,iV 0,iV 0,iV (ae.length:Int)]) (j:=0) bX ax (show 5<=5 from by decide) (x':=(⟨4,0,0,0,(ae.length:Int)⟩:S27)) (k27_mkM _ _ _ (⟨4,0,0,0,(ae.length:Int)⟩:S27) ) (fun _ hk=>hk);have aQ:=ax 0 _ rfl;(try simp only [show (k27).sz=5 from rfl,Nat.mul_one,Nat.add_zero] at aQ);(try rw [show ((0:Int)).toNat=0 from rfl] at aQ);(try simp only [Nat.reduceMul,Nat.zero_mul,Nat.zero_add,Nat.reduceAdd] at aQ);have aT:=aA 0;(try simp only [show (k27).sz=5 from rfl,Nat.mul_one,Nat.add_zero] at aT);(try rw [show ((0:Int)).toNat=0 from rfl] at aT);(try simp only [Nat.reduceMul,Nat.zero_mul,Nat.zero_add,Nat.reduceAdd] at aT);have aU:=ax 1 _ rfl;(try simp only [show (k27).sz=5 from rfl,Nat.mul_one,Nat.add_zero] at aU);(try rw [show ((0:Int)).toNat=0 from rfl] at aU);(try simp only [Nat.reduceMul,Nat.zero_mul,Nat.zero_add,Nat.reduceAdd] at aU);have aV:=aA 1;(try simp only [show (k27).sz=5 from rfl,Nat.mul_one,Nat.add_zero] at aV);(try rw [show ((0:Int)).toNat=0 from rfl] at aV);(try simp only [Nat.reduceMul,Nat.zero_mul,Nat.zero_add,Nat.reduceAdd] at aV);have aW:=ax 2 _ rfl;(try simp only [show (k27).sz=5 from rfl,Nat.mul_one,Nat.add_zero] at aW);(try rw [show ((0:Int)).toNat=0 from rfl] at aW);(try simp only [Nat.reduceMul,Nat.zero_mul,Nat.zero_add,Nat.reduceAdd] at aW);have aX:=aA 2;(try simp only [show (k27).sz=5 from rfl,Nat.mul_one,Nat.add_zero] at aX);(try rw [show ((0:Int)).toNat=0 from rfl] at aX);(try simp only [Nat.reduceMul,Nat.zero_mul,Nat.zero_add,Nat.reduceAdd] at aX);have aY:=ax 3 _ rfl;(try simp only [show (k27).sz=5 from rfl,Nat.mul_one,Nat.add_zero] at aY);(try rw [show ((0:Int)).toNat=0 from rfl] at aY);(try simp only [Nat.reduceMul,Nat.zero_mul,Nat.zero_add,Nat.reduceAdd] at aY);have aZ:=aA 3;(try simp only [show (k27).sz=5 from rfl,Nat.mul_one,Nat.add_zero] at aZ);(try rw [show ((0:Int)).toNat=0 from rfl] at aZ);(try simp only [Nat.reduceMul,Nat.zero_mul,Nat.zero_add,Nat.reduceAdd] at aZ);have bg:=ax 4 _ rfl;(try simp only [show (k27).sz=5 from rfl,Nat.mul_one,Nat.add_zero] at bg);(try rw [show ((0:Int)).toNat=0 from rfl] at bg);(try simp only [Nat.reduceMul,Nat.zero_mul,Nat.zero_add,Nat.reduceAdd] at bg);have bi:=aA 4;(try simp only [show (k27).sz=5 from rfl,Nat.mul_one,Nat.add_zero] at bi);(try rw [show ((0:Int)).toNat=0 from rfl] at bi);(try simp only [Nat.reduceMul,Nat.zero_mul,Nat.zero_add,Nat.reduceAdd] at bi);clear bX ax aA dH)|((with_reducible refine gate_store (t:=27) (p:=25) rfl ?_);refine store_event (t:=27) (p:=25) (v:=?dV) (w1:=(((((bv.setCell ⟨av,0,none⟩ (iV 4)).setCell ⟨av,1,none⟩ (iV 0)).setCell ⟨av,2,none⟩ (iV 0)).setCell ⟨av,3,none⟩ (iV 0)).setCell ⟨av,4,none⟩ (iV (ae.length:Int)))) ?hg ?ho ?hn ?hr ?_;(case ho=>rfl);(case hg=>rfl);(case hn=>rfl);(case hr=>first|(go_simp;done)|(go_simp;rfl));intro dW hw;have hg:bv.grownBy dW (some av):=(by rw [hw];exact cz.2);have hp_:Kd.R k27 27 dW w.heap.size (fun _=>True) (.slice (some ⟨av,0,none⟩) ae.length dA) dz:=(by rw [hw,aN.out];exact cz.1);clear cz;replace HI0:=aM (Saa.grown (qI HI0) hg (Saa.own_ne HI0.out aa.out (by decide)));replace HB:=aM ((by rw [hw];exact below_set (below_set (below_set (below_set (below_set (HB.out) (Nat.le_trans HL.out bC.out)) (Nat.le_trans HL.out bC.out)) (Nat.le_trans HL.out bC.out)) (Nat.le_trans HL.out bC.out)) (Nat.le_trans HL.out bC.out):Below w0.heap.size w0 dW));replace HK:=aM (KeepBut.trans qH (KeepBut.of_grown hg g) (Kd.R_base2 aa.out));replace aa:=aM hp_;clear hg hw hp_))
  go_ret
  exact⟨_,qW,qR aa,qI HI0,qB,qH⟩
 replace H:=jE H;rcases H with ⟨dI,dJ,H⟩ | ⟨c24,dI,dJ,H⟩
 ·obtain⟨eP,aD⟩:=ky ([]:List S27)
  first|replace H:=kz aD H|rw [<- aD.out] at H
  obtain⟨rfl,rfl⟩:=oJ2 H
  go_enter func33,ntmps33
  go_wp2_with (first|((with_reducible refine jc 51 5 rfl rfl ?_);refine jG func51 #[.pointer (some ⟨g,0,none⟩)] ?_;refine (SbA.calls k g aj aC ae ai w0 _ ?af ?ag A2.out).mono ?_;(case af=>exact qI HI0);(case ag=>exact qB);rintro e fM ⟨aI,rfl,ho0,hi,hb,hk⟩;refine⟨_,rfl,?_⟩;have aa:=aM (Kd.R_lower ho0 (keep_size (w:=w) (g:=g) (row:=none) qH));replace HK:=kI hk;replace HB:=aM hb;replace HI0:=aM hi;clear hb hk hi;(try clear ho0))|((with_reducible refine jc 52 7 rfl rfl ?_);refine jG func52 #[.pointer (some ⟨g,0,none⟩),iV 36] ?_;refine (Sbn.calls k g aj ai 36 aG aH w0 _ ?af ?ag A3.out).mono ?_;(case af=>exact qI HI0);(case ag=>exact qB);rintro e fO ⟨rfl,hi,hb,hk⟩;refine⟨_,rfl,?_⟩;replace aa:=aM (Kd.R_mono (Kd.R_keep (Saa.apart (show Saa w0 _ g aj ai from qI HI0) (qR aa) (by decide)) hk (fun _ h=>h.2)) (fun _ h=>h.1));replace HK:=kI hk;replace HB:=aM hb;replace HI0:=aM hi;clear hb hk hi)|((with_reducible refine jd 28 rfl ?_);refine jV k27 27 ([]:List S27) [] (Reps.none _ _) ?_;intro eQ fP bz hb;(first|rw [<- aD.out] at bz|(simp only [Int.reduceToNat] at bz;rw [<- aD.out] at bz));have cB:=aM (Kd.R_lower (Kd.R_new' bz (Kd.R_lt (qR aa))) (keep_size (w:=w) (g:=g) (row:=none) qH));replace aa:=kO aa bz hb;replace HI0:=aM (Saa.below (qI HI0) hb);replace HK:=aM (KeepBut.trans qH (KeepBut.of_below hb g none) (.inl rfl));replace HB:=kH hb;clear hb bz))
  go_ret
  exact⟨_,qW,by (with_reducible repeat (first|apply Kd.R_alloc|apply Kd.R_drewN|apply Kd.R_drew));exact Kd.R_mono cB.out (fun _ hk=>trivial),qI HI0,qB,qH⟩
 obtain⟨rfl,rfl⟩:=oJ2 H
 go_enter func33,ntmps33
 go_wp2_with (first|((with_reducible refine jc 51 5 rfl rfl ?_);refine jG func51 #[.pointer (some ⟨g,0,none⟩)] ?_;refine (SbA.calls k g aj aC ae ai w0 _ ?af ?ag A2.out).mono ?_;(case af=>exact qI HI0);(case ag=>exact qB);rintro e fQ ⟨aI,rfl,ho0,hi,hb,hk⟩;refine⟨_,rfl,?_⟩;have aa:=aM (Kd.R_lower ho0 (keep_size (w:=w) (g:=g) (row:=none) qH));replace HK:=kI hk;replace HB:=aM hb;replace HI0:=aM hi;clear hb hk hi;(try clear ho0))|((with_reducible refine jc 52 7 rfl rfl ?_);refine jG func52 #[.pointer (some ⟨g,0,none⟩),iV 36] ?_;refine (Sbn.calls k g aj ai 36 aG aH w0 _ ?af ?ag A3.out).mono ?_;(case af=>exact qI HI0);(case ag=>exact qB);rintro e fT ⟨rfl,hi,hb,hk⟩;refine⟨_,rfl,?_⟩;replace aa:=aM (Kd.R_mono (Kd.R_keep (Saa.apart (show Saa w0 _ g aj ai from qI HI0) (qR aa) (by decide)) hk (fun _ h=>h.2)) (fun _ h=>h.1));replace HK:=kI hk;replace HB:=aM hb;replace HI0:=aM hi;clear hb hk hi))
 go_ret
 exact⟨_,qW,qR aa,qI HI0,qB,qH⟩
def Sbm.f (l0:List Int):Option (List Int × Int):=if (l0.length:Int) > 2000 then (if 2000<=(l0.length:Int) then (some (l0.take 2000,0)) else (none)) else (some (l0,0))
theorem Sbm.calls (A0:Option Addr) (c0:Nat) (l0 r1:List Int) (r2:Int) (w0 w:World) (hB:Below w0.heap.size w0 w) (hr0:Kd.C (Kd.int .u8) w0 A0 l0.length l0) (hc0:l0.length<=c0) (h:Sbm.f l0=some (r1,r2)) :
  Calls prog 34 #[.slice A0 l0.length c0] w fun e w'=>∃ g_:Nat,e = .returned (.pointer (some ⟨g_,0,none⟩))/\Saa w0 w' g_ r1 r2/\Below w0.heap.size w0 w'/\Below w.heap.size w w':=by
 have aJ:=underlying71
 have aD:=aM hr0
 have aK:=aM hc0
 clear hr0 hc0
 have HBW:=aM (Below.refl w.heap.size w)
 have HW0:=aM hB.size
 have HB:=aM hB
 clear hB
 have H:=h;unfold Sbm.f at H
 clear h
 by_cases c2:(l0.length:Int) > 2000
 ·rw [if_pos c2] at H
  have az:=decide_eq_true c2
  have aA:decide (2000 < l0.length)=true:=decide_eq_true (by omega)
  clear c2
  replace H:=jJ H;obtain⟨aN,aQ,H⟩:=H
  obtain⟨rfl,rfl⟩:=oJ2 H
  obtain⟨i04,ax,_,ay,_⟩:=info_parts info5
  obtain⟨aG,aH,aI⟩:=print_take_of (P:=prog) (Value.int .u8) 0 22 5 .i64 underlying22 ax ay A0 c0 l0 2000 (by omega) (qD) aK.out
  have af:=aM (Kd.C_of_reads (h1:=fun _=>rfl) (aH _ (Kd.reads_of_C aD.out)))
  have aC:=aM aI
  clear aH aI ax ay
  go_enter func34,ntmps34
  go_wp2_with (first|((with_reducible refine jd 10 rfl ?_);refine box_event ?hg (N:=10) ?hd (cs:=#[.slice A0 (l0.take 2000).length c0,iV 0]) (t:=71) ?hr ?_;(case hd=>rfl);(case hg=>rfl);(case hr=>first|(go_simp;done)|(go_simp;rfl));intro aa hg w5 hbox hb;have ag:=aM hbox;have ah:=aM ((by rw [hg];exact (below_size (by repeat (first|(with_reducible first|exact HBW.out|apply below_alloc|apply pw_below_drewN|apply below_drew1)|exact HBW.out))):w.heap.size<=aa));have ai:=aM ((Nat.le_trans HW0.out (by rw [hg];exact (below_size (by repeat (first|(with_reducible first|exact HBW.out|apply below_alloc|apply pw_below_drewN|apply below_drew1)|exact HBW.out))):w.heap.size<=aa):w0.heap.size<=aa));replace HBW:=aM (below_step HBW.out hb);replace HB:=kH hb;clear hb hbox hg))
  go_ret
  exact⟨_,rfl,(show Saa w0 _ aa (l0.take 2000) 0 from ⟨_,_,qK ag,ai.out,af.out⟩),qB,by repeat (first|(with_reducible first|exact HBW.out|apply below_alloc|apply pw_below_drewN|apply below_drew1|refine below_set ?_ ah.out)|exact HBW.out)⟩
 rw [if_neg c2] at H
 have az:=decide_eq_false c2
 have aA:decide (2000 < l0.length)=false:=decide_eq_false (by omega)
 clear c2
 obtain⟨rfl,rfl⟩:=oJ2 H
 go_enter func34,ntmps34
 go_wp2_with (first|((with_reducible refine jd 10 rfl ?_);refine jX _ 71 ?_;intro ae hg w6 hbox hb;have aj:=aM hbox;have au:=aM ((by rw [hg];exact (below_size (by repeat (first|(with_reducible first|exact HBW.out|apply below_alloc|apply pw_below_drewN|apply below_drew1)|exact HBW.out))):w.heap.size<=ae));have av:=aM ((Nat.le_trans HW0.out (by rw [hg];exact (below_size (by repeat (first|(with_reducible first|exact HBW.out|apply below_alloc|apply pw_below_drewN|apply below_drew1)|exact HBW.out))):w.heap.size<=ae):w0.heap.size<=ae));replace HBW:=aM (below_step HBW.out hb);replace HB:=kH hb;clear hb hbox hg))
 go_ret
 exact⟨_,rfl,(show Saa w0 _ ae l0 0 from ⟨_,_,qK aj,av.out,aD.out⟩),qB,by repeat (first|(with_reducible first|exact HBW.out|apply below_alloc|apply pw_below_drewN|apply below_drew1|refine below_set ?_ au.out)|exact HBW.out)⟩
def Sak.f (k:Nat) (l0:List Int):Option ((List S27)):=(Sbm.f l0).bind fun aa=>((Sbz.f k aa.1 aa.2).bind fun au=>(some au.1))
theorem Sak.calls (k:Nat) (A0:Option Addr) (c0:Nat) (l0:List Int) (r:List S27) (w:World) (hr0:Kd.C (Kd.int .u8) w A0 l0.length l0) (hc0:l0.length<=c0) (h:Sak.f k l0=some r) :
  Calls prog 14 #[.slice A0 l0.length c0] w fun e w'=>∃ aA:Value,e = .returned (aA)/\Kd.R k27 27 w' w.heap.size (fun _=>True) aA r/\Below w.heap.size w w':=by
 have aD:=aM hr0
 have aG:=aM hc0
 clear hr0 hc0
 have HB:=aM (Below.refl w.heap.size w)
 have H:=h;unfold Sak.f at H
 clear h
 obtain⟨⟨ah,ai⟩,A2,H⟩:=qE H
 try dsimp only at H
 obtain⟨⟨ax,ay⟩,A3,H⟩:=qE H
 try dsimp only at H
 obtain rfl:=oJ H
 go_enter func14,ntmps14
 go_wp2_with (first|((with_reducible refine jc 34 4 rfl rfl ?_);refine jG func34 #[.slice A0 l0.length c0] ?_;refine (Sbm.calls _ _ l0 ah ai w _ ?ae ?af ?az A2.out).mono ?_;(case ae=>exact qB);(case af=>exact aD.out);(case az=>exact aG.out);rintro e w4 ⟨aj,rfl,hi,hb,hb2⟩;refine⟨_,rfl,?_⟩;have ag:=aM hi;replace HB:=aM hb;(try clear hb);(try clear hb2);(try clear hi))|((with_reducible refine jc 33 5 rfl rfl ?_);refine jG func33 #[.pointer (some ⟨aj,0,none⟩)] ?_;refine (Sbz.calls k aj ah ai ax ay w _ ?ae ?af A3.out).mono ?_;(case ae=>exact qI ag);(case af=>exact qB);rintro e w5 ⟨aC,rfl,ho0,hi,hb,hk⟩;refine⟨_,rfl,?_⟩;have av:=kL ho0;replace HB:=aM hb;replace ag:=aM hi;(try clear hb);(try clear hk);(try clear hi);(try clear ho0)))
 go_ret
 exact⟨_,qW,qR av,qB⟩
end Go.Proofs.YtebpplallecogaaGreat.M
namespace Go.Proofs.YtebpplallecogaaGreat.M
open Go.Proofs.Tryz Go.RowKit Go.Proofs.YtebpplallecogaaGreatW.PrintWords Go.Proofs.YtebpplallecogaaGreatW.PrintLast Go.Proofs.YtebpplallecogaaGreatW.PrintMore
def Sa3.f (l0:List S27):Option (List S27):=if l0.length < 3518437208883 then some l0 else none
set_option maxHeartbeats 1000000 in
theorem Sa3.calls (A0:Option Addr) (c0:Nat) (l0 r:List S27) (w:World) (hr0:Kd.C k27 w A0 l0.length l0) (hc0:l0.length<=c0) (h:Sa3.f l0=some r) :
  Calls prog 39 #[.slice A0 l0.length c0] w fun e w'=>∃ aa:Value,e = .returned aa/\Kd.R k27 27 w' w.heap.size (fun _=>True) aa r/\Below w.heap.size w w':=by
 unfold Sa3.f at h
 split at h
 next hl =>
  injection h with h
  subst h
  have HL:=aM hl
  clear hl
  cases A0 with
  | none =>
   have e0:l0=[]:=by
    cases l0 with
    | nil=>rfl
    | cons x xs=>obtain⟨ad,_,e,_⟩:=Kd.C_get hr0 z27 0 (by omega) (by simp);cases e
   subst e0
   have he:=fun (W:World) (n:Nat)=>Lib.run_eql_slice_nil (P:=prog) W 23 27 none n c0 0 0 underlying23
   go_enter func39,ntmps39
   go_wp2
   go_ret
   exact⟨_,rfl,Kd.R_nil _ _ _ _ _,Below.refl _ _⟩
  | some ad =>
   have ae:=aM hr0
   clear hr0
   have HB:=aM (Below.refl w.heap.size w)
   have he:=fun (W:World) (n:Nat)=>Lib.run_eql_slice_nil (P:=prog) W 23 27 (some ad) n c0 0 0 underlying23
   go_enter func39,ntmps39
   go_wp2_with (first|((with_reducible refine jd 5 rfl ?_);refine Kd.R_lit k27 _ 27 ?hg (N:=5) ?hd (xs:=([]:List S27)) (inner:=[]) (ok:=fun _=>True) (okp:=fun _=>True) ?hr ?hp (fun _ hk=>hk) trivial (Below.refl _ _) (Nat.le_refl _) (by simp) ?_;(case hd=>rfl);(case hg=>rfl);(case hr=>first|(go_simp;done)|(go_simp;rfl));(case hp=>exact (Reps.none _ _));intro v1 w1 ho hb hg_ hnew_;clear hg_ hnew_;have HO:=aM ho;replace HB:=kH hb;clear hb ho)|((with_reducible refine gate_builtin (b:=.append) (xs:=#[.tmp 5,.tmp 6]) rfl ?_);at_builtin;refine Kd.R_append_rows k27 (w0:=w) w.heap.size rfl (.tmp 5) (.tmp 6) 23 27 (.agg #[(iV 0),(iV 0),(iV 0),(iV 0),(iV 0)]) 40 rfl underlying23 info27 rfl (by decide) (by omega) v1 [] l0 _ _ _ (fun _=>True) (fun _=>False) rfl rfl ?aO ?aR (fun _ _ h=>h) (fun _ h=>h.elim) ?aF ?aB ?aS ?aL ?_;(case aR=>exact Kd.C_below ae.out HB.out);(case aB=>exact HB.out);(case aF=>exact (fun _ _=>trivial));(case aO=>exact HO.out);(case aS=>exact below_size HB.out);(case aL=>have:=HL.out;simp only [List.length_nil];omega);intro v2 w2 ho hb hg hat;have HB2:=aM hb;have af:=aM ho;clear ho hb hg hat))
   go_ret
   exact⟨_,rfl,af.out,HB2.out⟩
 next=>cases h
end Go.Proofs.YtebpplallecogaaGreat.M
namespace Go.Proofs.YtebpplallecogaaGreat.M
open Go.Proofs.Tryz Go.RowKit Go.Proofs.YtebpplallecogaaGreatW.PrintWords Go.Proofs.YtebpplallecogaaGreatW.PrintLast Go.Proofs.YtebpplallecogaaGreatW.PrintMore
attribute [local go_sem] max2_int min2_int max_two min_two max_three min_three max_four min_four
def Sa1.l0:Nat->List S27->List Int->Int->Int->Option ((List S27) × Bool)
 | 0,_,_,_,_=>none
 | k+1,x4,bz,cO,aK=>if aK < cO then (if 0<=aK then (if aK < (bz.length:Int) then (if 0<=(rd bz aK) then (if (rd bz aK) < (x4.length:Int) then (Sa1.l0 k (x4.set ((rd bz aK):Int).toNat (⟨4,0,0,0,wrap64 ((rd bz aK)+1)⟩:S27)) bz cO (wrap64 (aK+1))) else (none)) else (none)) else (none)) else (none)) else (some (x4,true))
def Sa1.f (k:Nat) (l0:List S27):Option ((List S27) × Bool):=(Sa0.f k l0).bind fun aN=>(if aN=true then ((Sa3.f l0).bind fun aC=>((Sa5.f k l0).bind fun aa=>(Sa1.l0 k aC aa (aa.length:Int) 0))) else (some (([]:List S27),false)))
theorem Sa1.calls (k:Nat) (A0:Option Addr) (c0:Nat) (l0 r1:List S27) (r2:Bool) (w:World) (hr0:Kd.C k27 w A0 l0.length l0) (hc0:l0.length<=c0) (h:Sa1.f k l0=some (r1,r2)) :
  Calls prog 15 #[.slice A0 l0.length c0] w fun e w'=>∃ df:Value,e = .returned (.tuple #[df,.bool r2])/\Kd.R k27 27 w' w.heap.size (fun _=>True) df r1/\Below w.heap.size w w':=by
 have dB:=underlying27
 have bM:=aM hr0
 have bN:=aM hc0
 clear hr0 hc0
 have HB:=aM (Below.refl w.heap.size w)
 have H:=h;unfold Sa1.f at H
 clear h
 obtain⟨aN,A2,H⟩:=qE H
 try dsimp only at H
 replace H:=jB H;rcases H with ⟨rfl,H⟩ | ⟨rfl,H⟩
 ·obtain⟨aC,A4,H⟩:=qE H
  try dsimp only at H
  obtain⟨aa,A5,H⟩:=qE H
  try dsimp only at H
  have H':=aM H
  clear H
  go_enter func15,ntmps15
  go_wp2_with (first|((with_reducible refine jc 18 8 rfl rfl ?_);refine jG func18 #[.slice A0 l0.length c0] ?_;refine (Sa0.calls k _ _ l0 true _ ?ah ?ai A2.out).mono ?_;(case ah=>exact kC bM.out);(case ai=>exact bN.out);rintro e w6 ⟨rfl,hb⟩;refine⟨_,rfl,?_⟩;replace HB:=kH hb;clear hb)|((with_reducible refine jc 39 11 rfl rfl ?_);refine jG func39 #[.slice A0 l0.length c0] ?_;refine (Sa3.calls _ _ l0 aC _ ?ah ?ai A4.out).mono ?_;(case ah=>exact kC (Kd.C_below bM.out HB.out));(case ai=>exact bN.out);rintro e w7 ⟨bA,rfl,ho0,hb⟩;refine⟨_,rfl,?_⟩;have az:=kL ho0;replace HB:=kH hb;clear hb;(try clear ho0))|((with_reducible refine jc 35 13 rfl rfl ?_);refine jG func35 #[.slice A0 l0.length c0] ?_;refine (Sa5.calls k _ _ l0 aa _ ?ah ?ai A5.out).mono ?_;(case ah=>exact kC (Kd.C_below bM.out HB.out));(case ai=>exact bN.out);rintro e w8 ⟨dh,rfl,ho0,hb⟩;refine⟨_,rfl,?_⟩;have aG:=kL ho0;replace az:=kR az hb;replace HB:=kH hb;clear hb;(try clear ho0);obtain⟨dC,dD,dE⟩:=Kd.R_slice aG.out;subst dE))
  go_loopg [15] k (fun kq v15 w'=>∃ (ag:List S27) (ae:Int),v15 = iV ae/\Aside0 (Sa1.l0 kq ag aa (aa.length:Int) ae=some (r1,r2))/\Aside0 (kq<=k)/\Aside0 (Kd.R k27 27 w' w.heap.size (fun _=>True) bA ag)/\Aside0 (Kd.R (Kd.int .i64) 3 w' w.heap.size (fun _=>True) (.slice dC aa.length dD) aa)/\Aside0 (Below w.heap.size w w'))
  case atStart=>exact⟨(aC),(0),qZ,H',⟨Nat.le_refl _⟩,⟨qR az⟩,⟨qR aG⟩,⟨qB⟩⟩
  clear H'
  obtain⟨ag,ae,rfl,HA,di,ay,aD,HB⟩:=hrel
  rcases gk with _|k1
  ·exact absurd HA.out (by simp [Sa1.l0])
  have H:=HA.out
  clear HA
  simp only [Sa1.l0] at H
  replace H:=jD H;rcases H with ⟨bB,H⟩ | ⟨bB,H⟩
  ·replace H:=jI H;obtain⟨dn,H⟩:=H
   replace H:=jI H;obtain⟨dw,H⟩:=H
   replace H:=jI H;obtain⟨dx,H⟩:=H
   replace H:=jI H;obtain⟨dz,H⟩:=H
   obtain⟨bC,aA⟩:=ky ((ag.set ((rd aa ae):Int).toNat (⟨4,0,0,0,wrap64 ((rd aa ae)+1)⟩:S27)):List S27)
   first|replace H:=kz aA H|rw [<- aA.out] at H
   have H':=aM H
   clear H
   have aH:0<=(ae:Int):=qD
   have aI:ae < (aa.length:Int):=qD
   obtain⟨bO,bD,bE⟩:=Kd.at_int (Kd.R_reads' aD.out).2.2 ae aH aI
   cases bD
   replace aH:=eq_true aH
   replace aI:=eq_true aI
   have bP:0<=((rd aa ae):Int):=qD
   have bQ:((rd aa ae):Int) < ((ag.length:Int):Int):=qD
   obtain⟨af,aT,bF,bG,bR,dF,bH⟩:=Kd.R_form ay.out (by omega)
   (first|cases bF|(injection bF with ea_ en_ ec_;(first|subst ea_|(injection ea_ with ea_;subst ea_));subst ec_;clear en_))
   have aJ:=aM bG
   have dG:=aM bH
   clear bG bR bH
   obtain⟨dH,bI,bJ,au,av⟩:=Kd.R_elem ay.out z27 ((rd aa ae):Int) bP bQ
   obtain rfl:=k27_openM bJ
   have bS:wr.cell? ⟨af,((rd aa ae):Int).toNat*5,none⟩=some (iV ((rd_T27 ag (rd aa ae)).f0)):=au 0 _ rfl
   have bT:wr.cell? ⟨af,((rd aa ae):Int).toNat*5+1,none⟩=some (iV ((rd_T27 ag (rd aa ae)).f1)):=au 1 _ rfl
   have bU:wr.cell? ⟨af,((rd aa ae):Int).toNat*5+2,none⟩=some (iV ((rd_T27 ag (rd aa ae)).f2)):=au 2 _ rfl
   have bV:wr.cell? ⟨af,((rd aa ae):Int).toNat*5+3,none⟩=some (iV ((rd_T27 ag (rd aa ae)).f3)):=au 3 _ rfl
   have bW:wr.cell? ⟨af,((rd aa ae):Int).toNat*5+4,none⟩=some (iV ((rd_T27 ag (rd aa ae)).f4)):=au 4 _ rfl
   have bX:wr.frozen? ⟨af,((rd aa ae):Int).toNat*5,none⟩=false:=av 0
   have bY:wr.frozen? ⟨af,((rd aa ae):Int).toNat*5+1,none⟩=false:=av 1
   have bZ:wr.frozen? ⟨af,((rd aa ae):Int).toNat*5+2,none⟩=false:=av 2
   have cz:wr.frozen? ⟨af,((rd aa ae):Int).toNat*5+3,none⟩=false:=av 3
   have cB:wr.frozen? ⟨af,((rd aa ae):Int).toNat*5+4,none⟩=false:=av 4
   clear bI au av bJ
   replace bP:=eq_true bP
   replace bQ:=eq_true bQ
   have bK:=aM (show Kd.R k27 27 wr w.heap.size (fun _=>True) (.slice (some ⟨af,0,none⟩) ag.length aT) ag from (qR ay))
   obtain⟨dI,aQ,bL,aj,ax⟩:=Kd.R_elem bK.out z27 ((rd aa ae):Int) (qD) (by have h_:((rd aa ae):Int) < ((ag.length:Int):Int):=qD;first|exact h_|(have e_:=(Kd.R_reads' ay.out).1;omega)|simpa using h_)
   obtain rfl:=k27_openM bL
   have aU:=Kd.R_seg bK.out ((rd aa ae):Int) (qD) (by have h_:((rd aa ae):Int) < ((ag.length:Int):Int):=qD;first|exact h_|(have e_:=(Kd.R_reads' ay.out).1;omega)|simpa using h_) (seg:=[iV 4,iV 0,iV 0,iV 0,iV (wrap64 ((rd aa ae)+1))]) (j:=0) aQ aj (show 5<=5 from by decide) (x':=(⟨4,0,0,0,wrap64 ((rd aa ae)+1)⟩:S27)) (k27_mkM _ _ _ (⟨4,0,0,0,wrap64 ((rd aa ae)+1)⟩:S27) ) (fun _ hk=>hk)
   have aV:=aj 0 _ rfl
   (try simp only [show (k27).sz=5 from rfl,Nat.mul_one,Nat.add_zero] at aV)
   have aW:=ax 0
   (try simp only [show (k27).sz=5 from rfl,Nat.mul_one,Nat.add_zero] at aW)
   have aX:=aj 1 _ rfl
   (try simp only [show (k27).sz=5 from rfl,Nat.mul_one,Nat.add_zero] at aX)
   have aY:=ax 1
   (try simp only [show (k27).sz=5 from rfl,Nat.mul_one,Nat.add_zero] at aY)
   have aZ:=aj 2 _ rfl
   (try simp only [show (k27).sz=5 from rfl,Nat.mul_one,Nat.add_zero] at aZ)
   have bg:=ax 2
   (try simp only [show (k27).sz=5 from rfl,Nat.mul_one,Nat.add_zero] at bg)
   have bi:=aj 3 _ rfl
   (try simp only [show (k27).sz=5 from rfl,Nat.mul_one,Nat.add_zero] at bi)
   have bn:=ax 3
   (try simp only [show (k27).sz=5 from rfl,Nat.mul_one,Nat.add_zero] at bn)
   have bq:=aj 4 _ rfl
   (try simp only [show (k27).sz=5 from rfl,Nat.mul_one,Nat.add_zero] at bq)
   have bu:=ax 4
   (try simp only [show (k27).sz=5 from rfl,Nat.mul_one,Nat.add_zero] at bu)
   clear aQ aj ax bL
   go_wp2_with (first|((with_reducible refine gate_store (t:=27) (p:=24) rfl ?_);refine store_event (t:=27) (p:=24) (v:=?cK) (w1:=(((((wr.setCell ⟨af,((rd aa ae):Int).toNat*5,none⟩ (iV 4)).setCell ⟨af,((rd aa ae):Int).toNat*5+1,none⟩ (iV 0)).setCell ⟨af,((rd aa ae):Int).toNat*5+2,none⟩ (iV 0)).setCell ⟨af,((rd aa ae):Int).toNat*5+3,none⟩ (iV 0)).setCell ⟨af,((rd aa ae):Int).toNat*5+4,none⟩ (iV (wrap64 ((rd aa ae)+1))))) ?hg ?ho ?hn ?hr ?_;(case ho=>rfl);(case hg=>rfl);(case hn=>rfl);(case hr=>first|(go_simp;done)|(go_simp;rfl));intro bv hw;have hg:wr.grownBy bv (some af):=(by rw [hw];exact aU.2);have hp_:Kd.R k27 27 bv w.heap.size (fun _=>True) (.slice (some ⟨af,0,none⟩) ag.length aT) bC:=(by rw [hw,aA.out];exact aU.1);clear aU;replace aD:=aM (Kd.R_over' (v:=(.slice (some ⟨af,0,none⟩) ag.length aT)) (qR aD) (Kd.R_typed ay.out) (by decide) hg);replace ay:=aM hp_;replace HB:=aM ((by rw [hw];exact below_set (below_set (below_set (below_set (below_set (HB.out) aJ.out) aJ.out) aJ.out) aJ.out) aJ.out:Below w.heap.size w bv));clear hg hw hp_))
   go_roundg k1
   case measure=>have:=di.out;omega
   exact⟨_,_,qZ,H',⟨by have:=di.out;omega⟩,⟨qR ay⟩,⟨qR aD⟩,⟨qB⟩⟩
  obtain⟨rfl,rfl⟩:=oJ2 H
  go_wp2
  go_ret2
  exact⟨_,qW,qR ay,qB⟩
 obtain⟨rfl,rfl⟩:=oJ2 H
 go_enter func15,ntmps15
 go_wp2_with (first|((with_reducible refine jc 18 8 rfl rfl ?_);refine jG func18 #[.slice A0 l0.length c0] ?_;refine (Sa0.calls k _ _ l0 false _ ?ah ?ai A2.out).mono ?_;(case ah=>exact kC bM.out);(case ai=>exact bN.out);rintro e dJ ⟨rfl,hb⟩;refine⟨_,rfl,?_⟩;replace HB:=kH hb;clear hb))
 go_ret2
 exact⟨_,qW,by first|exact Kd.R_nil _ _ _ _ _|exact Kd.N_nil _ _ _ _ _|exact Kd.V_nil _ _ _ _ _|exact Kd.Q_nil _ _ _ _ _|exact Kd.S_nil _ _ _ _ _,qB⟩
attribute [local go_sem high] eqA27
def SbG.l0:Nat->List S27->List S27->Int->Option (Bool)
 | 0,_,_,_=>none
 | k+1,x0,x1,x5=>if x5 < (x0.length:Int) then (if 0<=x5 then (if x5 < (x1.length:Int) then (if (!(((rd_T27 x0 x5).f0) == ((rd_T27 x1 x5).f0)) || (!(((rd_T27 x0 x5).f1) == ((rd_T27 x1 x5).f1)) || (!(((rd_T27 x0 x5).f2) == ((rd_T27 x1 x5).f2)) || (!(((rd_T27 x0 x5).f3) == ((rd_T27 x1 x5).f3)) || (!(((rd_T27 x0 x5).f4) == ((rd_T27 x1 x5).f4)))))))=true then (some false) else (SbG.l0 k x0 x1 (wrap64 (x5+1)))) else (none)) else (none)) else (some true)
def SbG.f (k:Nat) (l0 l1:List S27):Option (Bool):=if (l0.length:Int)=(l1.length:Int) then (SbG.l0 k l0 l1 0) else (some false)
theorem SbG.calls (k:Nat) (A0:Option Addr) (c0:Nat) (l0:List S27) (A1:Option Addr) (c1:Nat) (l1:List S27) (r:Bool) (w:World) (hr0:Kd.C k27 w A0 l0.length l0) (hc0:l0.length<=c0) (hr1:Kd.C k27 w A1 l1.length l1) (hc1:l1.length<=c1) (h:SbG.f k l0 l1=some r) :
  Calls prog 17 #[.slice A0 l0.length c0,.slice A1 l1.length c1] w fun e w'=>e = .returned (.bool r)/\Drawn0 w w':=by
 have aY:=underlying27
 have aV:=aM hr0
 have bi:=aM hc0
 clear hr0 hc0
 have HR1:=aM hr1
 have bn:=aM hc1
 clear hr1 hc1
 have H:=h;unfold SbG.f at H
 clear h
 by_cases c3:(l0.length:Int)=(l1.length:Int)
 ·rw [if_pos c3] at H
  have aG:((l0.length:Int) == (l1.length:Int))=true:=beq_iff_eq.mpr c3
  have aH:((l0.length:Int) != (l1.length:Int))=false:=bne_eq_false_iff_eq.mpr c3
  have aI:(l0.length == l1.length)=true:=by first|simpa using c3|(simp at c3 ⊢;omega)
  clear c3
  have H':=aM H
  clear H
  go_enter func17,ntmps17
  go_wp2
  repeat (go_quiet (fail);try go_wp2)
  go_loopg [5] k (fun kq v5 w'=>∃ (aa:Int),v5 = iV aa/\Aside0 (SbG.l0 kq l0 l1 aa=some r)/\Aside0 (kq<=k)/\Drawn0 w w')
  case atStart=>exact⟨(0),qZ,H',⟨Nat.le_refl _⟩,by repeat (first|exact Drawn0.refl _|apply Drawn0.step)⟩
  clear H'
  try clear c1;try clear c3;try clear aG;try clear aH;try clear aI
  obtain⟨aa,rfl,HA,aW,⟨m1,rfl⟩⟩:=hrel
  rcases gk with _|k1
  ·exact absurd HA.out (by simp [SbG.l0])
  have H:=HA.out
  clear HA
  simp only [SbG.l0] at H
  replace H:=jD H;rcases H with ⟨aT,H⟩ | ⟨aT,H⟩
  ·replace H:=jI H;obtain⟨aZ,H⟩:=H
   replace H:=jI H;obtain⟨bg,H⟩:=H
   by_cases c7:(!(((rd_T27 l0 aa).f0) == ((rd_T27 l1 aa).f0)) || (!(((rd_T27 l0 aa).f1) == ((rd_T27 l1 aa).f1)) || (!(((rd_T27 l0 aa).f2) == ((rd_T27 l1 aa).f2)) || (!(((rd_T27 l0 aa).f3) == ((rd_T27 l1 aa).f3)) || (!(((rd_T27 l0 aa).f4) == ((rd_T27 l1 aa).f4)))))))=true
   ·rw [if_pos c7] at H
    have aU:(!(((rd_T27 l0 aa).f0) == ((rd_T27 l1 aa).f0)) || (!(((rd_T27 l0 aa).f1) == ((rd_T27 l1 aa).f1)) || (!(((rd_T27 l0 aa).f2) == ((rd_T27 l1 aa).f2)) || (!(((rd_T27 l0 aa).f3) == ((rd_T27 l1 aa).f3)) || (!(((rd_T27 l0 aa).f4) == ((rd_T27 l1 aa).f4)))))))=true:=c7
    clear c7
    obtain rfl:=oJ H
    obtain⟨aC,ae,af,ag,ah,ai,aj,aJ,aK⟩:=jT27 aV aa
    cases ae
    obtain⟨aD,au,av,ax,ay,az,aA,aN,aQ⟩:=jT27 HR1 aa
    cases au
    go_wp2
    repeat (go_quiet (fail);try go_wp2)
    go_ret
    exact⟨qZ,qU⟩
   rw [if_neg c7] at H
   have aU:(!(((rd_T27 l0 aa).f0) == ((rd_T27 l1 aa).f0)) || (!(((rd_T27 l0 aa).f1) == ((rd_T27 l1 aa).f1)) || (!(((rd_T27 l0 aa).f2) == ((rd_T27 l1 aa).f2)) || (!(((rd_T27 l0 aa).f3) == ((rd_T27 l1 aa).f3)) || (!(((rd_T27 l0 aa).f4) == ((rd_T27 l1 aa).f4)))))))=false:=by simpa using c7
   clear c7
   have H':=aM H
   clear H
   obtain⟨aC,ae,af,ag,ah,ai,aj,aJ,aK⟩:=jT27 aV aa
   cases ae
   obtain⟨aD,au,av,ax,ay,az,aA,aN,aQ⟩:=jT27 HR1 aa
   cases au
   go_wp2
   repeat (go_quiet (fail);try go_wp2)
   go_roundg k1
   case measure=>have:=aW.out;omega
   exact⟨(wrap64 (aa+1)),qZ,H',⟨by have:=aW.out;omega⟩,by repeat (first|exact Drawn0.refl _|apply Drawn0.step)⟩
  obtain rfl:=oJ H
  go_wp2
  repeat (go_quiet (fail);try go_wp2)
  go_ret
  exact⟨qZ,qU⟩
 rw [if_neg c3] at H
 have aG:((l0.length:Int) == (l1.length:Int))=false:=beq_eq_false_iff_ne.mpr c3
 have aH:((l0.length:Int) != (l1.length:Int))=true:=bne_iff_ne.mpr c3
 have aI:(l0.length == l1.length)=false:=by first|simpa using c3|(simp at c3 ⊢;omega)
 obtain rfl:=oJ H
 go_enter func17,ntmps17
 go_wp2
 repeat (go_quiet (fail);try go_wp2)
 go_ret
 exact⟨qZ,qU⟩
attribute [local go_sem high] eqA27
mutual
def SbF.j0:Nat->List S27->List S27->Bool->List S27->Bool->Bool->Option (Bool)
 | 0,_,_,_,_,_,_=>none
 | k+1,x3,x4,x5,x6,x7,eY=>if eY=true then (if (x5 == x7)=true then ((SbG.f k x4 x6).bind fun aY=>(some aY)) else (some false)) else (SbF.l0 k x3 x4 0 0)
def SbF.l0:Nat->List S27->List S27->Int->Int->Option (Bool)
 | 0,_,_,_,_=>none
 | k+1,x3,x4,x8,x9=>if x9 < (x3.length:Int) then (if 0<=x9 then (if x9 < (x4.length:Int) then (if (((rd_T27 x4 x9).f0) == ((rd_T27 x3 x9).f0) && (((rd_T27 x4 x9).f1) == ((rd_T27 x3 x9).f1) && (((rd_T27 x4 x9).f2) == ((rd_T27 x3 x9).f2) && (((rd_T27 x4 x9).f3) == ((rd_T27 x3 x9).f3) && (((rd_T27 x4 x9).f4) == ((rd_T27 x3 x9).f4))))))=true then (SbF.l0 k x3 x4 x8 (wrap64 (x9+1))) else (if (!(((rd_T27 x4 x9).f0) == 4) || (!(((rd_T27 x4 x9).f1) == 0) || (!(((rd_T27 x4 x9).f2) == 0) || (!(((rd_T27 x4 x9).f3) == 0) || (!(((rd_T27 x4 x9).f4) == (wrap64 (x9+1))))))))=true then (some false) else (SbF.l0 k x3 x4 (wrap64 (x8+1)) (wrap64 (x9+1))))) else (none)) else (none)) else ((Sa0.f k x4).bind fun bX=>(if bX=true then (if (x4.length:Int)=(x3.length:Int) then ((Sa2.f k x3).bind fun aZ=>(some (x8 == aZ))) else (some false)) else (some false)))
end
def SbF.f (k:Nat) (l0:List Int):Option (Bool):=if (l0.length:Int) > 1048576 then (some true) else ((Sak.f k l0).bind fun af=>((Sa1.f k af).bind fun aG=>((Saj.f k af).bind fun aH=>(if (aG.2 != aH.2)=true then (SbF.j0 k af aG.1 aG.2 aH.1 aH.2 true) else ((SbG.f k aG.1 aH.1).bind fun bY=>(if bY=true then (SbF.j0 k af aG.1 aG.2 aH.1 aH.2 (!aG.2)) else (SbF.j0 k af aG.1 aG.2 aH.1 aH.2 true)))))))
theorem SbF.calls (k:Nat) (A0:Option Addr) (c0:Nat) (l0:List Int) (r:Bool) (w:World) (hr0:Kd.C (Kd.int .u8) w A0 l0.length l0) (hc0:l0.length<=c0) (h:SbF.f k l0=some r) :
  Calls prog 4 #[.slice A0 l0.length c0] w fun e w'=>e = .returned (.bool r)/\Below w.heap.size w w':=by
 have fe:=underlying27
 have dL:=aM hr0
 have dM:=aM hc0
 clear hr0 hc0
 have HB:=aM (Below.refl w.heap.size w)
 have H:=h;unfold SbF.f at H
 clear h
 by_cases c2:(l0.length:Int) > 1048576
 ·rw [if_pos c2] at H
  have cz:=decide_eq_true c2
  have cB:decide (1048576 < l0.length)=true:=decide_eq_true (by omega)
  clear c2
  obtain rfl:=oJ H
  go_enter func4,ntmps4
  go_wp2
  repeat (go_quiet (fail);try go_wp2)
  go_ret
  exact⟨qW,qB⟩
 rw [if_neg c2] at H
 have cz:=decide_eq_false c2
 have cB:decide (1048576 < l0.length)=false:=decide_eq_false (by omega)
 clear c2
 obtain⟨af,A3,H⟩:=qE H
 try dsimp only at H
 obtain⟨⟨aa,ay⟩,A4,H⟩:=qE H
 try dsimp only at H
 obtain⟨⟨aD,az⟩,A5,H⟩:=qE H
 try dsimp only at H
 have dN:=aM H
 clear H
 go_enter func4,ntmps4
 go_upto_region 6 with (first|(go_at_call 14;(with_reducible refine (Sak.calls k _ _ l0 af _ ?ag ?ah A3.out).mono ?_);(case ag=>exact kC dL.out);(case ah=>exact dM.out);rintro e w7 ⟨bZ,rfl,ho0,hb⟩;have ai:=kL ho0;replace HB:=kH hb;clear hb;(try clear ho0);obtain⟨cK,cO,dh⟩:=Kd.R_slice ai.out;subst dh)|(go_at_call 15;(with_reducible refine (Sa1.calls k _ _ af aa ay _ ?ag ?ah A4.out).mono ?_);(case ag=>exact kC (Kd.R_reads' ai.out).2.2);(case ah=>exact (Kd.R_reads' ai.out).2.1);rintro e w9 ⟨aQ,rfl,ho0,hb⟩;have au:=aM (Kd.R_lower (Kd.R_new' ho0 (Kd.R_lt (qR ai))) (below_size qB));replace ai:=kO ai ho0 hb;replace HB:=kH hb;clear hb;(try clear ho0))|(go_at_call 16;(with_reducible refine (Saj.calls k _ _ af aD az _ ?ag ?ah A5.out).mono ?_);(case ag=>exact kC (Kd.R_reads' ai.out).2.2);(case ah=>exact (Kd.R_reads' ai.out).2.1);rintro e eB ⟨bg,rfl,ho0,hb⟩;have ax:=aM (Kd.R_lower (Kd.R_new' (Kd.R_new' ho0 (Kd.R_lt (qR ai))) (Kd.R_lt (qR au))) (below_size qB));replace ai:=kO ai ho0 hb;replace au:=kO au ho0 hb;replace HB:=kH hb;clear hb;(try clear ho0)))
 repeat (go_quiet (first|(go_at_call 14;(with_reducible refine (Sak.calls k _ _ l0 af _ ?ag ?ah A3.out).mono ?_);(case ag=>exact kC dL.out);(case ah=>exact dM.out);rintro e w7 ⟨bZ,rfl,ho0,hb⟩;have aV:=aM (Kd.R_lower ho0 (below_size qB));have aW:=aM (below_step qB hb);clear HB;have ai:=aV;have HB:=aW;clear aV aW;(try clear hb);(try clear hb2);(try clear hk);(try clear hi);(try clear ho0);obtain⟨cK,cO,dh⟩:=Kd.R_slice ai.out;subst dh)|(go_at_call 15;(with_reducible refine (Sa1.calls k _ _ af aa ay _ ?ag ?ah A4.out).mono ?_);(case ag=>exact kC (Kd.R_reads' ai.out).2.2);(case ah=>exact (Kd.R_reads' ai.out).2.1);rintro e w9 ⟨aQ,rfl,ho0,hb⟩;have aV:=aM (Kd.R_elder' (qR ai) (Kd.R_base ho0) hb);have aW:=aM (Kd.R_lower (Kd.R_new' ho0 (Kd.R_lt (qR ai))) (below_size qB));have bi:=aM (below_step qB hb);clear ai;clear HB;have ai:=aV;have au:=aW;have HB:=bi;clear aV aW bi;(try clear hb);(try clear hb2);(try clear hk);(try clear hi);(try clear ho0))|(go_at_call 16;(with_reducible refine (Saj.calls k _ _ af aD az _ ?ag ?ah A5.out).mono ?_);(case ag=>exact kC (Kd.R_reads' ai.out).2.2);(case ah=>exact (Kd.R_reads' ai.out).2.1);rintro e eB ⟨bg,rfl,ho0,hb⟩;have aV:=aM (Kd.R_elder' (qR ai) (Kd.R_base ho0) hb);have aW:=aM (Kd.R_elder' (qR au) (Kd.R_base ho0) hb);have bi:=aM (Kd.R_lower (Kd.R_new' (Kd.R_new' ho0 (Kd.R_lt (qR ai))) (Kd.R_lt (qR au))) (below_size qB));have eD:=aM (below_step qB hb);clear ai;clear au;clear HB;have ai:=aV;have au:=aW;have ax:=bi;have HB:=eD;clear aV aW bi eD;(try clear hb);(try clear hb2);(try clear hk);(try clear hi);(try clear ho0)));go_upto_region 6 with (first|(go_at_call 14;(with_reducible refine (Sak.calls k _ _ l0 af _ ?ag ?ah A3.out).mono ?_);(case ag=>exact kC dL.out);(case ah=>exact dM.out);rintro e w7 ⟨bZ,rfl,ho0,hb⟩;have ai:=kL ho0;replace HB:=kH hb;clear hb;(try clear ho0);obtain⟨cK,cO,dh⟩:=Kd.R_slice ai.out;subst dh)|(go_at_call 15;(with_reducible refine (Sa1.calls k _ _ af aa ay _ ?ag ?ah A4.out).mono ?_);(case ag=>exact kC (Kd.R_reads' ai.out).2.2);(case ah=>exact (Kd.R_reads' ai.out).2.1);rintro e w9 ⟨aQ,rfl,ho0,hb⟩;have au:=aM (Kd.R_lower (Kd.R_new' ho0 (Kd.R_lt (qR ai))) (below_size qB));replace ai:=kO ai ho0 hb;replace HB:=kH hb;clear hb;(try clear ho0))|(go_at_call 16;(with_reducible refine (Saj.calls k _ _ af aD az _ ?ag ?ah A5.out).mono ?_);(case ag=>exact kC (Kd.R_reads' ai.out).2.2);(case ah=>exact (Kd.R_reads' ai.out).2.1);rintro e eB ⟨bg,rfl,ho0,hb⟩;have ax:=aM (Kd.R_lower (Kd.R_new' (Kd.R_new' ho0 (Kd.R_lt (qR ai))) (Kd.R_lt (qR au))) (below_size qB));replace ai:=kO ai ho0 hb;replace au:=kO au ho0 hb;replace HB:=kH hb;clear hb;(try clear ho0))))
 (try simp only [Act.put,List.setIfInBounds_toArray,List.set_cons_zero,List.set_cons_succ])
 go_cut [37] (fun v37 wc=>∃ (kq:Nat) (bK:Bool),v37 = .bool bK/\Aside0 (SbF.j0 kq af aa ay aD az bK=some r)/\Aside0 (kq<=k)/\Aside0 (Kd.R k27 27 wc w.heap.size (fun k_=>some k_≠(aQ:Value).ownBlock/\some k_≠(bg:Value).ownBlock) (.slice cK af.length cO) af)/\Aside0 (Kd.R k27 27 wc w.heap.size (fun k_=>some k_≠((.slice cK af.length cO):Value).ownBlock/\some k_≠(bg:Value).ownBlock) aQ aa)/\Aside0 (Kd.R k27 27 wc w.heap.size (fun k_=>some k_≠((.slice cK af.length cO):Value).ownBlock/\some k_≠(aQ:Value).ownBlock) bg aD)/\Aside0 (Below w.heap.size w wc))
 case first =>
  have H:=dN.out
  clear dN
  by_cases c11:(ay != az)=true
  ·rw [if_pos c11] at H
   have bn:(ay != az)=true:=c11
   (try (have di:decide (ay=az)=false:=by simpa using c11))
   (try (have dn:(ay == az)=false:=by simpa using c11))
   (try (have eF:¬ (ay=az):=by simpa using c11))
   clear c11
   (first|rw [bn]|(simp only [i64_w,i32_w];rw [bn])|skip)
   have H':=aM H
   clear H
   go_wp2
   repeat (go_quiet (fail);try go_wp2)
   go_meet
   exact⟨_,(true),qZ,H',⟨by first|omega|exact Nat.le_refl _⟩,⟨by (with_reducible repeat (first|apply Kd.R_alloc|apply Kd.R_drewN|apply Kd.R_drew));exact Kd.R_mono ai.out (fun _ hk=>⟨hk.1.2,hk.2⟩)⟩,⟨by (with_reducible repeat (first|apply Kd.R_alloc|apply Kd.R_drewN|apply Kd.R_drew));exact Kd.R_mono au.out (fun _ hk=>⟨hk.1.2,hk.2⟩)⟩,⟨by (with_reducible repeat (first|apply Kd.R_alloc|apply Kd.R_drewN|apply Kd.R_drew));exact Kd.R_mono ax.out (fun _ hk=>⟨hk.1.2,hk.2⟩)⟩,⟨qB⟩⟩
  rw [if_neg c11] at H
  have bn:(ay != az)=false:=by simpa using c11
  (try (have di:decide (ay=az)=true:=by simpa using c11))
  (try (have dn:(ay == az)=true:=by simpa using c11))
  clear c11
  (first|rw [bn]|(simp only [i64_w,i32_w];rw [bn])|skip)
  obtain⟨bY,df,H⟩:=qE H
  try dsimp only at H
  replace H:=jB H;rcases H with ⟨rfl,H⟩ | ⟨rfl,H⟩
  ·have H':=aM H
   clear H
   obtain⟨fo,fq,dO⟩:=Kd.R_slice au.out
   subst dO
   obtain⟨fu,fw,dP⟩:=Kd.R_slice ax.out
   subst dP
   go_wp2_with (first|(go_at_call 17;(with_reducible refine (SbG.calls k _ _ aa _ _ aD true _ ?ag ?ah ?aA ?aC df.out).mono ?_);(case ag=>exact kC (Kd.R_reads' au.out).2.2);(case ah=>exact (Kd.R_reads' au.out).2.1);(case aA=>exact kC (Kd.R_reads' ax.out).2.2);(case aC=>exact (Kd.R_reads' ax.out).2.1);rintro e w' ⟨rfl,⟨nd,rfl⟩⟩;(try first|exact⟨rfl,_,World.drewN_drewN _ _ _⟩|exact⟨rfl,_,Eq.trans (World.drewN_drewN _ _ _) (congrArg (World.drewN _) (Nat.add_assoc _ _ _))⟩)))
   repeat (go_quiet (first|(go_at_call 17;(with_reducible refine (SbG.calls k _ _ aa _ _ aD true _ ?ag ?ah ?aA ?aC df.out).mono ?_);(case ag=>exact kC (Kd.R_reads' au.out).2.2);(case ah=>exact (Kd.R_reads' au.out).2.1);(case aA=>exact kC (Kd.R_reads' ax.out).2.2);(case aC=>exact (Kd.R_reads' ax.out).2.1);rintro e w' ⟨rfl,⟨nd,rfl⟩⟩;(try first|exact⟨rfl,_,World.drewN_drewN _ _ _⟩|exact⟨rfl,_,Eq.trans (World.drewN_drewN _ _ _) (congrArg (World.drewN _) (Nat.add_assoc _ _ _))⟩)));try go_wp2_with (first|(go_at_call 17;(with_reducible refine (SbG.calls k _ _ aa _ _ aD true _ ?ag ?ah ?aA ?aC df.out).mono ?_);(case ag=>exact kC (Kd.R_reads' au.out).2.2);(case ah=>exact (Kd.R_reads' au.out).2.1);(case aA=>exact kC (Kd.R_reads' ax.out).2.2);(case aC=>exact (Kd.R_reads' ax.out).2.1);rintro e w' ⟨rfl,⟨nd,rfl⟩⟩;(try first|exact⟨rfl,_,World.drewN_drewN _ _ _⟩|exact⟨rfl,_,Eq.trans (World.drewN_drewN _ _ _) (congrArg (World.drewN _) (Nat.add_assoc _ _ _))⟩))))
   go_meet
   exact⟨_,(!ay),qZ,H',⟨by first|omega|exact Nat.le_refl _⟩,⟨by (with_reducible repeat (first|apply Kd.R_alloc|apply Kd.R_drewN|apply Kd.R_drew));exact Kd.R_mono ai.out (fun _ hk=>⟨hk.1.2,hk.2⟩)⟩,⟨by (with_reducible repeat (first|apply Kd.R_alloc|apply Kd.R_drewN|apply Kd.R_drew));exact Kd.R_mono au.out (fun _ hk=>⟨hk.1.2,hk.2⟩)⟩,⟨by (with_reducible repeat (first|apply Kd.R_alloc|apply Kd.R_drewN|apply Kd.R_drew));exact Kd.R_mono ax.out (fun _ hk=>⟨hk.1.2,hk.2⟩)⟩,⟨qB⟩⟩
  have H':=aM H
  clear H
  obtain⟨fA,fB,dQ⟩:=Kd.R_slice au.out
  subst dQ
  obtain⟨fC,fD,dR⟩:=Kd.R_slice ax.out
  subst dR
  go_wp2_with (first|(go_at_call 17;(with_reducible refine (SbG.calls k _ _ aa _ _ aD false _ ?ag ?ah ?aA ?aC df.out).mono ?_);(case ag=>exact kC (Kd.R_reads' au.out).2.2);(case ah=>exact (Kd.R_reads' au.out).2.1);(case aA=>exact kC (Kd.R_reads' ax.out).2.2);(case aC=>exact (Kd.R_reads' ax.out).2.1);rintro e w' ⟨rfl,⟨nd,rfl⟩⟩;(try first|exact⟨rfl,_,World.drewN_drewN _ _ _⟩|exact⟨rfl,_,Eq.trans (World.drewN_drewN _ _ _) (congrArg (World.drewN _) (Nat.add_assoc _ _ _))⟩)))
  repeat (go_quiet (first|(go_at_call 17;(with_reducible refine (SbG.calls k _ _ aa _ _ aD false _ ?ag ?ah ?aA ?aC df.out).mono ?_);(case ag=>exact kC (Kd.R_reads' au.out).2.2);(case ah=>exact (Kd.R_reads' au.out).2.1);(case aA=>exact kC (Kd.R_reads' ax.out).2.2);(case aC=>exact (Kd.R_reads' ax.out).2.1);rintro e w' ⟨rfl,⟨nd,rfl⟩⟩;(try first|exact⟨rfl,_,World.drewN_drewN _ _ _⟩|exact⟨rfl,_,Eq.trans (World.drewN_drewN _ _ _) (congrArg (World.drewN _) (Nat.add_assoc _ _ _))⟩)));try go_wp2_with (first|(go_at_call 17;(with_reducible refine (SbG.calls k _ _ aa _ _ aD false _ ?ag ?ah ?aA ?aC df.out).mono ?_);(case ag=>exact kC (Kd.R_reads' au.out).2.2);(case ah=>exact (Kd.R_reads' au.out).2.1);(case aA=>exact kC (Kd.R_reads' ax.out).2.2);(case aC=>exact (Kd.R_reads' ax.out).2.1);rintro e w' ⟨rfl,⟨nd,rfl⟩⟩;(try first|exact⟨rfl,_,World.drewN_drewN _ _ _⟩|exact⟨rfl,_,Eq.trans (World.drewN_drewN _ _ _) (congrArg (World.drewN _) (Nat.add_assoc _ _ _))⟩))))
  go_meet
  exact⟨_,(true),qZ,H',⟨by first|omega|exact Nat.le_refl _⟩,⟨by (with_reducible repeat (first|apply Kd.R_alloc|apply Kd.R_drewN|apply Kd.R_drew));exact Kd.R_mono ai.out (fun _ hk=>⟨hk.1.2,hk.2⟩)⟩,⟨by (with_reducible repeat (first|apply Kd.R_alloc|apply Kd.R_drewN|apply Kd.R_drew));exact Kd.R_mono au.out (fun _ hk=>⟨hk.1.2,hk.2⟩)⟩,⟨by (with_reducible repeat (first|apply Kd.R_alloc|apply Kd.R_drewN|apply Kd.R_drew));exact Kd.R_mono ax.out (fun _ hk=>⟨hk.1.2,hk.2⟩)⟩,⟨qB⟩⟩
 clear dN
 try clear c2;try clear cz;try clear cB
 obtain⟨kq,bK,rfl,HA,dJ,av,aj,bI,HB⟩:=hcut
 cases kq with
 | zero=>exact absurd HA.out (by simp [SbF.j0])
 | succ dw =>
  have H:=HA.out
  clear HA
  simp only [SbF.j0] at H
  replace H:=jB H;rcases H with ⟨rfl,H⟩ | ⟨rfl,H⟩
  ·by_cases c19:(ay == az)=true
   ·rw [if_pos c19] at H
    have dx:(ay == az)=true:=c19
    (try (have dz:decide (ay=az)=true:=by simpa using c19))
    (try (have dA:(ay == az)=true:=by simpa using c19))
    clear c19
    obtain⟨aY,dS,H⟩:=qE H
    try dsimp only at H
    obtain rfl:=oJ H
    obtain⟨fE,fF,dU⟩:=Kd.R_slice aj.out
    subst dU
    obtain⟨fG,fH,dV⟩:=Kd.R_slice bI.out
    subst dV
    go_wp2_with (first|(go_at_call 17;(with_reducible refine (SbG.calls dw _ _ aa _ _ aD aY _ ?ag ?ah ?aA ?aC dS.out).mono ?_);(case ag=>exact kC (Kd.R_reads' aj.out).2.2);(case ah=>exact (Kd.R_reads' aj.out).2.1);(case aA=>exact kC (Kd.R_reads' bI.out).2.2);(case aC=>exact (Kd.R_reads' bI.out).2.1);rintro e w' ⟨rfl,⟨nd,rfl⟩⟩;(try first|exact⟨rfl,_,World.drewN_drewN _ _ _⟩|exact⟨rfl,_,Eq.trans (World.drewN_drewN _ _ _) (congrArg (World.drewN _) (Nat.add_assoc _ _ _))⟩)))
    repeat (go_quiet (first|(go_at_call 17;(with_reducible refine (SbG.calls dw _ _ aa _ _ aD aY _ ?ag ?ah ?aA ?aC dS.out).mono ?_);(case ag=>exact kC (Kd.R_reads' aj.out).2.2);(case ah=>exact (Kd.R_reads' aj.out).2.1);(case aA=>exact kC (Kd.R_reads' bI.out).2.2);(case aC=>exact (Kd.R_reads' bI.out).2.1);rintro e w' ⟨rfl,⟨nd,rfl⟩⟩;(try first|exact⟨rfl,_,World.drewN_drewN _ _ _⟩|exact⟨rfl,_,Eq.trans (World.drewN_drewN _ _ _) (congrArg (World.drewN _) (Nat.add_assoc _ _ _))⟩)));try go_wp2_with (first|(go_at_call 17;(with_reducible refine (SbG.calls dw _ _ aa _ _ aD aY _ ?ag ?ah ?aA ?aC dS.out).mono ?_);(case ag=>exact kC (Kd.R_reads' aj.out).2.2);(case ah=>exact (Kd.R_reads' aj.out).2.1);(case aA=>exact kC (Kd.R_reads' bI.out).2.2);(case aC=>exact (Kd.R_reads' bI.out).2.1);rintro e w' ⟨rfl,⟨nd,rfl⟩⟩;(try first|exact⟨rfl,_,World.drewN_drewN _ _ _⟩|exact⟨rfl,_,Eq.trans (World.drewN_drewN _ _ _) (congrArg (World.drewN _) (Nat.add_assoc _ _ _))⟩))))
    go_ret
    exact⟨qW,qB⟩
   rw [if_neg c19] at H
   have dx:(ay == az)=false:=by simpa using c19
   (try (have dz:decide (ay=az)=false:=by simpa using c19))
   (try (have dA:(ay == az)=false:=by simpa using c19))
   (try (have eG:¬ (ay=az):=by simpa using c19))
   clear c19
   obtain rfl:=oJ H
   go_wp2
   repeat (go_quiet (fail);try go_wp2)
   go_ret
   exact⟨qW,qB⟩
  have H':=aM H
  clear H
  go_wp2
  repeat (go_quiet (fail);try go_wp2)
  go_loopg [8,9] dw (fun kq v8 v9 w'=>∃ (bL:Int) (ae:Int),v8 = iV bL/\v9 = iV ae/\Aside0 (SbF.l0 kq af aa bL ae=some r)/\Aside0 (kq<=dw)/\Aside0 (Kd.R k27 27 w' w.heap.size (fun k_=>some k_≠(aQ:Value).ownBlock) (.slice cK af.length cO) af)/\Aside0 (Kd.R k27 27 w' w.heap.size (fun k_=>some k_≠((.slice cK af.length cO):Value).ownBlock) aQ aa)/\Aside0 (Below w.heap.size w w'))
  case atStart=>exact⟨(0),(0),qZ,qZ,H',⟨Nat.le_refl _⟩,⟨by (with_reducible repeat (first|apply Kd.R_alloc|apply Kd.R_drewN|apply Kd.R_drew));exact Kd.R_mono av.out (fun _ hk=>hk.1)⟩,⟨by (with_reducible repeat (first|apply Kd.R_alloc|apply Kd.R_drewN|apply Kd.R_drew));exact Kd.R_mono aj.out (fun _ hk=>hk.1)⟩,⟨qB⟩⟩
  clear H'
  try clear c2;try clear cz;try clear cB
  obtain⟨bL,ae,rfl,rfl,HA,dK,av,aj,HB⟩:=hrel
  rcases gk with _|k2
  ·exact absurd HA.out (by simp [SbF.l0])
  have H:=HA.out
  clear HA
  simp only [SbF.l0] at H
  replace H:=jD H;rcases H with ⟨dB,H⟩ | ⟨dB,H⟩
  ·replace H:=jI H;obtain⟨eH,H⟩:=H
   replace H:=jI H;obtain⟨eO,H⟩:=H
   by_cases bM:(((rd_T27 aa ae).f0) == ((rd_T27 af ae).f0) && (((rd_T27 aa ae).f1) == ((rd_T27 af ae).f1) && (((rd_T27 aa ae).f2) == ((rd_T27 af ae).f2) && (((rd_T27 aa ae).f3) == ((rd_T27 af ae).f3) && (((rd_T27 aa ae).f4) == ((rd_T27 af ae).f4))))))=true
   ·rw [if_pos bM] at H
    have dC:(((rd_T27 aa ae).f0) == ((rd_T27 af ae).f0) && (((rd_T27 aa ae).f1) == ((rd_T27 af ae).f1) && (((rd_T27 aa ae).f2) == ((rd_T27 af ae).f2) && (((rd_T27 aa ae).f3) == ((rd_T27 af ae).f3) && (((rd_T27 aa ae).f4) == ((rd_T27 af ae).f4))))))=true:=bM
    (try (have dD:decide (((rd_T27 aa ae).f0)=((rd_T27 af ae).f0) && (((rd_T27 aa ae).f1) == ((rd_T27 af ae).f1) && (((rd_T27 aa ae).f2) == ((rd_T27 af ae).f2) && (((rd_T27 aa ae).f3) == ((rd_T27 af ae).f3) && (((rd_T27 aa ae).f4) == ((rd_T27 af ae).f4))))))=true:=by simpa using bM))
    (try (have dE:(((rd_T27 aa ae).f0) == ((rd_T27 af ae).f0) && (((rd_T27 aa ae).f1) == ((rd_T27 af ae).f1) && (((rd_T27 aa ae).f2) == ((rd_T27 af ae).f2) && (((rd_T27 aa ae).f3) == ((rd_T27 af ae).f3) && (((rd_T27 aa ae).f4) == ((rd_T27 af ae).f4))))))=true:=by simpa using bM))
    clear bM
    have H':=aM H
    clear H
    obtain⟨fI,fJ,dW⟩:=Kd.R_slice aj.out
    subst dW
    have aI:0<=(ae:Int):=qD
    have aJ:ae < (aa.length:Int):=qD
    obtain⟨aX,bq,bu,bv,bz,bA,bB⟩:=at_T27 (Kd.R_reads' aj.out).2.2 ae aI aJ
    cases bq
    replace aI:=eq_true aI
    replace aJ:=eq_true aJ
    have aK:0<=(ae:Int):=qD
    have aN:ae < (af.length:Int):=qD
    obtain⟨bN,bC,bD,bE,bF,bG,bH⟩:=at_T27 (Kd.R_reads' av.out).2.2 ae aK aN
    cases bC
    replace aK:=eq_true aK
    replace aN:=eq_true aN
    go_wp2
    repeat (go_quiet (fail);try go_wp2)
    go_roundg k2
    case measure=>have:=dJ.out;have:=dK.out;omega
    exact⟨(bL),(wrap64 (ae+1)),qZ,qZ,H',⟨by have:=dJ.out;have:=dK.out;omega⟩,⟨qR av⟩,⟨qR aj⟩,⟨qB⟩⟩
   rw [if_neg bM] at H
   have dC:(((rd_T27 aa ae).f0) == ((rd_T27 af ae).f0) && (((rd_T27 aa ae).f1) == ((rd_T27 af ae).f1) && (((rd_T27 aa ae).f2) == ((rd_T27 af ae).f2) && (((rd_T27 aa ae).f3) == ((rd_T27 af ae).f3) && (((rd_T27 aa ae).f4) == ((rd_T27 af ae).f4))))))=false:=by simpa using bM
   (try (have dD:decide (((rd_T27 aa ae).f0)=((rd_T27 af ae).f0) && (((rd_T27 aa ae).f1) == ((rd_T27 af ae).f1) && (((rd_T27 aa ae).f2) == ((rd_T27 af ae).f2) && (((rd_T27 aa ae).f3) == ((rd_T27 af ae).f3) && (((rd_T27 aa ae).f4) == ((rd_T27 af ae).f4))))))=false:=by simpa using bM))
   (try (have dE:(((rd_T27 aa ae).f0) == ((rd_T27 af ae).f0) && (((rd_T27 aa ae).f1) == ((rd_T27 af ae).f1) && (((rd_T27 aa ae).f2) == ((rd_T27 af ae).f2) && (((rd_T27 aa ae).f3) == ((rd_T27 af ae).f3) && (((rd_T27 aa ae).f4) == ((rd_T27 af ae).f4))))))=false:=by simpa using bM))
   (try (have eP:¬ (((rd_T27 aa ae).f0)=((rd_T27 af ae).f0) && (((rd_T27 aa ae).f1) == ((rd_T27 af ae).f1) && (((rd_T27 aa ae).f2) == ((rd_T27 af ae).f2) && (((rd_T27 aa ae).f3) == ((rd_T27 af ae).f3) && (((rd_T27 aa ae).f4) == ((rd_T27 af ae).f4)))))):=by simpa using bM))
   clear bM
   by_cases c28:(!(((rd_T27 aa ae).f0) == 4) || (!(((rd_T27 aa ae).f1) == 0) || (!(((rd_T27 aa ae).f2) == 0) || (!(((rd_T27 aa ae).f3) == 0) || (!(((rd_T27 aa ae).f4) == (wrap64 (ae+1))))))))=true
   ·rw [if_pos c28] at H
    have dF:(!(((rd_T27 aa ae).f0) == 4) || (!(((rd_T27 aa ae).f1) == 0) || (!(((rd_T27 aa ae).f2) == 0) || (!(((rd_T27 aa ae).f3) == 0) || (!(((rd_T27 aa ae).f4) == (wrap64 (ae+1))))))))=true:=c28
    clear c28
    obtain rfl:=oJ H
    obtain⟨fK,fM,dX⟩:=Kd.R_slice aj.out
    subst dX
    have aI:0<=(ae:Int):=qD
    have aJ:ae < (aa.length:Int):=qD
    obtain⟨aX,bq,bu,bv,bz,bA,bB⟩:=at_T27 (Kd.R_reads' aj.out).2.2 ae aI aJ
    cases bq
    replace aI:=eq_true aI
    replace aJ:=eq_true aJ
    have aK:0<=(ae:Int):=qD
    have aN:ae < (af.length:Int):=qD
    obtain⟨bN,bC,bD,bE,bF,bG,bH⟩:=at_T27 (Kd.R_reads' av.out).2.2 ae aK aN
    cases bC
    replace aK:=eq_true aK
    replace aN:=eq_true aN
    have aT:0<=(ae:Int):=qD
    have aU:ae < (aa.length:Int):=qD
    obtain⟨bJ,bO,bP,bQ,bR,bS,bT⟩:=at_T27 (Kd.R_reads' aj.out).2.2 ae aT aU
    obtain rfl:aX=bJ:=(by injection bO)
    replace aT:=eq_true aT
    replace aU:=eq_true aU
    go_wp2
    repeat (go_quiet (fail);try go_wp2)
    go_ret
    exact⟨qW,qB⟩
   rw [if_neg c28] at H
   have dF:(!(((rd_T27 aa ae).f0) == 4) || (!(((rd_T27 aa ae).f1) == 0) || (!(((rd_T27 aa ae).f2) == 0) || (!(((rd_T27 aa ae).f3) == 0) || (!(((rd_T27 aa ae).f4) == (wrap64 (ae+1))))))))=false:=by simpa using c28
   clear c28
   have H':=aM H
   clear H
   obtain⟨fO,fP,dY⟩:=Kd.R_slice aj.out
   subst dY
   have aI:0<=(ae:Int):=qD
   have aJ:ae < (aa.length:Int):=qD
   obtain⟨aX,bq,bu,bv,bz,bA,bB⟩:=at_T27 (Kd.R_reads' aj.out).2.2 ae aI aJ
   cases bq
   replace aI:=eq_true aI
   replace aJ:=eq_true aJ
   have aK:0<=(ae:Int):=qD
   have aN:ae < (af.length:Int):=qD
   obtain⟨bN,bC,bD,bE,bF,bG,bH⟩:=at_T27 (Kd.R_reads' av.out).2.2 ae aK aN
   cases bC
   replace aK:=eq_true aK
   replace aN:=eq_true aN
   have aT:0<=(ae:Int):=qD
   have aU:ae < (aa.length:Int):=qD
   obtain⟨bJ,bO,bP,bQ,bR,bS,bT⟩:=at_T27 (Kd.R_reads' aj.out).2.2 ae aT aU
   obtain rfl:aX=bJ:=(by injection bO)
   replace aT:=eq_true aT
   replace aU:=eq_true aU
   go_wp2
   repeat (go_quiet (fail);try go_wp2)
   go_roundg k2
   case measure=>have:=dJ.out;have:=dK.out;omega
   exact⟨(wrap64 (bL+1)),(wrap64 (ae+1)),qZ,qZ,H',⟨by have:=dJ.out;have:=dK.out;omega⟩,⟨qR av⟩,⟨qR aj⟩,⟨qB⟩⟩
  obtain⟨bX,bV,H⟩:=qE H
  try dsimp only at H
  replace H:=jB H;rcases H with ⟨rfl,H⟩ | ⟨rfl,H⟩
  ·by_cases bU:(aa.length:Int)=(af.length:Int)
   ·rw [if_pos bU] at H
    have dG:((aa.length:Int) == (af.length:Int))=true:=beq_iff_eq.mpr bU
    have dH:((aa.length:Int) != (af.length:Int))=false:=bne_eq_false_iff_eq.mpr bU
    have dI:(aa.length == af.length)=true:=by first|simpa using bU|(simp at bU ⊢;omega)
    clear bU
    obtain⟨aZ,dZ,H⟩:=qE H
    try dsimp only at H
    obtain rfl:=oJ H
    obtain⟨fQ,fT,d9⟩:=Kd.R_slice aj.out
    subst d9
    go_wp2_with (first|(go_at_call 18;(with_reducible refine (Sa0.calls k2 _ _ aa true _ ?ag ?ah bV.out).mono ?_);(case ag=>exact kC (Kd.R_reads' aj.out).2.2);(case ah=>exact (Kd.R_reads' aj.out).2.1);rintro e eQ ⟨rfl,hb⟩;replace av:=kR av hb;replace aj:=kR aj hb;replace HB:=kH hb;clear hb)|(go_at_call 12;(with_reducible refine (Sa2.calls k2 _ _ af aZ _ ?ag ?ah dZ.out).mono ?_);(case ag=>exact kC (Kd.R_reads' av.out).2.2);(case ah=>exact (Kd.R_reads' av.out).2.1);rintro e eT ⟨rfl,hb⟩;replace av:=kR av hb;replace aj:=kR aj hb;replace HB:=kH hb;clear hb))
    repeat (go_quiet (first|(go_at_call 18;(with_reducible refine (Sa0.calls k2 _ _ aa true _ ?ag ?ah bV.out).mono ?_);(case ag=>exact kC (Kd.R_reads' aj.out).2.2);(case ah=>exact (Kd.R_reads' aj.out).2.1);rintro e eQ ⟨rfl,hb⟩;have aV:=aM (Kd.R_below (qR av) hb);have aW:=aM (Kd.R_below (qR aj) hb);have bi:=aM (below_step qB hb);clear av;clear aj;clear HB;have av:=aV;have aj:=aW;have HB:=bi;clear aV aW bi;(try clear hb);(try clear hb2);(try clear hk);(try clear hi))|(go_at_call 12;(with_reducible refine (Sa2.calls k2 _ _ af aZ _ ?ag ?ah dZ.out).mono ?_);(case ag=>exact kC (Kd.R_reads' av.out).2.2);(case ah=>exact (Kd.R_reads' av.out).2.1);rintro e eT ⟨rfl,hb⟩;have aV:=aM (Kd.R_below (qR av) hb);have aW:=aM (Kd.R_below (qR aj) hb);have bi:=aM (below_step qB hb);clear av;clear aj;clear HB;have av:=aV;have aj:=aW;have HB:=bi;clear aV aW bi;(try clear hb);(try clear hb2);(try clear hk);(try clear hi)));try go_wp2_with (first|(go_at_call 18;(with_reducible refine (Sa0.calls k2 _ _ aa true _ ?ag ?ah bV.out).mono ?_);(case ag=>exact kC (Kd.R_reads' aj.out).2.2);(case ah=>exact (Kd.R_reads' aj.out).2.1);rintro e eQ ⟨rfl,hb⟩;replace av:=kR av hb;replace aj:=kR aj hb;replace HB:=kH hb;clear hb)|(go_at_call 12;(with_reducible refine (Sa2.calls k2 _ _ af aZ _ ?ag ?ah dZ.out).mono ?_);(case ag=>exact kC (Kd.R_reads' av.out).2.2);(case ah=>exact (Kd.R_reads' av.out).2.1);rintro e eT ⟨rfl,hb⟩;replace av:=kR av hb;replace aj:=kR aj hb;replace HB:=kH hb;clear hb)))
    go_ret
    exact⟨qW,qB⟩
   rw [if_neg bU] at H
   have dG:((aa.length:Int) == (af.length:Int))=false:=beq_eq_false_iff_ne.mpr bU
   have dH:((aa.length:Int) != (af.length:Int))=true:=bne_iff_ne.mpr bU
   have dI:(aa.length == af.length)=false:=by first|simpa using bU|(simp at bU ⊢;omega)
   obtain rfl:=oJ H
   obtain⟨fU,fV,ek⟩:=Kd.R_slice aj.out
   subst ek
   go_wp2_with (first|(go_at_call 18;(with_reducible refine (Sa0.calls k2 _ _ aa true _ ?ag ?ah bV.out).mono ?_);(case ag=>exact kC (Kd.R_reads' aj.out).2.2);(case ah=>exact (Kd.R_reads' aj.out).2.1);rintro e eU ⟨rfl,hb⟩;replace av:=kR av hb;replace aj:=kR aj hb;replace HB:=kH hb;clear hb))
   repeat (go_quiet (first|(go_at_call 18;(with_reducible refine (Sa0.calls k2 _ _ aa true _ ?ag ?ah bV.out).mono ?_);(case ag=>exact kC (Kd.R_reads' aj.out).2.2);(case ah=>exact (Kd.R_reads' aj.out).2.1);rintro e eU ⟨rfl,hb⟩;have aV:=aM (Kd.R_below (qR av) hb);have aW:=aM (Kd.R_below (qR aj) hb);have bi:=aM (below_step qB hb);clear av;clear aj;clear HB;have av:=aV;have aj:=aW;have HB:=bi;clear aV aW bi;(try clear hb);(try clear hb2);(try clear hk);(try clear hi)));try go_wp2_with (first|(go_at_call 18;(with_reducible refine (Sa0.calls k2 _ _ aa true _ ?ag ?ah bV.out).mono ?_);(case ag=>exact kC (Kd.R_reads' aj.out).2.2);(case ah=>exact (Kd.R_reads' aj.out).2.1);rintro e eU ⟨rfl,hb⟩;replace av:=kR av hb;replace aj:=kR aj hb;replace HB:=kH hb;clear hb)))
   go_ret
   exact⟨qW,qB⟩
  obtain rfl:=oJ H
  obtain⟨fZ,gm,eu⟩:=Kd.R_slice aj.out
  subst eu
  go_wp2_with (first|(go_at_call 18;(with_reducible refine (Sa0.calls k2 _ _ aa false _ ?ag ?ah bV.out).mono ?_);(case ag=>exact kC (Kd.R_reads' aj.out).2.2);(case ah=>exact (Kd.R_reads' aj.out).2.1);rintro e eX ⟨rfl,hb⟩;replace av:=kR av hb;replace aj:=kR aj hb;replace HB:=kH hb;clear hb))
  repeat (go_quiet (first|(go_at_call 18;(with_reducible refine (Sa0.calls k2 _ _ aa false _ ?ag ?ah bV.out).mono ?_);(case ag=>exact kC (Kd.R_reads' aj.out).2.2);(case ah=>exact (Kd.R_reads' aj.out).2.1);rintro e eX ⟨rfl,hb⟩;have aV:=aM (Kd.R_below (qR av) hb);have aW:=aM (Kd.R_below (qR aj) hb);have bi:=aM (below_step qB hb);clear av;clear aj;clear HB;have av:=aV;have aj:=aW;have HB:=bi;clear aV aW bi;(try clear hb);(try clear hb2);(try clear hk);(try clear hi)));try go_wp2_with (first|(go_at_call 18;(with_reducible refine (Sa0.calls k2 _ _ aa false _ ?ag ?ah bV.out).mono ?_);(case ag=>exact kC (Kd.R_reads' aj.out).2.2);(case ah=>exact (Kd.R_reads' aj.out).2.1);rintro e eX ⟨rfl,hb⟩;replace av:=kR av hb;replace aj:=kR aj hb;replace HB:=kH hb;clear hb)))
  go_ret
  exact⟨qW,qB⟩
def SbF.Pure:Prop:=∀ (l0:List Int),l0.length<=maxLen->l0.length*1<=140737488351232->(∀ x∈l0,(Lit.int .u8 x).wf=true)->∃ k,SbF.f k l0=some true
theorem SbF.walk (P:SbF.Pure) (a0:Option Addr) (bW cap0:Nat) (z0:List Int) (w:World) (w0:(a0=none/\bW=0/\cap0=0/\z0=[])\/∃ x,a0=some x/\bW<=cap0/\cap0<=maxLen/\z0.length=cap0/\(∀ i,i < z0.length->w.cell? (x.add i)=some (.int .u8 (z0.getD i 0)))/\∀ n∈z0,(Lit.int .u8 n).wf=true) (y0:bW*1<=140737488351232) :
  Calls prog 4 #[.slice a0 bW cap0] w fun e w'=>e = .returned (.bool true)/\Below w.heap.size w w':=by
 obtain⟨l0,rfl,hr0,hm0,hw0,hc0⟩:=ReadsInt.ofRowC w0
 obtain⟨k,h⟩:=P l0 hm0 y0 hw0
 refine (SbF.calls k _ _ l0 true w (Kd.C_of_reads (d:=(0:Int)) (h1:=fun _=>rfl) hr0) hc0 h).mono ?_
 rintro e w' ⟨rfl,hd⟩
 exact⟨rfl,hd⟩
end Go.Proofs.YtebpplallecogaaGreat.M
namespace Go.Proofs.YtebpplallecogaaGreat.M
open Go.Proofs.Tryz Go.RowKit Go.Proofs.YtebpplallecogaaGreatW.PrintWords Go.Proofs.YtebpplallecogaaGreatW.PrintLast Go.Proofs.YtebpplallecogaaGreatW.PrintMore PM
theorem le_of_bits {a b:Nat} (h:∀ r,a.testBit r=true->b.testBit r=true):a<=b:=by
 have e:a ||| b=b:=by
  apply Nat.eq_of_testBit_eq
  intro r
  rw [Nat.testBit_or]
  cases h1:a.testBit r
  ·rfl
  rw [h r h1]
  rfl
 rw [<- e]
 exact Nat.left_le_or
theorem sum_set:∀ (L:List Nat) (i x:Nat),i < L.length->(L.set i x).sum+L.getD i 0=L.sum+x
 | a :: L,0,x,h=>by simp;omega
 | a :: L,i+1,x,h=>by
  have:=sum_set L i x (by simpa using h)
  simp only [List.set_cons_succ,List.sum_cons,List.getD_cons_succ]
  omega
theorem sum_le:∀ (L:List Nat),(∀ x∈L,x < 4096)->L.sum<=4096*L.length
 | [],h=>by simp
 | a :: L,h=>by
  have:=sum_le L (fun x hx=>h x (List.mem_cons_of_mem _ hx))
  have:=h a List.mem_cons_self
  simp only [List.sum_cons,List.length_cons]
  omega
theorem tab_sum {n:Nat} {L:List Nat} (h:Tab n L):L.sum<=4096*n:=by
 rw [<- h.1]
 refine sum_le L fun x hx=>?_
 obtain⟨i,hi,e⟩:=List.getElem_of_mem hx
 have:=h.2 i
 rw [List.getD_eq_getElem?_getD,List.getElem?_eq_getElem hi] at this
 rw [<- e]
 exact this
theorem bf_bit {c:List SQ} (h:CV (qs c)) {L:List Nat} (hL:Tab c.length L) {i:Nat} (hi:i < c.length) (r:Nat):(bf c L i).testBit r=true↔((∃ j∈nx (q_ (qa c i)) i,(L.getD j 0).testBit r=true)/\sets (q_ (qa c i))≠r)\/uses (q_ (qa c i)) r:=by
 unfold bf
 rw [bef_bit (cv_at h hi) (aft_lt hL _ _)]
 unfold aft
 rw [joinL_bit]
 simp
structure Good (c:List SQ) (L:List Nat):Prop where
 tab:Tab c.length L
 up:∀ i,i < c.length->∀ r,(L.getD i 0).testBit r=true->(bf c L i).testBit r=true
 sound:∀ i,i < c.length->∀ r,(L.getD i 0).testBit r=true->Live (qs c) i r
theorem Good.step {c:List SQ} (h:CV (qs c)) {L:List Nat} (g:Good c L) {i:Nat} (hi:i < c.length):Good c (L.set i (bf c L i)):=by
 have hT:=g.tab.set i (bf c L i) (bf_lt h g.tab hi)
 have hget:∀ j,(L.set i (bf c L i)).getD j 0=if j=i then bf c L i else L.getD j 0:=fun j=>getD_set L i j _ 0 (by rw [g.tab.1];exact hi)
 have hmono:∀ j r,j < c.length->(L.getD j 0).testBit r=true->((L.set i (bf c L i)).getD j 0).testBit r=true:=by
  intro j r hj hb
  rw [hget]
  split
  ·rename_i e
   subst e
   exact g.up j hi r hb
  exact hb
 have hbf:∀ j r,j < c.length->(bf c L j).testBit r=true->(bf c (L.set i (bf c L i)) j).testBit r=true:=by
  intro j r hj hb
  rw [bf_bit h g.tab hj] at hb
  rw [bf_bit h hT hj]
  rcases hb with ⟨⟨t,ht,hb⟩,hs⟩|hb
  ·exact .inl ⟨⟨t,ht,hmono t r (nx_in h hj t ht) hb⟩,hs⟩
  exact .inr hb
 refine⟨hT,fun j hj r hb=>?_,fun j hj r hb=>?_⟩
 ·rw [hget] at hb
  split at hb
  ·rename_i e
   subst e
   exact hbf j r hj hb
  exact hbf j r hj (g.up j hj r hb)
 rw [hget] at hb
 split at hb
 ·rename_i e
  subst e
  rw [bf_bit h g.tab hj] at hb
  rcases hb with ⟨⟨t,ht,hb⟩,hs⟩|hb
  ·exact Live.flow (by rw [qs_len];exact hj) (by rw [at_qs];exact hs) (by rw [at_qs];exact ht) (g.sound t (nx_in h hj t ht) r hb)
  exact Live.use (by rw [qs_len];exact hj) (by rw [at_qs];exact hb)
 exact g.sound j hj r hb
theorem rnd_good {c:List SQ} (h:CV (qs c)):∀ (i:Nat),i<=c.length->∀ (L:List Nat) (b:Bool),Good c L->Good c (rnd c i L b).1
 | 0,hi,L,b,g=>g
 | i+1,hi,L,b,g=>rnd_good h i (by omega) _ _ (g.step h (by omega))
theorem rnd_quiet {c:List SQ}:∀ (i:Nat),i<=c.length->∀ (L:List Nat) (b:Bool),L.length=c.length->(rnd c i L b).2=false->b=false/\(rnd c i L b).1=L/\∀ j,j < i->bf c L j=L.getD j 0
 | 0,hi,L,b,hl,e=>⟨e,rfl,fun j hj=>by omega⟩
 | i+1,hi,L,b,hl,e=>by
  obtain⟨e1,e2,e3⟩:=rnd_quiet i (by omega) (L.set i (bf c L i)) _ (by rw [List.length_set];exact hl) e
  have f:=Bool.or_eq_false_iff.1 e1
  have f2:bf c L i=L.getD i 0:=by simpa using f.2
  have f3:L.set i (bf c L i)=L:=by rw [f2];exact set_same (by omega)
  rw [f3] at e3
  refine⟨f.1,e2.trans f3,fun j hj=>?_⟩
  by_cases hji:j=i
  ·rw [hji]
   exact f2
  exact e3 j (by omega)
theorem rnd_sum {c:List SQ} (h:CV (qs c)):∀ (i:Nat),i<=c.length->∀ (L:List Nat) (b:Bool),Good c L->L.sum<=(rnd c i L b).1.sum/\((rnd c i L b).2=true->b=true\/L.sum < (rnd c i L b).1.sum)
 | 0,hi,L,b,g=>⟨Nat.le_refl _,fun e=>.inl e⟩
 | i+1,hi,L,b,g=>by
  obtain⟨h1,h2⟩:=rnd_sum h i (by omega) (L.set i (bf c L i)) (b || !decide (bf c L i=L.getD i 0)) (g.step h (i:=i) (by omega))
  have hs:=sum_set L i (bf c L i) (by rw [g.tab.1];omega)
  have hle:=le_of_bits (g.up i (by omega))
  simp only [rnd]
  refine⟨by omega,fun e=>?_⟩
  rcases h2 e with e2|e2
  ·rcases Bool.or_eq_true_iff.1 e2 with e3|e3
   ·exact .inl e3
   have:bf c L i≠L.getD i 0:=by simpa using e3
   exact .inr (by omega)
  exact .inr (by omega)
structure LT (c:List SQ) (L:List Nat):Prop where
 tab:Tab c.length L
 iff:∀ i,i < c.length->∀ r,(L.getD i 0).testBit r=true↔Live (qs c) i r
theorem live_loop {c:List SQ} (h:CV (qs c)):∀ (m:Nat) (L:List Nat),Good c L->4096*c.length < m+L.sum->∃ T,LT c T/\Ev (fun k=>Sap.l1 k c (rows L)) (rows T)/\Ev (fun k=>Sa6.l0 k c (ints L) true) (ints T)
 | 0,L,g,hm=>by
  have:=tab_sum g.tab
  omega
 | m+1,L,g,hm=>by
  have h6:=cv600 h
  have hw:wrap64 ((c.length:Int) - 1)=(c.length:Int) - 1:=wrap_id (by omega) (by omega)
  have hr:=SaW.out h c.length (Nat.le_refl _) L false g.tab
  have hi:∀ v,Ev (fun k=>Sa6.l0 k c (ints (rnd c c.length L false).1) (rnd c c.length L false).2) v->Ev (fun k=>Sa6.l1 k c (ints L) false ((c.length:Int) - 1)) v:=fun v=>Sa6.out h c.length (Nat.le_refl _) L false g.tab
  cases e:(rnd c c.length L false).2 with
  | false =>
   obtain⟨_,e2,e3⟩:=rnd_quiet c.length (Nat.le_refl _) L false g.tab.1 e
   refine⟨L,⟨g.tab,fun i hi r=>?_⟩,?_,?_⟩
   ·refine live_of_closed (c:=qs c) (T:=fun i r=>i < c.length->(L.getD i 0).testBit r=true) (fun i r hi' ht=>g.sound i (by rwa [qs_len] at hi') r (ht (by rwa [qs_len] at hi'))) ?_ ?_ i r (by rw [qs_len];exact hi) |>.symm.trans ⟨fun x=>x hi,fun x _=>x⟩ |>.symm
    ·intro i r _ hu hi
     rw [<- e3 i hi,bf_bit h g.tab hi]
     rw [at_qs] at hu
     exact .inr hu
    intro i j r _ hs hj ht hi
    rw [<- e3 i hi,bf_bit h g.tab hi]
    rw [at_qs] at hs hj
    exact .inl ⟨⟨j,hj,ht (nx_in h hi j hj)⟩,hs⟩
   ·refine Ev.succ ?_
    simp only [Sap.l1,SaW.f,hw]
    refine Ev.bind hr ?_
    refine Ev.neg (Ev.eq Ev.pure ?_) ?_
    ·rw [e2]
    simp [e]
   refine Ev.succ ?_
   simp only [Sa6.l0,hw]
   refine Ev.pos (hi _ ?_)
   rw [e,e2]
   refine Ev.succ ?_
   simp only [Sa6.l0]
   exact Ev.neg Ev.pure
  | true =>
   have hs:=(rnd_sum h c.length (Nat.le_refl _) L false g).2 e
   have hs':L.sum < (rnd c c.length L false).1.sum:=by
    rcases hs with x|x
    ·cases x
    exact x
   obtain⟨T,t1,t2,t3⟩:=live_loop h m (rnd c c.length L false).1 (rnd_good h c.length (Nat.le_refl _) L false g) (by omega)
   refine⟨T,t1,?_,?_⟩
   ·refine Ev.succ ?_
    simp only [Sap.l1,SaW.f,hw]
    refine Ev.bind hr (Ev.pos t2 ?_)
    exact e
   refine Ev.succ ?_
   simp only [Sa6.l0,hw]
   refine Ev.pos (hi _ ?_)
   rw [e]
   exact t3
theorem good_zero {c:List SQ}:Good c (List.replicate c.length 0):=by
 have z:∀ i,(List.replicate c.length 0).getD i 0=0:=by
  intro i
  rw [List.getD_eq_getElem?_getD,List.getElem?_replicate]
  split <;> rfl
 refine⟨⟨by simp,fun i=>by rw [z];decide⟩,fun i hi r hb=>?_,fun i hi r hb=>?_⟩ <;>
 ·rw [z] at hb
  simp at hb
theorem Sap.start {c:List SQ} (h6:c.length<=600) {v:List (List Bool)} (g:Ev (fun k=>Sap.l1 k c (rows (List.replicate c.length 0))) v):∀ (d p:Nat),p+d=c.length->Ev (fun k=>Sap.l0 k c (rows (List.replicate p 0)) (p:Int)) v
 | 0,p,hp=>by
  refine Ev.succ ?_
  simp only [Sap.l0]
  refine Ev.neg ?_
  rw [show p=c.length from by omega]
  exact g
 | d+1,p,hp=>by
  refine Ev.succ ?_
  simp only [Sap.l0,rows_len,List.length_replicate,wrap_up (show p < 9223372036854775807 by omega)]
  refine Ev.pos (Ev.pos (Ev.pos ?_))
  have:=Sap.start h6 g d (p+1) (by omega)
  rw [List.replicate_succ',show rows (List.replicate p 0 ++ [0])=rows (List.replicate p 0) ++ [List.replicate 12 false] from by simp [rows,row_zero]] at this
  exact this
theorem live_ev {c:List SQ} (h:CV (qs c)):∃ T,LT c T/\Ev (fun k=>Sap.f k c) (rows T)/\Ev (fun k=>Sa6.f k c) (ints T):=by
 have h6:=cv600 h
 obtain⟨T,t1,t2,t3⟩:=live_loop h (4096*c.length+1) (List.replicate c.length 0) good_zero (by omega)
 refine⟨T,t1,?_,?_⟩
 ·simp only [Sap.f]
  refine Ev.some (Ev.bind (Saf.ev c) (Ev.pos ?_ (decide_eq_true h)))
  exact Sap.start h6.2 t2 c.length 0 (by omega)
 simp only [Sa6.f,Int.toNat_natCast]
 refine Ev.pos (Ev.pos ?_)
 rw [show List.replicate c.length (0:Int)=ints (List.replicate c.length 0) from by simp [ints]]
 exact t3
theorem has_bit' {s r:Nat} (hs:s < 65536) (hr:r < 16):Sa9.f (s:Int) (r:Int)=some (s.testBit r):=by
 unfold Sa9.f
 rw [if_pos (by omega),has_bit hs hr]
def dd (c:List SQ) (L:List Nat) (i:Nat):Bool:=((qa c i).f0 == 1 || (qa c i).f0 == 2 || (qa c i).f0 == 3) && !(aft (q_ (qa c i)) i L).testBit (qa c i).f1.toNat
def deadQ (c:List SQ) (L:List Nat) (i:Nat):SQ:=if dd c L i=true then ⟨4,0,0,0,((i+1:Nat):Int)⟩ else qa c i
def deadC (L:List Nat) (c:List SQ):List SQ:=(List.range c.length).map (deadQ c L)
theorem deadC_len (L:List Nat) (c:List SQ):(deadC L c).length=c.length:=by simp [deadC]
theorem deadC_get (L:List Nat) {c:List SQ} {i:Nat} (h:i < c.length):qa (deadC L c) i=deadQ c L i:=by simp [deadC,qa,List.getD_eq_getElem?_getD,h]
theorem rdOf_row {s:Nat} {r:Int} (h0:0<=r) (h1:r < 12):rdOf false (row s) r=s.testBit r.toNat:=by
 have:=rdOf_nat false (row s) r.toNat
 rw [Int.toNat_of_nonneg h0] at this
 rw [this]
 exact row_get _ _ (by omega)
theorem Sbd.e {c:List SQ} (h:CV (qs c)) {i:Nat} (hi:i < c.length) (L:List Nat):Sbd.f (qa c i).f0 (qa c i).f1 (qa c i).f2 (qa c i).f3 (qa c i).f4 (row (aft (q_ (qa c i)) i L))=some (dd c L i):=by
 obtain⟨⟨d0,d1⟩,_⟩:=regs_of (cv_at h hi)
 simp only [q_] at d0 d1
 unfold Sbd.f dd
 rw [rdOf_row d0 d1,row_len]
 by_cases c1:(qa c i).f0=1
 ·rw [if_pos c1,if_pos d0,if_pos (show (qa c i).f1 < ((12:Nat):Int) by omega)]
  simp [c1]
 rw [if_neg c1]
 by_cases c2:(qa c i).f0=2
 ·rw [if_pos c2,if_pos d0,if_pos (show (qa c i).f1 < ((12:Nat):Int) by omega)]
  simp [c2]
 rw [if_neg c2]
 by_cases c3:(qa c i).f0=3
 ·rw [if_pos c3,if_pos d0,if_pos (show (qa c i).f1 < ((12:Nat):Int) by omega)]
  simp [c3]
 rw [if_neg c3]
 simp [c1,c2,c3]
theorem Saj.out {c:List SQ} (h:CV (qs c)) {L:List Nat} (hL:Tab c.length L):∀ (d p:Nat),p+d=c.length->Ev (fun k=>Saj.l0 k c ((deadC L c).take p) (rows L) (p:Int)) (deadC L c,true)
 | 0,p,hp=>by
  refine Ev.succ ?_
  simp only [Saj.l0]
  refine Ev.neg (Ev.eq Ev.pure ?_)
  rw [List.take_of_length_le (by rw [deadC_len];omega)]
 | d+1,p,hp=>by
  have h6:=cv600 h
  have hi:p < c.length:=by omega
  refine Ev.succ ?_
  have lt:((deadC L c).take p).length < 3518437208883:=by rw [List.length_take,deadC_len];omega
  have ih:=Saj.out h hL d (p+1) (by omega)
  have e:(deadC L c).take p ++ [deadQ c L p]=(deadC L c).take (p+1):=by
   rw [<- deadC_get L hi]
   exact take_next _ (by rw [deadC_len];exact hi)
  rw [<- e] at ih
  simp only [Saj.l0,rd_qa,wrap_up (show p < 9223372036854775807 by omega)]
  refine Ev.pos (Ev.pos (Ev.bind (SaU.ev h hL hi) ?_))
  rw [Sbd.e h hi]
  refine Ev.some ?_
  by_cases g:dd c L p=true
  ·rw [deadQ,if_pos g] at ih
   exact Ev.pos (Ev.pos ih lt)
  rw [deadQ,if_neg g] at ih
  exact Ev.neg (Ev.pos ih lt)
def deads (c:List SQ) (L:List Nat):List Nat:=(List.range c.length).filter (dd c L)
def upto (c:List SQ) (L:List Nat) (p:Nat):List Nat:=(List.range p).filter (dd c L)
theorem upto_next (c:List SQ) (L:List Nat) (p:Nat):upto c L (p+1)=upto c L p ++ (if dd c L p=true then [p] else []):=by
 unfold upto
 rw [List.range_succ,List.filter_append]
 congr 1
 by_cases h:dd c L p=true <;> simp [h]
theorem upto_len (c:List SQ) (L:List Nat) (p:Nat):(upto c L p).length<=p:=by
 have:=List.length_filter_le (dd c L) (List.range p)
 rwa [List.length_range] at this
theorem Sa5.out {c:List SQ} (h:CV (qs c)) {L:List Nat} (hL:Tab c.length L):∀ (d p:Nat),p+d=c.length->Ev (fun k=>Sa5.l0 k c (ints (upto c L p)) (ints L) c (c.length:Int) (p:Int)) (ints (deads c L))
 | 0,p,hp=>by
  refine Ev.succ ?_
  simp only [Sa5.l0]
  refine Ev.neg (Ev.eq Ev.pure ?_)
  rw [show p=c.length from by omega]
  rfl
 | d+1,p,hp=>by
  have h6:=cv600 h
  have hi:p < c.length:=by omega
  have hs:Sab.f (qa c p).f0 (qa c p).f1 (qa c p).f2 (qa c p).f3 (qa c p).f4=some (sets (q_ (qa c p))):=Sab.e (q_ (qa c p))
  have ih:=Sa5.out h hL d (p+1) (by omega)
  rw [upto_next] at ih
  have ha:=aft_lt hL (q_ (qa c p)) p
  obtain⟨⟨d0,d1⟩,_⟩:=regs_of (cv_at h hi)
  simp only [q_] at d0 d1
  refine Ev.succ ?_
  simp only [Sa5.l0,rd_qa,hs,wrap_up (show p < 9223372036854775807 by omega)]
  refine Ev.pos (Ev.pos (Ev.pos (Ev.some ?_)))
  by_cases g:(qa c p).f0=1\/(qa c p).f0=2\/(qa c p).f0=3
  ·have es:sets (q_ (qa c p))=(qa c p).f1:=by
    unfold sets
    exact if_pos (by show (qa c p).f0=1\/(qa c p).f0=2\/(qa c p).f0=3\/(qa c p).f0=7;omega)
   have gd:dd c L p = !(aft (q_ (qa c p)) p L).testBit (qa c p).f1.toNat:=by
    unfold dd
    rcases g with g|g|g <;> simp [g]
   rw [es]
   refine Ev.pos (Ev.neg (Ev.bind (Sa7.ev h hL hi) ?_))
   have hb:=has_bit' (s:=aft (q_ (qa c p)) p L) (r:=(qa c p).f1.toNat) (by omega) (by omega)
   rw [Int.toNat_of_nonneg d0] at hb
   rw [hb]
   refine Ev.some ?_
   cases t:(aft (q_ (qa c p)) p L).testBit (qa c p).f1.toNat with
   | true =>
    refine Ev.pos ?_ rfl
    rw [gd,t] at ih
    simpa using ih
   | false =>
    refine Ev.neg (Ev.pos ?_ (by rw [ints_len];have:=upto_len c L p;omega)) (by simp)
    rw [gd,t] at ih
    have e:ints (upto c L p) ++ [(p:Int)]=ints (upto c L p ++ [p]):=by simp [ints]
    rw [e]
    simpa using ih
  have gd:dd c L p=false:=by
   unfold dd
   have g1:(qa c p).f0≠1:=by omega
   have g2:(qa c p).f0≠2:=by omega
   have g3:(qa c p).f0≠3:=by omega
   simp [g1,g2,g3]
  rw [gd] at ih
  simp only [Bool.false_eq_true,if_false,List.append_nil] at ih
  by_cases g7:(qa c p).f0=7
  ·have es:sets (q_ (qa c p))=(qa c p).f1:=by
    unfold sets
    exact if_pos (.inr (.inr (.inr g7)))
   rw [es]
   exact Ev.pos (Ev.pos ih)
  have es:sets (q_ (qa c p)) = -1:=by
   unfold sets
   exact if_neg (by show ¬ ((qa c p).f0=1\/(qa c p).f0=2\/(qa c p).f0=3\/(qa c p).f0=7);omega)
  rw [es]
  exact Ev.neg ih
theorem Sa1.out {c:List SQ} (h:CV (qs c)) {L:List Nat}:∀ (d p:Nat),p+d=(deads c L).length->∀ x:List SQ,x.length=c.length->(∀ i,i < c.length->qa x i=if i∈(deads c L).take p then ⟨4,0,0,0,((i+1:Nat):Int)⟩ else qa c i)->Ev (fun k=>Sa1.l0 k x (ints (deads c L)) ((deads c L).length:Int) (p:Int)) (deadC L c,true)
 | 0,p,hp,x,hx,hq=>by
  refine Ev.succ ?_
  simp only [Sa1.l0]
  refine Ev.neg (Ev.eq Ev.pure ?_)
  have:x=deadC L c:=by
   apply List.ext_getElem (by rw [hx,deadC_len])
   intro i h1 h2
   have e:=hq i (by omega)
   have e2:=deadC_get L (c:=c) (i:=i) (by omega)
   rw [List.take_of_length_le (by omega)] at e
   have e3:qa x i=qa (deadC L c) i:=by
    rw [e,e2,deadQ]
    unfold deads
    by_cases g:dd c L i=true
    ·rw [if_pos (by simp [g];omega),if_pos g]
    rw [if_neg (by simp [g]),if_neg g]
   unfold qa at e3
   rwa [List.getD_eq_getElem?_getD,List.getD_eq_getElem?_getD,List.getElem?_eq_getElem h1,List.getElem?_eq_getElem h2] at e3
  rw [this]
 | d+1,p,hp,x,hx,hq=>by
  have h6:=cv600 h
  have hm:(deads c L).getD p 0∈deads c L:=getD_mem (by omega)
  have hlt:(deads c L).getD p 0 < c.length:=by
   unfold deads at hm ⊢
   exact List.mem_range.1 (List.mem_filter.1 hm).1
  have hdl:(deads c L).length<=c.length:=upto_len c L c.length
  refine Ev.succ ?_
  simp only [Sa1.l0,ints_len,rd_ints,hx,Int.toNat_natCast,wrap_up (show p < 9223372036854775807 by omega),wrap_up (show (deads c L).getD p 0 < 9223372036854775807 by omega)]
  refine Ev.pos (Ev.pos (Ev.pos (Ev.pos (Ev.pos ?_))))
  refine Sa1.out h d (p+1) (by omega) _ (by rw [List.length_set];exact hx) fun i hi=>?_
  unfold qa
  rw [getD_set x _ i _ _ (by omega),<- take_next 0 (show p < (deads c L).length by omega)]
  by_cases e:i=(deads c L).getD p 0
  ·rw [if_pos e,if_pos (by simp [e]),e]
  rw [if_neg e]
  have:=hq i hi
  unfold qa at this
  rw [this]
  by_cases g:i∈(deads c L).take p
  ·rw [if_pos g,if_pos (by simp [g])]
  rw [if_neg g,if_neg]
  rw [List.mem_append,List.mem_singleton]
  exact fun y=>y.elim g e
theorem deadC_valid {c:List SQ} (h:CV (qs c)) (L:List Nat):CV (qs (deadC L c)):=by
 have h6:=cv600 h
 refine cv_of (by rw [deadC_len];exact h6.1) (by rw [deadC_len];exact h6.2) (fun i hi=>?_) ?_
 ·rw [deadC_len] at hi ⊢
  rw [deadC_get L hi,deadQ]
  split
  ·rename_i g
   have lt:i+1 < c.length:=by
    have hl:=cv_last h
    have:i≠c.length - 1:=by
     intro e
     rw [<- e] at hl
     unfold dd at g
     rcases hl with hl|hl <;> simp [hl] at g
    omega
   exact .inr (.inr (.inr (.inl ⟨rfl,rfl,rfl,rfl,by show (0:Int)<=((i+1:Nat):Int);omega,by show ((i+1:Nat):Int) < (c.length:Int);omega⟩)))
  exact cv_at h hi
 rw [deadC_len,deadC_get L (by omega),deadQ]
 split
 ·exact .inr rfl
 exact cv_last h
theorem dead_ev {c:List SQ} (h:CV (qs c)):∃ v,v.length=c.length/\CV (qs v)/\Ev (fun k=>Saj.f k c) (v,true)/\Ev (fun k=>Sa1.f k c) (v,true):=by
 have h6:=cv600 h
 obtain⟨L,hL,e1,e2⟩:=live_ev h
 refine⟨deadC L c,deadC_len L c,deadC_valid h L,?_,?_⟩
 ·simp only [Saj.f]
  exact Ev.some (Ev.bind (Saf.ev c) (Ev.pos (Ev.bind e1 (Saj.out h hL.1 c.length 0 (Nat.zero_add _))) (decide_eq_true h)))
 simp only [Sa1.f,Sa3.f]
 refine Ev.bind (Sa0.ev c) (Ev.pos (Ev.bind (Ev.const (if_pos (by omega))) (Ev.bind (F:=fun k=>Sa5.f k c) (a:=ints (deads c L)) ?_ ?_)) (decide_eq_true h))
 ·simp only [Sa5.f]
  exact Ev.bind e2 (Sa5.out h hL.1 c.length 0 (Nat.zero_add _))
 rw [ints_len]
 exact Sa1.out h (deads c L).length 0 (Nat.zero_add _) c rfl fun i hi=>by simp
end Go.Proofs.YtebpplallecogaaGreat.M
namespace Go.Proofs.YtebpplallecogaaGreat.M
open Go.Proofs.Tryz Go.RowKit Go.Proofs.YtebpplallecogaaGreatW.PrintWords Go.Proofs.YtebpplallecogaaGreatW.PrintLast Go.Proofs.YtebpplallecogaaGreatW.PrintMore
attribute [local go_sem] max2_int min2_int max_two min_two max_three min_three max_four min_four
end Go.Proofs.YtebpplallecogaaGreat.M
namespace Go.Proofs.YtebpplallecogaaGreat.M
open Go.Proofs.Tryz Go.RowKit Go.Proofs.YtebpplallecogaaGreatW.PrintWords Go.Proofs.YtebpplallecogaaGreatW.PrintLast Go.Proofs.YtebpplallecogaaGreatW.PrintMore PM
abbrev SE:=S90
def An {α:Type} (F:Nat->Option α) (P:α->Prop):Prop:=∃ v,Ev F v/\P v
theorem An.ev {α:Type} {F:Nat->Option α} {P:α->Prop} {v:α} (e:Ev F v) (p:P v):An F P:=⟨v,e,p⟩
theorem An.pure {α:Type} {P:α->Prop} {v:α} (p:P v):An (fun _=>Option.some v) P:=⟨v,Ev.pure,p⟩
theorem An.bind {α β:Type} {F:Nat->Option α} {G:Nat->α->Option β} {P:α->Prop} {Q:β->Prop} (h:An F P) (g:∀ a,P a->An (fun k=>G k a) Q):An (fun k=>(F k).bind (G k)) Q:=by
 obtain⟨a,e,p⟩:=h
 obtain⟨b,e',q⟩:=g a p
 exact⟨b,Ev.bind e e',q⟩
theorem An.some {α β:Type} {a:α} {G:Nat->α->Option β} {Q:β->Prop} (g:An (fun k=>G k a) Q):An (fun k=>(Option.some a).bind (G k)) Q:=g
theorem An.succ {α:Type} {F:Nat->Option α} {P:α->Prop} (h:An (fun k=>F (k+1)) P):An F P:=by
 obtain⟨v,e,p⟩:=h
 exact⟨v,Ev.succ e,p⟩
theorem An.pos {α:Type} {c:Prop} [Decidable c] {A B:Nat->Option α} {P:α->Prop} (g:An A P) (h:c:=by first|assumption|omega|(simp;done)|(simp;omega)):An (fun k=>if c then A k else B k) P:=by
 simp only [if_pos h]
 exact g
theorem An.neg {α:Type} {c:Prop} [Decidable c] {A B:Nat->Option α} {P:α->Prop} (g:An B P) (h:¬ c:=by first|assumption|omega|(simp;done)|(simp;omega)):An (fun k=>if c then A k else B k) P:=by
 simp only [if_neg h]
 exact g
theorem An.ite {α:Type} {c:Prop} [Decidable c] {A B:Nat->Option α} {P:α->Prop} (g:c->An A P) (g':¬ c->An B P):An (fun k=>if c then A k else B k) P:=by
 by_cases h:c
 ·exact An.pos (g h) h
 exact An.neg (g' h) h
theorem An.mono {α:Type} {F:Nat->Option α} {P Q:α->Prop} (h:An F P) (g:∀ v,P v->Q v):An F Q:=by
 obtain⟨v,e,p⟩:=h
 exact⟨v,e,g v p⟩
def Bt (b:List Int):Prop:=b.length<=2000/\∀ x∈b,0<=x/\x < 256
theorem Bt.at_ {b:List Int} (h:Bt b) {i:Int} (h0:0<=i) (h1:i < b.length):0<=rd b i/\rd b i < 256:=by
 unfold rd
 have hi:i.toNat < b.length:=by omega
 have e:b.getD i.toNat 0=b[i.toNat]:=by simp [hi]
 rw [e]
 exact h.2 _ (List.getElem_mem _)
theorem tm_bd {x n:Int} (hx:0<=x) (hn:1<=n):0<=x.tmod n/\x.tmod n < n:=by
 rw [Int.tmod_eq_emod_of_nonneg hx]
 exact⟨Int.emod_nonneg _ (by omega),Int.emod_lt_of_pos _ (by omega)⟩
theorem xor_pos (x y:Int) (h0:0<=x) (h1:x < 2 ^ 62) (h2:0<=y) (h3:y < 2 ^ 62):0<=Go.bits .xor .i64 x y:=by
 obtain⟨a,rfl⟩:=Int.eq_ofNat_of_zero_le h0
 obtain⟨b,rfl⟩:=Int.eq_ofNat_of_zero_le h2
 have ha:a < 2 ^ 62:=by exact_mod_cast h1
 have hb:b < 2 ^ 62:=by exact_mod_cast h3
 have hp:(2:Nat) ^ 62<=2 ^ IntKind.i64.bits:=by decide
 have ha':a % 2 ^ IntKind.i64.bits=a:=Nat.mod_eq_of_lt (Nat.lt_of_lt_of_le ha hp)
 have hb':b % 2 ^ IntKind.i64.bits=b:=Nat.mod_eq_of_lt (Nat.lt_of_lt_of_le hb hp)
 have hx:a ^^^ b < 2 ^ 62:=Nat.xor_lt_two_pow ha hb
 simp only [Go.bits,BitVec.ofInt_natCast,BitVec.toNat_xor,BitVec.toNat_ofNat,ha',hb']
 rw [IntKind.wrap_i64]
 omega
theorem mix_pos (y z q d:Int) (hy:0<=y) (hy1:y < 256) (hz:0<=z) (hz1:z < 256) (hq:0<=q) (hq1:q<=1000000) (hd:0<=d) (hd1:d<=q) :
  0<=Go.bits .xor .i64 (wrap64 ((wrap64 ((wrap64 ((wrap64 ((wrap64 y)*131))+(wrap64 ((wrap64 z)*1117))))+(wrap64 (q*29))))+(wrap64 ((wrap64 d)*53)))) (wrap64 (Int.tdiv (wrap64 ((wrap64 ((wrap64 ((wrap64 ((wrap64 y)*131))+(wrap64 ((wrap64 z)*1117))))+(wrap64 (q*29))))+(wrap64 ((wrap64 d)*53)))) 64)):=by
 have e:wrap64 ((wrap64 ((wrap64 ((wrap64 ((wrap64 y)*131))+(wrap64 ((wrap64 z)*1117))))+(wrap64 (q*29))))+(wrap64 ((wrap64 d)*53)))=y*131+z*1117+q*29+d*53:=by unfold wrap64;omega
 rw [e]
 have h0:0<=y*131+z*1117+q*29+d*53:=by omega
 have h1:y*131+z*1117+q*29+d*53 < 1000000000000:=by omega
 generalize y*131+z*1117+q*29+d*53=X at h0 h1
 have h2:wrap64 (X.tdiv 64)=X / 64:=by rw [Int.tdiv_eq_ediv_of_nonneg h0];unfold wrap64;omega
 rw [h2]
 exact xor_pos X (X / 64) h0 (by omega) (by omega) (by omega)
theorem pick_an {b:List Int} (hb:Bt b) {p n:Int} (h:0<=p/\p+1<=1000000):An (fun k=>Sbn.f k b p n) (fun v=>0<=v.1/\(1<=n->v.1 < n)/\v.2=p+1):=by
 obtain⟨h0,h1⟩:=h
 have e1:wrap64 (p+1)=p+1:=wrap_id (by omega) (by omega)
 have e2:wrap64 (p+1 - 1)=p:=by rw [wrap_id (by omega) (by omega)];omega
 have t:An (fun k=>Sbn.j0 k n true b (p+1)) (fun v=>0<=v.1/\(1<=n->v.1 < n)/\v.2=p+1)\/1<=n:=by
  by_cases c:1<=n
  ·exact Or.inr c
  refine Or.inl (An.succ ?_)
  simp only [Sbn.j0]
  exact An.pos (An.pure ⟨by simp,fun h=>absurd h c,rfl⟩)
 simp only [Sbn.f,e1]
 refine An.ite (fun c=>t.resolve_right (by omega)) (fun c=>?_)
 refine An.succ ?_
 simp only [Sbn.j0,e2]
 refine An.ite (fun c'=>An.pure ⟨by simp,fun h=>by simp only;omega,rfl⟩) (fun c'=>?_)
 have hl:1<=(b.length:Int):=by
  have:(b.length:Int)≠0:=by simpa using c'
  omega
 have hl2:=hb.1
 refine An.ite (fun d=>?_) (fun d=>?_)
 ·refine An.pos (An.neg (An.pure ?_))
  obtain⟨r0,r1⟩:=hb.at_ h0 d
  rw [wrap_id (by omega) (by omega)]
  exact⟨(tm_bd r0 (by omega)).1,fun h=>(tm_bd r0 h).2,rfl⟩
 obtain⟨i0,i1⟩:=tm_bd (x:=p) h0 hl
 have e3:wrap64 (wrap64 (p*7)+3)=p*7+3:=by unfold wrap64;omega
 obtain⟨j0,j1⟩:=tm_bd (x:=p*7+3) (by omega) hl
 obtain⟨y0,y1⟩:=hb.at_ i0 i1
 obtain⟨z0,z1⟩:=hb.at_ j0 j1
 simp only [e3]
 refine An.neg (An.pos (An.pos (An.pos (An.pos (An.neg (An.pure ?_))))))
 have d0:0<=p.tdiv b.length:=Int.tdiv_nonneg h0 (by omega)
 have d1:p.tdiv b.length<=p:=by rw [Int.tdiv_eq_ediv_of_nonneg h0];exact Int.ediv_le_self _ h0
 have m:=mix_pos _ _ p _ y0 y1 z0 z1 h0 (by omega) d0 d1
 exact⟨(tm_bd m (by omega)).1,fun h=>(tm_bd m h).2,rfl⟩
theorem pick0_an {b:List Int} (hb:Bt b) {p:Int} (n:Int) (h:0<=p/\p+1<=1000000) (hn:1<=n:=by omega):An (fun k=>Sbn.f k b p n) (fun v=>0<=v.1/\v.1 < n/\v.2=p+1) :=
 (pick_an hb h).mono fun v h=>⟨h.1,h.2.1 hn,h.2.2⟩
theorem l93Reg_an {b:List Int} (hb:Bt b) {p:Int} (h:0<=p/\p+1<=1000000):An (fun k=>SbD.f k b p) (fun v=>v.2=p+1):=by
 simp only [SbD.f]
 exact An.bind (pick0_an hb 6 h) fun v h=>An.pure h.2.2
theorem l91Op_an {b:List Int} (hb:Bt b) {p:Int} (h:0<=p/\p+1<=1000000):An (fun k=>Sbq.f k b p) (fun v=>1<=v.1/\v.1<=12/\v.2=p+1):=by
 simp only [Sbq.f]
 refine An.bind (pick0_an hb 12 h) fun v h=>An.pure ?_
 rw [wrap_id (by omega) (by omega)]
 simp only
 omega
theorem wrap_some (n:Int):∃ v,Say.f n=some v:=by
 unfold Say.f
 split
 ·exact⟨_,rfl⟩
 split <;> exact⟨_,rfl⟩
theorem l91Word_an {b:List Int} (hb:Bt b) {p:Int} (h:0<=p/\p+5<=1000000):An (fun k=>Sbr.f k b p) (fun v=>p<=v.2/\v.2<=p+5):=by
 simp only [Sbr.f]
 refine An.bind (pick0_an hb 6 (by omega)) fun v h1=>?_
 refine An.ite (fun c=>An.some (An.bind (pick0_an hb 8 (by omega)) fun u h2=>An.pos (An.pos (An.pure (by simp only;omega)) (by simp only [List.length_cons,List.length_nil];omega)))) (fun c=>An.ite (fun c=>?_) (fun c=>An.ite (fun c=>An.bind (pick0_an hb 200 (by omega)) fun u h2=>An.pure (by simp only;omega)) (fun c=>An.bind (pick0_an hb 20 (by omega)) fun u h2=>An.pure (by simp only;omega))))
 refine An.bind (pick0_an hb 256 (by omega)) fun v1 h1=>An.bind (pick0_an hb 256 (by omega)) fun v2 h2=>An.bind (pick0_an hb 256 (by omega)) fun v3 h3=>An.bind (pick0_an hb 200 (by omega)) fun v4 h4=>?_
 obtain⟨x,hx⟩:=wrap_some (wrap64 ((wrap64 ((wrap64 ((wrap64 (v1.1*65536))+(wrap64 (v2.1*256))))+v3.1))*(wrap64 (1+v4.1))))
 simp only [hx]
 exact An.some (An.pure (by simp only;omega))
def okE:Nat->SE->Prop
 | 0,_=>False
 | d+1,e=>(e.f0=0/\0<=e.f1/\e.f1<=99999/\e.f2=[])\/(e.f0=13/\0<=e.f1/\e.f1<=3/\e.f2=[])\/(1<=e.f0/\e.f0<=12/\e.f1=0/\∃ a b,e.f2=[a,b]/\okE d a/\okE d b)
theorem okE_up:∀ {d:Nat} {e:SE},okE d e->okE (d+1) e
 | 0,_,h=>h.elim
 | d+1,e,h=>by
  rcases h with h|h | ⟨h1,h2,h3,a,b,h4,h5,h6⟩
  ·exact Or.inl h
  ·exact Or.inr (Or.inl h)
  exact Or.inr (Or.inr ⟨h1,h2,h3,a,b,h4,okE_up h5,okE_up h6⟩)
theorem okE_le {d d':Nat} {e:SE} (h:okE d e) (hd:d<=d'):okE d' e:=by
 induction hd with
 | refl=>exact h
 | step _ ih=>exact okE_up ih
theorem l91Leaf_an {b:List Int} (hb:Bt b) {p:Int} (h:0<=p/\p+2<=1000000):An (fun k=>Sbp.f k b p) (fun v=>okE 1 ⟨v.1,v.2.1,v.2.2.1⟩/\p<=v.2.2.2/\v.2.2.2<=p+2):=by
 simp only [Sbp.f,Sbj.f]
 refine An.bind (pick0_an hb 4 (by omega)) fun v h1=>?_
 refine An.ite (fun c=>An.bind (pick0_an hb 4 (by omega)) fun u h2=>An.some (An.pure ⟨Or.inl ⟨rfl,h2.1,by simp only;omega,rfl⟩,by simp only;omega⟩)) (fun c=>An.ite (fun c=>?_) (fun c=>An.bind (pick0_an hb 4 (by omega)) fun u h2=>An.some (An.pure ⟨Or.inr (Or.inl ⟨rfl,h2.1,by simp only;omega,rfl⟩),by simp only;omega⟩)))
 refine An.some (An.bind (pick0_an hb 8 (by omega)) fun u h2=>An.pos (An.pos (An.some (An.pure ⟨Or.inl ⟨rfl,?_⟩,by simp only;omega⟩)) (by simp only [List.length_cons,List.length_nil];omega)))
 obtain⟨u1,u2⟩:=u
 obtain⟨m,rfl⟩:=Int.eq_ofNat_of_zero_le h2.1
 have hm:m < 8:=by have:=h2.2.1;simp only at this;omega
 simp only [rd_nat]
 match m,hm with
 | 0,_=>simp
 | 1,_=>simp
 | 2,_=>simp
 | 3,_=>simp
 | 4,_=>simp
 | 5,_=>simp
 | 6,_=>simp
 | 7,_=>simp
def cE:Nat->Int
 | 0=>2
 | d+1=>2+2*cE d
theorem cE_pos:∀ d,2<=cE d
 | 0=>by simp [cE]
 | d+1=>by have:=cE_pos d;simp only [cE];omega
theorem l91Expr_an {b:List Int} (hb:Bt b):∀ (d:Nat) (p:Int),d<=100->0<=p/\p+cE d<=1000000->An (fun k=>Sbo.f k b p ((d+1:Nat):Int)) (fun v=>okE (d+1) ⟨v.1,v.2.1,v.2.2.1⟩/\p<=v.2.2.2/\v.2.2.2<=p+cE d)
 | 0,p,_,h=>by
  refine An.succ ?_
  simp only [Sbo.f]
  refine An.pos (An.succ ?_)
  simp only [Sbo.j0]
  exact An.pos (An.bind (l91Leaf_an hb h) fun v h=>An.pure h)
 | d+1,p,hd,h=>by
  have c2:=cE_pos d
  simp only [cE] at h ⊢
  refine An.succ ?_
  simp only [Sbo.f]
  refine An.neg (An.bind (pick0_an hb 3 (by omega)) fun v h1=>An.succ ?_)
  simp only [Sbo.j0]
  refine An.ite (fun c=>An.bind (l91Leaf_an hb (by omega)) fun u h2=>An.pure ⟨okE_le h2.1 (by omega),by simp only;omega⟩) (fun c=>?_)
  have e:wrap64 (((d+1+1:Nat):Int) - 1)=((d+1:Nat):Int):=by rw [wrap_id (by omega) (by omega)];omega
  refine An.bind (l91Op_an hb (by omega)) fun o h3=>?_
  simp only [e]
  refine An.bind (l91Expr_an hb d o.2 (by omega) (by omega)) fun x h4=>?_
  refine An.bind (l91Expr_an hb d x.2.2.2 (by omega) (by omega)) fun y h5=>?_
  simp only [Sbi.f]
  exact An.some (An.pure ⟨Or.inr (Or.inr ⟨h3.1,h3.2.1,rfl,_,_,rfl,h4.1,h5.1⟩),by simp only;omega⟩)
theorem l91Expr_of {b:List Int} (hb:Bt b) {p x:Int} (hx:0<=x/\x < 3) (h:0<=p/\p+14<=1000000):An (fun k=>Sbo.f k b p (wrap64 (1+x))) (fun v=>okE 3 ⟨v.1,v.2.1,v.2.2.1⟩/\p<=v.2.2.2/\v.2.2.2<=p+14):=by
 obtain⟨m,rfl⟩:=Int.eq_ofNat_of_zero_le hx.1
 rw [wrap_id (by omega) (by omega),show (1:Int)+(m:Int)=((m+1:Nat):Int) by omega]
 have hc:cE m<=14:=by
  match m,hx with
  | 0,_=>decide
  | 1,_=>decide
  | 2,_=>decide
  | m+3,h=>omega
 exact (l91Expr_an hb m p (by omega) (by omega)).mono fun v h=>⟨okE_le h.1 (by omega),by omega⟩
abbrev ST:=S92
def simS (x:ST):Prop:=x.f4=[]/\x.f5=[]/\((x.f0=1/\0<=x.f1/\x.f1<=3/\x.f2=0/\okE 3 x.f3)\/(x.f0=4/\x.f1=0/\0<=x.f2/\x.f2<=2/\okE 3 x.f3)\/(x.f0=5/\0<=x.f1/\x.f1<=3/\0<=x.f2/\x.f2<=2/\x.f3=⟨0,0,[]⟩)\/(x.f0=6/\x.f1=0/\x.f2=0/\x.f3=⟨0,0,[]⟩)\/(x.f0=7/\x.f1=0/\x.f2=0/\okE 3 x.f3))
def okS:Nat->ST->Prop
 | 0,x=>simS x
 | n+1,x=>simS x\/((x.f0=2\/x.f0=3/\x.f5=[])/\x.f1=0/\x.f2=0/\okE 3 x.f3/\x.f4.length<=5/\x.f5.length<=5/\(∀ y∈x.f4,okS n y)/\(∀ y∈x.f5,okS n y))
theorem okS_sim {n:Nat} {x:ST} (h:simS x):okS n x:=by
 cases n with
 | zero=>exact h
 | succ n=>exact Or.inl h
def tS (v:Int × Int × Int × Int × Int × List SE × List ST × List ST × Int):ST:=⟨v.1,v.2.1,v.2.2.1,⟨v.2.2.2.1,v.2.2.2.2.1,v.2.2.2.2.2.1⟩,v.2.2.2.2.2.2.1,v.2.2.2.2.2.2.2.1⟩
theorem l92Set_an {b:List Int} (hb:Bt b) {p:Int} (h:0<=p/\p+16<=1000000):An (fun k=>Sbv.f k b p) (fun v=>simS (tS v)/\p<=v.2.2.2.2.2.2.2.2/\v.2.2.2.2.2.2.2.2<=p+16):=by
 simp only [Sbv.f]
 refine An.bind (pick0_an hb 3 (by omega)) fun v h1=>An.bind (pick0_an hb 3 (by omega)) fun u h2=>An.bind (l91Expr_of hb (by omega) (by omega)) fun e h3=>An.pure ?_
 exact⟨⟨rfl,rfl,Or.inl ⟨rfl,h1.1,by simp only [tS];omega,rfl,h3.1⟩⟩,by simp only;omega⟩
theorem l92Talk_an {b:List Int} (hb:Bt b) {p x:Int} (hx:x<=3) (h:0<=p/\p+18<=1000000):An (fun k=>Sby.f k b p x) (fun v=>simS (tS v)/\p<=v.2.2.2.2.2.2.2.2/\v.2.2.2.2.2.2.2.2<=p+18):=by
 simp only [Sby.f]
 refine An.ite (fun c=>An.bind (l92Set_an hb (by omega)) fun v h1=>An.pure ⟨h1.1,by simp only;omega⟩) (fun c=>?_)
 refine An.bind (pick0_an hb x (by omega)) fun v h1=>An.bind (pick0_an hb 2 (by omega)) fun u h2=>An.ite (fun c=>?_) (fun c=>?_)
 ·refine An.bind (pick0_an hb 3 (by omega)) fun y h3=>An.bind (l91Expr_of hb (by omega) (by omega)) fun e h4=>An.pure ?_
  exact⟨⟨rfl,rfl,Or.inr (Or.inl ⟨rfl,rfl,h1.1,by simp only [tS];omega,h4.1⟩)⟩,by simp only;omega⟩
 refine An.bind (pick0_an hb 3 (by omega)) fun y h3=>An.pure ?_
 exact⟨⟨rfl,rfl,Or.inr (Or.inr (Or.inl ⟨rfl,h3.1,by simp only [tS];omega,h1.1,by simp only [tS];omega,rfl⟩))⟩,by simp only;omega⟩
def cS:Nat->Int
 | 0=>19
 | n+1=>18+4*cS n
theorem cS_pos:∀ n,19<=cS n
 | 0=>by simp [cS]
 | n+1=>by have:=cS_pos n;simp only [cS];omega
def StmtOk (b:List Int) (n:Nat):Prop:=∀ (x:Int),x<=3->∀ (l:Bool) (p:Int),0<=p/\p+cS n<=1000000->An (fun k=>Sbw.f k b p x (n:Int) l) (fun v=>v.1.length<=2/\(∀ y∈v.1,okS n y)/\p<=v.2/\v.2<=p+cS n)
theorem block_out {b:List Int} {n:Nat} (hs:StmtOk b n) {x:Int} (hx:x<=3) (l:Bool) {m:Nat} (hm:m<=10):∀ (d i:Nat),i+d=m->∀ (o:List ST) (p:Int),o.length<=2*i->(∀ y∈o,okS n y)->0<=p/\p+(d:Int)*cS n<=1000000->An (fun k=>Sbs.l0 k x (n:Int) (m:Int) l o (i:Int) b p) (fun v=>v.1.length<=2*m/\(∀ y∈v.1,okS n y)/\p<=v.2/\v.2<=p+(d:Int)*cS n)
 | 0,i,hi,o,p,ho,hy,h=>by
  refine An.succ ?_
  simp only [Sbs.l0]
  exact An.neg (An.pure ⟨by simp only;omega,hy,by simp only;omega⟩)
 | d+1,i,hi,o,p,ho,hy,h=>by
  have c2:=cS_pos n
  have e:((d+1:Nat):Int)*cS n=(d:Int)*cS n+cS n:=by rw [show ((d+1:Nat):Int)=(d:Int)+1 from rfl,Int.add_mul,Int.one_mul]
  have e0:0<=(d:Int)*cS n:=Int.mul_nonneg (by omega) (by omega)
  rw [e] at h ⊢
  refine An.succ ?_
  simp only [Sbs.l0,wrap_up (show i < 9223372036854775807 by omega)]
  refine An.pos (An.bind (hs x hx l p (by omega)) fun v h1=>?_)
  refine An.pos ?_
  refine (block_out hs hx l hm d (i+1) (by omega) (o ++ v.1) v.2 (by simp;omega) (by
   intro y hy'
   rcases List.mem_append.1 hy' with q|q
   ·exact hy y q
   exact h1.2.1 y q) (by omega)).mono fun u h2=>⟨h2.1,h2.2.1,by omega⟩
theorem block_an {b:List Int} {n:Nat} (hs:StmtOk b n) {x:Int} (hx:x<=3) (l:Bool) {m:Int} (hm:0<=m/\m<=10) (p:Int) (h:0<=p/\p+m*cS n<=1000000):An (fun k=>Sbs.f k b p x (n:Int) m l) (fun v=>(v.1.length:Int)<=2*m/\(∀ y∈v.1,okS n y)/\p<=v.2/\v.2<=p+m*cS n):=by
 obtain⟨m,rfl⟩:=Int.eq_ofNat_of_zero_le hm.1
 refine An.succ ?_
 simp only [Sbs.f]
 exact (block_out hs hx l (by omega) m 0 (Nat.zero_add _) [] p (by simp) (by simp) h).mono fun u h2=>⟨by omega,h2.2⟩
theorem block_two {b:List Int} {n:Nat} (hs:StmtOk b n) {x:Int} (hx:x<=3) (l:Bool) {m:Int} (hm:0<=m/\m < 3) (p:Int) (h:0<=p/\p+2*cS n<=1000000):An (fun k=>Sbs.f k b p x (n:Int) m l) (fun v=>v.1.length<=4/\(∀ y∈v.1,okS n y)/\p<=v.2/\v.2<=p+2*cS n):=by
 have e:m*cS n<=2*cS n:=Int.mul_le_mul_of_nonneg_right (by omega) (by have:=cS_pos n;omega)
 exact (block_an hs hx l (by omega) p (by omega)).mono fun u h2=>⟨by omega,h2.2.1,by omega⟩
theorem if_an {b:List Int} (hb:Bt b) {n:Nat} (hn:n<=1000) (hs:StmtOk b n) {x:Int} (hx:x<=3) (l:Bool) (p:Int) (h:0<=p/\p+17+4*cS n<=1000000):An (fun k=>Sbt.f k b p x ((n+1:Nat):Int) l) (fun v=>okS (n+1) (tS v)/\p<=v.2.2.2.2.2.2.2.2/\v.2.2.2.2.2.2.2.2<=p+17+4*cS n):=by
 have c2:=cS_pos n
 have e:wrap64 (((n+1:Nat):Int) - 1)=(n:Int):=by rw [wrap_id (by omega) (by omega)];omega
 refine An.succ ?_
 simp only [Sbt.f,e]
 refine An.bind (pick0_an hb 2 (by omega)) fun v h1=>An.bind (l91Expr_of hb (by omega) (by omega)) fun q h2=>An.bind (pick0_an hb 3 (by omega)) fun u h3=>An.bind (block_two hs hx l (by omega) _ (by omega)) fun c h4=>An.bind (pick0_an hb 3 (by omega)) fun u' h5=>An.bind (block_two hs hx l (by omega) _ (by omega)) fun c' h6=>An.pure ?_
 exact⟨Or.inr ⟨Or.inl rfl,rfl,rfl,h2.1,Nat.le_trans h4.1 (by omega),Nat.le_trans h6.1 (by omega),h4.2.1,h6.2.1⟩,by simp only;omega⟩
theorem okE_num {x:Int} (h:0<=x/\x<=99999):okE 1 ⟨0,x,[]⟩:=Or.inl ⟨rfl,h.1,h.2,rfl⟩
theorem okE_var:okE 1 ⟨13,3,[]⟩:=Or.inr (Or.inl ⟨rfl,by decide,by decide,rfl⟩)
theorem loop_an {b:List Int} (hb:Bt b) {n:Nat} (hn:n<=1000) (hs:StmtOk b n) {x:Int} (hx:x<=3) (p:Int) (h:0<=p/\p+17+4*cS n<=1000000):An (fun k=>Sbu.f k b p x ((n+1:Nat):Int)) (fun v=>v.1.length<=2/\(∀ y∈v.1,okS (n+1) y)/\p<=v.2/\v.2<=p+17+4*cS n):=by
 have c2:=cS_pos n
 have e:wrap64 (((n+1:Nat):Int) - 1)=(n:Int):=by rw [wrap_id (by omega) (by omega)];omega
 refine An.succ ?_
 simp only [Sbu.f,Sbj.f,Sbi.f,e]
 refine An.bind (pick0_an hb 3 (by omega)) fun v h1=>An.bind (block_two hs hx false (by omega) _ (by omega)) fun c h2=>?_
 refine An.some (An.some (An.some (An.some (An.bind (pick0_an hb 3 (by omega)) fun u h3=>An.some (An.some (An.some ?_))))))
 refine An.pos (An.some (An.pure ⟨by simp,?_,by simp only;omega⟩)) (by simp only [List.length_cons,List.length_nil];omega)
 have hw:wrap64 (1+u.1)=1+u.1:=wrap_id (by omega) (by omega)
 intro y hy
 rcases List.mem_cons.1 hy with rfl|hy
 ·exact Or.inl ⟨rfl,rfl,Or.inl ⟨rfl,by simp,by simp,rfl,okE_le (okE_num (x:=0) (by decide)) (by omega)⟩⟩
 rcases List.mem_cons.1 hy with rfl|hy
 ·refine Or.inr ⟨Or.inr ⟨rfl,rfl⟩,rfl,rfl,?_,?_,by simp,?_,by simp⟩
  ·exact okE_le (d:=2) (Or.inr (Or.inr ⟨by simp only;omega,by simp only;omega,rfl,_,_,rfl,okE_var,by rw [hw];exact okE_num (x:=1+u.1) (by omega)⟩)) (by omega)
  ·simp only [List.length_append,List.length_cons,List.length_nil]
   omega
  intro z hz
  rcases List.mem_append.1 hz with q|q
  ·exact h2.2.1 z q
  obtain rfl:=List.mem_singleton.1 q
  exact okS_sim ⟨rfl,rfl,Or.inl ⟨rfl,by simp,by simp,rfl,okE_le (d:=2) (Or.inr (Or.inr ⟨by simp only;omega,by simp only;omega,rfl,_,_,rfl,okE_var,okE_num (x:=1) (by decide)⟩)) (by omega)⟩⟩
 cases hy
theorem one_mem {n:Nat} {x:ST} (h:okS n x):∀ y∈[x],okS n y:=fun y hy=>by rw [List.mem_singleton.1 hy];exact h
theorem print_an {b:List Int} (hb:Bt b) {n:Nat} {p:Int} (h:0<=p/\p+15<=1000000):An (fun k=>(Sbn.f k b p 3).bind fun t=>(Sbo.f k b t.2 (wrap64 (1+t.1))).bind fun e=>some ([(⟨7,0,0,⟨e.1,e.2.1,e.2.2.1⟩,[],[]⟩:ST)],e.2.2.2)) (fun v=>v.1.length<=2/\(∀ y∈v.1,okS n y)/\p<=v.2/\v.2<=p+15):=by
 refine An.bind (pick0_an hb 3 (by omega)) fun v h1=>An.bind (l91Expr_of hb (by omega) (by omega)) fun e h2=>An.pure ?_
 exact⟨by simp,one_mem (okS_sim ⟨rfl,rfl,Or.inr (Or.inr (Or.inr (Or.inr ⟨rfl,rfl,rfl,h2.1⟩)))⟩),by simp only;omega⟩
theorem stmt_an {b:List Int} (hb:Bt b):∀ n,n<=1000->StmtOk b n:=by
 intro n hn
 induction n with
 | zero=>?_
 | succ n ih=>?_
 all_goals
  intro x hx l p h
  refine An.succ ?_
  simp only [Sbw.f]
  simp only [cS] at h ⊢
 ·refine An.bind (pick0_an hb 10 (by omega)) fun v h1=>?_
  have j2:∀ c,An (fun k=>Sbw.j2 k x v.1 c b v.2) (fun u=>u.1.length<=2/\(∀ y∈u.1,okS 0 y)/\p<=u.2/\u.2<=p+19):=by
   intro c
   refine An.succ ?_
   simp only [Sbw.j2]
   refine An.ite (fun c=>An.bind (l92Talk_an hb hx (by omega)) fun t h2=>An.pure ⟨by simp,one_mem (okS_sim h2.1),by simp only;omega⟩) (fun c=>An.ite (fun c=>An.pure ⟨by simp,one_mem (okS_sim ⟨rfl,rfl,Or.inr (Or.inr (Or.inr (Or.inl ⟨rfl,rfl,rfl,rfl⟩)))⟩),by simp only;omega⟩) (fun c=>?_))
   exact (print_an hb (n:=0) (by omega)).mono fun u h=>⟨h.1,h.2.1,by omega⟩
  have j1:An (fun k=>Sbw.j1 k x ((0:Nat):Int) false b v.2) (fun u=>u.1.length<=2/\(∀ y∈u.1,okS 0 y)/\p<=u.2/\u.2<=p+19):=by
   refine An.succ ?_
   simp only [Sbw.j1]
   exact An.neg ((print_an hb (n:=0) (by omega)).mono fun u h=>⟨h.1,h.2.1,by omega⟩)
  have j0:∀ c,An (fun k=>Sbw.j0 k x ((0:Nat):Int) l v.1 c b v.2) (fun u=>u.1.length<=2/\(∀ y∈u.1,okS 0 y)/\p<=u.2/\u.2<=p+19):=by
   intro c
   refine An.succ ?_
   simp only [Sbw.j0]
   refine An.ite (fun c=>An.bind (l92Set_an hb (by omega)) fun t h2=>An.pure ⟨by simp,one_mem (okS_sim h2.1),by simp only;omega⟩) (fun c=>An.ite (fun c=>An.neg ((print_an hb (n:=0) (by omega)).mono fun u h=>⟨h.1,h.2.1,by omega⟩)) (fun c=>An.ite (fun c=>An.neg j1) (fun c=>An.ite (fun c=>j2 _) (fun c=>An.ite (fun c=>j2 _) (fun c=>j2 _)))))
  exact An.ite (fun c=>j0 _) (fun c=>j0 _)
 have ih:=ih (by omega)
 have c2:=cS_pos n
 refine An.bind (pick0_an hb 10 (by omega)) fun v h1=>?_
 have j2:∀ c,An (fun k=>Sbw.j2 k x v.1 c b v.2) (fun u=>u.1.length<=2/\(∀ y∈u.1,okS (n+1) y)/\p<=u.2/\u.2<=p+(18+4*cS n)):=by
  intro c
  refine An.succ ?_
  simp only [Sbw.j2]
  refine An.ite (fun c=>An.bind (l92Talk_an hb hx (by omega)) fun t h2=>An.pure ⟨by simp,one_mem (okS_sim h2.1),by simp only;omega⟩) (fun c=>An.ite (fun c=>An.pure ⟨by simp,one_mem (okS_sim ⟨rfl,rfl,Or.inr (Or.inr (Or.inr (Or.inl ⟨rfl,rfl,rfl,rfl⟩)))⟩),by simp only;omega⟩) (fun c=>?_))
  exact (print_an hb (n:=n+1) (by omega)).mono fun u h=>⟨h.1,h.2.1,by omega⟩
 have j1:∀ c,An (fun k=>Sbw.j1 k x ((n+1:Nat):Int) c b v.2) (fun u=>u.1.length<=2/\(∀ y∈u.1,okS (n+1) y)/\p<=u.2/\u.2<=p+(18+4*cS n)):=by
  intro c
  refine An.succ ?_
  simp only [Sbw.j1]
  refine An.ite (fun c=>An.bind (loop_an hb (by omega) ih hx _ (by omega)) fun u h=>An.pure ⟨h.1,h.2.1,by simp only;omega⟩) (fun c=>?_)
  exact (print_an hb (n:=n+1) (by omega)).mono fun u h=>⟨h.1,h.2.1,by omega⟩
 have j0:∀ c,An (fun k=>Sbw.j0 k x ((n+1:Nat):Int) l v.1 c b v.2) (fun u=>u.1.length<=2/\(∀ y∈u.1,okS (n+1) y)/\p<=u.2/\u.2<=p+(18+4*cS n)):=by
  intro c
  refine An.succ ?_
  simp only [Sbw.j0]
  refine An.ite (fun c=>An.bind (l92Set_an hb (by omega)) fun t h2=>An.pure ⟨by simp,one_mem (okS_sim h2.1),by simp only;omega⟩) (fun c=>An.ite (fun c=>An.pos (An.bind (if_an hb (by omega) ih hx l _ (by omega)) fun t h2=>An.pure ⟨by simp,one_mem h2.1,by simp only;omega⟩)) (fun c=>An.ite (fun c=>An.pos (j1 _)) (fun c=>An.ite (fun c=>j2 _) (fun c=>An.ite (fun c=>j2 _) (fun c=>j2 _)))))
 exact An.ite (fun c=>j0 _) (fun c=>j0 _)
set_option maxRecDepth 100000
theorem rd_st (l:List ST) (i:Nat):rd_T92 l (i:Int)=l.getD i z92:=by simp [rd_T92]
theorem st_mem {l:List ST} {i:Nat} (h:i < l.length):l.getD i z92∈l:=by
 rw [show l.getD i z92=l[i] by simp [h]]
 exact List.getElem_mem _
def cW:Nat->Int
 | 0=>1
 | n+1=>1+10*cW n
theorem cW_pos:∀ n,1<=cW n
 | 0=>by simp [cW]
 | n+1=>by have:=cW_pos n;simp only [cW];omega
theorem cW_le {n:Nat} (h:n<=3):cW n<=1111:=by
 match n,h with
 | 0,_=>decide
 | 1,_=>decide
 | 2,_=>decide
 | 3,_=>decide
theorem count_out {l:List ST} (hl:l.length<=12) {B:Int} (hB:0<=B/\B<=6000) (hc:∀ x∈l,An (fun k=>SaB.f k x.f4) (fun c=>0<=c/\c<=B)/\An (fun k=>SaB.f k x.f5) (fun c=>0<=c/\c<=B)) :
  ∀ (d i:Nat),i+d=l.length->∀ t:Int,0<=t->t<=(i:Int)*12001->An (fun k=>SaB.l0 k l t (i:Int)) (fun c=>t<=c/\c<=t+(d:Int)*(1+2*B))
 | 0,i,hi,t,h0,h1=>by
  refine An.succ ?_
  simp only [SaB.l0]
  exact An.neg (An.pure ⟨by omega,by omega⟩)
 | d+1,i,hi,t,h0,h1=>by
  have e:((d+1:Nat):Int)*(1+2*B)=(d:Int)*(1+2*B)+(1+2*B):=by rw [show ((d+1:Nat):Int)=(d:Int)+1 from rfl,Int.add_mul,Int.one_mul]
  rw [e]
  obtain⟨h4,h5⟩:=hc _ (st_mem (show i < l.length by omega))
  refine An.succ ?_
  simp only [SaB.l0,rd_st,wrap_up (show i < 9223372036854775807 by omega)]
  refine An.pos (An.pos (An.bind h4 fun c k4=>An.bind h5 fun c' k5=>?_))
  have e1:wrap64 (wrap64 (wrap64 (t+1)+c)+c')=t+1+c+c':=by unfold wrap64;omega
  rw [e1]
  exact (count_out hl hB hc d (i+1) (by omega) (t+1+c+c') (by omega) (by omega)).mono fun u h=>⟨by omega,by omega⟩
theorem count_all {l:List ST} (hl:l.length<=12) {B:Int} (hB:0<=B/\B<=6000) (hc:∀ x∈l,An (fun k=>SaB.f k x.f4) (fun c=>0<=c/\c<=B)/\An (fun k=>SaB.f k x.f5) (fun c=>0<=c/\c<=B)):An (fun k=>SaB.f k l) (fun c=>0<=c/\c<=(l.length:Int)*(1+2*B)):=by
 refine An.succ ?_
 simp only [SaB.f]
 exact (count_out hl hB hc l.length 0 (Nat.zero_add _) 0 (by omega) (by omega)).mono fun u h=>⟨h.1,by omega⟩
theorem count_nil {B:Int} (h:0<=B):An (fun k=>SaB.f k []) (fun c=>0<=c/\c<=B) :=
 (count_all (l:=[]) (by simp) (B:=0) (by omega) (by simp)).mono fun u h'=>⟨h'.1,by simp at h';omega⟩
theorem count_an:∀ n,n<=3->∀ l:List ST,(∀ x∈l,okS n x)->l.length<=12->An (fun k=>SaB.f k l) (fun c=>0<=c/\c<=(l.length:Int)*cW n)
 | 0,_,l,h,hl=>by
  refine (count_all hl (B:=0) (by omega) fun x hx=>?_).mono fun u h'=>⟨h'.1,by simp only [cW];omega⟩
  obtain⟨e4,e5,_⟩:simS x:=h x hx
  rw [e4,e5]
  exact⟨count_nil (by omega),count_nil (by omega)⟩
 | n+1,hn,l,h,hl=>by
  have w0:=cW_pos n
  have w1:=cW_le (n:=n) (by omega)
  refine (count_all hl (B:=5*cW n) (by omega) fun x hx=>?_).mono fun u h'=>⟨h'.1,by rw [show cW (n+1)=1+2*(5*cW n) by simp only [cW];omega];exact h'.2⟩
  rcases h x hx with ⟨e4,e5,_⟩ | ⟨_,_,_,_,l4,l5,h4,h5⟩
  ·rw [e4,e5]
   exact⟨count_nil (by omega),count_nil (by omega)⟩
  have m4:(x.f4.length:Int)*cW n<=5*cW n:=Int.mul_le_mul_of_nonneg_right (by omega) (by omega)
  have m5:(x.f5.length:Int)*cW n<=5*cW n:=Int.mul_le_mul_of_nonneg_right (by omega) (by omega)
  exact⟨(count_an n (by omega) x.f4 h4 (by omega)).mono fun u k=>⟨k.1,by omega⟩,(count_an n (by omega) x.f5 h5 (by omega)).mono fun u k=>⟨k.1,by omega⟩⟩
def okL (l:List ST):Prop:=l.length<=12/\(∀ x∈l,okS 3 x)/\∃ c:Int,c<=16/\Ev (fun k=>SaB.f k l) c
theorem pop_an {b:List Int} (p:Int):∀ (d:Nat) (o:List ST),o.length=d->d<=12->(∀ x∈o,okS 3 x)->An (fun k=>Sbx.l0 k o b p) (fun v=>okL v.1/\v.2=p):=by
 intro d
 induction d with
 | zero=>?_
 | succ d ih=>?_
 all_goals
  intro o ho hd h
  obtain⟨c,e,c0,c1⟩:=count_an 3 (by omega) o h (by omega)
  refine An.succ ?_
  simp only [Sbx.l0]
  refine An.bind (An.ev (P:=fun u=>u=c) e rfl) fun u hu=>?_
  subst hu
  refine An.ite (fun g=>?_) (fun g=>An.pure ⟨⟨by show o.length<=12;omega,h,u,by omega,e⟩,rfl⟩)
 ·rw [ho] at c1
  simp at c1
  omega
 have e1:wrap64 ((o.length:Int) - 1)=(d:Int):=by rw [ho,wrap_id (by omega) (by omega)];omega
 rw [e1]
 refine An.pos (An.pos ?_)
 rw [Int.toNat_natCast]
 exact ih (o.take d) (by rw [List.length_take];omega) (by omega) fun x hx=>h x (List.mem_of_mem_take hx)
theorem l92Stmts_an {b:List Int} (hb:Bt b) {x p:Int} (hx:x<=3) (h:0<=p/\p+9600<=1000000):An (fun k=>Sbx.f k b p x) (fun v=>okL v.1/\p<=v.2/\v.2<=p+9600):=by
 have e3:cS 3=1594:=by decide
 simp only [Sbx.f]
 refine An.bind (pick0_an hb 6 (by omega)) fun v h1=>?_
 have e1:wrap64 (1+v.1)=1+v.1:=wrap_id (by omega) (by omega)
 have e2:(1+v.1)*cS 3<=6*cS 3:=Int.mul_le_mul_of_nonneg_right (by omega) (by omega)
 rw [e1]
 refine An.bind (block_an (n:=3) (stmt_an hb 3 (by omega)) hx true (m:=1+v.1) (by omega) v.2 (by omega)) fun c h2=>?_
 exact (pop_an c.2 c.1.length c.1 rfl (by omega) h2.2.1).mono fun u h3=>⟨h3.1,by omega,by omega⟩
theorem l4Ok_ev:∀ (d:Nat) (e:SE),okE d e->∀ a:Int,d<=a->a<=5->Ev (fun k=>Sbk.f k e.f0 e.f1 e.f2 a) true
 | 0,_,h,_,_,_=>h.elim
 | d+1,⟨f0,f1,f2⟩,h,a,ha,ha'=>by
  refine Ev.succ ?_
  simp only [Sbk.f,Sbl.e,Saq.f]
  refine Ev.neg ?_
  rcases h with ⟨q0,q1,q2,q3⟩ | ⟨q0,q1,q2,q3⟩ | ⟨q0,q1,q2,x,y,q3,q4,q5⟩
  ·simp only at q0 q1 q2 q3
   subst q0;subst q3
   exact Ev.pos (Ev.some (Ev.pos (Ev.pure.eq rfl) (by simp;omega)))
  ·simp only at q0 q1 q2 q3
   subst q0;subst q3
   exact Ev.neg (Ev.pos (Ev.some (Ev.pos (Ev.pure.eq rfl) (by simp;omega))))
  simp only at q0 q1 q2 q3
  subst q2;subst q3
  have ew:wrap64 (a - 1)=a - 1:=wrap_id (by omega) (by omega)
  have i1:=l4Ok_ev d x q4 (a - 1) (by omega) (by omega)
  have i2:=l4Ok_ev d y q5 (a - 1) (by omega) (by omega)
  rw [ew]
  refine Ev.neg (Ev.neg (Ev.some (Ev.pos (Ev.pos (Ev.pos (Ev.pos (Ev.bind i1 (Ev.pos (Ev.pos (Ev.bind i2 Ev.pure) (by simp)) rfl)) (by simp)) (by simp)) rfl) (by simp;omega))))
theorem valid_ev {d:Nat} {e:SE} (h:okE d e) (hd:d<=5):Ev (fun k=>Sal.f k e.f0 e.f1 e.f2) true:=by
 simp only [Sal.f]
 exact Ev.bind (l4Ok_ev d e h 5 (by omega) (by omega)) Ev.pure
theorem simple_ev {x:ST} (h:simS x) (k0:Int):Ev (fun k=>SaC.f k x.f0 x.f1 x.f2 x.f3.f0 x.f3.f1 x.f3.f2 x.f4 x.f5 k0) true:=by
 obtain⟨f0,f1,f2,f3,f4,f5⟩:=x
 obtain⟨e4,e5,h⟩:=h
 simp only at e4 e5 h
 subst e4;subst e5
 have h2:f0≠2:=by omega
 have h3:f0≠3:=by omega
 refine Ev.succ ?_
 simp only [SaC.f]
 refine Ev.neg (Ev.succ ?_)
 simp only [SaC.j0]
 refine Ev.pos (Ev.bind ?_ Ev.pure) (by simp [h3])
 simp only [SaE.f]
 refine Ev.neg (Ev.succ ?_)
 simp only [SaE.j0,SaF.f,SaA.f,Sbl.e,SaD.f]
 refine Ev.neg ?_
 rcases h with ⟨rfl,q1,q2,q3,q4⟩ | ⟨rfl,q1,q2,q3,q4⟩ | ⟨rfl,q1,q2,q3,q4,q5⟩ | ⟨rfl,q1,q2,q3⟩ | ⟨rfl,q1,q2,q3⟩
 ·refine Ev.pos (Ev.bind (a:=true) (Ev.pos (Ev.some (Ev.pure.eq (by simp;omega)))) (Ev.pos (Ev.bind (a:=true) (Ev.neg (Ev.pure.eq (by simp;omega))) (Ev.pos (Ev.bind (valid_ev q4 (by omega)) Ev.pure) rfl)) rfl))
 ·refine Ev.neg (Ev.pos (Ev.bind (a:=true) (Ev.neg (Ev.pure.eq (by simp;omega))) (Ev.pos (Ev.bind (a:=true) (Ev.pos (Ev.some (Ev.pure.eq (by simp;omega)))) (Ev.pos (Ev.bind (valid_ev q4 (by omega)) Ev.pure) rfl)) rfl)))
 ·subst q5
  exact Ev.neg (Ev.neg (Ev.pos (Ev.bind (a:=true) (Ev.pos (Ev.some (Ev.pure.eq (by simp;omega)))) (Ev.pos (Ev.bind (a:=true) (Ev.pos (Ev.some (Ev.pure.eq (by simp;omega)))) (Ev.pos (Ev.bind (a:=true) (Ev.pos (Ev.pos (Ev.pure.eq rfl) rfl) rfl) Ev.pure) rfl)) rfl))))
 ·subst q3
  exact Ev.neg (Ev.neg (Ev.neg (Ev.pos (Ev.bind (a:=true) (Ev.neg (Ev.pure.eq (by simp;omega))) (Ev.pos (Ev.bind (a:=true) (Ev.neg (Ev.pure.eq (by simp;omega))) (Ev.pos (Ev.bind (a:=true) (Ev.pos (Ev.pos (Ev.pure.eq rfl) rfl) rfl) Ev.pure) rfl)) rfl)))))
 exact Ev.neg (Ev.neg (Ev.neg (Ev.neg (Ev.pos (Ev.bind (a:=true) (Ev.neg (Ev.pure.eq (by simp;omega))) (Ev.pos (Ev.bind (a:=true) (Ev.neg (Ev.pure.eq (by simp;omega))) (Ev.pos (Ev.bind (valid_ev q3 (by omega)) Ev.pure) rfl)) rfl))))))
theorem blocks_out {l:List ST} (hl:l.length<=12) {a:Int} (hx:∀ x∈l,Ev (fun k=>SaC.f k x.f0 x.f1 x.f2 x.f3.f0 x.f3.f1 x.f3.f2 x.f4 x.f5 a) true):∀ (d i:Nat),i+d=l.length->Ev (fun k=>Saz.l0 k l a (i:Int)) true
 | 0,i,hi=>by
  refine Ev.succ ?_
  simp only [Saz.l0]
  exact Ev.neg Ev.pure
 | d+1,i,hi=>by
  refine Ev.succ ?_
  simp only [Saz.l0,rd_st,wrap_up (show i < 9223372036854775807 by omega)]
  exact Ev.pos (Ev.pos (Ev.bind (hx _ (st_mem (by omega))) (Ev.pos (blocks_out hl hx d (i+1) (by omega)) rfl)))
theorem blocks_all {l:List ST} (hl:l.length<=12) {a:Int} (hx:∀ x∈l,Ev (fun k=>SaC.f k x.f0 x.f1 x.f2 x.f3.f0 x.f3.f1 x.f3.f2 x.f4 x.f5 a) true):Ev (fun k=>Saz.f k l a) true:=by
 refine Ev.succ ?_
 simp only [Saz.f]
 exact blocks_out hl hx l.length 0 (Nat.zero_add _)
theorem ok_ev:∀ (n:Nat),n<=3->∀ x:ST,okS n x->Ev (fun k=>SaC.f k x.f0 x.f1 x.f2 x.f3.f0 x.f3.f1 x.f3.f2 x.f4 x.f5 (n:Int)) true
 | 0,_,x,h=>simple_ev h _
 | n+1,hn,x,h=>by
  rcases h with h | ⟨q0,q1,q2,q3,l4,l5,h4,h5⟩
  ·exact simple_ev h _
  have b4:=blocks_all (l:=x.f4) (by omega) fun y hy=>ok_ev n (by omega) y (h4 y hy)
  have b5:=blocks_all (l:=x.f5) (by omega) fun y hy=>ok_ev n (by omega) y (h5 y hy)
  have e:wrap64 (((n+1:Nat):Int) - 1)=(n:Int):=by rw [wrap_id (by omega) (by omega)];omega
  have j1:Ev (fun k=>SaC.j1 k ((n+1:Nat):Int) false x.f0 x.f1 x.f2 x.f3.f0 x.f3.f1 x.f3.f2 x.f4 x.f5) true:=by
   refine Ev.succ ?_
   simp only [SaC.j1,SaF.f,SaA.f,Sbl.e,q1,q2,e]
   exact Ev.neg (Ev.bind (a:=true) (Ev.neg (Ev.pure.eq rfl)) (Ev.pos (Ev.bind (a:=true) (Ev.neg (Ev.pure.eq rfl)) (Ev.pos (Ev.bind (valid_ev q3 (by omega)) (Ev.pos (Ev.bind b4 (Ev.pos (Ev.bind b5 Ev.pure) rfl)) rfl)) rfl)) rfl))
  refine Ev.succ ?_
  simp only [SaC.f]
  rcases q0 with q0 | ⟨q0,q5⟩
  ·refine Ev.pos (Ev.succ ?_) q0
   simp only [SaC.j0]
   exact Ev.neg (Ev.neg (Ev.neg j1))
  refine Ev.neg (Ev.succ ?_)
  simp only [SaC.j0]
  refine Ev.neg (Ev.neg (Ev.pos ?_ q0)) (by simp [q0])
  rw [q5] at j1 ⊢
  exact j1
theorem stmtsValid_ev {l:List ST} (h:okL l):Ev (fun k=>Saw.f k l) true:=by
 obtain⟨h1,h2,c,h3,h4⟩:=h
 simp only [Saw.f]
 exact Ev.bind (blocks_all h1 fun x hx=>ok_ev 3 (by omega) x (h2 x hx)) (Ev.pos (Ev.bind h4 (Ev.pure.eq (by simpa using h3))) rfl)
def upQ (t:Int) (c:List SQ):Prop:=∀ q∈c,∀ m:Int,t < m->QV (q_ q) m
theorem r4:rg 4:=by decide
theorem upQ.le {t u:Int} {c:List SQ} (h:upQ t c) (hu:t<=u):upQ u c:=fun q hq m hm=>h q hq m (by omega)
theorem upQ.app {t:Int} {c d:List SQ} (h:upQ t c) (h':upQ t d):upQ t (c ++ d):=fun q hq=>(List.mem_append.1 hq).elim (h q) (h' q)
theorem upQ.one {t:Int} {q:SQ} (h:∀ m:Int,t < m->QV (q_ q) m):upQ t [q]:=fun x hx=>by rw [List.mem_singleton.1 hx];exact h
theorem rd_se0 (x y:SE):rd_T90 [x,y] 0=x:=rfl
theorem rd_se1 (x y:SE):rd_T90 [x,y] 1=y:=rfl
def cX:Nat->Nat
 | 0=>0
 | d+1=>2*cX d+1
theorem cX_le {d:Nat} (h:d<=3):cX d<=7:=by
 match d,h with
 | 0,_=>decide
 | 1,_=>decide
 | 2,_=>decide
 | 3,_=>decide
theorem qa_mem {c:List SQ} {i:Nat} (h:i < c.length):qa c i∈c:=by
 unfold qa
 rw [show c.getD i z27=c[i] by simp [h]]
 exact List.getElem_mem _
theorem l22Expr_an:∀ (d:Nat),d<=3->∀ (e:SE),okE d e->∀ a:Int,0<=a->a+d<=12->An (fun k=>SaI.f k e.f0 e.f1 e.f2 a) (fun c=>1<=c.length/\c.length<=cX d/\upQ (-1) c)
 | 0,_,_,h,_,_,_=>h.elim
 | d+1,hd,⟨f0,f1,f2⟩,h,a,ha,ha'=>by
  have c7:=cX_le (d:=d) (by omega)
  refine An.succ ?_
  simp only [SaI.f]
  rcases h with ⟨q0,q1,q2,q3⟩ | ⟨q0,q1,q2,q3⟩ | ⟨q0,q1,q2,x,y,q3,q4,q5⟩
  ·simp only at q0 q1 q2
   exact An.pos (An.pure ⟨by simp,by simp [cX],upQ.one fun m hm=>Or.inl ⟨rfl,⟨ha,by simp only [q_];omega⟩,rfl,rfl,by simp only [q_];omega,by simp only [q_];omega⟩⟩)
  ·simp only at q0 q1 q2
   exact An.neg (An.pos (An.pure ⟨by simp,by simp [cX],upQ.one fun m hm=>Or.inr (Or.inl ⟨rfl,⟨ha,by simp only [q_];omega⟩,⟨q1,by simp only [q_];omega⟩,rfl,rfl⟩)⟩))
  simp only at q0 q1 q2 q3
  subst q3
  have hd0:1<=d:=by
   cases d with
   | zero=>exact q4.elim
   | succ d=>omega
  have ew:wrap64 (a+1)=a+1:=wrap_id (by omega) (by omega)
  simp only [ew,rd_se0,rd_se1]
  refine An.neg (An.neg (An.pos (An.bind (l22Expr_an d (by omega) x q4 a ha (by omega)) fun c h1=>An.pos (An.bind (l22Expr_an d (by omega) y q5 (a+1) (by omega) (by omega)) fun c' h2=>An.pos (An.some (An.pos (An.pure ?_) ?_))) (by simp)) (by simp)))
  ·refine⟨by simp;omega,by simp [cX];omega,upQ.app (upQ.app h1.2.2 h2.2.2) (upQ.one fun m hm=>Or.inr (Or.inr (Or.inl ⟨rfl,⟨ha,by simp only [q_];omega⟩,⟨ha,by simp only [q_];omega⟩,⟨by simp only [q_];omega,by simp only [q_];omega⟩,q0,q1⟩)))⟩
  simp only [List.length_append]
  omega
theorem expr_an {e:SE} (h:okE 3 e):An (fun k=>SaI.f k e.f0 e.f1 e.f2 4) (fun c=>1<=c.length/\c.length<=7/\upQ (-1) c):=l22Expr_an 3 (by omega) e h 4 (by omega) (by omega)
theorem expr_zero:An (fun k=>SaI.f k 0 0 [] 4) (fun c=>1<=c.length/\c.length<=7/\upQ (-1) c):=expr_an (e:=⟨0,0,[]⟩) (Or.inl ⟨rfl,by simp,by simp,rfl⟩)
def cZ:Nat->Nat
 | 0=>8
 | n+1=>9+10*cZ n
theorem cZ_le {n:Nat} (h:n<=3):cZ n<=8999/\8<=cZ n:=by
 match n,h with
 | 0,_=>decide
 | 1,_=>decide
 | 2,_=>decide
 | 3,_=>decide
def CodeOk (Z:Nat) (A:Int) (x:ST):Prop:=∀ a:Int,0<=a->a<=A->An (fun k=>SaL.f k x.f0 x.f1 x.f2 x.f3.f0 x.f3.f1 x.f3.f2 x.f4 x.f5 a) (fun c=>c.length<=Z/\upQ (a+c.length) c)
theorem list_out {l:List ST} (hl:l.length<=12) {Z:Nat} (hZ:Z<=9000) {A:Int} (hA:A<=1000000) (hx:∀ x∈l,CodeOk Z A x) {a:Int} (ha:0<=a) (ha':a+108000<=A):∀ (d i:Nat),i+d=l.length->∀ o:List SQ,o.length<=i*Z->upQ (a+o.length) o->An (fun k=>SaK.l0 k l a o (i:Int)) (fun c=>c.length<=l.length*Z/\upQ (a+c.length) c)
 | 0,i,hi,o,ho,hu=>by
  refine An.succ ?_
  simp only [SaK.l0]
  exact An.neg (An.pure ⟨by rw [show l.length=i by omega];exact ho,hu⟩)
 | d+1,i,hi,o,ho,hu=>by
  have m1:i*Z<=12*9000:=Nat.mul_le_mul (by omega) hZ
  refine An.succ ?_
  simp only [SaK.l0,rd_st,wrap_up (show i < 9223372036854775807 by omega)]
  have ew:wrap64 (a+(o.length:Int))=a+o.length:=wrap_id (by omega) (by omega)
  rw [ew]
  refine An.pos (An.pos (An.bind (hx _ (st_mem (by omega)) (a+o.length) (by omega) (by omega)) fun c h1=>An.pos (list_out hl hZ hA hx ha ha' d (i+1) (by omega) (o ++ c) ?_ ?_)))
  ·rw [List.length_append,Nat.add_mul,Nat.one_mul]
   omega
  rw [List.length_append]
  exact upQ.app (hu.le (by omega)) (h1.2.le (by omega))
theorem list_an {l:List ST} (hl:l.length<=12) {Z:Nat} (hZ:Z<=9000) {A:Int} (hA:A<=1000000) (hx:∀ x∈l,CodeOk Z A x) {a:Int} (ha:0<=a) (ha':a+108000<=A):An (fun k=>SaK.f k l a) (fun c=>c.length<=l.length*Z/\upQ (a+c.length) c):=by
 refine An.succ ?_
 simp only [SaK.f]
 exact list_out hl hZ hA hx ha ha' l.length 0 (Nat.zero_add _) [] (by simp) (fun q hq=>by cases hq)
theorem code_sim {x:ST} (h:simS x) (A:Int):CodeOk 8 A x:=by
 intro a ha ha'
 obtain⟨f0,f1,f2,f3,f4,f5⟩:=x
 obtain⟨_,_,h⟩:=h
 simp only at h ⊢
 refine An.succ ?_
 simp only [SaL.f]
 rcases h with ⟨rfl,q1,q2,q3,q4⟩ | ⟨rfl,q1,q2,q3,q4⟩ | ⟨rfl,q1,q2,q3,q4,rfl⟩ | ⟨rfl,q1,q2,rfl⟩ | ⟨rfl,q1,q2,q3⟩
 ·refine An.bind (expr_an q4) fun c h1=>An.neg (An.neg (An.pos (An.pos (An.pure ⟨by simp;omega,upQ.app (h1.2.2.le (by omega)) (upQ.one fun m hm=>Or.inr (Or.inl ⟨rfl,⟨q1,by simp only [q_];omega⟩,r4,rfl,rfl⟩))⟩))))
 ·refine An.bind (expr_an q4) fun c h1=>An.neg (An.neg (An.neg (An.pos (An.pos (An.pure ⟨by simp;omega,upQ.app (h1.2.2.le (by omega)) (upQ.one fun m hm=>Or.inr (Or.inr (Or.inr (Or.inr (Or.inr (Or.inl ⟨rfl,rfl,r4,rfl,q2,q3⟩))))))⟩)))))
 ·refine An.bind expr_zero fun c h1=>An.neg (An.neg (An.neg (An.neg (An.neg (An.pos (An.pure ⟨by simp,upQ.one fun m hm=>Or.inr (Or.inr (Or.inr (Or.inr (Or.inr (Or.inr (Or.inl ⟨rfl,⟨q1,by simp only [q_];omega⟩,rfl,rfl,q3,q4⟩))))))⟩))))))
 ·refine An.bind expr_zero fun c h1=>An.neg (An.neg (An.neg (An.neg (An.neg (An.neg (An.pure ⟨by simp,upQ.one fun m hm=>Or.inr (Or.inr (Or.inr (Or.inr (Or.inr (Or.inr (Or.inr (Or.inr ⟨Or.inl rfl,rfl,rfl,rfl,rfl⟩)))))))⟩))))))
 refine An.bind (expr_an q3) fun c h1=>An.neg (An.neg (An.neg (An.neg (An.pos (An.pos (An.pure ⟨by simp;omega,upQ.app (h1.2.2.le (by omega)) (upQ.one fun m hm=>Or.inr (Or.inr (Or.inr (Or.inr (Or.inr (Or.inr (Or.inr (Or.inl ⟨rfl,rfl,r4,rfl,rfl⟩))))))))⟩))))))
theorem qv_jump {n m:Int} (h:0<=n) (h':n < m):QV (q_ ⟨4,0,0,0,n⟩) m:=Or.inr (Or.inr (Or.inr (Or.inl ⟨rfl,rfl,rfl,rfl,h,h'⟩)))
theorem qv_zero {n m:Int} (h:0<=n) (h':n < m):QV (q_ ⟨5,0,4,0,n⟩) m:=Or.inr (Or.inr (Or.inr (Or.inr (Or.inl ⟨rfl,rfl,r4,rfl,h,h'⟩))))
theorem code_ok:∀ n,n<=3->∀ x:ST,okS n x->CodeOk (cZ n) (1000000 - 200000*n) x
 | 0,_,x,h=>code_sim h _
 | n+1,hn,x,h=>by
  obtain⟨z1,z0⟩:=cZ_le (n:=n) (by omega)
  rcases h with h | ⟨q0,q1,q2,q3,l4,l5,h4,h5⟩
  ·intro a ha ha'
   exact (code_sim h _ a ha ha').mono fun c hc=>⟨by simp only [cZ];omega,hc.2⟩
  intro a ha ha'
  have m4:x.f4.length*cZ n<=5*cZ n:=Nat.mul_le_mul_right _ l4
  have m5:x.f5.length*cZ n<=5*cZ n:=Nat.mul_le_mul_right _ l5
  have c4:∀ u:Int,0<=u->u<=a+10->An (fun k=>SaK.f k x.f4 u) (fun c=>c.length<=x.f4.length*cZ n/\upQ (u+c.length) c):=fun u hu hu'=>list_an (by omega) (by omega) (A:=1000000 - 200000*n) (by omega) (fun y hy=>code_ok n (by omega) y (h4 y hy)) hu (by omega)
  have c5:∀ u:Int,0<=u->u<=a+50000->An (fun k=>SaK.f k x.f5 u) (fun c=>c.length<=x.f5.length*cZ n/\upQ (u+c.length) c):=fun u hu hu'=>list_an (by omega) (by omega) (A:=1000000 - 200000*n) (by omega) (fun y hy=>code_ok n (by omega) y (h5 y hy)) hu (by omega)
  refine An.succ ?_
  simp only [SaL.f]
  refine An.bind (expr_an q3) fun _ _=>?_
  rcases q0 with q0 | ⟨q0,q5⟩
  ·refine An.pos (An.bind (An.succ ?_) fun c hc=>An.pure hc) q0
   simp only [SaJ.f]
   refine An.bind (expr_an q3) fun e h1=>?_
   have w1:wrap64 (wrap64 (a+(e.length:Int))+1)=a+e.length+1:=by unfold wrap64;omega
   simp only [w1]
   refine An.bind (c4 _ (by omega) (by omega)) fun b h2=>?_
   have w2:wrap64 (a+(e.length:Int)+1+(b.length:Int))=a+e.length+1+b.length:=by unfold wrap64;omega
   have w3:wrap64 (a+(e.length:Int)+1+(b.length:Int)+1)=a+e.length+1+b.length+1:=by unfold wrap64;omega
   simp only [w2,w3]
   refine An.ite (fun z=>?_) (fun z=>?_)
   ·refine An.pos (An.some (An.pos (An.pure ⟨?_,?_⟩) ?_))
    ·simp only [List.length_append,List.length_cons,List.length_nil,cZ]
     omega
    ·simp only [List.length_append,List.length_cons,List.length_nil]
     exact upQ.app (upQ.app (h1.2.2.le (by omega)) (upQ.one fun m hm=>qv_zero (by omega) (by omega))) (h2.2.le (by omega))
    simp only [List.length_append,List.length_cons,List.length_nil]
    omega
   refine An.bind (c5 _ (by omega) (by omega)) fun d h3=>?_
   have w4:wrap64 (a+(e.length:Int)+1+(b.length:Int)+1+(d.length:Int))=a+e.length+1+b.length+1+d.length:=by unfold wrap64;omega
   simp only [w4]
   refine An.pos (An.some (An.pos (An.some (An.pos (An.some (An.pos (An.pure ⟨?_,?_⟩) ?_)) ?_)) ?_))
   ·simp only [List.length_append,List.length_cons,List.length_nil,cZ]
    omega
   ·simp only [List.length_append,List.length_cons,List.length_nil]
    exact upQ.app (upQ.app (upQ.app (upQ.app (h1.2.2.le (by omega)) (upQ.one fun m hm=>qv_zero (by omega) (by omega))) (h2.2.le (by omega))) (upQ.one fun m hm=>qv_jump (by omega) (by omega))) (h3.2.le (by omega))
   all_goals
    simp only [List.length_append,List.length_cons,List.length_nil]
    omega
  refine An.neg (An.pos (An.bind (An.succ ?_) fun c hc=>An.pure hc) q0)
  simp only [SaM.f]
  refine An.bind (expr_an q3) fun e h1=>?_
  have w1:wrap64 (wrap64 (a+(e.length:Int))+1)=a+e.length+1:=by unfold wrap64;omega
  simp only [w1]
  refine An.bind (c4 _ (by omega) (by omega)) fun b h2=>?_
  have w2:wrap64 (wrap64 (a+(e.length:Int)+1+(b.length:Int))+1)=a+e.length+1+b.length+1:=by unfold wrap64;omega
  simp only [w2]
  refine An.pos (An.some (An.pos (An.some (An.pos (An.pure ⟨?_,?_⟩) ?_)) ?_))
  ·simp only [List.length_append,List.length_cons,List.length_nil,cZ]
   omega
  ·simp only [List.length_append,List.length_cons,List.length_nil]
   exact upQ.app (upQ.app (upQ.app (h1.2.2.le (by omega)) (upQ.one fun m hm=>qv_zero (by omega) (by omega))) (h2.2.le (by omega))) (upQ.one fun m hm=>qv_jump (by omega) (by omega))
  all_goals
   simp only [List.length_append,List.length_cons,List.length_nil]
   omega
theorem compileTask_an {l:List ST} (h:okL l):An (fun k=>Sag.f k l) (fun v=>v.1.length<=600->CV (qs v.1)):=by
 have m1:l.length*cZ 3<=12*9000:=Nat.mul_le_mul h.1 (by decide)
 simp only [Sag.f]
 refine An.bind (An.ev (P:=fun u=>u=true) (stmtsValid_ev h) rfl) fun u hu=>An.pos (An.bind (list_an (Z:=cZ 3) (A:=1000000 - 200000*(3:Nat)) (by have:=h.1;omega) (by decide) (by decide) (fun y hy=>code_ok 3 (by omega) y (h.2.1 y hy)) (a:=0) (by omega) (by decide)) fun c h1=>An.pos (An.pure ?_)) hu
 intro h6
 refine⟨by simp [qs],by simpa [qs] using h6,?_,?_⟩
 ·rw [qs_len]
  intro i hi
  rw [at_qs]
  have hm:qa (c ++ [(⟨10,0,0,0,0⟩:SQ)]) i∈c ++ [(⟨10,0,0,0,0⟩:SQ)]:=qa_mem hi
  rcases List.mem_append.1 hm with q|q
  ·exact h1.2 _ q _ (by simp;omega)
  rw [List.mem_singleton.1 q]
  exact Or.inr (Or.inr (Or.inr (Or.inr (Or.inr (Or.inr (Or.inr (Or.inr ⟨Or.inr rfl,rfl,rfl,rfl,rfl⟩)))))))
 refine Or.inl ?_
 rw [qs_len,at_qs]
 simp [qa,q_]
def Step:Nat->List SQ->List SQ->Prop
 | 0,c,v=>Ev (fun k=>San.f k c) (v,true)
 | 1,c,v=>Ev (fun k=>Sai.f k c) (v,true)
 | 2,c,v=>Ev (fun k=>Sao.f k c) (v,true)
 | 3,c,v=>Ev (fun k=>Saj.f k c) (v,true)
 | _,c,v=>Ev (fun k=>Sav.f k c) (v,true)
theorem step0 {c:List SQ} (h:CV (qs c)):∃ v,CV (qs v)/\Step 0 c v:=by
 obtain⟨U,hU,e⟩:=San.ev h
 exact⟨_,foldC_valid h hU.1.1,e⟩
theorem step1 {c:List SQ} (h:CV (qs c)):∃ v,CV (qs v)/\Step 1 c v:=by
 obtain⟨U,hU,e⟩:=Sai.ev h
 exact⟨_,copyC_valid h hU.1.1,e⟩
theorem step2 {c:List SQ} (h:CV (qs c)):∃ v,CV (qs v)/\Step 2 c v:=⟨_,jumpC_valid h,Sao.ev h⟩
theorem step3 {c:List SQ} (h:CV (qs c)):∃ v,CV (qs v)/\Step 3 c v:=by
 obtain⟨v,_,hv,e,_⟩:=dead_ev h
 exact⟨v,hv,e⟩
theorem step4 {c:List SQ} (h:CV (qs c)):∃ v,CV (qs v)/\Step 4 c v:=by
 obtain⟨U,hU,e⟩:=Sav.ev h
 exact⟨_,sqC_valid h hU,e⟩
def Lead:Nat->List SQ->List SQ->Prop
 | 0,c,y=>y=c
 | j+1,c,y=>∃ x,Lead j c x/\Step j x y
theorem lead_once {c y:List SQ} (h:Lead 5 c y):Ev (fun k=>Sbh.f k c) y:=by
 obtain⟨x4,⟨x3,⟨x2,⟨x1,⟨x0,rfl,s0⟩,s1⟩,s2⟩,s3⟩,s4⟩:=h
 simp only [Sbh.f]
 exact Ev.bind s0 (Ev.bind s1 (Ev.bind s2 (Ev.bind s3 (Ev.bind s4 Ev.pure))))
theorem Sbh.ev {c:List SQ} (h:CV (qs c)):∃ v,CV (qs v)/\Ev (fun k=>Sbh.f k c) v:=by
 obtain⟨x1,h1,s1⟩:=step0 h
 obtain⟨x2,h2,s2⟩:=step1 h1
 obtain⟨x3,h3,s3⟩:=step2 h2
 obtain⟨x4,h4,s4⟩:=step3 h3
 obtain⟨x5,h5,s5⟩:=step4 h4
 exact⟨x5,h5,lead_once ⟨_,⟨_,⟨_,⟨_,⟨_,rfl,s1⟩,s2⟩,s3⟩,s4⟩,s5⟩⟩
theorem Sar.last (t:Int) (x:List SQ):Ev (fun k=>Sar.l0 k t x t) (x,true):=by
 refine Ev.succ ?_
 simp only [Sar.l0]
 exact Ev.neg Ev.pure
theorem Sar.next {t:Int} (ht:t<=4) {r:Nat} (hr:(r:Int) < t) {x y:List SQ} (h:Ev (fun k=>Sbh.f k x) y) {z:List SQ × Bool} (hz:Ev (fun k=>Sar.l0 k t y ((r+1:Nat):Int)) z):Ev (fun k=>Sar.l0 k t x (r:Int)) z:=by
 refine Ev.succ ?_
 simp only [Sar.l0,wrap_up (show r < 9223372036854775807 by omega)]
 exact Ev.pos (Ev.bind h hz)
theorem Sar.out {t:Nat} (ht:t<=4):∀ (d r:Nat),r+d=t->∀ {x:List SQ},CV (qs x)->∃ v,CV (qs v)/\Ev (fun k=>Sar.l0 k (t:Int) x (r:Int)) (v,true)
 | 0,r,hr,x,h=>⟨x,h,by rw [show r=t from by omega];exact Sar.last _ _⟩
 | d+1,r,hr,x,h=>by
  obtain⟨y,hy,e⟩:=Sbh.ev h
  obtain⟨v,hv,e2⟩:=Sar.out ht d (r+1) (by omega) hy
  exact⟨v,hv,Sar.next (by omega) (by omega) e e2⟩
def okT (c:List SQ) (t:Int):Prop:=CV (qs c)/\0<=t/\t<=4
theorem Sar.start {c:List SQ} {t:Int} (h:okT c t) {z:List SQ × Bool} (hz:Ev (fun k=>Sar.l0 k t c 0) z):Ev (fun k=>Sar.f k c t) z:=by
 have h6:=cv600 h.1
 simp only [Sar.f,Sbl.e]
 refine Ev.bind (Saf.ev c) (Ev.pos (Ev.some ?_) (decide_eq_true h.1))
 rw [decide_eq_true h.2]
 refine Ev.succ ?_
 simp only [Sar.j0]
 refine Ev.neg (Ev.some (Ev.pos hz ?_)) (by simp)
 simp only [List.length_nil]
 omega
theorem Sar.ev {c:List SQ} {t:Int} (h:okT c t):∃ v,CV (qs v)/\Ev (fun k=>Sar.f k c t) (v,true):=by
 obtain⟨v,hv,e⟩:=Sar.out (t:=t.toNat) (by have:=h.2;omega) t.toNat 0 (Nat.zero_add _) h.1
 rw [Int.toNat_of_nonneg h.2.1] at e
 exact⟨v,hv,Sar.start h e⟩
theorem l93Quad_an {b:List Int} (hb:Bt b) {p n:Int} (hn:1<=n) (h:0<=p/\p+8<=1000000):An (fun k=>SbB.f k b p n) (fun v=>p<=v.2.2.2.2.2/\v.2.2.2.2.2<=p+8):=by
 have j2:∀ x c q,p<=q->q<=p+1->An (fun k=>SbB.j2 k n x c b q) (fun v=>p<=v.2.2.2.2.2/\v.2.2.2.2.2<=p+8):=by
  intro x c q hq hq'
  refine An.succ ?_
  simp only [SbB.j2]
  refine An.ite (fun _=>An.bind (l93Reg_an hb (by omega)) fun v h1=>An.bind (l93Reg_an hb (by omega)) fun v h2=>An.bind (l93Reg_an hb (by omega)) fun v h3=>An.bind (l91Op_an hb (by omega)) fun v h4=>An.pure (by simp only;omega)) (fun _=>?_)
  refine An.ite (fun _=>An.bind (pick0_an hb n (by omega)) fun v h1=>An.pure (by simp only;omega)) (fun _=>?_)
  refine An.ite (fun _=>An.bind (l93Reg_an hb (by omega)) fun v h1=>An.bind (pick0_an hb n (by omega)) fun v h2=>An.pure (by simp only;omega)) (fun _=>?_)
  refine An.ite (fun _=>An.bind (l93Reg_an hb (by omega)) fun v h1=>An.bind (pick0_an hb 2 (by omega)) fun v h2=>An.pure (by simp only;omega)) (fun _=>?_)
  refine An.ite (fun _=>An.bind (l93Reg_an hb (by omega)) fun v h1=>An.bind (pick0_an hb 2 (by omega)) fun v h2=>An.pure (by simp only;omega)) (fun _=>?_)
  exact An.bind (pick0_an hb 4 (by omega)) fun v h1=>An.ite (fun _=>An.pure (by simp only;omega)) (fun _=>An.bind (l93Reg_an hb (by omega)) fun v h2=>An.pure (by simp only;omega))
 have j1:∀ x c q,p<=q->q<=p+1->An (fun k=>SbB.j1 k n x c b q) (fun v=>p<=v.2.2.2.2.2/\v.2.2.2.2.2<=p+8):=by
  intro x c q hq hq'
  refine An.succ ?_
  simp only [SbB.j1]
  refine An.ite (fun _=>An.bind (l93Reg_an hb (by omega)) fun v h1=>An.bind (l93Reg_an hb (by omega)) fun v h2=>An.pure (by simp only;omega)) (fun _=>An.ite (fun _=>j2 _ _ _ hq hq') (fun _=>An.ite (fun _=>j2 _ _ _ hq hq') (fun _=>j2 _ _ _ hq hq')))
 have j0:∀ x c q,p<=q->q<=p+1->An (fun k=>SbB.j0 k n x c b q) (fun v=>p<=v.2.2.2.2.2/\v.2.2.2.2.2<=p+8):=by
  intro x c q hq hq'
  refine An.succ ?_
  simp only [SbB.j0]
  refine An.ite (fun _=>An.bind (l93Reg_an hb (by omega)) fun v h1=>An.bind (l91Word_an hb (by omega)) fun v h2=>An.some (An.bind (pick0_an hb 4 (by omega)) fun v h3=>An.pos (An.pos (An.pure (by simp only;omega)) (by simp only [List.length_cons,List.length_nil];omega)))) (fun _=>An.ite (fun _=>j1 _ _ _ hq hq') (fun _=>j1 _ _ _ hq hq'))
 simp only [SbB.f]
 exact An.bind (pick0_an hb 12 (by omega)) fun v h1=>An.ite (fun _=>j0 _ _ _ (by omega) (by omega)) (fun _=>j0 _ _ _ (by omega) (by omega))
theorem random_out {b:List Int} (hb:Bt b) {m:Nat} (hm:m<=14):∀ (d i:Nat),i+1+d=m->∀ (o:List SQ) (p:Int),o.length=i->0<=p/\p+8*(d:Int)+2<=1000000->An (fun k=>SbC.l0 k (m:Int) o (i:Int) b p) (fun v=>1<=v.1.length/\v.1.length<=14/\p<=v.2/\v.2<=p+8*(d:Int)+2)
 | 0,i,hi,o,p,ho,h=>by
  refine An.succ ?_
  simp only [SbC.l0,wrap_up (show i < 9223372036854775807 by omega)]
  refine An.neg (An.bind (pick0_an hb 3 (by omega)) fun v h1=>An.ite (fun _=>An.bind (pick0_an hb (m:Int) (by omega)) fun u h2=>An.pos (An.pure ?_)) (fun _=>An.pos (An.pure ?_)))
  ·simp only [List.length_append,List.length_cons,List.length_nil];omega
  simp only [List.length_append,List.length_cons,List.length_nil];omega
 | d+1,i,hi,o,p,ho,h=>by
  refine An.succ ?_
  simp only [SbC.l0,wrap_up (show i < 9223372036854775807 by omega)]
  refine An.pos (An.bind (l93Quad_an hb (by omega) (by omega)) fun v h1=>An.pos ?_)
  exact (random_out hb hm d (i+1) (by omega) _ v.2.2.2.2.2 (by simp [ho]) (by omega)).mono fun u h2=>⟨h2.1,h2.2.1,by omega,by omega⟩
theorem l93Random_an {b:List Int} (hb:Bt b) {p:Int} (h:0<=p/\p+120<=1000000):An (fun k=>SbC.f k b p) (fun v=>1<=v.1.length/\v.1.length<=14/\p<=v.2/\v.2<=p+120):=by
 simp only [SbC.f]
 refine An.bind (pick0_an hb 14 (by omega)) fun v h1=>?_
 obtain⟨v1,v2⟩:=v
 obtain⟨m,rfl⟩:=Int.eq_ofNat_of_zero_le h1.1
 have hm:(m:Int) < 14:=h1.2.1
 have hp:v2=p+1:=h1.2.2
 have e:wrap64 (1+(m:Int))=((m+1:Nat):Int):=by rw [wrap_id (by omega) (by omega)];omega
 simp only [e]
 exact (random_out hb (m:=m+1) (by omega) m 0 (by omega) [] v2 rfl (by omega)).mono fun u h2=>⟨h2.1,h2.2.1,by omega,by omega⟩
theorem l93Good_an {b:List Int} (hb:Bt b) {p:Int} (h:0<=p/\p+9800<=1000000):An (fun k=>SbA.f k b p) (fun v=>1<=v.1.length/\v.1.length<=600/\p<=v.2/\v.2<=p+9800):=by
 simp only [SbA.f]
 refine An.bind (pick0_an hb 2 (by omega)) fun v h1=>An.ite (fun _=>An.bind (l93Random_an hb (by omega)) fun u h2=>An.pure ⟨h2.1,by show u.1.length<=600;omega,by simp only;omega⟩) (fun _=>?_)
 refine An.bind (l92Stmts_an hb (by omega) (by omega)) fun s h2=>An.bind (compileTask_an h2.1) fun c h3=>An.ite (fun _=>An.bind (l93Random_an hb (by omega)) fun u h4=>An.pure ⟨h4.1,by show u.1.length<=600;omega,by simp only;omega⟩) (fun g=>?_)
 refine An.bind (pick0_an hb 3 (by omega)) fun t h4=>?_
 have e1:Int.tdiv t.1 2=t.1 / 2:=Int.tdiv_eq_ediv_of_nonneg h4.1
 have e2:wrap64 (Int.tdiv t.1 2)=t.1 / 2:=by rw [e1,wrap_id (by omega) (by omega)]
 rw [e2]
 obtain⟨r,hr,er⟩:=Sar.ev (c:=c.1) (t:=t.1 / 2) ⟨h3 (by omega),by omega,by omega⟩
 have h6:=cv600 hr
 exact An.bind (An.ev (P:=fun u=>u=(r,true)) er rfl) fun u hu=>An.pure (by subst hu;exact⟨h6.1,h6.2,by simp only;omega,by simp only;omega⟩)
theorem l93Code_an {b:List Int} (hb:Bt b) {p:Int} (h:0<=p/\p+9900<=1000000):An (fun k=>Sbz.f k b p) (fun v=>v.1.length<=601/\p<=v.2/\v.2<=p+9900):=by
 simp only [Sbz.f]
 refine An.bind (l93Good_an hb (by omega)) fun c h1=>An.bind (pick0_an hb 36 (by omega)) fun v h2=>?_
 refine An.ite (fun _=>An.pos (An.pure ?_)) (fun _=>An.ite (fun _=>An.pos (An.pure ?_)) (fun _=>An.ite (fun _=>An.pos (An.pure ?_)) (fun _=>An.ite (fun _=>An.pure ?_) (fun _=>An.pure ?_))))
 all_goals
  simp only [List.length_set,List.length_append,List.length_cons,List.length_nil]
  omega
theorem byte_bd {x:Int} (h:(Lit.int .u8 x).wf=true):0<=x/\x < 256:=by
 simp [Lit.wf,IntKind.min,IntKind.max,IntKind.bits,IntKind.signed] at h
 omega
theorem l6Open_an {l:List Int} (h:∀ x∈l,(Lit.int .u8 x).wf=true):An (fun _=>Sbm.f l) (fun v=>Bt v.1/\v.2=0):=by
 simp only [Sbm.f]
 refine An.ite (fun c=>An.pos (An.pure ⟨⟨by simp;omega,fun x hx=>byte_bd (h x (List.mem_of_mem_take hx))⟩,rfl⟩)) (fun c=>An.pure ⟨⟨by show l.length<=2000;omega,fun x hx=>byte_bd (h x hx)⟩,rfl⟩)
theorem drawDeadCode_an {l:List Int} (h:∀ x∈l,(Lit.int .u8 x).wf=true):An (fun k=>Sak.f k l) (fun v=>v.length<=601):=by
 simp only [Sak.f]
 exact An.bind (l6Open_an h) fun v h1=>An.bind (l93Code_an h1.1 (by omega)) fun c h2=>An.pure h2.1
theorem sameCode_out (v:List SQ) (h:v.length<=1000):∀ (d p:Nat),p+d=v.length->Ev (fun k=>SbG.l0 k v v (p:Int)) true
 | 0,p,hp=>by
  refine Ev.succ ?_
  simp only [SbG.l0]
  exact Ev.neg Ev.pure
 | d+1,p,hp=>by
  refine Ev.succ ?_
  simp only [SbG.l0,wrap_up (show p < 9223372036854775807 by omega)]
  exact Ev.pos (Ev.pos (Ev.pos (Ev.neg (sameCode_out v h d (p+1) (by omega)))))
theorem sameCode_self (v:List SQ) (h:v.length<=1000):Ev (fun k=>SbG.f k v v) true:=by
 simp only [SbG.f]
 exact Ev.pos (sameCode_out v h v.length 0 (Nat.zero_add _))
theorem dead_bad {c:List SQ} (h:¬ CV (qs c)):Ev (fun k=>Saj.f k c) ([],false)/\Ev (fun k=>Sa1.f k c) ([],false):=by
 refine⟨?_,?_⟩
 ·simp only [Saj.f]
  exact Ev.some (Ev.bind (Saf.ev c) (Ev.neg Ev.pure (by simpa [cvB] using h)))
 simp only [Sa1.f]
 exact Ev.bind (Sa0.ev c) (Ev.neg Ev.pure (by simpa [cvB] using h))
theorem dead_all {c:List SQ} (h:CV (qs c)):∃ L,LT c L/\Ev (fun k=>Saj.f k c) (deadC L c,true)/\Ev (fun k=>Sa1.f k c) (deadC L c,true)/\Ev (fun k=>Sa2.f k c) ((deads c L).length:Int):=by
 have h6:=cv600 h
 obtain⟨L,hL,e1,e2⟩:=live_ev h
 have ed:Ev (fun k=>Sa5.f k c) (ints (deads c L)):=by
  simp only [Sa5.f]
  exact Ev.bind e2 (Sa5.out h hL.1 c.length 0 (Nat.zero_add _))
 refine⟨L,hL,?_,?_,?_⟩
 ·simp only [Saj.f]
  exact Ev.some (Ev.bind (Saf.ev c) (Ev.pos (Ev.bind e1 (Saj.out h hL.1 c.length 0 (Nat.zero_add _))) (decide_eq_true h)))
 ·simp only [Sa1.f,Sa3.f]
  refine Ev.bind (Sa0.ev c) (Ev.pos (Ev.bind (Ev.const (if_pos (by omega))) (Ev.bind (F:=fun k=>Sa5.f k c) ed ?_)) (decide_eq_true h))
  rw [ints_len]
  exact Sa1.out h (deads c L).length 0 (Nat.zero_add _) c rfl fun i hi=>by simp
 simp only [Sa2.f]
 exact Ev.bind (Sa0.ev c) (Ev.pos (Ev.bind (F:=fun k=>Sa5.f k c) ed (Ev.pure.eq (by rw [ints_len]))) (decide_eq_true h))
theorem fnDead_out {c:List SQ} (h:CV (qs c)) {L:List Nat} (hm:Ev (fun k=>Sa2.f k c) ((deads c L).length:Int)):∀ (d p:Nat),p+d=c.length->Ev (fun k=>SbF.l0 k c (deadC L c) ((upto c L p).length:Int) (p:Int)) true
 | 0,p,hp=>by
  have hl:=deadC_len L c
  refine Ev.succ ?_
  simp only [SbF.l0]
  refine Ev.neg (Ev.bind (Sa0.ev _) (Ev.pos (Ev.pos (Ev.bind hm (Ev.pure.eq ?_))) (decide_eq_true (deadC_valid h L))))
  rw [show p=c.length by omega]
  simp [upto,deads]
 | d+1,p,hp=>by
  have hn:=(cv600 h).2
  have hu:=upto_len c L p
  have hl:=deadC_len L c
  have ih:=fnDead_out h hm d (p+1) (by omega)
  rw [upto_next] at ih
  refine Ev.succ ?_
  simp only [SbF.l0,rd_qa,wrap_up (show p < 9223372036854775807 by omega),deadC_get L (show p < c.length by omega)]
  refine Ev.pos (Ev.pos (Ev.pos ?_))
  by_cases g:dd c L p=true
  ·rw [if_pos g] at ih
   rw [deadQ,if_pos g]
   have g4:(qa c p).f0≠4:=by
    intro e
    unfold dd at g
    simp [e] at g
   refine Ev.neg (Ev.neg ?_ (by simp)) (by simp;omega)
   rw [wrap_up (by omega)]
   simpa using ih
  rw [if_neg g] at ih
  rw [deadQ,if_neg g]
  refine Ev.pos ?_ (by simp)
  simpa using ih
theorem fnDead_an {l:List Int} (hw:∀ x∈l,(Lit.int .u8 x).wf=true):An (fun k=>SbF.f k l) (fun v=>v=true):=by
 simp only [SbF.f]
 refine An.ite (fun _=>An.pure rfl) (fun _=>An.bind (drawDeadCode_an hw) fun c hc=>?_)
 by_cases h:CV (qs c)
 ·obtain⟨L,hL,e1,e2,e3⟩:=dead_all h
  have h6:=(cv600 h).2
  have hl:=deadC_len L c
  refine An.ev (Ev.bind e2 (Ev.bind e1 (Ev.neg (Ev.bind (sameCode_self (deadC L c) (by omega)) (Ev.pos (Ev.succ ?_) rfl)) (by simp)))) rfl
  simp only [SbF.j0]
  exact Ev.neg (fnDead_out h e3 c.length 0 (Nat.zero_add _)) (by simp)
 obtain⟨e1,e2⟩:=dead_bad h
 refine An.ev (Ev.bind e2 (Ev.bind e1 (Ev.neg (Ev.bind (sameCode_self _ (by simp)) (Ev.pos (Ev.succ ?_) rfl)) (by simp)))) rfl
 simp only [SbF.j0]
 exact Ev.pos (Ev.pos (Ev.bind (sameCode_self _ (by simp)) Ev.pure) (by simp)) (by simp)
end Go.Proofs.YtebpplallecogaaGreat.M
namespace Go.Proofs.YtebpplallecogaaGreat.Pure
open Go.Proofs.YtebpplallecogaaGreat.M
theorem FnDead:SbF.Pure:=by
 intro l _ _ hw
 obtain⟨v,e,h⟩:=fnDead_an hw
 subst h
 exact e.get
end Go.Proofs.YtebpplallecogaaGreat.Pure
namespace Go.Proofs.YtebpplallecogaaGreat.fnDead
open Go.ChangeShapes Go.WideShapes Go.ChangeAt Go.RowKit
open Go.ChangeMaps (open_string shut_string)
theorem own:ownKnob Tryz.prog.godebug=none:=by kernel_rfl
theorem laidOut:laidOutB Tryz.prog=true:=by kernel_rfl
def IsRow (k:IntKind) (w:World) (a:Option Addr) (len cap:Nat) (zs:List Int):Prop :=
  (a=none/\len=0/\cap=0/\zs=[]) \/
  ∃ x,a=some x/\len<=cap/\cap<=maxLen/\zs.length=cap/\(∀ i,i < zs.length->w.cell? (x.add i)=some (.int k (zs.getD i 0)))/\∀ n∈zs,(Lit.int k n).wf=true
theorem lifted (os:Os) (started:os.Started) (H:Type) (enc:TypeId × Value->H) :
    ReturnsInHanded {} Tryz.checked os 4 .any (Rows.fnDeadSpec.pre6 enc Tryz.prog Tryz.f4 Rows.fnDeadRow.domain false) (Rows.fnDeadSpec.post enc Tryz.prog Tryz.f4 false true false false):=by
  refine returnsInHanded_of_change_sized (C:=Tryz.checked) own started (by kernel_rfl) Tryz.func4
    (ChangeSpec.witness6 (enc:=enc) (C:=Tryz.checked) false ⟨#[],#[.slice none 0 0],[]⟩ 8 (by kernel_rfl) (by kernel_rfl) (by kernel_rfl) (by kernel_rfl)) ?_
  intro W base args ds gs before hval0 hW hcnd hsz0 _
  have hsz:(DataW.weightsEach Tryz.prog (Tryz.f4.params.toList ++ Rows.fnDeadSpec.plain.varTypes Tryz.prog) (ds ++ gs)).all (·<=reachBytes)=true:=hsz0
  have hval:∀ (j:Nat) t v,Tryz.f4.params[j]?=some t->args[j]?=some v->Value.okWide Tryz.prog W .any base t v:=hval0
  have hW':=hW
  obtain⟨p,q,hA0,hV,rfl,hfz,hnd⟩:=hW
  have hA:DataW.TrodAll enc Tryz.prog W 0 (fun _=>true) true Tryz.f4.params.toList args.toList ds p:=hA0
  rw [Tryz.params4] at hA hval hsz
  obtain⟨v0,vs0,d0,ds0,p0,q0,hargs,rfl,rfl,h0,r0⟩:=trodAll_cons hA
  obtain⟨rfl,rfl,rfl⟩:=trodAll_nil r0
  obtain rfl:args = #[v0]:=by cases args;simp_all
  obtain⟨rfl,rfl⟩:=trodVars_none hV
  obtain⟨a0,len0,cap0,rfl⟩:=okWide_slice Tryz.underlying22 (hval 0 22 v0 rfl rfl)
  have k0:=h0
  have lt0:∀ x∈p0,x.block < W.heap.size:=by obtain⟨m,hm⟩:=k0;exact DataW.trod_lt m _ _ _ hm
  obtain⟨z0,w0⟩:∃ zs,IsRow .u8 W a0 len0 cap0 zs:=by
    obtain⟨fuel,hf⟩:=h0
    rcases open_ints Tryz.underlying22 Tryz.underlying5 (by kernel_rfl) hf with ⟨hcs,_⟩ | ⟨x,l,c,zs,hcs,_,hl,hm,hz,_,hcell,hwz⟩
    · simp [Value.cells] at hcs
      obtain⟨rfl,rfl,rfl⟩:=hcs
      exact⟨[],.inl ⟨rfl,rfl,rfl,rfl⟩⟩
    · simp [Value.cells] at hcs
      obtain⟨rfl,rfl,rfl⟩:=hcs
      exact⟨zs,.inr ⟨_,rfl,hl,hm,by simpa using hz,hcell,hwz⟩⟩
  have y0:len0*1<=140737488351232:=Go.Proofs.YtebpplallecogaaGreatW.PrintWords.sized_ints hsz (j:=0) (t:=22) rfl rfl Tryz.underlying22 Tryz.underlying5 (by kernel_rfl) (by kernel_rfl) h0
  clear hA0 hval0 hsz0 hsz
  refine (M.SbF.walk Pure.FnDead a0 len0 cap0 z0 W w0 y0).mono fun e W' ⟨he,bel⟩=>?_
  subst he
  exact⟨_,rfl,_,_,_,[],_,[],hW',trodAll_mk1 (shut_bool Tryz.underlying4 _),(trodAll_cons_mk (Below.trod laidOut (by kernel_rfl) (of_decide_eq_true (by kernel_rfl)) k0 bel lt0) trodAll_mk0),rfl,bel.frame _,fun h=>by cases h⟩
theorem over:Rows.fnDeadRow.holds Tryz.pinned (OpenSpec.ofChange Rows.fnDeadSpec) :=
  OpenClaim.holds_of_wide 4 Tryz.f4 rfl rfl rfl rfl rfl rfl rfl ⟨rfl,rfl,rfl,rfl,rfl⟩ rfl rfl rfl rfl rfl (by kernel_rfl) Tryz.func4 (by kernel_rfl)
    (of_decide_eq_true (by kernel_rfl)) (by unfold Func.isWrapper;first|(rw [if_pos (by decide +kernel)];kernel_rfl)|(rw [if_neg (by decide +kernel)];exact⟨rfl,rfl⟩))
    (fun os started H enc _=>lifted os started H enc)
theorem proved:Rows.FnDeadSaid:=over
end Go.Proofs.YtebpplallecogaaGreat.fnDead
namespace Go.Proofs.YtebpplallecogaaGreat
theorem fnDead_holds:Rows.FnDeadSaid:=fnDead.proved
end Go.Proofs.YtebpplallecogaaGreat
