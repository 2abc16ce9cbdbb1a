/- Part 4 of the proof: FnExactOptimizeCode holds, for every input. -/
import Derived.Test.YtahbkldagpfcaaaZF3
import Derived.Deep.MidRow
import Derived.ChangeKeysEq
set_option linter.unusedVariables false
set_option linter.unusedSimpArgs false
set_option maxHeartbeats 8000000
set_option maxRecDepth 100000
namespace Go.Proofs.Ytahbkldagpfcaaa.M
open Go.RowKit Go.Proofs.YtahbkldagpfcaaaW.PrintWords Go.Proofs.YtahbkldagpfcaaaW.PrintLast Go.Proofs.YtahbkldagpfcaaaW.PrintMore PM
theorem mix_len {α:Type} {A B:List α} (hl:A.length=B.length) {p:Nat} (hp:p<=A.length):(A.take p ++ B.drop p).length=A.length:=by
 rw [List.length_append,List.length_take,List.length_drop]
 omega
theorem mix_get {α:Type} (d:α) {A B:List α} (hl:A.length=B.length) {p:Nat} (hp:p<=A.length):(A.take p ++ B.drop p).getD p d=B.getD p d:=by
 rw [List.getD_eq_getElem?_getD,List.getElem?_append_right (by rw [List.length_take];omega),List.length_take,show p - min p A.length=0 from by omega,List.getElem?_drop,List.getD_eq_getElem?_getD]
 rfl
theorem mix_next {α:Type} (d:α) {A B:List α} (hl:A.length=B.length) {p:Nat} (hp:p < A.length):(A.take p ++ B.drop p).set p (A.getD p d)=A.take (p+1) ++ B.drop (p+1):=by
 rw [<- take_next d hp,drop_cons d (show p < B.length by omega),List.set_append_right _ _ (by rw [List.length_take];omega),List.length_take,show p - min p A.length=0 from by omega,List.set_cons_zero,List.append_assoc]
 rfl
theorem mix_same {α:Type} (d:α) {A B:List α} (hl:A.length=B.length) {p:Nat} (hp:p < A.length) (e:A.getD p d=B.getD p d):A.take p ++ B.drop p=A.take (p+1) ++ B.drop (p+1):=by
 rw [<- take_next d hp,drop_cons d (show p < B.length by omega),e,List.append_assoc]
 rfl
/-- Where jumps from a place lead to. -/
def tgt (c:List SQ):Nat->Nat->Nat->Nat
 | 0,x,a=>a
 | d+1,x,a=>if (qa c x).f0=4 then tgt c d (qa c x).f4.toNat a else x
theorem n_of {c:List SQ} (h:CV (qs c)) {x:Nat} (hx:x < c.length) (h4:(qa c x).f0=4\/(qa c x).f0=5):0<=(qa c x).f4/\(qa c x).f4 < c.length:=by
 have v:=cv_at h hx
 unfold QV q_ at v
 simp only at v
 omega
theorem tgt_lt {c:List SQ} (h:CV (qs c)) {a:Nat} (ha:a < c.length):∀ d x,x < c.length->tgt c d x a < c.length
 | 0,x,hx=>ha
 | d+1,x,hx=>by
  unfold tgt
  split
  ·rename_i g
   have:=n_of h hx (.inl g)
   exact tgt_lt h ha d _ (by omega)
  exact hx
theorem Sl36Target.out {c:List SQ} (h:CV (qs c)) (a:Nat):∀ (d p x:Nat),p+d=c.length->x < c.length->Ev (fun k=>Sl36Target.l0 k c (a:Int) (x:Int) (p:Int)) (tgt c d x a:Int)
 | 0,p,x,hp,hx=>by
  refine Ev.succ ?_
  simp only [Sl36Target.l0]
  exact Ev.neg Ev.pure
 | d+1,p,x,hp,hx=>by
  refine Ev.succ ?_
  have h6:=cv600 h
  simp only [Sl36Target.l0,rd_qa,wrap_up (show p < 9223372036854775807 by omega)]
  refine Ev.pos (Ev.pos (Ev.pos ?_))
  by_cases g:(qa c x).f0=4
  ·have:=n_of h hx (.inl g)
   have ih:=Sl36Target.out h a d (p+1) (qa c x).f4.toNat (by omega) (by omega)
   rw [Int.toNat_of_nonneg this.1] at ih
   refine Ev.pos (Ev.eq ih ?_)
   rw [tgt,if_pos g]
  refine Ev.neg (Ev.eq Ev.pure ?_)
  rw [tgt,if_neg g]
theorem IjumpTarget.out {c:List SQ} (h:CV (qs c)) (a:Nat):∀ (d p x:Nat),p+d=c.length->x < c.length->Ev (fun k=>IjumpTarget.l0 k c (a:Int) (x:Int) (c.length:Int) (p:Int)) (tgt c d x a:Int)
 | 0,p,x,hp,hx=>by
  refine Ev.succ ?_
  simp only [IjumpTarget.l0]
  exact Ev.neg Ev.pure
 | d+1,p,x,hp,hx=>by
  refine Ev.succ ?_
  have h6:=cv600 h
  simp only [IjumpTarget.l0,rd_qa,wrap_up (show p < 9223372036854775807 by omega)]
  refine Ev.pos (Ev.pos (Ev.pos ?_))
  by_cases g:(qa c x).f0=4
  ·have:=n_of h hx (.inl g)
   have ih:=IjumpTarget.out h a d (p+1) (qa c x).f4.toNat (by omega) (by omega)
   rw [Int.toNat_of_nonneg this.1] at ih
   refine Ev.pos (Ev.eq ih ?_)
   rw [tgt,if_pos g]
  refine Ev.neg (Ev.eq Ev.pure ?_)
  rw [tgt,if_neg g]
def tgts (c:List SQ) (n:Int):Int:=(tgt c c.length n.toNat n.toNat:Nat)
theorem Sl36Target.ev {c:List SQ} (h:CV (qs c)) {n:Int} (h0:0<=n) (h1:n < c.length):Ev (fun k=>Sl36Target.f k c n) (tgts c n):=by
 have:=Sl36Target.out h n.toNat c.length 0 n.toNat (Nat.zero_add _) (by omega)
 rw [Int.toNat_of_nonneg h0] at this
 exact this
theorem IjumpTarget.ev {c:List SQ} (h:CV (qs c)) {n:Int} (h0:0<=n) (h1:n < c.length):Ev (fun k=>IjumpTarget.f k c n) (tgts c n):=by
 have:=IjumpTarget.out h n.toNat c.length 0 n.toNat (Nat.zero_add _) (by omega)
 rw [Int.toNat_of_nonneg h0] at this
 exact this
def jmpQ (c:List SQ) (q:SQ):SQ:=if q.f0=4\/q.f0=5 then ⟨q.f0,q.f1,q.f2,q.f3,tgts c q.f4⟩ else q
def jumpC (c:List SQ):List SQ:=c.map (jmpQ c)
theorem jumpC_len (c:List SQ):(jumpC c).length=c.length:=by simp [jumpC]
theorem map_qa (f:SQ->SQ) {c:List SQ} {i:Nat} (h:i < c.length):qa (c.map f) i=f (qa c i):=by simp [qa,List.getD_eq_getElem?_getD,List.getElem?_eq_getElem h]
theorem jumpC_get {c:List SQ} {i:Nat} (h:i < c.length):qa (jumpC c) i=jmpQ c (qa c i):=map_qa _ h
theorem SJumpCode.out {c:List SQ} (h:CV (qs c)):∀ (d p:Nat),p+d=c.length->Ev (fun k=>SJumpCode.l0 k c ((jumpC c).take p) (p:Int)) (jumpC c,true)
 | 0,p,hp=>by
  refine Ev.succ ?_
  simp only [SJumpCode.l0]
  refine Ev.neg (Ev.eq Ev.pure ?_)
  rw [List.take_of_length_le (by rw [jumpC_len];omega)]
 | d+1,p,hp=>by
  have h6:=cv600 h
  have hi:p < c.length:=by omega
  refine Ev.succ ?_
  simp only [SJumpCode.l0,rd_qa,wrap_up (show p < 9223372036854775807 by omega)]
  have lt:((jumpC c).take p).length < 3518437208883:=by rw [List.length_take,jumpC_len];omega
  have ih:=SJumpCode.out h d (p+1) (by omega)
  have e:∀ x,jmpQ c (qa c p)=x->(jumpC c).take p ++ [x]=(jumpC c).take (p+1):=by
   intro x hx
   rw [<- hx,<- jumpC_get hi]
   exact take_next _ (by rw [jumpC_len];exact hi)
  refine Ev.pos (Ev.pos ?_)
  by_cases c4:(qa c p).f0=4
  ·have:=n_of h hi (.inl c4)
   refine Ev.pos (Ev.bind (Sl36Target.ev h this.1 this.2) (Ev.pos ?_ lt))
   rw [e _ (by rw [jmpQ,if_pos (.inl c4)])]
   exact ih
  refine Ev.neg ?_
  by_cases c5:(qa c p).f0=5
  ·have:=n_of h hi (.inr c5)
   refine Ev.pos (Ev.bind (Sl36Target.ev h this.1 this.2) (Ev.pos ?_ lt))
   rw [e _ (by rw [jmpQ,if_pos (.inr c5)])]
   exact ih
  refine Ev.neg (Ev.pos ?_ lt)
  have:=e _ (by rw [jmpQ,if_neg (by omega)])
  rw [<- this] at ih
  exact ih
theorem IhasTarget.e (q:SQ):IhasTarget.f q.f0 q.f1 q.f2 q.f3 q.f4=some (decide (q.f0=4\/q.f0=5)):=by
 unfold IhasTarget.f
 by_cases h:q.f0=4
 ·simp [h]
 by_cases g:q.f0=5 <;> simp [h,g]
theorem IJumpCode.out {c:List SQ} (h:CV (qs c)):∀ (d p:Nat),p+d=c.length->Ev (fun k=>IJumpCode.l0 k c ((jumpC c).take p ++ c.drop p) c (c.length:Int) (p:Int)) (jumpC c,true)
 | 0,p,hp=>by
  refine Ev.succ ?_
  simp only [IJumpCode.l0]
  refine Ev.neg (Ev.eq Ev.pure ?_)
  rw [List.take_of_length_le (by rw [jumpC_len];omega),List.drop_eq_nil_of_le (by omega),List.append_nil]
 | d+1,p,hp=>by
  have h6:=cv600 h
  have hi:p < c.length:=by omega
  have jl:=jumpC_len c
  have hl:=mix_len jl (show p<=(jumpC c).length by omega)
  have hg:qa ((jumpC c).take p ++ c.drop p) p=qa c p:=mix_get _ jl (by omega)
  have jg:=jumpC_get hi
  refine Ev.succ ?_
  simp only [IJumpCode.l0,rd_qa,hg,hl,jl,IhasTarget.e,Int.toNat_natCast,wrap_up (show p < 9223372036854775807 by omega)]
  refine Ev.pos (Ev.pos (Ev.pos (Ev.some ?_)))
  have ih:=IJumpCode.out h d (p+1) (by omega)
  by_cases c4:(qa c p).f0=4\/(qa c p).f0=5
  ·have:=n_of h hi c4
   refine Ev.pos (Ev.bind (IjumpTarget.ev h this.1 this.2) (Ev.pos ?_)) (by simpa using c4)
   have e:=mix_next z46 jl (show p < (jumpC c).length by omega)
   rw [show (jumpC c).getD p z46=jmpQ c (qa c p) from jg,jmpQ,if_pos c4] at e
   rw [e]
   exact ih
  refine Ev.neg ?_ (by simpa using c4)
  have e:=mix_same z46 jl (show p < (jumpC c).length by omega) (by rw [show (jumpC c).getD p z46=jmpQ c (qa c p) from jg,jmpQ,if_neg c4];rfl)
  rw [e]
  exact ih
theorem SJumpCode.ev {c:List SQ} (h:CV (qs c)):Ev (fun k=>SJumpCode.f k c) (jumpC c,true):=by
 simp only [SJumpCode.f]
 exact Ev.some (Ev.bind (SCodeValid.ev c) (Ev.pos (SJumpCode.out h c.length 0 (Nat.zero_add _)) (decide_eq_true h)))
theorem IJumpCode.ev {c:List SQ} (h:CV (qs c)):Ev (fun k=>IJumpCode.f k c) (jumpC c,true):=by
 have h6:=cv600 h
 simp only [IJumpCode.f,IQuad.f]
 refine Ev.bind (ICodeValid.ev c) (Ev.pos (Ev.bind (Ev.const (if_pos (by omega))) ?_) (decide_eq_true h))
 exact IJumpCode.out h c.length 0 (Nat.zero_add _)
theorem jmpQ_op (c:List SQ) (q:SQ):(jmpQ c q).f0=q.f0:=by
 unfold jmpQ
 split <;> rfl
theorem jumpC_valid {c:List SQ} (h:CV (qs c)):CV (qs (jumpC c)):=by
 have h6:=cv600 h
 refine cv_of (by rw [jumpC_len];exact h6.1) (by rw [jumpC_len];exact h6.2) (fun i hi=>?_) ?_
 ·rw [jumpC_len] at hi ⊢
  rw [jumpC_get hi]
  have v:=cv_at h hi
  unfold jmpQ
  split
  ·rename_i g
   have n:=n_of h hi g
   have t:0<=tgts c (qa c i).f4/\tgts c (qa c i).f4 < c.length:=by
    have:=tgt_lt h (a:=(qa c i).f4.toNat) (by omega) c.length (qa c i).f4.toNat (by omega)
    unfold tgts
    omega
   rcases v with v|v|v | ⟨o,p1,p2,p3,_⟩ | ⟨o,p1,p2,p3,_⟩|v
   ·have:(qa c i).f0=1:=v.1
    omega
   ·have:(qa c i).f0=2:=v.1
    omega
   ·have:(qa c i).f0=3:=v.1
    omega
   ·exact .inr (.inr (.inr (.inl ⟨o,p1,p2,p3,t⟩)))
   ·exact .inr (.inr (.inr (.inr (.inl ⟨o,p1,p2,p3,t⟩))))
   have:¬ ((qa c i).f0=4\/(qa c i).f0=5):=by
    simp only [q_] at v
    omega
   exact absurd g this
  exact v
 rw [jumpC_len,jumpC_get (by omega),jmpQ_op]
 exact cv_last h
def RS (c:List SQ):Sys Bool where
 n:=c.length
 ok:=fun _=>True
 le:=fun a b=>a=true->b=true
 jn:=fun a b=>a || b
 out:=fun i x=>if x=true then (nx (q_ (qa c i)) i).map fun e=>(e,true) else []
 rk:=fun x=>if x=true then 1 else 0
 top:=1
 d:=false
 ini:=true
theorem nx_lt' {c:List SQ} (h:CV (qs c)) {i e:Nat} (hi:i < c.length) (he:e∈nx (q_ (qa c i)) i):e < c.length:=by
 have n:=nx_lt h (i:=i) (j:=e) (by rw [qs_len];exact hi) (by rw [at_qs];exact he)
 rwa [qs_len] at n
theorem RS_laws {c:List SQ} (h:CV (qs c)):(RS c).Laws where
 refl:=fun a _ x=>x
 trans:=fun a b c _ _ _ h g x=>g (h x)
 anti:=fun a b _ _ h g=>by cases a <;> cases b <;> first|rfl|(have:=h rfl;cases this)|(have:=g rfl;cases this)
 ub1:=fun a b _ _ x=>by show (a || b)=true;rw [x];rfl
 ub2:=fun a b _ _ x=>by show (a || b)=true;rw [x];simp
 lub:=fun a b c _ _ _ h g x=>by
  have x':(a || b)=true:=x
  rcases (Bool.or_eq_true a b).mp x' with y|y
  ·exact h y
  exact g y
 okj:=fun a b _ _=>trivial
 oko:=fun i x hi _ p hp=>by
  have hp':p∈(if x=true then (nx (q_ (qa c i)) i).map fun e=>(e,true) else []):=hp
  split at hp'
  ·obtain⟨e,he,rfl⟩:=List.mem_map.1 hp'
   exact⟨nx_lt' h hi he,trivial⟩
  simp at hp'
 mono:=fun i x y hi _ _ hl p hp=>by
  have hp':p∈(if x=true then (nx (q_ (qa c i)) i).map fun e=>(e,true) else []):=hp
  split at hp'
  ·rename_i g
   refine⟨true,?_,fun _=>rfl⟩
   show _∈(if y=true then (nx (q_ (qa c i)) i).map fun e=>(e,true) else [])
   rw [if_pos (hl g)]
   obtain⟨e,he,rfl⟩:=List.mem_map.1 hp'
   exact List.mem_map.2 ⟨e,he,rfl⟩
  simp at hp'
 rank:=fun a b _ _ h ne=>by
  show (if a=true then 1 else 0) < (if b=true then 1 else 0)
  cases a <;> cases b <;> first|exact absurd rfl ne|(have:=h rfl;cases this)|decide
 rtop:=fun a _=>by show (if a=true then 1 else 0)<=1;split <;> omega
 okd:=trivial
 oki:=trivial
 bot:=fun a _ x=>by cases x
 outd:=fun i=>by
  show (if false=true then (nx (q_ (qa c i)) i).map (fun e=>(e,true)) else [])=[]
  rw [if_neg (by decide)]
 pos:=(cv600 h).1
 inid:=by show ¬ true=false;decide
theorem Sl31Spread.in {c:List SQ} (h:CV (qs c)) {i:Nat} (hi:i < c.length) {es:List Nat} (hl:es.length < 1000) (he:∀ e∈es,e < c.length) {R:Bool × List Bool}:∀ (d p:Nat) (T:List Bool) (b:Bool),p+d=es.length->(RS c).St T->Ev (fun k=>Sl31Spread.l0 k c (Sys.pass (RS c) ((es.drop p).map fun e=>(e,true)) T b).1 (Sys.pass (RS c) ((es.drop p).map fun e=>(e,true)) T b).2 ((i+1:Nat):Int)) R->Ev (fun k=>Sl31Spread.l1 k c T b (i:Int) (ints es) (p:Int)) R
 | 0,p,T,b,hp,hT,g=>by
  refine Ev.succ ?_
  have h6:=cv600 h
  rw [List.drop_eq_nil_of_le (by omega)] at g
  simp only [Sl31Spread.l1,ints_len,wrap_up (show i < 9223372036854775807 by omega)]
  exact Ev.neg g
 | d+1,p,T,b,hp,hT,g=>by
  refine Ev.succ ?_
  have h6:=cv600 h
  have hm:es.getD p 0 < c.length:=he _ (getD_mem (by omega))
  have hn:T.length=c.length:=hT.1
  rw [drop_cons 0 (show p < es.length by omega)] at g
  have hT':=Sys.put_st (RS_laws h) hT (p:=(es.getD p 0,true)) hm trivial
  have go:=fun b'=>Sl31Spread.in h hi hl he (R:=R) d (p+1) (Sys.put (RS c) T (es.getD p 0,true)) b' (by omega) hT'
  simp only [Sl31Spread.l1,ints_len,rd_ints,rdOf_nat,hn,Int.toNat_natCast,wrap_up (show p < 9223372036854775807 by omega)]
  refine Ev.pos (Ev.pos (Ev.pos (Ev.pos ?_)))
  simp only [List.map_cons,Sys.pass] at g
  cases e:T.getD (es.getD p 0) false with
  | true =>
   refine Ev.pos ?_ rfl
   have hs:Sys.put (RS c) T (es.getD p 0,true)=T:=Sys.put_same (by show es.getD p 0 < T.length;omega) (by show (T.getD (es.getD p 0) false || true)=T.getD (es.getD p 0) false;rw [e];rfl)
   have hd:decide ((RS c).jn ((RS c).at' T (es.getD p 0)) true=(RS c).at' T (es.getD p 0))=true:=decide_eq_true (by show (T.getD (es.getD p 0) false || true)=T.getD (es.getD p 0) false;rw [e];rfl)
   have:=go b
   rw [hs] at this g
   refine this ?_
   rwa [hd,Bool.not_true,Bool.or_false] at g
  | false =>
   refine Ev.neg ?_ (by simp)
   have hd:decide ((RS c).jn ((RS c).at' T (es.getD p 0)) true=(RS c).at' T (es.getD p 0))=false:=decide_eq_false (by show ¬ (T.getD (es.getD p 0) false || true)=T.getD (es.getD p 0) false;rw [e];decide)
   have hs:Sys.put (RS c) T (es.getD p 0,true)=T.set (es.getD p 0) true:=by
    show T.set (es.getD p 0) (T.getD (es.getD p 0) false || true)=_
    rw [e]
    rfl
   rw [hd,Bool.not_false,Bool.or_true] at g
   have:=go true g
   rwa [hs] at this
theorem Sl31Spread.out {c:List SQ} (h:CV (qs c)):∀ (d:Nat),d<=c.length->∀ (T:List Bool) (b:Bool),(RS c).St T->Ev (fun k=>Sl31Spread.l0 k c T b ((c.length - d:Nat):Int)) ((Sys.rnds (RS c) d T b).2,(Sys.rnds (RS c) d T b).1)
 | 0,hd,T,b,hT=>by
  refine Ev.succ ?_
  simp only [Sl31Spread.l0,Nat.sub_zero]
  exact Ev.neg Ev.pure
 | d+1,hd,T,b,hT=>by
  refine Ev.succ ?_
  have h6:=cv600 h
  have hi:c.length - (d+1) < c.length:=by omega
  have hn:T.length=c.length:=hT.1
  have hw:=wrap_up (show c.length - (d+1) < 9223372036854775807 by omega)
  have hs:((c.length - (d+1)+1:Nat):Int)=((c.length - d:Nat):Int):=by congr 1;omega
  obtain⟨b1,_⟩:=Sys.pass_all (RS_laws h) ((RS c).out (c.length - (d+1)) ((RS c).at' T (c.length - (d+1)))) T b hT ((RS_laws h).oko _ _ hi trivial)
  have ih:=Sl31Spread.out h d (by omega) _ (Sys.pass (RS c) ((RS c).out (c.length - (d+1)) ((RS c).at' T (c.length - (d+1)))) T b).2 b1
  simp only [Sl31Spread.l0,rdOf_nat,hn,hw]
  refine Ev.pos (Ev.pos (Ev.pos ?_))
  show Ev _ ((Sys.rnds (RS c) d (Sys.pass (RS c) ((RS c).out (c.length - (d+1)) ((RS c).at' T (c.length - (d+1)))) T b).1 (Sys.pass (RS c) ((RS c).out (c.length - (d+1)) ((RS c).at' T (c.length - (d+1)))) T b).2).2,(Sys.rnds (RS c) d (Sys.pass (RS c) ((RS c).out (c.length - (d+1)) ((RS c).at' T (c.length - (d+1)))) T b).1 (Sys.pass (RS c) ((RS c).out (c.length - (d+1)) ((RS c).at' T (c.length - (d+1)))) T b).2).1)
  by_cases g:T.getD (c.length - (d+1)) false=true
  ·have e:(RS c).out (c.length - (d+1)) ((RS c).at' T (c.length - (d+1)))=(nx (q_ (qa c (c.length - (d+1)))) (c.length - (d+1))).map fun e=>(e,true):=if_pos g
   refine Ev.pos (Ev.bind (Sl31Next.ev h hi) ?_) g
   refine Sl31Spread.in h hi (by have:=nx_len (q_ (qa c (c.length - (d+1)))) (c.length - (d+1));omega) (fun e he=>nx_lt' h hi he) _ 0 T b (Nat.zero_add _) hT ?_
   rw [List.drop_zero,<- e,hs]
   exact ih
  have e:(RS c).out (c.length - (d+1)) ((RS c).at' T (c.length - (d+1)))=[]:=if_neg g
  refine Ev.neg ?_ g
  rw [hs]
  rw [e] at ih ⊢
  exact ih
theorem SCodeReach.rounds {c:List SQ} (h:CV (qs c)):∀ (m:Nat) (T:List Bool),(RS c).Rd T->(RS c).cap T<=m->∃ U,(RS c).Lfp U/\Ev (fun k=>SCodeReach.l0 k c T) U
 | m,T,hT,hm=>by
  obtain⟨a,b,e⟩:=Sys.rd_step (RS_laws h) hT
  have o:=Sl31Spread.out h c.length (Nat.le_refl _) T false hT.1
  rw [Nat.sub_self] at o
  have o':Ev (fun k=>Sl31Spread.f k c T) ((Sys.rnds (RS c) c.length T false).2,(Sys.rnds (RS c) c.length T false).1):=o
  cases g:(Sys.rnds (RS c) c.length T false).2 with
  | false =>
   refine⟨_,e g,Ev.succ ?_⟩
   simp only [SCodeReach.l0]
   exact Ev.bind o' (Ev.neg Ev.pure (by simp [g]))
  | true =>
   have lt:=b g
   match m,hm with
   | 0,hm=>omega
   | m+1,hm =>
    obtain⟨U,hU,hE⟩:=SCodeReach.rounds h m _ a (by have:(RS c).cap (Sys.rnds (RS c) c.length T false).1 < (RS c).cap T:=lt;show (RS c).cap (Sys.rnds (RS c) c.length T false).1<=m;omega)
    refine⟨U,hU,Ev.succ ?_⟩
    simp only [SCodeReach.l0]
    exact Ev.bind o' (Ev.pos hE (by simp [g]))
theorem SCodeReach.ev {c:List SQ} (h:CV (qs c)):∃ U,(RS c).Lfp U/\Ev (fun k=>SCodeReach.f k c) U:=by
 have h6:=cv600 h
 obtain⟨U,hU,hE⟩:=SCodeReach.rounds h _ _ (Sys.rd0 (RS_laws h)) (Nat.le_refl _)
 refine⟨U,hU,?_⟩
 simp only [SCodeReach.f,Int.toNat_natCast]
 refine Ev.bind (SCodeValid.ev c) (Ev.pos (Ev.pos (Ev.pos (Ev.some (Ev.pos ?_ (by rw [List.length_replicate];omega))))) (decide_eq_true h))
 exact hE
theorem ICodeReach.in {c:List SQ} (h:CV (qs c)) {es:List Nat} (hl:es.length < 1000) (he:∀ e∈es,e < c.length) {R:List Bool}:∀ (d p:Nat) (T:List Bool) (w:List Nat),p+d=es.length->(RS c).St T->(RS c).cap T+w.length<=100000->Ev (fun k=>ICodeReach.l0 k c (Sys.wpass (RS c) ((es.drop p).map fun e=>(e,true)) T w).1 (ints (Sys.wpass (RS c) ((es.drop p).map fun e=>(e,true)) T w).2)) R->Ev (fun k=>ICodeReach.l1 k c T (ints w) (ints es) (es.length:Int) (p:Int)) R
 | 0,p,T,w,hp,hT,hc,g=>by
  refine Ev.succ ?_
  rw [List.drop_eq_nil_of_le (by omega)] at g
  simp only [ICodeReach.l1]
  exact Ev.neg g
 | d+1,p,T,w,hp,hT,hc,g=>by
  refine Ev.succ ?_
  have h6:=cv600 h
  have hm:es.getD p 0 < c.length:=he _ (getD_mem (by omega))
  have hn:T.length=c.length:=hT.1
  rw [drop_cons 0 (show p < es.length by omega)] at g
  have hT':=Sys.put_st (RS_laws h) hT (p:=(es.getD p 0,true)) hm trivial
  simp only [ICodeReach.l1,ints_len,rd_ints,rdOf_nat,hn,Int.toNat_natCast,wrap_up (show p < 9223372036854775807 by omega)]
  refine Ev.pos (Ev.pos (Ev.pos (Ev.pos (Ev.pos ?_))))
  simp only [List.map_cons,Sys.wpass] at g
  cases e:T.getD (es.getD p 0) false with
  | true =>
   refine Ev.pos ?_ rfl
   rw [if_pos (show (RS c).jn ((RS c).at' T (es.getD p 0)) true=(RS c).at' T (es.getD p 0) from by show (T.getD (es.getD p 0) false || true)=T.getD (es.getD p 0) false;rw [e];rfl)] at g
   exact ICodeReach.in h hl he d (p+1) T w (by omega) hT hc g
  | false =>
   have ne:(RS c).jn ((RS c).at' T (es.getD p 0)) true≠(RS c).at' T (es.getD p 0):=by show ¬ (T.getD (es.getD p 0) false || true)=T.getD (es.getD p 0) false;rw [e];decide
   have hs:Sys.put (RS c) T (es.getD p 0,true)=T.set (es.getD p 0) true:=by
    show T.set (es.getD p 0) (T.getD (es.getD p 0) false || true)=_
    rw [e]
    rfl
   have hcap:=Sys.put_cap (RS_laws h) hT (p:=(es.getD p 0,true)) hm trivial ne
   rw [if_neg ne] at g
   refine Ev.neg (Ev.pos ?_ (by omega)) (by simp)
   have:=ICodeReach.in h hl he (R:=R) d (p+1) (Sys.put (RS c) T (es.getD p 0,true)) (w ++ [es.getD p 0]) (by omega) hT' (by rw [List.length_append,List.length_singleton];omega) g
   rw [hs] at this
   have e2:ints w ++ [((es.getD p 0:Nat):Int)]=ints (w ++ [es.getD p 0]):=by simp [ints]
   rw [e2]
   exact this
theorem last_of {w:List Nat} (h:w≠[]):∃ v a,w=v ++ [a]:=⟨w.dropLast,w.getLast h,(List.dropLast_concat_getLast h).symm⟩
theorem ICodeReach.work {c:List SQ} (h:CV (qs c)):∀ (m:Nat) (T:List Bool) (w:List Nat),(RS c).Wk T w->(RS c).cap T+w.length<=m->m<=100000->∃ U,(RS c).Lfp U/\Ev (fun k=>ICodeReach.l0 k c T (ints w)) U
 | m,T,w,hw,hm,h9=>by
  have h6:=cv600 h
  by_cases ew:w=[]
  ·subst ew
   refine⟨T,Sys.wk_end hw,Ev.succ ?_⟩
   simp only [ICodeReach.l0]
   exact Ev.neg Ev.pure (by simp [ints])
  obtain⟨v,a,rfl⟩:=last_of ew
  obtain⟨ha,hb,hk,hc⟩:=Sys.wk_step (RS_laws h) hw
  have ha6:a < c.length:=ha
  rw [List.length_append,List.length_singleton] at hm hc
  match m,hm with
  | 0,hm=>omega
  | m+1,hm =>
   obtain⟨U,hU,hE⟩:=ICodeReach.work h m _ _ hk (by omega) (by omega)
   refine⟨U,hU,Ev.succ ?_⟩
   have hv:wrap64 ((v.length+1:Nat) - 1:Int)=(v.length:Int):=by
    rw [wrap_id (by omega) (by omega)]
    omega
   have ht:(ints (v ++ [a])).take v.length=ints v:=by simp [ints]
   have ha':(v ++ [a]).getD v.length 0=a:=by simp [List.getD_eq_getElem?_getD]
   have hv2:(v ++ [a]).length=v.length+1:=by simp
   simp only [ICodeReach.l0,ints_len,hv2,hv,rd_ints,ha',rd_qa,Int.toNat_natCast,ht]
   refine Ev.pos (Ev.pos (Ev.pos (Ev.pos (Ev.pos (Ev.pos (Ev.bind (InextOf.ev h ha) ?_))))))
   simp only [ints_len]
   have g:T.getD a false=true:=by
    have:T.getD a false≠false:=hb
    simpa using this
   have e:(RS c).out a ((RS c).at' T a)=(nx (q_ (qa c a)) a).map fun e=>(e,true):=if_pos g
   refine ICodeReach.in h (by have:=nx_len (q_ (qa c a)) a;omega) (fun e he=>nx_lt' h ha he) _ 0 T v (Nat.zero_add _) hw.1.1 (by omega) ?_
   rw [List.drop_zero,<- e]
   exact hE
theorem ICodeReach.ev {c:List SQ} (h:CV (qs c)):∃ U,(RS c).Lfp U/\Ev (fun k=>ICodeReach.f k c) U:=by
 have h6:=cv600 h
 have hc:=Sys.cap_le (S:=RS c) (Sys.T0 (RS c))
 rw [(Sys.T0_st (RS_laws h)).1,show (RS c).n*(RS c).top=c.length*1 from rfl] at hc
 obtain⟨U,hU,hE⟩:=ICodeReach.work h _ _ _ (Sys.wk0 (RS_laws h)) (Nat.le_refl _) (by rw [List.length_singleton];omega)
 refine⟨U,hU,?_⟩
 simp only [ICodeReach.f,Int.toNat_natCast]
 refine Ev.bind (ICodeValid.ev c) (Ev.pos (Ev.pos (Ev.pos (Ev.some (Ev.pos ?_ (by rw [List.length_replicate];omega))))) (decide_eq_true h))
 exact hE
/-- Both answer one list of flags. -/
theorem reach_ev {c:List SQ} (h:CV (qs c)):∃ U,(RS c).Lfp U/\Ev (fun k=>SCodeReach.f k c) U/\Ev (fun k=>ICodeReach.f k c) U:=by
 obtain⟨U,hU,hE⟩:=SCodeReach.ev h
 obtain⟨V,hV,hF⟩:=ICodeReach.ev h
 rw [Sys.lfp_unique (RS_laws h) hV hU] at hF
 exact⟨U,hU,hE,hF⟩
end Go.Proofs.Ytahbkldagpfcaaa.M
namespace Go.Proofs.Ytahbkldagpfcaaa.M
open Go.RowKit Go.Proofs.YtahbkldagpfcaaaW.PrintWords Go.Proofs.YtahbkldagpfcaaaW.PrintLast Go.Proofs.YtahbkldagpfcaaaW.PrintMore
mutual
def SSqueezeCode.l0:Nat->List (S46)->List (S46)->List Bool->Int->Option ((List (S46)) × Bool)
 | 0,_,_,_,_=>none
 | k+1,x0,x4,x5,x6=>if x6 < (x0.length:Int) then (if 0<=x6 then (if x6 < (x5.length:Int) then (if rdOf false x5 x6=true then ((Sl36Idle.f k ((rd_T46 x0 x6).f0) ((rd_T46 x0 x6).f1) ((rd_T46 x0 x6).f2) ((rd_T46 x0 x6).f3) ((rd_T46 x0 x6).f4) x6).bind fun t834=>(SSqueezeCode.l0 k x0 x4 (x5.set (x6:Int).toNat (!t834)) (wrap64 (x6+1)))) else (SSqueezeCode.l0 k x0 x4 (x5.set (x6:Int).toNat false) (wrap64 (x6+1)))) else (none)) else (none)) else (SSqueezeCode.l1 k x0 x4 x5 0)
def SSqueezeCode.l1:Nat->List (S46)->List (S46)->List Bool->Int->Option ((List (S46)) × Bool)
 | 0,_,_,_,_=>none
 | k+1,x0,x4,x5,x7=>if x7 < (x0.length:Int) then (if 0<=x7 then (if x7 < (x5.length:Int) then (if rdOf false x5 x7=true then (if ((rd_T46 x0 x7).f0)=4 then ((Sl36Place.f k x5 ((rd_T46 x0 x7).f4)).bind fun t840=>(if x4.length < 3518437208883 then (SSqueezeCode.l1 k x0 (x4 ++ [(⟨(rd_T46 x0 x7).f0,(rd_T46 x0 x7).f1,(rd_T46 x0 x7).f2,(rd_T46 x0 x7).f3,t840⟩:S46)]) x5 (wrap64 (x7+1))) else (none))) else (if ((rd_T46 x0 x7).f0)=5 then ((Sl36Place.f k x5 ((rd_T46 x0 x7).f4)).bind fun t844=>(if x4.length < 3518437208883 then (SSqueezeCode.l1 k x0 (x4 ++ [(⟨(rd_T46 x0 x7).f0,(rd_T46 x0 x7).f1,(rd_T46 x0 x7).f2,(rd_T46 x0 x7).f3,t844⟩:S46)]) x5 (wrap64 (x7+1))) else (none))) else (if x4.length < 3518437208883 then (SSqueezeCode.l1 k x0 (x4 ++ [(⟨(rd_T46 x0 x7).f0,(rd_T46 x0 x7).f1,(rd_T46 x0 x7).f2,(rd_T46 x0 x7).f3,(rd_T46 x0 x7).f4⟩:S46)]) x5 (wrap64 (x7+1))) else (none)))) else (SSqueezeCode.l1 k x0 x4 x5 (wrap64 (x7+1)))) else (none)) else (none)) else (some (x4,true))
end
def SSqueezeCode.f (k:Nat) (l0:List (S46)):Option ((List (S46)) × Bool):=(some (([]:List (S46)):List (S46))).bind fun y825=>((SCodeValid.f k l0).bind fun t828=>(if t828=true then ((SCodeReach.f k l0).bind fun t829=>(SSqueezeCode.l0 k l0 y825 t829 0)) else (some (y825,false))))
theorem SSqueezeCode.mono_l:∀ k,(∀ y0 y1 y2 y3,LeO (SSqueezeCode.l0 k y0 y1 y2 y3) (SSqueezeCode.l0 (k+1) y0 y1 y2 y3))/\(∀ y0 y1 y2 y3,LeO (SSqueezeCode.l1 k y0 y1 y2 y3) (SSqueezeCode.l1 (k+1) y0 y1 y2 y3))
 | 0=>⟨fun _ _ _ _ r h=>by simp [SSqueezeCode.l0] at h,fun _ _ _ _ r h=>by simp [SSqueezeCode.l1] at h⟩
 | k+1=>by
  obtain⟨ih0,ih1⟩:=SSqueezeCode.mono_l k
  refine⟨?_,?_⟩
  ·intro y0 y1 y2 y3
   unfold SSqueezeCode.l0
   repeat' first
   | (with_reducible exact ih0 _ _ _ _)
   | (with_reducible exact ih1 _ _ _ _)
   | (with_reducible exact SCodeReach.mono _ _)
   | (with_reducible exact SCodeValid.mono _ _)
   | (with_reducible exact Sl36Idle.mono _ _ _ _ _ _ _)
   | (with_reducible exact Sl36Place.mono _ _ _)
   | (with_reducible exact LeO.refl _)
   | (with_reducible exact LeO.none _)
   | (with_reducible refine LeO.ite ?_ ?_)
   | (with_reducible refine LeO.bind ?_ (fun _=>?_))
   | exact ih0 _ _ _ _
   | exact ih1 _ _ _ _
   | exact SCodeReach.mono _ _
   | exact SCodeValid.mono _ _
   | exact Sl36Idle.mono _ _ _ _ _ _ _
   | exact Sl36Place.mono _ _ _
   | exact LeO.none _
   | refine LeO.ite ?_ ?_
   | refine LeO.bind ?_ (fun _=>?_)
  intro y0 y1 y2 y3
  unfold SSqueezeCode.l1
  repeat' first
  | (with_reducible exact ih0 _ _ _ _)
  | (with_reducible exact ih1 _ _ _ _)
  | (with_reducible exact SCodeReach.mono _ _)
  | (with_reducible exact SCodeValid.mono _ _)
  | (with_reducible exact Sl36Idle.mono _ _ _ _ _ _ _)
  | (with_reducible exact Sl36Place.mono _ _ _)
  | (with_reducible exact LeO.refl _)
  | (with_reducible exact LeO.none _)
  | (with_reducible refine LeO.ite ?_ ?_)
  | (with_reducible refine LeO.bind ?_ (fun _=>?_))
  | exact ih0 _ _ _ _
  | exact ih1 _ _ _ _
  | exact SCodeReach.mono _ _
  | exact SCodeValid.mono _ _
  | exact Sl36Idle.mono _ _ _ _ _ _ _
  | exact Sl36Place.mono _ _ _
  | exact LeO.none _
  | refine LeO.ite ?_ ?_
  | refine LeO.bind ?_ (fun _=>?_)
theorem SSqueezeCode.mono:∀ a0 k,LeO (SSqueezeCode.f k a0) (SSqueezeCode.f (k+1) a0):=by
 intro a0 k
 obtain⟨ih0,ih1⟩:=SSqueezeCode.mono_l k
 unfold SSqueezeCode.f
 repeat' first
   | (with_reducible exact ih0 _ _ _ _)
   | (with_reducible exact ih1 _ _ _ _)
   | (with_reducible exact SCodeReach.mono _ _)
   | (with_reducible exact SCodeValid.mono _ _)
   | (with_reducible exact Sl36Idle.mono _ _ _ _ _ _ _)
   | (with_reducible exact Sl36Place.mono _ _ _)
   | (with_reducible exact LeO.refl _)
   | (with_reducible exact LeO.none _)
   | (with_reducible refine LeO.ite ?_ ?_)
   | (with_reducible refine LeO.bind ?_ (fun _=>?_))
   | exact ih0 _ _ _ _
   | exact ih1 _ _ _ _
   | exact SCodeReach.mono _ _
   | exact SCodeValid.mono _ _
   | exact Sl36Idle.mono _ _ _ _ _ _ _
   | exact Sl36Place.mono _ _ _
   | exact LeO.none _
   | refine LeO.ite ?_ ?_
   | refine LeO.bind ?_ (fun _=>?_)
end Go.Proofs.Ytahbkldagpfcaaa.M
namespace Go.Proofs.Ytahbkldagpfcaaa.M
open Go.RowKit Go.Proofs.YtahbkldagpfcaaaW.PrintWords Go.Proofs.YtahbkldagpfcaaaW.PrintLast Go.Proofs.YtahbkldagpfcaaaW.PrintMore PM
/-- A quad has no effect. -/
def idle (q:SQ) (i:Nat):Bool:=if q.f0=4\/q.f0=5 then q.f4 == ((i+1:Nat):Int) else q.f0 == 2 && q.f1 == q.f2
theorem Sl36Idle.ev (q:SQ) {i:Nat} (hi:i < 9223372036854775807):Ev (fun k=>Sl36Idle.f k q.f0 q.f1 q.f2 q.f3 q.f4 (i:Int)) (idle q i):=by
 simp only [Sl36Idle.f]
 by_cases c4:q.f0=4
 ·have e:idle q i=(q.f4 == ((i+1:Nat):Int)):=if_pos (.inl c4)
  rw [e]
  refine Ev.pos (Ev.succ ?_)
  simp only [Sl36Idle.j0,wrap_up hi]
  exact Ev.pos Ev.pure (by simp [c4])
 refine Ev.neg (Ev.succ ?_)
 simp only [Sl36Idle.j0,wrap_up hi]
 by_cases c5:q.f0=5
 ·have e:idle q i=(q.f4 == ((i+1:Nat):Int)):=if_pos (.inr c5)
  rw [e]
  exact Ev.pos Ev.pure (by simp [c5])
 refine Ev.neg ?_ (by simp [c5])
 have e:idle q i=(q.f0 == 2 && q.f1 == q.f2):=if_neg (by omega)
 rw [e]
 by_cases c2:q.f0=2
 ·refine Ev.pos (Ev.eq Ev.pure ?_)
  simp [c2]
 refine Ev.neg (Ev.eq Ev.pure ?_)
 simp [c2]
/-- A quad is kept. -/
def kp (c:List SQ) (U:List Bool) (i:Nat):Bool:=U.getD i false && !idle (qa c i) i
def kps (c:List SQ) (U:List Bool):List Bool:=(List.range c.length).map (kp c U)
theorem kps_len (c:List SQ) (U:List Bool):(kps c U).length=c.length:=by simp [kps]
theorem kps_get {c:List SQ} {U:List Bool} {i:Nat} (h:i < c.length):(kps c U).getD i false=kp c U i:=by simp [kps,List.getD_eq_getElem?_getD,h]
/-- How many quads ahead of a place are kept. -/
def plc (c:List SQ) (U:List Bool) (n:Nat):Nat:=((List.range n).filter (kp c U)).length
theorem plc_next (c:List SQ) (U:List Bool) (n:Nat):plc c U (n+1)=plc c U n+(if kp c U n=true then 1 else 0):=by
 unfold plc
 rw [List.range_succ,List.filter_append,List.length_append]
 congr 1
 by_cases h:kp c U n=true <;> simp [h]
theorem plc_le (c:List SQ) (U:List Bool) (n:Nat):plc c U n<=n:=by
 have:=List.length_filter_le (kp c U) (List.range n)
 rwa [List.length_range] at this
theorem plc_mono (c:List SQ) (U:List Bool) {a b:Nat} (h:a<=b):plc c U a<=plc c U b:=by
 induction b with
 | zero=>rw [show a=0 from by omega];exact Nat.le_refl _
 | succ b ih =>
  by_cases e:a=b+1
  ·rw [e];exact Nat.le_refl _
  rw [plc_next]
  have:=ih (by omega)
  omega
theorem plc_lt (c:List SQ) (U:List Bool) {a b m:Nat} (h:a<=m) (hm:m < b) (hk:kp c U m=true):plc c U a < plc c U b:=by
 have h1:=plc_mono c U h
 have h2:=plc_next c U m
 rw [if_pos hk] at h2
 have h3:=plc_mono c U (show m+1<=b by omega)
 omega
theorem Sl36Place.out {c:List SQ} {U:List Bool} (h9:c.length < 9223372036854775807) {n:Nat} (hn:n<=c.length):∀ (d p:Nat),p+d=n->Ev (fun k=>Sl36Place.l0 k (kps c U) (n:Int) (plc c U p:Int) (p:Int)) (plc c U n:Int)
 | 0,p,hp=>by
  refine Ev.succ ?_
  simp only [Sl36Place.l0]
  refine Ev.neg (Ev.eq Ev.pure ?_)
  rw [show p=n from by omega]
 | d+1,p,hp=>by
  refine Ev.succ ?_
  have h1:=plc_le c U p
  have ih:=Sl36Place.out (U:=U) h9 hn d (p+1) (by omega)
  rw [plc_next] at ih
  simp only [Sl36Place.l0,rdOf_nat,kps_len,kps_get (show p < c.length by omega),wrap_up (show p < 9223372036854775807 by omega),wrap_up (show plc c U p < 9223372036854775807 by omega)]
  refine Ev.pos (Ev.pos (Ev.pos ?_))
  by_cases g:kp c U p=true
  ·rw [if_pos g] at ih
   exact Ev.pos ih
  rw [if_neg g] at ih
  exact Ev.neg ih
theorem Sl36Place.ev {c:List SQ} {U:List Bool} (h9:c.length < 9223372036854775807) {n:Int} (h0:0<=n) (hn:n<=c.length):Ev (fun k=>Sl36Place.f k (kps c U) n) (plc c U n.toNat:Int):=by
 have:=Sl36Place.out (U:=U) h9 (n:=n.toNat) (by omega) n.toNat 0 (Nat.zero_add _)
 rw [Int.toNat_of_nonneg h0] at this
 exact this
def sqQ (c:List SQ) (U:List Bool) (q:SQ):SQ:=if q.f0=4\/q.f0=5 then ⟨q.f0,q.f1,q.f2,q.f3,(plc c U q.f4.toNat:Int)⟩ else q
def sqU (c:List SQ) (U:List Bool) (p:Nat):List SQ:=((List.range p).filter (kp c U)).map fun i=>sqQ c U (qa c i)
def sqC (c:List SQ) (U:List Bool):List SQ:=sqU c U c.length
theorem sqU_next (c:List SQ) (U:List Bool) (p:Nat):sqU c U (p+1)=sqU c U p ++ (if kp c U p=true then [sqQ c U (qa c p)] else []):=by
 unfold sqU
 rw [List.range_succ,List.filter_append,List.map_append]
 congr 1
 by_cases h:kp c U p=true <;> simp [h]
theorem sqU_len (c:List SQ) (U:List Bool) (p:Nat):(sqU c U p).length=plc c U p:=by simp [sqU,plc]
theorem SSqueezeCode.two {c:List SQ} (h:CV (qs c)) {U:List Bool}:∀ (d p:Nat),p+d=c.length->Ev (fun k=>SSqueezeCode.l1 k c (sqU c U p) (kps c U) (p:Int)) (sqC c U,true)
 | 0,p,hp=>by
  refine Ev.succ ?_
  simp only [SSqueezeCode.l1]
  refine Ev.neg (Ev.eq Ev.pure ?_)
  rw [show p=c.length from by omega]
  rfl
 | d+1,p,hp=>by
  have h6:=cv600 h
  have hi:p < c.length:=by omega
  refine Ev.succ ?_
  have ih:=SSqueezeCode.two h (U:=U) d (p+1) (by omega)
  rw [sqU_next] at ih
  have lt:(sqU c U p).length < 3518437208883:=by rw [sqU_len];have:=plc_le c U p;omega
  simp only [SSqueezeCode.l1,rdOf_nat,kps_len,kps_get hi,rd_qa,wrap_up (show p < 9223372036854775807 by omega)]
  refine Ev.pos (Ev.pos (Ev.pos ?_))
  by_cases g:kp c U p=true
  ·refine Ev.pos ?_
   rw [if_pos g] at ih
   by_cases c4:(qa c p).f0=4
   ·have n:=n_of h hi (.inl c4)
    refine Ev.pos (Ev.bind (Sl36Place.ev (by omega) n.1 (by omega)) (Ev.pos ?_ lt))
    rw [sqQ,if_pos (.inl c4)] at ih
    exact ih
   refine Ev.neg ?_
   by_cases c5:(qa c p).f0=5
   ·have n:=n_of h hi (.inr c5)
    refine Ev.pos (Ev.bind (Sl36Place.ev (by omega) n.1 (by omega)) (Ev.pos ?_ lt))
    rw [sqQ,if_pos (.inr c5)] at ih
    exact ih
   refine Ev.neg (Ev.pos ?_ lt)
   rw [sqQ,if_neg (by omega)] at ih
   exact ih
  rw [if_neg g,List.append_nil] at ih
  exact Ev.neg ih
theorem SSqueezeCode.one {c:List SQ} (h:CV (qs c)) {U:List Bool} (hU:U.length=c.length):∀ (d p:Nat),p+d=c.length->Ev (fun k=>SSqueezeCode.l0 k c [] ((kps c U).take p ++ U.drop p) (p:Int)) (sqC c U,true)
 | 0,p,hp=>by
  refine Ev.succ ?_
  simp only [SSqueezeCode.l0]
  refine Ev.neg ?_
  rw [List.take_of_length_le (by rw [kps_len];omega),List.drop_eq_nil_of_le (by omega),List.append_nil]
  exact SSqueezeCode.two h c.length 0 (Nat.zero_add _)
 | d+1,p,hp=>by
  have h6:=cv600 h
  have hi:p < c.length:=by omega
  have kl:=kps_len c U
  have hl:=mix_len (A:=kps c U) (B:=U) (by omega) (show p<=(kps c U).length by omega)
  have hg:=mix_get false (A:=kps c U) (B:=U) (by omega) (show p<=(kps c U).length by omega)
  have hn:=mix_next false (A:=kps c U) (B:=U) (by omega) (show p < (kps c U).length by omega)
  rw [kps_get hi] at hn
  have ih:=SSqueezeCode.one h hU d (p+1) (by omega)
  rw [<- hn] at ih
  refine Ev.succ ?_
  simp only [SSqueezeCode.l0,rdOf_nat,hl,kl,hg,rd_qa,Int.toNat_natCast,wrap_up (show p < 9223372036854775807 by omega)]
  refine Ev.pos (Ev.pos (Ev.pos ?_))
  by_cases g:U.getD p false=true
  ·refine Ev.pos (Ev.bind (Sl36Idle.ev (qa c p) (by omega)) ?_)
   rw [kp,g,Bool.true_and] at ih
   exact ih
  refine Ev.neg ?_
  rw [kp,Bool.eq_false_iff.mpr g,Bool.false_and] at ih
  exact ih
theorem SSqueezeCode.ev {c:List SQ} (h:CV (qs c)):∃ U,(RS c).Lfp U/\Ev (fun k=>SSqueezeCode.f k c) (sqC c U,true):=by
 obtain⟨U,hU,hE⟩:=SCodeReach.ev h
 refine⟨U,hU,?_⟩
 simp only [SSqueezeCode.f]
 exact Ev.some (Ev.bind (SCodeValid.ev c) (Ev.pos (Ev.bind hE (SSqueezeCode.one h hU.1.1.1 c.length 0 (Nat.zero_add _))) (decide_eq_true h)))
theorem reach_zero {c:List SQ} {U:List Bool} (hU:(RS c).Lfp U):U.getD 0 false=true:=hU.1.2.1 rfl
theorem reach_step {c:List SQ} {U:List Bool} (hU:(RS c).Lfp U) {i e:Nat} (hi:i < c.length) (g:U.getD i false=true) (he:e∈nx (q_ (qa c i)) i):U.getD e false=true:=by
 refine hU.1.2.2 i hi (e,true) ?_ rfl
 show _∈(if U.getD i false=true then (nx (q_ (qa c i)) i).map fun e=>(e,true) else [])
 rw [if_pos g]
 exact List.mem_map.2 ⟨e,he,rfl⟩
theorem idle_nx {c:List SQ} {i:Nat} (g:idle (qa c i) i=true):i+1∈nx (q_ (qa c i)) i:=by
 unfold idle at g
 unfold nx
 by_cases c4:(qa c i).f0=4
 ·rw [if_pos (.inl c4)] at g
  have e:(qa c i).f4=((i+1:Nat):Int):=by simpa using g
  rw [if_neg (show ¬ (q_ (qa c i)).op=10 by show ¬ (qa c i).f0=10;omega),if_pos (show (q_ (qa c i)).op=4 from c4)]
  show i+1∈[(qa c i).f4.toNat]
  rw [e,Int.toNat_natCast]
  simp
 by_cases c5:(qa c i).f0=5
 ·rw [if_neg (show ¬ (q_ (qa c i)).op=10 by show ¬ (qa c i).f0=10;omega),if_neg (show ¬ (q_ (qa c i)).op=4 from c4),if_pos (show (q_ (qa c i)).op=5 from c5)]
  (repeat' split) <;> simp
 rw [if_neg (by omega)] at g
 have c2:(qa c i).f0=2:=by
  have:(qa c i).f0=2/\(qa c i).f1=(qa c i).f2:=by simpa using g
  exact this.1
 rw [if_neg (show ¬ (q_ (qa c i)).op=10 by show ¬ (qa c i).f0=10;omega),if_neg (show ¬ (q_ (qa c i)).op=4 from c4),if_neg (show ¬ (q_ (qa c i)).op=5 from c5)]
 simp
theorem not_idle_last {c:List SQ} (h:CV (qs c)):idle (qa c (c.length - 1)) (c.length - 1)=false:=by
 have h6:=cv600 h
 have hl:=cv_last h
 unfold idle
 rcases hl with hl|hl
 ·rw [if_neg (by omega)]
  simp [hl]
 rw [if_pos (.inl hl)]
 have:=n_of h (x:=c.length - 1) (by omega) (.inl hl)
 simp
 omega
/-- From what is reached on,some quad is kept. -/
theorem kept_from {c:List SQ} (h:CV (qs c)) {U:List Bool} (hU:(RS c).Lfp U):∀ (d i:Nat),i+d=c.length - 1->i < c.length->U.getD i false=true->∃ m,i<=m/\m < c.length/\kp c U m=true
 | 0,i,hd,hi,g=>⟨i,Nat.le_refl _,hi,by
  unfold kp
  rw [g,show i=c.length - 1 from by omega,not_idle_last h]
  rfl⟩
 | d+1,i,hd,hi,g=>by
  by_cases x:idle (qa c i) i=true
  ·obtain⟨m,h1,h2,h3⟩:=kept_from h hU d (i+1) (by omega) (by omega) (reach_step hU hi g (idle_nx x))
   exact⟨m,by omega,h2,h3⟩
  refine⟨i,Nat.le_refl _,hi,?_⟩
  unfold kp
  rw [g,Bool.eq_false_iff.mpr x]
  rfl
theorem kp_reach {c:List SQ} {U:List Bool} {i:Nat} (h:kp c U i=true):U.getD i false=true/\idle (qa c i) i=false:=by
 unfold kp at h
 simpa using h
theorem n_nx {c:List SQ} (h:CV (qs c)) {i:Nat} (hi:i < c.length) (h4:(qa c i).f0=4\/(qa c i).f0=5):(qa c i).f4.toNat∈nx (q_ (qa c i)) i:=by
 have hn:=n_of h hi h4
 unfold nx
 rw [if_neg (show ¬ (q_ (qa c i)).op=10 by show ¬ (qa c i).f0=10;omega)]
 by_cases c4:(qa c i).f0=4
 ·rw [if_pos (show (q_ (qa c i)).op=4 from c4)]
  exact List.mem_singleton.2 rfl
 rw [if_neg (show ¬ (q_ (qa c i)).op=4 from c4),if_pos (show (q_ (qa c i)).op=5 by show (qa c i).f0=5;omega)]
 have e:(q_ (qa c i)).n=(qa c i).f4:=rfl
 rw [e]
 split
 ·simp
 split
 ·simp
 simp
 omega
theorem get_filter {p:Nat->Bool}:∀ (n:Nat) {j:Nat},j < ((List.range n).filter p).length->∃ i,i < n/\p i=true/\((List.range n).filter p)[j]?=some i/\((List.range i).filter p).length=j
 | 0,j,h=>by simp at h
 | n+1,j,h=>by
  rw [List.range_succ,List.filter_append] at h ⊢
  by_cases hj:j < ((List.range n).filter p).length
  ·obtain⟨i,h1,h2,h3,h4⟩:=get_filter (p:=p) n hj
   exact⟨i,by omega,h2,by rw [List.getElem?_append_left hj];exact h3,h4⟩
  by_cases g:p n=true
  ·have e:List.filter p [n]=[n]:=by simp [g]
   rw [e,List.length_append,List.length_singleton] at h
   refine⟨n,by omega,g,?_,by omega⟩
   rw [e,List.getElem?_append_right (by omega),show j - ((List.range n).filter p).length=0 from by omega]
   rfl
  have e:List.filter p [n]=[]:=by simp [g]
  rw [e,List.append_nil] at h
  omega
theorem sqC_get {c:List SQ} {U:List Bool} {j:Nat} (h:j < (sqC c U).length):∃ i,i < c.length/\kp c U i=true/\qa (sqC c U) j=sqQ c U (qa c i)/\plc c U i=j:=by
 have h':j < ((List.range c.length).filter (kp c U)).length:=by
  unfold sqC sqU at h
  rwa [List.length_map] at h
 obtain⟨i,h1,h2,h3,h4⟩:=get_filter _ h'
 refine⟨i,h1,h2,?_,h4⟩
 unfold qa sqC sqU
 rw [List.getD_eq_getElem?_getD,List.getElem?_map,h3]
 rfl
theorem sqC_valid {c:List SQ} (h:CV (qs c)) {U:List Bool} (hU:(RS c).Lfp U):CV (qs (sqC c U)):=by
 have h6:=cv600 h
 have hl:(sqC c U).length=plc c U c.length:=sqU_len c U _
 have hle:=plc_le c U c.length
 have h1:1<=(sqC c U).length:=by
  obtain⟨m,_,h2,h3⟩:=kept_from h hU (c.length - 1) 0 (Nat.zero_add _) (by omega) (reach_zero hU)
  have:=plc_lt c U (Nat.zero_le m) h2 h3
  omega
 refine cv_of h1 (by omega) (fun j hj=>?_) ?_
 ·obtain⟨i,hi,hk,e,_⟩:=sqC_get hj
  rw [e]
  have v:=cv_at h hi
  unfold sqQ
  split
  ·rename_i g
   have n:=n_of h hi g
   obtain⟨m,m1,m2,m3⟩:=kept_from h hU (c.length - 1 - (qa c i).f4.toNat) (qa c i).f4.toNat (by omega) (by omega) (reach_step hU hi (kp_reach hk).1 (n_nx h hi g))
   have lt:=plc_lt c U m1 m2 m3
   have t:0<=(plc c U (qa c i).f4.toNat:Int)/\(plc c U (qa c i).f4.toNat:Int) < ((sqC c U).length:Int):=by omega
   rcases v with v|v|v | ⟨o,p1,p2,p3,_⟩ | ⟨o,p1,p2,p3,_⟩|v
   ·have:(qa c i).f0=1:=v.1
    omega
   ·have:(qa c i).f0=2:=v.1
    omega
   ·have:(qa c i).f0=3:=v.1
    omega
   ·exact .inr (.inr (.inr (.inl ⟨o,p1,p2,p3,t⟩)))
   ·exact .inr (.inr (.inr (.inr (.inl ⟨o,p1,p2,p3,t⟩))))
   have:¬ ((qa c i).f0=4\/(qa c i).f0=5):=by
    simp only [q_] at v
    omega
   exact absurd g this
  rename_i g
  rcases v with v|v|v|v|v|v
  ·exact .inl v
  ·exact .inr (.inl v)
  ·exact .inr (.inr (.inl v))
  ·exact absurd (.inl v.1) g
  ·exact absurd (.inr v.1) g
  exact .inr (.inr (.inr (.inr (.inr v))))
 obtain⟨i,hi,hk,e,hj⟩:=sqC_get (c:=c) (U:=U) (j:=(sqC c U).length - 1) (by omega)
 rw [e]
 have key:(qa c i).f0=10\/(qa c i).f0=4:=by
  apply Classical.byContradiction
  intro x
  have hn:i+1∈nx (q_ (qa c i)) i:=by
   unfold nx
   rw [if_neg (show ¬ (q_ (qa c i)).op=10 from fun y=>x (.inl y)),if_neg (show ¬ (q_ (qa c i)).op=4 from fun y=>x (.inr y))]
   (repeat' split) <;> simp
  have lt:=nx_lt' h hi hn
  obtain⟨m,m1,m2,m3⟩:=kept_from h hU (c.length - 1 - (i+1)) (i+1) (by omega) lt (reach_step hU hi (kp_reach hk).1 hn)
  have l1:=plc_lt c U (Nat.le_refl i) (Nat.lt_succ_self i) hk
  have l2:=plc_lt c U m1 m2 m3
  have:plc c U (i+1)<=plc c U c.length - 1:=by omega
  have e1:=plc_next c U i
  rw [if_pos hk] at e1
  omega
 have eo:(sqQ c U (qa c i)).f0=(qa c i).f0:=by
  unfold sqQ
  split <;> rfl
 rw [eo]
 exact key
end Go.Proofs.Ytahbkldagpfcaaa.M
namespace Go.Proofs.Ytahbkldagpfcaaa.M
open Go.RowKit Go.Proofs.YtahbkldagpfcaaaW.PrintWords Go.Proofs.YtahbkldagpfcaaaW.PrintLast Go.Proofs.YtahbkldagpfcaaaW.PrintMore
attribute [local go_sem] max2_int min2_int max_two min_two max_three min_three max_four min_four
def IFact_is.f (a0_0:Int) (a0_1:Int) (a1:Int):Option (Bool):=if a0_0=1 then (some (a0_1 == a1)) else (some false)
theorem IFact_is_calls_s0 {G:Prop} (h:G:=by
  go_enter Try.func97,Try.ntmps97
  go_wp2_with (first|((with_reducible refine jd 2 rfl ?_);refine jX _ 74 ?_;intro gb888 hg w_0a hbox hb;have BK888:=aM hbox;have GW888:=kG hg;replace HB:=kH hb;clear hb hbox hg;have c_0b:=jz2 BK888))
  go_ret
  exact⟨qW,qB⟩):G:=h
theorem IFact_is.calls (a0_0:Int) (a0_1:Int) (a1:Int) (r:Bool) (w:World) (h:IFact_is.f a0_0 a0_1 a1=some r) :
  Calls Try.prog 97 #[.agg #[.int .i64 a0_0,.int .i64 a0_1],.int .i64 a1] w fun e w'=>e = .returned (.bool r)/\Below w.heap.size w w':=by
 have hu74:=Try.underlying74
 have HB:=aM (Below.refl w.heap.size w)
 have H:(if a0_0=1 then (some (a0_1 == a1)) else (some false))=some r:=h
 clear h
 replace H:=jE H;rcases H with ⟨c3b0,c3b1,H⟩ | ⟨c3,c3b0,c3b1,H⟩
 ·obtain rfl:=Option.some.inj H
  exact IFact_is_calls_s0
 obtain rfl:=Option.some.inj H
 exact IFact_is_calls_s0
attribute [local go_sem high] eqA74
def IFact_join.j0:Nat->Bool->Int->Int->Int->Int->Option (Int × Int)
 | 0,_,_,_,_,_=>none
 | k+1,x5,xa,xb,xc,xd=>if x5=true then (some (xc,xd)) else (if xc=0 then (some (xa,xb)) else (some (2,0)))
def IFact_join.f (k:Nat) (a0_0:Int) (a0_1:Int) (a1_0:Int) (a1_1:Int):Option (Int × Int):=if a0_0=0 then (IFact_join.j0 k true a0_0 a0_1 a1_0 a1_1) else (IFact_join.j0 k (a0_0 == a1_0 && (a0_1 == a1_1)) a0_0 a0_1 a1_0 a1_1)
theorem IFact_join.mono_l:∀ k,(∀ y0 y1 y2 y3 y4,LeO (IFact_join.j0 k y0 y1 y2 y3 y4) (IFact_join.j0 (k+1) y0 y1 y2 y3 y4))
 | 0=>fun _ _ _ _ _ r h=>by simp [IFact_join.j0] at h
 | k+1=>by
  have ih0:=IFact_join.mono_l k
  intros;unfold IFact_join.j0;exact mM
theorem IFact_join.mono:∀ a0 a1 a2 a3 k,LeO (IFact_join.f k a0 a1 a2 a3) (IFact_join.f (k+1) a0 a1 a2 a3):=by
 intro a0 a1 a2 a3 k;have ih0:=IFact_join.mono_l k;unfold IFact_join.f;exact mM
theorem IFact_join.calls (k:Nat) (a0_0:Int) (a0_1:Int) (a1_0:Int) (a1_1:Int) (r1:Int) (r2:Int) (w:World) (h:IFact_join.f k a0_0 a0_1 a1_0 a1_1=some (r1,r2)) :
  Calls Try.prog 95 #[.agg #[.int .i64 a0_0,.int .i64 a0_1],.agg #[.int .i64 a1_0,.int .i64 a1_1]] w fun e w'=>e = .returned (.agg #[.int .i64 r1,.int .i64 r2])/\Below w.heap.size w w':=by
 have hu74:=Try.underlying74
 have HB:=aM (Below.refl w.heap.size w)
 have H:=h;unfold IFact_join.f at H
 clear h
 have HC3:=aM H
 clear H
 go_enter Try.func95,Try.ntmps95
 go_upto_region 1 with (first|((with_reducible refine jd 2 rfl ?_);refine jX _ 74 ?_;intro gb885 hg w4 hbox hb;have BK885:=aM hbox;have GW885:=kG hg;replace HB:=kH hb;clear hb hbox hg)|((with_reducible refine jd 3 rfl ?_);refine jX _ 74 ?_;intro gb886 hg w5 hbox hb;have BK886:=aM hbox;have GW886:=kG hg;have NB885_886:=kN hg BK885;have NB886_885:=kM hg BK885;replace BK885:=kB BK885 hb;replace HB:=kH hb;clear hb hbox hg)|((with_reducible refine jd 4 rfl ?_);refine jX _ 74 ?_;intro gb887 hg w6 hbox hb;have BK887:=aM hbox;have GW887:=kG hg;have NB885_887:=kN hg BK885;have NB887_885:=kM hg BK885;have NB886_887:=kN hg BK886;have NB887_886:=kM hg BK886;replace BK885:=kB BK885 hb;replace BK886:=kB BK886 hb;replace HB:=kH hb;clear hb hbox hg))
 (try simp only [Act.put,List.setIfInBounds_toArray,List.set_cons_zero,List.set_cons_succ])
 go_cut [5] (fun v5 wc=>∃ (kq:Nat) (x5_2:Bool),v5 = .bool x5_2/\Aside0 (IFact_join.j0 kq x5_2 a0_0 a0_1 a1_0 a1_1=some (r1,r2))/\Aside0 (kq<=k)/\Aside0 (wc.heap[gb885]?=some (.cells #[.int .i64 a0_0,.int .i64 a0_1] 74 (0,0)))/\Aside0 (wc.heap[gb886]?=some (.cells #[.int .i64 a1_0,.int .i64 a1_1] 74 (0,0)))/\Aside0 (wc.heap[gb887]?=some (.cells #[.int .i64 0,.int .i64 0] 74 (0,0)))/\Aside0 (Below w.heap.size w wc))
 case first =>
  have H:=HC3.out
  clear HC3
  replace H:=jE H;rcases H with ⟨c7b0,c7b1,H⟩ | ⟨c7,c7b0,c7b1,H⟩
  ·(first|rw [c7b0]|(simp only [i64_w,i32_w];rw [c7b0])|skip)
   have H':=aM H
   clear H
   have hnb8:=NB885_886.out
   have hnc8:=NB886_885.out
   have hnb9:=NB885_887.out
   have hnc9:=NB887_885.out
   have cz10:=jz2 BK885
   go_wp2
   go_meet
   exact⟨_,(true),qZ,H',⟨by first|omega|exact Nat.le_refl _⟩,⟨qK BK885⟩,⟨qK BK886⟩,⟨qK BK887⟩,⟨qB⟩⟩
  (first|rw [c7b0]|(simp only [i64_w,i32_w];rw [c7b0])|skip)
  have H':=aM H
  clear H
  have hnb11:=NB885_886.out
  have hnc11:=NB886_885.out
  have hnb12:=NB885_887.out
  have hnc12:=NB887_885.out
  have cz13:=jz2 BK885
  have hnb14:=NB886_887.out
  have hnc14:=NB887_886.out
  have cz15:=jz2 BK886
  go_wp2
  go_meet
  exact⟨_,((a0_0 == a1_0 && (a0_1 == a1_1))),qZ,H',⟨by first|omega|exact Nat.le_refl _⟩,⟨qK BK885⟩,⟨qK BK886⟩,⟨qK BK887⟩,⟨qB⟩⟩
 clear HC3
 obtain⟨kq,x5_2,rfl,HA,HJ2,BK885,BK886,BK887,HB⟩:=hcut
 cases kq with
 | zero=>exact absurd HA.out (by simp [IFact_join.j0])
 | succ kj2 =>
  have H:=HA.out
  clear HA
  simp only [IFact_join.j0] at H
  replace H:=jB H;rcases H with ⟨rfl,H⟩ | ⟨rfl,H⟩
  ·simp only [Option.some.injEq,Prod.mk.injEq] at H
   obtain⟨rfl,rfl⟩:=H
   have hnb17:=NB886_885.out
   have hnc17:=NB885_886.out
   have hnb18:=NB886_887.out
   have hnc18:=NB887_886.out
   have cz19:=jz2 BK886
   have hnb20:=NB887_885.out
   have hnc20:=NB885_887.out
   have cz21:=jz2 BK887
   go_wp2
   refine bodyPost_ret (results_cell_row rfl _ _ gb887 74 #[.int .i64 a1_0,.int .i64 a1_1] (0,0) _ rfl (qF BK887) Try.underlying74 rfl (by kernel_rfl)) rfl ?_
   exact⟨qW,qB⟩
  replace H:=jE H;rcases H with ⟨c22b0,c22b1,H⟩ | ⟨c22,c22b0,c22b1,H⟩
  ·simp only [Option.some.injEq,Prod.mk.injEq] at H
   obtain⟨rfl,rfl⟩:=H
   have hnb23:=NB886_885.out
   have hnc23:=NB885_886.out
   have hnb24:=NB886_887.out
   have hnc24:=NB887_886.out
   have cz25:=jz2 BK886
   have hnb26:=NB885_887.out
   have hnc26:=NB887_885.out
   have cz27:=jz2 BK885
   have cz28:=jz2 BK887
   go_wp2
   refine bodyPost_ret (results_cell_row rfl _ _ gb887 74 #[.int .i64 a0_0,.int .i64 a0_1] (0,0) _ rfl (qF BK887) Try.underlying74 rfl (by kernel_rfl)) rfl ?_
   exact⟨qW,qB⟩
  simp only [Option.some.injEq,Prod.mk.injEq] at H
  obtain⟨rfl,rfl⟩:=H
  have hnb29:=NB886_885.out
  have hnc29:=NB885_886.out
  have hnb30:=NB886_887.out
  have hnc30:=NB887_886.out
  have cz31:=jz2 BK886
  have hnb32:=NB887_885.out
  have hnc32:=NB885_887.out
  have cz33:=jz2 BK887
  go_wp2
  refine bodyPost_ret (results_cell_row rfl _ _ gb887 74 #[.int .i64 2,.int .i64 0] (0,0) _ rfl (qF BK887) Try.underlying74 rfl (by kernel_rfl)) rfl ?_
  exact⟨qW,qB⟩
end Go.Proofs.Ytahbkldagpfcaaa.M
namespace Go.Proofs.Ytahbkldagpfcaaa.M
open Go.RowKit Go.Proofs.YtahbkldagpfcaaaW.PrintWords Go.Proofs.YtahbkldagpfcaaaW.PrintLast Go.Proofs.YtahbkldagpfcaaaW.PrintMore PM
/-- A row of facts,its numbers one after the other. -/
def fl:List SF->List Int
 | []=>[]
 | f :: x=>f.f0 :: f.f1 :: fl x
theorem fl_len:∀ x:List SF,(fl x).length=2*x.length
 | []=>rfl
 | f :: x=>by simp only [fl,List.length_cons,fl_len x];omega
theorem fl_get:∀ (x:List SF) (r:Nat),(fl x).getD (2*r) 0=(fa x r).f0/\(fl x).getD (2*r+1) 0=(fa x r).f1
 | [],r=>by simp [fl,fa,zF]
 | f :: x,0=>by simp [fl,fa]
 | f :: x,r+1=>by
  have:=fl_get x r
  rw [show 2*(r+1)=2*r+1+1 from by omega]
  simpa [fl,fa] using this
/-- The cells of numbers. -/
abbrev ics (m:List Int):Array Value:=(encs (Value.int .i64) m).toArray
theorem ics_size (m:List Int):(ics m).size=m.length:=by simp [encs]
theorem ics_get {m:List Int} {i:Nat} (h:i < m.length):(ics m)[i]?=some (.int .i64 (m.getD i 0)):=by simp [encs,List.getD_eq_getElem?_getD,List.getElem?_eq_getElem h]
theorem ics_one (m:List Int):(ics m).all (·.oneCell')=true:=all_oneCell_toArray fun v hv=>by
 simp only [encs,List.mem_map] at hv
 obtain⟨n,_,rfl⟩:=hv
 rfl
theorem blk_ints {w:World} {g t:Nat} {m:List Int} (h:w.heap[g]?=some (.cells (ics m) t (0,0))) {i:Nat} (hi:i < m.length):w.cell? ⟨g,i,none⟩=some (.int .i64 (m.getD i 0)):=(blk_cell h i).trans (ics_get hi)
theorem range_ints {w:World} {g t:Nat} {m:List Int} (h:w.heap[g]?=some (.cells (ics m) t (0,0))) (o n:Nat):w.rangeAt g o (encs (Value.int .i64) ((m.drop o).take n)):=fun j v hv=>by
 have hj:j < (encs (Value.int .i64) ((m.drop o).take n)).length:=(List.getElem?_eq_some_iff.1 hv).1
 simp only [encs,List.length_map,List.length_take,List.length_drop] at hj
 rw [blk_ints h (show o+j < m.length by omega)]
 rw [<- hv]
 simp only [encs,List.getElem?_map,List.getElem?_take,List.getElem?_drop,List.getD_eq_getElem?_getD]
 rw [if_pos (by omega),List.getElem?_eq_getElem (by omega)]
 rfl
theorem range_all {w:World} {g t:Nat} {m:List Int} (h:w.heap[g]?=some (.cells (ics m) t (0,0))):w.rangeAt g 0 (encs (Value.int .i64) m):=by
 have:=range_ints h 0 m.length
 rwa [List.drop_zero,List.take_length] at this
theorem there_ints {w:World} {g t:Nat} {m:List Int} (h:w.heap[g]?=some (.cells (ics m) t (0,0))) {o n:Nat} (hn:o+n<=m.length):w.there g o n:=fun j hj=>by
 refine⟨by rw [blk_ints h (by omega)];rfl,blk_frozen h _⟩
/-- Numbers in place of those from a place on. -/
def over (m:List Int) (o:Nat) (r:List Int):List Int:=m.take o ++ r ++ m.drop (o+r.length)
theorem setCells_ints {t g:Nat}:∀ (r:List Int) (o:Nat) (m:List Int) (w:World),w.heap[g]?=some (.cells (ics m) t (0,0))->o+r.length<=m.length->(w.setCells g o (encs (Value.int .i64) r)).heap[g]?=some (.cells (ics (over m o r)) t (0,0))
 | [],o,m,w,h,hn=>by
  have:over m o []=m:=by simp [over]
  rw [this]
  exact h
 | a :: r,o,m,w,h,hn=>by
  rw [List.length_cons] at hn
  have h1:(w.setCell ⟨g,o,none⟩ (.int .i64 a)).heap[g]?=some (.cells (ics (m.set o a)) t (0,0)):=by
   rw [blk_set h]
   congr 1
   simp [encs,List.map_set]
  have:=setCells_ints r (o+1) (m.set o a) _ h1 (by rw [List.length_set];omega)
  have e:over (m.set o a) (o+1) r=over m o (a :: r):=by
   unfold over
   rw [List.length_cons,show o+(r.length+1)=o+1+r.length from by omega,List.drop_set_of_lt (by omega)]
   congr 1
   rw [List.take_set,List.take_add_one,List.getElem?_eq_getElem (by omega)]
   rw [List.set_append_right _ _ (by rw [List.length_take];omega),List.length_take,show o - min o m.length=0 from by omega]
   simp
  rw [e] at this
  exact this
theorem setCells_below {g:Nat} {w0:World} (hg:w0.heap.size<=g):∀ (r:List Value) (o:Nat) (w:World),Below w0.heap.size w0 w->Below w0.heap.size w0 (w.setCells g o r)
 | [],o,w,h=>h
 | a :: r,o,w,h=>setCells_below hg r (o+1) _ (below_set h hg)
theorem setCells_far {g g':Nat} (hne:g'≠g) {cs:Array Value} {t:TypeId}:∀ (r:List Value) (o:Nat) (w:World),w.heap[g']?=some (.cells cs t (0,0))->(w.setCells g o r).heap[g']?=some (.cells cs t (0,0))
 | [],o,w,h=>h
 | a :: r,o,w,h=>setCells_far hne r (o+1) _ (blk_far h (p:=⟨g,o,none⟩) hne _)
theorem far_ {g g':Nat} {w w':World} {o:Nat} {r:List Value} (hw:w'=w.setCells g o r) (hne:g'≠g) {cs:Array Value} {t:TypeId} (h:w.heap[g']?=some (.cells cs t (0,0))):w'.heap[g']?=some (.cells cs t (0,0)):=by
 rw [hw]
 exact setCells_far hne r o w h
theorem below_ {g:Nat} {w0 w w':World} {o:Nat} {r:List Value} (hw:w'=w.setCells g o r) (hg:w0.heap.size<=g) (h:Below w0.heap.size w0 w):Below w0.heap.size w0 w':=by
 rw [hw]
 exact setCells_below hg r o w h
theorem cells5' {w:World} {g t:Nat} {a0 a1 a2 a3 a4:Value} (h:w.heap[g]?=some (.cells #[a0,a1,a2,a3,a4] t (0,0))):w.cell? ⟨g,0,none⟩=some a0/\w.cell? ⟨g,1,none⟩=some a1/\w.cell? ⟨g,2,none⟩=some a2/\w.cell? ⟨g,3,none⟩=some a3/\w.cell? ⟨g,4,none⟩=some a4:=⟨(blk_cell h 0).trans rfl,(blk_cell h 1).trans rfl,(blk_cell h 2).trans rfl,(blk_cell h 3).trans rfl,(blk_cell h 4).trans rfl⟩
theorem cells2' {w:World} {g t:Nat} {a0 a1:Value} (h:w.heap[g]?=some (.cells #[a0,a1] t (0,0))):w.cell? ⟨g,0,none⟩=some a0/\w.cell? ⟨g,1,none⟩=some a1:=⟨(blk_cell h 0).trans rfl,(blk_cell h 1).trans rfl⟩
def z24:List Int:=[0,0,0,0,0,0,0,0,0,0,0,0,0,0,0,0,0,0,0,0,0,0,0,0]
abbrev T12:TypeId:=76
theorem size12 {l:List Int} (h:l.length=24):(Try.prog.info? T12).map (·.size)=some (ics l).size:=by
 rw [ics_size,h]
 kernel_rfl
theorem size12' {l:List Int} (h:l.length=24):(Try.prog.info? T12).map (·.size)=some (encs (Value.int .i64) l).length:=by
 rw [show (encs (Value.int .i64) l).length=l.length from by simp [encs],h]
 kernel_rfl
section
variable {ops:Array Oper} {rest:List Oper} {op:Oper} {a:Act} {Q:Exit->Act->World->Prop}
theorem load12 {w:World} {p N:Tmp} (_hd:op.dst=some N) (hgd:op.guard=none) (ho:op.op = .load T12 (.tmp p)) {g o:Nat} (hx:a.eval (.tmp p) = .pointer (some ⟨g,o,none⟩)) {l:List Int} (hl:l.length=24) (hc:w.rangeAt g o (encs (Value.int .i64) l)) (h:wpList Try.prog ops Q rest (a.put op.dst (.agg (ics l))) w):wpList Try.prog ops Q (op :: rest) a w :=
 wpList_load_mid hgd T12 (.tmp p) ho g o hx _ _ hc Try.underlying76 rfl (size12' hl) h
theorem store12 {w:World} {p v:Tmp} (ho:op.op = .store T12 (.tmp p) (.tmp v)) (hgd:op.guard=none) {g o t:Nat} (hx:a.eval (.tmp p) = .pointer (some ⟨g,o,none⟩)) {l m:List Int} (hy:a.eval (.tmp v) = .agg (ics l)) (hl:l.length=24) (hb:w.heap[g]?=some (.cells (ics m) t (0,0))) (hm:o+24<=m.length)
  (h:∀ w',w'=w.setCells g o (encs (Value.int .i64) l)->w'.heap[g]?=some (.cells (ics (over m o l)) t (0,0))->wpList Try.prog ops Q rest (a.put op.dst undef) w'):wpList Try.prog ops Q (op :: rest) a w:=by
 refine wpList_store_mid hgd T12 (.tmp p) (.tmp v) ho g o (ics l) hx hy ?_ (size12 hl) (ics_one l) ?_
 ·rw [ics_size]
  exact there_ints hb (by omega)
 exact h _ rfl (setCells_ints l o m w hb (by omega))
theorem store2 {w:World} {p v:Tmp} (ho:op.op = .store 74 (.tmp p) (.tmp v)) (hgd:op.guard=none) {g o t:Nat} (hx:a.eval (.tmp p) = .pointer (some ⟨g,o,none⟩)) {x0 x1:Int} {m:List Int} (hy:a.eval (.tmp v) = .agg #[.int .i64 x0,.int .i64 x1]) (hb:w.heap[g]?=some (.cells (ics m) t (0,0))) (hm:o+2<=m.length)
  (h:∀ w',w'=w.setCells g o (encs (Value.int .i64) [x0,x1])->w'.heap[g]?=some (.cells (ics (over m o [x0,x1])) t (0,0))->wpList Try.prog ops Q rest (a.put op.dst undef) w'):wpList Try.prog ops Q (op :: rest) a w:=by
 refine wpList_store_mid hgd 74 (.tmp p) (.tmp v) ho g o (ics [x0,x1]) hx hy ?_ (by rw [ics_size];kernel_rfl) (ics_one _) ?_
 ·rw [ics_size]
  exact there_ints hb hm
 exact h _ rfl (setCells_ints [x0,x1] o m w hb hm)
end
theorem over2 (a b c d:Int):over [a,b] 0 [c,d]=[c,d]:=rfl
theorem over_all {m r:List Int} (h:r.length=m.length):over m 0 r=r:=by
 unfold over
 rw [List.take_zero,List.nil_append,List.drop_eq_nil_of_le (by omega),List.append_nil]
theorem over_fl:∀ (x:List SF) (r:Nat) (v0 v1:Int),r < x.length->over (fl x) (2*r) [v0,v1]=fl (x.set r ⟨v0,v1⟩)
 | [],r,v0,v1,h=>by simp at h
 | f :: x,0,v0,v1,h=>by simp [over,fl]
 | f :: x,r+1,v0,v1,h=>by
  have ih:=over_fl x r v0 v1 (by simpa using h)
  unfold over at ih ⊢
  rw [show 2*(r+1)=2*r+1+1 from by omega]
  simp only [fl,List.take_succ_cons,List.set_cons_succ,List.cons_append,List.length_cons,List.length_nil]
  rw [<- ih]
  rw [show 2*r+1+1+(0+1+1)=(2*r+(0+1+1))+1+1 from by omega]
  simp only [List.drop_succ_cons,List.length_cons,List.length_nil]
theorem ret12 {w:World} {fn:Func} {p:Tmp} (h:fn.results = #[.cell p T12]) {tmps:Array Value} {g t:Nat} {l:List Int} (hp:tmps.getD p undef = .pointer (some ⟨g,0,none⟩)) (hb:w.heap[g]?=some (.cells (ics l) t (0,0))) (hl:l.length=24):(results fn tmps).run Try.prog w = .ok (.agg (ics l)) w :=
 results_cell_row h tmps w g t _ _ _ hp hb Try.underlying76 rfl (size12 hl)
theorem fact0 {w:World} {g t:Nat} {x:List SF} (h:w.heap[g]?=some (.cells (ics (fl x)) t (0,0))) (hx:x.length=12) {i:Int} (hi:i.toNat < 12):w.cell? ⟨g,i.toNat*2,none⟩=some (.int .i64 (fa x i.toNat).f0):=by
 rw [blk_ints h (by rw [fl_len];omega),Nat.mul_comm,(fl_get x _).1]
theorem fact1 {w:World} {g t:Nat} {x:List SF} (h:w.heap[g]?=some (.cells (ics (fl x)) t (0,0))) (hx:x.length=12) {i:Int} (hi:i.toNat < 12):w.cell? ⟨g,i.toNat*2+1,none⟩=some (.int .i64 (fa x i.toNat).f1):=by
 rw [blk_ints h (by rw [fl_len];omega),Nat.mul_comm,(fl_get x _).2]
theorem Ifacts_behind_calls_s0 {G:Prop} (h:G:=by
  go_enter Try.func93,Try.ntmps93
  go_wp2_with (first|((with_reducible refine jd 2 rfl ?_);refine jX (ics (fl x)) T12 ?_;intro g2 hg w1 hbox hb;have B2:=aM hbox;have G2:=aM (show w.heap.size<=g2 by rw [hg];exact Nat.le_refl _);have HB:=aM (below_step (Below.refl _ _) hb);clear hg hbox hb)|((with_reducible refine jd 3 rfl ?_);refine jX #[.int .i64 q.f0,.int .i64 q.f1,.int .i64 q.f2,.int .i64 q.f3,.int .i64 q.f4] 46 ?_;intro g3 hg w2 hbox hb;have N3:=aM (show g2≠g3 by rw [hg];exact Nat.ne_of_lt (blk_lt B2.out));replace B2:=kB B2 hb;have B3:=aM hbox;have G3:=kG hg;replace HB:=kH hb;clear hg hbox hb)|((with_reducible refine jd 4 rfl ?_);refine jX (ics z24) T12 ?_;intro g4 hg w3 hbox hb;have N4:=aM (show g2≠g4 by rw [hg];exact Nat.ne_of_lt (blk_lt B2.out));have M4:=aM (show g3≠g4 by rw [hg];exact Nat.ne_of_lt (blk_lt B3.out));replace B2:=kB B2 hb;replace B3:=kB B3 hb;have B4:=aM hbox;have G4:=kG hg;replace HB:=kH hb;clear hg hbox hb;obtain⟨q0,q1,q2,q3,q4⟩:=cells5' B3.out)|(go_at_call 43;(with_reducible refine (IsetsOf.calls _ _ _ _ _ _ _ A1.out).mono ?_);rintro e w5 ⟨rfl,hb⟩;replace B2:=kB B2 hb;replace B3:=kB B3 hb;replace B4:=kB B4 hb;replace HB:=kH hb;clear hb q0 q1 q2 q3 q4)|((with_reducible refine jd 6 rfl ?_);refine jX (ics [0,0]) 74 ?_;intro g6 hg w6 hbox hb;have N6:=aM (show g2≠g6 by rw [hg];exact Nat.ne_of_lt (blk_lt B2.out));have M6:=aM (show g3≠g6 by rw [hg];exact Nat.ne_of_lt (blk_lt B3.out));have L6:=aM (show g4≠g6 by rw [hg];exact Nat.ne_of_lt (blk_lt B4.out));replace B2:=kB B2 hb;replace B3:=kB B3 hb;replace B4:=kB B4 hb;have B6:=aM hbox;have G6:=kG hg;replace HB:=kH hb;clear hg hbox hb)|((with_reducible refine store2 (p:=6) (v:=12) rfl rfl rfl rfl B6.out (by decide) ?_);intro w7 hw hb6;rw [over2] at hb6;replace HB:=aM (below_ hw G6.out HB.out);replace B2:=aM (far_ hw N6.out B2.out);replace B3:=aM (far_ hw M6.out B3.out);replace B4:=aM (far_ hw L6.out B4.out);clear B6 hw;have B6:=aM hb6;clear hb6;(try clear q0 q1 q2 q3 q4 a0 a1 b0 b1 d0 d1);obtain⟨q0,q1,q2,q3,q4⟩:=cells5' B3.out;have a0:=fact0 B2.out hx.1 ra;have a1:=fact1 B2.out hx.1 ra;have b0:=fact0 B2.out hx.1 rb;have b1:=fact1 B2.out hx.1 rb;obtain⟨d0,d1⟩:=cells2' B6.out)|((with_reducible refine store2 (p:=6) (v:=19) rfl rfl rfl rfl B6.out (by decide) ?_);intro w8 hw hb6;rw [over2] at hb6;replace HB:=aM (below_ hw G6.out HB.out);replace B2:=aM (far_ hw N6.out B2.out);replace B3:=aM (far_ hw M6.out B3.out);replace B4:=aM (far_ hw L6.out B4.out);clear B6 hw;have B6:=aM hb6;clear hb6;(try clear q0 q1 q2 q3 q4 a0 a1 b0 b1 d0 d1);obtain⟨q0,q1,q2,q3,q4⟩:=cells5' B3.out;have a0:=fact0 B2.out hx.1 ra;have a1:=fact1 B2.out hx.1 ra;have b0:=fact0 B2.out hx.1 rb;have b1:=fact1 B2.out hx.1 rb;obtain⟨d0,d1⟩:=cells2' B6.out)|((with_reducible refine store2 (p:=6) (v:=25) rfl rfl rfl rfl B6.out (by decide) ?_);intro w8 hw hb6;rw [over2] at hb6;replace HB:=aM (below_ hw G6.out HB.out);replace B2:=aM (far_ hw N6.out B2.out);replace B3:=aM (far_ hw M6.out B3.out);replace B4:=aM (far_ hw L6.out B4.out);clear B6 hw;have B6:=aM hb6;clear hb6;(try clear q0 q1 q2 q3 q4 a0 a1 b0 b1 d0 d1);obtain⟨q0,q1,q2,q3,q4⟩:=cells5' B3.out;have a0:=fact0 B2.out hx.1 ra;have a1:=fact1 B2.out hx.1 ra;have b0:=fact0 B2.out hx.1 rb;have b1:=fact1 B2.out hx.1 rb;obtain⟨d0,d1⟩:=cells2' B6.out)|((with_reducible refine store2 (p:=6) (v:=55) rfl rfl rfl rfl B6.out (by decide) ?_);intro w8 hw hb6;rw [over2] at hb6;replace HB:=aM (below_ hw G6.out HB.out);replace B2:=aM (far_ hw N6.out B2.out);replace B3:=aM (far_ hw M6.out B3.out);replace B4:=aM (far_ hw L6.out B4.out);clear B6 hw;have B6:=aM hb6;clear hb6;(try clear q0 q1 q2 q3 q4 a0 a1 b0 b1 d0 d1);obtain⟨q0,q1,q2,q3,q4⟩:=cells5' B3.out;have a0:=fact0 B2.out hx.1 ra;have a1:=fact1 B2.out hx.1 ra;have b0:=fact0 B2.out hx.1 rb;have b1:=fact1 B2.out hx.1 rb;obtain⟨d0,d1⟩:=cells2' B6.out)|((with_reducible refine store2 (p:=58) (v:=57) rfl rfl rfl rfl B2.out hr24 ?_);intro w9 hw hb2;replace HB:=aM (below_ hw G2.out HB.out);replace B4:=aM (far_ hw (Ne.symm N4.out) B4.out);clear B2 B3 B6 hw q0 q1 q2 q3 q4 a0 a1 b0 b1 d0 d1;rw [Nat.mul_comm,over_fl _ _ _ _ (by rw [hx.1];exact rd)] at hb2;have B2:=aM hb2;clear hb2)|((with_reducible refine load12 (N:=59) rfl rfl rfl rfl hls (range_all B2.out) ?_))|((with_reducible refine store12 (p:=4) rfl rfl rfl rfl hls B4.out (by decide) ?_);intro w10 hw6 hb6;have n1:=aM (below_ hw6 G4.out HB.out);rw [over_all hls] at hb6;clear B4 HB hw6;have B4:=aM hb6;have HB:=n1;clear n1 hb6))
  exact bodyPost_ret (ret12 rfl rfl B4.out hls) rfl ⟨rfl,HB.out⟩):G:=h
set_option maxHeartbeats 4000000 in
theorem Ifacts_behind.calls {x:List SF} (hx:okR x) {q:SQ} {m:Int} (hq:QV (q_ q) m) (w:World) :
  Calls Try.prog 93 #[.agg (ics (fl x)),.agg #[.int .i64 q.f0,.int .i64 q.f1,.int .i64 q.f2,.int .i64 q.f3,.int .i64 q.f4]] w fun e w'=>e = .returned (.agg (ics (fl (aftF (q_ q) x))))/\Below w.heap.size w w':=by
 have hs:IsetsOf.f q.f0 q.f1 q.f2 q.f3 q.f4=some (sets (q_ q)):=IsetsOf.e (q_ q)
 have A1:=aM hs
 clear hs
 have HB:=aM (Below.refl w.heap.size w)
 have hl24:(fl x).length=24:=by rw [fl_len,hx.1]
 by_cases c0:sets (q_ q) < 0
 ·have c0b:=decide_eq_true c0
  have e0:aftF (q_ q) x=x:=if_pos c0
  rw [e0]
  clear c0
  go_enter Try.func93,Try.ntmps93
  go_wp2_with (first|((with_reducible refine jd 2 rfl ?_);refine jX (ics (fl x)) T12 ?_;intro g2 hg w1 hbox hb;have B2:=aM hbox;have G2:=aM (show w.heap.size<=g2 by rw [hg];exact Nat.le_refl _);have HB:=aM (below_step (Below.refl _ _) hb);clear hg hbox hb)|((with_reducible refine jd 3 rfl ?_);refine jX #[.int .i64 q.f0,.int .i64 q.f1,.int .i64 q.f2,.int .i64 q.f3,.int .i64 q.f4] 46 ?_;intro g3 hg w2 hbox hb;have N3:=aM (show g2≠g3 by rw [hg];exact Nat.ne_of_lt (blk_lt B2.out));replace B2:=kB B2 hb;have B3:=aM hbox;have G3:=kG hg;replace HB:=kH hb;clear hg hbox hb)|((with_reducible refine jd 4 rfl ?_);refine jX (ics z24) T12 ?_;intro g4 hg w3 hbox hb;have N4:=aM (show g2≠g4 by rw [hg];exact Nat.ne_of_lt (blk_lt B2.out));have M4:=aM (show g3≠g4 by rw [hg];exact Nat.ne_of_lt (blk_lt B3.out));replace B2:=kB B2 hb;replace B3:=kB B3 hb;have B4:=aM hbox;have G4:=kG hg;replace HB:=kH hb;clear hg hbox hb;obtain⟨q0,q1,q2,q3,q4⟩:=cells5' B3.out)|(go_at_call 43;(with_reducible refine (IsetsOf.calls _ _ _ _ _ _ _ A1.out).mono ?_);rintro e w5 ⟨rfl,hb⟩;replace B2:=kB B2 hb;replace B3:=kB B3 hb;replace B4:=kB B4 hb;replace HB:=kH hb;clear hb q0 q1 q2 q3 q4)|((with_reducible refine load12 (N:=11) rfl rfl rfl rfl hl24 (range_all B2.out) ?_))|((with_reducible refine store12 (p:=4) rfl rfl rfl rfl hl24 B4.out (by decide) ?_);intro w6 hw6 hb6;have n1:=aM (below_ hw6 G4.out HB.out);rw [over_all hl24] at hb6;clear B4 HB hw6;have B4:=aM hb6;have HB:=n1;clear n1 hb6))
  exact bodyPost_ret (ret12 rfl rfl B4.out hl24) rfl ⟨rfl,HB.out⟩
 have c0b:=decide_eq_false c0
 obtain⟨⟨d1,d2⟩,⟨a1,a2⟩,b1,b2⟩:=regs_of hq
 have ⟨ra,rb⟩:=regA hq
 simp only [q_] at d1 d2 a1 a2 b1 b2 ra rb
 have rd:q.f1.toNat < 12:=by omega
 have hr24:q.f1.toNat*2+2<=(fl x).length:=by rw [hl24];omega
 have hls:∀ {v:SF},(fl (x.set q.f1.toNat v)).length=24:=by intro v;rw [fl_len,List.length_set,hx.1]
 have hop:q.f0=1\/q.f0=2\/q.f0=3\/q.f0=7:=by
  apply Classical.byContradiction
  intro y
  refine c0 ?_
  unfold sets
  rw [if_neg (show ¬ ((q_ q).op=1\/(q_ q).op=2\/(q_ q).op=3\/(q_ q).op=7) from y)]
  decide
 have es:sets (q_ q)=q.f1:=if_pos hop
 rw [es] at A1 c0b
 have ea:aftF (q_ q) x=x.set q.f1.toNat (valF (q_ q) x):=by
  unfold aftF
  rw [if_neg c0,es]
 rw [ea]
 have d1b:=decide_eq_true d1
 have d2b:=decide_eq_true d2
 clear ea c0 es
 rcases hop with o|o|o|o
 ·have o1:(q.f0 == 1)=true:=by simp [o]
  have ev:valF (q_ q) x=⟨1,q.f4⟩:=if_pos o
  rw [ev]
  clear o ev hq
  exact Ifacts_behind_calls_s0
 ·have o1:(q.f0 == 1)=false:=by simp [o]
  have o2:(q.f0 == 2)=true:=by simp [o]
  have ev:valF (q_ q) x=fa x q.f2.toNat:=by unfold valF;rw [if_neg (show ¬ (q_ q).op=1 by show ¬ q.f0=1;omega),if_pos (show (q_ q).op=2 from o)];rfl
  have ev2:valF (q_ q) x=⟨(fa x q.f2.toNat).f0,(fa x q.f2.toNat).f1⟩:=ev
  rw [ev2]
  have a1b:=decide_eq_true a1
  have a2b:=decide_eq_true a2
  clear o ev ev2 hq
  exact Ifacts_behind_calls_s0
 ·have o1:(q.f0 == 1)=false:=by simp [o]
  have o2:(q.f0 == 2)=false:=by simp [o]
  have o3:(q.f0 == 3)=true:=by simp [o]
  have a1b:=decide_eq_true a1
  have a2b:=decide_eq_true a2
  have b1b:=decide_eq_true b1
  have b2b:=decide_eq_true b2
  have ev0:valF (q_ q) x=if (fa x q.f2.toNat).f0=1/\(fa x q.f3.toNat).f0=1 then ⟨1,ap q.f4 (fa x q.f2.toNat).f1 (fa x q.f3.toNat).f1⟩ else ⟨2,0⟩:=by
   unfold valF
   rw [if_neg (show ¬ (q_ q).op=1 by show ¬ q.f0=1;omega),if_neg (show ¬ (q_ q).op=2 by show ¬ q.f0=2;omega),if_pos (show (q_ q).op=3 from o)]
   rfl
  clear o hq
  by_cases cA:(fa x q.f2.toNat).f0=1
  ·have cAb:((fa x q.f2.toNat).f0 == 1)=true:=by simp [cA]
   by_cases cB:(fa x q.f3.toNat).f0=1
   ·have cBb:((fa x q.f3.toNat).f0 == 1)=true:=by simp [cB]
    have ev:valF (q_ q) x=⟨1,ap q.f4 (fa x q.f2.toNat).f1 (fa x q.f3.toNat).f1⟩:=by rw [ev0,if_pos ⟨cA,cB⟩]
    have A2:=aM (Iapply.e q.f4 (fa x q.f2.toNat).f1 (fa x q.f3.toNat).f1)
    rw [ev]
    clear ev ev0 cA cB
    go_enter Try.func93,Try.ntmps93
    go_wp2_with (first|((with_reducible refine jd 2 rfl ?_);refine jX (ics (fl x)) T12 ?_;intro g2 hg w1 hbox hb;have B2:=aM hbox;have G2:=aM (show w.heap.size<=g2 by rw [hg];exact Nat.le_refl _);have HB:=aM (below_step (Below.refl _ _) hb);clear hg hbox hb)|((with_reducible refine jd 3 rfl ?_);refine jX #[.int .i64 q.f0,.int .i64 q.f1,.int .i64 q.f2,.int .i64 q.f3,.int .i64 q.f4] 46 ?_;intro g3 hg w2 hbox hb;have N3:=aM (show g2≠g3 by rw [hg];exact Nat.ne_of_lt (blk_lt B2.out));replace B2:=kB B2 hb;have B3:=aM hbox;have G3:=kG hg;replace HB:=kH hb;clear hg hbox hb)|((with_reducible refine jd 4 rfl ?_);refine jX (ics z24) T12 ?_;intro g4 hg w3 hbox hb;have N4:=aM (show g2≠g4 by rw [hg];exact Nat.ne_of_lt (blk_lt B2.out));have M4:=aM (show g3≠g4 by rw [hg];exact Nat.ne_of_lt (blk_lt B3.out));replace B2:=kB B2 hb;replace B3:=kB B3 hb;have B4:=aM hbox;have G4:=kG hg;replace HB:=kH hb;clear hg hbox hb;obtain⟨q0,q1,q2,q3,q4⟩:=cells5' B3.out)|(go_at_call 43;(with_reducible refine (IsetsOf.calls _ _ _ _ _ _ _ A1.out).mono ?_);rintro e w5 ⟨rfl,hb⟩;replace B2:=kB B2 hb;replace B3:=kB B3 hb;replace B4:=kB B4 hb;replace HB:=kH hb;clear hb q0 q1 q2 q3 q4)|((with_reducible refine jd 6 rfl ?_);refine jX (ics [0,0]) 74 ?_;intro g6 hg w6 hbox hb;have N6:=aM (show g2≠g6 by rw [hg];exact Nat.ne_of_lt (blk_lt B2.out));have M6:=aM (show g3≠g6 by rw [hg];exact Nat.ne_of_lt (blk_lt B3.out));have L6:=aM (show g4≠g6 by rw [hg];exact Nat.ne_of_lt (blk_lt B4.out));replace B2:=kB B2 hb;replace B3:=kB B3 hb;replace B4:=kB B4 hb;have B6:=aM hbox;have G6:=kG hg;replace HB:=kH hb;clear hg hbox hb)|((with_reducible refine store2 (p:=6) (v:=12) rfl rfl rfl rfl B6.out (by decide) ?_);intro w7 hw hb6;rw [over2] at hb6;replace HB:=aM (below_ hw G6.out HB.out);replace B2:=aM (far_ hw N6.out B2.out);replace B3:=aM (far_ hw M6.out B3.out);replace B4:=aM (far_ hw L6.out B4.out);clear B6 hw;have B6:=aM hb6;clear hb6;(try clear q0 q1 q2 q3 q4 a0 a1 b0 b1 d0 d1);obtain⟨q0,q1,q2,q3,q4⟩:=cells5' B3.out;have a0:=fact0 B2.out hx.1 ra;have a1:=fact1 B2.out hx.1 ra;have b0:=fact0 B2.out hx.1 rb;have b1:=fact1 B2.out hx.1 rb;obtain⟨d0,d1⟩:=cells2' B6.out)|((with_reducible refine store2 (p:=6) (v:=19) rfl rfl rfl rfl B6.out (by decide) ?_);intro w8 hw hb6;rw [over2] at hb6;replace HB:=aM (below_ hw G6.out HB.out);replace B2:=aM (far_ hw N6.out B2.out);replace B3:=aM (far_ hw M6.out B3.out);replace B4:=aM (far_ hw L6.out B4.out);clear B6 hw;have B6:=aM hb6;clear hb6;(try clear q0 q1 q2 q3 q4 a0 a1 b0 b1 d0 d1);obtain⟨q0,q1,q2,q3,q4⟩:=cells5' B3.out;have a0:=fact0 B2.out hx.1 ra;have a1:=fact1 B2.out hx.1 ra;have b0:=fact0 B2.out hx.1 rb;have b1:=fact1 B2.out hx.1 rb;obtain⟨d0,d1⟩:=cells2' B6.out)|((with_reducible refine store2 (p:=6) (v:=25) rfl rfl rfl rfl B6.out (by decide) ?_);intro w8 hw hb6;rw [over2] at hb6;replace HB:=aM (below_ hw G6.out HB.out);replace B2:=aM (far_ hw N6.out B2.out);replace B3:=aM (far_ hw M6.out B3.out);replace B4:=aM (far_ hw L6.out B4.out);clear B6 hw;have B6:=aM hb6;clear hb6;(try clear q0 q1 q2 q3 q4 a0 a1 b0 b1 d0 d1);obtain⟨q0,q1,q2,q3,q4⟩:=cells5' B3.out;have a0:=fact0 B2.out hx.1 ra;have a1:=fact1 B2.out hx.1 ra;have b0:=fact0 B2.out hx.1 rb;have b1:=fact1 B2.out hx.1 rb;obtain⟨d0,d1⟩:=cells2' B6.out)|((with_reducible refine store2 (p:=6) (v:=55) rfl rfl rfl rfl B6.out (by decide) ?_);intro w8 hw hb6;rw [over2] at hb6;replace HB:=aM (below_ hw G6.out HB.out);replace B2:=aM (far_ hw N6.out B2.out);replace B3:=aM (far_ hw M6.out B3.out);replace B4:=aM (far_ hw L6.out B4.out);clear B6 hw;have B6:=aM hb6;clear hb6;(try clear q0 q1 q2 q3 q4 a0 a1 b0 b1 d0 d1);obtain⟨q0,q1,q2,q3,q4⟩:=cells5' B3.out;have a0:=fact0 B2.out hx.1 ra;have a1:=fact1 B2.out hx.1 ra;have b0:=fact0 B2.out hx.1 rb;have b1:=fact1 B2.out hx.1 rb;obtain⟨d0,d1⟩:=cells2' B6.out)|((with_reducible refine store2 (p:=58) (v:=57) rfl rfl rfl rfl B2.out hr24 ?_);intro w9 hw hb2;replace HB:=aM (below_ hw G2.out HB.out);replace B4:=aM (far_ hw (Ne.symm N4.out) B4.out);clear B2 B3 B6 hw q0 q1 q2 q3 q4 a0 a1 b0 b1 d0 d1;rw [Nat.mul_comm,over_fl _ _ _ _ (by rw [hx.1];exact rd)] at hb2;have B2:=aM hb2;clear hb2)|((with_reducible refine load12 (N:=59) rfl rfl rfl rfl hls (range_all B2.out) ?_))|((with_reducible refine store12 (p:=4) rfl rfl rfl rfl hls B4.out (by decide) ?_);intro w10 hw6 hb6;have n1:=aM (below_ hw6 G4.out HB.out);rw [over_all hls] at hb6;clear B4 HB hw6;have B4:=aM hb6;have HB:=n1;clear n1 hb6))
    have f0:=blk_frozen B6.out 0
    have f1:=blk_frozen B6.out 1
    have n26:=N6.out
    have n26s:=Ne.symm N6.out
    go_region_held3 (fun w'=>w'.cell? ⟨g3,2,none⟩=some (.int .i64 q.f2)/\w'.cell? ⟨g3,3,none⟩=some (.int .i64 q.f3)/\w'.cell? ⟨g3,4,none⟩=some (.int .i64 q.f4)/\w'.cell? ⟨g2,q.f2.toNat*2+1,none⟩=some (.int .i64 (fa x q.f2.toNat).f1)/\w'.cell? ⟨g2,q.f3.toNat*2+1,none⟩=some (.int .i64 (fa x q.f3.toNat).f1)) (first|(simp [*];done)|(go_simp;done)|(constructor <;> go_simp)) (first|(go_at_call 110;(with_reducible refine (Iapply.calls _ _ _ _ _ A2.out).mono ?_);rintro e w11 ⟨rfl,nd,rfl⟩))
    rename_i hH
    clear hH n26 n26s f0 f1
    generalize hw0:World.setCell _ ⟨g6,1,none⟩ (.int .i64 (ap q.f4 (fa x q.f2.toNat).f1 (fa x q.f3.toNat).f1))=w8
    have hw:w8=(w7.drewN (1+nd)).setCells g6 0 (encs (Value.int .i64) [1,ap q.f4 (fa x q.f2.toNat).f1 (fa x q.f3.toNat).f1]):=hw0.symm
    clear hw0
    have n1:=aM (below_ hw G6.out (pw_below_drewN HB.out _))
    have n2:=aM (far_ hw N6.out (blk_drewN B2.out _))
    have n3:=aM (far_ hw M6.out (blk_drewN B3.out _))
    have n4:=aM (far_ hw L6.out (blk_drewN B4.out _))
    have n6:Aside0 (w8.heap[g6]?=some (.cells (ics [1,ap q.f4 (fa x q.f2.toNat).f1 (fa x q.f3.toNat).f1]) 74 (0,0))):=⟨by rw [hw];exact setCells_ints [1,ap q.f4 (fa x q.f2.toNat).f1 (fa x q.f3.toNat).f1] 0 [2,0] _ (blk_drewN B6.out _) (by simp)⟩
    clear HB B2 B3 B4 B6 hw q0 q1 q2 q3 q4 a0 a1 b0 b1 d0 d1
    have HB:=n1
    have B2:=n2
    have B3:=n3
    have B4:=n4
    have B6:=n6
    clear n1 n2 n3 n4 n6
    obtain⟨q0,q1,q2,q3,q4⟩:=cells5' B3.out
    have a0:=fact0 B2.out hx.1 ra
    have a1:=fact1 B2.out hx.1 ra
    have b0:=fact0 B2.out hx.1 rb
    have b1:=fact1 B2.out hx.1 rb
    obtain⟨d0,d1⟩:=cells2' B6.out
    go_wp2_with (first|((with_reducible refine store2 (p:=58) (v:=57) rfl rfl rfl rfl B2.out hr24 ?_);intro w9 hw hb2;replace HB:=aM (below_ hw G2.out HB.out);replace B4:=aM (far_ hw (Ne.symm N4.out) B4.out);clear B2 B3 B6 hw q0 q1 q2 q3 q4 a0 a1 b0 b1 d0 d1;rw [Nat.mul_comm,over_fl _ _ _ _ (by rw [hx.1];exact rd)] at hb2;have B2:=aM hb2;clear hb2)|((with_reducible refine load12 (N:=59) rfl rfl rfl rfl hls (range_all B2.out) ?_))|((with_reducible refine store12 (p:=4) rfl rfl rfl rfl hls B4.out (by decide) ?_);intro w10 hw6 hb6;have n1:=aM (below_ hw6 G4.out HB.out);rw [over_all hls] at hb6;clear B4 HB hw6;have B4:=aM hb6;have HB:=n1;clear n1 hb6))
    exact bodyPost_ret (ret12 rfl rfl B4.out hls) rfl ⟨rfl,HB.out⟩
   have cBb:((fa x q.f3.toNat).f0 == 1)=false:=by simp [cB]
   have ev:valF (q_ q) x=⟨2,0⟩:=by rw [ev0,if_neg fun y=>cB y.2]
   rw [ev]
   clear ev ev0 cA cB
   exact Ifacts_behind_calls_s0
  have cAb:((fa x q.f2.toNat).f0 == 1)=false:=by simp [cA]
  have ev:valF (q_ q) x=⟨2,0⟩:=by rw [ev0,if_neg fun y=>cA y.1]
  rw [ev]
  clear ev ev0 cA
  exact Ifacts_behind_calls_s0
 have o1:(q.f0 == 1)=false:=by simp [o]
 have o2:(q.f0 == 2)=false:=by simp [o]
 have o3:(q.f0 == 3)=false:=by simp [o]
 have ev:valF (q_ q) x=⟨2,0⟩:=by unfold valF;rw [if_neg (show ¬ (q_ q).op=1 by show ¬ q.f0=1;omega),if_neg (show ¬ (q_ q).op=2 by show ¬ q.f0=2;omega),if_neg (show ¬ (q_ q).op=3 by show ¬ q.f0=3;omega)]
 rw [ev]
 clear o ev hq
 exact Ifacts_behind_calls_s0
theorem InextOf.go {c:List SQ} (h:CV (qs c)) {i:Nat} (hi:i < c.length) (w:World) :
  Calls Try.prog 83 #[.agg #[.int .i64 (qa c i).f0,.int .i64 (qa c i).f1,.int .i64 (qa c i).f2,.int .i64 (qa c i).f3,.int .i64 (qa c i).f4],.int .i64 (i:Int)] w fun e w'=>∃ v,e = .returned v/\Kd.R (Kd.int .i64) 3 w' w.heap.size (fun _=>True) v (ints (nx (q_ (qa c i)) i))/\Below w.heap.size w w':=by
 obtain⟨k,hk⟩:=(InextOf.ev h hi).get
 exact InextOf.calls k _ _ _ _ _ _ _ _ hk
theorem Icarried_calls_s0 {G:Prop} (h:G:=by
  go_enter Try.func94,Try.ntmps94
  go_wp2_with (first|((with_reducible refine jd 3 rfl ?_);refine jX #[.int .i64 (qa c i).f0,.int .i64 (qa c i).f1,.int .i64 (qa c i).f2,.int .i64 (qa c i).f3,.int .i64 (qa c i).f4] 46 ?_;intro g3 hg w2 hbox hb;have B3:=aM hbox;replace HB:=kH hb;clear hg hbox hb)|((with_reducible refine jd 5 rfl ?_);refine jX (ics (fl x)) T12 ?_;intro g5 hg w3 hbox hb;replace B3:=kB B3 hb;have B5:=aM hbox;replace HB:=kH hb;clear hg hbox hb;obtain⟨q0,q1,q2,q3,q4⟩:=cells5' B3.out;have a0:=fact0 B5.out hx.1 ra;have a1:=fact1 B5.out hx.1 ra)|((with_reducible refine jd 26 rfl ?_);refine Kd.R_lit (Kd.int .i64) _ 3 ?hg (N:=26) ?hd (xs:=([(qa c i).f4]:List Int)) (inner:=[.int .i64 ((qa c i).f4)]) (ok:=fun _=>True) (okp:=fun _=>True) ?hr ?hp (fun _ hk=>hk) trivial (Below.refl _ _) (Nat.le_refl _) (by simp) ?_;(case hd=>rfl);(case hg=>rfl);(case hr=>first|(go_simp;done)|(go_simp;rfl));(case hp=>exact (Reps.one (show Kd.M (Kd.int .i64) _ _ _ ((qa c i).f4) [.int .i64 ((qa c i).f4)] from rfl) (Reps.none _ _)));intro v9 w9 ho hb hg_ hnew_;have HO:=aM (Kd.R_lower ho HB.out.size);replace HB:=kH hb;clear ho hb hg_ hnew_)|((with_reducible refine jd 29 rfl ?_);refine Kd.R_lit (Kd.int .i64) _ 3 ?hg (N:=29) ?hd (xs:=([wrap64 ((i:Int)+1)]:List Int)) (inner:=[.int .i64 (wrap64 ((i:Int)+1))]) (ok:=fun _=>True) (okp:=fun _=>True) ?hr ?hp (fun _ hk=>hk) trivial (Below.refl _ _) (Nat.le_refl _) (by simp) ?_;(case hd=>rfl);(case hg=>rfl);(case hr=>first|(go_simp;done)|(go_simp;rfl));(case hp=>exact (Reps.one (show Kd.M (Kd.int .i64) _ _ _ (wrap64 ((i:Int)+1)) [.int .i64 (wrap64 ((i:Int)+1))] from rfl) (Reps.none _ _)));intro v9 w9 ho hb hg_ hnew_;have HO:=aM (Kd.R_lower ho HB.out.size);replace HB:=kH hb;clear ho hb hg_ hnew_)|(go_at_call 83;(with_reducible refine (go _).mono ?_);rintro e w8 ⟨v8,rfl,ho,hb⟩;have HO:=aM (Kd.R_lower ho HB.out.size);replace HB:=kH hb;clear ho hb))
  go_ret
  exact⟨_,rfl,HO.out,HB.out⟩):G:=h
set_option maxHeartbeats 4000000 in
theorem Icarried.calls {c:List SQ} (h:CV (qs c)) {i:Nat} (hi:i < c.length) {x:List SF} (hx:okR x) (w:World) :
  Calls Try.prog 94 #[.agg #[.int .i64 (qa c i).f0,.int .i64 (qa c i).f1,.int .i64 (qa c i).f2,.int .i64 (qa c i).f3,.int .i64 (qa c i).f4],.int .i64 (i:Int),.agg (ics (fl x))] w fun e w'=>∃ v,e = .returned v/\Kd.R (Kd.int .i64) 3 w' w.heap.size (fun _=>True) v (ints (edges (q_ (qa c i)) i x))/\Below w.heap.size w w':=by
 have go:=fun W=>InextOf.go h hi W
 have hl24:(fl x).length=24:=by rw [fl_len,hx.1]
 have hq:=cv_at h hi
 obtain⟨_,⟨a1,a2⟩,_⟩:=regs_of hq
 have ⟨ra,rb⟩:=regA hq
 simp only [q_] at a1 a2 ra rb
 have a1b:=decide_eq_true a1
 have a2b:=decide_eq_true a2
 have h6:=(cv600 h).2
 have HB:=aM (Below.refl w.heap.size w)
 have ee:edges (q_ (qa c i)) i x=if (qa c i).f0=5/\(fa x (qa c i).f2.toNat).f0=1 then (if (fa x (qa c i).f2.toNat).f1=0 then [(qa c i).f4.toNat] else [i+1]) else nx (q_ (qa c i)) i:=rfl
 by_cases c5:(qa c i).f0=5
 ·have c5b:((qa c i).f0 == 5)=true:=by simp [c5]
  have n0:0<=(qa c i).f4:=(n_of h hi (.inr c5)).1
  by_cases c1:(fa x (qa c i).f2.toNat).f0=1
  ·have c1b:((fa x (qa c i).f2.toNat).f0 == 1)=true:=by simp [c1]
   rw [if_pos ⟨c5,c1⟩] at ee
   by_cases c2:(fa x (qa c i).f2.toNat).f1=0
   ·have c2b:((fa x (qa c i).f2.toNat).f1 == 0)=true:=by simp [c2]
    have e2:ints (edges (q_ (qa c i)) i x)=[(qa c i).f4]:=by
     rw [ee,if_pos c2]
     simp [ints]
     omega
    rw [e2]
    clear ee e2 c5 c1 c2 hq n0 h6
    exact Icarried_calls_s0
   have c2b:((fa x (qa c i).f2.toNat).f1 == 0)=false:=by simp [c2]
   have e2:ints (edges (q_ (qa c i)) i x)=[wrap64 ((i:Int)+1)]:=by
    rw [ee,if_neg c2,wrap_up (by omega)]
    rfl
   rw [e2]
   clear ee e2 c5 c1 c2 hq n0 h6
   exact Icarried_calls_s0
  have c1b:((fa x (qa c i).f2.toNat).f0 == 1)=false:=by simp [c1]
  rw [if_neg fun y=>c1 y.2] at ee
  rw [ee]
  clear ee c5 c1 hq n0
  exact Icarried_calls_s0
 have c5b:((qa c i).f0 == 5)=false:=by simp [c5]
 rw [if_neg fun y=>c5 y.1] at ee
 rw [ee]
 clear ee c5 hq
 exact Icarried_calls_s0
/-- A table of rows,its numbers one after the other. -/
def flat:List (List SF)->List Int
 | []=>[]
 | x :: U=>fl x ++ flat U
def All12 (U:List (List SF)):Prop:=∀ x∈U,x.length=12
theorem All12.tail {x:List SF} {U:List (List SF)} (h:All12 (x :: U)):All12 U:=fun y hy=>h y (List.mem_cons_of_mem _ hy)
theorem All12.head {x:List SF} {U:List (List SF)} (h:All12 (x :: U)):(fl x).length=24:=by rw [fl_len,h x List.mem_cons_self]
theorem All12.set {U:List (List SF)} (h:All12 U) (i:Nat) {v:List SF} (hv:v.length=12):All12 (U.set i v):=fun y hy=>by
 rcases List.mem_or_eq_of_mem_set hy with m|m
 ·exact h y m
 rw [m];exact hv
theorem flat_len:∀ {U:List (List SF)},All12 U->(flat U).length=24*U.length
 | [],h=>rfl
 | x :: U,h=>by
  simp only [flat,List.length_append,List.length_cons,h.head,flat_len h.tail]
  omega
theorem flat_row:∀ {U:List (List SF)},All12 U->∀ {i:Nat},i < U.length->((flat U).drop (i*24)).take 24=fl (U.getD i [])
 | x :: U,h,0,hi=>by
  show ((fl x ++ flat U).drop (0*24)).take 24=fl x
  rw [Nat.zero_mul,List.drop_zero]
  have:=h.head
  rw [<- this,List.take_left]
 | x :: U,h,i+1,hi=>by
  have:=flat_row h.tail (show i < U.length by simpa using hi)
  have hl:=h.head
  rw [show (i+1)*24=24+i*24 from by omega]
  simp only [flat,List.getD_cons_succ]
  rw [<- List.drop_drop,<- hl,List.drop_left,hl]
  exact this
theorem flat_over:∀ {U:List (List SF)},All12 U->∀ {i:Nat},i < U.length->∀ {v:List SF},v.length=12->over (flat U) (i*24) (fl v)=flat (U.set i v)
 | x :: U,h,0,hi,v,hv=>by
  have hl:=h.head
  have hv24:(fl v).length=24:=by rw [fl_len,hv]
  unfold over
  simp only [Nat.zero_mul,List.take_zero,List.nil_append,Nat.zero_add,flat,List.set_cons_zero]
  rw [hv24,<- hl,List.drop_left]
 | x :: U,h,i+1,hi,v,hv=>by
  have ih:=flat_over h.tail (show i < U.length by simpa using hi) hv
  have hl:=h.head
  unfold over at ih ⊢
  rw [show (i+1)*24=24+i*24 from by omega]
  simp only [flat,List.set_cons_succ]
  rw [<- ih,List.take_append,List.drop_append,hl]
  rw [List.take_of_length_le (by omega),List.drop_eq_nil_of_le (by omega),show 24+i*24 - 24=i*24 from by omega,show 24+i*24+(fl v).length - 24=i*24+(fl v).length from by omega]
  simp
theorem flat_rep:∀ n:Nat,flat (List.replicate n (List.replicate 12 zF))=List.replicate (n*24) 0
 | 0=>rfl
 | n+1=>by
  rw [List.replicate_succ,flat,flat_rep n,show (n+1)*24=24+n*24 from by omega,<- List.replicate_append_replicate]
  rfl
theorem all_rep (n:Nat):All12 (List.replicate n (List.replicate 12 zF)):=fun x hx=>by
 rw [List.eq_of_mem_replicate hx]
 simp
theorem st_all {c:List SQ} {T:List (List SF)} (h:(FS c).St T):All12 T:=fun x hx=>by
 obtain⟨i,hi,e⟩:=List.getElem_of_mem hx
 have hn:T.length=c.length:=h.1
 have:=(h.2 i (by show i < c.length;omega)).1
 rw [FS_at hi,List.getD_eq_getElem?_getD,List.getElem?_eq_getElem hi] at this
 rw [<- e]
 exact this
/-- A row of a table in its block. -/
theorem range_row {w:World} {g t:Nat} {U:List (List SF)} (h:w.heap[g]?=some (.cells (ics (flat U)) t (0,0))) (hU:All12 U) {i:Nat} (hi:i < U.length):w.rangeAt g (i*24) (encs (Value.int .i64) (fl (U.getD i []))):=by
 have:=range_ints h (i*24) 24
 rwa [flat_row hU hi] at this
theorem R_setCells {α:Type} {d:Kd α} {e base g:Nat} {ok:Nat->Prop} {v:Value} {xs:List α} (hg:∀ k,ok k->k≠g):∀ (r:List Value) (o:Nat) {w:World},d.R e w base ok v xs->d.R e (w.setCells g o r) base ok v xs
 | [],o,w,h=>h
 | a :: r,o,w,h=>R_setCells hg r (o+1) (Kd.R_far (p:=⟨g,o,none⟩) h hg a)
theorem R_set_ {α:Type} {d:Kd α} {e base g o:Nat} {ok:Nat->Prop} {v:Value} {xs:List α} {r:List Value} {w w':World} (hw:w'=w.setCells g o r) (hg:∀ k,ok k->k≠g) (h:d.R e w base ok v xs):d.R e w' base ok v xs:=by
 rw [hw]
 exact R_setCells hg r o h
theorem made_zero (n:Nat):madeCells (Value.agg (ics z24)).cells (n*24)=ics (List.replicate (n*24) 0):=by
 have hz:(Value.agg (ics z24)).cells=Array.replicate 24 (Value.int .i64 0):=rfl
 have hf:∀ j:Nat,(Array.replicate 24 (Value.int .i64 0))[j % 24]! = Value.int .i64 0:=fun j=>by
  rw [getElem!_pos _ _ (by rw [Array.size_replicate];exact Nat.mod_lt _ (by decide)),Array.getElem_replicate]
 rw [hz]
 apply Array.ext
 ·simp [madeCells,encs]
 intro j h1 h2
 simp only [madeCells,Array.getElem_map,Array.size_replicate,Array.getElem_range]
 rw [hf]
 simp [encs]
def ca (l:List Int) (r:Nat):Int:=l.getD r 0
theorem ca_mk (f:Nat->Int) {r:Nat} (h:r < 12):ca (mk12 f) r=f r:=mk12_get _ _ h
theorem ca_set {l:List Int} (hl:l.length=12) {s r:Nat} (hs:s < 12) (v:Int):ca (l.set s v) r=if r=s then v else ca l r:=getD_set l s r v 0 (by omega)
theorem ca_ext {a b:List Int} (ha:a.length=12) (hb:b.length=12) (h:∀ r,r < 12->ca a r=ca b r):a=b:=ext12 0 ha hb h
theorem mk_ne {α:Type} (f:Nat->α):mk12 f≠[]:=fun e=>by have:=mk12_len f;rw [e] at this;simp at this
def okC (l:List Int):Prop:=l=[]\/(l.length=12/\∀ r,r < 12->0<=ca l r/\ca l r < 12)
def leC (a b:List Int):Prop:=a=[]\/(b≠[]/\∀ r:Nat,r < 12->ca b r=ca a r\/ca b r=r)
def jC (a b:List Int):List Int:=if a=[] then b else if b=[] then a else mk12 fun r=>if ca a r=ca b r then ca a r else r
def selfC:List Int:=mk12 fun r=>(r:Int)
def aftC (q:Q) (x:List Int):List Int:=if sets q < 0 then x else mk12 fun r=>if (r:Int)=sets q then (if q.op=2 then q.a else r) else if ca x r=sets q then r else ca x r
def rkC (x:List Int):Nat:=if x=[] then 0 else 1+sumTo (fun r=>if ca x r=r then 1 else 0) 12
def CS (c:List SQ):Sys (List Int) where
 n:=c.length
 ok:=okC
 le:=leC
 jn:=jC
 out:=fun i x=>if x=[] then [] else (nx (q_ (qa c i)) i).map fun e=>(e,aftC (q_ (qa c i)) x)
 rk:=rkC
 top:=13
 d:=[]
 ini:=selfC
theorem okC_len {l:List Int} (h:okC l) (g:l≠[]):l.length=12/\∀ r,r < 12->0<=ca l r/\ca l r < 12:=by
 rcases h with h|h
 ·exact absurd h g
 exact h
theorem aftC_ok {q:Q} {m:Int} (h:QV q m) {x:List Int} (hx:okC x) (g:x≠[]):okC (aftC q x)/\aftC q x≠[]:=by
 unfold aftC
 split
 ·exact⟨hx,g⟩
 refine⟨.inr ⟨mk12_len _,fun r hr=>?_⟩,mk_ne _⟩
 have k:=(okC_len hx g).2 r hr
 obtain⟨_,⟨a0,a1⟩,_⟩:=regs_of h
 rw [ca_mk _ hr]
 (repeat' split) <;> omega
theorem aftC_mono {q:Q} {m:Int} (h:QV q m) {x y:List Int} (hx:okC x) (hy:okC y) (g:x≠[]) (g':y≠[]) (hl:leC x y):leC (aftC q x) (aftC q y):=by
 rcases hl with hl|hl
 ·exact absurd hl g
 refine .inr ⟨(aftC_ok h hy g').2,fun r hr=>?_⟩
 have k:=hl.2 r hr
 unfold aftC
 split
 ·exact k
 rw [ca_mk _ hr,ca_mk _ hr]
 by_cases e:(r:Int)=sets q
 ·rw [if_pos e,if_pos e]
  exact .inl rfl
 rw [if_neg e,if_neg e]
 rcases k with k|k
 ·rw [k]
  exact .inl rfl
 rw [k,if_neg e]
 exact .inr rfl
theorem leC_some {a b:List Int} (h:leC a b) (g:a≠[]):b≠[]:=by
 rcases h with h|h
 ·exact absurd h g
 exact h.1
theorem jC_some {a b:List Int} (ha:a≠[]):jC a b≠[]:=by
 unfold jC
 rw [if_neg ha]
 split
 ·exact ha
 exact mk_ne _
theorem leC_refl (a:List Int):leC a a:=by
 by_cases h:a=[]
 ·exact .inl h
 exact .inr ⟨h,fun r _=>.inl rfl⟩
theorem CS_laws {c:List SQ} (h:CV (qs c)):(CS c).Laws where
 refl:=fun a _=>leC_refl a
 trans:=fun a b c _ _ _ h g=>by
  rcases h with h|h
  ·exact .inl h
  rcases g with g|g
  ·exact absurd g h.1
  refine .inr ⟨g.1,fun r hr=>?_⟩
  rcases g.2 r hr with x|x
  ·rw [x]
   exact h.2 r hr
  exact .inr x
 anti:=fun a b ha hb h g=>by
  by_cases ea:a=[]
  ·rcases g with g|g
   ·rw [ea,g]
   exact absurd ea g.1
  have eb:=leC_some h ea
  rcases h with h|h
  ·exact absurd h ea
  rcases g with g|g
  ·exact absurd g eb
  refine ca_ext (okC_len ha ea).1 (okC_len hb eb).1 fun r hr=>?_
  rcases h.2 r hr with x|x
  ·exact x.symm
  rcases g.2 r hr with y|y
  ·exact y
  omega
 ub1:=fun a b ha hb=>by
  show leC a (jC a b)
  by_cases ea:a=[]
  ·exact .inl ea
  refine .inr ⟨jC_some ea,fun r hr=>?_⟩
  unfold jC
  rw [if_neg ea]
  split
  ·exact .inl rfl
  rw [ca_mk _ hr]
  split
  ·exact .inl rfl
  exact .inr rfl
 ub2:=fun a b ha hb=>by
  show leC b (jC a b)
  by_cases eb:b=[]
  ·exact .inl eb
  by_cases ea:a=[]
  ·unfold jC
   rw [if_pos ea]
   exact leC_refl b
  refine .inr ⟨jC_some ea,fun r hr=>?_⟩
  unfold jC
  rw [if_neg ea,if_neg eb,ca_mk _ hr]
  split
  ·rename_i x
   exact .inl x
  exact .inr rfl
 lub:=fun a b c ha hb hc h g=>by
  show leC (jC a b) c
  by_cases ea:a=[]
  ·unfold jC
   rwa [if_pos ea]
  by_cases eb:b=[]
  ·unfold jC
   rwa [if_neg ea,if_pos eb]
  refine .inr ⟨leC_some h ea,fun r hr=>?_⟩
  rcases h with h|h
  ·exact absurd h ea
  rcases g with g|g
  ·exact absurd g eb
  unfold jC
  rw [if_neg ea,if_neg eb,ca_mk _ hr]
  have k:=h.2 r hr
  have k':=g.2 r hr
  split <;> omega
 okj:=fun a b ha hb=>by
  show okC (jC a b)
  unfold jC
  split
  ·exact hb
  split
  ·exact ha
  rename_i ea eb
  refine .inr ⟨mk12_len _,fun r hr=>?_⟩
  rw [ca_mk _ hr]
  have:=(okC_len ha ea).2 r hr
  split <;> omega
 oko:=fun i x hi hx p hp=>by
  have hp':p∈(if x=[] then [] else (nx (q_ (qa c i)) i).map fun e=>(e,aftC (q_ (qa c i)) x)):=hp
  split at hp'
  ·simp at hp'
  rename_i g
  obtain⟨e,he,rfl⟩:=List.mem_map.1 hp'
  have n:=nx_lt h (i:=i) (j:=e) (by rw [qs_len];exact hi) (by rw [at_qs];exact he)
  rw [qs_len] at n
  exact⟨n,(aftC_ok (cv_at h hi) hx g).1⟩
 mono:=fun i x y hi hx hy hl p hp=>by
  have hp':p∈(if x=[] then [] else (nx (q_ (qa c i)) i).map fun e=>(e,aftC (q_ (qa c i)) x)):=hp
  split at hp'
  ·simp at hp'
  rename_i g
  obtain⟨e,he,rfl⟩:=List.mem_map.1 hp'
  have g':=leC_some hl g
  refine⟨aftC (q_ (qa c i)) y,?_,aftC_mono (cv_at h hi) hx hy g g' hl⟩
  show _∈(if y=[] then [] else (nx (q_ (qa c i)) i).map fun e=>(e,aftC (q_ (qa c i)) y))
  rw [if_neg g']
  exact List.mem_map.2 ⟨e,he,rfl⟩
 rank:=fun a b ha hb hl ne=>by
  show rkC a < rkC b
  unfold rkC
  by_cases ea:a=[]
  ·have eb:b≠[]:=fun x=>ne (by rw [ea,x])
   rw [if_pos ea,if_neg eb]
   omega
  have eb:=leC_some hl ea
  rw [if_neg ea,if_neg eb]
  rcases hl with hl|hl
  ·exact absurd hl ea
  have k:∃ r,r < 12/\ca a r≠ca b r:=by
   apply Classical.byContradiction
   intro x
   exact ne (ca_ext (okC_len ha ea).1 (okC_len hb eb).1 fun r hr=>Classical.byContradiction fun y=>x ⟨r,hr,y⟩)
  obtain⟨r,hr,hne⟩:=k
  have:=sumTo_lt (f:=fun r=>if ca a r=r then 1 else 0) (g:=fun r=>if ca b r=r then 1 else 0) 12 (fun r hr=>by
   have:=hl.2 r hr
   split <;> split <;> omega) r hr (by
   have:=hl.2 r hr
   rw [if_neg (by omega),if_pos (by omega)]
   omega)
  omega
 rtop:=fun a ha=>by
  show rkC a<=13
  unfold rkC
  split
  ·omega
  have:=sumTo_le (f:=fun r=>if ca a r=r then 1 else 0) (g:=fun _=>1) 12 (fun r hr=>by split <;> omega)
  rw [sumTo_const] at this
  omega
 okd:=.inl rfl
 oki:=.inr ⟨mk12_len _,fun r hr=>by
  show 0<=ca (mk12 fun r=>(r:Int)) r/\ca (mk12 fun r=>(r:Int)) r < 12
  rw [ca_mk _ hr]
  omega⟩
 bot:=fun a _=>.inl rfl
 outd:=fun i=>by
  show (if ([]:List Int)=[] then ([]:List (Nat × List Int)) else (nx (q_ (qa c i)) i).map fun e=>(e,aftC (q_ (qa c i)) []))=[]
  exact if_pos rfl
 pos:=(cv600 h).1
 inid:=mk_ne _
theorem rd_ca (x:List Int) (r:Nat):rd x (r:Int)=ca x r:=rd_nat x r
theorem rd_ca' (x:List Int) {i:Int} (h:0<=i):rd x i=ca x i.toNat:=by rw [<- rd_ca,Int.toNat_of_nonneg h]
theorem Sl34Self.out:∀ (d p:Nat),p+d=12->Ev (fun k=>Sl34Self.l0 k (selfC.take p) (p:Int)) selfC
 | 0,p,hp=>by
  refine Ev.succ ?_
  simp only [Sl34Self.l0]
  refine Ev.neg (Ev.eq Ev.pure ?_)
  rw [List.take_of_length_le (by show (mk12 _).length<=p;rw [mk12_len];omega)]
 | d+1,p,hp=>by
  refine Ev.succ ?_
  have hl:selfC.length=12:=mk12_len _
  have e:selfC.take p ++ [(p:Int)]=selfC.take (p+1):=by
   rw [<- take_next 0 (show p < selfC.length by omega)]
   congr 2
   exact (ca_mk _ (show p < 12 by omega)).symm
  simp only [Sl34Self.l0,e,wrap_up (show p < 9223372036854775807 by omega)]
  refine Ev.pos (Ev.pos (Sl34Self.out d (p+1) (by omega)) (by rw [List.length_take];omega))
theorem Sl34Self.ev:Ev (fun k=>Sl34Self.f k) selfC:=Sl34Self.out 12 0 rfl
/-- What is a copy of s is none,below p. -/
def cutC (s:Int) (p:Nat) (x:List Int):List Int:=mk12 fun r=>if r < p/\ca x r=s then (r:Int) else ca x r
theorem Sl34After.out {q:Q} {s:Nat} (hs:s < 12) {x:List Int} (hx:x.length=12) (hq:sets q=s):∀ (d p:Nat),p+d=12->Ev (fun k=>Sl34After.l0 k (cutC s p x) (s:Int) (p:Int) q.op q.dst q.a q.b q.n) (aftC q x)
 | 0,p,hp=>by
  have:p=12:=by omega
  subst this
  refine Ev.succ ?_
  have hl:(cutC s 12 x).length=12:=mk12_len _
  simp only [Sl34After.l0,hl,Int.toNat_natCast,List.set_set]
  refine Ev.neg (Ev.pos (Ev.pos (Ev.some ?_)))
  have key:∀ v:Int,v=(if q.op=2 then q.a else (s:Int))->(cutC s 12 x).set s v=aftC q x:=by
   intro v hv
   unfold aftC
   rw [hq,if_neg (by omega)]
   refine ca_ext (by rw [List.length_set];exact hl) (mk12_len _) fun r hr=>?_
   rw [ca_set hl hs,ca_mk _ hr]
   by_cases e:r=s
   ·rw [if_pos e,if_pos (by omega),hv,e]
   rw [if_neg e,if_neg (by omega)]
   unfold cutC
   rw [ca_mk _ hr]
   by_cases g:ca x r=s
   ·rw [if_pos ⟨hr,g⟩,if_pos g]
   rw [if_neg (fun y=>g y.2),if_neg g]
  by_cases c2:q.op=2
  ·refine Ev.pos (Ev.eq Ev.pure ?_)
   simp only [List.set_set]
   exact key _ (by rw [if_pos c2])
  refine Ev.neg (Ev.eq Ev.pure ?_)
  exact key _ (by rw [if_neg c2])
 | d+1,p,hp=>by
  refine Ev.succ ?_
  have hl:(cutC s p x).length=12:=mk12_len _
  have hp12:p < 12:=by omega
  have hc:ca (cutC s p x) p=ca x p:=by
   unfold cutC
   rw [ca_mk _ hp12,if_neg (by omega)]
  simp only [Sl34After.l0,hl,rd_ca,hc,Int.toNat_natCast,wrap_up (show p < 9223372036854775807 by omega)]
  refine Ev.pos (Ev.pos (Ev.pos ?_))
  by_cases g:ca x p=s
  ·refine Ev.pos ?_
   have e:(cutC s p x).set p (p:Int)=cutC s (p+1) x:=by
    refine ca_ext (by rw [List.length_set];exact hl) (mk12_len _) fun r hr=>?_
    rw [ca_set hl hp12]
    unfold cutC
    rw [ca_mk _ hr,ca_mk _ hr]
    by_cases er:r=p
    ·rw [if_pos er,if_pos ⟨by omega,by rw [er];exact g⟩,er]
    rw [if_neg er]
    by_cases l:r < p/\ca x r=s
    ·rw [if_pos l,if_pos ⟨by omega,l.2⟩]
    rw [if_neg l,if_neg (fun y=>l ⟨by omega,y.2⟩)]
   rw [e]
   exact Sl34After.out hs hx hq d (p+1) (by omega)
  refine Ev.neg ?_
  have e:cutC s p x=cutC s (p+1) x:=by
   refine ca_ext hl (mk12_len _) fun r hr=>?_
   unfold cutC
   rw [ca_mk _ hr,ca_mk _ hr]
   by_cases l:r < p/\ca x r=s
   ·rw [if_pos l,if_pos ⟨by omega,l.2⟩]
   rw [if_neg l,if_neg (fun y=>l ⟨by
    have:r≠p:=fun e=>g (by rw [<- e];exact y.2)
    omega,y.2⟩)]
  rw [e]
  exact Sl34After.out hs hx hq d (p+1) (by omega)
theorem Sl34After.ev {q:Q} (h:QV q 600) {x:List Int} (hx:okC x) (g:x≠[]):Ev (fun k=>Sl34After.f k q.op q.dst q.a q.b q.n x) (aftC q x):=by
 have hl:=(okC_len hx g).1
 have hs:=setsR h
 simp only [Sl34After.f,SQuadSets.e h,List.nil_append]
 refine Ev.some (Ev.pos (Ev.some (Ev.some ?_)) (by simp [hl]))
 simp only [List.nil_append]
 by_cases c:sets q < 0
 ·refine Ev.pos (Ev.eq Ev.pure ?_)
  unfold aftC
  rw [if_pos c]
 refine Ev.neg ?_
 have e:sets q=((sets q).toNat:Int):=by omega
 have o:=Sl34After.out hs hl e 12 0 rfl
 have e0:cutC ((sets q).toNat:Int) 0 x=x:=ca_ext (mk12_len _) hl fun r hr=>by
  unfold cutC
  rw [ca_mk _ hr,if_neg (by omega)]
 rw [e0,<- e] at o
 exact o
/-- The first p copies of a row met. -/
def mP (p:Nat) (a v:List Int):List Int:=mk12 fun r=>if r < p then (if ca a r=ca v r then ca a r else (r:Int)) else ca a r
theorem ca_mP (p:Nat) (a v:List Int) {r:Nat} (h:r < 12):ca (mP p a v) r=if r < p then (if ca a r=ca v r then ca a r else (r:Int)) else ca a r:=mk12_get _ _ h
theorem mP_step (p:Nat) (hp:p < 12) (a v:List Int) (z:Int) (hz:z=if ca a p=ca v p then ca a p else (p:Int)):(mP p a v).set p z=mP (p+1) a v:=by
 refine ca_ext (by rw [List.length_set];exact mk12_len _) (mk12_len _) fun r hr=>?_
 rw [ca_set (l:=mP p a v) (mk12_len _) hp,ca_mP _ _ _ hr,ca_mP _ _ _ hr]
 by_cases e:r=p
 ·rw [if_pos e,if_pos (by omega),e,hz]
 rw [if_neg e]
 by_cases l:r < p
 ·rw [if_pos l,if_pos (show r < p+1 by omega)]
 rw [if_neg l,if_neg (show ¬ r < p+1 by omega)]
theorem mP_same (p:Nat) (hp:p < 12) {a v:List Int} (h:ca a p=p\/ca a p=ca v p):mP p a v=mP (p+1) a v:=by
 refine ca_ext (mk12_len _) (mk12_len _) fun r hr=>?_
 rw [ca_mP _ _ _ hr,ca_mP _ _ _ hr]
 by_cases e:r=p
 ·subst e
  rw [if_neg (by omega),if_pos (by omega)]
  split <;> omega
 by_cases l:r < p
 ·rw [if_pos l,if_pos (show r < p+1 by omega)]
 rw [if_neg l,if_neg (show ¬ r < p+1 by omega)]
theorem Sl34Carry.out {T:List (List Int)} {e:Nat} (he:e < T.length) (h9:T.length < 9223372036854775807) {a v:List Int} (hv:v.length=12):∀ (d p:Nat) (b:Bool),p+d=12->Ev (fun k=>Sl34Carry.l0 k (T.set e (mP p a v)) (e:Int) v b (p:Int)) (b || !decide (mP 12 a v=mP p a v),T.set e (mP 12 a v))
 | 0,p,b,hp=>by
  refine Ev.succ ?_
  simp only [Sl34Carry.l0]
  refine Ev.neg (Ev.eq Ev.pure ?_)
  rw [show p=12 from by omega]
  simp
 | d+1,p,b,hp=>by
  refine Ev.succ ?_
  have hp12:p < 12:=by omega
  have hr:rd_L7 (T.set e (mP p a v)) (e:Int)=mP p a v:=by
   unfold rd_L7
   rw [Int.toNat_natCast]
   exact rd_set he _
  have hL:(mP p a v).length=12:=mk12_len _
  simp only [Sl34Carry.l0,hr,rd_ca,List.length_set,hL,hv,ca_mP p a v hp12,if_neg (Nat.lt_irrefl p),wrap_up (show p < 9223372036854775807 by omega),Int.toNat_natCast,List.set_set]
  refine Ev.pos (Ev.pos (Ev.pos (Ev.pos (Ev.pos ?_))))
  by_cases g:ca a p=p
  ·refine Ev.pos ?_
   rw [mP_same p hp12 (.inl g)]
   exact Sl34Carry.out he h9 hv d (p+1) b (by omega)
  refine Ev.neg (Ev.pos ?_)
  by_cases g2:ca a p=ca v p
  ·refine Ev.pos ?_
   rw [mP_same p hp12 (.inr g2)]
   exact Sl34Carry.out he h9 hv d (p+1) b (by omega)
  refine Ev.neg ?_
  have:=Sl34Carry.out he h9 (a:=a) hv d (p+1) true (by omega)
  rw [<- mP_step p hp12 a v (p:Int) (by rw [if_neg g2])] at this
  refine Ev.eq this ?_
  have ne:¬ mP 12 a v=mP p a v:=by
   intro x
   have y:ca (mP 12 a v) p=ca (mP p a v) p:=by rw [x]
   rw [ca_mP _ _ _ hp12,ca_mP _ _ _ hp12,if_neg (Nat.lt_irrefl p),if_pos hp12,if_neg g2] at y
   exact g y.symm
  rw [decide_eq_false ne]
  simp
theorem Sl34Carry.ev {T:List (List Int)} {e:Nat} (he:e < T.length) (h9:T.length < 9223372036854775807) {a v:List Int} (ha:okC a) (hv:okC v) (gv:v≠[]) (hT:T.getD e []=a):Ev (fun k=>Sl34Carry.f k T (e:Int) v) (!decide (jC a v=a),T.set e (jC a v)):=by
 have hr:rd_L7 T (e:Int)=a:=by
  unfold rd_L7
  rw [Int.toNat_natCast]
  exact hT
 have lv:=(okC_len hv gv).1
 simp only [Sl34Carry.f,hr,Int.toNat_natCast]
 refine Ev.pos (Ev.pos ?_)
 by_cases ea:a=[]
 ·subst ea
  refine Ev.pos (Ev.some (Ev.pos (Ev.eq Ev.pure ?_) (by simp [lv]))) (by simp)
  have ej:jC [] v=v:=if_pos rfl
  rw [ej,decide_eq_false gv]
  simp
 have la:=(okC_len ha ea).1
 refine Ev.neg ?_ (by rw [la];decide)
 have o:=Sl34Carry.out he h9 (a:=a) lv 12 0 false rfl
 have e0:mP 0 a v=a:=ca_ext (mk12_len _) la fun r hr=>by rw [ca_mP _ _ _ hr,if_neg (by omega)]
 have e1:mP 12 a v=jC a v:=by
  unfold jC
  rw [if_neg ea,if_neg gv]
  refine ca_ext (mk12_len _) (mk12_len _) fun r hr=>?_
  rw [ca_mP _ _ _ hr,if_pos hr,ca_mk _ hr]
 rw [e0,e1] at o
 have hs:T.set e a=T:=by
  rw [<- hT]
  apply List.ext_getElem (by simp)
  intro i h1 h2
  rw [List.getElem_set]
  split
  ·rename_i x
   subst x
   rw [List.getD_eq_getElem?_getD,List.getElem?_eq_getElem he]
   rfl
  rfl
 rw [hs] at o
 refine Ev.eq o ?_
 rw [Bool.false_or]
theorem CS_at {c:List SQ} {T:List (List Int)} {e:Nat}:(CS c).at' T e=T.getD e []:=rfl
theorem Sl34Round.in {c:List SQ} (h:CV (qs c)) {i:Nat} (hi:i < c.length) {v:List Int} (hv:okC v) (gv:v≠[]) {es:List Nat} (hl:es.length < 1000) (he:∀ e∈es,e < c.length) {R:Bool × List (List Int)}:∀ (d p:Nat) (T:List (List Int)) (b:Bool),p+d=es.length->(CS c).St T->Ev (fun k=>Sl34Round.l0 k c (Sys.pass (CS c) ((es.drop p).map fun e=>(e,v)) T b).1 (Sys.pass (CS c) ((es.drop p).map fun e=>(e,v)) T b).2 ((i+1:Nat):Int)) R->Ev (fun k=>Sl34Round.l1 k c T b (i:Int) (ints es) v (p:Int)) R
 | 0,p,T,b,hp,hT,g=>by
  refine Ev.succ ?_
  have h6:=cv600 h
  rw [List.drop_eq_nil_of_le (by omega)] at g
  simp only [Sl34Round.l1,ints_len,wrap_up (show i < 9223372036854775807 by omega)]
  exact Ev.neg g
 | d+1,p,T,b,hp,hT,g=>by
  refine Ev.succ ?_
  have h6:=cv600 h
  have hm:es.getD p 0 < c.length:=he _ (getD_mem (by omega))
  have hn:T.length=c.length:=hT.1
  have hc:=Sl34Carry.ev (T:=T) (e:=es.getD p 0) (by omega) (by omega) (a:=(CS c).at' T (es.getD p 0)) (hT.2 _ hm) hv gv rfl
  rw [drop_cons 0 (show p < es.length by omega)] at g
  have hT':=Sys.put_st (CS_laws h) hT (p:=(es.getD p 0,v)) hm hv
  simp only [Sl34Round.l1,ints_len,rd_ints,wrap_up (show p < 9223372036854775807 by omega)]
  refine Ev.pos (Ev.pos (Ev.bind hc ?_))
  have go:=fun b'=>Sl34Round.in h hi hv gv hl he (R:=R) d (p+1) (Sys.put (CS c) T (es.getD p 0,v)) b' (by omega) hT'
  by_cases e:jC ((CS c).at' T (es.getD p 0)) v=(CS c).at' T (es.getD p 0)
  ·rw [decide_eq_true e]
   refine Ev.neg (go b ?_)
   have:=g
   simp only [List.map_cons,Sys.pass] at this
   rwa [show decide ((CS c).jn ((CS c).at' T (es.getD p 0)) v=(CS c).at' T (es.getD p 0))=true from decide_eq_true e,Bool.not_true,Bool.or_false] at this
  rw [decide_eq_false e]
  refine Ev.pos (go true ?_)
  have:=g
  simp only [List.map_cons,Sys.pass] at this
  rwa [show decide ((CS c).jn ((CS c).at' T (es.getD p 0)) v=(CS c).at' T (es.getD p 0))=false from decide_eq_false e,Bool.not_false,Bool.or_true] at this
theorem Sl34Round.out {c:List SQ} (h:CV (qs c)):∀ (d:Nat),d<=c.length->∀ (T:List (List Int)) (b:Bool),(CS c).St T->Ev (fun k=>Sl34Round.l0 k c T b ((c.length - d:Nat):Int)) ((Sys.rnds (CS c) d T b).2,(Sys.rnds (CS c) d T b).1)
 | 0,hd,T,b,hT=>by
  refine Ev.succ ?_
  simp only [Sl34Round.l0,Nat.sub_zero]
  exact Ev.neg Ev.pure
 | d+1,hd,T,b,hT=>by
  refine Ev.succ ?_
  have h6:=cv600 h
  have hi:c.length - (d+1) < c.length:=by omega
  have hn:T.length=c.length:=hT.1
  have hr:rd_L7 T ((c.length - (d+1):Nat):Int)=(CS c).at' T (c.length - (d+1)):=by
   unfold rd_L7
   rw [Int.toNat_natCast]
   rfl
  have ok:=hT.2 _ hi
  have hw:=wrap_up (show c.length - (d+1) < 9223372036854775807 by omega)
  have hs:((c.length - (d+1)+1:Nat):Int)=((c.length - d:Nat):Int):=by congr 1;omega
  obtain⟨b1,_⟩:=Sys.pass_all (CS_laws h) ((CS c).out (c.length - (d+1)) ((CS c).at' T (c.length - (d+1)))) T b hT ((CS_laws h).oko _ _ hi ok)
  have ih:=Sl34Round.out h d (by omega) _ (Sys.pass (CS c) ((CS c).out (c.length - (d+1)) ((CS c).at' T (c.length - (d+1)))) T b).2 b1
  simp only [Sl34Round.l0,hr,hw,rd_qa]
  refine Ev.pos (Ev.pos (Ev.pos ?_))
  show Ev _ ((Sys.rnds (CS c) d (Sys.pass (CS c) ((CS c).out (c.length - (d+1)) ((CS c).at' T (c.length - (d+1)))) T b).1 (Sys.pass (CS c) ((CS c).out (c.length - (d+1)) ((CS c).at' T (c.length - (d+1)))) T b).2).2,(Sys.rnds (CS c) d (Sys.pass (CS c) ((CS c).out (c.length - (d+1)) ((CS c).at' T (c.length - (d+1)))) T b).1 (Sys.pass (CS c) ((CS c).out (c.length - (d+1)) ((CS c).at' T (c.length - (d+1)))) T b).2).1)
  by_cases g:(CS c).at' T (c.length - (d+1))=[]
  ·refine Ev.pos ?_ (by rw [g];rfl)
   rw [hs]
   have e:(CS c).out (c.length - (d+1)) ((CS c).at' T (c.length - (d+1)))=[]:=if_pos g
   rw [e] at ih ⊢
   exact ih
  have hL:=(okC_len ok g).1
  refine Ev.neg (Ev.bind (Sl31Next.ev h hi) (Ev.bind (Sl34After.ev (qa600 h hi) ok g) ?_)) (by rw [hL];decide)
  have e:(CS c).out (c.length - (d+1)) ((CS c).at' T (c.length - (d+1)))=(nx (q_ (qa c (c.length - (d+1)))) (c.length - (d+1))).map fun e=>(e,aftC (q_ (qa c (c.length - (d+1)))) ((CS c).at' T (c.length - (d+1)))):=if_neg g
  refine Sl34Round.in h hi (aftC_ok (cv_at h hi) ok g).1 (aftC_ok (cv_at h hi) ok g).2 (by have:=nx_len (q_ (qa c (c.length - (d+1)))) (c.length - (d+1));omega) (fun e he=>?_) _ 0 T b (Nat.zero_add _) hT ?_
  ·have n:=nx_lt h (i:=c.length - (d+1)) (j:=e) (by rw [qs_len];exact hi) (by rw [at_qs];exact he)
   rwa [qs_len] at n
  rw [List.drop_zero,<- e,hs]
  exact ih
/-- What is not reached has no copies. -/
def fin1 (x:List Int):List Int:=if x=[] then selfC else x
def finC (U:List (List Int)):List (List Int):=U.map fin1
theorem finC_len (U:List (List Int)):(finC U).length=U.length:=by simp [finC]
theorem finC_get {U:List (List Int)} {i:Nat} (h:i < U.length):(finC U).getD i []=fin1 (U.getD i []):=by simp [finC,List.getD_eq_getElem?_getD,List.getElem?_eq_getElem h]
theorem SCopiesOf.last {c:List SQ} (h:CV (qs c)) {U:List (List Int)} (hU:U.length=c.length):∀ (d p:Nat),p+d=c.length->Ev (fun k=>SCopiesOf.l2 k c ((finC U).take p ++ U.drop p) (p:Int)) (finC U)
 | 0,p,hp=>by
  refine Ev.succ ?_
  simp only [SCopiesOf.l2]
  refine Ev.neg (Ev.eq Ev.pure ?_)
  rw [List.take_of_length_le (by rw [finC_len];omega),List.drop_eq_nil_of_le (by omega),List.append_nil]
 | d+1,p,hp=>by
  refine Ev.succ ?_
  have h6:=cv600 h
  have hl:((finC U).take p ++ U.drop p).length=c.length:=by rw [List.length_append,List.length_take,List.length_drop,finC_len];omega
  have hr:rd_L7 ((finC U).take p ++ U.drop p) (p:Int)=U.getD p []:=by
   unfold rd_L7
   rw [Int.toNat_natCast,List.getD_eq_getElem?_getD,List.getElem?_append_right (by rw [List.length_take,finC_len];omega),List.length_take,finC_len,show p - min p U.length=0 from by omega,List.getElem?_drop,List.getD_eq_getElem?_getD]
   rfl
  have e:(finC U).take (p+1) ++ U.drop (p+1)=(finC U).take p ++ (fin1 (U.getD p []) :: U.drop (p+1)):=by
   rw [<- take_next [] (show p < (finC U).length by rw [finC_len];omega),finC_get (by omega),List.append_assoc]
   rfl
  simp only [SCopiesOf.l2,hr,hl,Int.toNat_natCast,wrap_up (show p < 9223372036854775807 by omega)]
  refine Ev.pos (Ev.pos (Ev.pos ?_))
  have ih:=SCopiesOf.last h hU d (p+1) (by omega)
  rw [e] at ih
  rw [drop_cons [] (show p < U.length by omega)]
  by_cases g:U.getD p []=[]
  ·refine Ev.pos (Ev.bind Sl34Self.ev ?_) (by rw [g];rfl)
   rw [List.set_append_right _ _ (by rw [List.length_take,finC_len];omega),List.length_take,finC_len,show p - min p U.length=0 from by omega,List.set_cons_zero]
   rw [fin1,if_pos g] at ih
   exact ih
  refine Ev.neg ?_ (by intro x;exact g (List.eq_nil_of_length_eq_zero (by omega)))
  rw [fin1,if_neg g] at ih
  exact ih
theorem SCopiesOf.rounds {c:List SQ} (h:CV (qs c)):∀ (m:Nat) (T:List (List Int)),(CS c).Rd T->(CS c).cap T<=m->∃ U,(CS c).Lfp U/\Ev (fun k=>SCopiesOf.l1 k c T) (finC U)
 | m,T,hT,hm=>by
  obtain⟨a,b,e⟩:=Sys.rd_step (CS_laws h) hT
  have o:=Sl34Round.out h c.length (Nat.le_refl _) T false hT.1
  rw [Nat.sub_self] at o
  have o':Ev (fun k=>Sl34Round.f k c T) ((Sys.rnds (CS c) c.length T false).2,(Sys.rnds (CS c) c.length T false).1):=o
  cases g:(Sys.rnds (CS c) c.length T false).2 with
  | false =>
   have l:=e g
   refine⟨_,l,Ev.succ ?_⟩
   simp only [SCopiesOf.l1]
   exact Ev.bind o' (Ev.neg (SCopiesOf.last h l.1.1.1 c.length 0 (Nat.zero_add _)) (by simp [g]))
  | true =>
   have lt:=b g
   match m,hm with
   | 0,hm=>omega
   | m+1,hm =>
    obtain⟨U,hU,hE⟩:=SCopiesOf.rounds h m _ a (by have:(CS c).cap (Sys.rnds (CS c) c.length T false).1 < (CS c).cap T:=lt;show (CS c).cap (Sys.rnds (CS c) c.length T false).1<=m;omega)
    refine⟨U,hU,Ev.succ ?_⟩
    simp only [SCopiesOf.l1]
    exact Ev.bind o' (Ev.pos hE (by simp [g]))
theorem SCopiesOf.fill {c:List SQ} (h:CV (qs c)) {U:List (List Int)} (g:Ev (fun k=>SCopiesOf.l1 k c (Sys.T0 (CS c))) U):∀ (d p:Nat),p+d=c.length->Ev (fun k=>SCopiesOf.l0 k c (List.replicate p []) (p:Int)) U
 | 0,p,hp=>by
  refine Ev.succ ?_
  have h6:=cv600 h
  simp only [SCopiesOf.l0,List.length_replicate]
  refine Ev.neg (Ev.bind Sl34Self.ev (Ev.pos ?_))
  have e:(List.replicate p ([]:List Int)).set (0:Int).toNat selfC=Sys.T0 (CS c):=by
   rw [show p=c.length from by omega]
   rfl
  rw [e]
  exact g
 | d+1,p,hp=>by
  have h6:=cv600 h
  refine Ev.succ ?_
  have e:List.replicate p ([]:List Int) ++ [[]]=List.replicate (p+1) []:=(List.replicate_succ' ..).symm
  simp only [SCopiesOf.l0,List.length_replicate,e,wrap_up (show p < 9223372036854775807 by omega)]
  exact Ev.pos (Ev.pos (SCopiesOf.fill h g d (p+1) (by omega)))
theorem SCopiesOf.ev {c:List SQ} (h:CV (qs c)):∃ U,(CS c).Lfp U/\Ev (fun k=>SCopiesOf.f k c) (finC U):=by
 obtain⟨U,hU,hE⟩:=SCopiesOf.rounds h _ _ (Sys.rd0 (CS_laws h)) (Nat.le_refl _)
 refine⟨U,hU,?_⟩
 simp only [SCopiesOf.f]
 refine Ev.some (Ev.bind (SCodeValid.ev c) (Ev.pos ?_ (decide_eq_true h)))
 exact SCopiesOf.fill h hE c.length 0 (Nat.zero_add _)
/-- A quad that reads what its registers are copies of. -/
def readQ (q:SQ) (x:List Int):SQ:=if q.f0=2\/q.f0=5\/q.f0=6\/q.f0=9 then ⟨q.f0,q.f1,ca x q.f2.toNat,q.f3,q.f4⟩ else if q.f0=3 then ⟨q.f0,q.f1,ca x q.f2.toNat,ca x q.f3.toNat,q.f4⟩ else q
theorem Sl34Read.ev {q:SQ} {m:Int} (h:QV (q_ q) m) {x:List Int} (hl:x.length=12):Ev (fun k=>Sl34Read.f k q.f0 q.f1 q.f2 q.f3 q.f4 x) (tQ (readQ q x)):=by
 obtain⟨_,⟨a0,a1⟩,b0,b1⟩:=regs_of h
 simp only [q_] at a0 a1 b0 b1
 have j:∀ b:Bool,b=true->(q.f0=2\/q.f0=5\/q.f0=6\/q.f0=9)->Ev (fun k=>Sl34Read.j0 k x q.f0 b q.f0 q.f1 q.f2 q.f3 q.f4) (tQ (readQ q x)):=by
  intro b hb hq
  refine Ev.succ ?_
  simp only [Sl34Read.j0,hl,rd_ca' x a0,rd_ca' x b0]
  refine Ev.pos (Ev.pos (Ev.pos (Ev.eq Ev.pure ?_)))
  rw [readQ,if_pos hq]
 simp only [Sl34Read.f]
 by_cases c2:q.f0=2
 ·exact Ev.pos (j _ (by simp [c2]) (.inl c2))
 refine Ev.neg ?_
 by_cases c5:q.f0=5
 ·exact Ev.pos (j _ (by simp [c5]) (.inr (.inl c5)))
 refine Ev.neg ?_
 by_cases c6:q.f0=6
 ·exact Ev.pos (j _ (by simp [c6]) (.inr (.inr (.inl c6))))
 refine Ev.neg ?_
 by_cases c9:q.f0=9
 ·exact j _ (by simp [c9]) (.inr (.inr (.inr c9)))
 refine Ev.succ ?_
 simp only [Sl34Read.j0,hl,rd_ca' x a0,rd_ca' x b0]
 refine Ev.neg ?_ (by simp [c9])
 have no:¬ (q.f0=2\/q.f0=5\/q.f0=6\/q.f0=9):=by omega
 by_cases c3:q.f0=3
 ·refine Ev.pos (Ev.pos (Ev.pos (Ev.pos (Ev.pos (Ev.eq Ev.pure ?_)))))
  rw [readQ,if_neg no,if_pos c3]
 refine Ev.neg (Ev.eq Ev.pure ?_)
 rw [readQ,if_neg no,if_neg c3]
def copyC (U:List (List Int)) (c:List SQ):List SQ:=(List.range c.length).map fun i=>readQ (qa c i) (fin1 ((CS c).at' U i))
theorem copyC_len (U:List (List Int)) (c:List SQ):(copyC U c).length=c.length:=by simp [copyC]
theorem copyC_get (U:List (List Int)) {c:List SQ} {i:Nat} (h:i < c.length):qa (copyC U c) i=readQ (qa c i) (fin1 ((CS c).at' U i)):=by simp [copyC,qa,List.getD_eq_getElem?_getD,h]
theorem fin1_ok {x:List Int} (h:okC x):(fin1 x).length=12/\∀ r,r < 12->0<=ca (fin1 x) r/\ca (fin1 x) r < 12:=by
 unfold fin1
 split
 ·refine⟨mk12_len _,fun r hr=>?_⟩
  unfold selfC
  rw [ca_mk _ hr]
  omega
 rename_i g
 exact okC_len h g
theorem SCopyCode.out {c:List SQ} (h:CV (qs c)) {U:List (List Int)} (hU:(CS c).St U):∀ (d p:Nat),p+d=c.length->Ev (fun k=>SCopyCode.l0 k c ((copyC U c).take p) (finC U) (p:Int)) (copyC U c,true)
 | 0,p,hp=>by
  refine Ev.succ ?_
  simp only [SCopyCode.l0]
  refine Ev.neg (Ev.eq Ev.pure ?_)
  rw [List.take_of_length_le (by rw [copyC_len];omega)]
 | d+1,p,hp=>by
  have h6:=cv600 h
  have hi:p < c.length:=by omega
  have hn:U.length=c.length:=hU.1
  have hr:rd_L7 (finC U) (p:Int)=fin1 ((CS c).at' U p):=by
   unfold rd_L7
   rw [Int.toNat_natCast,finC_get (by omega)]
   rfl
  refine Ev.succ ?_
  simp only [SCopyCode.l0,hr,rd_qa,finC_len,wrap_up (show p < 9223372036854775807 by omega)]
  refine Ev.pos (Ev.pos (Ev.pos (Ev.bind (Sl34Read.ev (cv_at h hi) (fin1_ok (hU.2 p hi)).1) (Ev.pos ?_ (by rw [List.length_take,copyC_len];omega)))))
  have e:(copyC U c).take p ++ [readQ (qa c p) (fin1 ((CS c).at' U p))]=(copyC U c).take (p+1):=by
   rw [<- copyC_get U hi]
   exact take_next _ (by rw [copyC_len];exact hi)
  have:=SCopyCode.out h hU d (p+1) (by omega)
  rw [<- e] at this
  exact this
theorem SCopyCode.ev {c:List SQ} (h:CV (qs c)):∃ U,(CS c).Lfp U/\Ev (fun k=>SCopyCode.f k c) (copyC U c,true):=by
 obtain⟨U,hU,hE⟩:=SCopiesOf.ev h
 refine⟨U,hU,?_⟩
 simp only [SCopyCode.f]
 refine Ev.some (Ev.bind (SCodeValid.ev c) (Ev.pos (Ev.bind hE ?_) (decide_eq_true h)))
 exact SCopyCode.out h hU.1.1 c.length 0 (Nat.zero_add _)
theorem SCopyCode.bad {c:List SQ} (h:¬ CV (qs c)):Ev (fun k=>SCopyCode.f k c) ([],false):=by
 simp only [SCopyCode.f]
 exact Ev.some (Ev.bind (SCodeValid.ev c) (Ev.neg Ev.pure (by unfold cvB;simp [h])))
theorem readQ_valid {q:SQ} {m:Int} (h:QV (q_ q) m) {x:List Int} (hx:∀ r,r < 12->0<=ca x r/\ca x r < 12):QV (q_ (readQ q x)) m:=by
 have ⟨ra,rb⟩:=regA h
 simp only [q_] at ra rb
 have ha:=hx _ ra
 have hb:=hx _ rb
 have ga:rg (ca x q.f2.toNat):=⟨ha.1,by omega⟩
 have gb:rg (ca x q.f3.toNat):=⟨hb.1,by omega⟩
 have keep:¬ (q.f0=2\/q.f0=5\/q.f0=6\/q.f0=9)->q.f0≠3->QV (q_ (readQ q x)) m:=by
  intro h1 h2
  rw [readQ,if_neg h1,if_neg h2]
  exact h
 have one:(q.f0=2\/q.f0=5\/q.f0=6\/q.f0=9)->readQ q x=⟨q.f0,q.f1,ca x q.f2.toNat,q.f3,q.f4⟩:=fun k=>by rw [readQ,if_pos k]
 rcases h with h1 | ⟨o,p1,_,p3⟩ | ⟨o,p1,_,_,p3⟩|h1 | ⟨o,p1,_,p3⟩ | ⟨o,p1,_,p3⟩|h1 | ⟨o,p1,_,p3⟩|h1
 ·have o:q.f0=1:=h1.1
  exact keep (by omega) (by omega)
 ·have o':q.f0=2:=o
  rw [one (.inl o')]
  exact .inr (.inl ⟨o,p1,ga,p3⟩)
 ·have o':q.f0=3:=o
  rw [readQ,if_neg (by omega),if_pos o']
  exact .inr (.inr (.inl ⟨o,p1,ga,gb,p3⟩))
 ·have o:q.f0=4:=h1.1
  exact keep (by omega) (by omega)
 ·have o':q.f0=5:=o
  rw [one (.inr (.inl o'))]
  exact .inr (.inr (.inr (.inr (.inl ⟨o,p1,ga,p3⟩))))
 ·have o':q.f0=6:=o
  rw [one (.inr (.inr (.inl o')))]
  exact .inr (.inr (.inr (.inr (.inr (.inl ⟨o,p1,ga,p3⟩)))))
 ·have o:q.f0=7:=h1.1
  exact keep (by omega) (by omega)
 ·have o':q.f0=9:=o
  rw [one (.inr (.inr (.inr o')))]
  exact .inr (.inr (.inr (.inr (.inr (.inr (.inr (.inl ⟨o,p1,ga,p3⟩)))))))
 have o:q.f0=8\/q.f0=10:=h1.1
 exact keep (by omega) (by omega)
theorem readQ_op (q:SQ) (x:List Int):(readQ q x).f0=q.f0:=by
 unfold readQ
 (repeat' split) <;> rfl
theorem copyC_valid {c:List SQ} (h:CV (qs c)) {U:List (List Int)} (hU:(CS c).St U):CV (qs (copyC U c)):=by
 have h6:=cv600 h
 refine cv_of (by rw [copyC_len];exact h6.1) (by rw [copyC_len];exact h6.2) (fun i hi=>?_) ?_
 ·rw [copyC_len] at hi ⊢
  rw [copyC_get U hi]
  exact readQ_valid (cv_at h hi) (fin1_ok (hU.2 i hi)).2
 rw [copyC_len,copyC_get U (by omega),readQ_op]
 exact cv_last h
def z12:List Int:=[0,0,0,0,0,0,0,0,0,0,0,0]
abbrev TC:TypeId:=81
theorem sizeC {l:List Int} (h:l.length=12):(Try.prog.info? TC).map (·.size)=some (ics l).size:=by
 rw [ics_size,h]
 kernel_rfl
theorem sizeC' {l:List Int} (h:l.length=12):(Try.prog.info? TC).map (·.size)=some (encs (Value.int .i64) l).length:=by
 rw [show (encs (Value.int .i64) l).length=l.length from by simp [encs],h]
 kernel_rfl
section
variable {ops:Array Oper} {rest:List Oper} {op:Oper} {a:Act} {Q:Exit->Act->World->Prop}
theorem loadC {w:World} {p N:Tmp} (_hd:op.dst=some N) (hgd:op.guard=none) (ho:op.op = .load TC (.tmp p)) {g o:Nat} (hx:a.eval (.tmp p) = .pointer (some ⟨g,o,none⟩)) {l:List Int} (hl:l.length=12) (hc:w.rangeAt g o (encs (Value.int .i64) l)) (h:wpList Try.prog ops Q rest (a.put op.dst (.agg (ics l))) w):wpList Try.prog ops Q (op :: rest) a w :=
 wpList_load_mid hgd TC (.tmp p) ho g o hx _ _ hc Try.underlying81 rfl (sizeC' hl) h
theorem storeC {w:World} {p v:Tmp} (ho:op.op = .store TC (.tmp p) (.tmp v)) (hgd:op.guard=none) {g o t:Nat} (hx:a.eval (.tmp p) = .pointer (some ⟨g,o,none⟩)) {l m:List Int} (hy:a.eval (.tmp v) = .agg (ics l)) (hl:l.length=12) (hb:w.heap[g]?=some (.cells (ics m) t (0,0))) (hm:o+12<=m.length)
  (h:∀ w',w'=w.setCells g o (encs (Value.int .i64) l)->w'.heap[g]?=some (.cells (ics (over m o l)) t (0,0))->wpList Try.prog ops Q rest (a.put op.dst undef) w'):wpList Try.prog ops Q (op :: rest) a w:=by
 refine wpList_store_mid hgd TC (.tmp p) (.tmp v) ho g o (ics l) hx hy ?_ (sizeC hl) (ics_one l) ?_
 ·rw [ics_size]
  exact there_ints hb (by omega)
 exact h _ rfl (setCells_ints l o m w hb (by omega))
theorem store1 {w:World} {p:Tmp} {v:Operand} (ho:op.op = .store 3 (.tmp p) v) (hgd:op.guard=none) (hN:op.dst=none) {g o t:Nat} (hx:a.eval (.tmp p) = .pointer (some ⟨g,o,none⟩)) {y:Int} {m:List Int} (hy:a.eval v = .int .i64 y) (hb:w.heap[g]?=some (.cells (ics m) t (0,0))) (hm:o < m.length)
  (h:∀ w',w'=w.setCell ⟨g,o,none⟩ (.int .i64 y)->w'.heap[g]?=some (.cells (ics (m.set o y)) t (0,0))->wpList Try.prog ops Q rest (a.put op.dst undef) w'):wpList Try.prog ops Q (op :: rest) a w:=by
 have hc:=blk_ints hb hm
 have hf:=blk_frozen hb o
 refine store_event (P:=Try.prog) hgd ho hN (w1:=w.setCell ⟨g,o,none⟩ (.int .i64 y)) ?_ (fun w' hw=>?_)
 ·unfold execOp
  simp only [ho,hx,hy]
  first|(go_simp;done)|(go_simp;rfl)
 have e:w'.heap[g]?=some (.cells (ics (m.set o y)) t (0,0)):=by
  rw [hw,blk_set hb]
  congr 1
  simp [encs,List.map_set]
 have:=h w' hw e
 rwa [hN] at this
end
theorem retC {w:World} {fn:Func} {p:Tmp} (h:fn.results = #[.cell p TC]) {tmps:Array Value} {g t:Nat} {l:List Int} (hp:tmps.getD p undef = .pointer (some ⟨g,0,none⟩)) (hb:w.heap[g]?=some (.cells (ics l) t (0,0))) (hl:l.length=12):(results fn tmps).run Try.prog w = .ok (.agg (ics l)) w :=
 results_cell_row h tmps w g t _ _ _ hp hb Try.underlying81 rfl (sizeC hl)
theorem at_ca {w:World} {g t:Nat} {l:List Int} (h:w.heap[g]?=some (.cells (ics l) t (0,0))) (hl:l.length=12) {i:Int} (hi:i.toNat < 12):w.cell? ⟨g,i.toNat,none⟩=some (.int .i64 (ca l i.toNat)):=blk_ints h (by omega)
def layC (p:Nat):List Int:=mk12 fun r=>if r < p then (r:Int) else 0
theorem layC_next (p:Nat) (hp:p < 12):(layC p).set p (p:Int)=layC (p+1):=by
 refine ca_ext (by rw [List.length_set];exact mk12_len _) (mk12_len _) fun r hr=>?_
 rw [ca_set (l:=layC p) (mk12_len _) hp]
 unfold layC
 rw [ca_mk _ hr,ca_mk _ hr]
 by_cases e:r=p
 ·rw [if_pos e,if_pos (show r < p+1 by omega),e]
 rw [if_neg e]
 by_cases l:r < p
 ·rw [if_pos l,if_pos (show r < p+1 by omega)]
 rw [if_neg l,if_neg (show ¬ r < p+1 by omega)]
theorem layC_zero:layC 0=z12:=by decide
theorem layC_all:layC 12=selfC:=by decide
set_option maxHeartbeats 4000000 in
theorem InoCopies.calls (w:World):Calls Try.prog 98 #[] w fun e w'=>e = .returned (.agg (ics selfC))/\Below w.heap.size w w':=by
 have HB:=aM (Below.refl w.heap.size w)
 go_enter Try.func98,Try.ntmps98
 go_wp2_with (first|((with_reducible refine jd 0 rfl ?_);refine jX (ics z12) TC ?_;intro g0 hg w20 hbox hb;have B0:=aM hbox;have G0:=kG hg;replace HB:=kH hb;clear hg hbox hb)|((with_reducible refine jd 1 rfl ?_);refine jX (ics z12) TC ?_;intro g1 hg w21 hbox hb;have N0_1:=aM (show g0≠g1 by rw [hg];exact Nat.ne_of_lt (blk_lt B0.out));replace B0:=kB B0 hb;have B1:=aM hbox;have G1:=kG hg;replace HB:=kH hb;clear hg hbox hb))
 rw [<- layC_zero] at B1
 go_loopg [3] 12 (fun kq v3 w'=>∃ (ri:Int) (r:Nat),v3 = .int .i64 ri/\Aside0 (ri=(r:Int)/\r+kq=12)/\Aside0 (w'.heap[g0]?=some (.cells (ics z12) TC (0,0)))/\Aside0 (w'.heap[g1]?=some (.cells (ics (layC r)) TC (0,0)))/\Aside0 (Below w.heap.size w w'))
 case atStart=>exact⟨0,0,rfl,⟨rfl,rfl⟩,B0,B1,HB⟩
 clear B0 B1 HB
 obtain⟨ri,r,rfl,HR,B0,B1,HB⟩:=hrel
 rcases gk with _|k1
 ·have er:r=12:=by have:=HR.out.2;omega
  subst er
  have hri:ri=12:=HR.out.1
  subst hri
  rw [layC_all] at B1
  have s12:selfC.length=12:=mk12_len _
  have s12':=aM s12
  clear s12
  go_wp2_with (first|((with_reducible refine loadC (N:=10) rfl rfl rfl rfl s12'.out (range_all B1.out) ?_))|((with_reducible refine storeC (p:=0) (v:=10) rfl rfl rfl rfl s12'.out B0.out (by decide) ?_);intro w6 hw hb6;rw [over_all (by rw [s12'.out];rfl)] at hb6;have n1:=aM (below_ hw G0.out HB.out);clear B0 HB hw;have B0:=aM hb6;have HB:=n1;clear n1 hb6))
  exact bodyPost_ret (retC rfl rfl B0.out s12'.out) rfl ⟨rfl,HB.out⟩
 have r12:r < 12:=by have:=HR.out.2;omega
 have hri:ri=(r:Int):=HR.out.1
 have r0:0<=ri:=by omega
 have r1:ri < 12:=by omega
 have hset:(layC r).set ri.toNat ri=layC (r+1):=by rw [hri,Int.toNat_natCast];exact layC_next r r12
 have hm:ri.toNat < (layC r).length:=by rw [show (layC r).length=12 from mk12_len _];omega
 have HS:=aM hset
 have r0t:=eq_true r0
 have r1t:=eq_true r1
 have r0b:=decide_eq_true r0
 have r1b:=decide_eq_true r1
 clear hri r0 r1 hset
 go_wp2_with (first|((with_reducible refine store1 (p:=8) rfl rfl rfl rfl rfl B1.out hm ?_);intro w7 hw hb1;rw [HS.out] at hb1;have n1:=aM (show Below w.heap.size w w7 by rw [hw];exact below_set HB.out G1.out);replace B0:=aM (show w7.heap[g0]?=some (.cells (ics z12) TC (0,0)) by rw [hw];exact blk_far B0.out (p:=⟨g1,_,none⟩) N0_1.out _);clear B1 HB hw;have B1:=aM hb1;have HB:=n1;clear n1 hb1))
 go_roundg k1
 case measure=>omega
 exact⟨_,r+1,rfl,⟨by have:=HR.out.1;(first|omega|(rw [wrap_id (by omega) (by omega)];omega)),by have:=HR.out.2;omega⟩,B0,B1,HB⟩
set_option maxHeartbeats 4000000 in
theorem Imeet.calls {c d:List Int} (hc:c.length=12) (hd:d.length=12) (w:World):Calls Try.prog 100 #[.agg (ics c),.agg (ics d)] w fun e w'=>e = .returned (.agg (ics (mP 12 c d)))/\Below w.heap.size w w':=by
 have HB:=aM (Below.refl w.heap.size w)
 have HC:=aM hc
 have HD:=aM hd
 clear hc hd
 go_enter Try.func100,Try.ntmps100
 go_wp2_with (first|((with_reducible refine jd 2 rfl ?_);refine jX (ics c) TC ?_;intro g2 hg w22 hbox hb;have B2:=aM hbox;have G2:=kG hg;replace HB:=kH hb;clear hg hbox hb)|((with_reducible refine jd 3 rfl ?_);refine jX (ics d) TC ?_;intro g3 hg w23 hbox hb;have N2_3:=aM (show g2≠g3 by rw [hg];exact Nat.ne_of_lt (blk_lt B2.out));replace B2:=kB B2 hb;have B3:=aM hbox;have G3:=kG hg;replace HB:=kH hb;clear hg hbox hb)|((with_reducible refine jd 4 rfl ?_);refine jX (ics z12) TC ?_;intro g4 hg w24 hbox hb;have N2_4:=aM (show g2≠g4 by rw [hg];exact Nat.ne_of_lt (blk_lt B2.out));have N3_4:=aM (show g3≠g4 by rw [hg];exact Nat.ne_of_lt (blk_lt B3.out));replace B2:=kB B2 hb;replace B3:=kB B3 hb;have B4:=aM hbox;have G4:=kG hg;replace HB:=kH hb;clear hg hbox hb))
 have B2:Aside0 (w24.heap[g2]?=some (.cells (ics (mP 0 c d)) TC (0,0))):=⟨by rw [show mP 0 c d=c from ca_ext (mk12_len _) HC.out fun r hr=>by rw [ca_mP _ _ _ hr,if_neg (by omega)]];exact B2.out⟩
 go_loopg [6] 12 (fun kq v6 w'=>∃ (ri:Int) (r:Nat),v6 = .int .i64 ri/\Aside0 (ri=(r:Int)/\r+kq=12)/\Aside0 (w'.heap[g2]?=some (.cells (ics (mP r c d)) TC (0,0)))/\Aside0 (w'.heap[g3]?=some (.cells (ics d) TC (0,0)))/\Aside0 (w'.heap[g4]?=some (.cells (ics z12) TC (0,0)))/\Aside0 (Below w.heap.size w w'))
 case atStart=>exact⟨0,0,rfl,⟨rfl,rfl⟩,B2,B3,B4,HB⟩
 clear B2 B3 B4 HB
 obtain⟨ri,r,rfl,HR,B2,B3,B4,HB⟩:=hrel
 rcases gk with _|k1
 ·have er:r=12:=by have:=HR.out.2;omega
  subst er
  have hri:ri=12:=HR.out.1
  subst hri
  have s12':=aM (show (mP 12 c d).length=12 from mk12_len _)
  go_wp2_with (first|((with_reducible refine loadC (N:=20) rfl rfl rfl rfl s12'.out (range_all B2.out) ?_))|((with_reducible refine storeC (p:=4) (v:=20) rfl rfl rfl rfl s12'.out B4.out (by decide) ?_);intro w6 hw hb6;rw [over_all (by rw [s12'.out];rfl)] at hb6;have n1:=aM (below_ hw G4.out HB.out);clear B4 HB hw;have B4:=aM hb6;have HB:=n1;clear n1 hb6))
  exact bodyPost_ret (retC rfl rfl B4.out s12'.out) rfl ⟨rfl,HB.out⟩
 have r12:r < 12:=by have:=HR.out.2;omega
 have hri:ri=(r:Int):=HR.out.1
 have r0:0<=ri:=by omega
 have r1:ri < 12:=by omega
 have rt:ri.toNat=r:=by rw [hri];rfl
 have y0:=at_ca B2.out (mk12_len _) (i:=ri) (by omega)
 have y1:=at_ca B3.out HD.out (i:=ri) (by omega)
 have ec:ca (mP r c d) ri.toNat=ca c r:=by rw [rt,ca_mP _ _ _ r12,if_neg (Nat.lt_irrefl r)]
 rw [ec] at y0
 have ed:ca d ri.toNat=ca d r:=by rw [rt]
 rw [ed] at y1
 have hm:ri.toNat < (mP r c d).length:=by rw [show (mP r c d).length=12 from mk12_len _];omega
 have HRT:=aM rt
 have r0t:=eq_true r0
 have r1t:=eq_true r1
 have r0b:=decide_eq_true r0
 have r1b:=decide_eq_true r1
 clear hri r0 r1 rt ec ed
 by_cases e:ca c r=ca d r
 ·have eb:(ca c r != ca d r)=false:=by simp [e]
  have hs:mP r c d=mP (r+1) c d:=mP_same r r12 (.inr e)
  have HS:=aM hs
  clear e hs
  go_wp2
  go_region
  go_wp2
  go_roundg k1
  case measure=>omega
  exact⟨_,r+1,rfl,⟨by have:=HR.out.1;(first|omega|(rw [wrap_id (by omega) (by omega)];omega)),by have:=HR.out.2;omega⟩,⟨by rw [<- HS.out];(with_reducible repeat (first|refine blk_drewN ?_ _|refine blk_drew ?_));exact B2.out⟩,⟨by (with_reducible repeat (first|refine blk_drewN ?_ _|refine blk_drew ?_));exact B3.out⟩,⟨by (with_reducible repeat (first|refine blk_drewN ?_ _|refine blk_drew ?_));exact B4.out⟩,⟨by (with_reducible repeat (first|exact HB.out|apply pw_below_drewN|apply below_drew1))⟩⟩
 have eb:(ca c r != ca d r)=true:=by simp [e]
 have hs:(mP r c d).set ri.toNat ri=mP (r+1) c d:=by rw [HRT.out];exact mP_step r r12 c d ri (by rw [if_neg e];exact HR.out.1)
 have HS:=aM hs
 clear e hs
 go_wp2
 go_region
 have k2:=aM (blk_drew B2.out)
 have k3:=aM (blk_drew B3.out)
 have k4:=aM (blk_drew B4.out)
 have kH:=aM (below_drew1 HB.out)
 clear B2 B3 B4 HB
 go_wp2_with (first|((with_reducible refine store1 (p:=18) rfl rfl rfl rfl rfl k2.out hm ?_);intro w7 hw hb1;rw [HS.out] at hb1;have n3:=aM (show w7.heap[g3]?=some (.cells (ics d) TC (0,0)) by rw [hw];exact blk_far k3.out (p:=⟨g2,_,none⟩) (Ne.symm N2_3.out) _);have n4:=aM (show w7.heap[g4]?=some (.cells (ics z12) TC (0,0)) by rw [hw];exact blk_far k4.out (p:=⟨g2,_,none⟩) (Ne.symm N2_4.out) _);have n1:=aM (show Below w.heap.size w w7 by rw [hw];exact below_set kH.out G2.out);clear k2 k3 k4 kH hw;have B2:=aM hb1;have B3:=n3;have B4:=n4;have HB:=n1;clear n1 n3 n4 hb1))
 go_roundg k1
 case measure=>omega
 exact⟨_,r+1,rfl,⟨by have:=HR.out.1;(first|omega|(rw [wrap_id (by omega) (by omega)];omega)),by have:=HR.out.2;omega⟩,B2,B3,B4,HB⟩
/-- Below p,what is s or a copy of s is itself. -/
def cutX (s:Int) (p:Nat) (x:List Int):List Int:=mk12 fun r=>if r < p/\((r:Int)=s\/ca x r=s) then (r:Int) else ca x r
theorem cutX_len (s:Int) (p:Nat) (x:List Int):(cutX s p x).length=12:=mk12_len _
theorem cutX_zero (s:Int) {x:List Int} (hx:x.length=12):cutX s 0 x=x:=ca_ext (mk12_len _) hx fun r hr=>by
 unfold cutX
 rw [ca_mk _ hr,if_neg (by omega)]
theorem cutX_at (s:Int) {p:Nat} (hp:p < 12) (x:List Int):ca (cutX s p x) p=ca x p:=by
 unfold cutX
 rw [ca_mk _ hp,if_neg (by omega)]
theorem cutX_same {s:Int} {p:Nat} {x:List Int} (h:¬ ((p:Int)=s\/ca x p=s)):cutX s p x=cutX s (p+1) x:=by
 refine ca_ext (mk12_len _) (mk12_len _) fun r hr=>?_
 unfold cutX
 rw [ca_mk _ hr,ca_mk _ hr]
 by_cases l:r < p/\((r:Int)=s\/ca x r=s)
 ·rw [if_pos l,if_pos ⟨by omega,l.2⟩]
 rw [if_neg l,if_neg (fun y=>l ⟨by
  have:r≠p:=fun e=>h (by rw [<- e];exact y.2)
  omega,y.2⟩)]
theorem cutX_next {s:Int} {p:Nat} (hp:p < 12) {x:List Int} (h:(p:Int)=s\/ca x p=s):(cutX s p x).set p (p:Int)=cutX s (p+1) x:=by
 refine ca_ext (by rw [List.length_set];exact mk12_len _) (mk12_len _) fun r hr=>?_
 rw [ca_set (l:=cutX s p x) (mk12_len _) hp]
 unfold cutX
 rw [ca_mk _ hr,ca_mk _ hr]
 by_cases er:r=p
 ·rw [if_pos er,if_pos ⟨by omega,by rw [er];exact h⟩,er]
 rw [if_neg er]
 by_cases l:r < p/\((r:Int)=s\/ca x r=s)
 ·rw [if_pos l,if_pos ⟨by omega,l.2⟩]
 rw [if_neg l,if_neg (fun y=>l ⟨by omega,y.2⟩)]
theorem cutX_all {q:Q} {x:List Int} (h:¬ sets q < 0) (o:q.op≠2):cutX (sets q) 12 x=aftC q x:=by
 unfold aftC
 rw [if_neg h]
 refine ca_ext (mk12_len _) (mk12_len _) fun r hr=>?_
 unfold cutX
 rw [ca_mk _ hr,ca_mk _ hr]
 by_cases e:(r:Int)=sets q
 ·rw [if_pos ⟨hr,.inl e⟩,if_pos e,if_neg o]
 rw [if_neg e]
 by_cases g:ca x r=sets q
 ·rw [if_pos ⟨hr,.inr g⟩,if_pos g]
 rw [if_neg (fun y=>by rcases y.2 with z|z;exact e z;exact g z),if_neg g]
theorem cutX_copy {q:Q} {x:List Int} (h:¬ sets q < 0) (hs:(sets q).toNat < 12) (o:q.op=2):(cutX (sets q) 12 x).set (sets q).toNat q.a=aftC q x:=by
 unfold aftC
 rw [if_neg h]
 refine ca_ext (by rw [List.length_set];exact mk12_len _) (mk12_len _) fun r hr=>?_
 rw [ca_set (l:=cutX (sets q) 12 x) (mk12_len _) hs,ca_mk _ hr]
 by_cases e:r=(sets q).toNat
 ·rw [if_pos e,if_pos (by omega),if_pos o]
 rw [if_neg e,if_neg (by omega)]
 unfold cutX
 rw [ca_mk _ hr]
 by_cases g:ca x r=sets q
 ·rw [if_pos ⟨hr,.inr g⟩,if_pos g]
 rw [if_neg (fun y=>by rcases y.2 with z|z;omega;exact g z),if_neg g]
theorem Icopies_behind_calls_s0 {G:Prop} (h:G:=by
  go_wp2_with (first|((with_reducible refine store1 (p:=27) rfl rfl rfl rfl rfl k2.out hm ?_);intro w7 hw hb1;rw [HS.out] at hb1;have n3:=aM (show w7.heap[g3]?=some (.cells #[.int .i64 q.f0,.int .i64 q.f1,.int .i64 q.f2,.int .i64 q.f3,.int .i64 q.f4] 46 (0,0)) by rw [hw];exact blk_far k3.out (p:=⟨g2,_,none⟩) (Ne.symm N2_3.out) _);have n4:=aM (show w7.heap[g4]?=some (.cells (ics z12) TC (0,0)) by rw [hw];exact blk_far k4.out (p:=⟨g2,_,none⟩) (Ne.symm N2_4.out) _);have n1:=aM (show Below w.heap.size w w7 by rw [hw];exact below_set kH.out G2.out);clear k2 k3 k4 kH hw;have B2:=aM hb1;have B3:=n3;have B4:=n4;have HB:=n1;clear n1 n3 n4 hb1))
  go_roundg k1
  case measure=>omega
  exact⟨_,r+1,rfl,⟨by have:=HR.out.1;(first|omega|(rw [wrap_id (by omega) (by omega)];omega)),by have:=HR.out.2;omega⟩,B2,B3,B4,HB⟩):G:=h
theorem Icopies_behind.calls {x:List Int} (hx:x.length=12) {q:SQ} {m:Int} (hq:QV (q_ q) m) (w:World) :
  Calls Try.prog 99 #[.agg (ics x),.agg #[.int .i64 q.f0,.int .i64 q.f1,.int .i64 q.f2,.int .i64 q.f3,.int .i64 q.f4]] w fun e w'=>e = .returned (.agg (ics (aftC (q_ q) x)))/\Below w.heap.size w w':=by
 have hs:IsetsOf.f q.f0 q.f1 q.f2 q.f3 q.f4=some (sets (q_ q)):=IsetsOf.e (q_ q)
 have hs12:=setsR hq
 have KX:¬ sets (q_ q) < 0->(q_ q).op=2->_:=fun a b=>cutX_copy (x:=x) a hs12 b
 have KY:¬ sets (q_ q) < 0->(q_ q).op≠2->_:=fun a b=>cutX_all (x:=x) a b
 obtain⟨s,es⟩:∃ s,s=sets (q_ q):=⟨_,rfl⟩
 have ea:sets (q_ q) < 0->aftC (q_ q) x=x:=fun c=>if_pos c
 rw [<- es] at hs hs12 ea KX KY
 have A1:=aM hs
 clear hs es
 have HX:=aM hx
 clear hx
 have HB:=aM (Below.refl w.heap.size w)
 by_cases c0:s < 0
 ·have c0b:=decide_eq_true c0
  rw [ea c0]
  clear c0 ea KX KY hs12 hq
  go_enter Try.func99,Try.ntmps99
  go_wp2_with (first|((with_reducible refine jd 2 rfl ?_);refine jX (ics x) TC ?_;intro g2 hg w22 hbox hb;have B2:=aM hbox;have G2:=kG hg;replace HB:=kH hb;clear hg hbox hb)|((with_reducible refine jd 3 rfl ?_);refine jX #[.int .i64 q.f0,.int .i64 q.f1,.int .i64 q.f2,.int .i64 q.f3,.int .i64 q.f4] 46 ?_;intro g3 hg w23 hbox hb;have N2_3:=aM (show g2≠g3 by rw [hg];exact Nat.ne_of_lt (blk_lt B2.out));replace B2:=kB B2 hb;have B3:=aM hbox;have G3:=kG hg;replace HB:=kH hb;clear hg hbox hb)|((with_reducible refine jd 4 rfl ?_);refine jX (ics z12) TC ?_;intro g4 hg w24 hbox hb;have N2_4:=aM (show g2≠g4 by rw [hg];exact Nat.ne_of_lt (blk_lt B2.out));have N3_4:=aM (show g3≠g4 by rw [hg];exact Nat.ne_of_lt (blk_lt B3.out));replace B2:=kB B2 hb;replace B3:=kB B3 hb;have B4:=aM hbox;have G4:=kG hg;replace HB:=kH hb;clear hg hbox hb;obtain⟨q0,q1,q2,q3,q4⟩:=cells5' B3.out)|(go_at_call 43;(with_reducible refine (IsetsOf.calls _ _ _ _ _ _ _ A1.out).mono ?_);rintro e w5 ⟨rfl,hb⟩;replace B2:=kB B2 hb;replace B3:=kB B3 hb;replace B4:=kB B4 hb;replace HB:=kH hb;clear hb q0 q1 q2 q3 q4)|((with_reducible refine loadC (N:=11) rfl rfl rfl rfl HX.out (range_all B2.out) ?_))|((with_reducible refine storeC (p:=4) (v:=11) rfl rfl rfl rfl HX.out B4.out (by decide) ?_);intro w6 hw hb6;rw [over_all (by rw [HX.out];rfl)] at hb6;have n1:=aM (below_ hw G4.out HB.out);clear B4 HB hw;have B4:=aM hb6;have HB:=n1;clear n1 hb6))
  exact bodyPost_ret (retC rfl rfl B4.out HX.out) rfl ⟨rfl,HB.out⟩
 have c0b:=decide_eq_false c0
 have K2:=aM (KX c0)
 have K3:=aM (KY c0)
 have S0:0<=s:=by omega
 have S1:s < 12:=by omega
 have S01:=aM (And.intro S0 S1)
 clear c0 ea KX KY hs12 S0 S1
 obtain⟨z,hz⟩:∃ z,z=aftC (q_ q) x:=⟨_,rfl⟩
 have HZ:=aM hz
 rw [<- hz]
 clear hz hq
 go_enter Try.func99,Try.ntmps99
 go_wp2_with (first|((with_reducible refine jd 2 rfl ?_);refine jX (ics x) TC ?_;intro g2 hg w22 hbox hb;have B2:=aM hbox;have G2:=kG hg;replace HB:=kH hb;clear hg hbox hb)|((with_reducible refine jd 3 rfl ?_);refine jX #[.int .i64 q.f0,.int .i64 q.f1,.int .i64 q.f2,.int .i64 q.f3,.int .i64 q.f4] 46 ?_;intro g3 hg w23 hbox hb;have N2_3:=aM (show g2≠g3 by rw [hg];exact Nat.ne_of_lt (blk_lt B2.out));replace B2:=kB B2 hb;have B3:=aM hbox;have G3:=kG hg;replace HB:=kH hb;clear hg hbox hb)|((with_reducible refine jd 4 rfl ?_);refine jX (ics z12) TC ?_;intro g4 hg w24 hbox hb;have N2_4:=aM (show g2≠g4 by rw [hg];exact Nat.ne_of_lt (blk_lt B2.out));have N3_4:=aM (show g3≠g4 by rw [hg];exact Nat.ne_of_lt (blk_lt B3.out));replace B2:=kB B2 hb;replace B3:=kB B3 hb;have B4:=aM hbox;have G4:=kG hg;replace HB:=kH hb;clear hg hbox hb;obtain⟨q0,q1,q2,q3,q4⟩:=cells5' B3.out)|(go_at_call 43;(with_reducible refine (IsetsOf.calls _ _ _ _ _ _ _ A1.out).mono ?_);rintro e w5 ⟨rfl,hb⟩;replace B2:=kB B2 hb;replace B3:=kB B3 hb;replace B4:=kB B4 hb;replace HB:=kH hb;clear hb q0 q1 q2 q3 q4))
 rw [<- cutX_zero s HX.out] at B2
 go_loopg [12] 12 (fun kq v12 w'=>∃ (ri:Int) (r:Nat),v12 = .int .i64 ri/\Aside0 (ri=(r:Int)/\r+kq=12)/\Aside0 (w'.heap[g2]?=some (.cells (ics (cutX s r x)) TC (0,0)))/\Aside0 (w'.heap[g3]?=some (.cells #[.int .i64 q.f0,.int .i64 q.f1,.int .i64 q.f2,.int .i64 q.f3,.int .i64 q.f4] 46 (0,0)))/\Aside0 (w'.heap[g4]?=some (.cells (ics z12) TC (0,0)))/\Aside0 (Below w.heap.size w w'))
 case atStart=>exact⟨0,0,rfl,⟨rfl,rfl⟩,B2,B3,B4,HB⟩
 clear B2 B3 B4 HB
 obtain⟨ri,r,rfl,HR,B2,B3,B4,HB⟩:=hrel
 rcases gk with _|k1
 ·have er:r=12:=by have:=HR.out.2;omega
  subst er
  have hri:ri=12:=HR.out.1
  subst hri
  obtain⟨q0,q1,q2,q3,q4⟩:=cells5' B3.out
  by_cases o:q.f0=2
  ·have ob:(q.f0 == 2)=true:=by simp [o]
   have hset:(cutX s 12 x).set s.toNat q.f2=z:=by rw [HZ.out];exact K2.out o
   have HS:=aM hset
   have z12l:z.length=12:=by rw [<- hset,List.length_set];exact cutX_len _ _ _
   have ZL:=aM z12l
   have hm:s.toNat < (cutX s 12 x).length:=by rw [cutX_len];have:=S01.out;omega
   have s0t:=eq_true S01.out.1
   have s1t:=eq_true S01.out.2
   have s0b:=decide_eq_true S01.out.1
   have s1b:=decide_eq_true S01.out.2
   clear o hset z12l
   go_wp2_with (first|((with_reducible refine store1 (p:=35) rfl rfl rfl rfl rfl B2.out hm ?_);intro w7 hw hb1;rw [HS.out] at hb1;have n3:=aM (show w7.heap[g3]?=some (.cells #[.int .i64 q.f0,.int .i64 q.f1,.int .i64 q.f2,.int .i64 q.f3,.int .i64 q.f4] 46 (0,0)) by rw [hw];exact blk_far B3.out (p:=⟨g2,_,none⟩) (Ne.symm N2_3.out) _);have n4:=aM (show w7.heap[g4]?=some (.cells (ics z12) TC (0,0)) by rw [hw];exact blk_far B4.out (p:=⟨g2,_,none⟩) (Ne.symm N2_4.out) _);have n1:=aM (show Below w.heap.size w w7 by rw [hw];exact below_set HB.out G2.out);clear B2 B3 B4 HB hw q0 q1 q2 q3 q4;have B2:=aM hb1;have B3:=n3;have B4:=n4;have HB:=n1;clear n1 n3 n4 hb1)|((with_reducible refine loadC (N:=36) rfl rfl rfl rfl ZL.out (range_all B2.out) ?_))|((with_reducible refine storeC (p:=4) (v:=36) rfl rfl rfl rfl ZL.out B4.out (by decide) ?_);intro w6 hw hb6;rw [over_all (by rw [ZL.out];rfl)] at hb6;have n1:=aM (below_ hw G4.out HB.out);clear B4 HB hw;have B4:=aM hb6;have HB:=n1;clear n1 hb6))
   exact bodyPost_ret (retC rfl rfl B4.out ZL.out) rfl ⟨rfl,HB.out⟩
  have ob:(q.f0 == 2)=false:=by simp [o]
  have hset:cutX s 12 x=z:=by rw [HZ.out];exact K3.out o
  rw [hset] at B2
  have z12l:z.length=12:=by rw [<- hset];exact cutX_len _ _ _
  have ZL:=aM z12l
  clear o hset z12l
  go_wp2_with (first|((with_reducible refine loadC (N:=36) rfl rfl rfl rfl ZL.out (range_all B2.out) ?_))|((with_reducible refine storeC (p:=4) (v:=36) rfl rfl rfl rfl ZL.out B4.out (by decide) ?_);intro w6 hw hb6;rw [over_all (by rw [ZL.out];rfl)] at hb6;have n1:=aM (below_ hw G4.out HB.out);clear B4 HB hw;have B4:=aM hb6;have HB:=n1;clear n1 hb6))
  exact bodyPost_ret (retC rfl rfl B4.out ZL.out) rfl ⟨rfl,HB.out⟩
 have r12:r < 12:=by have:=HR.out.2;omega
 have hri:ri=(r:Int):=HR.out.1
 have r0:0<=ri:=by omega
 have r1:ri < 12:=by omega
 have rt:ri.toNat=r:=by rw [hri];rfl
 have y0:=at_ca B2.out (cutX_len _ _ _) (i:=ri) (by omega)
 have ec:ca (cutX s r x) ri.toNat=ca x r:=by rw [rt,cutX_at _ r12]
 rw [ec] at y0
 have hm:ri.toNat < (cutX s r x).length:=by rw [cutX_len];omega
 have r0t:=eq_true r0
 have r1t:=eq_true r1
 have r0b:=decide_eq_true r0
 have r1b:=decide_eq_true r1
 have go:((r:Int)=s\/ca x r=s)->(cutX s r x).set ri.toNat ri=cutX s (r+1) x:=fun h=>by rw [rt,hri];exact cutX_next r12 h
 have no:¬ ((r:Int)=s\/ca x r=s)->cutX s r x=cutX s (r+1) x:=cutX_same
 by_cases e:ri=s
 ·have eb:(ri == s)=true:=by simp [e]
  have HS:=aM (go (.inl (by omega)))
  clear e hri r0 r1 rt ec go no
  have k2:=B2
  have k3:=B3
  have k4:=B4
  have kH:=HB
  clear B2 B3 B4 HB
  exact Icopies_behind_calls_s0
 have eb:(ri == s)=false:=by simp [e]
 by_cases e2:ca x r=s
 ·have eb2:(ca x r == s)=true:=by simp [e2]
  have HS:=aM (go (.inr e2))
  clear e e2 hri r0 r1 rt ec go no
  have k2:=B2
  have k3:=B3
  have k4:=B4
  have kH:=HB
  clear B2 B3 B4 HB
  exact Icopies_behind_calls_s0
 have eb2:(ca x r == s)=false:=by simp [e2]
 have HS:=aM (no (fun z=>by rcases z with z|z;omega;exact e2 z))
 clear e e2 hri r0 r1 rt ec go no
 have k2:=B2
 have k3:=B3
 have k4:=B4
 have kH:=HB
 clear B2 B3 B4 HB
 go_wp2
 go_roundg k1
 case measure=>omega
 exact⟨_,r+1,rfl,⟨by have:=HR.out.1;(first|omega|(rw [wrap_id (by omega) (by omega)];omega)),by have:=HR.out.2;omega⟩,⟨by rw [<- HS.out];exact k2.out⟩,k3,k4,kH⟩
theorem infoI:(Try.prog.info? 3).map (·.size)=some 1:=by kernel_rfl
theorem cellsI:Try.prog.cellsOf 3=1:=by kernel_rfl
theorem undI:Try.prog.underlying 3=some (.int .i64):=by kernel_rfl
theorem part_C (w:World) {x:List Int} {i:Nat} (hi:i < x.length):(part 3 (ics x) (i*1)).run Try.prog w = .ok (.int .i64 (ca x i)) w:=by
 have hagg:(isAgg 3).run Try.prog w = .ok false w:=by
  unfold isAgg
  rw [Sem.run_bind,run_underlying undI w]
  rfl
 unfold part
 rw [Sem.run_bind,hagg,Result.andThen_ok,Nat.mul_one,ics_get hi]
 rfl
theorem eqItems_C (d:Nat) (w:World) {x y:List Int} (hx:x.length=12) (hy:y.length=12):∀ is:List Nat,(∀ i∈is,i < 12)->(Op.eqItems (d+1) 3 1 (ics x) (ics y) is).run Try.prog w = .ok (decide (∀ i∈is,ca x i=ca y i)) w
 | [],_=>by simp [Op.eqItems]
 | i :: is,h=>by
  have hi:i < 12:=h i List.mem_cons_self
  have ih:=eqItems_C d w hx hy is (fun j hj=>h j (List.mem_cons_of_mem _ hj))
  simp only [Op.eqItems,Sem.run_bind,part_C w (show i < x.length by omega),part_C w (show i < y.length by omega),run_equalIn_int w d 3 .i64 .i64 _ _ undI,Result.andThen_ok]
  by_cases e:ca x i=ca y i
  ·rw [if_neg (by rw [e];simp),ih]
   simp [e]
  rw [if_pos (by simp [e])]
  simp [e]
theorem eqAC (d:Nat) (w:World) (x y:List Int) (hx:x.length=12) (hy:y.length=12):(Op.equalIn (d+2) TC (.agg (ics x)) (.agg (ics y))).run Try.prog w = .ok (decide (x=y)) w:=by
 obtain⟨i0,h0,h2⟩:=Option.map_eq_some_iff.1 infoI
 rw [run_equalIn_array w (d+1) (ics x) (ics y) Try.underlying81 h0,cellsI,eqItems_C d w hx hy _ (fun i hi=>List.mem_range.1 hi)]
 exact congrArg (fun b=>Result.ok b w) (decide_eq_decide.2 ⟨fun z=>ca_ext hx hy fun r hr=>z r (List.mem_range.2 hr),fun z i _=>by rw [z]⟩)
def AC (U:List (List Int)):Prop:=∀ x∈U,x.length=12
theorem AC.tail {x:List Int} {U:List (List Int)} (h:AC (x :: U)):AC U:=fun y hy=>h y (List.mem_cons_of_mem _ hy)
theorem AC.head {x:List Int} {U:List (List Int)} (h:AC (x :: U)):x.length=12:=h x List.mem_cons_self
theorem fc_len:∀ {U:List (List Int)},AC U->U.flatten.length=12*U.length
 | [],h=>rfl
 | x :: U,h=>by
  simp only [List.flatten_cons,List.length_append,List.length_cons,h.head,fc_len h.tail]
  omega
theorem fc_row:∀ {U:List (List Int)},AC U->∀ {i:Nat},i < U.length->(U.flatten.drop (i*12)).take 12=U.getD i []
 | x :: U,h,0,hi=>by
  show ((x ++ U.flatten).drop (0*12)).take 12=x
  rw [Nat.zero_mul,List.drop_zero]
  have:=h.head
  rw [<- this,List.take_left]
 | x :: U,h,i+1,hi=>by
  have:=fc_row h.tail (show i < U.length by simpa using hi)
  have hl:=h.head
  rw [show (i+1)*12=12+i*12 from by omega]
  simp only [List.flatten_cons,List.getD_cons_succ]
  rw [<- List.drop_drop,<- hl,List.drop_left,hl]
  exact this
theorem fc_over:∀ {U:List (List Int)},AC U->∀ {i:Nat},i < U.length->∀ {v:List Int},v.length=12->over U.flatten (i*12) v=(U.set i v).flatten
 | x :: U,h,0,hi,v,hv=>by
  have hl:=h.head
  unfold over
  simp only [Nat.zero_mul,List.take_zero,List.nil_append,Nat.zero_add,List.flatten_cons,List.set_cons_zero]
  rw [hv,<- hl,List.drop_left]
 | x :: U,h,i+1,hi,v,hv=>by
  have ih:=fc_over h.tail (show i < U.length by simpa using hi) hv
  have hl:=h.head
  unfold over at ih ⊢
  rw [show (i+1)*12=12+i*12 from by omega]
  simp only [List.flatten_cons,List.set_cons_succ]
  rw [<- ih,List.take_append,List.drop_append,hl]
  rw [List.take_of_length_le (by omega),List.drop_eq_nil_of_le (by omega),show 12+i*12 - 12=i*12 from by omega,show 12+i*12+v.length - 12=i*12+v.length from by omega]
  simp
theorem fc_range {w:World} {g t:Nat} {U:List (List Int)} (h:w.heap[g]?=some (.cells (ics U.flatten) t (0,0))) (hU:AC U) {i:Nat} (hi:i < U.length):w.rangeAt g (i*12) (encs (Value.int .i64) (U.getD i [])):=by
 have:=range_ints h (i*12) 12
 rwa [fc_row hU hi] at this
def tabC (U:List (List Int)):List Int:=(finC U).flatten
def knC (U:List (List Int)):List Bool:=U.map fun x=>decide (x≠[])
theorem knC_len (U:List (List Int)):(knC U).length=U.length:=by simp [knC]
theorem knC_get {U:List (List Int)} {i:Nat} (h:i < U.length):(knC U).getD i false=decide (U.getD i []≠[]):=by simp [knC,List.getD_eq_getElem?_getD,List.getElem?_eq_getElem h]
theorem knC_set (U:List (List Int)) (i:Nat) {v:List Int} (hv:v≠[]):knC (U.set i v)=(knC U).set i true:=by
 unfold knC
 rw [List.map_set,decide_eq_true hv]
theorem finC_AC {c:List SQ} {T:List (List Int)} (h:(CS c).St T):AC (finC T):=fun x hx=>by
 obtain⟨y,hy,rfl⟩:=List.mem_map.1 hx
 obtain⟨i,hi,e⟩:=List.getElem_of_mem hy
 have hn:T.length=c.length:=h.1
 have:=h.2 i (by show i < c.length;omega)
 rw [CS_at,List.getD_eq_getElem?_getD,List.getElem?_eq_getElem hi] at this
 rw [<- e]
 exact (fin1_ok this).1
theorem tabC_len {c:List SQ} {T:List (List Int)} (h:(CS c).St T):(tabC T).length=12*c.length:=by
 unfold tabC
 rw [fc_len (finC_AC h),finC_len,show T.length=c.length from h.1]
theorem tabC_set {c:List SQ} {T:List (List Int)} (h:(CS c).St T) {i:Nat} (hi:i < c.length) {v:List Int} (hv:v.length=12):over (tabC T) (i*12) v=tabC (T.set i v):=by
 have e:finC (T.set i v)=(finC T).set i v:=by
  unfold finC
  rw [List.map_set,fin1,if_neg (fun z=>by rw [z] at hv;simp at hv)]
 unfold tabC
 rw [e,fc_over (finC_AC h) (by rw [finC_len,show T.length=c.length from h.1];exact hi) hv]
theorem tabC_range {w:World} {g t:Nat} {c:List SQ} {T:List (List Int)} (h:w.heap[g]?=some (.cells (ics (tabC T)) t (0,0))) (hT:(CS c).St T) {i:Nat} (hi:i < c.length):w.rangeAt g (i*12) (encs (Value.int .i64) (fin1 ((CS c).at' T i))):=by
 have hl:T.length=c.length:=hT.1
 have:=fc_range h (finC_AC hT) (i:=i) (by rw [finC_len];omega)
 rwa [finC_get (by omega)] at this
/-- The first p rows laid. -/
def fillC (n p:Nat):List Int:=(List.replicate p selfC ++ List.replicate (n - p) z12).flatten
theorem self_len:selfC.length=12:=mk12_len _
theorem fill_AC (n p:Nat):AC (List.replicate p selfC ++ List.replicate (n - p) z12):=fun x hx=>by
 rcases List.mem_append.1 hx with m|m
 ·rw [List.eq_of_mem_replicate m];exact self_len
 rw [List.eq_of_mem_replicate m];rfl
theorem rep_flat (n:Nat):(List.replicate n z12).flatten=List.replicate (n*12) 0:=by
 induction n with
 | zero=>rfl
 | succ n ih =>
  rw [List.replicate_succ,List.flatten_cons,ih,show (n+1)*12=12+n*12 from by omega,<- List.replicate_append_replicate]
  rfl
theorem fill_zero (n:Nat):fillC n 0=List.replicate (n*12) 0:=by
 unfold fillC
 rw [List.replicate_zero,List.nil_append,Nat.sub_zero,rep_flat]
theorem fill_len {n p:Nat} (h:p<=n):(fillC n p).length=12*n:=by
 unfold fillC
 rw [fc_len (fill_AC n p)]
 simp
 omega
theorem fill_set {n p:Nat} (h:p < n):over (fillC n p) (p*12) selfC=fillC n (p+1):=by
 unfold fillC
 rw [fc_over (fill_AC n p) (by simp;omega) self_len]
 congr 1
 obtain⟨m,rfl⟩:∃ m,n=p+(m+1):=⟨n - p - 1,by omega⟩
 rw [show p+(m+1) - p=m+1 from by omega,show p+(m+1) - (p+1)=m from by omega]
 apply List.ext_getElem (by simp;omega)
 intro i h1 h2
 simp only [List.getElem_set,List.getElem_append,List.length_replicate,List.getElem_replicate]
 split <;> split <;> (try split) <;> first|rfl|omega
theorem fill_T0 {c:List SQ}:fillC c.length c.length=tabC (Sys.T0 (CS c)):=by
 have e:finC (Sys.T0 (CS c))=List.replicate c.length selfC:=by
  unfold finC Sys.T0
  apply List.ext_getElem (by simp [CS])
  intro i h1 h2
  simp only [List.getElem_map,List.getElem_set,List.getElem_replicate]
  split
  ·exact if_neg (mk_ne _)
  exact if_pos rfl
 unfold fillC tabC
 rw [e,Nat.sub_self,List.replicate_zero,List.append_nil]
theorem kn_T0 {c:List SQ}:(List.replicate c.length false).set 0 true=knC (Sys.T0 (CS c)):=by
 unfold Sys.T0
 rw [knC_set _ 0 (show (CS c).ini≠[] from mk_ne _)]
 congr 1
 unfold knC
 rw [List.map_replicate]
 rfl
abbrev bcs (l:List Bool):Array Value:=(encs Value.bool l).toArray
theorem bcs_get {l:List Bool} {i:Nat} (h:i < l.length):(bcs l)[i]?=some (.bool (l.getD i false)):=by simp [encs,List.getD_eq_getElem?_getD,List.getElem?_eq_getElem h]
theorem blk_bool {w:World} {g t:Nat} {l:List Bool} (h:w.heap[g]?=some (.cells (bcs l) t (0,0))) {i:Nat} (hi:i < l.length):w.cell? ⟨g,i,none⟩=some (.bool (l.getD i false)):=(blk_cell h i).trans (bcs_get hi)
section
variable {ops:Array Oper} {rest:List Oper} {op:Oper} {a:Act} {Q:Exit->Act->World->Prop}
theorem storeB {w:World} {p:Tmp} {v:Operand} (ho:op.op = .store 4 (.tmp p) v) (hgd:op.guard=none) (hN:op.dst=none) {g o t:Nat} (hx:a.eval (.tmp p) = .pointer (some ⟨g,o,none⟩)) {y:Bool} {m:List Bool} (hy:a.eval v = .bool y) (hb:w.heap[g]?=some (.cells (bcs m) t (0,0))) (hm:o < m.length)
  (h:∀ w',w'=w.setCell ⟨g,o,none⟩ (.bool y)->w'.heap[g]?=some (.cells (bcs (m.set o y)) t (0,0))->wpList Try.prog ops Q rest (a.put op.dst undef) w'):wpList Try.prog ops Q (op :: rest) a w:=by
 have hc:=blk_bool hb hm
 have hf:=blk_frozen hb o
 refine store_event (P:=Try.prog) hgd ho hN (w1:=w.setCell ⟨g,o,none⟩ (.bool y)) ?_ (fun w' hw=>?_)
 ·unfold execOp
  simp only [ho,hx,hy]
  first|(go_simp;done)|(go_simp;rfl)
 have e:w'.heap[g]?=some (.cells (bcs (m.set o y)) t (0,0)):=by
  rw [hw,blk_set hb]
  congr 1
  simp [encs,List.map_set]
 have:=h w' hw e
 rwa [hN] at this
theorem make_copies {W:World} (hgd:op.guard=none) {N:Tmp} (hd:op.dst=some N) {x y:Operand} (ho:op.op = .makeSlice 78 x y) {n:Nat} (hn:n<=600) (hx:a.eval x = .int .i64 (n:Int)) (hy:a.eval y = .int .i64 (n:Int))
  (h:∀ g,g=W.heap.size->∀ w1,w1.heap[g]?=some (.cells (ics (List.replicate (n*12) 0)) TC (0,0))->Below W.heap.size W w1->wpList Try.prog ops Q rest (a.put op.dst (.slice (some ⟨g,0,none⟩) n n)) w1):wpList Try.prog ops Q (op :: rest) a W:=by
 have hinfo:(Try.prog.info? TC).map (fun i=>(i.zero,i.size,i.bytes))=some (some (.agg (ics z12)),12,96):=by kernel_rfl
 obtain⟨i0,hi,hzz⟩:=Option.map_eq_some_iff.1 hinfo
 simp only [Prod.mk.injEq] at hzz
 obtain⟨hz0,hz1,hz2⟩:=hzz
 have hr:=run_make (P:=Try.prog) W 78 TC i0 (.agg (ics z12)) Try.underlying78 hi hz0 .i64 .i64 (n:Int) (n:Int) (by omega) (Int.le_refl _) (by rw [hz2];omega) (by omega)
 rw [hz1] at hr
 simp only [Int.toNat_natCast] at hr
 have hm:madeCells (Value.agg (ics z12)).cells (n*12)=ics (List.replicate (n*12) 0):=by
  have hz:(Value.agg (ics z12)).cells=Array.replicate 12 (Value.int .i64 0):=rfl
  have hf:∀ j:Nat,(Array.replicate 12 (Value.int .i64 0))[j % 12]! = Value.int .i64 0:=fun j=>by
   rw [getElem!_pos _ _ (by rw [Array.size_replicate];exact Nat.mod_lt _ (by decide)),Array.getElem_replicate]
  rw [hz]
  apply Array.ext
  ·simp [madeCells,encs]
  intro j h1 h2
  simp only [madeCells,Array.getElem_map,Array.size_replicate,Array.getElem_range]
  rw [hf]
  simp [encs]
 rw [hm] at hr
 refine Kd.event_run hgd (v:=.slice (some ⟨W.heap.size,0,none⟩) n n) (w1:=W.alloc (.cells (ics (List.replicate (n*12) 0)) TC (0,0))) ?_ (h _ rfl _ (blk_new W _) (below_alloc (Below.refl _ _) _))
 simp [execOp,ho,hx,hy,hr]
theorem make_bools {W:World} (hgd:op.guard=none) {N:Tmp} (hd:op.dst=some N) {x y:Operand} (ho:op.op = .makeSlice 65 x y) {n:Nat} (hn:n<=600) (hx:a.eval x = .int .i64 (n:Int)) (hy:a.eval y = .int .i64 (n:Int))
  (h:∀ g,g=W.heap.size->∀ w1,w1.heap[g]?=some (.cells (bcs (List.replicate n false)) 4 (0,0))->Below W.heap.size W w1->wpList Try.prog ops Q rest (a.put op.dst (.slice (some ⟨g,0,none⟩) n n)) w1):wpList Try.prog ops Q (op :: rest) a W:=by
 have hinfo:(Try.prog.info? 4).map (fun i=>(i.zero,i.size,i.bytes))=some (some (.bool false),1,1):=by kernel_rfl
 obtain⟨i0,hi,hzz⟩:=Option.map_eq_some_iff.1 hinfo
 simp only [Prod.mk.injEq] at hzz
 obtain⟨hz0,hz1,hz2⟩:=hzz
 have hr:=run_make (P:=Try.prog) W 65 4 i0 (.bool false) Try.underlying65 hi hz0 .i64 .i64 (n:Int) (n:Int) (by omega) (Int.le_refl _) (by rw [hz2];omega) (by omega)
 rw [hz1] at hr
 simp only [Int.toNat_natCast,Nat.mul_one] at hr
 have hm:madeCells (Value.bool false).cells n=bcs (List.replicate n false):=by
  have hz:(Value.bool false).cells = #[.bool false]:=rfl
  rw [hz]
  apply Array.ext
  ·simp [madeCells,encs]
  intro j h1 h2
  simp [madeCells,encs,Nat.mod_one]
 rw [hm] at hr
 refine Kd.event_run hgd (v:=.slice (some ⟨W.heap.size,0,none⟩) n n) (w1:=W.alloc (.cells (bcs (List.replicate n false)) 4 (0,0))) ?_ (h _ rfl _ (blk_new W _) (below_alloc (Below.refl _ _) _))
 simp [execOp,ho,hx,hy,hr]
end
theorem info2:(Try.prog.info? 74).map (·.size)=some 2:=by kernel_rfl
theorem cells2:Try.prog.cellsOf 74=2:=by kernel_rfl
theorem part_F (w:World) {x:List SF} {i:Nat} (hi:i < x.length):(part 74 (ics (fl x)) (i*2)).run Try.prog w = .ok (.agg #[.int .i64 (fa x i).f0,.int .i64 (fa x i).f1]) w:=by
 have hl:=fl_len x
 have he:(ics (fl x)).extract (i*2) (i*2+2) = #[.int .i64 (fa x i).f0,.int .i64 (fa x i).f1]:=by
  apply Array.ext_getElem?
  intro j
  rw [Array.getElem?_extract]
  have hs:=ics_size (fl x)
  by_cases h0:j=0
  ·subst h0
   rw [if_pos (by omega),Nat.add_zero,ics_get (by omega),Nat.mul_comm,(fl_get x i).1]
   rfl
  by_cases h1:j=1
  ·subst h1
   rw [if_pos (by omega),ics_get (by omega),Nat.mul_comm,(fl_get x i).2]
   rfl
  rw [if_neg (by omega)]
  simp
  omega
 obtain⟨i0,h0,h2⟩:=Option.map_eq_some_iff.1 info2
 have hagg:(isAgg 74).run Try.prog w = .ok true w:=by
  unfold isAgg
  rw [Sem.run_bind,run_underlying Try.underlying74 w]
  rfl
 have he':List.take 2 (List.drop (i*2) (encs (Value.int .i64) (fl x)))=[.int .i64 (fa x i).f0,.int .i64 (fa x i).f1]:=by
  have:=congrArg Array.toList he
  simpa using this
 simp [part,Sem.run_bind,hagg,sizeOf,typeInfo,h0,h2,he']
theorem eqItems_F (d:Nat) (w:World) {x y:List SF} (hx:x.length=12) (hy:y.length=12):∀ is:List Nat,(∀ i∈is,i < 12)->(Op.eqItems (d+2) 74 2 (ics (fl x)) (ics (fl y)) is).run Try.prog w = .ok (decide (∀ i∈is,fa x i=fa y i)) w
 | [],_=>by simp [Op.eqItems]
 | i :: is,h=>by
  have hi:i < 12:=h i List.mem_cons_self
  have ih:=eqItems_F d w hx hy is (fun j hj=>h j (List.mem_cons_of_mem _ hj))
  simp only [Op.eqItems,Sem.run_bind,part_F w (show i < x.length by omega),part_F w (show i < y.length by omega),eqA74,Result.andThen_ok]
  by_cases e:fa x i=fa y i
  ·rw [if_neg (by rw [e];simp),ih]
   simp [e]
  rw [if_pos (by
   have:¬ ((fa x i).f0=(fa y i).f0/\(fa x i).f1=(fa y i).f1):=fun z=>e (SF.ext' z.1 z.2)
   simp only [Bool.not_eq_true',Bool.and_eq_false_iff,beq_eq_false_iff_ne]
   by_cases z:(fa x i).f0=(fa y i).f0
   ·exact .inr fun q=>this ⟨z,q⟩
   exact .inl z)]
  simp [e]
theorem eqA12 (d:Nat) (w:World) (x y:List SF) (hx:x.length=12) (hy:y.length=12):(Op.equalIn (d+3) T12 (.agg (ics (fl x))) (.agg (ics (fl y)))).run Try.prog w = .ok (decide (x=y)) w:=by
 obtain⟨i0,h0,h2⟩:=Option.map_eq_some_iff.1 info2
 rw [run_equalIn_array w (d+2) (ics (fl x)) (ics (fl y)) Try.underlying76 h0,cells2,eqItems_F d w hx hy _ (fun i hi=>List.mem_range.1 hi)]
 exact congrArg (fun b=>Result.ok b w) (decide_eq_decide.2 ⟨fun z=>ext12 zF hx hy fun r hr=>z r (List.mem_range.2 hr),fun z i _=>by rw [z]⟩)
attribute [local go_sem high] eqA74 eqA12
theorem make_facts {ops:Array Oper} {rest:List Oper} {op:Oper} {a:Act} {Q:Exit->Act->World->Prop} {W:World} (hgd:op.guard=none) {N:Tmp} (hd:op.dst=some N) {x y:Operand} (ho:op.op = .makeSlice 71 x y) {n:Nat} (hn:n<=600) (hx:a.eval x = .int .i64 (n:Int)) (hy:a.eval y = .int .i64 (n:Int))
  (h:∀ g,g=W.heap.size->∀ w1,w1.heap[g]?=some (.cells (ics (List.replicate (n*24) 0)) T12 (0,0))->Below W.heap.size W w1->wpList Try.prog ops Q rest (a.put op.dst (.slice (some ⟨g,0,none⟩) n n)) w1):wpList Try.prog ops Q (op :: rest) a W:=by
 have hinfo:(Try.prog.info? T12).map (fun i=>(i.zero,i.size,i.bytes))=some (some (.agg (ics z24)),24,192):=by kernel_rfl
 obtain⟨i0,hi,hzz⟩:=Option.map_eq_some_iff.1 hinfo
 simp only [Prod.mk.injEq] at hzz
 obtain⟨hz0,hz1,hz2⟩:=hzz
 have hr:=run_make (P:=Try.prog) W 71 T12 i0 (.agg (ics z24)) Try.underlying71 hi hz0 .i64 .i64 (n:Int) (n:Int) (by omega) (Int.le_refl _) (by rw [hz2];omega) (by omega)
 rw [hz1] at hr
 simp only [Int.toNat_natCast] at hr
 rw [made_zero] at hr
 refine Kd.event_run hgd (v:=.slice (some ⟨W.heap.size,0,none⟩) n n) (w1:=W.alloc (.cells (ics (List.replicate (n*24) 0)) T12 (0,0))) ?_ (h _ rfl _ (blk_new W _) (below_alloc (Below.refl _ _) _))
 simp [execOp,ho,hx,hy,hr]
theorem run_store12 {op:Oper} {x y:Operand} {ev:Operand->Value} {w:World} (ho:op.op = .store T12 x y) {g o t:Nat} (hx:ev x = .pointer (some ⟨g,o,none⟩)) {l m:List Int} (hy:ev y = .agg (ics l)) (hl:l.length=24) (hb:w.heap[g]?=some (.cells (ics m) t (0,0))) (hm:o+24<=m.length):(execOp ev op).run Try.prog w = .ok .skip (w.setCells g o (encs (Value.int .i64) l)):=by
 have h1:=run_storeVar_mid (P:=Try.prog) w g o T12 (ics l) (by rw [ics_size];exact there_ints hb (by omega)) (size12 hl) (ics_one l)
 unfold execOp
 simp only [ho,hx,hy,Instr.storeAt,Instr.sureAddr,Sem.run_bind,Sem.run_pure,Result.andThen_ok,h1]
/-- The first row while it is laid. -/
def row0 (p:Nat):List SF:=List.replicate p ⟨1,0⟩ ++ List.replicate (12 - p) zF
def tab0 (n p:Nat):List (List SF):=(List.replicate n (List.replicate 12 zF)).set 0 (row0 p)
theorem row0_len {p:Nat} (h:p<=12):(row0 p).length=12:=by unfold row0;simp;omega
theorem tab0_all {n p:Nat} (h:p<=12):All12 (tab0 n p):=(all_rep n).set 0 (row0_len h)
theorem tab0_zero {n:Nat} (h:0 < n):tab0 n 0=List.replicate n (List.replicate 12 zF):=by
 obtain⟨m,rfl⟩:∃ m,n=m+1:=⟨n - 1,by omega⟩
 rfl
theorem tab0_put {n p:Nat} (h:0 < n) (hp:p < 12):over (flat (tab0 n p)) (p*2) [1,0]=flat (tab0 n (p+1)):=by
 obtain⟨m,rfl⟩:∃ m,n=m+1:=⟨n - 1,by omega⟩
 have e:∀ q,tab0 (m+1) q=row0 q :: List.replicate m (List.replicate 12 zF):=fun q=>rfl
 rw [e,e]
 show over (fl (row0 p) ++ flat _) (p*2) [1,0]=fl (row0 (p+1)) ++ flat _
 have hl:(fl (row0 p)).length=24:=by rw [fl_len,row0_len (by omega)]
 have hs:(row0 p).set p ⟨1,0⟩=row0 (p+1):=rep_set 0 p hp
 rw [<- hs,<- over_fl (row0 p) p 1 0 (by rw [row0_len (by omega)];exact hp),Nat.mul_comm]
 unfold over
 simp only [List.length_cons,List.length_nil]
 rw [List.take_append_of_le_length (by omega),List.drop_append_of_le_length (by omega),List.append_assoc,List.append_assoc,List.append_assoc]
theorem FS_some {c:List SQ} {x:List SF} (h:okR x) (g:x≠(FS c).d):(fa x 0).f0≠0:=by
 rcases h.2.2 with y|y
 ·refine absurd (ext12 zF h.1 (by show (List.replicate 12 zF).length=12;simp) fun r hr=>?_) g
  show fa x r=fa (List.replicate 12 zF) r
  rw [fa_rep _ hr,none_eq (h.2.1 r hr) (y r hr)]
  rfl
 exact y 0 (by omega)
theorem IFact_join.ev (a b:SF):Ev (fun k=>IFact_join.f k a.f0 a.f1 b.f0 b.f1) ((jF a b).f0,(jF a b).f1):=by
 simp only [IFact_join.f]
 unfold jF
 by_cases c1:a.f0=0
 ·rw [if_pos c1]
  refine Ev.pos (Ev.succ ?_)
  simp only [IFact_join.j0]
  exact Ev.pos Ev.pure trivial
 rw [if_neg c1]
 refine Ev.neg (Ev.succ ?_)
 simp only [IFact_join.j0]
 by_cases c2:a=b
 ·subst c2
  refine Ev.pos (Ev.eq Ev.pure ?_) (by simp)
  rw [if_neg c1,if_pos rfl]
 refine Ev.neg ?_ (by
  intro z
  simp only [Bool.and_eq_true,beq_iff_eq] at z
  exact c2 (SF.ext' z.1 z.2))
 by_cases c3:b.f0=0
 ·rw [if_pos c3,if_pos c3]
  exact Ev.pure
 rw [if_neg c3,if_neg c3,if_neg c2]
 exact Ev.pure
theorem IFact_join.go (a b:SF) (w:World):Calls Try.prog 95 #[.agg #[.int .i64 a.f0,.int .i64 a.f1],.agg #[.int .i64 b.f0,.int .i64 b.f1]] w fun e w'=>e = .returned (.agg #[.int .i64 (jF a b).f0,.int .i64 (jF a b).f1])/\Below w.heap.size w w':=by
 obtain⟨k,hk⟩:=(IFact_join.ev a b).get
 exact IFact_join.calls k _ _ _ _ _ _ _ hk
theorem run_store2 {op:Oper} {x y:Operand} {ev:Operand->Value} {w:World} (ho:op.op = .store 74 x y) {g o t:Nat} (hx:ev x = .pointer (some ⟨g,o,none⟩)) {x0 x1:Int} {m:List Int} (hy:ev y = .agg #[.int .i64 x0,.int .i64 x1]) (hb:w.heap[g]?=some (.cells (ics m) t (0,0))) (hm:o+2<=m.length):(execOp ev op).run Try.prog w = .ok .skip (w.setCells g o (encs (Value.int .i64) [x0,x1])):=by
 have h1:=run_storeVar_mid (P:=Try.prog) w g o 74 (ics [x0,x1]) (by rw [ics_size];exact there_ints hb hm) (by rw [ics_size];kernel_rfl) (ics_one _)
 have hy':ev y = .agg (ics [x0,x1]):=hy
 unfold execOp
 simp only [ho,hx,hy',Instr.storeAt,Instr.sureAddr,Sem.run_bind,Sem.run_pure,Result.andThen_ok,h1]
theorem range_below {w w':World} {g o:Nat} {cs:List Value} (h:w.rangeAt g o cs) (hb:Below w.heap.size w w'):w'.rangeAt g o cs:=fun j v hv=>(hb.cell (World.block_lt_of_cell? w _ (h j v hv))).trans (h j v hv)
theorem tab0_T0 (c:List SQ):tab0 c.length 12=Sys.T0 (FS c):=by
 unfold tab0 row0
 rw [Nat.sub_self,List.replicate_zero,List.append_nil]
 rfl
theorem ints_snoc (v:List Nat) (a:Nat):ints (v ++ [a])=ints v ++ [(a:Int)]:=by simp [ints]
theorem IfactsBefore.calls {c:List SQ} (h:CV (qs c)) (A0:Option Addr) (c0:Nat) (w:World) (hr0:Kd.C k46 w A0 c.length c) (hc0:c.length<=c0) :
  Calls Try.prog 68 #[.slice A0 c.length c0] w fun e w'=>∃ g U,(FS c).Lfp U/\e = .returned (.slice (some ⟨g,0,none⟩) c.length c.length)/\w.heap.size<=g/\w'.heap[g]?=some (.cells (ics (flat U)) T12 (0,0))/\Below w.heap.size w w':=by
 have HR0:=aM hr0
 have HC0:=aM hc0
 clear hr0 hc0
 have h6:=cv600 h
 have h6':c.length<=600:=h6.2
 have c1b:decide (0 < (c.length:Int))=true:=decide_eq_true (by omega)
 have c1b':decide (0 < c.length)=true:=decide_eq_true (by omega)
 have c1t:(0 < c.length)=True:=eq_true (by omega)
 have HB:=aM (Below.refl w.heap.size w)
 go_enter Try.func68,Try.ntmps68
 go_wp2_with (first|((with_reducible refine jd 14 rfl ?_);refine make_facts rfl (N:=14) rfl rfl h6' rfl rfl ?_;intro g hg w1 hbox hb;have BG:=aM (show w1.heap[g]?=some (.cells (ics (flat (tab0 c.length 0))) T12 (0,0)) by rw [tab0_zero h6.1,flat_rep];exact hbox);have GG:=aM (show w.heap.size<=g by rw [hg];exact Nat.le_refl _);replace HB:=kH hb;clear hg hbox hb))
 go_loopg [15] 12 (fun kq v15 w'=>∃ (p:Nat),v15 = .int .i64 (p:Int)/\Aside0 (p+kq=12)/\Aside0 (w'.heap[g]?=some (.cells (ics (flat (tab0 c.length p))) T12 (0,0)))/\Aside0 (Below w.heap.size w w'))
 case atStart=>exact⟨0,rfl,⟨rfl⟩,BG,HB⟩
 clear BG HB
 obtain⟨p,rfl,HP,BG,HB⟩:=hrel
 rcases gk with _|k1
 ·have ep:p=12:=by have:=HP.out;omega
  subst ep
  rw [tab0_T0] at BG
  go_wp2_with (first|((with_reducible refine jd 24 rfl ?_);refine Kd.R_lit (Kd.int .i64) _ 3 ?hg (N:=24) ?hd (xs:=([0]:List Int)) (inner:=[.int .i64 0]) (ok:=fun _=>True) (okp:=fun _=>True) ?hr ?hp (fun _ hk=>hk) trivial (Below.refl _ _) (Nat.le_refl _) (by simp) ?_;(case hd=>rfl);(case hg=>rfl);(case hr=>first|(go_simp;done)|(go_simp;rfl));(case hp=>exact (Reps.one (show Kd.M (Kd.int .i64) _ _ _ 0 [.int .i64 0] from rfl) (Reps.none _ _)));intro v9 w9 ho hb hg_ hnew_;have n2:=kB BG hb;have HW:=aM (Kd.R_mono (ok':=fun k=>k≠g) (Kd.R_types (Kd.R_lower ho HB.out.size) n2.out (by decide)) (fun _ hk=>hk.2));replace HB:=kH hb;clear BG;have BG:=n2;clear n2 ho hb hg_ hnew_))
  have cap0:(FS c).cap (Sys.T0 (FS c))+1<=20000:=by
   have:=Sys.cap_le (S:=FS c) (Sys.T0 (FS c))
   rw [(Sys.T0_st (FS_laws h)).1,show (FS c).n*(FS c).top=c.length*24 from rfl] at this
   omega
  go_loopg [5] ((FS c).cap (Sys.T0 (FS c))+1) (fun kq v5 w'=>∃ (T:List (List SF)) (l:List Nat),Aside0 ((FS c).Wk T l/\(FS c).cap T+l.length<=kq/\kq<=20000)/\Aside0 (w'.heap[g]?=some (.cells (ics (flat T)) T12 (0,0)))/\Aside0 (Kd.R (Kd.int .i64) 3 w' w.heap.size (fun k=>k≠g) v5 (ints l))/\Aside0 (Below w.heap.size w w'))
  case atStart=>exact⟨_,[0],⟨Sys.wk0 (FS_laws h),Nat.le_refl _,cap0⟩,BG,HW,HB⟩
  clear BG HW HB HP
  obtain⟨T,l,HK,BG,HW,HB⟩:=hrel
  obtain⟨Ao,co,rfl⟩:=Kd.R_slice HW.out
  by_cases el:l=[]
  ·subst el
   have z:decide (0 < (ints []).length)=false:=rfl
   go_wp2
   go_ret
   exact⟨g,T,Sys.wk_end HK.out.1,rfl,GG.out,BG.out,HB.out⟩
  obtain⟨v,a,rfl⟩:=last_of el
  obtain⟨ha,hb_,hk,hcap⟩:=Sys.wk_step (FS_laws h) HK.out.1
  have ha6:a < c.length:=ha
  have hT:=HK.out.1.1.1
  have hTl:T.length=c.length:=hT.1
  obtain⟨x,hx⟩:∃ x,x=(FS c).at' T a:=⟨_,rfl⟩
  have okx:okR x:=by rw [hx];exact hT.2 a ha
  have hrow:T.getD a []=x:=by rw [hx];exact (FS_at (by omega)).symm
  have LL:(ints (v ++ [a])).length=v.length+1:=by rw [ints_len];simp
  obtain⟨y,hy⟩:∃ y:List Int,y=ints (v ++ [a]):=⟨_,rfl⟩
  rw [<- hy] at HW LL ⊢
  obtain⟨ji,hji⟩:∃ j:Int,j=(v.length:Int):=⟨_,rfl⟩
  obtain⟨ai,hai⟩:∃ j:Int,j=(a:Int):=⟨_,rfl⟩
  have hrd:rd y ji=ai:=by
   rw [hji,hai,hy,rd_ints]
   simp [List.getD_eq_getElem?_getD]
  have htk:y.take ji.toNat=ints v:=by rw [hji,hy,Int.toNat_natCast,ints_snoc,<- ints_len v,List.take_left]
  have vb:v.length<=100000:=by
   have:=HK.out.2
   rw [List.length_append] at this
   omega
  have hjw:IntKind.i64.wrap ((y.length:Int) - 1)=ji:=by rw [LL,hji,i64_w,wrap_id (by omega) (by omega)];omega
  have yb:decide (0 < (y.length:Int))=true:=decide_eq_true (by omega)
  have yb':decide (0 < y.length)=true:=decide_eq_true (by omega)
  have j0:0<=ji:=by omega
  have j1:ji < (y.length:Int):=by omega
  have j2:ji<=(y.length:Int):=by omega
  obtain⟨ad,e,hx0⟩:=Kd.at_int (Kd.R_reads' HW.out).2.2 ji j0 j1
  cases e
  rw [hrd] at hx0
  obtain⟨i0,hi0,_,hsz,_⟩:=info_parts info3
  have hcut:=cut_to (P:=Try.prog) 31 3 .i64 Try.underlying31 hi0 (some ad) y.length co ji j0 j2 (Kd.R_reads' HW.out).2.1
  have hr:=Kd.R_take (m:=ji.toNat) HW.out (by omega)
  rw [htk] at hr
  have hvl:(ints v).length=ji.toNat:=by rw [ints_len,hji];rfl
  rw [<- hvl] at hr hcut
  clear HW hi0 hsz
  have HW:=aM hr
  clear hr
  have a0:0<=ai:=by omega
  have a1:ai < (c.length:Int):=by omega
  obtain⟨aq,e2,x0,x1,x2,x3,x4⟩:=at_T46 HR0.out ai a0 a1
  cases e2
  replace x0:=kx HB x0
  replace x1:=kx HB x1
  replace x2:=kx HB x2
  replace x3:=kx HB x3
  replace x4:=kx HB x4
  have j0t:=eq_true j0
  have j1t:=eq_true j1
  have j2t:=eq_true j2
  have j0b:=decide_eq_true j0
  have j1b:=decide_eq_true j1
  have j2b:=decide_eq_true j2
  have a0t:=eq_true a0
  have a1t:=eq_true a1
  have a0b:=decide_eq_true a0
  have a1b:=decide_eq_true a1
  have HAI:=aM hai
  have HX:=aM hx
  clear hai
  clear j0 j1 j2 a0 a1 LL hy hx hji hrd htk hvl el hk hcap
  go_wp2
  have hq:=cv_at h ha6
  have rq:rd_T46 c ai=qa c a:=by rw [HAI.out];exact rd_qa c a
  rw [rq] at x0 x1 x2 x3 x4
  have go1:=fun W=>Ifacts_behind.calls okx hq W
  have hbt:∀ w',Below wr.heap.size wr w'->w'.rangeAt g (ai.toNat*24) (encs (Value.int .i64) (fl x)):=fun w' hw'=>by
   have:=range_row ((hw'.block g (blk_lt BG.out)).trans BG.out) (st_all hT) (i:=a) (by omega)
   rw [hrow] at this
   rw [HAI.out,Int.toNat_natCast]
   exact this
  have hx0':∀ w',Below wr.heap.size wr w'->w'.cell? (aq.add (ai.toNat*5))=some (.int .i64 (qa c a).f0):=fun w' hw'=>(hw'.cell (World.block_lt_of_cell? wr _ x0)).trans x0
  have hx1':∀ w',Below wr.heap.size wr w'->w'.cell? ⟨(aq.add (ai.toNat*5)).block,(aq.add (ai.toNat*5)).off+1,none⟩=some (.int .i64 (qa c a).f1):=fun w' hw'=>(hw'.cell (World.block_lt_of_cell? wr _ x1)).trans x1
  have hx2':∀ w',Below wr.heap.size wr w'->w'.cell? ⟨(aq.add (ai.toNat*5)).block,(aq.add (ai.toNat*5)).off+2,none⟩=some (.int .i64 (qa c a).f2):=fun w' hw'=>(hw'.cell (World.block_lt_of_cell? wr _ x2)).trans x2
  have hx3':∀ w',Below wr.heap.size wr w'->w'.cell? ⟨(aq.add (ai.toNat*5)).block,(aq.add (ai.toNat*5)).off+3,none⟩=some (.int .i64 (qa c a).f3):=fun w' hw'=>(hw'.cell (World.block_lt_of_cell? wr _ x3)).trans x3
  have hx4':∀ w',Below wr.heap.size wr w'->w'.cell? ⟨(aq.add (ai.toNat*5)).block,(aq.add (ai.toNat*5)).off+4,none⟩=some (.int .i64 (qa c a).f4):=fun w' hw'=>(hw'.cell (World.block_lt_of_cell? wr _ x4)).trans x4
  clear x0 x1 x2 x3 x4 hx0 hcut
  obtain⟨vv,hvv⟩:∃ vv,vv=aftF (q_ (qa c a)) x:=⟨_,rfl⟩
  have HKX:=HK.out
  have okv:okR vv:=by
   rw [hvv]
   exact aftF_ok hq okx (FS_some okx (by rw [HX.out];exact hb_))
  have hv12:(fl vv).length=24:=by rw [fl_len,okv.1]
  clear HKX
  rw [<- hvv] at go1
  have HVV:=aM hvv
  clear hvv
  have go2:=fun W=>Icarried.calls h ha6 okx W
  rw [<- HAI.out] at go2
  obtain⟨es,hes⟩:∃ es,es=edges (q_ (qa c a)) a x:=⟨_,rfl⟩
  rw [<- hes] at go2
  have HES:=aM hes
  clear hes
  refine start_ (n:=11) (S:=fun w'=>Below wr.heap.size wr w') (ds:=[]) (jb 11 0) (by kernel_rfl) rfl rfl (below_drew1 (Below.refl _ _)) (fun hHeld=>?_)
  generalize wr.drew=wd at hHeld ⊢
  refine jq 0 39 (jb 11 1) ?_
  refine jq 1 40 (jb 11 3) ?_
  refine jq 2 41 (jb 11 7) ?_
  refine jq 4 43 (jb 11 23) ?_
  refine jq 5 44 (jb 11 55) ?_
  refine jq 6 45 (jb 11 119) ?_
  refine take_ (i:=3) (N:=some 42) (a':=?_) (jb 11 127) rfl rfl (by kernel_rfl) (fun _ _ _ h=>h) (yieldsIf_load_mid (by rfl) T12 (.tmp 41) rfl g (ai.toNat*24) rfl _ _ hbt Try.underlying76 rfl (size12' (by rw [fl_len,okx.1]))) hHeld ?_ ?_
  rotate_left
  ·exact qP
  refine take_ (i:=7) (N:=some 46) (v:=?_) (a':=?_) (jb 11 255) rfl rfl (by kernel_rfl) (fun _ _ _ h=>h) (Or.inl ⟨by rfl,?_⟩) hHeld ?_ ?_
  rotate_left
  ·intro w' hs
   have y0:=hx0' w' hs
   have y1:=hx1' w' hs
   have y2:=hx2' w' hs
   have y3:=hx3' w' hs
   have y4:=hx4' w' hs
   go_simp
   with_reducible rfl
  rotate_left
  ·exact qP
  refine join_ (σ:=Nat) 1 (jb 11 1023) (fun s_=>[(47,.agg (ics (fl vv))),(7,.pointer (some ⟨s_,0,none⟩))]) (fun s_ w'=>Below wr.heap.size wr w'/\wr.heap.size<=s_/\w'.heap[s_]?=some (.cells (ics z24) T12 (0,0))) ?_ ?_
  rotate_left
  ·intro hCont
   refine two_ (i:=8) (j:=9) (Ni:=some 47) (Nj:=some 7) (jb 11 511) (jb 11 767) rfl rfl rfl rfl (by kernel_rfl) (by decide) (by decide) (fun K hK=>?_) (fun K hK=>?_)
   ·skip
    refine goes_ Try.func93 (by kernel_rfl) rfl #[.agg (ics (fl x)),.agg #[.int .i64 (qa c a).f0,.int .i64 (qa c a).f1,.int .i64 (qa c a).f2,.int .i64 (qa c a).f3,.int .i64 (qa c a).f4]] (by rfl) rfl rfl qM ?_
    (with_reducible refine (go1 _).mono ?_)
    rintro e w15 ⟨rfl,hb⟩
    refine⟨_,rfl,?_⟩
    refine hK.out _ _ (below_step hHeld hb) (fun hHeld=>?_)
    clear hK K
    refine norm_ (a':=?_) ?_ ?_
    rotate_left
    ·show Act.put _ (some 47) _=_
     simp only [Act.put,List.setIfInBounds_toArray,List.set_cons_zero,List.set_cons_succ,i64_w,i32_w]
     rfl
    refine one_ (i:=9) (N:=some 7) (jb 11 1023) rfl rfl (by kernel_rfl) (by decide) (fun K hK=>?_)
    refine box_step ?hg (N:=7) ?hd (cs:=ics z24) (t:=T12) ?hr ?_;(case hd=>rfl);(case hg=>rfl);(case hr=>first|(go_simp;done)|(go_simp;rfl))
    intro g7 hg7 w16 hbox hb
    refine hK.out _ _ (below_step hHeld hb) (fun hHeld2=>?_)
    clear hK K
    refine norm_ (a':=?_) ?_ ?_
    rotate_left
    ·show Act.put _ (some 7) _=_
     simp only [Act.put,List.setIfInBounds_toArray,List.set_cons_zero,List.set_cons_succ,i64_w,i32_w]
     rfl
    exact norm_ (by simp only [putAll,Act.put,List.setIfInBounds_toArray,List.set_cons_zero,List.set_cons_succ]) (hCont g7 _ ⟨hHeld2,(by rw [hg7];exact hHeld.size),hbox⟩)
   skip
   refine box_step ?hg (N:=7) ?hd (cs:=ics z24) (t:=T12) ?hr ?_;(case hd=>rfl);(case hg=>rfl);(case hr=>first|(go_simp;done)|(go_simp;rfl))
   intro g7 hg7 w16 hbox hb
   refine hK.out _ _ (below_step hHeld hb) (fun hHeld2=>?_)
   clear hK K
   refine norm_ (a':=?_) ?_ ?_
   rotate_left
   ·show Act.put _ (some 7) _=_
    simp only [Act.put,List.setIfInBounds_toArray,List.set_cons_zero,List.set_cons_succ,i64_w,i32_w]
    rfl
   refine one_ (i:=8) (N:=some 47) (jb 11 1023) rfl rfl (by kernel_rfl) (by decide) (fun K hK=>?_)
   refine goes_ Try.func93 (by kernel_rfl) rfl #[.agg (ics (fl x)),.agg #[.int .i64 (qa c a).f0,.int .i64 (qa c a).f1,.int .i64 (qa c a).f2,.int .i64 (qa c a).f3,.int .i64 (qa c a).f4]] (by rfl) rfl rfl qM ?_
   (with_reducible refine (go1 _).mono ?_)
   rintro e w15 ⟨rfl,hb⟩
   refine⟨_,rfl,?_⟩
   refine hK.out _ _ (below_step hHeld2 hb) (fun hHeld3=>?_)
   clear hK K
   refine norm_ (a':=?_) ?_ ?_
   rotate_left
   ·show Act.put _ (some 47) _=_
    simp only [Act.put,List.setIfInBounds_toArray,List.set_cons_zero,List.set_cons_succ,i64_w,i32_w]
    rfl
   exact norm_ (by simp only [putAll,Act.put,List.setIfInBounds_toArray,List.set_cons_zero,List.set_cons_succ]) (hCont g7 _ ⟨hHeld3,(by rw [hg7];exact hHeld.size),blk_below hbox hb⟩)
  intro g7 w17 hF
  obtain⟨hHeld,G7,B7⟩:=hF
  refine norm_ (a':=?_) ?_ ?_
  rotate_left
  ·simp only [putAll,Act.put,List.setIfInBounds_toArray,List.set_cons_zero,List.set_cons_succ]
   rfl
  refine one_ (i:=10) (N:=none) (jb 11 2047) rfl rfl (by kernel_rfl) (by decide) (fun K hK=>?_)
  refine skip_ (w1:=w17.setCells g7 0 (encs (Value.int .i64) (fl vv))) (by rfl) rfl ?_ ?_
  ·exact run_store12 (x:=.tmp 7) (y:=.tmp 47) (g:=g7) (o:=0) rfl rfl rfl hv12 B7 (by decide)
  refine hK.out _ _ (setCells_below G7 _ _ _ hHeld) (fun hHeld=>?_)
  clear hK K
  refine done_ (by kernel_rfl) ?_
  have B7n:(w17.setCells g7 0 (encs (Value.int .i64) (fl vv))).heap[g7]?=some (.cells (ics (fl vv)) T12 (0,0)):=by
   have:=setCells_ints (fl vv) 0 z24 w17 B7 (by rw [hv12];decide)
   rwa [over_all (by rw [hv12];rfl)] at this
  generalize w17.setCells g7 0 (encs (Value.int .i64) (fl vv))=w18 at hHeld B7n ⊢
  clear B7
  go_wp2_with fail
  refine start_ (n:=12) (S:=fun w'=>Below wr.heap.size wr w'/\w'.heap[g7]?=some (.cells (ics (fl vv)) T12 (0,0))) (ds:=[]) (jb 12 0) (by kernel_rfl) rfl rfl ⟨below_drew1 hHeld,blk_drew B7n⟩ (fun hHeld=>?_)
  clear B7n
  generalize w18.drew=wd2 at hHeld ⊢
  refine jq 0 48 (jb 12 1) ?_
  refine jq 1 49 (jb 12 3) ?_
  refine jq 2 50 (jb 12 7) ?_
  refine jq 4 52 (jb 12 23) ?_
  refine jq 5 53 (jb 12 55) ?_
  refine jq 6 54 (jb 12 119) ?_
  refine jq 7 55 (jb 12 247) ?_
  refine jq 11 59 (jb 12 2295) ?_
  refine take_ (i:=3) (N:=some 51) (v:=?_) (a':=?_) (jb 12 2303) rfl rfl (by kernel_rfl) (fun _ _ _ h=>h) (Or.inl ⟨by rfl,?_⟩) hHeld ?_ ?_
  rotate_left
  ·rintro w' ⟨hs,_⟩
   have y0:=hx0' w' hs
   have y1:=hx1' w' hs
   have y2:=hx2' w' hs
   have y3:=hx3' w' hs
   have y4:=hx4' w' hs
   go_simp
   with_reducible rfl
  rotate_left
  ·exact qP
  refine take_ (i:=8) (N:=some 56) (a':=?_) (jb 12 2559) rfl rfl (by kernel_rfl) (fun _ _ _ h=>h) (yieldsIf_load_mid (by rfl) T12 (.tmp 55) rfl g (ai.toNat*24) rfl _ _ (fun w' hs=>hbt w' hs.1) Try.underlying76 rfl (size12' (by rw [fl_len,okx.1]))) hHeld ?_ ?_
  rotate_left
  ·exact qP
  refine one_ (i:=9) (N:=some 57) (jb 12 3071) rfl rfl (by kernel_rfl) (by decide) (fun K hK=>?_)
  refine goes_ Try.func94 (by kernel_rfl) rfl #[.agg #[.int .i64 (qa c a).f0,.int .i64 (qa c a).f1,.int .i64 (qa c a).f2,.int .i64 (qa c a).f3,.int .i64 (qa c a).f4],.int .i64 ai,.agg (ics (fl x))] (by rfl) rfl rfl qM ?_
  (with_reducible refine (go2 _).mono ?_)
  rintro e w19 ⟨v19,rfl,ho,hb⟩
  refine⟨_,rfl,?_⟩
  obtain⟨Ae,ce,rfl⟩:=Kd.R_slice ho
  have hsz:=hHeld.1.size
  refine hK.out _ _ ⟨below_step hHeld.1 hb,blk_below hHeld.2 hb⟩ (fun hHeld=>?_)
  clear hK K
  refine norm_ (a':=?_) ?_ ?_
  rotate_left
  ·show Act.put _ (some 57) _=_
   simp only [Act.put,List.setIfInBounds_toArray,List.set_cons_zero,List.set_cons_succ,i64_w,i32_w]
   rfl
  refine jq 10 58 (jb 12 4095) ?_
  refine done_ (by kernel_rfl) ?_
  go_wp2_with fail
  have HW1:=aM (Kd.R_elder' HW.out (fun k hk=>Nat.le_trans hsz (Kd.R_base ho k hk)) hHeld.1)
  have HE1:=aM (Kd.R_lower (Kd.R_new' ho (fun k hk=>Nat.lt_of_lt_of_le (Kd.R_lt HW.out k hk) hsz)) (Nat.le_trans HB.out.size hsz))
  have BG1:=aM (blk_below BG.out hHeld.1)
  have B71:=aM hHeld.2
  have HB1:=aM (below_step HB.out hHeld.1)
  have G7':=aM (Nat.le_trans HB.out.size G7)
  have N7:Aside0 (g≠g7):=⟨Nat.ne_of_lt (Nat.lt_of_lt_of_le (blk_lt BG.out) G7)⟩
  clear HW HB BG hHeld ho hsz G7 hbt hx0' hx1' hx2' hx3' hx4' go1 go2 hb_
  have fin:Sys.wpass (FS c) ((FS c).out a ((FS c).at' T a)) T v=Sys.wpass (FS c) (es.map fun e=>(e,vv)) T v:=by
   have g0:(fa ((FS c).at' T a) 0).f0≠0:=by
    rw [<- HX.out]
    exact FS_some okx (by rw [HX.out];exact (Sys.wk_step (FS_laws h) HK.out.1).2.1)
   have e:(FS c).out a ((FS c).at' T a)=(edges (q_ (qa c a)) a ((FS c).at' T a)).map fun e=>(e,aftF (q_ (qa c a)) ((FS c).at' T a)):=if_neg g0
   rw [e,<- HX.out,<- HES.out,<- HVV.out]
  have FIN:=aM fin
  clear fin
  have hel:∀ e∈es,e < c.length:=fun e he=>by
   rw [HES.out] at he
   exact nx_lt' h ha6 (edges_sub he)
  have hes2:es.length<=2:=by rw [HES.out];exact edges_len _ _ _
  go_loopg [5,59] es.length (fun kq v5 v59 w'=>∃ (pj:Int) (p:Nat) (T':List (List SF)) (l':List Nat),v59 = .int .i64 pj/\Aside0 (pj=(p:Int)/\p+kq=es.length/\(FS c).St T'/\(FS c).cap T' + l'.length<=20000/\Sys.wpass (FS c) ((es.drop p).map fun e=>(e,vv)) T' l'=Sys.wpass (FS c) (es.map fun e=>(e,vv)) T v)/\Aside0 (w'.heap[g]?=some (.cells (ics (flat T')) T12 (0,0)))/\Aside0 (w'.heap[g7]?=some (.cells (ics (fl vv)) T12 (0,0)))/\Aside0 (Kd.R (Kd.int .i64) 3 w' w.heap.size (fun k=>k≠g/\some k≠(.slice Ae (ints es).length ce:Value).ownBlock) v5 (ints l'))/\Aside0 (Kd.R (Kd.int .i64) 3 w' w.heap.size (fun k=>True/\some k≠v5.ownBlock) (.slice Ae (ints es).length ce) (ints es))/\Aside0 (Below w.heap.size w w'))
  case atStart=>exact⟨0,0,T,v,rfl,⟨rfl,Nat.zero_add _,hT,by have:=HK.out.2;rw [List.length_append] at this;omega,by rw [List.drop_zero]⟩,BG1,B71,HW1,HE1,HB1⟩
  clear BG1 B71 HW1 HE1 HB1
  obtain⟨pj,p,T',l',rfl,HP,BG,B7,HW,HE,HB⟩:=hrel
  obtain⟨hpj,hpk,hT',hc',hfin⟩:=HP.out
  clear HP
  obtain⟨Ao2,co2,rfl⟩:=Kd.R_slice HW.out
  by_cases ep:p < es.length
  ·have hpb:p < es.length:=ep
   obtain⟨en,hen⟩:∃ en,en=es.getD p 0:=⟨_,rfl⟩
   have hec:en < c.length:=by rw [hen];exact hel _ (getD_mem hpb)
   obtain⟨ni,hni⟩:∃ j:Int,j=(en:Int):=⟨_,rfl⟩
   have hTl':T'.length=c.length:=hT'.1
   obtain⟨tn,htn⟩:∃ tn,tn=T'.getD en []:=⟨_,rfl⟩
   have okt:okR tn:=by
    rw [htn,<- FS_at (c:=c) (by omega)]
    exact hT'.2 en hec
   have tn24:(fl tn).length=24:=by rw [fl_len,okt.1]
   have hrg:wr.rangeAt g (ni.toNat*24) (encs (Value.int .i64) (fl tn)):=by
    have:=range_row BG.out (st_all hT') (i:=en) (by omega)
    rw [<- htn] at this
    rw [hni,Int.toNat_natCast]
    exact this
   have pj0:0<=pj:=by omega
   have pj1:pj < ((ints es).length:Int):=by rw [ints_len];omega
   have hrd:rd (ints es) pj=ni:=by rw [hpj,rd_ints,hni,hen]
   obtain⟨ad2,e2,hx0⟩:=Kd.at_int (Kd.R_reads' HE.out).2.2 pj pj0 pj1
   cases e2
   rw [hrd] at hx0
   have n0:0<=ni:=by omega
   have n1:ni < (c.length:Int):=by omega
   have pj0t:=eq_true pj0
   have pj1t:=eq_true pj1
   have pj0b:=decide_eq_true pj0
   have pj1b:=decide_eq_true pj1
   have n0t:=eq_true n0
   have n1t:=eq_true n1
   have n0b:=decide_eq_true n0
   have n1b:=decide_eq_true n1
   have HP:=aM (And.intro hpj (And.intro hpk (And.intro hT' (And.intro hc' hfin))))
   have HN:=aM (And.intro hen hni)
   have HTN:=aM htn
   clear hpj hpk hT' hc' hfin hen hni htn hrd pj0 pj1 n0 n1 ep
   go_wp2_with (first|((with_reducible refine load12 (N:=66) rfl rfl rfl rfl tn24 hrg ?_))|((with_reducible refine jd 10 rfl ?_);refine jX (ics z24) T12 ?_;intro g10 hg w20 hbox hb;have N10:=aM (show g≠g10 by rw [hg];exact Nat.ne_of_lt (blk_lt BG.out));have M10:=aM (show g7≠g10 by rw [hg];exact Nat.ne_of_lt (blk_lt B7.out));have G10:=kG hg;replace BG:=kB BG hb;replace B7:=kB B7 hb;replace HW:=kR HW hb;replace HE:=kR HE hb;replace HB:=kH hb;clear hx0 hrg;have B10:=aM hbox;clear hg hbox hb)|((with_reducible refine store12 (p:=10) (v:=66) rfl rfl rfl rfl tn24 B10.out (by decide) ?_);intro w21 hw hb10;rw [over_all (by rw [tn24];rfl)] at hb10;replace BG:=aM (far_ hw N10.out BG.out);replace B7:=aM (far_ hw M10.out B7.out);replace HW:=aM (Kd.R_mono (R_set_ hw (fun _ hk=>hk.2) (Kd.R_types HW.out B10.out (by decide))) (fun _ hk=>hk.1));replace HE:=aM (Kd.R_mono (R_set_ hw (fun _ hk=>hk.2) (Kd.R_types HE.out B10.out (by decide))) (fun _ hk=>hk.1));replace HB:=aM (below_ hw G10.out HB.out);clear B10 hw;have B10:=aM hb10;clear hb10))
   have jp0:=jP0 vv okt.1
   go_loopg [67] 12 (fun kq v67 w'=>∃ (ri:Int) (r:Nat),v67 = .int .i64 ri/\Aside0 (ri=(r:Int)/\r+kq=12)/\Aside0 (w'.heap[g10]?=some (.cells (ics (fl (jP r tn vv))) T12 (0,0)))/\Aside0 (w'.heap[g]?=some (.cells (ics (flat T')) T12 (0,0)))/\Aside0 (w'.heap[g7]?=some (.cells (ics (fl vv)) T12 (0,0)))/\Aside0 (Kd.R (Kd.int .i64) 3 w' w.heap.size (fun k=>k≠g/\some k≠(.slice (some ad2) (ints es).length ce:Value).ownBlock) (.slice Ao2 (ints l').length co2) (ints l'))/\Aside0 (Kd.R (Kd.int .i64) 3 w' w.heap.size (fun k=>True/\some k≠(.slice Ao2 (ints l').length co2:Value).ownBlock) (.slice (some ad2) (ints es).length ce) (ints es))/\Aside0 (Below w.heap.size w w'))
   case atStart=>exact⟨0,0,rfl,⟨rfl,rfl⟩,⟨by rw [jp0];exact B10.out⟩,BG,B7,HW,HE,HB⟩
   clear B10 BG B7 HW HE HB jp0
   obtain⟨ri,r,rfl,HR,B10,BG,B7,HW,HE,HB⟩:=hrel
   rcases gk with _|k1
   ·have er:r=12:=by have:=HR.out.2;omega
    subst er
    rw [jP12] at B10
    have hri:ri=12:=HR.out.1
    subst hri
    have j24:(fl (jR tn vv)).length=24:=by rw [fl_len,show (jR tn vv).length=12 from mk12_len _]
    have j12:(jR tn vv).length=12:=mk12_len _
    have t12:=okt.1
    have hrg:wr.rangeAt g (ni.toNat*24) (encs (Value.int .i64) (fl tn)):=by
     have:=range_row BG.out (st_all HP.out.2.2.1) (i:=en) (by omega)
     rw [<- HTN.out] at this
     rw [HN.out.2,Int.toNat_natCast]
     exact this
    have hrg2:wr.rangeAt g10 0 (encs (Value.int .i64) (fl (jR tn vv))):=range_all B10.out
    go_wp2_with fail
    refine start_ (n:=6) (S:=fun w'=>Below wr.heap.size wr w') (ds:=[]) (jb 6 0) (by kernel_rfl) rfl rfl (below_drew1 (Below.refl _ _)) (fun hHeld=>?_)
    have HWD:Aside0 (Below wr.heap.size wr wr.drew):=⟨hHeld⟩
    generalize wr.drew=wd4 at hHeld HWD ⊢
    refine take_ (i:=0) (N:=some 80) (a':=?_) (jb 6 1) rfl rfl (by kernel_rfl) (fun _ _ _ h=>h) (yieldsIf_load_mid (by rfl) T12 (.tmp 10) rfl g10 0 rfl _ _ (fun w' hs=>range_below hrg2 hs) Try.underlying76 rfl (size12' j24)) hHeld ?_ ?_
    rotate_left
    ·exact qP
    refine jq 1 81 (jb 6 3) ?_
    refine jq 2 82 (jb 6 7) ?_
    refine jq 3 83 (jb 6 15) ?_
    refine take_ (i:=4) (N:=some 84) (a':=?_) (jb 6 31) rfl rfl (by kernel_rfl) (fun _ _ _ h=>h) (yieldsIf_load_mid (by rfl) T12 (.tmp 83) rfl g (ni.toNat*24) rfl _ _ (fun w' hs=>range_below hrg hs) Try.underlying76 rfl (size12' tn24)) hHeld ?_ ?_
    rotate_left
    ·exact qP
    refine jq 5 85 (jb 6 63) ?_
    refine done_ (by kernel_rfl) ?_
    have n2:=aM (blk_below BG.out HWD.out)
    have n3:=aM (blk_below B7.out HWD.out)
    have n4:=aM (Kd.R_below HW.out HWD.out)
    have n5:=aM (Kd.R_below HE.out HWD.out)
    have n6:=aM (blk_below B10.out HWD.out)
    have n1:=aM (below_step HB.out HWD.out)
    clear HB BG B7 HW HE B10 HWD hHeld hrg hrg2
    have HB:=n1
    have BG:=n2
    have B7:=n3
    have HW:=n4
    have HE:=n5
    have B10:=n6
    clear n1 n2 n3 n4 n5 n6
    have hdrop:es.drop p=en :: es.drop (p+1):=by rw [HN.out.1];exact drop_cons 0 hpb
    have hat:(FS c).at' T' en=tn:=by rw [HTN.out];exact FS_at (by omega)
    by_cases ej:jR tn vv=tn
    ·have ejb:decide (jR tn vv=tn)=true:=decide_eq_true ej
     have ejt:(jR tn vv=tn)=True:=eq_true ej
     have hw2:Sys.wpass (FS c) ((es.drop (p+1)).map fun e=>(e,vv)) T' l'=Sys.wpass (FS c) (es.map fun e=>(e,vv)) T v:=by
      rw [<- HP.out.2.2.2.2,hdrop,List.map_cons,Sys.wpass,if_pos (by show jR ((FS c).at' T' en) vv=(FS c).at' T' en;rw [hat];exact ej)]
     have HW2:=aM hw2
     clear hw2 ej hdrop hat
     rw [ejb,Bool.not_true]
     clear ejb ejt
     go_wp2
     go_roundg (es.length - (p+1))
     case measure=>have:=HP.out.2.1;omega
     exact⟨_,p+1,T',l',rfl,⟨by have:=HP.out.1;(first|omega|(rw [wrap_id (by omega) (by omega)];omega)),by omega,HP.out.2.2.1,HP.out.2.2.2.1,HW2.out⟩,BG,B7,HW,HE,HB⟩
    have ejb:decide (jR tn vv=tn)=false:=decide_eq_false ej
    have ejt:(jR tn vv=tn)=False:=eq_false ej
    have hen:en < (FS c).n:=hec
    have neq:(FS c).jn ((FS c).at' T' en) vv≠(FS c).at' T' en:=by
     show ¬ jR ((FS c).at' T' en) vv=(FS c).at' T' en
     rw [hat]
     exact ej
    have eput:Sys.put (FS c) T' (en,vv)=T'.set en (jR tn vv):=by
     show T'.set en (jR ((FS c).at' T' en) vv)=_
     rw [hat]
    have st2:=Sys.put_st (FS_laws h) HP.out.2.2.1 (p:=(en,vv)) hen okv
    have cp2:=Sys.put_cap (FS_laws h) HP.out.2.2.1 (p:=(en,vv)) hen okv neq
    have hw2:Sys.wpass (FS c) ((es.drop (p+1)).map fun e=>(e,vv)) (Sys.put (FS c) T' (en,vv)) (l' ++ [en])=Sys.wpass (FS c) (es.map fun e=>(e,vv)) T v:=by
     rw [<- HP.out.2.2.2.2,hdrop,List.map_cons,Sys.wpass,if_neg neq]
    rw [eput] at st2 cp2 hw2
    have HQ:=aM (And.intro st2 (And.intro cp2 hw2))
    have hm24:ni.toNat*24+24<=(flat T').length:=by
     rw [flat_len (st_all HP.out.2.2.1),HN.out.2,Int.toNat_natCast]
     omega
    have hov:over (flat T') (ni.toNat*24) (fl (jR tn vv))=flat (T'.set en (jR tn vv)):=by
     rw [HN.out.2,Int.toNat_natCast]
     exact flat_over (st_all HP.out.2.2.1) (by omega) j12
    have hl9:l'.length<=20000:=by have:=HP.out.2.2.2.1;omega
    have eni:ints l' ++ [ni]=ints (l' ++ [en]):=by rw [HN.out.2,ints_snoc]
    rw [ejb,Bool.not_false]
    clear ejb ejt ej hen neq eput st2 cp2 hw2 hdrop hat
    go_wp2_with (first|((with_reducible refine load12 (N:=88) rfl rfl rfl rfl j24 (range_all B10.out) ?_))|((with_reducible refine store12 (p:=89) (v:=88) rfl rfl rfl rfl j24 BG.out hm24 ?_);intro w24 hw hbg;rw [hov] at hbg;have n3:=aM (far_ hw (Ne.symm N7.out) B7.out);have n4:=aM (R_set_ hw (fun _ hk=>hk.1) HW.out);have n5:=aM (Kd.R_mono (R_set_ hw (fun _ hk=>hk.2) (Kd.R_types HE.out BG.out (by decide))) (fun _ hk=>hk.1));replace HB:=aM (below_ hw GG.out HB.out);clear BG B7 HW HE hw;have BG:=aM hbg;have B7:=n3;have HW:=n4;have HE:=n5;clear n3 n4 n5 hbg)|((with_reducible refine gate_builtin (b:=.append) (xs:=#[.tmp 90,.tmp 92]) rfl ?_);at_builtin;refine Kd.R_append (Kd.int .i64) (w0:=w) w.heap.size rfl (.tmp 90) (.tmp 92) 31 3 (.int .i64 0) 8 rfl Try.underlying31 info3 rfl (by decide) (by omega) (.slice Ao2 (ints l').length co2) (ints l') ni [.int .i64 ni] (fun k_=>k_≠g/\some k_≠(.slice (some ad2) (ints es).length ce:Value).ownBlock) (fun _=>False) rfl rfl ?aP (fun _ hk=>hk.elim) ?aF ?aO ?aB ?aS ?aL ?_;(case aP=>exact rfl);(case aB=>exact HB.out);(case aF=>exact (fun k_ hk=>⟨fun z=>absurd (blk_lt BG.out) (by omega),Kd.fresh' (Kd.R_lt HE.out) k_ hk⟩));(case aO=>exact HW.out);(case aS=>exact HB.out.size);(case aL=>rw [ints_len];omega);intro v93 w25 ho hb hg hat;have n2:=aM (blk_grown BG.out hg (Kd.R_away HW.out (fun _ hk=>hk.1)));have n3:=aM (blk_grown B7.out hg (Kd.R_away (Kd.R_types HW.out B7.out (by decide)) (fun _ hk=>hk.2)));have n5:=aM (Kd.R_after (ok:=fun _=>True) HE.out hg hat);rw [eni] at ho;have n4:=aM ho;replace HB:=aM hb;clear BG B7 HW HE ho hb hg hat;have BG:=n2;have B7:=n3;have HW:=n4;have HE:=n5;clear n2 n3 n4 n5))
    go_roundg (es.length - (p+1))
    case measure=>have:=HP.out.2.1;omega
    exact⟨_,p+1,T'.set en (jR tn vv),l' ++ [en],rfl,⟨by have:=HP.out.1;(first|omega|(rw [wrap_id (by omega) (by omega)];omega)),by omega,HQ.out.1,by have:=HQ.out.2.1;have:=HP.out.2.2.2.1;rw [List.length_append,List.length_singleton];omega,HQ.out.2.2⟩,BG,B7,HW,HE,HB⟩
   have r12:r < 12:=by have:=HR.out.2;omega
   have hri:ri=(r:Int):=HR.out.1
   have r0:0<=ri:=by omega
   have r1:ri < 12:=by omega
   have rt:ri.toNat=r:=by rw [hri];rfl
   have hlP:(jP r tn vv).length=12:=mk12_len _
   have f0:=fact0 B10.out hlP (i:=ri) (by omega)
   have f1:=fact1 B10.out hlP (i:=ri) (by omega)
   have f2:=fact0 B7.out okv.1 (i:=ri) (by omega)
   have f3:=fact1 B7.out okv.1 (i:=ri) (by omega)
   have ft:fa (jP r tn vv) ri.toNat=fa tn r:=by rw [rt,fa_jP _ _ _ r12,if_neg (Nat.lt_irrefl r)]
   have fv:fa vv ri.toNat=fa vv r:=by rw [rt]
   rw [ft] at f0 f1
   rw [fv] at f2 f3
   have hm2:ri.toNat*2+2<=(fl (jP r tn vv)).length:=by rw [fl_len,hlP];omega
   have hov:over (fl (jP r tn vv)) (ri.toNat*2) [(jF (fa tn r) (fa vv r)).f0,(jF (fa tn r) (fa vv r)).f1]=fl (jP (r+1) tn vv):=by
    rw [rt,Nat.mul_comm,over_fl _ _ _ _ (by rw [hlP];exact r12),<- jP_set r r12 tn vv]
   have r0t:=eq_true r0
   have r1t:=eq_true r1
   have r0b:=decide_eq_true r0
   have r1b:=decide_eq_true r1
   clear r0 r1 rt ft fv hri hlP
   go_wp2_with fail
   have go3:=fun W=>IFact_join.go (fa tn r) (fa vv r) W
   refine start_ (n:=10) (S:=fun w'=>Below wr.heap.size wr w') (ds:=[9]) (jb 10 0) (by kernel_rfl) rfl rfl (below_drew1 (Below.refl _ _)) (fun hHeld=>?_)
   generalize wr.drew=wd3 at hHeld ⊢
   refine jq 0 70 (jb 10 1) ?_
   refine jq 1 71 (jb 10 3) ?_
   refine jq 2 72 (jb 10 7) ?_
   refine jq 4 74 (jb 10 23) ?_
   refine jq 5 75 (jb 10 55) ?_
   refine take_ (i:=3) (N:=some 73) (v:=?_) (a':=?_) (jb 10 63) rfl rfl (by kernel_rfl) (fun _ _ _ h=>h) (Or.inl ⟨by rfl,?_⟩) hHeld ?_ ?_
   rotate_left
   ·intro w' hs
    have z0:=(hs.cell (World.block_lt_of_cell? wr _ f0)).trans f0
    have z1:=(hs.cell (World.block_lt_of_cell? wr _ f1)).trans f1
    go_simp
    with_reducible rfl
   rotate_left
   ·exact qP
   refine take_ (i:=6) (N:=some 76) (v:=?_) (a':=?_) (jb 10 127) rfl rfl (by kernel_rfl) (fun _ _ _ h=>h) (Or.inl ⟨by rfl,?_⟩) hHeld ?_ ?_
   rotate_left
   ·intro w' hs
    have z0:=(hs.cell (World.block_lt_of_cell? wr _ f2)).trans f2
    have z1:=(hs.cell (World.block_lt_of_cell? wr _ f3)).trans f3
    go_simp
    with_reducible rfl
   rotate_left
   ·exact qP
   refine one_ (i:=7) (N:=some 77) (jb 10 255) rfl rfl (by kernel_rfl) (by decide) (fun K hK=>?_)
   refine goes_ Try.func95 (by kernel_rfl) rfl #[.agg #[.int .i64 (fa tn r).f0,.int .i64 (fa tn r).f1],.agg #[.int .i64 (fa vv r).f0,.int .i64 (fa vv r).f1]] (by rfl) rfl rfl qM ?_
   (with_reducible refine (go3 _).mono ?_)
   rintro e w22 ⟨rfl,hb⟩
   refine⟨_,rfl,?_⟩
   refine hK.out _ _ (below_step hHeld hb) (fun hHeld=>?_)
   clear hK K hb
   refine norm_ (a':=?_) ?_ ?_
   rotate_left
   ·show Act.put _ (some 77) _=_
    simp only [Act.put,List.setIfInBounds_toArray,List.set_cons_zero,List.set_cons_succ,i64_w,i32_w]
    rfl
   refine jq 8 78 (jb 10 511) ?_
   refine last_ (i:=9) (N:=none) (jb 10 1023) rfl rfl (by kernel_rfl) (by decide) (fun K hK=>?_)
   have B10w:=blk_below B10.out hHeld
   refine skip_ (w1:=w22.setCells g10 (ri.toNat*2) (encs (Value.int .i64) [(jF (fa tn r) (fa vv r)).f0,(jF (fa tn r) (fa vv r)).f1])) (by rfl) rfl ?_ ?_
   ·exact run_store2 (x:=.tmp 78) (y:=.tmp 77) (g:=g10) (o:=ri.toNat*2) rfl rfl rfl B10w hm2
   refine hK.out _ _ ?_
   clear hK K
   refine done_ (by kernel_rfl) ?_
   have hw:w22.setCells g10 (ri.toNat*2) (encs (Value.int .i64) [(jF (fa tn r) (fa vv r)).f0,(jF (fa tn r) (fa vv r)).f1])=w22.setCells g10 (ri.toNat*2) (encs (Value.int .i64) [(jF (fa tn r) (fa vv r)).f0,(jF (fa tn r) (fa vv r)).f1]):=rfl
   have m10:Aside0 ((w22.setCells g10 (ri.toNat*2) (encs (Value.int .i64) [(jF (fa tn r) (fa vv r)).f0,(jF (fa tn r) (fa vv r)).f1])).heap[g10]?=some (.cells (ics (fl (jP (r+1) tn vv))) T12 (0,0))):=⟨by rw [<- hov];exact setCells_ints [_,_] _ _ _ B10w hm2⟩
   have mG:=aM (far_ hw N10.out (blk_below BG.out hHeld))
   have m7:=aM (far_ hw M10.out (blk_below B7.out hHeld))
   have mW:=aM (Kd.R_mono (R_set_ hw (fun _ hk=>hk.2) (Kd.R_types (Kd.R_below HW.out hHeld) B10w (by decide))) (fun _ hk=>hk.1))
   have mE:=aM (Kd.R_mono (R_set_ hw (fun _ hk=>hk.2) (Kd.R_types (Kd.R_below HE.out hHeld) B10w (by decide))) (fun _ hk=>hk.1))
   have mB:=aM (below_ hw G10.out (below_step HB.out hHeld))
   generalize w22.setCells g10 (ri.toNat*2) (encs (Value.int .i64) [(jF (fa tn r) (fa vv r)).f0,(jF (fa tn r) (fa vv r)).f1])=w23 at m10 mG m7 mW mE mB ⊢
   clear hw B10 BG B7 HW HE HB hHeld B10w f0 f1 f2 f3 go3
   go_wp2
   go_roundg k1
   case measure=>omega
   exact⟨_,r+1,rfl,⟨by have:=HR.out.1;(first|omega|(rw [wrap_id (by omega) (by omega)];omega)|(rw [i64_w,wrap_id (by omega) (by omega)];omega)),by have:=HR.out.2;omega⟩,m10,mG,m7,mW,mE,mB⟩
  have pb:decide (pj < ((ints es).length:Int))=false:=decide_eq_false (by rw [ints_len];omega)
  have HF:Aside0 (Sys.wpass (FS c) (es.map fun e=>(e,vv)) T v=(T',l')):=⟨by rw [<- hfin,List.drop_eq_nil_of_le (by omega)];rfl⟩
  have hcF:=aM hc'
  clear hfin hpj hpk hc'
  go_wp2_with fail
  go_roundg ((FS c).cap T' + l'.length)
  case measure =>
   have k:=(Sys.wk_step (FS_laws h) HK.out.1).2.2.2
   have k2:=HK.out.2.1
   rw [FIN.out,HF.out] at k
   simp only at k
   omega
  case rel =>
   have k:=(Sys.wk_step (FS_laws h) HK.out.1).2.2.1
   rw [FIN.out,HF.out] at k
   exact⟨T',l',⟨k,Nat.le_refl _,hcF.out⟩,BG,⟨Kd.R_mono HW.out (fun _ hk=>hk.1)⟩,HB⟩
 have hp:p < 12:=by have:=HP.out;omega
 have pb:decide ((p:Int) < 12)=true:=decide_eq_true (by omega)
 have pb':decide (p < 12)=true:=decide_eq_true hp
 have hm:p*2+2<=(flat (tab0 c.length p)).length:=by
  rw [flat_len (tab0_all (by omega))]
  have:(tab0 c.length p).length=c.length:=by simp [tab0]
  omega
 have pp:=tab0_put (p:=p) h6.1 hp
 go_wp2_with (first|((with_reducible refine store2 (p:=22) (v:=20) rfl rfl rfl rfl BG.out hm ?_);intro w3 hw hb3;have n1:=aM (below_ hw GG.out HB.out);rw [pp] at hb3;clear BG HB hw;have BG:=aM hb3;have HB:=n1;clear n1 hb3))
 go_roundg k1
 case measure=>omega
 exact⟨p+1,by rw [show ((p:Int)+1)=((p+1:Nat):Int) from by omega],⟨by have:=HP.out;omega⟩,BG,HB⟩
attribute [local go_sem high] eqAC
theorem R_put {α:Type} {d:Kd α} {e base g o:Nat} {ok:Nat->Prop} {v u:Value} {xs:List α} {w w':World} (hw:w'=w.setCell ⟨g,o,none⟩ u) (hg:∀ k,ok k->k≠g) (h:d.R e w base ok v xs):d.R e w' base ok v xs:=by
 rw [hw]
 exact Kd.R_far (p:=⟨g,o,none⟩) h hg u
theorem farP {g g':Nat} {w w':World} {o:Nat} {u:Value} (hw:w'=w.setCell ⟨g,o,none⟩ u) (hne:g'≠g) {cs:Array Value} {t:TypeId} (h:w.heap[g']?=some (.cells cs t (0,0))):w'.heap[g']?=some (.cells cs t (0,0)):=by
 rw [hw]
 exact blk_far h (p:=⟨g,o,none⟩) hne u
theorem belowP {g:Nat} {w0 w w':World} {o:Nat} {u:Value} (hw:w'=w.setCell ⟨g,o,none⟩ u) (hg:w0.heap.size<=g) (h:Below w0.heap.size w0 w):Below w0.heap.size w0 w':=by
 rw [hw]
 exact below_set h hg
theorem run_storeC {op:Oper} {x y:Operand} {ev:Operand->Value} {w:World} (ho:op.op = .store TC x y) {g o t:Nat} (hx:ev x = .pointer (some ⟨g,o,none⟩)) {l m:List Int} (hy:ev y = .agg (ics l)) (hl:l.length=12) (hb:w.heap[g]?=some (.cells (ics m) t (0,0))) (hm:o+12<=m.length):(execOp ev op).run Try.prog w = .ok .skip (w.setCells g o (encs (Value.int .i64) l)):=by
 have h1:=run_storeVar_mid (P:=Try.prog) w g o TC (ics l) (by rw [ics_size];exact there_ints hb (by omega)) (sizeC hl) (ics_one l)
 unfold execOp
 simp only [ho,hx,hy,Instr.storeAt,Instr.sureAddr,Sem.run_bind,Sem.run_pure,Result.andThen_ok,h1]
theorem meetC {x v:List Int} (hx:x≠[]) (hv:v≠[]):jC x v=mP 12 x v:=by
 unfold jC
 rw [if_neg hx,if_neg hv]
 refine ca_ext (mk12_len _) (mk12_len _) fun r hr=>?_
 rw [ca_mP _ _ _ hr,if_pos hr,ca_mk _ hr]
theorem IcopiesBefore_calls_s0 {G:Prop} (h:G:=by
  go_wp2_with (first|((with_reducible refine storeB (p:=91) rfl rfl rfl rfl rfl BK.out hkl ?_);intro w23 hw hbk;rw [HKN.out] at hbk;have nB8:=aM (farP hw (Ne.symm NK8.out) B8.out);have n11:=aM (farP hw (Ne.symm K11.out) B11.out);have nHW:=aM (Kd.R_mono (R_put hw (fun _ hk=>hk.2) (Kd.R_types HW.out BK.out (by decide))) (fun _ hk=>hk.1));have nHE:=aM (Kd.R_mono (R_put hw (fun _ hk=>hk.2) (Kd.R_types HE.out BK.out (by decide))) (fun _ hk=>hk.1));replace BG:=aM (farP hw NK.out BG.out);replace HB:=aM (belowP hw GK.out HB.out);clear BK B8 B11 HW HE hw;have BK:=aM hbk;have B8:=nB8;have B11:=n11;have HW:=nHW;have HE:=nHE;clear nB8 n11 nHW nHE hbk)|((with_reducible refine loadC (N:=94) rfl rfl rfl rfl j12 (range_all B11.out) ?_))|((with_reducible refine storeC (p:=95) (v:=94) rfl rfl rfl rfl j12 BG.out hmG ?_);intro w24 hw hbg;rw [HOV.out] at hbg;replace BK:=aM (far_ hw (Ne.symm NK.out) BK.out);replace B8:=aM (far_ hw (Ne.symm N8.out) B8.out);replace HW:=aM (R_set_ hw (fun _ hk=>hk.1) HW.out);replace HE:=aM (Kd.R_mono (R_set_ hw (fun _ hk=>hk.2) (Kd.R_types HE.out BG.out (by decide))) (fun _ hk=>hk.1));replace HB:=aM (below_ hw GG.out HB.out);clear BG hw;have BG:=aM hbg;clear hbg)|((with_reducible refine gate_builtin (b:=.append) (xs:=#[.tmp 96,.tmp 98]) rfl ?_);at_builtin;refine Kd.R_append (Kd.int .i64) (w0:=w) w.heap.size rfl (.tmp 96) (.tmp 98) 31 3 (.int .i64 0) 8 rfl Try.underlying31 info3 rfl (by decide) (by omega) (.slice Ao2 (ints l').length co2) (ints l') ni [.int .i64 ni] (fun k_=>k_≠g/\some k_≠(.slice (some ad2) (ints es).length ce:Value).ownBlock) (fun _=>False) rfl rfl ?aP (fun _ hk=>hk.elim) ?aF ?aO ?aB ?aS ?aL ?_;(case aP=>exact rfl);(case aB=>exact HB.out);(case aF=>exact (fun k_ hk=>⟨fun z=>absurd (blk_lt BG.out) (by omega),Kd.fresh' (Kd.R_lt HE.out) k_ hk⟩));(case aO=>exact HW.out);(case aS=>exact HB.out.size);(case aL=>rw [ints_len];omega);intro v99 w25 ho hb hg hat;have n2:=aM (blk_grown BG.out hg (Kd.R_away HW.out (fun _ hk=>hk.1)));have n3:=aM (blk_grown B8.out hg (Kd.R_away (Kd.R_types HW.out B8.out (by decide)) (fun _ hk=>hk.2)));have n6:=aM (blk_grown BK.out hg (Kd.R_away (Kd.R_types HW.out BK.out (by decide)) (fun _ hk=>hk.2)));have n5:=aM (Kd.R_after (ok:=fun _=>True) HE.out hg hat);rw [ENI.out] at ho;have n4:=aM ho;replace HB:=aM hb;clear BG BK B8 HW HE ho hb hg hat;have BG:=n2;have BK:=n6;have B8:=n3;have HW:=n4;have HE:=n5;clear n2 n3 n4 n5 n6))
  go_roundg (es.length - (p+1))
  case measure=>have:=HP.out.2.1;omega
  exact⟨_,p+1,T'.set en jv,l' ++ [en],rfl,⟨by have:=HP.out.1;(first|omega|(rw [wrap_id (by omega) (by omega)];omega)),by omega,HQ.out.1,by have:=HQ.out.2.1;have:=HP.out.2.2.2.1;rw [List.length_append,List.length_singleton];omega,HQ.out.2.2⟩,BG,BK,B8,HW,HE,HB⟩):G:=h
theorem IcopiesBefore.calls {c:List SQ} (h:CV (qs c)) (A0:Option Addr) (c0:Nat) (w:World) (hr0:Kd.C k46 w A0 c.length c) (hc0:c.length<=c0) :
  Calls Try.prog 70 #[.slice A0 c.length c0] w fun e w'=>∃ g U,(CS c).Lfp U/\e = .returned (.slice (some ⟨g,0,none⟩) c.length c.length)/\w.heap.size<=g/\w'.heap[g]?=some (.cells (ics (tabC U)) TC (0,0))/\Below w.heap.size w w':=by
 have HR0:=aM hr0
 have HC0:=aM hc0
 clear hr0 hc0
 have h6:=cv600 h
 have h6':c.length<=600:=h6.2
 have c1b:decide (0 < (c.length:Int))=true:=decide_eq_true (by omega)
 have c1b':decide (0 < c.length)=true:=decide_eq_true (by omega)
 have c1t:(0 < c.length)=True:=eq_true (by omega)
 have HB:=aM (Below.refl w.heap.size w)
 go_enter Try.func70,Try.ntmps70
 go_wp2_with (first|((with_reducible refine jd 14 rfl ?_);refine make_copies rfl (N:=14) rfl rfl h6' rfl rfl ?_;intro g hg w1 hbox hb;have BG:=aM (show w1.heap[g]?=some (.cells (ics (fillC c.length 0)) TC (0,0)) by rw [fill_zero];exact hbox);have GG:=aM (show w.heap.size<=g by rw [hg];exact Nat.le_refl _);replace HB:=kH hb;clear hg hbox hb)|((with_reducible refine jd 17 rfl ?_);refine make_bools rfl (N:=17) rfl rfl h6' rfl rfl ?_;intro gK hg w2 hbox hb;have NK:=aM (show g≠gK by rw [hg];exact Nat.ne_of_lt (blk_lt BG.out));have BK:=aM hbox;have GK:=kG hg;replace BG:=kB BG hb;replace HB:=kH hb;clear hg hbox hb))
 go_loopg [20] c.length (fun kq v20 w'=>∃ (pi:Int) (p:Nat),v20 = .int .i64 pi/\Aside0 (pi=(p:Int)/\p+kq=c.length)/\Aside0 (w'.heap[g]?=some (.cells (ics (fillC c.length p)) TC (0,0)))/\Aside0 (w'.heap[gK]?=some (.cells (bcs (List.replicate c.length false)) 4 (0,0)))/\Aside0 (Below w.heap.size w w'))
 case atStart=>exact⟨0,0,rfl,⟨rfl,Nat.zero_add _⟩,BG,BK,HB⟩
 clear BG BK HB
 obtain⟨pi,p,rfl,HP,BG,BK,HB⟩:=hrel
 rcases gk with _|k1
 ·have ep:p=c.length:=by have:=HP.out.2;omega
  subst ep
  have hpi:pi=(c.length:Int):=HP.out.1
  subst hpi
  rw [fill_T0] at BG
  have hmk:0 < (List.replicate c.length false).length:=by rw [List.length_replicate];omega
  have kn0:(List.replicate c.length false).set 0 true=knC (Sys.T0 (CS c)):=kn_T0
  have KN0:=aM kn0
  clear kn0 HP
  go_wp2_with (first|((with_reducible refine storeB (p:=29) rfl rfl rfl rfl rfl BK.out hmk ?_);intro w3 hw hb3;rw [KN0.out] at hb3;replace BG:=aM (farP hw NK.out BG.out);replace HB:=aM (belowP hw GK.out HB.out);clear BK hw;have BK:=aM hb3;clear hb3)|((with_reducible refine jd 30 rfl ?_);refine Kd.R_lit (Kd.int .i64) _ 3 ?hg (N:=30) ?hd (xs:=([0]:List Int)) (inner:=[.int .i64 0]) (ok:=fun _=>True) (okp:=fun _=>True) ?hr ?hp (fun _ hk=>hk) trivial (Below.refl _ _) (Nat.le_refl _) (by simp) ?_;(case hd=>rfl);(case hg=>rfl);(case hr=>first|(go_simp;done)|(go_simp;rfl));(case hp=>exact (Reps.one (show Kd.M (Kd.int .i64) _ _ _ 0 [.int .i64 0] from rfl) (Reps.none _ _)));intro v9 w9 ho hb hg_ hnew_;have n2:=kB BG hb;have n3:=kB BK hb;have HW:=aM (Kd.R_mono (ok':=fun k=>k≠g) (Kd.R_types (Kd.R_lower ho HB.out.size) n2.out (by decide)) (fun _ hk=>hk.2));replace HB:=kH hb;clear BG BK;have BG:=n2;have BK:=n3;clear n2 n3 ho hb hg_ hnew_))
  have cap0:(CS c).cap (Sys.T0 (CS c))+1<=20000:=by
   have:=Sys.cap_le (S:=CS c) (Sys.T0 (CS c))
   rw [(Sys.T0_st (CS_laws h)).1,show (CS c).n*(CS c).top=c.length*13 from rfl] at this
   omega
  go_loopg [6] ((CS c).cap (Sys.T0 (CS c))+1) (fun kq v6 w'=>∃ (T:List (List Int)) (l:List Nat),Aside0 ((CS c).Wk T l/\(CS c).cap T+l.length<=kq/\kq<=20000)/\Aside0 (w'.heap[g]?=some (.cells (ics (tabC T)) TC (0,0)))/\Aside0 (w'.heap[gK]?=some (.cells (bcs (knC T)) 4 (0,0)))/\Aside0 (Kd.R (Kd.int .i64) 3 w' w.heap.size (fun k=>k≠g) v6 (ints l))/\Aside0 (Below w.heap.size w w'))
  case atStart=>exact⟨_,[0],⟨Sys.wk0 (CS_laws h),Nat.le_refl _,cap0⟩,BG,BK,HW,HB⟩
  clear BG BK HW HB
  obtain⟨T,l,HK,BG,BK,HW,HB⟩:=hrel
  obtain⟨Ao,co,rfl⟩:=Kd.R_slice HW.out
  by_cases el:l=[]
  ·subst el
   have z:decide (0 < (ints []).length)=false:=rfl
   go_wp2
   go_ret
   exact⟨g,T,Sys.wk_end HK.out.1,rfl,GG.out,BG.out,HB.out⟩
  obtain⟨v,a,rfl⟩:=last_of el
  obtain⟨ha,hb_,hk,hcap⟩:=Sys.wk_step (CS_laws h) HK.out.1
  have ha6:a < c.length:=ha
  have hT:=HK.out.1.1.1
  have hTl:T.length=c.length:=hT.1
  obtain⟨x,hx⟩:∃ x,x=(CS c).at' T a:=⟨_,rfl⟩
  have okx:okC x:=by rw [hx];exact hT.2 a ha
  have gx:x≠[]:=by rw [hx];exact hb_
  have x12:=(okC_len okx gx).1
  have fx:fin1 ((CS c).at' T a)=x:=by rw [<- hx];exact if_neg gx
  have LL:(ints (v ++ [a])).length=v.length+1:=by rw [ints_len];simp
  obtain⟨y,hy⟩:∃ y:List Int,y=ints (v ++ [a]):=⟨_,rfl⟩
  rw [<- hy] at HW LL ⊢
  obtain⟨ji,hji⟩:∃ j:Int,j=(v.length:Int):=⟨_,rfl⟩
  obtain⟨ai,hai⟩:∃ j:Int,j=(a:Int):=⟨_,rfl⟩
  have hrd:rd y ji=ai:=by
   rw [hji,hai,hy,rd_ints]
   simp [List.getD_eq_getElem?_getD]
  have htk:y.take ji.toNat=ints v:=by rw [hji,hy,Int.toNat_natCast,ints_snoc,<- ints_len v,List.take_left]
  have vb:v.length<=100000:=by
   have:=HK.out.2
   rw [List.length_append] at this
   omega
  have hjw:IntKind.i64.wrap ((y.length:Int) - 1)=ji:=by rw [LL,hji,i64_w,wrap_id (by omega) (by omega)];omega
  have yb:decide (0 < (y.length:Int))=true:=decide_eq_true (by omega)
  have yb':decide (0 < y.length)=true:=decide_eq_true (by omega)
  have j0:0<=ji:=by omega
  have j1:ji < (y.length:Int):=by omega
  have j2:ji<=(y.length:Int):=by omega
  obtain⟨ad,e,hx0⟩:=Kd.at_int (Kd.R_reads' HW.out).2.2 ji j0 j1
  cases e
  rw [hrd] at hx0
  obtain⟨i0,hi0,_,hsz,_⟩:=info_parts info3
  have hcut:=cut_to (P:=Try.prog) 31 3 .i64 Try.underlying31 hi0 (some ad) y.length co ji j0 j2 (Kd.R_reads' HW.out).2.1
  have hr:=Kd.R_take (m:=ji.toNat) HW.out (by omega)
  rw [htk] at hr
  have hvl:(ints v).length=ji.toNat:=by rw [ints_len,hji];rfl
  rw [<- hvl] at hr hcut
  clear HW hi0 hsz
  have HW:=aM hr
  clear hr
  have a0:0<=ai:=by omega
  have a1:ai < (c.length:Int):=by omega
  obtain⟨aq,e2,x0,x1,x2,x3,x4⟩:=at_T46 HR0.out ai a0 a1
  cases e2
  replace x0:=kx HB x0
  replace x1:=kx HB x1
  replace x2:=kx HB x2
  replace x3:=kx HB x3
  replace x4:=kx HB x4
  have j0t:=eq_true j0
  have j1t:=eq_true j1
  have j2t:=eq_true j2
  have j0b:=decide_eq_true j0
  have j1b:=decide_eq_true j1
  have j2b:=decide_eq_true j2
  have a0t:=eq_true a0
  have a1t:=eq_true a1
  have a0b:=decide_eq_true a0
  have a1b:=decide_eq_true a1
  have HAI:=aM hai
  have HX:=aM hx
  clear hai
  clear j0 j1 j2 a0 a1 LL hy hx hji hrd htk hvl el hk hcap
  go_wp2
  have hq:=cv_at h ha6
  have rq:rd_T46 c ai=qa c a:=by rw [HAI.out];exact rd_qa c a
  rw [rq] at x0 x1 x2 x3 x4
  have go1:=fun W=>Icopies_behind.calls x12 hq W
  have hbt:∀ w',Below wr.heap.size wr w'->w'.rangeAt g (ai.toNat*12) (encs (Value.int .i64) x):=fun w' hw'=>by
   have:=tabC_range ((hw'.block g (blk_lt BG.out)).trans BG.out) hT ha6
   rw [fx] at this
   rw [HAI.out,Int.toNat_natCast]
   exact this
  have hx0':∀ w',Below wr.heap.size wr w'->w'.cell? (aq.add (ai.toNat*5))=some (.int .i64 (qa c a).f0):=fun w' hw'=>(hw'.cell (World.block_lt_of_cell? wr _ x0)).trans x0
  have hx1':∀ w',Below wr.heap.size wr w'->w'.cell? ⟨(aq.add (ai.toNat*5)).block,(aq.add (ai.toNat*5)).off+1,none⟩=some (.int .i64 (qa c a).f1):=fun w' hw'=>(hw'.cell (World.block_lt_of_cell? wr _ x1)).trans x1
  have hx2':∀ w',Below wr.heap.size wr w'->w'.cell? ⟨(aq.add (ai.toNat*5)).block,(aq.add (ai.toNat*5)).off+2,none⟩=some (.int .i64 (qa c a).f2):=fun w' hw'=>(hw'.cell (World.block_lt_of_cell? wr _ x2)).trans x2
  have hx3':∀ w',Below wr.heap.size wr w'->w'.cell? ⟨(aq.add (ai.toNat*5)).block,(aq.add (ai.toNat*5)).off+3,none⟩=some (.int .i64 (qa c a).f3):=fun w' hw'=>(hw'.cell (World.block_lt_of_cell? wr _ x3)).trans x3
  have hx4':∀ w',Below wr.heap.size wr w'->w'.cell? ⟨(aq.add (ai.toNat*5)).block,(aq.add (ai.toNat*5)).off+4,none⟩=some (.int .i64 (qa c a).f4):=fun w' hw'=>(hw'.cell (World.block_lt_of_cell? wr _ x4)).trans x4
  clear x0 x1 x2 x3 x4 hx0 hcut
  obtain⟨vv,hvv⟩:∃ vv,vv=aftC (q_ (qa c a)) x:=⟨_,rfl⟩
  have okv:okC vv:=by rw [hvv];exact (aftC_ok hq okx gx).1
  have gv:vv≠[]:=by rw [hvv];exact (aftC_ok hq okx gx).2
  have v12:=(okC_len okv gv).1
  rw [<- hvv] at go1
  have HVV:=aM hvv
  clear hvv
  have go2:=fun W=>InextOf.go h ha6 W
  rw [<- HAI.out] at go2
  obtain⟨es,hes⟩:∃ es,es=nx (q_ (qa c a)) a:=⟨_,rfl⟩
  rw [<- hes] at go2
  have HES:=aM hes
  clear hes
  refine start_ (n:=11) (S:=fun w'=>Below wr.heap.size wr w') (ds:=[]) (jb 11 0) (by kernel_rfl) rfl rfl (below_drew1 (Below.refl _ _)) (fun hHeld=>?_)
  generalize wr.drew=wd at hHeld ⊢
  refine jq 0 45 (jb 11 1) ?_
  refine jq 1 46 (jb 11 3) ?_
  refine jq 2 47 (jb 11 7) ?_
  refine jq 4 49 (jb 11 23) ?_
  refine jq 5 50 (jb 11 55) ?_
  refine jq 6 51 (jb 11 119) ?_
  refine take_ (i:=3) (N:=some 48) (a':=?_) (jb 11 127) rfl rfl (by kernel_rfl) (fun _ _ _ h=>h) (yieldsIf_load_mid (by rfl) TC (.tmp 47) rfl g (ai.toNat*12) rfl _ _ hbt Try.underlying81 rfl (sizeC' x12)) hHeld ?_ ?_
  rotate_left
  ·exact qP
  refine take_ (i:=7) (N:=some 52) (v:=?_) (a':=?_) (jb 11 255) rfl rfl (by kernel_rfl) (fun _ _ _ h=>h) (Or.inl ⟨by rfl,?_⟩) hHeld ?_ ?_
  rotate_left
  ·intro w' hs
   have y0:=hx0' w' hs
   have y1:=hx1' w' hs
   have y2:=hx2' w' hs
   have y3:=hx3' w' hs
   have y4:=hx4' w' hs
   go_simp
   with_reducible rfl
  rotate_left
  ·exact qP
  refine join_ (σ:=Nat) 1 (jb 11 1023) (fun s_=>[(53,.agg (ics vv)),(8,.pointer (some ⟨s_,0,none⟩))]) (fun s_ w'=>Below wr.heap.size wr w'/\wr.heap.size<=s_/\w'.heap[s_]?=some (.cells (ics z12) TC (0,0))) ?_ ?_
  rotate_left
  ·intro hCont
   refine two_ (i:=8) (j:=9) (Ni:=some 53) (Nj:=some 8) (jb 11 511) (jb 11 767) rfl rfl rfl rfl (by kernel_rfl) (by decide) (by decide) (fun K hK=>?_) (fun K hK=>?_)
   ·skip
    refine goes_ Try.func99 (by kernel_rfl) rfl #[.agg (ics x),.agg #[.int .i64 (qa c a).f0,.int .i64 (qa c a).f1,.int .i64 (qa c a).f2,.int .i64 (qa c a).f3,.int .i64 (qa c a).f4]] (by rfl) rfl rfl qM ?_
    (with_reducible refine (go1 _).mono ?_)
    rintro e w15 ⟨rfl,hb⟩
    refine⟨_,rfl,?_⟩
    refine hK.out _ _ (below_step hHeld hb) (fun hHeld=>?_)
    clear hK K
    refine norm_ (a':=?_) ?_ ?_
    rotate_left
    ·show Act.put _ (some 53) _=_
     simp only [Act.put,List.setIfInBounds_toArray,List.set_cons_zero,List.set_cons_succ,i64_w,i32_w]
     rfl
    refine one_ (i:=9) (N:=some 8) (jb 11 1023) rfl rfl (by kernel_rfl) (by decide) (fun K hK=>?_)
    refine box_step ?hg (N:=8) ?hd (cs:=ics z12) (t:=TC) ?hr ?_;(case hd=>rfl);(case hg=>rfl);(case hr=>first|(go_simp;done)|(go_simp;rfl))
    intro g8 hg8 w16 hbox hb
    refine hK.out _ _ (below_step hHeld hb) (fun hHeld2=>?_)
    clear hK K
    refine norm_ (a':=?_) ?_ ?_
    rotate_left
    ·show Act.put _ (some 8) _=_
     simp only [Act.put,List.setIfInBounds_toArray,List.set_cons_zero,List.set_cons_succ,i64_w,i32_w]
     rfl
    exact norm_ (by simp only [putAll,Act.put,List.setIfInBounds_toArray,List.set_cons_zero,List.set_cons_succ]) (hCont g8 _ ⟨hHeld2,(by rw [hg8];exact hHeld.size),hbox⟩)
   skip
   refine box_step ?hg (N:=8) ?hd (cs:=ics z12) (t:=TC) ?hr ?_;(case hd=>rfl);(case hg=>rfl);(case hr=>first|(go_simp;done)|(go_simp;rfl))
   intro g8 hg8 w16 hbox hb
   refine hK.out _ _ (below_step hHeld hb) (fun hHeld2=>?_)
   clear hK K
   refine norm_ (a':=?_) ?_ ?_
   rotate_left
   ·show Act.put _ (some 8) _=_
    simp only [Act.put,List.setIfInBounds_toArray,List.set_cons_zero,List.set_cons_succ,i64_w,i32_w]
    rfl
   refine one_ (i:=8) (N:=some 53) (jb 11 1023) rfl rfl (by kernel_rfl) (by decide) (fun K hK=>?_)
   refine goes_ Try.func99 (by kernel_rfl) rfl #[.agg (ics x),.agg #[.int .i64 (qa c a).f0,.int .i64 (qa c a).f1,.int .i64 (qa c a).f2,.int .i64 (qa c a).f3,.int .i64 (qa c a).f4]] (by rfl) rfl rfl qM ?_
   (with_reducible refine (go1 _).mono ?_)
   rintro e w15 ⟨rfl,hb⟩
   refine⟨_,rfl,?_⟩
   refine hK.out _ _ (below_step hHeld2 hb) (fun hHeld3=>?_)
   clear hK K
   refine norm_ (a':=?_) ?_ ?_
   rotate_left
   ·show Act.put _ (some 53) _=_
    simp only [Act.put,List.setIfInBounds_toArray,List.set_cons_zero,List.set_cons_succ,i64_w,i32_w]
    rfl
   exact norm_ (by simp only [putAll,Act.put,List.setIfInBounds_toArray,List.set_cons_zero,List.set_cons_succ]) (hCont g8 _ ⟨hHeld3,(by rw [hg8];exact hHeld.size),blk_below hbox hb⟩)
  intro g8 w17 hF
  obtain⟨hHeld,G8,B8⟩:=hF
  refine norm_ (a':=?_) ?_ ?_
  rotate_left
  ·simp only [putAll,Act.put,List.setIfInBounds_toArray,List.set_cons_zero,List.set_cons_succ]
   rfl
  refine one_ (i:=10) (N:=none) (jb 11 2047) rfl rfl (by kernel_rfl) (by decide) (fun K hK=>?_)
  refine skip_ (w1:=w17.setCells g8 0 (encs (Value.int .i64) vv)) (by rfl) rfl ?_ ?_
  ·exact run_storeC (x:=.tmp 8) (y:=.tmp 53) (g:=g8) (o:=0) rfl rfl rfl v12 B8 (by decide)
  refine hK.out _ _ (setCells_below G8 _ _ _ hHeld) (fun hHeld=>?_)
  clear hK K
  refine done_ (by kernel_rfl) ?_
  have B8n:(w17.setCells g8 0 (encs (Value.int .i64) vv)).heap[g8]?=some (.cells (ics vv) TC (0,0)):=by
   have:=setCells_ints vv 0 z12 w17 B8 (by rw [v12];decide)
   rwa [over_all (by rw [v12];rfl)] at this
  generalize w17.setCells g8 0 (encs (Value.int .i64) vv)=w18 at hHeld B8n ⊢
  clear B8
  have y0:=hx0' _ hHeld
  have y1:=hx1' _ hHeld
  have y2:=hx2' _ hHeld
  have y3:=hx3' _ hHeld
  have y4:=hx4' _ hHeld
  go_wp2_with (first|(go_at_call 83;(with_reducible refine (go2 _).mono ?_);rintro e w19 ⟨v19,rfl,ho,hb⟩;obtain⟨Ae,ce,rfl⟩:=Kd.R_slice ho;have hHe2:=below_step hHeld hb;have hsz:=hHeld.size;have B8m:=blk_below B8n hb;clear y0 y1 y2 y3 y4 hHeld B8n hb))
  have HW1:=aM (Kd.R_elder' HW.out (fun k hk=>Nat.le_trans hsz (Kd.R_base ho k hk)) hHe2)
  have HE1:=aM (Kd.R_lower (Kd.R_new' ho (fun k hk=>Nat.lt_of_lt_of_le (Kd.R_lt HW.out k hk) hsz)) (Nat.le_trans HB.out.size hsz))
  have BG1:=aM (blk_below BG.out hHe2)
  have BK1:=aM (blk_below BK.out hHe2)
  have B81:=aM B8m
  have HB1:=aM (below_step HB.out hHe2)
  have G8':=aM (Nat.le_trans HB.out.size G8)
  have N8:Aside0 (g≠g8):=⟨Nat.ne_of_lt (Nat.lt_of_lt_of_le (blk_lt BG.out) G8)⟩
  have NK8:Aside0 (gK≠g8):=⟨Nat.ne_of_lt (Nat.lt_of_lt_of_le (blk_lt BK.out) G8)⟩
  clear HW HB BG BK hHe2 ho hsz G8 hbt hx0' hx1' hx2' hx3' hx4' go1 go2 hb_ B8m
  have fin:Sys.wpass (CS c) ((CS c).out a ((CS c).at' T a)) T v=Sys.wpass (CS c) (es.map fun e=>(e,vv)) T v:=by
   have g0:(CS c).at' T a≠[]:=by rw [<- HX.out];exact gx
   have e:(CS c).out a ((CS c).at' T a)=(nx (q_ (qa c a)) a).map fun e=>(e,aftC (q_ (qa c a)) ((CS c).at' T a)):=if_neg g0
   rw [e,<- HX.out,<- HES.out,<- HVV.out]
  have FIN:=aM fin
  clear fin
  have hel:∀ e∈es,e < c.length:=fun e he=>by
   rw [HES.out] at he
   exact nx_lt' h ha6 he
  have hes2:es.length<=2:=by rw [HES.out];exact nx_len _ _
  go_loopg [6,61] es.length (fun kq v6 v61 w'=>∃ (pj:Int) (p:Nat) (T':List (List Int)) (l':List Nat),v61 = .int .i64 pj/\Aside0 (pj=(p:Int)/\p+kq=es.length/\(CS c).St T'/\(CS c).cap T' + l'.length<=20000/\Sys.wpass (CS c) ((es.drop p).map fun e=>(e,vv)) T' l'=Sys.wpass (CS c) (es.map fun e=>(e,vv)) T v)/\Aside0 (w'.heap[g]?=some (.cells (ics (tabC T')) TC (0,0)))/\Aside0 (w'.heap[gK]?=some (.cells (bcs (knC T')) 4 (0,0)))/\Aside0 (w'.heap[g8]?=some (.cells (ics vv) TC (0,0)))/\Aside0 (Kd.R (Kd.int .i64) 3 w' w.heap.size (fun k=>k≠g/\some k≠(.slice Ae (ints es).length ce:Value).ownBlock) v6 (ints l'))/\Aside0 (Kd.R (Kd.int .i64) 3 w' w.heap.size (fun k=>True/\some k≠v6.ownBlock) (.slice Ae (ints es).length ce) (ints es))/\Aside0 (Below w.heap.size w w'))
  case atStart=>exact⟨0,0,T,v,rfl,⟨rfl,Nat.zero_add _,hT,by have:=HK.out.2;rw [List.length_append] at this;omega,by rw [List.drop_zero]⟩,BG1,BK1,B81,HW1,HE1,HB1⟩
  clear BG1 BK1 B81 HW1 HE1 HB1
  obtain⟨pj,p,T',l',rfl,HP,BG,BK,B8,HW,HE,HB⟩:=hrel
  obtain⟨hpj,hpk,hT',hc',hfin⟩:=HP.out
  clear HP
  obtain⟨Ao2,co2,rfl⟩:=Kd.R_slice HW.out
  by_cases ep:p < es.length
  ·have hpb:p < es.length:=ep
   obtain⟨en,hen⟩:∃ en,en=es.getD p 0:=⟨_,rfl⟩
   have hec:en < c.length:=by rw [hen];exact hel _ (getD_mem hpb)
   obtain⟨ni,hni⟩:∃ j:Int,j=(en:Int):=⟨_,rfl⟩
   have hTl':T'.length=c.length:=hT'.1
   obtain⟨tn,htn⟩:∃ tn,tn=(CS c).at' T' en:=⟨_,rfl⟩
   have okt:okC tn:=by rw [htn];exact hT'.2 en hec
   have hkl:ni.toNat < (knC T').length:=by rw [knC_len,hni,Int.toNat_natCast];omega
   have hkv:(knC T').getD ni.toNat false=decide (tn≠[]):=by rw [hni,Int.toNat_natCast,knC_get (by omega),htn];rfl
   have pj0:0<=pj:=by omega
   have pj1:pj < ((ints es).length:Int):=by rw [ints_len];omega
   have hrd:rd (ints es) pj=ni:=by rw [hpj,rd_ints,hni,hen]
   obtain⟨ad2,e2,hx0⟩:=Kd.at_int (Kd.R_reads' HE.out).2.2 pj pj0 pj1
   cases e2
   rw [hrd] at hx0
   have n0:0<=ni:=by omega
   have n1:ni < (c.length:Int):=by omega
   have pj0t:=eq_true pj0
   have pj1t:=eq_true pj1
   have pj0b:=decide_eq_true pj0
   have pj1b:=decide_eq_true pj1
   have n0t:=eq_true n0
   have n1t:=eq_true n1
   have n0b:=decide_eq_true n0
   have n1b:=decide_eq_true n1
   obtain⟨jv,hjv⟩:∃ jv,jv=jC tn vv:=⟨_,rfl⟩
   have okj:okC jv:=by rw [hjv];exact (CS_laws h).okj _ _ okt okv
   have gj:jv≠[]:=by
    rw [hjv]
    by_cases z:tn=[]
    ·rw [z];exact gv
    exact jC_some z
   have j12:=(okC_len okj gj).1
   have HP:=aM (And.intro hpj (And.intro hpk (And.intro hT' (And.intro hc' hfin))))
   have HN:=aM (And.intro hen hni)
   have HTN:=aM htn
   have HJV:=aM hjv
   have hdrop:es.drop p=en :: es.drop (p+1):=by rw [hen];exact drop_cons 0 hpb
   have HDR:=aM hdrop
   have HKV:=aM hkv
   clear hpj hpk hT' hc' hfin hen hni htn hrd pj0 pj1 n0 n1 ep hjv hkv hdrop
   by_cases et:tn=[]
   ·have ejv:vv=jv:=by rw [HJV.out,et];rfl
    have HEJ:=aM ejv
    have kb:decide (tn≠[])=false:=decide_eq_false (fun z=>z et)
    have HKB:=aM kb
    clear ejv kb et
    go_wp2_with (first|((with_reducible refine loadC (N:=65) rfl rfl rfl rfl v12 (range_all B8.out) ?_))|((with_reducible refine jd 11 rfl ?_);refine jX (ics z12) TC ?_;intro g11 hg w20 hbox hb;have N11:=aM (show g≠g11 by rw [hg];exact Nat.ne_of_lt (blk_lt BG.out));have K11:=aM (show gK≠g11 by rw [hg];exact Nat.ne_of_lt (blk_lt BK.out));have M11:=aM (show g8≠g11 by rw [hg];exact Nat.ne_of_lt (blk_lt B8.out));have G11:=kG hg;replace BG:=kB BG hb;replace BK:=kB BK hb;replace B8:=kB B8 hb;replace HW:=kR HW hb;replace HE:=kR HE hb;replace HB:=kH hb;clear hx0;have B11:=aM hbox;clear hg hbox hb)|((with_reducible refine storeC (p:=11) (v:=65) rfl rfl rfl rfl v12 B11.out (by decide) ?_);intro w21 hw hb11;rw [over_all (by rw [v12];rfl)] at hb11;replace BG:=aM (far_ hw N11.out BG.out);replace BK:=aM (far_ hw K11.out BK.out);replace B8:=aM (far_ hw M11.out B8.out);replace HW:=aM (Kd.R_mono (R_set_ hw (fun _ hk=>hk.2) (Kd.R_types HW.out B11.out (by decide))) (fun _ hk=>hk.1));replace HE:=aM (Kd.R_mono (R_set_ hw (fun _ hk=>hk.2) (Kd.R_types HE.out B11.out (by decide))) (fun _ hk=>hk.1));replace HB:=aM (below_ hw G11.out HB.out);clear B11 hw;have B11:=aM hb11;clear hb11;have yk:w21.cell? ⟨gK,ni.toNat,none⟩=some (.bool false):=by have:=blk_bool BK.out hkl;rwa [HKV.out,HKB.out] at this))
    refine start_ (n:=13) (S:=fun w'=>Below w21.heap.size w21 w') (ds:=[]) (jb 13 0) (by kernel_rfl) rfl rfl (below_drew1 (Below.refl _ _)) (fun hHeld=>?_)
    have HWD:Aside0 (Below w21.heap.size w21 w21.drew):=⟨hHeld⟩
    generalize w21.drew=wd4 at hHeld HWD ⊢
    refine jq 0 76 (jb 13 1) ?_
    refine jq 1 77 (jb 13 3) ?_
    refine jq 2 78 (jb 13 7) ?_
    refine take_ (i:=3) (N:=some 79) (v:=?_) (a':=?_) (jb 13 15) rfl rfl (by kernel_rfl) (fun _ _ _ h=>h) (Or.inl ⟨by rfl,?_⟩) hHeld ?_ ?_
    rotate_left
    ·intro w' hs
     have z0:=(hs.cell (World.block_lt_of_cell? w21 _ yk)).trans yk
     go_simp
     with_reducible rfl
    rotate_left
    ·exact qP
    refine jq 4 80 (jb 13 31) ?_
    refine jq 5 81 (jb 13 63) ?_
    refine pure_ (i:=6) (N:=some 82) (v:=undef) (a':=?_) (jb 13 127) rfl rfl (by kernel_rfl) (fun _ _ _ h=>h) (Or.inr ⟨by rfl,rfl⟩) ?_ ?_
    rotate_left
    ·exact qP
    refine pure_ (i:=7) (N:=some 83) (v:=undef) (a':=?_) (jb 13 255) rfl rfl (by kernel_rfl) (fun _ _ _ h=>h) (Or.inr ⟨by rfl,rfl⟩) ?_ ?_
    rotate_left
    ·exact qP
    refine pure_ (i:=8) (N:=some 84) (v:=undef) (a':=?_) (jb 13 511) rfl rfl (by kernel_rfl) (fun _ _ _ h=>h) (Or.inr ⟨by rfl,rfl⟩) ?_ ?_
    rotate_left
    ·exact qP
    refine pure_ (i:=9) (N:=some 85) (v:=undef) (a':=?_) (jb 13 1023) rfl rfl (by kernel_rfl) (fun _ _ _ h=>h) (Or.inr ⟨by rfl,rfl⟩) ?_ ?_
    rotate_left
    ·exact qP
    refine pure_ (i:=10) (N:=some 86) (v:=undef) (a':=?_) (jb 13 2047) rfl rfl (by kernel_rfl) (fun _ _ _ h=>h) (Or.inr ⟨by rfl,rfl⟩) ?_ ?_
    rotate_left
    ·exact qP
    refine pure_ (i:=11) (N:=some 87) (v:=undef) (a':=?_) (jb 13 4095) rfl rfl (by kernel_rfl) (fun _ _ _ h=>h) (Or.inr ⟨by rfl,rfl⟩) ?_ ?_
    rotate_left
    ·exact qP
    refine jq 12 88 (jb 13 8191) ?_
    refine done_ (by kernel_rfl) ?_
    have nBG:=aM (blk_below BG.out HWD.out)
    have nBK:=aM (blk_below BK.out HWD.out)
    have nB8:=aM (blk_below B8.out HWD.out)
    have nHW:=aM (Kd.R_below HW.out HWD.out)
    have nHE:=aM (Kd.R_below HE.out HWD.out)
    have nB11:=aM (blk_below B11.out HWD.out)
    have nHB:=aM (below_step HB.out HWD.out)
    clear HB BG BK B8 HW HE B11 HWD hHeld yk
    have BG:=nBG
    have BK:=nBK
    have B8:=nB8
    have HW:=nHW
    have HE:=nHE
    have B11:=nB11
    have HB:=nHB
    clear nHB nBG nBK nB8 nHW nHE nB11
    rw [HEJ.out] at B11
    have neq:(CS c).jn ((CS c).at' T' en) vv≠(CS c).at' T' en:=by
     show ¬ jC ((CS c).at' T' en) vv=(CS c).at' T' en
     rw [<- HTN.out,<- HJV.out]
     exact fun z=>gj (by rw [z];exact Classical.byContradiction fun y=>absurd HKB.out (by rw [decide_eq_true y];decide))
    have hen:en < (CS c).n:=hec
    have eput:Sys.put (CS c) T' (en,vv)=T'.set en jv:=by
     show T'.set en (jC ((CS c).at' T' en) vv)=_
     rw [<- HTN.out,<- HJV.out]
    have st2:=Sys.put_st (CS_laws h) HP.out.2.2.1 (p:=(en,vv)) hen okv
    have cp2:=Sys.put_cap (CS_laws h) HP.out.2.2.1 (p:=(en,vv)) hen okv neq
    have hw2:Sys.wpass (CS c) ((es.drop (p+1)).map fun e=>(e,vv)) (Sys.put (CS c) T' (en,vv)) (l' ++ [en])=Sys.wpass (CS c) (es.map fun e=>(e,vv)) T v:=by
     rw [<- HP.out.2.2.2.2,HDR.out,List.map_cons,Sys.wpass,if_neg neq]
    rw [eput] at st2 cp2 hw2
    have HQ:=aM (And.intro st2 (And.intro cp2 hw2))
    have hmG:ni.toNat*12+12<=(tabC T').length:=by
     rw [tabC_len HP.out.2.2.1,HN.out.2,Int.toNat_natCast]
     omega
    have hov:over (tabC T') (ni.toNat*12) jv=tabC (T'.set en jv):=by
     rw [HN.out.2,Int.toNat_natCast]
     exact tabC_set HP.out.2.2.1 hec j12
    have hkn:(knC T').set ni.toNat true=knC (T'.set en jv):=by
     rw [HN.out.2,Int.toNat_natCast]
     exact (knC_set T' en gj).symm
    have HOV:=aM hov
    have HKN:=aM hkn
    have hl9:l'.length<=20000:=by have:=HP.out.2.2.2.1;omega
    have eni:ints l' ++ [ni]=ints (l' ++ [en]):=by rw [HN.out.2,ints_snoc]
    have ENI:=aM eni
    clear hen neq eput st2 cp2 hw2 hov hkn eni
    exact IcopiesBefore_calls_s0
   have kb:decide (tn≠[])=true:=decide_eq_true et
   have HKB:=aM kb
   have HET:=aM et
   have t12:=(okC_len okt et).1
   have ejv:mP 12 tn vv=jv:=by rw [HJV.out,meetC et gv]
   have HEJ:=aM ejv
   have ftn:fin1 ((CS c).at' T' en)=tn:=by rw [<- HTN.out];exact if_neg et
   have FTN:=aM ftn
   clear ejv kb et ftn
   go_wp2_with (first|((with_reducible refine loadC (N:=65) rfl rfl rfl rfl v12 (range_all B8.out) ?_))|((with_reducible refine jd 11 rfl ?_);refine jX (ics z12) TC ?_;intro g11 hg w20 hbox hb;have N11:=aM (show g≠g11 by rw [hg];exact Nat.ne_of_lt (blk_lt BG.out));have K11:=aM (show gK≠g11 by rw [hg];exact Nat.ne_of_lt (blk_lt BK.out));have M11:=aM (show g8≠g11 by rw [hg];exact Nat.ne_of_lt (blk_lt B8.out));have G11:=kG hg;replace BG:=kB BG hb;replace BK:=kB BK hb;replace B8:=kB B8 hb;replace HW:=kR HW hb;replace HE:=kR HE hb;replace HB:=kH hb;clear hx0;have B11:=aM hbox;clear hg hbox hb)|((with_reducible refine storeC (p:=11) (v:=65) rfl rfl rfl rfl v12 B11.out (by decide) ?_);intro w21 hw hb11;rw [over_all (by rw [v12];rfl)] at hb11;replace BG:=aM (far_ hw N11.out BG.out);replace BK:=aM (far_ hw K11.out BK.out);replace B8:=aM (far_ hw M11.out B8.out);replace HW:=aM (Kd.R_mono (R_set_ hw (fun _ hk=>hk.2) (Kd.R_types HW.out B11.out (by decide))) (fun _ hk=>hk.1));replace HE:=aM (Kd.R_mono (R_set_ hw (fun _ hk=>hk.2) (Kd.R_types HE.out B11.out (by decide))) (fun _ hk=>hk.1));replace HB:=aM (below_ hw G11.out HB.out);clear B11 hw;have B11:=aM hb11;clear hb11;have yk:w21.cell? ⟨gK,ni.toNat,none⟩=some (.bool true):=by have:=blk_bool BK.out hkl;rwa [HKV.out,HKB.out] at this))
   have hrg:w21.rangeAt g (ni.toNat*12) (encs (Value.int .i64) tn):=by
    have:=tabC_range BG.out HP.out.2.2.1 hec
    rw [FTN.out] at this
    rw [HN.out.2,Int.toNat_natCast]
    exact this
   have hrg8:w21.rangeAt g8 0 (encs (Value.int .i64) vv):=range_all B8.out
   have go3:=fun W=>Imeet.calls t12 v12 W
   refine start_ (n:=7) (S:=fun w'=>Below w21.heap.size w21 w') (ds:=[6]) (jb 7 0) (by kernel_rfl) rfl rfl (below_drew1 (Below.refl _ _)) (fun hHeld=>?_)
   generalize w21.drew=wd3 at hHeld ⊢
   refine jq 0 70 (jb 7 1) ?_
   refine jq 1 71 (jb 7 3) ?_
   refine jq 2 72 (jb 7 7) ?_
   refine take_ (i:=3) (N:=some 73) (a':=?_) (jb 7 15) rfl rfl (by kernel_rfl) (fun _ _ _ h=>h) (yieldsIf_load_mid (by rfl) TC (.tmp 72) rfl g (ni.toNat*12) rfl _ _ (fun w' hs=>range_below hrg hs) Try.underlying81 rfl (sizeC' t12)) hHeld ?_ ?_
   rotate_left
   ·exact qP
   refine take_ (i:=4) (N:=some 74) (a':=?_) (jb 7 31) rfl rfl (by kernel_rfl) (fun _ _ _ h=>h) (yieldsIf_load_mid (by rfl) TC (.tmp 8) rfl g8 0 rfl _ _ (fun w' hs=>range_below hrg8 hs) Try.underlying81 rfl (sizeC' v12)) hHeld ?_ ?_
   rotate_left
   ·exact qP
   refine one_ (i:=5) (N:=some 75) (jb 7 63) rfl rfl (by kernel_rfl) (by decide) (fun K hK=>?_)
   refine goes_ Try.func100 (by kernel_rfl) rfl #[.agg (ics tn),.agg (ics vv)] (by rfl) rfl rfl qM ?_
   (with_reducible refine (go3 _).mono ?_)
   rintro e w22 ⟨rfl,hb⟩
   refine⟨_,rfl,?_⟩
   refine hK.out _ _ (below_step hHeld hb) (fun hHeld=>?_)
   clear hK K hb
   refine norm_ (a':=?_) ?_ ?_
   rotate_left
   ·show Act.put _ (some 75) _=_
    simp only [Act.put,List.setIfInBounds_toArray,List.set_cons_zero,List.set_cons_succ,i64_w,i32_w]
    rfl
   refine last_ (i:=6) (N:=none) (jb 7 127) rfl rfl (by kernel_rfl) (by decide) (fun K hK=>?_)
   have m12:(mP 12 tn vv).length=12:=mk12_len _
   have B11w:=blk_below B11.out hHeld
   refine skip_ (w1:=w22.setCells g11 0 (encs (Value.int .i64) (mP 12 tn vv))) (by rfl) rfl ?_ ?_
   ·exact run_storeC (x:=.tmp 11) (y:=.tmp 75) (g:=g11) (o:=0) rfl rfl rfl m12 B11w (by rw [v12];decide)
   refine hK.out _ _ ?_
   clear hK K
   refine done_ (by kernel_rfl) ?_
   have hw:w22.setCells g11 0 (encs (Value.int .i64) (mP 12 tn vv))=w22.setCells g11 0 (encs (Value.int .i64) (mP 12 tn vv)):=rfl
   have hb11:=setCells_ints (mP 12 tn vv) 0 vv w22 B11w (by rw [m12,v12];decide)
   rw [over_all (by rw [m12,v12]),HEJ.out] at hb11
   rw [HEJ.out] at hw ⊢
   have nBG:=aM (blk_below BG.out hHeld)
   have nBK:=aM (blk_below BK.out hHeld)
   have nB8:=aM (blk_below B8.out hHeld)
   have nHW:=aM (Kd.R_below HW.out hHeld)
   have nHE:=aM (Kd.R_below HE.out hHeld)
   have nHB:=aM (below_step HB.out hHeld)
   clear HB BG BK B8 HW HE
   have BG:=nBG
   have BK:=nBK
   have B8:=nB8
   have HW:=nHW
   have HE:=nHE
   have HB:=nHB
   clear nHB nBG nBK nB8 nHW nHE
   generalize hwm:w22.setCells g11 0 (encs (Value.int .i64) jv)=wm at hb11 ⊢
   clear hw
   have hw:=hwm.symm
   have B11:Aside0 (w22.heap[g11]?=some (.cells (ics vv) TC (0,0))):=⟨B11w⟩
   clear B11w hwm hHeld hrg hrg8 go3 yk
   have nBG:=aM (far_ hw N11.out BG.out)
   have nBK:=aM (far_ hw K11.out BK.out)
   have nB8:=aM (far_ hw M11.out B8.out)
   have nHW:=aM (Kd.R_mono (R_set_ hw (fun _ hk=>hk.2) (Kd.R_types HW.out B11.out (by decide))) (fun _ hk=>hk.1))
   have nHE:=aM (Kd.R_mono (R_set_ hw (fun _ hk=>hk.2) (Kd.R_types HE.out B11.out (by decide))) (fun _ hk=>hk.1))
   have nHB:=aM (below_ hw G11.out HB.out)
   clear HB B11 hw BG BK B8 HW HE
   have BG:=nBG
   have BK:=nBK
   have B8:=nB8
   have HW:=nHW
   have HE:=nHE
   have HB:=nHB
   clear nHB nBG nBK nB8 nHW nHE
   have B11:=aM hb11
   clear hb11 m12
   have yk:wm.cell? ⟨gK,ni.toNat,none⟩=some (.bool true):=by have:=blk_bool BK.out hkl;rwa [HKV.out,HKB.out] at this
   have hrg:wm.rangeAt g (ni.toNat*12) (encs (Value.int .i64) tn):=by
    have:=tabC_range BG.out HP.out.2.2.1 hec
    rw [FTN.out] at this
    rw [HN.out.2,Int.toNat_natCast]
    exact this
   have hrg2:wm.rangeAt g11 0 (encs (Value.int .i64) jv):=range_all B11.out
   go_wp2_with fail
   refine start_ (n:=13) (S:=fun w'=>Below wm.heap.size wm w') (ds:=[]) (jb 13 0) (by kernel_rfl) rfl rfl (below_drew1 (Below.refl _ _)) (fun hHeld=>?_)
   have HWD:Aside0 (Below wm.heap.size wm wm.drew):=⟨hHeld⟩
   generalize wm.drew=wd4 at hHeld HWD ⊢
   refine jq 0 76 (jb 13 1) ?_
   refine jq 1 77 (jb 13 3) ?_
   refine jq 2 78 (jb 13 7) ?_
   refine take_ (i:=3) (N:=some 79) (v:=?_) (a':=?_) (jb 13 15) rfl rfl (by kernel_rfl) (fun _ _ _ h=>h) (Or.inl ⟨by rfl,?_⟩) hHeld ?_ ?_
   rotate_left
   ·intro w' hs
    have z0:=(hs.cell (World.block_lt_of_cell? wm _ yk)).trans yk
    go_simp
    with_reducible rfl
   rotate_left
   ·exact qP
   refine jq 4 80 (jb 13 31) ?_
   refine jq 5 81 (jb 13 63) ?_
   refine take_ (i:=6) (N:=some 82) (a':=?_) (jb 13 127) rfl rfl (by kernel_rfl) (fun _ _ _ h=>h) (yieldsIf_load_mid (by rfl) TC (.tmp 11) rfl g11 0 rfl _ _ (fun w' hs=>range_below hrg2 hs) Try.underlying81 rfl (sizeC' j12)) hHeld ?_ ?_
   rotate_left
   ·exact qP
   refine jq 7 83 (jb 13 255) ?_
   refine jq 8 84 (jb 13 511) ?_
   refine jq 9 85 (jb 13 1023) ?_
   refine take_ (i:=10) (N:=some 86) (a':=?_) (jb 13 2047) rfl rfl (by kernel_rfl) (fun _ _ _ h=>h) (yieldsIf_load_mid (by rfl) TC (.tmp 85) rfl g (ni.toNat*12) rfl _ _ (fun w' hs=>range_below hrg hs) Try.underlying81 rfl (sizeC' t12)) hHeld ?_ ?_
   rotate_left
   ·exact qP
   refine jq 11 87 (jb 13 4095) ?_
   refine jq 12 88 (jb 13 8191) ?_
   refine done_ (by kernel_rfl) ?_
   have nBG:=aM (blk_below BG.out HWD.out)
   have nBK:=aM (blk_below BK.out HWD.out)
   have nB8:=aM (blk_below B8.out HWD.out)
   have nHW:=aM (Kd.R_below HW.out HWD.out)
   have nHE:=aM (Kd.R_below HE.out HWD.out)
   have nB11:=aM (blk_below B11.out HWD.out)
   have nHB:=aM (below_step HB.out HWD.out)
   clear HB BG BK B8 HW HE B11 HWD hHeld yk hrg hrg2
   have BG:=nBG
   have BK:=nBK
   have B8:=nB8
   have HW:=nHW
   have HE:=nHE
   have B11:=nB11
   have HB:=nHB
   clear nHB nBG nBK nB8 nHW nHE nB11
   by_cases ej:jv=tn
   ·have ejb:decide (jv=tn)=true:=decide_eq_true ej
    have ejt:(jv=tn)=True:=eq_true ej
    have hw2:Sys.wpass (CS c) ((es.drop (p+1)).map fun e=>(e,vv)) T' l'=Sys.wpass (CS c) (es.map fun e=>(e,vv)) T v:=by
     rw [<- HP.out.2.2.2.2,HDR.out,List.map_cons,Sys.wpass,if_pos (by show jC ((CS c).at' T' en) vv=(CS c).at' T' en;rw [<- HTN.out,<- HJV.out];exact ej)]
    have HW2:=aM hw2
    clear hw2 ej
    rw [ejb,Bool.not_true]
    clear ejb ejt
    go_wp2
    go_roundg (es.length - (p+1))
    case measure=>have:=HP.out.2.1;omega
    exact⟨_,p+1,T',l',rfl,⟨by have:=HP.out.1;(first|omega|(rw [wrap_id (by omega) (by omega)];omega)),by omega,HP.out.2.2.1,HP.out.2.2.2.1,HW2.out⟩,BG,BK,B8,HW,HE,HB⟩
   have ejb:decide (jv=tn)=false:=decide_eq_false ej
   have neq:(CS c).jn ((CS c).at' T' en) vv≠(CS c).at' T' en:=by
    show ¬ jC ((CS c).at' T' en) vv=(CS c).at' T' en
    rw [<- HTN.out,<- HJV.out]
    exact ej
   clear ej
   rw [ejb,Bool.not_false]
   clear ejb
   have hen:en < (CS c).n:=hec
   have eput:Sys.put (CS c) T' (en,vv)=T'.set en jv:=by
    show T'.set en (jC ((CS c).at' T' en) vv)=_
    rw [<- HTN.out,<- HJV.out]
   have st2:=Sys.put_st (CS_laws h) HP.out.2.2.1 (p:=(en,vv)) hen okv
   have cp2:=Sys.put_cap (CS_laws h) HP.out.2.2.1 (p:=(en,vv)) hen okv neq
   have hw2:Sys.wpass (CS c) ((es.drop (p+1)).map fun e=>(e,vv)) (Sys.put (CS c) T' (en,vv)) (l' ++ [en])=Sys.wpass (CS c) (es.map fun e=>(e,vv)) T v:=by
    rw [<- HP.out.2.2.2.2,HDR.out,List.map_cons,Sys.wpass,if_neg neq]
   rw [eput] at st2 cp2 hw2
   have HQ:=aM (And.intro st2 (And.intro cp2 hw2))
   have hmG:ni.toNat*12+12<=(tabC T').length:=by
    rw [tabC_len HP.out.2.2.1,HN.out.2,Int.toNat_natCast]
    omega
   have hov:over (tabC T') (ni.toNat*12) jv=tabC (T'.set en jv):=by
    rw [HN.out.2,Int.toNat_natCast]
    exact tabC_set HP.out.2.2.1 hec j12
   have hkn:(knC T').set ni.toNat true=knC (T'.set en jv):=by
    rw [HN.out.2,Int.toNat_natCast]
    exact (knC_set T' en gj).symm
   have HOV:=aM hov
   have HKN:=aM hkn
   have hl9:l'.length<=20000:=by have:=HP.out.2.2.2.1;omega
   have eni:ints l' ++ [ni]=ints (l' ++ [en]):=by rw [HN.out.2,ints_snoc]
   have ENI:=aM eni
   clear hen neq eput st2 cp2 hw2 hov hkn eni
   exact IcopiesBefore_calls_s0
  have pb:decide (pj < ((ints es).length:Int))=false:=decide_eq_false (by rw [ints_len];omega)
  have HF:Aside0 (Sys.wpass (CS c) (es.map fun e=>(e,vv)) T v=(T',l')):=⟨by rw [<- hfin,List.drop_eq_nil_of_le (by omega)];rfl⟩
  have hcF:=aM hc'
  clear hfin hpj hpk hc'
  go_wp2_with fail
  go_roundg ((CS c).cap T' + l'.length)
  case measure =>
   have k:=(Sys.wk_step (CS_laws h) HK.out.1).2.2.2
   have k2:=HK.out.2.1
   rw [FIN.out,HF.out] at k
   simp only at k
   omega
  case rel =>
   have k:=(Sys.wk_step (CS_laws h) HK.out.1).2.2.1
   rw [FIN.out,HF.out] at k
   exact⟨T',l',⟨k,Nat.le_refl _,hcF.out⟩,BG,BK,⟨Kd.R_mono HW.out (fun _ hk=>hk.1)⟩,HB⟩
 have hp:p < c.length:=by have:=HP.out.2;omega
 have hpi:pi=(p:Int):=HP.out.1
 have p0:0<=pi:=by omega
 have p1:pi < (c.length:Int):=by omega
 have hm:pi.toNat*12+12<=(fillC c.length p).length:=by rw [fill_len (by omega),hpi,Int.toNat_natCast];omega
 have pp:=fill_set hp
 have hov:over (fillC c.length p) (pi.toNat*12) selfC=fillC c.length (p+1):=by rw [hpi,Int.toNat_natCast];exact pp
 have HOV:=aM hov
 have p0t:=eq_true p0
 have p1t:=eq_true p1
 have p0b:=decide_eq_true p0
 have p1b:=decide_eq_true p1
 clear hov pp p0 p1 hpi
 go_wp2_with (first|(go_at_call 98;(with_reducible refine (InoCopies.calls _).mono ?_);rintro e w5 ⟨rfl,hb⟩;replace BG:=kB BG hb;replace BK:=kB BK hb;replace HB:=kH hb;clear hb)|((with_reducible refine storeC (p:=26) (v:=25) rfl rfl rfl rfl self_len BG.out hm ?_);intro w3 hw hb3;rw [HOV.out] at hb3;replace BK:=aM (far_ hw (Ne.symm NK.out) BK.out);replace HB:=aM (below_ hw GG.out HB.out);clear BG hw;have BG:=aM hb3;clear hb3))
 go_roundg k1
 case measure=>omega
 exact⟨_,p+1,rfl,⟨by have:=HP.out.1;(first|omega|(rw [wrap_id (by omega) (by omega)];omega)),by have:=HP.out.2;omega⟩,BG,BK,HB⟩
abbrev TQ:TypeId:=46
theorem sizeQ {l:List Int} (h:l.length=5):(Try.prog.info? TQ).map (·.size)=some (ics l).size:=by
 rw [ics_size,h]
 kernel_rfl
section
variable {ops:Array Oper} {rest:List Oper} {op:Oper} {a:Act} {Q:Exit->Act->World->Prop}
theorem storeQ {w:World} {p v:Tmp} (ho:op.op = .store TQ (.tmp p) (.tmp v)) (hgd:op.guard=none) {g:Nat} (hx:a.eval (.tmp p) = .pointer (some ⟨g,0,none⟩)) {v0 v1 v2 v3 v4:Int} (hy:a.eval (.tmp v) = .agg #[.int .i64 v0,.int .i64 v1,.int .i64 v2,.int .i64 v3,.int .i64 v4]) (hb:w.heap[g]?=some (.cells (ics [0,0,0,0,0]) TQ (0,0)))
  (h:∀ w',w'=w.setCells g 0 (encs (Value.int .i64) [v0,v1,v2,v3,v4])->w'.heap[g]?=some (.cells (ics [v0,v1,v2,v3,v4]) TQ (0,0))->wpList Try.prog ops Q rest (a.put op.dst undef) w'):wpList Try.prog ops Q (op :: rest) a w:=by
 refine wpList_store_mid hgd TQ (.tmp p) (.tmp v) ho g 0 (ics [v0,v1,v2,v3,v4]) hx hy ?_ (sizeQ rfl) (ics_one _) ?_
 ·rw [ics_size]
  exact there_ints hb (by simp)
 exact h _ rfl (setCells_ints [v0,v1,v2,v3,v4] 0 [0,0,0,0,0] w hb (by simp))
end
theorem retQ {w:World} {fn:Func} {p:Tmp} (h:fn.results = #[.cell p TQ]) {tmps:Array Value} {g:Nat} {v0 v1 v2 v3 v4:Int} (hp:tmps.getD p undef = .pointer (some ⟨g,0,none⟩)) (hb:w.heap[g]?=some (.cells (ics [v0,v1,v2,v3,v4]) TQ (0,0))):(results fn tmps).run Try.prog w = .ok (.agg #[.int .i64 v0,.int .i64 v1,.int .i64 v2,.int .i64 v3,.int .i64 v4]) w :=
 results_cell_row h tmps w g TQ _ _ _ hp hb Try.underlying46 rfl (sizeQ (l:=[v0,v1,v2,v3,v4]) rfl)
theorem IFact_is.e (f:SF) (n:Int):IFact_is.f f.f0 f.f1 n=some (isF f n):=by
 unfold IFact_is.f isF
 by_cases h:f.f0=1 <;> simp [h]
set_option maxHeartbeats 4000000 in
theorem IcopyOf.calls (r d:Int) (g3:Nat) (w:World) (h:w.cell? ⟨g3,1,none⟩=some (.int .i64 d)) :
  Calls Try.prog 111 #[.int .i64 r,.pointer (some ⟨g3,0,none⟩)] w fun e w'=>e = .returned (.agg #[.int .i64 2,.int .i64 d,.int .i64 r,.int .i64 0,.int .i64 0])/\Below w.heap.size w w':=by
 have HB:=aM (Below.refl w.heap.size w)
 have H1:=aM h
 clear h
 go_enter Try.func111,Try.ntmps111
 go_wp2_with (first|((with_reducible refine jd 3 rfl ?_);refine jX (ics [0,0,0,0,0]) TQ ?_;intro g6 hg w2 hbox hb;have h1:=(hb.cell (World.block_lt_of_cell? w _ H1.out)).trans H1.out;have B6:=aM hbox;have G6:=kG hg;replace HB:=kH hb;clear hg hbox hb)|((with_reducible refine storeQ (p:=3) (v:=7) rfl rfl rfl rfl B6.out ?_);intro w3 hw hb6;replace HB:=aM (below_ hw G6.out HB.out);clear B6 hw h1;have B6:=aM hb6;clear hb6))
 exact bodyPost_ret (retQ rfl rfl B6.out) rfl ⟨rfl,HB.out⟩
theorem foldD (f0 f1 f2 f3 f4:Int) (a b:SF) (hcc:¬ (a.f0=1/\b.f0=1)) (hf:f4=1\/f4=2\/f4=3\/f4=4\/f4=5\/f4=6\/f4=7\/f4=8\/f4=9\/f4=10\/f4=11\/f4=12):(f4=1/\isF b 0=true/\binQ ⟨f0,f1,f2,f3,f4⟩ a b=⟨2,f1,f2,0,0⟩)\/(f4=1/\isF b 0=false/\isF a 0=true/\binQ ⟨f0,f1,f2,f3,f4⟩ a b=⟨2,f1,f3,0,0⟩)\/(f4=1/\isF b 0=false/\isF a 0=false/\binQ ⟨f0,f1,f2,f3,f4⟩ a b=⟨f0,f1,f2,f3,1⟩)\/(f4=2/\isF b 0=true/\binQ ⟨f0,f1,f2,f3,f4⟩ a b=⟨2,f1,f2,0,0⟩)\/(f4=2/\isF b 0=false/\isF a 0=true/\binQ ⟨f0,f1,f2,f3,f4⟩ a b=⟨2,f1,f3,0,0⟩)\/(f4=2/\isF b 0=false/\isF a 0=false/\binQ ⟨f0,f1,f2,f3,f4⟩ a b=⟨f0,f1,f2,f3,2⟩)\/(f4=3/\isF a 0=true/\binQ ⟨f0,f1,f2,f3,f4⟩ a b=⟨1,f1,0,0,0⟩)\/(f4=3/\isF a 0=false/\isF b 0=true/\binQ ⟨f0,f1,f2,f3,f4⟩ a b=⟨1,f1,0,0,0⟩)\/(f4=3/\isF a 0=false/\isF b 0=false/\binQ ⟨f0,f1,f2,f3,f4⟩ a b=⟨f0,f1,f2,f3,3⟩)\/(f4=4/\binQ ⟨f0,f1,f2,f3,f4⟩ a b=⟨f0,f1,f2,f3,4⟩)\/(f4=5/\binQ ⟨f0,f1,f2,f3,f4⟩ a b=⟨f0,f1,f2,f3,5⟩)\/(f4=6/\isF b 0=true/\binQ ⟨f0,f1,f2,f3,f4⟩ a b=⟨2,f1,f2,0,0⟩)\/(f4=6/\isF b 0=false/\binQ ⟨f0,f1,f2,f3,f4⟩ a b=⟨f0,f1,f2,f3,6⟩)\/(f4=7/\isF b 0=true/\binQ ⟨f0,f1,f2,f3,f4⟩ a b=⟨2,f1,f2,0,0⟩)\/(f4=7/\isF b 0=false/\binQ ⟨f0,f1,f2,f3,f4⟩ a b=⟨f0,f1,f2,f3,7⟩)\/(f4=8/\isF b 0=true/\binQ ⟨f0,f1,f2,f3,f4⟩ a b=⟨2,f1,f2,0,0⟩)\/(f4=8/\isF b 0=false/\isF a 0=true/\binQ ⟨f0,f1,f2,f3,f4⟩ a b=⟨2,f1,f3,0,0⟩)\/(f4=8/\isF b 0=false/\isF a 0=false/\binQ ⟨f0,f1,f2,f3,f4⟩ a b=⟨f0,f1,f2,f3,8⟩)\/(f4=9/\isF b 0=true/\binQ ⟨f0,f1,f2,f3,f4⟩ a b=⟨2,f1,f2,0,0⟩)\/(f4=9/\isF b 0=false/\binQ ⟨f0,f1,f2,f3,f4⟩ a b=⟨f0,f1,f2,f3,9⟩)\/(f4=10/\isF b 1=true/\binQ ⟨f0,f1,f2,f3,f4⟩ a b=⟨2,f1,f2,0,0⟩)\/(f4=10/\isF b 1=false/\isF a 1=true/\binQ ⟨f0,f1,f2,f3,f4⟩ a b=⟨2,f1,f3,0,0⟩)\/(f4=10/\isF b 1=false/\isF a 1=false/\isF a 0=true/\binQ ⟨f0,f1,f2,f3,f4⟩ a b=⟨1,f1,0,0,0⟩)\/(f4=10/\isF b 1=false/\isF a 1=false/\isF a 0=false/\isF b 0=true/\binQ ⟨f0,f1,f2,f3,f4⟩ a b=⟨1,f1,0,0,0⟩)\/(f4=10/\isF b 1=false/\isF a 1=false/\isF a 0=false/\isF b 0=false/\binQ ⟨f0,f1,f2,f3,f4⟩ a b=⟨f0,f1,f2,f3,10⟩)\/(f4=11/\isF b 1=true/\binQ ⟨f0,f1,f2,f3,f4⟩ a b=⟨2,f1,f2,0,0⟩)\/(f4=11/\isF b 1=false/\binQ ⟨f0,f1,f2,f3,f4⟩ a b=⟨f0,f1,f2,f3,11⟩)\/(f4=12/\binQ ⟨f0,f1,f2,f3,f4⟩ a b=⟨f0,f1,f2,f3,12⟩):=by
 rw [binQ,if_neg hcc]
 generalize isF b 0=B0
 generalize isF a 0=A0
 generalize isF b 1=B1
 generalize isF a 1=A1
 rcases hf with rfl|rfl|rfl|rfl|rfl|rfl|rfl|rfl|rfl|rfl|rfl|rfl <;> cases B0 <;> cases A0 <;> cases B1 <;> cases A1 <;> simp
theorem foldBin_no (f0 f1 f2 f3 f4:Int) (h1:1<=f4) (h2:f4<=12) (a b:SF) (hcc:¬ (a.f0=1/\b.f0=1)) (w:World) :
  Calls Try.prog 96 #[.agg #[.int .i64 f0,.int .i64 f1,.int .i64 f2,.int .i64 f3,.int .i64 f4],.agg #[.int .i64 a.f0,.int .i64 a.f1],.agg #[.int .i64 b.f0,.int .i64 b.f1]] w fun e w'=>e = .returned (.agg #[.int .i64 (binQ ⟨f0,f1,f2,f3,f4⟩ a b).f0,.int .i64 (binQ ⟨f0,f1,f2,f3,f4⟩ a b).f1,.int .i64 (binQ ⟨f0,f1,f2,f3,f4⟩ a b).f2,.int .i64 (binQ ⟨f0,f1,f2,f3,f4⟩ a b).f3,.int .i64 (binQ ⟨f0,f1,f2,f3,f4⟩ a b).f4])/\Below w.heap.size w w':=by
 have HB:=aM (Below.refl w.heap.size w)
 have hcb:((a.f0 == 1) && (b.f0 == 1))=false:=by
  by_cases x:a.f0=1 <;> by_cases y:b.f0=1 <;> simp [x,y]
  exact hcc ⟨x,y⟩
 have hf:f4=1\/f4=2\/f4=3\/f4=4\/f4=5\/f4=6\/f4=7\/f4=8\/f4=9\/f4=10\/f4=11\/f4=12:=by omega
 have HD:=aM (foldD f0 f1 f2 f3 f4 a b hcc hf)
 clear hf
 have HX:=aM hcb
 clear h1 h2 hcc hcb
 go_enter Try.func96,Try.ntmps96
 go_upto_region 2 with (first|((with_reducible refine jd 3 rfl ?_);refine jX #[.int .i64 f0,.int .i64 f1,.int .i64 f2,.int .i64 f3,.int .i64 f4] TQ ?_;intro g3 hg w23 hbox hb;have B3:=aM hbox;have G3:=kG hg;have n1:=kH hb;clear HB;have HB:=n1;clear n1 hg hbox hb)|((with_reducible refine jd 4 rfl ?_);refine jX #[.int .i64 a.f0,.int .i64 a.f1] 74 ?_;intro g4 hg w24 hbox hb;have k3:=kB B3 hb;clear B3;have B3:=k3;clear k3;have B4:=aM hbox;have G4:=kG hg;have n1:=kH hb;clear HB;have HB:=n1;clear n1 hg hbox hb)|((with_reducible refine jd 5 rfl ?_);refine jX #[.int .i64 b.f0,.int .i64 b.f1] 74 ?_;intro g5 hg w25 hbox hb;have k3:=kB B3 hb;have k4:=kB B4 hb;clear B3 B4;have B3:=k3;have B4:=k4;clear k3 k4;have B5:=aM hbox;have G5:=kG hg;have n1:=kH hb;clear HB;have HB:=n1;clear n1 hg hbox hb)|((with_reducible refine jd 6 rfl ?_);refine jX (ics [0,0,0,0,0]) TQ ?_;intro g6 hg w26 hbox hb;have k3:=kB B3 hb;have k4:=kB B4 hb;have k5:=kB B5 hb;clear B3 B4 B5;have B3:=k3;have B4:=k4;have B5:=k5;clear k3 k4 k5;have B6:=aM hbox;have G6:=kG hg;have n1:=kH hb;clear HB;have HB:=n1;clear n1 hg hbox hb;obtain⟨q0,q1,q2,q3,q4⟩:=cells5' B3.out;obtain⟨a0,a1⟩:=cells2' B4.out;obtain⟨b0,b1⟩:=cells2' B5.out))
 go_cut [16] (fun v16 wc=>v16 = .bool false/\wc=w26)
 case first =>
  cases hx:(a.f0 == 1) with
  | true =>
   have hy:(b.f0 == 1)=false:=by have:=HX.out;simpa [hx] using this
   go_wp2
   go_meet
   exact⟨rfl,rfl⟩
  | false =>
   go_wp2
   go_meet
   exact⟨rfl,rfl⟩
 obtain⟨rfl,rfl⟩:=hcut
 clear HX
 have eb0:=IFact_is.e b 0
 have ea0:=IFact_is.e a 0
 have eb1:=IFact_is.e b 1
 have ea1:=IFact_is.e a 1
 rcases HD.out with ⟨rfl,hb0,hres⟩ | ⟨rfl,hb0,ha0,hres⟩ | ⟨rfl,hb0,ha0,hres⟩ | ⟨rfl,hb0,hres⟩ | ⟨rfl,hb0,ha0,hres⟩ | ⟨rfl,hb0,ha0,hres⟩ | ⟨rfl,ha0,hres⟩ | ⟨rfl,ha0,hb0,hres⟩ | ⟨rfl,ha0,hb0,hres⟩ | ⟨rfl,hres⟩ | ⟨rfl,hres⟩ | ⟨rfl,hb0,hres⟩ | ⟨rfl,hb0,hres⟩ | ⟨rfl,hb0,hres⟩ | ⟨rfl,hb0,hres⟩ | ⟨rfl,hb0,hres⟩ | ⟨rfl,hb0,ha0,hres⟩ | ⟨rfl,hb0,ha0,hres⟩ | ⟨rfl,hb0,hres⟩ | ⟨rfl,hb0,hres⟩ | ⟨rfl,hb1,hres⟩ | ⟨rfl,hb1,ha1,hres⟩ | ⟨rfl,hb1,ha1,ha0,hres⟩ | ⟨rfl,hb1,ha1,ha0,hb0,hres⟩ | ⟨rfl,hb1,ha1,ha0,hb0,hres⟩ | ⟨rfl,hb1,hres⟩ | ⟨rfl,hb1,hres⟩ | ⟨rfl,hres⟩
 all_goals
  (try rw [hb0] at eb0)
  (try rw [ha0] at ea0)
  (try rw [hb1] at eb1)
  (try rw [ha1] at ea1)
  have eb0:=aM eb0
  have ea0:=aM ea0
  have eb1:=aM eb1
  have ea1:=aM ea1
  have HRES:=aM hres
  clear hres HD
  (try clear hb0)
  (try clear ha0)
  (try clear hb1)
  (try clear ha1)
  go_wp2_with (first|(go_at_call 97;(first|(with_reducible refine (IFact_is.calls _ _ _ _ _ eb0.out).mono ?_)|(with_reducible refine (IFact_is.calls _ _ _ _ _ ea0.out).mono ?_)|(with_reducible refine (IFact_is.calls _ _ _ _ _ eb1.out).mono ?_)|(with_reducible refine (IFact_is.calls _ _ _ _ _ ea1.out).mono ?_));rintro e w30 ⟨rfl,hb⟩;replace B3:=kB B3 hb;replace B4:=kB B4 hb;replace B5:=kB B5 hb;replace B6:=kB B6 hb;replace HB:=kH hb;clear hb q0 q1 q2 q3 q4 a0 a1 b0 b1;obtain⟨q0,q1,q2,q3,q4⟩:=cells5' B3.out;obtain⟨a0,a1⟩:=cells2' B4.out;obtain⟨b0,b1⟩:=cells2' B5.out)|(go_at_call 111;(with_reducible refine (IcopyOf.calls _ _ _ _ q1).mono ?_);rintro e w31 ⟨rfl,hb⟩;replace B3:=kB B3 hb;replace B4:=kB B4 hb;replace B5:=kB B5 hb;replace B6:=kB B6 hb;replace HB:=kH hb;clear hb q0 q1 q2 q3 q4 a0 a1 b0 b1;obtain⟨q0,q1,q2,q3,q4⟩:=cells5' B3.out;obtain⟨a0,a1⟩:=cells2' B4.out;obtain⟨b0,b1⟩:=cells2' B5.out)|((with_reducible refine gate_store (t:=TQ) (p:=6) rfl ?_);refine storeQ (p:=6) rfl rfl rfl rfl B6.out ?_;intro w32 hw hb6;replace HB:=aM (below_ hw G6.out HB.out);clear B6 hw q0 q1 q2 q3 q4 a0 a1 b0 b1;have B6:=aM hb6;clear hb6))
  exact bodyPost_ret (retQ rfl rfl B6.out) rfl ⟨by rw [HRES.out],HB.out⟩
theorem foldBin_yes (f0 f1 f2 f3 f4:Int) (a b:SF) (ha:a.f0=1) (hbb:b.f0=1) (w:World) :
  Calls Try.prog 96 #[.agg #[.int .i64 f0,.int .i64 f1,.int .i64 f2,.int .i64 f3,.int .i64 f4],.agg #[.int .i64 a.f0,.int .i64 a.f1],.agg #[.int .i64 b.f0,.int .i64 b.f1]] w fun e w'=>e = .returned (.agg #[.int .i64 1,.int .i64 f1,.int .i64 0,.int .i64 0,.int .i64 (ap f4 a.f1 b.f1)])/\Below w.heap.size w w':=by
 have HB:=aM (Below.refl w.heap.size w)
 have hx:(a.f0 == 1)=true:=by simp [ha]
 have hy:(b.f0 == 1)=true:=by simp [hbb]
 have A2:=aM (Iapply.e f4 a.f1 b.f1)
 clear ha hbb
 go_enter Try.func96,Try.ntmps96
 go_upto_region 3 with (first|((with_reducible refine jd 3 rfl ?_);refine jX #[.int .i64 f0,.int .i64 f1,.int .i64 f2,.int .i64 f3,.int .i64 f4] TQ ?_;intro g3 hg w23 hbox hb;have B3:=aM hbox;have G3:=kG hg;have n1:=kH hb;clear HB;have HB:=n1;clear n1 hg hbox hb)|((with_reducible refine jd 4 rfl ?_);refine jX #[.int .i64 a.f0,.int .i64 a.f1] 74 ?_;intro g4 hg w24 hbox hb;have N3_4:=aM (show g3≠g4 by rw [hg];exact Nat.ne_of_lt (blk_lt B3.out));have k3:=kB B3 hb;clear B3;have B3:=k3;clear k3;have B4:=aM hbox;have G4:=kG hg;have n1:=kH hb;clear HB;have HB:=n1;clear n1 hg hbox hb)|((with_reducible refine jd 5 rfl ?_);refine jX #[.int .i64 b.f0,.int .i64 b.f1] 74 ?_;intro g5 hg w25 hbox hb;have N3_5:=aM (show g3≠g5 by rw [hg];exact Nat.ne_of_lt (blk_lt B3.out));have N4_5:=aM (show g4≠g5 by rw [hg];exact Nat.ne_of_lt (blk_lt B4.out));have k3:=kB B3 hb;have k4:=kB B4 hb;clear B3 B4;have B3:=k3;have B4:=k4;clear k3 k4;have B5:=aM hbox;have G5:=kG hg;have n1:=kH hb;clear HB;have HB:=n1;clear n1 hg hbox hb)|((with_reducible refine jd 6 rfl ?_);refine jX (ics [0,0,0,0,0]) TQ ?_;intro g6 hg w26 hbox hb;have N3_6:=aM (show g3≠g6 by rw [hg];exact Nat.ne_of_lt (blk_lt B3.out));have N4_6:=aM (show g4≠g6 by rw [hg];exact Nat.ne_of_lt (blk_lt B4.out));have N5_6:=aM (show g5≠g6 by rw [hg];exact Nat.ne_of_lt (blk_lt B5.out));have k3:=kB B3 hb;have k4:=kB B4 hb;have k5:=kB B5 hb;clear B3 B4 B5;have B3:=k3;have B4:=k4;have B5:=k5;clear k3 k4 k5;have B6:=aM hbox;have G6:=kG hg;have n1:=kH hb;clear HB;have HB:=n1;clear n1 hg hbox hb;obtain⟨q0,q1,q2,q3,q4⟩:=cells5' B3.out;obtain⟨a0,a1⟩:=cells2' B4.out;obtain⟨b0,b1⟩:=cells2' B5.out))
 have e0:=blk_frozen B6.out 0
 have e1:=blk_frozen B6.out 1
 have e2:=blk_frozen B6.out 2
 have e3:=blk_frozen B6.out 3
 have e4:=blk_frozen B6.out 4
 obtain⟨s0,s1,s2,s3,s4⟩:=cells5' B6.out
 have n36:=N3_6.out
 have n46:=N4_6.out
 have n56:=N5_6.out
 have n63:=Ne.symm N3_6.out
 have n64:=Ne.symm N4_6.out
 have n65:=Ne.symm N5_6.out
 go_region_held3 (fun w'=>w'.cell? ⟨g3,1,none⟩=some (.int .i64 f1)/\w'.cell? ⟨g3,4,none⟩=some (.int .i64 f4)/\w'.cell? ⟨g4,1,none⟩=some (.int .i64 a.f1)/\w'.cell? ⟨g5,1,none⟩=some (.int .i64 b.f1)) (first|(simp [*];done)|(go_simp;done)|(constructor <;> go_simp)) (first|(go_at_call 110;(with_reducible refine (Iapply.calls _ _ _ _ _ A2.out).mono ?_);rintro e w11 ⟨rfl,nd,rfl⟩))
 rename_i hH
 clear hH
 generalize hw0:World.setCell _ ⟨g6,4,none⟩ (.int .i64 (ap f4 a.f1 b.f1))=w40
 have hw:w40=(w26.drewN (1+nd)).setCells g6 0 (encs (Value.int .i64) [1,f1,0,0,ap f4 a.f1 b.f1]):=hw0.symm
 clear hw0
 have n1:=aM (below_ hw G6.out (pw_below_drewN HB.out _))
 have n6:Aside0 (w40.heap[g6]?=some (.cells (ics [1,f1,0,0,ap f4 a.f1 b.f1]) TQ (0,0))):=⟨by rw [hw];exact setCells_ints [1,f1,0,0,ap f4 a.f1 b.f1] 0 [0,0,0,0,0] _ (blk_drewN B6.out _) (by simp)⟩
 clear hw HB B6 B3 B4 B5 q0 q1 q2 q3 q4 a0 a1 b0 b1 s0 s1 s2 s3 s4 e0 e1 e2 e3 e4 n36 n46 n56 n63 n64 n65
 go_wp2
 exact bodyPost_ret (retQ rfl rfl n6.out) rfl ⟨rfl,n1.out⟩
theorem IfoldBin.calls {q:SQ} (h1:1<=q.f4) (h2:q.f4<=12) (a b:SF) (w:World) :
  Calls Try.prog 96 #[.agg #[.int .i64 q.f0,.int .i64 q.f1,.int .i64 q.f2,.int .i64 q.f3,.int .i64 q.f4],.agg #[.int .i64 a.f0,.int .i64 a.f1],.agg #[.int .i64 b.f0,.int .i64 b.f1]] w fun e w'=>e = .returned (.agg #[.int .i64 (binQ q a b).f0,.int .i64 (binQ q a b).f1,.int .i64 (binQ q a b).f2,.int .i64 (binQ q a b).f3,.int .i64 (binQ q a b).f4])/\Below w.heap.size w w':=by
 by_cases hcc:a.f0=1/\b.f0=1
 ·have e:binQ q a b=⟨1,q.f1,0,0,ap q.f4 a.f1 b.f1⟩:=if_pos hcc
  rw [e]
  exact foldBin_yes _ _ _ _ _ a b hcc.1 hcc.2 w
 exact foldBin_no q.f0 q.f1 q.f2 q.f3 q.f4 h1 h2 a b hcc w
theorem run_storeQ {op:Oper} {x y:Operand} {ev:Operand->Value} {w:World} (ho:op.op = .store TQ x y) {g:Nat} (hx:ev x = .pointer (some ⟨g,0,none⟩)) {v0 v1 v2 v3 v4:Int} (hy:ev y = .agg #[.int .i64 v0,.int .i64 v1,.int .i64 v2,.int .i64 v3,.int .i64 v4]) (hb:w.heap[g]?=some (.cells (ics [0,0,0,0,0]) TQ (0,0))):(execOp ev op).run Try.prog w = .ok .skip (w.setCells g 0 (encs (Value.int .i64) [v0,v1,v2,v3,v4])):=by
 have h1:=run_storeVar_mid (P:=Try.prog) w g 0 TQ (ics [v0,v1,v2,v3,v4]) (by rw [ics_size];exact there_ints hb (by simp)) (sizeQ rfl) (ics_one _)
 have hy':ev y = .agg (ics [v0,v1,v2,v3,v4]):=hy
 unfold execOp
 simp only [ho,hx,hy',Instr.storeAt,Instr.sureAddr,Sem.run_bind,Sem.run_pure,Result.andThen_ok,h1]
theorem IfoldQuad_calls_s0 {G:Prop} (h:G:=by
  go_enter Try.func69,Try.ntmps69
  go_wp2_with (first|((with_reducible refine jd 3 rfl ?_);refine jX #[.int .i64 q.f0,.int .i64 q.f1,.int .i64 q.f2,.int .i64 q.f3,.int .i64 q.f4] TQ ?_;intro g3 hg w23 hbox hb;have B3:=aM hbox;have G3:=kG hg;replace HB:=kH hb;clear hg hbox hb)|((with_reducible refine jd 5 rfl ?_);refine jX (ics (fl x)) T12 ?_;intro g5 hg w25 hbox hb;replace B3:=kB B3 hb;have B5:=aM hbox;have G5:=kG hg;replace HB:=kH hb;clear hg hbox hb)|((with_reducible refine jd 6 rfl ?_);refine jX (ics [0,0,0,0,0]) TQ ?_;intro g6 hg w26 hbox hb;replace B3:=kB B3 hb;replace B5:=kB B5 hb;have B6:=aM hbox;have G6:=kG hg;replace HB:=kH hb;clear hg hbox hb;obtain⟨q0,q1,q2,q3,q4⟩:=cells5' B3.out;have a0:=fact0 B5.out hx.1 ra;have a1:=fact1 B5.out hx.1 ra;have b0:=fact0 B5.out hx.1 rb;have b1:=fact1 B5.out hx.1 rb)|(go_at_call 97;(with_reducible refine (IFact_is.calls _ _ _ _ _ eis.out).mono ?_);rintro e w30 ⟨rfl,hb⟩;replace B3:=kB B3 hb;replace B5:=kB B5 hb;replace B6:=kB B6 hb;replace HB:=kH hb;clear hb q0 q1 q2 q3 q4 a0 a1 b0 b1;obtain⟨q0,q1,q2,q3,q4⟩:=cells5' B3.out;have a0:=fact0 B5.out hx.1 ra;have a1:=fact1 B5.out hx.1 ra;have b0:=fact0 B5.out hx.1 rb;have b1:=fact1 B5.out hx.1 rb)|((with_reducible refine gate_store (t:=TQ) (p:=6) rfl ?_);refine storeQ (p:=6) rfl rfl rfl rfl B6.out ?_;intro w32 hw hb6;replace HB:=aM (below_ hw G6.out HB.out);clear B6 hw q0 q1 q2 q3 q4 a0 a1 b0 b1;have B6:=aM hb6;clear hb6))
  exact bodyPost_ret (retQ rfl rfl B6.out) rfl ⟨by rw [HRES.out],HB.out⟩):G:=h
theorem IfoldQuad.calls {q:SQ} {m:Int} (hq:QV (q_ q) m) {i:Nat} (hi:i < 1000) {x:List SF} (hx:okR x) (hr:(fa x 0).f0≠0) (w:World) :
  Calls Try.prog 69 #[.agg #[.int .i64 q.f0,.int .i64 q.f1,.int .i64 q.f2,.int .i64 q.f3,.int .i64 q.f4],.int .i64 (i:Int),.agg (ics (fl x))] w fun e w'=>e = .returned (.agg #[.int .i64 (foldQ q x i).f0,.int .i64 (foldQ q x i).f1,.int .i64 (foldQ q x i).f2,.int .i64 (foldQ q x i).f3,.int .i64 (foldQ q x i).f4])/\Below w.heap.size w w':=by
 have HB:=aM (Below.refl w.heap.size w)
 obtain⟨⟨d1,d2⟩,⟨a1,a2⟩,b1,b2⟩:=regs_of hq
 have ⟨ra,rb⟩:=regA hq
 simp only [q_] at d1 d2 a1 a2 b1 b2 ra rb
 have a1b:=decide_eq_true a1
 have a2b:=decide_eq_true a2
 have b1b:=decide_eq_true b1
 have b2b:=decide_eq_true b2
 have ef:foldQ q x i=if q.f0=2 then (if (fa x q.f2.toNat).f0=1 then ⟨1,q.f1,0,0,(fa x q.f2.toNat).f1⟩ else q) else if q.f0=3 then binQ q (fa x q.f2.toNat) (fa x q.f3.toNat) else if q.f0=5 then (if isF (fa x q.f2.toNat) 0=true then ⟨4,0,0,0,q.f4⟩ else if (fa x q.f2.toNat).f0=1 then ⟨4,0,0,0,((i+1:Nat):Int)⟩ else q) else q:=by
  rw [foldQ,if_neg hr]
 have eis:=aM (IFact_is.e (fa x q.f2.toNat) 0)
 by_cases c2:q.f0=2
 ·have c2b:(q.f0 == 2)=true:=by simp [c2]
  have c3b:(q.f0 == 3)=false:=by simp [c2]
  have c5b:(q.f0 == 5)=false:=by simp [c2]
  by_cases c1:(fa x q.f2.toNat).f0=1
  ·have c1b:((fa x q.f2.toNat).f0 == 1)=true:=by simp [c1]
   rw [if_pos c2,if_pos c1] at ef
   have HRES:=aM ef
   clear ef c1 c2 hq hr
   go_enter Try.func69,Try.ntmps69
   go_upto_region 2 with (first|((with_reducible refine jd 3 rfl ?_);refine jX #[.int .i64 q.f0,.int .i64 q.f1,.int .i64 q.f2,.int .i64 q.f3,.int .i64 q.f4] TQ ?_;intro g3 hg w23 hbox hb;have B3:=aM hbox;have G3:=kG hg;have n1:=kH hb;clear HB;have HB:=n1;clear n1 hg hbox hb)|((with_reducible refine jd 5 rfl ?_);refine jX (ics (fl x)) T12 ?_;intro g5 hg w25 hbox hb;have k3:=kB B3 hb;clear B3;have B3:=k3;clear k3;have B5:=aM hbox;have G5:=kG hg;have n1:=kH hb;clear HB;have HB:=n1;clear n1 hg hbox hb)|((with_reducible refine jd 6 rfl ?_);refine jX (ics [0,0,0,0,0]) TQ ?_;intro g6 hg w26 hbox hb;have k3:=kB B3 hb;have k5:=kB B5 hb;clear B3 B5;have B3:=k3;have B5:=k5;clear k3 k5;have B6:=aM hbox;have G6:=kG hg;have n1:=kH hb;clear HB;have HB:=n1;clear n1 hg hbox hb;obtain⟨q0,q1,q2,q3,q4⟩:=cells5' B3.out;have a0:=fact0 B5.out hx.1 ra;have a1:=fact1 B5.out hx.1 ra;have b0:=fact0 B5.out hx.1 rb;have b1:=fact1 B5.out hx.1 rb))
   refine start_ (n:=9) (S:=fun w'=>Below w26.heap.size w26 w') (ds:=[8]) (jb 9 0) (by kernel_rfl) rfl rfl (below_drew1 (Below.refl _ _)) (fun hHeld=>?_)
   generalize w26.drew=wd at hHeld ⊢
   refine jq 0 19 (jb 9 1) ?_
   refine take_ (i:=1) (N:=some 20) (v:=?_) (a':=?_) (jb 9 3) rfl rfl (by kernel_rfl) (fun _ _ _ h=>h) (Or.inl ⟨by rfl,?_⟩) hHeld ?_ ?_
   rotate_left
   ·intro w' hs
    have z0:=(hs.cell (World.block_lt_of_cell? w26 _ q1)).trans q1
    go_simp
    with_reducible rfl
   rotate_left
   ·exact qP
   refine jq 2 21 (jb 9 7) ?_
   refine take_ (i:=3) (N:=some 22) (v:=?_) (a':=?_) (jb 9 15) rfl rfl (by kernel_rfl) (fun _ _ _ h=>h) (Or.inl ⟨by rfl,?_⟩) hHeld ?_ ?_
   rotate_left
   ·intro w' hs
    have z0:=(hs.cell (World.block_lt_of_cell? w26 _ q2)).trans q2
    go_simp
    with_reducible rfl
   rotate_left
   ·exact qP
   refine jq 4 23 (jb 9 31) ?_
   refine jq 5 24 (jb 9 63) ?_
   refine take_ (i:=6) (N:=some 25) (v:=?_) (a':=?_) (jb 9 127) rfl rfl (by kernel_rfl) (fun _ _ _ h=>h) (Or.inl ⟨by rfl,?_⟩) hHeld ?_ ?_
   rotate_left
   ·intro w' hs
    have z0:=(hs.cell (World.block_lt_of_cell? w26 _ a1)).trans a1
    go_simp
    with_reducible rfl
   rotate_left
   ·exact qP
   refine jq 7 26 (jb 9 255) ?_
   refine last_ (i:=8) (N:=none) (jb 9 511) rfl rfl (by kernel_rfl) (by decide) (fun K hK=>?_)
   have B6w:=blk_below B6.out hHeld
   refine skip_ (w1:=wd.setCells g6 0 (encs (Value.int .i64) [1,q.f1,0,0,(fa x q.f2.toNat).f1])) (by rfl) rfl ?_ ?_
   ·exact run_storeQ (x:=.tmp 6) (y:=.tmp 26) (g:=g6) rfl rfl rfl B6w
   refine hK.out _ _ ?_
   clear hK K
   refine done_ (by kernel_rfl) ?_
   have hw:wd.setCells g6 0 (encs (Value.int .i64) [1,q.f1,0,0,(fa x q.f2.toNat).f1])=wd.setCells g6 0 (encs (Value.int .i64) [1,q.f1,0,0,(fa x q.f2.toNat).f1]):=rfl
   have n1:=aM (below_ hw G6.out (below_step HB.out hHeld))
   have n6:=aM (setCells_ints [1,q.f1,0,0,(fa x q.f2.toNat).f1] 0 [0,0,0,0,0] _ B6w (by simp))
   generalize wd.setCells g6 0 (encs (Value.int .i64) [1,q.f1,0,0,(fa x q.f2.toNat).f1])=w40 at n1 n6 ⊢
   replace n6:Aside0 (w40.heap[g6]?=some (.cells (ics [1,q.f1,0,0,(fa x q.f2.toNat).f1]) TQ (0,0))):=n6
   clear hw HB B6 B3 B5 q0 q1 q2 q3 q4 a0 a1 b0 b1 hHeld B6w
   go_wp2
   exact bodyPost_ret (retQ rfl rfl n6.out) rfl ⟨by rw [HRES.out],n1.out⟩
  have c1b:((fa x q.f2.toNat).f0 == 1)=false:=by simp [c1]
  rw [if_pos c2,if_neg c1] at ef
  have HRES:=aM ef
  clear ef c1 c2 hq hr
  exact IfoldQuad_calls_s0
 have c2b:(q.f0 == 2)=false:=by simp [c2]
 by_cases c3:q.f0=3
 ·have c3b:(q.f0 == 3)=true:=by simp [c3]
  have c5b:(q.f0 == 5)=false:=by simp [c3]
  have hn:1<=q.f4/\q.f4<=12:=by unfold QV q_ at hq;simp only at hq;omega
  have go:=fun W=>IfoldBin.calls hn.1 hn.2 (fa x q.f2.toNat) (fa x q.f3.toNat) W
  rw [if_neg c2,if_pos c3] at ef
  have HRES:=aM ef
  clear ef c2 c3 hq hr hn
  go_enter Try.func69,Try.ntmps69
  go_upto_region 4 with (first|((with_reducible refine jd 3 rfl ?_);refine jX #[.int .i64 q.f0,.int .i64 q.f1,.int .i64 q.f2,.int .i64 q.f3,.int .i64 q.f4] TQ ?_;intro g3 hg w23 hbox hb;have B3:=aM hbox;have G3:=kG hg;have n1:=kH hb;clear HB;have HB:=n1;clear n1 hg hbox hb)|((with_reducible refine jd 5 rfl ?_);refine jX (ics (fl x)) T12 ?_;intro g5 hg w25 hbox hb;have k3:=kB B3 hb;clear B3;have B3:=k3;clear k3;have B5:=aM hbox;have G5:=kG hg;have n1:=kH hb;clear HB;have HB:=n1;clear n1 hg hbox hb)|((with_reducible refine jd 6 rfl ?_);refine jX (ics [0,0,0,0,0]) TQ ?_;intro g6 hg w26 hbox hb;have k3:=kB B3 hb;have k5:=kB B5 hb;clear B3 B5;have B3:=k3;have B5:=k5;clear k3 k5;have B6:=aM hbox;have G6:=kG hg;have n1:=kH hb;clear HB;have HB:=n1;clear n1 hg hbox hb;obtain⟨q0,q1,q2,q3,q4⟩:=cells5' B3.out;have a0:=fact0 B5.out hx.1 ra;have a1:=fact1 B5.out hx.1 ra;have b0:=fact0 B5.out hx.1 rb;have b1:=fact1 B5.out hx.1 rb))
  refine start_ (n:=11) (S:=fun w'=>Below w26.heap.size w26 w') (ds:=[10]) (jb 11 0) (by kernel_rfl) rfl rfl (below_drew1 (Below.refl _ _)) (fun hHeld=>?_)
  generalize w26.drew=wd at hHeld ⊢
  refine take_ (i:=0) (N:=some 31) (v:=?_) (a':=?_) (jb 11 1) rfl rfl (by kernel_rfl) (fun _ _ _ h=>h) (Or.inl ⟨by rfl,?_⟩) hHeld ?_ ?_
  rotate_left
  ·intro w' hs
   have z0:=(hs.cell (World.block_lt_of_cell? w26 _ q0)).trans q0
   have z1:=(hs.cell (World.block_lt_of_cell? w26 _ q1)).trans q1
   have z2:=(hs.cell (World.block_lt_of_cell? w26 _ q2)).trans q2
   have z3:=(hs.cell (World.block_lt_of_cell? w26 _ q3)).trans q3
   have z4:=(hs.cell (World.block_lt_of_cell? w26 _ q4)).trans q4
   go_simp
   with_reducible rfl
  rotate_left
  ·exact qP
  refine jq 1 32 (jb 11 3) ?_
  refine take_ (i:=2) (N:=some 33) (v:=?_) (a':=?_) (jb 11 7) rfl rfl (by kernel_rfl) (fun _ _ _ h=>h) (Or.inl ⟨by rfl,?_⟩) hHeld ?_ ?_
  rotate_left
  ·intro w' hs
   have z0:=(hs.cell (World.block_lt_of_cell? w26 _ q2)).trans q2
   go_simp
   with_reducible rfl
  rotate_left
  ·exact qP
  refine jq 3 34 (jb 11 15) ?_
  refine take_ (i:=4) (N:=some 35) (v:=?_) (a':=?_) (jb 11 31) rfl rfl (by kernel_rfl) (fun _ _ _ h=>h) (Or.inl ⟨by rfl,?_⟩) hHeld ?_ ?_
  rotate_left
  ·intro w' hs
   have z0:=(hs.cell (World.block_lt_of_cell? w26 _ a0)).trans a0
   have z1:=(hs.cell (World.block_lt_of_cell? w26 _ a1)).trans a1
   go_simp
   with_reducible rfl
  rotate_left
  ·exact qP
  refine jq 5 36 (jb 11 63) ?_
  refine take_ (i:=6) (N:=some 37) (v:=?_) (a':=?_) (jb 11 127) rfl rfl (by kernel_rfl) (fun _ _ _ h=>h) (Or.inl ⟨by rfl,?_⟩) hHeld ?_ ?_
  rotate_left
  ·intro w' hs
   have z0:=(hs.cell (World.block_lt_of_cell? w26 _ q3)).trans q3
   go_simp
   with_reducible rfl
  rotate_left
  ·exact qP
  refine jq 7 38 (jb 11 255) ?_
  refine take_ (i:=8) (N:=some 39) (v:=?_) (a':=?_) (jb 11 511) rfl rfl (by kernel_rfl) (fun _ _ _ h=>h) (Or.inl ⟨by rfl,?_⟩) hHeld ?_ ?_
  rotate_left
  ·intro w' hs
   have z0:=(hs.cell (World.block_lt_of_cell? w26 _ b0)).trans b0
   have z1:=(hs.cell (World.block_lt_of_cell? w26 _ b1)).trans b1
   go_simp
   with_reducible rfl
  rotate_left
  ·exact qP
  refine one_ (i:=9) (N:=some 40) (jb 11 1023) rfl rfl (by kernel_rfl) (by decide) (fun K hK=>?_)
  refine goes_ Try.func96 (by kernel_rfl) rfl #[.agg #[.int .i64 q.f0,.int .i64 q.f1,.int .i64 q.f2,.int .i64 q.f3,.int .i64 q.f4],.agg #[.int .i64 (fa x q.f2.toNat).f0,.int .i64 (fa x q.f2.toNat).f1],.agg #[.int .i64 (fa x q.f3.toNat).f0,.int .i64 (fa x q.f3.toNat).f1]] (by rfl) rfl rfl qM ?_
  (with_reducible refine (go _).mono ?_)
  rintro e w33 ⟨rfl,hb⟩
  refine⟨_,rfl,?_⟩
  refine hK.out _ _ (below_step hHeld hb) (fun hHeld=>?_)
  clear hK K hb
  refine norm_ (a':=?_) ?_ ?_
  rotate_left
  ·show Act.put _ (some 40) _=_
   simp only [Act.put,List.setIfInBounds_toArray,List.set_cons_zero,List.set_cons_succ,i64_w,i32_w]
   rfl
  refine last_ (i:=10) (N:=none) (jb 11 2047) rfl rfl (by kernel_rfl) (by decide) (fun K hK=>?_)
  have B6w:=blk_below B6.out hHeld
  refine skip_ (w1:=w33.setCells g6 0 (encs (Value.int .i64) [(binQ q (fa x q.f2.toNat) (fa x q.f3.toNat)).f0,(binQ q (fa x q.f2.toNat) (fa x q.f3.toNat)).f1,(binQ q (fa x q.f2.toNat) (fa x q.f3.toNat)).f2,(binQ q (fa x q.f2.toNat) (fa x q.f3.toNat)).f3,(binQ q (fa x q.f2.toNat) (fa x q.f3.toNat)).f4])) (by rfl) rfl ?_ ?_
  ·exact run_storeQ (x:=.tmp 6) (y:=.tmp 40) (g:=g6) rfl rfl rfl B6w
  refine hK.out _ _ ?_
  clear hK K
  refine done_ (by kernel_rfl) ?_
  have hw:w33.setCells g6 0 (encs (Value.int .i64) [(binQ q (fa x q.f2.toNat) (fa x q.f3.toNat)).f0,(binQ q (fa x q.f2.toNat) (fa x q.f3.toNat)).f1,(binQ q (fa x q.f2.toNat) (fa x q.f3.toNat)).f2,(binQ q (fa x q.f2.toNat) (fa x q.f3.toNat)).f3,(binQ q (fa x q.f2.toNat) (fa x q.f3.toNat)).f4])=w33.setCells g6 0 (encs (Value.int .i64) [(binQ q (fa x q.f2.toNat) (fa x q.f3.toNat)).f0,(binQ q (fa x q.f2.toNat) (fa x q.f3.toNat)).f1,(binQ q (fa x q.f2.toNat) (fa x q.f3.toNat)).f2,(binQ q (fa x q.f2.toNat) (fa x q.f3.toNat)).f3,(binQ q (fa x q.f2.toNat) (fa x q.f3.toNat)).f4]):=rfl
  have n1:=aM (below_ hw G6.out (below_step HB.out hHeld))
  have n6:=aM (setCells_ints [(binQ q (fa x q.f2.toNat) (fa x q.f3.toNat)).f0,(binQ q (fa x q.f2.toNat) (fa x q.f3.toNat)).f1,(binQ q (fa x q.f2.toNat) (fa x q.f3.toNat)).f2,(binQ q (fa x q.f2.toNat) (fa x q.f3.toNat)).f3,(binQ q (fa x q.f2.toNat) (fa x q.f3.toNat)).f4] 0 [0,0,0,0,0] _ B6w (by simp))
  generalize w33.setCells g6 0 (encs (Value.int .i64) [(binQ q (fa x q.f2.toNat) (fa x q.f3.toNat)).f0,(binQ q (fa x q.f2.toNat) (fa x q.f3.toNat)).f1,(binQ q (fa x q.f2.toNat) (fa x q.f3.toNat)).f2,(binQ q (fa x q.f2.toNat) (fa x q.f3.toNat)).f3,(binQ q (fa x q.f2.toNat) (fa x q.f3.toNat)).f4])=w40 at n1 n6 ⊢
  replace n6:Aside0 (w40.heap[g6]?=some (.cells (ics [(binQ q (fa x q.f2.toNat) (fa x q.f3.toNat)).f0,(binQ q (fa x q.f2.toNat) (fa x q.f3.toNat)).f1,(binQ q (fa x q.f2.toNat) (fa x q.f3.toNat)).f2,(binQ q (fa x q.f2.toNat) (fa x q.f3.toNat)).f3,(binQ q (fa x q.f2.toNat) (fa x q.f3.toNat)).f4]) TQ (0,0))):=n6
  clear hw HB B6 B3 B5 q0 q1 q2 q3 q4 a0 a1 b0 b1 hHeld B6w
  go_wp2
  exact bodyPost_ret (retQ rfl rfl n6.out) rfl ⟨by rw [HRES.out],n1.out⟩
 have c3b:(q.f0 == 3)=false:=by simp [c3]
 rw [if_neg c2,if_neg c3] at ef
 by_cases c5:q.f0=5
 ·have c5b:(q.f0 == 5)=true:=by simp [c5]
  rw [if_pos c5] at ef
  cases cz:isF (fa x q.f2.toNat) 0 with
  | true =>
   rw [cz,if_pos rfl] at ef
   rw [cz] at eis
   have HRES:=aM ef
   clear ef c2 c3 c5 hq hr cz
   exact IfoldQuad_calls_s0
  | false =>
   rw [cz,if_neg (by decide)] at ef
   rw [cz] at eis
   by_cases c1:(fa x q.f2.toNat).f0=1
   ·have c1b:((fa x q.f2.toNat).f0 == 1)=true:=by simp [c1]
    rw [if_pos c1,<- wrap_up (show i < 9223372036854775807 by omega)] at ef
    have HRES:=aM ef
    clear ef c2 c3 c5 hq hr cz c1 hi
    exact IfoldQuad_calls_s0
   have c1b:((fa x q.f2.toNat).f0 == 1)=false:=by simp [c1]
   rw [if_neg c1] at ef
   have HRES:=aM ef
   clear ef c2 c3 c5 hq hr cz c1
   exact IfoldQuad_calls_s0
 have c5b:(q.f0 == 5)=false:=by simp [c5]
 rw [if_neg c5] at ef
 have HRES:=aM ef
 clear ef c2 c3 c5 hq hr
 exact IfoldQuad_calls_s0
theorem ev_val {α:Type} {F:Nat->Option α} {v r:α} (hm:∀ k,LeO (F k) (F (k+1))) (h:Ev F v) {k:Nat} (hk:F k=some r):r=v:=by
 obtain⟨K,hK⟩:=h
 have up:∀ d,F (k+d)=some r:=by
  intro d
  induction d with
  | zero=>exact hk
  | succ d ih=>exact hm _ _ ih
 have:=up K
 rw [hK (k+K) (by omega)] at this
 exact (Option.some.inj this).symm
def IFoldCode.f (k:Nat) (l0:List SQ):Option (List SQ × Bool):=SFoldCode.f k l0
theorem IFoldCode.mono:∀ a0 k,LeO (IFoldCode.f k a0) (IFoldCode.f (k+1) a0):=SFoldCode.mono
/-- A quad put into a row of quads. -/
theorem putQ {W:World} {base g n cap:Nat} {ok:Nat->Prop} {xs:List SQ} (h:Kd.R k46 TQ W base ok (.slice (some ⟨g,0,none⟩) n cap) xs) {i:Int} (h0:0<=i) (h1:i < n) (y:SQ) :
  Kd.R k46 TQ (W.setCells g (i.toNat*5) (encs (Value.int .i64) [y.f0,y.f1,y.f2,y.f3,y.f4])) base ok (.slice (some ⟨g,0,none⟩) n cap) (xs.set i.toNat y)/\W.grownBy (W.setCells g (i.toNat*5) (encs (Value.int .i64) [y.f0,y.f1,y.f2,y.f3,y.f4])) (some g)/\W.there g (i.toNat*5) 5:=by
 obtain⟨ce,hcl,hM,hcc,hfr⟩:=Kd.R_elem h z46 i h0 h1
 obtain rfl:=k46_openM hM
 have HP:=Kd.R_seg h i h0 h1 (seg:=encs (Value.int .i64) [y.f0,y.f1,y.f2,y.f3,y.f4]) (j:=0) hcl hcc (by show 0+5<=5;omega) (x':=y) (k46_mkM _ _ _ y) (fun _ hk=>hk)
 refine⟨HP.1,HP.2,fun j hj=>?_⟩
 have hj':j=0\/j=1\/j=2\/j=3\/j=4:=by omega
 refine⟨?_,hfr j⟩
 have e:∀ u,_:=fun u=>hcc j u
 rcases hj' with rfl|rfl|rfl|rfl|rfl
 all_goals
  rw [show W.cell? ⟨g,i.toNat*5+_,none⟩=_ from hcc _ _ rfl]
  rfl
theorem run_putQ {op:Oper} {x y:Operand} {ev:Operand->Value} {w:World} (ho:op.op = .store TQ x y) {g i:Nat} (hx:ev x = .pointer (some ⟨g,i,none⟩)) {v0 v1 v2 v3 v4:Int} (hy:ev y = .agg #[.int .i64 v0,.int .i64 v1,.int .i64 v2,.int .i64 v3,.int .i64 v4]) (ht:w.there g i 5):(execOp ev op).run Try.prog w = .ok .skip (w.setCells g i (encs (Value.int .i64) [v0,v1,v2,v3,v4])):=by
 have h1:=run_storeVar_mid (P:=Try.prog) w g i TQ (ics [v0,v1,v2,v3,v4]) (by rw [ics_size];exact ht) (sizeQ rfl) (ics_one _)
 have hy':ev y = .agg (ics [v0,v1,v2,v3,v4]):=hy
 unfold execOp
 simp only [ho,hx,hy',Instr.storeAt,Instr.sureAddr,Sem.run_bind,Sem.run_pure,Result.andThen_ok,h1]
theorem CV.go {c:List SQ} {b:Bool} (hb:cvB c=b) (A0:Option Addr) (c0:Nat) (w:World) (hr0:Kd.C k46 w A0 c.length c) (hc0:c.length<=c0):Calls Try.prog 34 #[.slice A0 c.length c0] w fun e w'=>e = .returned (.bool b)/\Below w.heap.size w w':=by
 obtain⟨k,hk⟩:=(ICodeValid.ev c).get
 rw [hb] at hk
 exact ICodeValid.calls k A0 c0 c b w hr0 hc0 hk
theorem FoldCode.bad {c:List SQ} (h:¬ CV (qs c)) (A0:Option Addr) (c0:Nat) (w:World) (hr0:Kd.C k46 w A0 c.length c) (hc0:c.length<=c0) :
  Calls Try.prog 49 #[.slice A0 c.length c0] w fun e w'=>∃ v0_:Value,e = .returned (.tuple #[v0_,.bool false])/\Kd.R k46 TQ w' w.heap.size (fun _=>True) v0_ ([]:List SQ)/\Below w.heap.size w w':=by
 have HR0:=aM hr0
 have HC0:=aM hc0
 clear hr0 hc0
 have hv:cvB c=false:=decide_eq_false h
 have HV:=aM hv
 clear h hv
 have HB:=aM (Below.refl w.heap.size w)
 go_enter Try.func49,Try.ntmps49
 go_wp2_with (first|(go_at_call 34;(with_reducible refine (CV.go HV.out A0 c0 _ ?s1 HC0.out).mono ?_);(case s1=>exact Kd.C_below HR0.out HB.out);rintro e w5 ⟨rfl,hb⟩;replace HB:=kH hb;clear hb))
 go_ret2
 exact⟨_,rfl,Kd.R_nil _ _ _ _ _,HB.out⟩
theorem FoldCode.good {c:List SQ} (h:CV (qs c)) (A0:Option Addr) (c0:Nat) (w:World) (hr0:Kd.C k46 w A0 c.length c) (hc0:c.length<=c0) :
  Calls Try.prog 49 #[.slice A0 c.length c0] w fun e w'=>∃ (v0_:Value) (U:List (List SF)),(FS c).Lfp U/\e = .returned (.tuple #[v0_,.bool true])/\Kd.R k46 TQ w' w.heap.size (fun _=>True) v0_ (foldC U c)/\Below w.heap.size w w':=by
 have HR0:=aM hr0
 have HC0:=aM hc0
 clear hr0 hc0
 have h6:=cv600 h
 have hcl:IQuad.f c=some c:=if_pos (by omega)
 have HCL:=aM hcl
 have HV:=aM (show cvB c=true from decide_eq_true h)
 clear hcl
 have HB:=aM (Below.refl w.heap.size w)
 go_enter Try.func49,Try.ntmps49
 go_wp2_with (first|(go_at_call 34;(with_reducible refine (CV.go HV.out A0 c0 _ ?s1 HC0.out).mono ?_);(case s1=>exact Kd.C_below HR0.out HB.out);rintro e w5 ⟨rfl,hb⟩;replace HB:=kH hb;clear hb)|(go_at_call 47;(with_reducible refine (IQuad.calls A0 c0 c c _ ?s2 HC0.out HCL.out).mono ?_);(case s2=>exact Kd.C_below HR0.out HB.out);rintro e w6 ⟨v4,rfl,ho,hb⟩;have HO:=aM (Kd.R_lower ho HB.out.size);replace HB:=kH hb;clear hb ho)|(go_at_call 68;(with_reducible refine (IfactsBefore.calls h A0 c0 _ ?s3 HC0.out).mono ?_);(case s3=>exact Kd.C_below HR0.out HB.out);rintro e w7 ⟨g,U,hU,rfl,hg,hbk,hb⟩;have HU:=aM hU;have GG:=aM (Nat.le_trans HB.out.size hg);have BG:=aM hbk;replace HO:=kR HO hb;replace HB:=kH hb;clear hb hU hg hbk))
 obtain⟨go4,co4,rfl,gb4,gl4,cl4,HG4⟩:=Kd.R_form HO.out (by omega)
 have GB4:=aM gb4
 have N4:Aside0 (g≠go4):=⟨fun z=>by
  subst z
  have x:=HG4.symm.trans BG.out
  simp only [Option.some.injEq,Obj.cells.injEq] at x
  exact absurd x.2.1 (by decide)⟩
 clear gb4 gl4 HG4
 have hst:=HU.out.1.1
 have fl0:=foldC_len U c
 have FL:=aM fl0
 clear fl0
 go_loopg [15] c.length (fun kq v15 w'=>∃ (pi:Int) (p:Nat),v15 = .int .i64 pi/\Aside0 (pi=(p:Int)/\p+kq=c.length)/\Aside0 (w'.heap[g]?=some (.cells (ics (flat U)) T12 (0,0)))/\Aside0 (Kd.R k46 TQ w' w.heap.size (fun _=>True) (.slice (some ⟨go4,0,none⟩) c.length co4) ((foldC U c).take p ++ c.drop p))/\Aside0 (Below w.heap.size w w'))
 case atStart=>exact⟨0,0,rfl,⟨rfl,Nat.zero_add _⟩,BG,⟨by rw [List.take_zero,List.nil_append,List.drop_zero];exact HO.out⟩,HB⟩
 clear BG HO HB
 obtain⟨pi,p,rfl,HP,BG,HO,HB⟩:=hrel
 rcases gk with _|k1
 ·have ep:p=c.length:=by have:=HP.out.2;omega
  subst ep
  have hpi:pi=(c.length:Int):=HP.out.1
  subst hpi
  go_wp2
  go_ret2
  exact⟨_,U,HU.out,rfl,by have:=HO.out;rwa [List.take_of_length_le (by rw [FL.out];exact Nat.le_refl _),List.drop_eq_nil_of_le (Nat.le_refl _),List.append_nil] at this,HB.out⟩
 have hp:p < c.length:=by have:=HP.out.2;omega
 have hpi:pi=(p:Int):=HP.out.1
 have hUl:U.length=c.length:=hst.1
 obtain⟨x,hx⟩:∃ x,x=(FS c).at' U p:=⟨_,rfl⟩
 have okx:okR x:=by rw [hx];exact hst.2 p hp
 have x24:(fl x).length=24:=by rw [fl_len,okx.1]
 have hrg:wr.rangeAt g (pi.toNat*24) (encs (Value.int .i64) (fl x)):=by
  have:=range_row BG.out (st_all hst) (i:=p) (by omega)
  rw [<- FS_at (c:=c) (by omega),<- hx] at this
  rw [hpi,Int.toNat_natCast]
  exact this
 have p0:0<=pi:=by omega
 have p1:pi < (c.length:Int):=by omega
 obtain⟨aq,e2,x0,x1,x2,x3,x4⟩:=at_T46 HR0.out pi p0 p1
 cases e2
 have rq:rd_T46 c pi=qa c p:=by rw [hpi];exact rd_qa c p
 rw [rq] at x0 x1 x2 x3 x4
 have hq:=cv_at h hp
 have hget:(foldC U c).getD p z46=foldQ (qa c p) x p:=by rw [hx];exact foldC_get U hp
 have hnext:=mix_next z46 (foldC_len U c) (p:=p) (by rw [foldC_len];exact hp)
 rw [hget] at hnext
 have HN:=aM hnext
 have HG:=aM hget
 have HPI:=aM hpi
 have p0t:=eq_true p0
 have p1t:=eq_true p1
 have p0b:=decide_eq_true p0
 have p1b:=decide_eq_true p1
 have P01:=aM (And.intro p0 p1)
 clear hnext hget hpi hx rq p0 p1
 go_upto_if 23 with (first|((with_reducible refine load12 (N:=19) rfl rfl rfl rfl x24 hrg ?_))|((with_reducible refine jd 6 rfl ?_);refine jX (ics z24) T12 ?_;intro g6 hg w20 hbox hb;have N6:=aM (show g≠g6 by rw [hg];exact Nat.ne_of_lt (blk_lt BG.out));have G6:=kG hg;have n2:=kB BG hb;have n4:=kR HO hb;have n1:=kH hb;clear HB BG HO hrg;have HB:=n1;have BG:=n2;have HO:=n4;have B6:=aM hbox;clear n1 n2 n4 hg hbox hb)|((with_reducible refine store12 (p:=6) (v:=19) rfl rfl rfl rfl x24 B6.out (by decide) ?_);intro w21 hw hb6;rw [over_all (by rw [x24];rfl)] at hb6;have n2:=aM (far_ hw N6.out BG.out);have n4:=aM (Kd.R_mono (R_set_ hw (fun _ hk=>hk.2) (Kd.R_types HO.out B6.out (by decide))) (fun _ hk=>hk.1));have n1:=aM (below_ hw G6.out HB.out);clear HB BG HO B6 hw;have HB:=n1;have BG:=n2;have HO:=n4;have B6:=aM hb6;clear n1 n2 n4 hb6;have k0:w21.cell? ⟨g6,0,none⟩=some (.int .i64 (fa x 0).f0):=fact0 B6.out okx.1 (i:=0) (by decide)))
 by_cases ck:(fa x 0).f0=0
 ·have ckb:((fa x 0).f0 != 0)=false:=by simp [ck]
  have hfq:foldQ (qa c p) x p=qa c p:=by rw [foldQ,if_pos ck]
  have hs:(foldC U c).take p ++ c.drop p=(foldC U c).take (p+1) ++ c.drop (p+1):=mix_same z46 (foldC_len U c) (by rw [foldC_len];exact hp) (by rw [HG.out,hfq];rfl)
  have HS:=aM hs
  clear hs hfq ck k0
  go_wp2
  go_roundg k1
  case measure=>omega
  exact⟨_,p+1,rfl,⟨by have:=HPI.out;(first|omega|(rw [wrap_id (by omega) (by omega)];omega)),by have:=HP.out.2;omega⟩,BG,⟨by rw [<- HS.out];exact HO.out⟩,HB⟩
 have ckb:((fa x 0).f0 != 0)=true:=by simp [ck]
 have go:=fun W=>IfoldQuad.calls hq (show p < 1000 by omega) okx ck W
 rw [<- HPI.out] at go
 have y0:=kx HB x0
 have y1:=kx HB x1
 have y2:=kx HB x2
 have y3:=kx HB x3
 have y4:=kx HB x4
 clear ck x0 x1 x2 x3 x4
 go_wp2_with fail
 refine start_ (n:=11) (S:=fun w'=>Below w21.heap.size w21 w') (ds:=[10]) (jb 11 0) (by kernel_rfl) rfl rfl (below_drew1 (Below.refl _ _)) (fun hHeld=>?_)
 generalize w21.drew=wd at hHeld ⊢
 refine jq 0 24 (jb 11 1) ?_
 refine jq 1 25 (jb 11 3) ?_
 refine jq 2 26 (jb 11 7) ?_
 refine jq 3 27 (jb 11 15) ?_
 refine jq 4 28 (jb 11 31) ?_
 refine take_ (i:=5) (N:=some 29) (v:=?_) (a':=?_) (jb 11 63) rfl rfl (by kernel_rfl) (fun _ _ _ h=>h) (Or.inl ⟨by rfl,?_⟩) hHeld ?_ ?_
 rotate_left
 ·intro w' hs
  have z0:=(hs.cell (World.block_lt_of_cell? w21 _ y0)).trans y0
  have z1:=(hs.cell (World.block_lt_of_cell? w21 _ y1)).trans y1
  have z2:=(hs.cell (World.block_lt_of_cell? w21 _ y2)).trans y2
  have z3:=(hs.cell (World.block_lt_of_cell? w21 _ y3)).trans y3
  have z4:=(hs.cell (World.block_lt_of_cell? w21 _ y4)).trans y4
  go_simp
  with_reducible rfl
 rotate_left
 ·exact qP
 refine jq 6 30 (jb 11 127) ?_
 refine take_ (i:=7) (N:=some 31) (a':=?_) (jb 11 255) rfl rfl (by kernel_rfl) (fun _ _ _ h=>h) (yieldsIf_load_mid (by rfl) T12 (.tmp 6) rfl g6 0 rfl _ _ (fun w' hs=>range_below (range_all B6.out) hs) Try.underlying76 rfl (size12' x24)) hHeld ?_ ?_
 rotate_left
 ·exact qP
 refine one_ (i:=8) (N:=some 32) (jb 11 511) rfl rfl (by kernel_rfl) (by decide) (fun K hK=>?_)
 refine goes_ Try.func69 (by kernel_rfl) rfl #[.agg #[.int .i64 (qa c p).f0,.int .i64 (qa c p).f1,.int .i64 (qa c p).f2,.int .i64 (qa c p).f3,.int .i64 (qa c p).f4],.int .i64 pi,.agg (ics (fl x))] (by rfl) rfl rfl qM ?_
 (with_reducible refine (go _).mono ?_)
 rintro e w33 ⟨rfl,hb⟩
 refine⟨_,rfl,?_⟩
 refine hK.out _ _ (below_step hHeld hb) (fun hHeld=>?_)
 clear hK K hb
 refine norm_ (a':=?_) ?_ ?_
 rotate_left
 ·show Act.put _ (some 32) _=_
  simp only [Act.put,List.setIfInBounds_toArray,List.set_cons_zero,List.set_cons_succ,i64_w,i32_w]
  rfl
 refine jq 9 33 (jb 11 1023) ?_
 refine last_ (i:=10) (N:=none) (jb 11 2047) rfl rfl (by kernel_rfl) (by decide) (fun K hK=>?_)
 have HO2:=Kd.R_below HO.out hHeld
 obtain⟨P1,P2,P3⟩:=putQ HO2 P01.out.1 P01.out.2 (foldQ (qa c p) x p)
 refine skip_ (w1:=w33.setCells go4 (pi.toNat*5) (encs (Value.int .i64) [(foldQ (qa c p) x p).f0,(foldQ (qa c p) x p).f1,(foldQ (qa c p) x p).f2,(foldQ (qa c p) x p).f3,(foldQ (qa c p) x p).f4])) (by rfl) rfl ?_ ?_
 ·exact run_putQ (x:=.tmp 33) (y:=.tmp 32) (g:=go4) rfl rfl rfl P3
 refine hK.out _ _ ?_
 clear hK K
 refine done_ (by kernel_rfl) ?_
 have m1:=aM (setCells_below GB4.out (encs (Value.int .i64) [(foldQ (qa c p) x p).f0,(foldQ (qa c p) x p).f1,(foldQ (qa c p) x p).f2,(foldQ (qa c p) x p).f3,(foldQ (qa c p) x p).f4]) (pi.toNat*5) w33 (below_step HB.out hHeld))
 have m2:=aM (setCells_far N4.out (encs (Value.int .i64) [(foldQ (qa c p) x p).f0,(foldQ (qa c p) x p).f1,(foldQ (qa c p) x p).f2,(foldQ (qa c p) x p).f3,(foldQ (qa c p) x p).f4]) (pi.toNat*5) w33 (blk_below BG.out hHeld))
 have m3:=aM P1
 generalize w33.setCells go4 (pi.toNat*5) (encs (Value.int .i64) [(foldQ (qa c p) x p).f0,(foldQ (qa c p) x p).f1,(foldQ (qa c p) x p).f2,(foldQ (qa c p) x p).f3,(foldQ (qa c p) x p).f4])=w40 at m1 m2 m3 ⊢
 clear HB BG HO HO2 P1 P2 P3 hHeld B6 y0 y1 y2 y3 y4 k0 go
 go_wp2
 go_roundg k1
 case measure=>omega
 exact⟨_,p+1,rfl,⟨by have:=HPI.out;(first|omega|(rw [wrap_id (by omega) (by omega)];omega)),by have:=HP.out.2;omega⟩,m2,⟨by have:=m3.out;rw [show pi.toNat=p by rw [HPI.out,Int.toNat_natCast],HN.out] at this;exact this⟩,m1⟩
theorem IFoldCode.calls (k:Nat) (A0:Option Addr) (c0:Nat) (l0:List SQ) (r1:List SQ) (r2:Bool) (w:World) (hr0:Kd.C k46 w A0 l0.length l0) (hc0:l0.length<=c0) (h:IFoldCode.f k l0=some (r1,r2)) :
  Calls Try.prog 49 #[.slice A0 l0.length c0] w fun e w'=>∃ v0_:Value,e = .returned (.tuple #[v0_,.bool r2])/\Kd.R k46 TQ w' w.heap.size (fun _=>True) v0_ r1/\Below w.heap.size w w':=by
 by_cases hv:CV (qs l0)
 ·obtain⟨U,hU,hE⟩:=SFoldCode.ev hv
  have e:=ev_val (fun k=>IFoldCode.mono l0 k) hE h
  obtain⟨rfl,rfl⟩:=Prod.mk.inj e
  refine (FoldCode.good hv A0 c0 w hr0 hc0).mono ?_
  rintro e w' ⟨v,V,hV,rfl,hR,hb⟩
  rw [Sys.lfp_unique (FS_laws hv) hV hU] at hR
  exact⟨v,rfl,hR,hb⟩
 have e:=ev_val (fun k=>IFoldCode.mono l0 k) (SFoldCode.bad hv) h
 obtain⟨rfl,rfl⟩:=Prod.mk.inj e
 exact FoldCode.bad hv A0 c0 w hr0 hc0
end Go.Proofs.Ytahbkldagpfcaaa.M
