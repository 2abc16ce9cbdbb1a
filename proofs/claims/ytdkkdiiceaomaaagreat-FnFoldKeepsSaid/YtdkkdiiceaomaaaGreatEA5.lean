/- A function as plain Lean and its contract: written by a program of this session's, turned from the kit's print. -/
import Derived.Test.YtdkkdiiceaomaaaGreatEA4
import Derived.ChangeKeysEq
import Derived.WalkSpells
import Derived.Test.YtdkkdiiceaomaaaGreatRows
import Derived.WalkKit
import Derived.ProofKit
import Derived.OpenShut
import Derived.ShutString
import Derived.ChangeOld
import Derived.Below
import Derived.SizedLaws
import Derived.Test.YtdkkdiiceaomaaaGreatEAWSized
set_option linter.unusedVariables false
set_option linter.unusedSimpArgs false
set_option maxHeartbeats 8000000
set_option maxRecDepth 100000
namespace Go.Proofs.YtdkkdiiceaomaaaGreat.M
open Go.Proofs.Tryz Go.RowKit Go.Proofs.YtdkkdiiceaomaaaGreatW.PrintWords Go.Proofs.YtdkkdiiceaomaaaGreatW.PrintLast Go.Proofs.YtdkkdiiceaomaaaGreatW.PrintMore PM
theorem aoq {c:List SQ} (h:CV (qs c)) {i:Nat} (hi:i < c.length) {v:List Int} (hv:okC v) (gv:v≠[]) {es:List Nat} (hl:es.length < 1000) (he:∀ e∈es,e < c.length) {R:Bool × List (List Int)}:∀ (d p:Nat) (T:List (List Int)) (b:Bool),p+d=es.length->(CS c).St T->Ev (fun k=>adF k c (Sys.pass (CS c) ((es.drop p).map fun e=>(e,v)) T b).1 (Sys.pass (CS c) ((es.drop p).map fun e=>(e,v)) T b).2 ((i+1:Nat):Int)) R->Ev (fun k=>aeI k c T b (i:Int) (ints es) v (p:Int)) R
 | 0,p,T,b,hp,hT,g=>by
  refine Ev.succ ?_;have h6:=abh h;rw [List.drop_eq_nil_of_le (by omega)] at g;simp only [aeI,ab1,aav (show i < 9223372036854775807 by omega)];exact aa5 g
 | d+1,p,T,b,hp,hT,g=>by
  refine Ev.succ ?_;have h6:=abh h;have hm:es.getD p 0 < c.length:=he _ (ada (by omega));have hn:T.length=c.length:=hT.1;have hc:=aqn (T:=T) (e:=es.getD p 0) (by omega) (by omega) (a:=(CS c).at' T (es.getD p 0)) (hT.2 _ hm) hv gv rfl;rw [acu 0 (show p < es.length by omega)] at g;have hT':=Sys.put_st (agt h) hT (p:=(es.getD p 0,v)) hm hv;simp only [aeI,ab1,ad6,aav (show p < 9223372036854775807 by omega)];refine aa2 (aa2 (Ev.bind hc ?_));have go:=fun b'=>aoq h hi hv gv hl he (R:=R) d (p+1) (Sys.put (CS c) T (es.getD p 0,v)) b' (by omega) hT'
  by_cases e:jC ((CS c).at' T (es.getD p 0)) v=(CS c).at' T (es.getD p 0)
  ·rw [decide_eq_true e];refine aa5 (go b ?_)
   have:=g
   simp only [List.map_cons,Sys.pass] at this
   rwa [show decide ((CS c).jn ((CS c).at' T (es.getD p 0)) v=(CS c).at' T (es.getD p 0))=true from decide_eq_true e,Bool.not_true,Bool.or_false] at this
  rw [decide_eq_false e];refine aa2 (go true ?_)
  have:=g
  simp only [List.map_cons,Sys.pass] at this
  rwa [show decide ((CS c).jn ((CS c).at' T (es.getD p 0)) v=(CS c).at' T (es.getD p 0))=false from decide_eq_false e,Bool.not_false,Bool.or_true] at this
theorem Sbj.out {c:List SQ} (h:CV (qs c)):∀ (d:Nat),d<=c.length->∀ (T:List (List Int)) (b:Bool),(CS c).St T->Ev (fun k=>adF k c T b ((c.length - d:Nat):Int)) ((Sys.rnds (CS c) d T b).2,(Sys.rnds (CS c) d T b).1)
 | 0,hd,T,b,hT=>by
  refine Ev.succ ?_;simp only [adF,Nat.sub_zero];exact aa5 Ev.pure
 | d+1,hd,T,b,hT=>by
  refine Ev.succ ?_;have h6:=abh h;have hi:c.length - (d+1) < c.length:=by omega
  have hn:T.length=c.length:=hT.1
  have hr:ab0 T ((c.length - (d+1):Nat):Int)=(CS c).at' T (c.length - (d+1)):=by
   unfold ab0;rw [Int.toNat_natCast];rfl
  have ok:=hT.2 _ hi;have hw:=aav (show c.length - (d+1) < 9223372036854775807 by omega);have hs:((c.length - (d+1)+1:Nat):Int)=((c.length - d:Nat):Int):=by congr 1;omega
  obtain⟨b1,_⟩:=Sys.pass_all (agt h) ((CS c).out (c.length - (d+1)) ((CS c).at' T (c.length - (d+1)))) T b hT ((agt h).oko _ _ hi ok);have ih:=Sbj.out h d (by omega) _ (Sys.pass (CS c) ((CS c).out (c.length - (d+1)) ((CS c).at' T (c.length - (d+1)))) T b).2 b1;simp only [adF,hr,hw,ac9];refine aa2 (aa2 (aa2 ?_));show Ev _ ((Sys.rnds (CS c) d (Sys.pass (CS c) ((CS c).out (c.length - (d+1)) ((CS c).at' T (c.length - (d+1)))) T b).1 (Sys.pass (CS c) ((CS c).out (c.length - (d+1)) ((CS c).at' T (c.length - (d+1)))) T b).2).2,(Sys.rnds (CS c) d (Sys.pass (CS c) ((CS c).out (c.length - (d+1)) ((CS c).at' T (c.length - (d+1)))) T b).1 (Sys.pass (CS c) ((CS c).out (c.length - (d+1)) ((CS c).at' T (c.length - (d+1)))) T b).2).1)
  by_cases g:(CS c).at' T (c.length - (d+1))=[]
  ·refine aa2 ?_ (by rw [g];rfl);rw [hs];have e:(CS c).out (c.length - (d+1)) ((CS c).at' T (c.length - (d+1)))=[]:=if_pos g;rw [e] at ih ⊢;exact ih
  have hL:=(acp ok g).1;refine aa5 (Ev.bind (ak2 h hi) (Ev.bind (aqo (apX h hi) ok g) ?_)) (by rw [hL];decide);have e:(CS c).out (c.length - (d+1)) ((CS c).at' T (c.length - (d+1)))=(nx (q_ (qa c (c.length - (d+1)))) (c.length - (d+1))).map fun e=>(e,ahY (q_ (qa c (c.length - (d+1)))) ((CS c).at' T (c.length - (d+1)))):=if_neg g
  refine aoq h hi (ahP (abU h hi) ok g).1 (ahP (abU h hi) ok g).2 (by have:=ajJ (q_ (qa c (c.length - (d+1)))) (c.length - (d+1));omega) (fun e he=>?_) _ 0 T b (Nat.zero_add _) hT ?_
  ·have n:=nx_lt h (i:=c.length - (d+1)) (j:=e) (by rw [ab5];exact hi) (by rw [acE];exact he)
   rwa [ab5] at n
  rw [List.drop_zero,<- e,hs];exact ih
/-- What is not reached has no copies. -/
def akm (x:List Int):List Int:=if x=[] then afQ else x
def ajb (U:List (List Int)):List (List Int):=U.map akm
theorem acI (U:List (List Int)):(ajb U).length=U.length:=by simp [ajb]
theorem ajU {U:List (List Int)} {i:Nat} (h:i < U.length):(ajb U).getD i []=akm (U.getD i []):=by simp [ajb,List.getD_eq_getElem?_getD,List.getElem?_eq_getElem h]
theorem ak4 {c:List SQ} (h:CV (qs c)) {U:List (List Int)} (hU:U.length=c.length):∀ (d p:Nat),p+d=c.length->Ev (fun k=>aeT k c ((ajb U).take p ++ U.drop p) (p:Int)) (ajb U)
 | 0,p,hp=>by
  refine Ev.succ ?_;simp only [aeT];refine aa5 (Ev.eq Ev.pure ?_);rw [List.take_of_length_le (by rw [acI];omega),List.drop_eq_nil_of_le (by omega),List.append_nil]
 | d+1,p,hp=>by
  refine Ev.succ ?_;have h6:=abh h;have hl:((ajb U).take p ++ U.drop p).length=c.length:=by rw [List.length_append,List.length_take,List.length_drop,acI];omega
  have hr:ab0 ((ajb U).take p ++ U.drop p) (p:Int)=U.getD p []:=by
   unfold ab0;rw [Int.toNat_natCast,List.getD_eq_getElem?_getD,List.getElem?_append_right (by rw [List.length_take,acI];omega),List.length_take,acI,show p - min p U.length=0 from by omega,List.getElem?_drop,List.getD_eq_getElem?_getD];rfl
  have e:(ajb U).take (p+1) ++ U.drop (p+1)=(ajb U).take p ++ (akm (U.getD p []) :: U.drop (p+1)):=by
   rw [<- ac6 [] (show p < (ajb U).length by rw [acI];omega),ajU (by omega),List.append_assoc];rfl
  simp only [aeT,hr,hl,Int.toNat_natCast,aav (show p < 9223372036854775807 by omega)];refine aa2 (aa2 (aa2 ?_));have ih:=ak4 h hU d (p+1) (by omega);rw [e] at ih;rw [acu [] (show p < U.length by omega)];by_cases g:U.getD p []=[]
  ·refine aa2 (Ev.bind aop ?_) (by rw [g];rfl);rw [List.set_append_right _ _ (by rw [List.length_take,acI];omega),List.length_take,acI,show p - min p U.length=0 from by omega,List.set_cons_zero];rw [akm,if_pos g] at ih;exact ih
  refine aa5 ?_ (by intro x;exact g (List.eq_nil_of_length_eq_zero (by omega)));rw [akm,if_neg g] at ih;exact ih
theorem ahf {c:List SQ} (h:CV (qs c)):∀ (m:Nat) (T:List (List Int)),(CS c).Rd T->(CS c).cap T<=m->∃ U,(CS c).Lfp U/\Ev (fun k=>aeU k c T) (ajb U)
 | m,T,hT,hm=>by
  obtain⟨a,b,e⟩:=Sys.rd_step (agt h) hT;have o:=Sbj.out h c.length (Nat.le_refl _) T false hT.1;rw [Nat.sub_self] at o;have o':Ev (fun k=>Sbj.f k c T) ((Sys.rnds (CS c) c.length T false).2,(Sys.rnds (CS c) c.length T false).1):=o
  cases g:(Sys.rnds (CS c) c.length T false).2 with
  | false =>
   have l:=e g;refine⟨_,l,Ev.succ ?_⟩;simp only [aeU];exact Ev.bind o' (aa5 (ak4 h l.1.1.1 c.length 0 (Nat.zero_add _)) (by simp [g]))
  | true =>
   have lt:=b g
   match m,hm with
   | 0,hm=>omega
   | m+1,hm =>
    obtain⟨U,hU,hE⟩:=ahf h m _ a (by have:(CS c).cap (Sys.rnds (CS c) c.length T false).1 < (CS c).cap T:=lt;show (CS c).cap (Sys.rnds (CS c) c.length T false).1<=m;omega);refine⟨U,hU,Ev.succ ?_⟩;simp only [aeU];exact Ev.bind o' (aa2 hE (by simp [g]))
theorem ak5 {c:List SQ} (h:CV (qs c)) {U:List (List Int)} (g:Ev (fun k=>aeU k c (Sys.T0 (CS c))) U):∀ (d p:Nat),p+d=c.length->Ev (fun k=>afs k c (List.replicate p []) (p:Int)) U
 | 0,p,hp=>by
  refine Ev.succ ?_;have h6:=abh h;simp only [afs,List.length_replicate];refine aa5 (Ev.bind aop (aa2 ?_))
  have e:(List.replicate p ([]:List Int)).set (0:Int).toNat afQ=Sys.T0 (CS c):=by
   rw [show p=c.length from by omega];rfl
  rw [e];exact g
 | d+1,p,hp=>by
  have h6:=abh h;refine Ev.succ ?_;have e:List.replicate p ([]:List Int) ++ [[]]=List.replicate (p+1) []:=(List.replicate_succ' ..).symm;simp only [afs,List.length_replicate,e,aav (show p < 9223372036854775807 by omega)];exact aa2 (aa2 (ak5 h g d (p+1) (by omega)))
theorem aqV {c:List SQ} (h:CV (qs c)):∃ U,(CS c).Lfp U/\Ev (fun k=>Sap.f k c) (ajb U):=by
 obtain⟨U,hU,hE⟩:=ahf h _ _ (Sys.rd0 (agt h)) (Nat.le_refl _);refine⟨U,hU,?_⟩;simp only [Sap.f];refine aaM (Ev.bind (acW c) (aa2 ?_ (decide_eq_true h)));exact ak5 h hE c.length 0 (Nat.zero_add _)
/-- A quad that reads what its registers are copies of. -/
def adY (q:SQ) (x:List Int):SQ:=if q.f0=2\/q.f0=5\/q.f0=6\/q.f0=9 then ⟨q.f0,q.f1,ca x q.f2.toNat,q.f3,q.f4⟩ else if q.f0=3 then ⟨q.f0,q.f1,ca x q.f2.toNat,ca x q.f3.toNat,q.f4⟩ else q
theorem aqm {q:SQ} {m:Int} (h:QV (q_ q) m) {x:List Int} (hl:x.length=12):Ev (fun k=>alY k q.f0 q.f1 q.f2 q.f3 q.f4 x) (tQ (adY q x)):=by
 obtain⟨_,⟨a0,a1⟩,b0,b1⟩:=abF h;simp only [q_] at a0 a1 b0 b1
 have j:∀ b:Bool,b=true->(q.f0=2\/q.f0=5\/q.f0=6\/q.f0=9)->Ev (fun k=>ae1 k x q.f0 b q.f0 q.f1 q.f2 q.f3 q.f4) (tQ (adY q x)):=by
  intro b hb hq;refine Ev.succ ?_;simp only [ae1,hl,ajE x a0,ajE x b0];refine aa2 (aa2 (aa2 (Ev.eq Ev.pure ?_)));rw [adY,if_pos hq]
 simp only [alY];by_cases c2:q.f0=2
 ·exact aa2 (j _ (by simp [c2]) (.inl c2))
 refine aa5 ?_;by_cases c5:q.f0=5
 ·exact aa2 (j _ (by simp [c5]) (.inr (.inl c5)))
 refine aa5 ?_;by_cases c6:q.f0=6
 ·exact aa2 (j _ (by simp [c6]) (.inr (.inr (.inl c6))))
 refine aa5 ?_;by_cases c9:q.f0=9
 ·exact j _ (by simp [c9]) (.inr (.inr (.inr c9)))
 refine Ev.succ ?_;simp only [ae1,hl,ajE x a0,ajE x b0];refine aa5 ?_ (by simp [c9]);have no:¬ (q.f0=2\/q.f0=5\/q.f0=6\/q.f0=9):=by omega
 by_cases c3:q.f0=3
 ·refine aa2 (aa2 (aa2 (aa2 (aa2 (Ev.eq Ev.pure ?_)))));rw [adY,if_neg no,if_pos c3]
 refine aa5 (Ev.eq Ev.pure ?_);rw [adY,if_neg no,if_neg c3]
def agC (U:List (List Int)) (c:List SQ):List SQ:=(List.range c.length).map fun i=>adY (qa c i) (akm ((CS c).at' U i))
theorem acv (U:List (List Int)) (c:List SQ):(agC U c).length=c.length:=by simp [agC]
theorem ag9 (U:List (List Int)) {c:List SQ} {i:Nat} (h:i < c.length):qa (agC U c) i=adY (qa c i) (akm ((CS c).at' U i)):=by simp [agC,qa,List.getD_eq_getElem?_getD,h]
theorem alx {x:List Int} (h:okC x):(akm x).length=12/\∀ r,r < 12->0<=ca (akm x) r/\ca (akm x) r < 12:=by
 unfold akm;split
 ·refine⟨aaF _,fun r hr=>?_⟩;unfold afQ;rw [adc _ hr];omega
 rename_i g
 exact acp h g
theorem Saq.out {c:List SQ} (h:CV (qs c)) {U:List (List Int)} (hU:(CS c).St U):∀ (d p:Nat),p+d=c.length->Ev (fun k=>afr k c ((agC U c).take p) (ajb U) (p:Int)) (agC U c,true)
 | 0,p,hp=>by
  refine Ev.succ ?_;simp only [afr];refine aa5 (Ev.eq Ev.pure ?_);rw [List.take_of_length_le (by rw [acv];omega)]
 | d+1,p,hp=>by
  have h6:=abh h;have hi:p < c.length:=by omega
  have hn:U.length=c.length:=hU.1
  have hr:ab0 (ajb U) (p:Int)=akm ((CS c).at' U p):=by
   unfold ab0;rw [Int.toNat_natCast,ajU (by omega)];rfl
  refine Ev.succ ?_;simp only [afr,hr,ac9,acI,aav (show p < 9223372036854775807 by omega)];refine aa2 (aa2 (aa2 (Ev.bind (aqm (abU h hi) (alx (hU.2 p hi)).1) (aa2 ?_ (by rw [List.length_take,acv];omega)))))
  have e:(agC U c).take p ++ [adY (qa c p) (akm ((CS c).at' U p))]=(agC U c).take (p+1):=by
   rw [<- ag9 U hi];exact ac6 _ (by rw [acv];exact hi)
  have:=Saq.out h hU d (p+1) (by omega)
  rw [<- e] at this;exact this
theorem aqT {c:List SQ} (h:CV (qs c)):∃ U,(CS c).Lfp U/\Ev (fun k=>Saq.f k c) (agC U c,true):=by
 obtain⟨U,hU,hE⟩:=aqV h;refine⟨U,hU,?_⟩;simp only [Saq.f];refine aaM (Ev.bind (acW c) (aa2 (Ev.bind hE ?_) (decide_eq_true h)));exact Saq.out h hU.1.1 c.length 0 (Nat.zero_add _)
theorem aj0 {q:SQ} {m:Int} (h:QV (q_ q) m) {x:List Int} (hx:∀ r,r < 12->0<=ca x r/\ca x r < 12):QV (q_ (adY q x)) m:=by
 have ⟨ra,rb⟩:=akZ h;simp only [q_] at ra rb;have ha:=hx _ ra;have hb:=hx _ rb;have ga:rg (ca x q.f2.toNat):=⟨ha.1,by omega⟩;have gb:rg (ca x q.f3.toNat):=⟨hb.1,by omega⟩
 have keep:¬ (q.f0=2\/q.f0=5\/q.f0=6\/q.f0=9)->q.f0≠3->QV (q_ (adY q x)) m:=by
  intro h1 h2;rw [adY,if_neg h1,if_neg h2];exact h
 have one:(q.f0=2\/q.f0=5\/q.f0=6\/q.f0=9)->adY q x=⟨q.f0,q.f1,ca x q.f2.toNat,q.f3,q.f4⟩:=fun k=>by rw [adY,if_pos k]
 rcases h with h1 | ⟨o,p1,_,p3⟩ | ⟨o,p1,_,_,p3⟩|h1 | ⟨o,p1,_,p3⟩ | ⟨o,p1,_,p3⟩|h1 | ⟨o,p1,_,p3⟩|h1
 ·have o:q.f0=1:=h1.1;exact keep (by omega) (by omega)
 ·have o':q.f0=2:=o;rw [one (.inl o')];exact .inr (.inl ⟨o,p1,ga,p3⟩)
 ·have o':q.f0=3:=o;rw [adY,if_neg (by omega),if_pos o'];exact .inr (.inr (.inl ⟨o,p1,ga,gb,p3⟩))
 ·have o:q.f0=4:=h1.1;exact keep (by omega) (by omega)
 ·have o':q.f0=5:=o;rw [one (.inr (.inl o'))];exact .inr (.inr (.inr (.inr (.inl ⟨o,p1,ga,p3⟩))))
 ·have o':q.f0=6:=o;rw [one (.inr (.inr (.inl o')))];exact .inr (.inr (.inr (.inr (.inr (.inl ⟨o,p1,ga,p3⟩)))))
 ·have o:q.f0=7:=h1.1;exact keep (by omega) (by omega)
 ·have o':q.f0=9:=o;rw [one (.inr (.inr (.inr o')))];exact .inr (.inr (.inr (.inr (.inr (.inr (.inr (.inl ⟨o,p1,ga,p3⟩)))))))
 have o:q.f0=8\/q.f0=10:=h1.1;exact keep (by omega) (by omega)
theorem ani (q:SQ) (x:List Int):(adY q x).f0=q.f0:=by
 unfold adY;(repeat' split) <;> rfl
theorem ajg {c:List SQ} (h:CV (qs c)) {U:List (List Int)} (hU:(CS c).St U):CV (qs (agC U c)):=by
 have h6:=abh h;refine alC (by rw [acv];exact h6.1) (by rw [acv];exact h6.2) (fun i hi=>?_) ?_
 ·rw [acv] at hi ⊢;rw [ag9 U hi];exact aj0 (abU h hi) (alx (hU.2 i hi)).2
 rw [acv,ag9 U (by omega),ani];exact aeg h
abbrev TC:TypeId:=70
section
variable {ops:Array Oper} {rest:List Oper} {op:Oper} {a:Act} {Q:Exit->Act->World->Prop}
theorem apS {w:World} {p:Tmp} {v:Operand} (ho:op.op = .store 3 (.tmp p) v) (hgd:op.guard=none) (hN:op.dst=none) {g o t:Nat} (hx:a.eval (.tmp p) = .pointer (some ⟨g,o,none⟩)) {y:Int} {m:List Int} (hy:a.eval v = iV y) (hb:w.heap[g]?=some (.cells (ics m) t (0,0))) (hm:o < m.length)
  (h:∀ w',w'=w.setCell ⟨g,o,none⟩ (iV y)->w'.heap[g]?=some (.cells (ics (m.set o y)) t (0,0))->wpList prog ops Q rest (a.put op.dst undef) w'):wpList prog ops Q (op :: rest) a w:=by
 have hc:=aeE hb hm;have hf:=aa6 hb o;refine aax (P:=prog) hgd ho hN (w1:=w.setCell ⟨g,o,none⟩ (iV y)) ?_ (fun w' hw=>?_)
 ·unfold execOp;simp only [ho,hx,hy];first|(go_simp;done)|(go_simp;rfl)
 have e:w'.heap[g]?=some (.cells (ics (m.set o y)) t (0,0)):=by
  rw [hw,agc hb]
  congr 1
  simp [encs,List.map_set]
 have:=h w' hw e
 rwa [hN] at this
end
theorem art:(prog.info? 3).map (·.size)=some 1:=by kernel_rfl
theorem aqb:prog.cellsOf 3=1:=by kernel_rfl
theorem arI:prog.underlying 3=some (.int .i64):=by kernel_rfl
theorem aod (w:World) {x:List Int} {i:Nat} (hi:i < x.length):(part 3 (ics x) (i*1)).run prog w = .ok (iV (ca x i)) w:=by
 have hagg:(isAgg 3).run prog w = .ok false w:=by
  unfold isAgg;rw [Sem.run_bind,run_underlying arI w];rfl
 unfold part;rw [Sem.run_bind,hagg,Result.andThen_ok,Nat.mul_one,ahG hi];rfl
theorem aik (d:Nat) (w:World) {x y:List Int} (hx:x.length=12) (hy:y.length=12):∀ is:List Nat,(∀ i∈is,i < 12)->(Op.eqItems (d+1) 3 1 (ics x) (ics y) is).run prog w = .ok (decide (∀ i∈is,ca x i=ca y i)) w
 | [],_=>by simp [Op.eqItems]
 | i :: is,h=>by
  have hi:i < 12:=h i List.mem_cons_self;have ih:=aik d w hx hy is (fun j hj=>h j (List.mem_cons_of_mem _ hj));simp only [Op.eqItems,Sem.run_bind,aod w (show i < x.length by omega),aod w (show i < y.length by omega),run_equalIn_int w d 3 .i64 .i64 _ _ arI,Result.andThen_ok];by_cases e:ca x i=ca y i
  ·rw [if_neg (by rw [e];simp),ih];simp [e]
  rw [if_pos (by simp [e])];simp [e]
theorem arP (d:Nat) (w:World) (x y:List Int) (hx:x.length=12) (hy:y.length=12):(Op.equalIn (d+2) TC (.agg (ics x)) (.agg (ics y))).run prog w = .ok (decide (x=y)) w:=by
 obtain⟨i0,h0,h2⟩:=Option.map_eq_some_iff.1 art;rw [run_equalIn_array w (d+1) (ics x) (ics y) underlying70 h0,aqb,aik d w hx hy _ (fun i hi=>List.mem_range.1 hi)];exact congrArg (fun b=>Result.ok b w) (decide_eq_decide.2 ⟨fun z=>adC hx hy fun r hr=>z r (List.mem_range.2 hr),fun z i _=>by rw [z]⟩)
def AC (U:List (List Int)):Prop:=∀ x∈U,x.length=12
theorem AC.tail {x:List Int} {U:List (List Int)} (h:AC (x :: U)):AC U:=fun y hy=>h y (List.mem_cons_of_mem _ hy)
theorem AC.head {x:List Int} {U:List (List Int)} (h:AC (x :: U)):x.length=12:=h x List.mem_cons_self
section
variable {ops:Array Oper} {rest:List Oper} {op:Oper} {a:Act} {Q:Exit->Act->World->Prop}
end
theorem aq8:(prog.info? 54).map (·.size)=some 2:=by kernel_rfl
theorem aqc:prog.cellsOf 54=2:=by kernel_rfl
theorem aoc (w:World) {x:List SF} {i:Nat} (hi:i < x.length):(part 54 (ics (fl x)) (i*2)).run prog w = .ok (.agg #[iV (fa x i).f0,iV (fa x i).f1]) w:=by
 have hl:=ac7 x
 have he:(ics (fl x)).extract (i*2) (i*2+2) = #[iV (fa x i).f0,iV (fa x i).f1]:=by
  apply Array.ext_getElem?
  intro j;rw [Array.getElem?_extract];have hs:=abO (fl x);by_cases h0:j=0
  ·subst h0;rw [if_pos (by omega),Nat.add_zero,ahG (by omega),Nat.mul_comm,(aig x i).1];rfl
  by_cases h1:j=1
  ·subst h1;rw [if_pos (by omega),ahG (by omega),Nat.mul_comm,(aig x i).2];rfl
  rw [if_neg (by omega)]
  simp
  omega
 obtain⟨i0,h0,h2⟩:=Option.map_eq_some_iff.1 aq8
 have hagg:(isAgg 54).run prog w = .ok true w:=by
  unfold isAgg;rw [Sem.run_bind,run_underlying underlying54 w];rfl
 have he':List.take 2 (List.drop (i*2) (encs (Value.int .i64) (fl x)))=[iV (fa x i).f0,iV (fa x i).f1]:=by
  have:=congrArg Array.toList he
  simpa using this
 simp [part,Sem.run_bind,hagg,sizeOf,typeInfo,h0,h2,he']
theorem aij (d:Nat) (w:World) {x y:List SF} (hx:x.length=12) (hy:y.length=12):∀ is:List Nat,(∀ i∈is,i < 12)->(Op.eqItems (d+2) 54 2 (ics (fl x)) (ics (fl y)) is).run prog w = .ok (decide (∀ i∈is,fa x i=fa y i)) w
 | [],_=>by simp [Op.eqItems]
 | i :: is,h=>by
  have hi:i < 12:=h i List.mem_cons_self;have ih:=aij d w hx hy is (fun j hj=>h j (List.mem_cons_of_mem _ hj));simp only [Op.eqItems,Sem.run_bind,aoc w (show i < x.length by omega),aoc w (show i < y.length by omega),alz,Result.andThen_ok];by_cases e:fa x i=fa y i
  ·rw [if_neg (by rw [e];simp),ih];simp [e]
  rw [if_pos (by
   have:¬ ((fa x i).f0=(fa y i).f0/\(fa x i).f1=(fa y i).f1):=fun z=>e (aej z.1 z.2)
   simp only [Bool.not_eq_true',Bool.and_eq_false_iff,beq_eq_false_iff_ne];by_cases z:(fa x i).f0=(fa y i).f0
   ·exact .inr fun q=>this ⟨z,q⟩
   exact .inl z)]
  simp [e]
theorem arx (d:Nat) (w:World) (x y:List SF) (hx:x.length=12) (hy:y.length=12):(Op.equalIn (d+3) T12 (.agg (ics (fl x))) (.agg (ics (fl y)))).run prog w = .ok (decide (x=y)) w:=by
 obtain⟨i0,h0,h2⟩:=Option.map_eq_some_iff.1 aq8;rw [run_equalIn_array w (d+2) (ics (fl x)) (ics (fl y)) underlying56 h0,aqc,aij d w hx hy _ (fun i hi=>List.mem_range.1 hi)];exact congrArg (fun b=>Result.ok b w) (decide_eq_decide.2 ⟨fun z=>ahJ zF hx hy fun r hr=>z r (List.mem_range.2 hr),fun z i _=>by rw [z]⟩)
end Go.Proofs.YtdkkdiiceaomaaaGreat.M
namespace Go.Proofs.YtdkkdiiceaomaaaGreat.M
open Go.Proofs.Tryz Go.RowKit Go.Proofs.YtdkkdiiceaomaaaGreatW.PrintWords Go.Proofs.YtdkkdiiceaomaaaGreatW.PrintLast Go.Proofs.YtdkkdiiceaomaaaGreatW.PrintMore PM Kd
attribute [local go_sem high] alz arx
theorem akc {ops:Array Oper} {rest:List Oper} {op:Oper} {a:Act} {Q:Exit->Act->World->Prop} {W:World} (hgd:op.guard=none) {N:Tmp} (hd:op.dst=some N) {x y:Operand} (ho:op.op = .makeSlice 51 x y) {n:Nat} (hn:n<=600) (hx:a.eval x = iV (n:Int)) (hy:a.eval y = iV (n:Int))
  (h:∀ g,g=W.heap.size->∀ w1,w1.heap[g]?=some (.cells (ics (List.replicate (n*24) 0)) T12 (0,0))->Below W.heap.size W w1->wpList prog ops Q rest (a.put op.dst (.slice (some ⟨g,0,none⟩) n n)) w1):wpList prog ops Q (op :: rest) a W:=by
 have hinfo:(prog.info? T12).map (fun i=>(i.zero,i.size,i.bytes))=some (some (.agg (ics z24)),24,192):=by kernel_rfl
 obtain⟨i0,hi,hzz⟩:=Option.map_eq_some_iff.1 hinfo;simp only [Prod.mk.injEq] at hzz;obtain⟨hz0,hz1,hz2⟩:=hzz;have hr:=run_make (P:=prog) W 51 T12 i0 (.agg (ics z24)) underlying51 hi hz0 .i64 .i64 (n:Int) (n:Int) (by omega) (Int.le_refl _) (by rw [hz2];omega) (by omega);rw [hz1] at hr;simp only [Int.toNat_natCast] at hr;rw [alh] at hr;refine Kd.event_run hgd (v:=.slice (some ⟨W.heap.size,0,none⟩) n n) (w1:=W.alloc (.cells (ics (List.replicate (n*24) 0)) T12 (0,0))) ?_ (h _ rfl _ (ajj W _) (aaz (Below.refl _ _) _));simp [execOp,ho,hx,hy,hr]
theorem aiY {op:Oper} {x y:Operand} {ev:Operand->Value} {w:World} (ho:op.op = .store T12 x y) {g o t:Nat} (hx:ev x = .pointer (some ⟨g,o,none⟩)) {l m:List Int} (hy:ev y = .agg (ics l)) (hl:l.length=24) (hb:w.heap[g]?=some (.cells (ics m) t (0,0))) (hm:o+24<=m.length):(execOp ev op).run prog w = .ok .skip (w.setCells g o (encs (Value.int .i64) l)):=by
 have h1:=run_storeVar_mid (P:=prog) w g o T12 (ics l) (by rw [abO];exact aci hb (by omega)) (akV hl) (aee l);unfold execOp;simp only [ho,hx,hy,Instr.storeAt,Instr.sureAddr,Sem.run_bind,Sem.run_pure,Result.andThen_ok,h1]
/-- The first row while it is laid. -/
def akW (p:Nat):List SF:=List.replicate p ⟨1,0⟩ ++ List.replicate (12 - p) zF
def akE (n p:Nat):List (List SF):=(List.replicate n (List.replicate 12 zF)).set 0 (akW p)
theorem ahw {p:Nat} (h:p<=12):(akW p).length=12:=by unfold akW;simp;omega
theorem ane {n p:Nat} (h:p<=12):aem (akE n p):=(apt n).set 0 (ahw h)
theorem akQ {n:Nat} (h:0 < n):akE n 0=List.replicate n (List.replicate 12 zF):=by
 obtain⟨m,rfl⟩:∃ m,n=m+1:=⟨n - 1,by omega⟩
 rfl
theorem anc {n p:Nat} (h:0 < n) (hp:p < 12):over (flat (akE n p)) (p*2) [1,0]=flat (akE n (p+1)):=by
 obtain⟨m,rfl⟩:∃ m,n=m+1:=⟨n - 1,by omega⟩
 have e:∀ q,akE (m+1) q=akW q :: List.replicate m (List.replicate 12 zF):=fun q=>rfl
 rw [e,e];show over (fl (akW p) ++ flat _) (p*2) [1,0]=fl (akW (p+1)) ++ flat _
 have hl:(fl (akW p)).length=24:=by rw [ac7,ahw (by omega)]
 have hs:(akW p).set p ⟨1,0⟩=akW (p+1):=akY 0 p hp;rw [<- hs,<- af6 (akW p) p 1 0 (by rw [ahw (by omega)];exact hp),Nat.mul_comm];unfold over;simp only [List.length_cons,List.length_nil];rw [List.take_append_of_le_length (by omega),List.drop_append_of_le_length (by omega),List.append_assoc,List.append_assoc,List.append_assoc]
theorem an6 {c:List SQ} {x:List SF} (h:okR x) (g:x≠(FS c).d):(fa x 0).f0≠0:=by
 rcases h.2.2 with y|y
 ·refine absurd (ahJ zF h.1 (by show (List.replicate 12 zF).length=12;simp) fun r hr=>?_) g;show fa x r=fa (List.replicate 12 zF) r
  rw [afi _ hr,afU (h.2.1 r hr) (y r hr)];rfl
 exact y 0 (by omega)
theorem ar8 (a b:SF):Ev (fun k=>ao6 k a.f0 a.f1 b.f0 b.f1) ((jF a b).f0,(jF a b).f1):=by
 simp only [ao6];unfold jF;by_cases c1:a.f0=0
 ·rw [if_pos c1];refine aa2 (Ev.succ ?_);simp only [agp];exact aa2 Ev.pure trivial
 rw [if_neg c1];refine aa5 (Ev.succ ?_);simp only [agp];by_cases c2:a=b
 ·subst c2;refine aa2 (Ev.eq Ev.pure ?_) (by simp);rw [if_neg c1,if_pos rfl]
 refine aa5 ?_ (by
  intro z;simp only [Bool.and_eq_true,beq_iff_eq] at z
  exact c2 (aej z.1 z.2))
 by_cases c3:b.f0=0
 ·rw [if_pos c3,if_pos c3];exact Ev.pure
 rw [if_neg c3,if_neg c3,if_neg c2];exact Ev.pure
theorem ar7 (a b:SF) (w:World):Calls prog 74 #[.agg #[iV a.f0,iV a.f1],.agg #[iV b.f0,iV b.f1]] w fun e w'=>e = .returned (.agg #[iV (jF a b).f0,iV (jF a b).f1])/\Below w.heap.size w w':=by
 obtain⟨k,hk⟩:=(ar8 a b).get;exact an4 k _ _ _ _ _ _ _ hk
theorem ak8 {op:Oper} {x y:Operand} {ev:Operand->Value} {w:World} (ho:op.op = .store 54 x y) {g o t:Nat} (hx:ev x = .pointer (some ⟨g,o,none⟩)) {x0 x1:Int} {m:List Int} (hy:ev y = .agg #[iV x0,iV x1]) (hb:w.heap[g]?=some (.cells (ics m) t (0,0))) (hm:o+2<=m.length):(execOp ev op).run prog w = .ok .skip (w.setCells g o (encs (Value.int .i64) [x0,x1])):=by
 have h1:=run_storeVar_mid (P:=prog) w g o 54 (ics [x0,x1]) (by rw [abO];exact aci hb hm) (by rw [abO];kernel_rfl) (aee _);have hy':ev y = .agg (ics [x0,x1]):=hy;unfold execOp;simp only [ho,hx,hy',Instr.storeAt,Instr.sureAddr,Sem.run_bind,Sem.run_pure,Result.andThen_ok,h1]
theorem aec {w w':World} {g o:Nat} {cs:List Value} (h:w.rangeAt g o cs) (hb:Below w.heap.size w w'):w'.rangeAt g o cs:=fun j v hv=>(hb.cell (World.block_lt_of_cell? w _ (h j v hv))).trans (h j v hv)
theorem aoY (c:List SQ):akE c.length 12=Sys.T0 (FS c):=by
 unfold akE akW;rw [Nat.sub_self,List.replicate_zero,List.append_nil];rfl
theorem aie (v:List Nat) (a:Nat):ints (v ++ [a])=ints v ++ [(a:Int)]:=by simp [ints]
theorem amO {c:List SQ} (h:CV (qs c)) (A0:Option Addr) (c0:Nat) (w:World) (hr0:Kd.C k31 w A0 c.length c) (hc0:c.length<=c0) :
  Calls prog 42 #[.slice A0 c.length c0] w fun e w'=>∃ g U,(FS c).Lfp U/\e = .returned (.slice (some ⟨g,0,none⟩) c.length c.length)/\w.heap.size<=g/\w'.heap[g]?=some (.cells (ics (flat U)) T12 (0,0))/\Below w.heap.size w w':=by
 have bn:=aM hr0;have bE:=aM hc0;clear hr0 hc0;have h6:=abh h;have h6':c.length<=600:=h6.2;have bF:decide (0 < (c.length:Int))=true:=decide_eq_true (by omega);have bq:decide (0 < c.length)=true:=decide_eq_true (by omega);have bG:(0 < c.length)=True:=eq_true (by omega);have HB:=jb_ w;go_enter func42,ntmps42;go_wp2_with (first|((with_reducible refine jd 14 ?_);refine akc rfl (N:=14) rfl rfl h6' rfl rfl ?_;intro g hg w1 hbox hb;have BG:=aM (show w1.heap[g]?=some (.cells (ics (flat (akE c.length 0))) T12 (0,0)) by rw [akQ h6.1,ajT];exact hbox);have GG:=aM (show w.heap.size<=g by rw [hg];exact Nat.le_refl _);replace HB:=kH hb;clear hg hbox hb));go_loopg [15] 12 (fun kq v15 w'=>∃ (p:Nat),v15 = iV (p:Int)/\aa1 (p+kq=12)/\aa1 (w'.heap[g]?=some (.cells (ics (flat (akE c.length p))) T12 (0,0)))/\aa1 (Below w.heap.size w w'));case atStart=>exact⟨0,rfl,⟨rfl⟩,BG,HB⟩
 clear BG HB;obtain⟨p,rfl,HP,BG,HB⟩:=hrel;rcases gk with _|k1
 ·have ep:p=12:=by have:=HP.out;omega
  subst ep;rw [aoY] at BG;go_wp2_with (first|((with_reducible refine jd 24 ?_);refine R_lit (Kd.int .i64) _ 3 ?hg (N:=24) ?hd (xs:=([0]:List Int)) (inner:=[iV 0]) (ok:=fun _=>True) (okp:=fun _=>True) ?hr ?hp (fun _ hk=>hk) trivial (Below.refl _ _) (Nat.le_refl _) (by simp) ?_;(case hd=>rfl);(case hg=>rfl);(case hr=>first|(go_simp;done)|(go_simp;rfl));(case hp=>exact (aau.one (show Kd.M (Kd.int .i64) _ _ _ 0 [iV 0] from rfl) (aa8 _ _)));intro v9 w9 ho hb hg_ hnew_;have n2:=kB BG hb;have HW:=aM (R_mono (ok':=fun k=>k≠g) (R_types (R_lower ho HB.out.size) n2.out (by decide)) (fun _ hk=>hk.2));replace HB:=kH hb;clear BG;have BG:=n2;clear n2 ho hb hg_ hnew_))
  have cap0:(FS c).cap (Sys.T0 (FS c))+1<=20000:=by
   have:=Sys.cap_le (S:=FS c) (Sys.T0 (FS c))
   rw [(Sys.T0_st (abV h)).1,show (FS c).n*(FS c).top=c.length*24 from rfl] at this;omega
  go_loopg [5] ((FS c).cap (Sys.T0 (FS c))+1) (fun kq v5 w'=>∃ (T:List (List SF)) (l:List Nat),aa1 ((FS c).Wk T l/\(FS c).cap T+l.length<=kq/\kq<=20000)/\aa1 (w'.heap[g]?=some (.cells (ics (flat T)) T12 (0,0)))/\aa1 (Kd.R (Kd.int .i64) 3 w' w.heap.size (fun k=>k≠g) v5 (ints l))/\aa1 (Below w.heap.size w w'));case atStart=>exact⟨_,[0],⟨Sys.wk0 (abV h),Nat.le_refl _,cap0⟩,BG,HW,HB⟩
  clear BG HW HB HP;obtain⟨T,l,HK,BG,HW,HB⟩:=hrel;obtain⟨Ao,co,rfl⟩:=R_slice HW.out;by_cases el:l=[]
  ·subst el;have z:decide (0 < (ints []).length)=false:=rfl;go_wp2;go_ret;exact⟨g,T,Sys.wk_end HK.out.1,rfl,GG.out,BG.out,HB.out⟩
  obtain⟨v,a,rfl⟩:=apj el;obtain⟨ha,hb_,hk,hcap⟩:=Sys.wk_step (abV h) HK.out.1;have aG:a < c.length:=ha;have hT:=HK.out.1.1.1;have hTl:T.length=c.length:=hT.1;obtain⟨x,hx⟩:∃ x,x=(FS c).at' T a:=⟨_,rfl⟩
  have okx:okR x:=by rw [hx];exact hT.2 a ha
  have hrow:T.getD a []=x:=by rw [hx];exact (aiS (by omega)).symm
  have LL:(ints (v ++ [a])).length=v.length+1:=by rw [ab1];simp
  obtain⟨y,hy⟩:∃ y:List Int,y=ints (v ++ [a]):=⟨_,rfl⟩
  rw [<- hy] at HW LL ⊢;obtain⟨ji,hji⟩:∃ j:Int,j=(v.length:Int):=⟨_,rfl⟩
  obtain⟨ai,hai⟩:∃ j:Int,j=(a:Int):=⟨_,rfl⟩
  have hrd:rd y ji=ai:=by
   rw [hji,hai,hy,ad6];simp [List.getD_eq_getElem?_getD]
  have htk:y.take ji.toNat=ints v:=by rw [hji,hy,Int.toNat_natCast,aie,<- ab1 v,List.take_left]
  have vb:v.length<=100000:=by
   have:=HK.out.2
   rw [List.length_append] at this;omega
  have hjw:IntKind.i64.wrap ((y.length:Int) - 1)=ji:=by rw [LL,hji,aat,aaK (by omega) (by omega)];omega
  have yb:decide (0 < (y.length:Int))=true:=decide_eq_true (by omega);have yb':decide (0 < y.length)=true:=decide_eq_true (by omega);have j0:0<=ji:=by omega
  have j1:ji < (y.length:Int):=by omega
  have j2:ji<=(y.length:Int):=by omega
  obtain⟨ad,e,hx0⟩:=Kd.at_int (R_reads' HW.out).2.2 ji j0 j1;cases e;rw [hrd] at hx0;obtain⟨i0,hi0,_,hsz,_⟩:=info_parts akj;have hcut:=aoi (P:=prog) 28 3 .i64 underlying28 hi0 (some ad) y.length co ji j0 j2 (R_reads' HW.out).2.1;have hr:=R_take (m:=ji.toNat) HW.out (by omega);rw [htk] at hr;have hvl:(ints v).length=ji.toNat:=by rw [ab1,hji];rfl
  rw [<- hvl] at hr hcut;clear HW hi0 hsz;have HW:=aM hr;clear hr;have a0:0<=ai:=by omega
  have a1:ai < (c.length:Int):=by omega
  obtain⟨aq,e2,x0,x1,x2,x3,x4⟩:=aaR bn.out ai a0 a1;cases e2;replace x0:=kx HB x0;replace x1:=kx HB x1;replace x2:=kx HB x2;replace x3:=kx HB x3;replace x4:=kx HB x4;have bH:=eq_true j0;have bI:=eq_true j1;have bJ:=eq_true j2;have bK:=decide_eq_true j0;have bL:=decide_eq_true j1;have bM:=decide_eq_true j2;have bN:=eq_true a0;have bO:=eq_true a1;have bP:=decide_eq_true a0;have bQ:=decide_eq_true a1;have HAI:=aM hai;have HX:=aM hx;clear hai;clear j0 j1 j2 a0 a1 LL hy hx hji hrd htk hvl el hk hcap;go_wp2;have hq:=abU h aG;have rq:aa0 c ai=qa c a:=by rw [HAI.out];exact ac9 c a
  rw [rq] at x0 x1 x2 x3 x4;have go1:=fun W=>amN okx hq W
  have hbt:∀ w',Below wr.heap.size wr w'->w'.rangeAt g (ai.toNat*24) (encs (Value.int .i64) (fl x)):=fun w' hw'=>by
   have:=aes ((hw'.block g (aaY BG.out)).trans BG.out) (agK hT) (i:=a) (by omega)
   rw [hrow] at this;rw [HAI.out,Int.toNat_natCast];exact this
  have hx0':∀ w',Below wr.heap.size wr w'->w'.cell? (aq.add (ai.toNat*5))=some (iV (qa c a).f0):=fun w' hw'=>(hw'.cell (World.block_lt_of_cell? wr _ x0)).trans x0
  have ag:∀ w',Below wr.heap.size wr w'->w'.cell? ⟨(aq.add (ai.toNat*5)).block,(aq.add (ai.toNat*5)).off+1,none⟩=some (iV (qa c a).f1):=fun w' hw'=>(hw'.cell (World.block_lt_of_cell? wr _ x1)).trans x1
  have ah:∀ w',Below wr.heap.size wr w'->w'.cell? ⟨(aq.add (ai.toNat*5)).block,(aq.add (ai.toNat*5)).off+2,none⟩=some (iV (qa c a).f2):=fun w' hw'=>(hw'.cell (World.block_lt_of_cell? wr _ x2)).trans x2
  have aj:∀ w',Below wr.heap.size wr w'->w'.cell? ⟨(aq.add (ai.toNat*5)).block,(aq.add (ai.toNat*5)).off+3,none⟩=some (iV (qa c a).f3):=fun w' hw'=>(hw'.cell (World.block_lt_of_cell? wr _ x3)).trans x3
  have ak:∀ w',Below wr.heap.size wr w'->w'.cell? ⟨(aq.add (ai.toNat*5)).block,(aq.add (ai.toNat*5)).off+4,none⟩=some (iV (qa c a).f4):=fun w' hw'=>(hw'.cell (World.block_lt_of_cell? wr _ x4)).trans x4
  clear x0 x1 x2 x3 x4 hx0 hcut;obtain⟨vv,hvv⟩:∃ vv,vv=ah0 (q_ (qa c a)) x:=⟨_,rfl⟩
  have HKX:=HK.out
  have okv:okR vv:=by
   rw [hvv];exact ajm hq okx (an6 okx (by rw [HX.out];exact hb_))
  have au:(fl vv).length=24:=by rw [ac7,okv.1]
  clear HKX;rw [<- hvv] at go1;have HVV:=aM hvv;clear hvv;have az:=fun W=>an2 h aG okx W
  rw [<- HAI.out] at az;obtain⟨es,hes⟩:∃ es,es=aca (q_ (qa c a)) a x:=⟨_,rfl⟩
  rw [<- hes] at az;have HES:=aM hes;clear hes;refine abr (n:=11) (S:=fun w'=>Below wr.heap.size wr w') (ds:=[]) (jb 11 0) (by kernel_rfl) rfl rfl (aad (Below.refl _ _)) (fun hHeld=>?_);generalize wr.drew=wd at hHeld ⊢;refine jq 0 39 (jb 11 1) ?_;refine jq 1 40 (jb 11 3) ?_;refine jq 2 41 (jb 11 7) ?_;refine jq 4 43 (jb 11 23) ?_;refine jq 5 44 (jb 11 55) ?_;refine jq 6 45 (jb 11 119) ?_;refine take_ (i:=3) (N:=some 42) (a':=?_) (jb 11 127) rfl rfl (by kernel_rfl) (fun _ _ _ h=>h) (yieldsIf_load_mid (by rfl) T12 (.tmp 41) rfl g (ai.toNat*24) rfl _ _ hbt underlying56 rfl (af4 (by rw [ac7,okx.1]))) hHeld ?_ ?_;rotate_left
  ·exact qP
  refine take_ (i:=7) (N:=some 46) (v:=?_) (a':=?_) (jb 11 255) rfl rfl (by kernel_rfl) (fun _ _ _ h=>h) (Or.inl ⟨by rfl,?_⟩) hHeld ?_ ?_;rotate_left
  ·intro w' hs;have y0:=hx0' w' hs;have y1:=ag w' hs;have y2:=ah w' hs;have y3:=aj w' hs;have y4:=ak w' hs;go_simp
   with_reducible rfl
  rotate_left
  ·exact qP
  refine acs (σ:=Nat) 1 (jb 11 1023) (fun s_=>[(47,.agg (ics (fl vv))),(7,.pointer (some ⟨s_,0,none⟩))]) (fun s_ w'=>Below wr.heap.size wr w'/\wr.heap.size<=s_/\w'.heap[s_]?=some (.cells (ics z24) T12 (0,0))) ?_ ?_;rotate_left
  ·intro hCont;refine akD (i:=8) (j:=9) (Ni:=some 47) (Nj:=some 7) (jb 11 511) (jb 11 767) rfl rfl rfl rfl (by kernel_rfl) (by decide) (by decide) (fun K hK=>?_) (fun K hK=>?_)
   ·skip
    refine abp func72 (by kernel_rfl) rfl #[.agg (ics (fl x)),.agg #[iV (qa c a).f0,iV (qa c a).f1,iV (qa c a).f2,iV (qa c a).f3,iV (qa c a).f4]] (by rfl) rfl rfl qM ?_
    (with_reducible refine (go1 _).mono ?_);rintro e bu ⟨rfl,hb⟩;refine⟨_,rfl,?_⟩;refine hK.out _ _ (aaD hHeld hb) (fun hHeld=>?_);clear hK K;refine aan (a':=?_) ?_ ?_;rotate_left
    ·show Act.put _ (some 47) _=_
     simp only [Act.put,List.setIfInBounds_toArray,List.set_cons_zero,List.set_cons_succ,aat,aay];rfl
    refine acO (i:=9) (N:=some 7) (jb 11 1023) rfl rfl (by kernel_rfl) (by decide) (fun K hK=>?_);refine aeD ?hg (N:=7) ?hd (cs:=ics z24) (t:=T12) ?hr ?_;(case hd=>rfl);(case hg=>rfl);(case hr=>first|(go_simp;done)|(go_simp;rfl));intro g7 aH w16 hbox hb;refine hK.out _ _ (aaD hHeld hb) (fun aa=>?_);clear hK K;refine aan (a':=?_) ?_ ?_;rotate_left
    ·show Act.put _ (some 7) _=_
     simp only [Act.put,List.setIfInBounds_toArray,List.set_cons_zero,List.set_cons_succ,aat,aay];rfl
    exact aan (by simp only [abb,Act.put,List.setIfInBounds_toArray,List.set_cons_zero,List.set_cons_succ]) (hCont g7 _ ⟨aa,(by rw [aH];exact hHeld.size),hbox⟩)
   skip
   refine aeD ?hg (N:=7) ?hd (cs:=ics z24) (t:=T12) ?hr ?_;(case hd=>rfl);(case hg=>rfl);(case hr=>first|(go_simp;done)|(go_simp;rfl));intro g7 aH w16 hbox hb;refine hK.out _ _ (aaD hHeld hb) (fun aa=>?_);clear hK K;refine aan (a':=?_) ?_ ?_;rotate_left
   ·show Act.put _ (some 7) _=_
    simp only [Act.put,List.setIfInBounds_toArray,List.set_cons_zero,List.set_cons_succ,aat,aay];rfl
   refine acO (i:=8) (N:=some 47) (jb 11 1023) rfl rfl (by kernel_rfl) (by decide) (fun K hK=>?_);refine abp func72 (by kernel_rfl) rfl #[.agg (ics (fl x)),.agg #[iV (qa c a).f0,iV (qa c a).f1,iV (qa c a).f2,iV (qa c a).f3,iV (qa c a).f4]] (by rfl) rfl rfl qM ?_
   (with_reducible refine (go1 _).mono ?_);rintro e bu ⟨rfl,hb⟩;refine⟨_,rfl,?_⟩;refine hK.out _ _ (aaD aa hb) (fun av=>?_);clear hK K;refine aan (a':=?_) ?_ ?_;rotate_left
   ·show Act.put _ (some 47) _=_
    simp only [Act.put,List.setIfInBounds_toArray,List.set_cons_zero,List.set_cons_succ,aat,aay];rfl
   exact aan (by simp only [abb,Act.put,List.setIfInBounds_toArray,List.set_cons_zero,List.set_cons_succ]) (hCont g7 _ ⟨av,(by rw [aH];exact hHeld.size),aaU hbox hb⟩)
  intro g7 aA hF;obtain⟨hHeld,G7,B7⟩:=hF;refine aan (a':=?_) ?_ ?_;rotate_left
  ·simp only [abb,Act.put,List.setIfInBounds_toArray,List.set_cons_zero,List.set_cons_succ];rfl
  refine acO (i:=10) (N:=none) (jb 11 2047) rfl rfl (by kernel_rfl) (by decide) (fun K hK=>?_);refine aep (w1:=aA.setCells g7 0 (encs (Value.int .i64) (fl vv))) (by rfl) rfl ?_ ?_
  ·exact aiY (x:=.tmp 7) (y:=.tmp 47) (g:=g7) (o:=0) rfl rfl rfl au B7 (by decide)
  refine hK.out _ _ (ac3 G7 _ _ _ hHeld) (fun hHeld=>?_);clear hK K;refine abW (by kernel_rfl) ?_
  have aI:(aA.setCells g7 0 (encs (Value.int .i64) (fl vv))).heap[g7]?=some (.cells (ics (fl vv)) T12 (0,0)):=by
   have:=ab7 (fl vv) 0 z24 aA B7 (by rw [au];decide)
   rwa [ad8 (by rw [au];rfl)] at this
  generalize aA.setCells g7 0 (encs (Value.int .i64) (fl vv))=bv at hHeld aI ⊢;clear B7;go_wp2_with fail;refine abr (n:=12) (S:=fun w'=>Below wr.heap.size wr w'/\w'.heap[g7]?=some (.cells (ics (fl vv)) T12 (0,0))) (ds:=[]) (jb 12 0) (by kernel_rfl) rfl rfl ⟨aad hHeld,ab2 aI⟩ (fun hHeld=>?_);clear aI;generalize bv.drew=wd2 at hHeld ⊢;refine jq 0 48 (jb 12 1) ?_;refine jq 1 49 (jb 12 3) ?_;refine jq 2 50 (jb 12 7) ?_;refine jq 4 52 (jb 12 23) ?_;refine jq 5 53 (jb 12 55) ?_;refine jq 6 54 (jb 12 119) ?_;refine jq 7 55 (jb 12 247) ?_;refine jq 11 59 (jb 12 2295) ?_;refine take_ (i:=3) (N:=some 51) (v:=?_) (a':=?_) (jb 12 2303) rfl rfl (by kernel_rfl) (fun _ _ _ h=>h) (Or.inl ⟨by rfl,?_⟩) hHeld ?_ ?_;rotate_left
  ·rintro w' ⟨hs,_⟩;have y0:=hx0' w' hs;have y1:=ag w' hs;have y2:=ah w' hs;have y3:=aj w' hs;have y4:=ak w' hs;go_simp
   with_reducible rfl
  rotate_left
  ·exact qP
  refine take_ (i:=8) (N:=some 56) (a':=?_) (jb 12 2559) rfl rfl (by kernel_rfl) (fun _ _ _ h=>h) (yieldsIf_load_mid (by rfl) T12 (.tmp 55) rfl g (ai.toNat*24) rfl _ _ (fun w' hs=>hbt w' hs.1) underlying56 rfl (af4 (by rw [ac7,okx.1]))) hHeld ?_ ?_;rotate_left
  ·exact qP
  refine acO (i:=9) (N:=some 57) (jb 12 3071) rfl rfl (by kernel_rfl) (by decide) (fun K hK=>?_);refine abp func73 (by kernel_rfl) rfl #[.agg #[iV (qa c a).f0,iV (qa c a).f1,iV (qa c a).f2,iV (qa c a).f3,iV (qa c a).f4],iV ai,.agg (ics (fl x))] (by rfl) rfl rfl qM ?_
  (with_reducible refine (az _).mono ?_);rintro e bR ⟨v19,rfl,ho,hb⟩;refine⟨_,rfl,?_⟩;obtain⟨Ae,ce,rfl⟩:=R_slice ho;have hsz:=hHeld.1.size;refine hK.out _ _ ⟨aaD hHeld.1 hb,aaU hHeld.2 hb⟩ (fun hHeld=>?_);clear hK K;refine aan (a':=?_) ?_ ?_;rotate_left
  ·show Act.put _ (some 57) _=_
   simp only [Act.put,List.setIfInBounds_toArray,List.set_cons_zero,List.set_cons_succ,aat,aay];rfl
  refine jq 10 58 (jb 12 4095) ?_;refine abW (by kernel_rfl) ?_;go_wp2_with fail;have HW1:=aM (R_elder' HW.out (fun k hk=>Nat.le_trans hsz (R_base ho k hk)) hHeld.1);have aU:=aM (R_lower (R_new' ho (fun k hk=>Nat.lt_of_lt_of_le (R_lt HW.out k hk) hsz)) (Nat.le_trans HB.out.size hsz));have aV:=aM (aaU BG.out hHeld.1);have aW:=aM hHeld.2;have HB1:=aM (aaD HB.out hHeld.1);have bS:=aM (Nat.le_trans HB.out.size G7);have N7:aa1 (g≠g7):=⟨Nat.ne_of_lt (Nat.lt_of_lt_of_le (aaY BG.out) G7)⟩;clear HW HB BG hHeld ho hsz G7 hbt hx0' ag ah aj ak go1 az hb_
  have fin:Sys.wpass (FS c) ((FS c).out a ((FS c).at' T a)) T v=Sys.wpass (FS c) (es.map fun e=>(e,vv)) T v:=by
   have g0:(fa ((FS c).at' T a) 0).f0≠0:=by
    rw [<- HX.out];exact an6 okx (by rw [HX.out];exact (Sys.wk_step (abV h) HK.out.1).2.1)
   have e:(FS c).out a ((FS c).at' T a)=(aca (q_ (qa c a)) a ((FS c).at' T a)).map fun e=>(e,ah0 (q_ (qa c a)) ((FS c).at' T a)):=if_neg g0
   rw [e,<- HX.out,<- HES.out,<- HVV.out]
  have FIN:=aM fin;clear fin
  have hel:∀ e∈es,e < c.length:=fun e he=>by
   rw [HES.out] at he;exact ajI h aG (aez he)
  have bz:es.length<=2:=by rw [HES.out];exact ail _ _ _
  go_loopg [5,59] es.length (fun kq v5 v59 w'=>∃ (pj:Int) (p:Nat) (T':List (List SF)) (l':List Nat),v59 = iV pj/\aa1 (pj=(p:Int)/\p+kq=es.length/\(FS c).St T'/\(FS c).cap T' + l'.length<=20000/\Sys.wpass (FS c) ((es.drop p).map fun e=>(e,vv)) T' l'=Sys.wpass (FS c) (es.map fun e=>(e,vv)) T v)/\aa1 (w'.heap[g]?=some (.cells (ics (flat T')) T12 (0,0)))/\aa1 (w'.heap[g7]?=some (.cells (ics (fl vv)) T12 (0,0)))/\aa1 (Kd.R (Kd.int .i64) 3 w' w.heap.size (fun k=>k≠g/\some k≠(.slice Ae (ints es).length ce:Value).ownBlock) v5 (ints l'))/\aa1 (Kd.R (Kd.int .i64) 3 w' w.heap.size (fun k=>True/\some k≠v5.ownBlock) (.slice Ae (ints es).length ce) (ints es))/\aa1 (Below w.heap.size w w'));case atStart=>exact⟨0,0,T,v,rfl,⟨rfl,Nat.zero_add _,hT,by have:=HK.out.2;rw [List.length_append] at this;omega,by rw [List.drop_zero]⟩,aV,aW,HW1,aU,HB1⟩
  clear aV aW HW1 aU HB1;obtain⟨pj,p,T',l',rfl,HP,BG,B7,HW,HE,HB⟩:=hrel;obtain⟨hpj,hpk,hT',hc',hfin⟩:=HP.out;clear HP;obtain⟨aJ,aK,rfl⟩:=R_slice HW.out;by_cases ep:p < es.length
  ·have hpb:p < es.length:=ep;obtain⟨en,hen⟩:∃ en,en=es.getD p 0:=⟨_,rfl⟩
   have hec:en < c.length:=by rw [hen];exact hel _ (ada hpb)
   obtain⟨ni,hni⟩:∃ j:Int,j=(en:Int):=⟨_,rfl⟩
   have hTl':T'.length=c.length:=hT'.1;obtain⟨tn,htn⟩:∃ tn,tn=T'.getD en []:=⟨_,rfl⟩
   have okt:okR tn:=by
    rw [htn,<- aiS (c:=c) (by omega)];exact hT'.2 en hec
   have af:(fl tn).length=24:=by rw [ac7,okt.1]
   have hrg:wr.rangeAt g (ni.toNat*24) (encs (Value.int .i64) (fl tn)):=by
    have:=aes BG.out (agK hT') (i:=en) (by omega)
    rw [<- htn] at this;rw [hni,Int.toNat_natCast];exact this
   have aC:0<=pj:=by omega
   have aD:pj < ((ints es).length:Int):=by rw [ab1];omega
   have hrd:rd (ints es) pj=ni:=by rw [hpj,ad6,hni,hen]
   obtain⟨aN,e2,hx0⟩:=Kd.at_int (R_reads' HE.out).2.2 pj aC aD;cases e2;rw [hrd] at hx0;have n0:0<=ni:=by omega
   have n1:ni < (c.length:Int):=by omega
   have bA:=eq_true aC;have bB:=eq_true aD;have bC:=decide_eq_true aC;have bD:=decide_eq_true aD;have bT:=eq_true n0;have bU:=eq_true n1;have bV:=decide_eq_true n0;have n1b:=decide_eq_true n1;have HP:=aM (And.intro hpj (And.intro hpk (And.intro hT' (And.intro hc' hfin))));have HN:=aM (And.intro hen hni);have HTN:=aM htn;clear hpj hpk hT' hc' hfin hen hni htn hrd aC aD n0 n1 ep;go_wp2_with (first|((with_reducible refine afW (N:=66) rfl rfl rfl rfl af hrg ?_))|((with_reducible refine jd 10 ?_);refine jX (ics z24) T12 ?_;intro g10 hg bW hbox hb;have aX:=aM (show g≠g10 by rw [hg];exact Nat.ne_of_lt (aaY BG.out));have aY:=aM (show g7≠g10 by rw [hg];exact Nat.ne_of_lt (aaY B7.out));have aZ:=kG hg;replace BG:=kB BG hb;replace B7:=kB B7 hb;replace HW:=kR HW hb;replace HE:=kR HE hb;replace HB:=kH hb;clear hx0 hrg;have B10:=aM hbox;clear hg hbox hb)|((with_reducible refine aea (p:=10) (v:=66) rfl rfl rfl rfl af B10.out (by decide) ?_);intro bX hw ax;rw [ad8 (by rw [af];rfl)] at ax;replace BG:=aM (ads hw aX.out BG.out);replace B7:=aM (ads hw aY.out B7.out);replace HW:=aM (R_mono (acY hw (fun _ hk=>hk.2) (R_types HW.out B10.out (by decide))) (fun _ hk=>hk.1));replace HE:=aM (R_mono (acY hw (fun _ hk=>hk.2) (R_types HE.out B10.out (by decide))) (fun _ hk=>hk.1));replace HB:=aM (abf hw aZ.out HB.out);clear B10 hw;have B10:=aM ax;clear ax));have bg:=jP0 vv okt.1;go_loopg [67] 12 (fun kq v67 w'=>∃ (ri:Int) (r:Nat),v67 = iV ri/\aa1 (ri=(r:Int)/\r+kq=12)/\aa1 (w'.heap[g10]?=some (.cells (ics (fl (jP r tn vv))) T12 (0,0)))/\aa1 (w'.heap[g]?=some (.cells (ics (flat T')) T12 (0,0)))/\aa1 (w'.heap[g7]?=some (.cells (ics (fl vv)) T12 (0,0)))/\aa1 (Kd.R (Kd.int .i64) 3 w' w.heap.size (fun k=>k≠g/\some k≠(.slice (some aN) (ints es).length ce:Value).ownBlock) (.slice aJ (ints l').length aK) (ints l'))/\aa1 (Kd.R (Kd.int .i64) 3 w' w.heap.size (fun k=>True/\some k≠(.slice aJ (ints l').length aK:Value).ownBlock) (.slice (some aN) (ints es).length ce) (ints es))/\aa1 (Below w.heap.size w w'));case atStart=>exact⟨0,0,rfl,⟨rfl,rfl⟩,⟨by rw [bg];exact B10.out⟩,BG,B7,HW,HE,HB⟩
   clear B10 BG B7 HW HE HB bg;obtain⟨ri,r,rfl,HR,B10,BG,B7,HW,HE,HB⟩:=hrel;rcases gk with _|k1
   ·have er:r=12:=by have:=HR.out.2;omega
    subst er;rw [arJ] at B10;have hri:ri=12:=HR.out.1;subst hri;have aQ:(fl (jR tn vv)).length=24:=by rw [ac7,show (jR tn vv).length=12 from aaF _]
    have j12:(jR tn vv).length=12:=aaF _;have t12:=okt.1
    have hrg:wr.rangeAt g (ni.toNat*24) (encs (Value.int .i64) (fl tn)):=by
     have:=aes BG.out (agK HP.out.2.2.1) (i:=en) (by omega)
     rw [<- HTN.out] at this;rw [HN.out.2,Int.toNat_natCast];exact this
    have hrg2:wr.rangeAt g10 0 (encs (Value.int .i64) (fl (jR tn vv))):=aco B10.out;go_wp2_with fail;refine abr (n:=6) (S:=fun w'=>Below wr.heap.size wr w') (ds:=[]) (jb 6 0) (by kernel_rfl) rfl rfl (aad (Below.refl _ _)) (fun hHeld=>?_);have HWD:aa1 (Below wr.heap.size wr wr.drew):=⟨hHeld⟩;generalize wr.drew=wd4 at hHeld HWD ⊢;refine take_ (i:=0) (N:=some 80) (a':=?_) (jb 6 1) rfl rfl (by kernel_rfl) (fun _ _ _ h=>h) (yieldsIf_load_mid (by rfl) T12 (.tmp 10) rfl g10 0 rfl _ _ (fun w' hs=>aec hrg2 hs) underlying56 rfl (af4 aQ)) hHeld ?_ ?_;rotate_left
    ·exact qP
    refine jq 1 81 (jb 6 3) ?_;refine jq 2 82 (jb 6 7) ?_;refine jq 3 83 (jb 6 15) ?_;refine take_ (i:=4) (N:=some 84) (a':=?_) (jb 6 31) rfl rfl (by kernel_rfl) (fun _ _ _ h=>h) (yieldsIf_load_mid (by rfl) T12 (.tmp 83) rfl g (ni.toNat*24) rfl _ _ (fun w' hs=>aec hrg hs) underlying56 rfl (af4 af)) hHeld ?_ ?_;rotate_left
    ·exact qP
    refine jq 5 85 (jb 6 63) ?_;refine abW (by kernel_rfl) ?_;have n2:=aM (aaU BG.out HWD.out);have n3:=aM (aaU B7.out HWD.out);have n4:=aM (R_below HW.out HWD.out);have n5:=aM (R_below HE.out HWD.out);have n6:=aM (aaU B10.out HWD.out);have n1:=aM (aaD HB.out HWD.out);clear HB BG B7 HW HE B10 HWD hHeld hrg hrg2;have HB:=n1;have BG:=n2;have B7:=n3;have HW:=n4;have HE:=n5;have B10:=n6;clear n1 n2 n3 n4 n5 n6;have hdrop:es.drop p=en :: es.drop (p+1):=by rw [HN.out.1];exact acu 0 hpb
    have hat:(FS c).at' T' en=tn:=by rw [HTN.out];exact aiS (by omega)
    by_cases ej:jR tn vv=tn
    ·have ejb:decide (jR tn vv=tn)=true:=decide_eq_true ej;have ejt:(jR tn vv=tn)=True:=eq_true ej
     have hw2:Sys.wpass (FS c) ((es.drop (p+1)).map fun e=>(e,vv)) T' l'=Sys.wpass (FS c) (es.map fun e=>(e,vv)) T v:=by
      rw [<- HP.out.2.2.2.2,hdrop,List.map_cons,Sys.wpass,if_pos (by show jR ((FS c).at' T' en) vv=(FS c).at' T' en;rw [hat];exact ej)]
     have HW2:=aM hw2;clear hw2 ej hdrop hat;rw [ejb,Bool.not_true];clear ejb ejt;go_wp2;go_roundg (es.length - (p+1));case measure=>have:=HP.out.2.1;omega
     exact⟨_,p+1,T',l',rfl,⟨by have:=HP.out.1;(first|omega|(rw [aaK (by omega) (by omega)];omega)),by omega,HP.out.2.2.1,HP.out.2.2.2.1,HW2.out⟩,BG,B7,HW,HE,HB⟩
    have ejb:decide (jR tn vv=tn)=false:=decide_eq_false ej;have ejt:(jR tn vv=tn)=False:=eq_false ej;have hen:en < (FS c).n:=hec
    have neq:(FS c).jn ((FS c).at' T' en) vv≠(FS c).at' T' en:=by
     show ¬ jR ((FS c).at' T' en) vv=(FS c).at' T' en
     rw [hat];exact ej
    have eput:Sys.put (FS c) T' (en,vv)=T'.set en (jR tn vv):=by
     show T'.set en (jR ((FS c).at' T' en) vv)=_
     rw [hat]
    have st2:=Sys.put_st (abV h) HP.out.2.2.1 (p:=(en,vv)) hen okv;have cp2:=Sys.put_cap (abV h) HP.out.2.2.1 (p:=(en,vv)) hen okv neq
    have hw2:Sys.wpass (FS c) ((es.drop (p+1)).map fun e=>(e,vv)) (Sys.put (FS c) T' (en,vv)) (l' ++ [en])=Sys.wpass (FS c) (es.map fun e=>(e,vv)) T v:=by
     rw [<- HP.out.2.2.2.2,hdrop,List.map_cons,Sys.wpass,if_neg neq]
    rw [eput] at st2 cp2 hw2;have HQ:=aM (And.intro st2 (And.intro cp2 hw2))
    have aR:ni.toNat*24+24<=(flat T').length:=by
     rw [ahH (agK HP.out.2.2.1),HN.out.2,Int.toNat_natCast];omega
    have hov:over (flat T') (ni.toNat*24) (fl (jR tn vv))=flat (T'.set en (jR tn vv)):=by
     rw [HN.out.2,Int.toNat_natCast];exact aif (agK HP.out.2.2.1) (by omega) j12
    have bY:l'.length<=20000:=by have:=HP.out.2.2.2.1;omega
    have eni:ints l' ++ [ni]=ints (l' ++ [en]):=by rw [HN.out.2,aie]
    rw [ejb,Bool.not_false];clear ejb ejt ej hen neq eput st2 cp2 hw2 hdrop hat;go_wp2_with (first|((with_reducible refine afW (N:=88) rfl rfl rfl rfl aQ (aco B10.out) ?_))|((with_reducible refine aea (p:=89) (v:=88) rfl rfl rfl rfl aQ BG.out aR ?_);intro bZ hw hbg;rw [hov] at hbg;have n3:=aM (ads hw (Ne.symm N7.out) B7.out);have n4:=aM (acY hw (fun _ hk=>hk.1) HW.out);have n5:=aM (R_mono (acY hw (fun _ hk=>hk.2) (R_types HE.out BG.out (by decide))) (fun _ hk=>hk.1));replace HB:=aM (abf hw GG.out HB.out);clear BG B7 HW HE hw;have BG:=aM hbg;have B7:=n3;have HW:=n4;have HE:=n5;clear n3 n4 n5 hbg)|((with_reducible refine aa9 (b:=.append) (xs:=#[.tmp 90,.tmp 92]) rfl ?_);at_builtin;refine R_append (Kd.int .i64) (w0:=w) w.heap.size rfl (.tmp 90) (.tmp 92) 28 3 (iV 0) 8 rfl underlying28 akj rfl (by decide) (by omega) (.slice aJ (ints l').length aK) (ints l') ni [iV ni] (fun k_=>k_≠g/\some k_≠(.slice (some aN) (ints es).length ce:Value).ownBlock) (fun _=>False) rfl rfl ?aP (fun _ hk=>hk.elim) ?aF ?aO ?aB ?aS ?aL ?_;(case aP=>exact rfl);(case aB=>exact HB.out);(case aF=>exact (fun k_ hk=>⟨fun z=>absurd (aaY BG.out) (by omega),Kd.fresh' (R_lt HE.out) k_ hk⟩));(case aO=>exact HW.out);(case aS=>exact HB.out.size);(case aL=>rw [ab1];omega);intro v93 cu ho hb hg hat;have n2:=aM (aam BG.out hg (R_away HW.out (fun _ hk=>hk.1)));have n3:=aM (aam B7.out hg (R_away (R_types HW.out B7.out (by decide)) (fun _ hk=>hk.2)));have n5:=aM (R_after (ok:=fun _=>True) HE.out hg hat);rw [eni] at ho;have n4:=aM ho;replace HB:=aM hb;clear BG B7 HW HE ho hb hg hat;have BG:=n2;have B7:=n3;have HW:=n4;have HE:=n5;clear n2 n3 n4 n5));go_roundg (es.length - (p+1));case measure=>have:=HP.out.2.1;omega
    exact⟨_,p+1,T'.set en (jR tn vv),l' ++ [en],rfl,⟨by have:=HP.out.1;(first|omega|(rw [aaK (by omega) (by omega)];omega)),by omega,HQ.out.1,by have:=HQ.out.2.1;have:=HP.out.2.2.2.1;rw [List.length_append,List.length_singleton];omega,HQ.out.2.2⟩,BG,B7,HW,HE,HB⟩
   have aT:r < 12:=by have:=HR.out.2;omega
   have hri:ri=(r:Int):=HR.out.1;have r0:0<=ri:=by omega
   have r1:ri < 12:=by omega
   have rt:ri.toNat=r:=by rw [hri];rfl
   have hlP:(jP r tn vv).length=12:=aaF _;have f0:=abR B10.out hlP (i:=ri) (by omega);have f1:=abT B10.out hlP (i:=ri) (by omega);have f2:=abR B7.out okv.1 (i:=ri) (by omega);have f3:=abT B7.out okv.1 (i:=ri) (by omega);have ft:fa (jP r tn vv) ri.toNat=fa tn r:=by rw [rt,ahI _ _ _ aT,if_neg (Nat.lt_irrefl r)]
   have fv:fa vv ri.toNat=fa vv r:=by rw [rt]
   rw [ft] at f0 f1;rw [fv] at f2 f3;have hm2:ri.toNat*2+2<=(fl (jP r tn vv)).length:=by rw [ac7,hlP];omega
   have hov:over (fl (jP r tn vv)) (ri.toNat*2) [(jF (fa tn r) (fa vv r)).f0,(jF (fa tn r) (fa vv r)).f1]=fl (jP (r+1) tn vv):=by
    rw [rt,Nat.mul_comm,af6 _ _ _ _ (by rw [hlP];exact aT),<- aof r aT tn vv]
   have cz:=eq_true r0;have cB:=eq_true r1;have cK:=decide_eq_true r0;have cO:=decide_eq_true r1;clear r0 r1 rt ft fv hri hlP;go_wp2_with fail;have bi:=fun W=>ar7 (fa tn r) (fa vv r) W
   refine abr (n:=10) (S:=fun w'=>Below wr.heap.size wr w') (ds:=[9]) (jb 10 0) (by kernel_rfl) rfl rfl (aad (Below.refl _ _)) (fun hHeld=>?_);generalize wr.drew=wd3 at hHeld ⊢;refine jq 0 70 (jb 10 1) ?_;refine jq 1 71 (jb 10 3) ?_;refine jq 2 72 (jb 10 7) ?_;refine jq 4 74 (jb 10 23) ?_;refine jq 5 75 (jb 10 55) ?_;refine take_ (i:=3) (N:=some 73) (v:=?_) (a':=?_) (jb 10 63) rfl rfl (by kernel_rfl) (fun _ _ _ h=>h) (Or.inl ⟨by rfl,?_⟩) hHeld ?_ ?_;rotate_left
   ·intro w' hs;have z0:=(hs.cell (World.block_lt_of_cell? wr _ f0)).trans f0;have z1:=(hs.cell (World.block_lt_of_cell? wr _ f1)).trans f1;go_simp
    with_reducible rfl
   rotate_left
   ·exact qP
   refine take_ (i:=6) (N:=some 76) (v:=?_) (a':=?_) (jb 10 127) rfl rfl (by kernel_rfl) (fun _ _ _ h=>h) (Or.inl ⟨by rfl,?_⟩) hHeld ?_ ?_;rotate_left
   ·intro w' hs;have z0:=(hs.cell (World.block_lt_of_cell? wr _ f2)).trans f2;have z1:=(hs.cell (World.block_lt_of_cell? wr _ f3)).trans f3;go_simp
    with_reducible rfl
   rotate_left
   ·exact qP
   refine acO (i:=7) (N:=some 77) (jb 10 255) rfl rfl (by kernel_rfl) (by decide) (fun K hK=>?_);refine abp func74 (by kernel_rfl) rfl #[.agg #[iV (fa tn r).f0,iV (fa tn r).f1],.agg #[iV (fa vv r).f0,iV (fa vv r).f1]] (by rfl) rfl rfl qM ?_
   (with_reducible refine (bi _).mono ?_);rintro e ay ⟨rfl,hb⟩;refine⟨_,rfl,?_⟩;refine hK.out _ _ (aaD hHeld hb) (fun hHeld=>?_);clear hK K hb;refine aan (a':=?_) ?_ ?_;rotate_left
   ·show Act.put _ (some 77) _=_
    simp only [Act.put,List.setIfInBounds_toArray,List.set_cons_zero,List.set_cons_succ,aat,aay];rfl
   refine jq 8 78 (jb 10 511) ?_;refine afY (i:=9) (N:=none) (jb 10 1023) rfl rfl (by kernel_rfl) (by decide) (fun K hK=>?_);have ae:=aaU B10.out hHeld;refine aep (w1:=ay.setCells g10 (ri.toNat*2) (encs (Value.int .i64) [(jF (fa tn r) (fa vv r)).f0,(jF (fa tn r) (fa vv r)).f1])) (by rfl) rfl ?_ ?_
   ·exact ak8 (x:=.tmp 78) (y:=.tmp 77) (g:=g10) (o:=ri.toNat*2) rfl rfl rfl ae hm2
   refine hK.out _ _ ?_;clear hK K;refine abW (by kernel_rfl) ?_;have hw:ay.setCells g10 (ri.toNat*2) (encs (Value.int .i64) [(jF (fa tn r) (fa vv r)).f0,(jF (fa tn r) (fa vv r)).f1])=ay.setCells g10 (ri.toNat*2) (encs (Value.int .i64) [(jF (fa tn r) (fa vv r)).f0,(jF (fa tn r) (fa vv r)).f1]):=rfl;have m10:aa1 ((ay.setCells g10 (ri.toNat*2) (encs (Value.int .i64) [(jF (fa tn r) (fa vv r)).f0,(jF (fa tn r) (fa vv r)).f1])).heap[g10]?=some (.cells (ics (fl (jP (r+1) tn vv))) T12 (0,0))):=⟨by rw [<- hov];exact ab7 [_,_] _ _ _ ae hm2⟩;have mG:=aM (ads hw aX.out (aaU BG.out hHeld));have m7:=aM (ads hw aY.out (aaU B7.out hHeld));have mW:=aM (R_mono (acY hw (fun _ hk=>hk.2) (R_types (R_below HW.out hHeld) ae (by decide))) (fun _ hk=>hk.1));have mE:=aM (R_mono (acY hw (fun _ hk=>hk.2) (R_types (R_below HE.out hHeld) ae (by decide))) (fun _ hk=>hk.1));have mB:=aM (abf hw aZ.out (aaD HB.out hHeld));generalize ay.setCells g10 (ri.toNat*2) (encs (Value.int .i64) [(jF (fa tn r) (fa vv r)).f0,(jF (fa tn r) (fa vv r)).f1])=df at m10 mG m7 mW mE mB ⊢;clear hw B10 BG B7 HW HE HB hHeld ae f0 f1 f2 f3 bi;go_wp2;go_roundg k1;case measure=>omega
   exact⟨_,r+1,rfl,⟨by have:=HR.out.1;(first|omega|(rw [aaK (by omega) (by omega)];omega)|(rw [aat,aaK (by omega) (by omega)];omega)),by have:=HR.out.2;omega⟩,m10,mG,m7,mW,mE,mB⟩
  have pb:decide (pj < ((ints es).length:Int))=false:=decide_eq_false (by rw [ab1];omega);have HF:aa1 (Sys.wpass (FS c) (es.map fun e=>(e,vv)) T v=(T',l')):=⟨by rw [<- hfin,List.drop_eq_nil_of_le (by omega)];rfl⟩;have hcF:=aM hc';clear hfin hpj hpk hc';go_wp2_with fail;go_roundg ((FS c).cap T' + l'.length)
  case measure =>
   have k:=(Sys.wk_step (abV h) HK.out.1).2.2.2;have k2:=HK.out.2.1;rw [FIN.out,HF.out] at k;simp only at k;omega
  case rel =>
   have k:=(Sys.wk_step (abV h) HK.out.1).2.2.1;rw [FIN.out,HF.out] at k;exact⟨T',l',⟨k,Nat.le_refl _,hcF.out⟩,BG,⟨R_mono HW.out (fun _ hk=>hk.1)⟩,HB⟩
 have hp:p < 12:=by have:=HP.out;omega
 have pb:decide ((p:Int) < 12)=true:=decide_eq_true (by omega);have pb':decide (p < 12)=true:=decide_eq_true hp
 have hm:p*2+2<=(flat (akE c.length p)).length:=by
  rw [ahH (ane (by omega))]
  have:(akE c.length p).length=c.length:=by simp [akE]
  omega
 have pp:=anc (p:=p) h6.1 hp;go_wp2_with (first|((with_reducible refine adg (p:=22) (v:=20) rfl rfl rfl rfl BG.out hm ?_);intro w3 hw hb3;have n1:=aM (abf hw GG.out HB.out);rw [pp] at hb3;clear BG HB hw;have BG:=aM hb3;have HB:=n1;clear n1 hb3));go_roundg k1;case measure=>omega
 exact⟨p+1,by rw [show ((p:Int)+1)=((p+1:Nat):Int) from by omega],⟨by have:=HP.out;omega⟩,BG,HB⟩
attribute [local go_sem high] arP
theorem R_put {α:Type} {d:Kd α} {e base g o:Nat} {ok:Nat->Prop} {v u:Value} {xs:List α} {w w':World} (hw:w'=w.setCell ⟨g,o,none⟩ u) (hg:∀ k,ok k->k≠g) (h:d.R e w base ok v xs):d.R e w' base ok v xs:=by
 rw [hw];exact R_far (p:=⟨g,o,none⟩) h hg u
theorem alH {g:Nat} {w0 w w':World} {o:Nat} {u:Value} (hw:w'=w.setCell ⟨g,o,none⟩ u) (hg:w0.heap.size<=g) (h:Below w0.heap.size w0 w):Below w0.heap.size w0 w':=by
 rw [hw];exact aag h hg
end Go.Proofs.YtdkkdiiceaomaaaGreat.M
namespace Go.Proofs.YtdkkdiiceaomaaaGreat.M
open Go.Proofs.Tryz Go.RowKit Go.Proofs.YtdkkdiiceaomaaaGreatW.PrintWords Go.Proofs.YtdkkdiiceaomaaaGreatW.PrintLast Go.Proofs.YtdkkdiiceaomaaaGreatW.PrintMore PM
abbrev TQ:TypeId:=31
theorem anf {l:List Int} (h:l.length=5):(prog.info? TQ).map (·.size)=some (ics l).size:=by
 rw [abO,h]
 kernel_rfl
section
variable {ops:Array Oper} {rest:List Oper} {op:Oper} {a:Act} {Q:Exit->Act->World->Prop}
theorem agJ {w:World} {p v:Tmp} (ho:op.op = .store TQ (.tmp p) (.tmp v)) (hgd:op.guard=none) {g:Nat} (hx:a.eval (.tmp p) = .pointer (some ⟨g,0,none⟩)) {v0 v1 v2 v3 v4:Int} (hy:a.eval (.tmp v) = .agg #[iV v0,iV v1,iV v2,iV v3,iV v4]) (hb:w.heap[g]?=some (.cells (ics [0,0,0,0,0]) TQ (0,0)))
  (h:∀ w',w'=w.setCells g 0 (encs (Value.int .i64) [v0,v1,v2,v3,v4])->w'.heap[g]?=some (.cells (ics [v0,v1,v2,v3,v4]) TQ (0,0))->wpList prog ops Q rest (a.put op.dst undef) w'):wpList prog ops Q (op :: rest) a w:=by
 refine wpList_store_mid hgd TQ (.tmp p) (.tmp v) ho g 0 (ics [v0,v1,v2,v3,v4]) hx hy ?_ (anf rfl) (aee _) ?_
 ·rw [abO];exact aci hb (by simp)
 exact h _ rfl (ab7 [v0,v1,v2,v3,v4] 0 [0,0,0,0,0] w hb (by simp))
end
theorem apE {w:World} {fn:Func} {p:Tmp} (h:fn.results = #[.cell p TQ]) {tmps:Array Value} {g:Nat} {v0 v1 v2 v3 v4:Int} (hp:tmps.getD p undef = .pointer (some ⟨g,0,none⟩)) (hb:w.heap[g]?=some (.cells (ics [v0,v1,v2,v3,v4]) TQ (0,0))):(results fn tmps).run prog w = .ok (.agg #[iV v0,iV v1,iV v2,iV v3,iV v4]) w :=
 results_cell_row h tmps w g TQ _ _ _ hp hb underlying31 rfl (anf (l:=[v0,v1,v2,v3,v4]) rfl)
theorem Sa1.e (f:SF) (n:Int):apD f.f0 f.f1 n=some (isF f n):=by
 unfold apD isF;by_cases h:f.f0=1 <;> simp [h]
set_option maxHeartbeats 4000000 in
theorem an1 (r d:Int) (g3:Nat) (w:World) (h:w.cell? ⟨g3,1,none⟩=some (iV d)) :
  Calls prog 99 #[iV r,.pointer (some ⟨g3,0,none⟩)] w fun e w'=>e = .returned (.agg #[iV 2,iV d,iV r,iV 0,iV 0])/\Below w.heap.size w w':=by
 have HB:=jb_ w;have H1:=aM h;clear h;go_enter func99,ntmps99;go_wp2_with (first|((with_reducible refine jd 3 ?_);refine jX (ics [0,0,0,0,0]) TQ ?_;intro g6 hg w2 hbox hb;have h1:=(hb.cell (World.block_lt_of_cell? w _ H1.out)).trans H1.out;have B6:=aM hbox;have G6:=kG hg;replace HB:=kH hb;clear hg hbox hb)|((with_reducible refine agJ (p:=3) (v:=7) rfl rfl rfl rfl B6.out ?_);intro w3 hw hb6;replace HB:=aM (abf hw G6.out HB.out);clear B6 hw h1;have B6:=aM hb6;clear hb6));exact bodyPost_ret (apE rfl rfl B6.out) rfl ⟨rfl,HB.out⟩
theorem arw (f0 f1 f2 f3 f4:Int) (a b:SF) (hcc:¬ (a.f0=1/\b.f0=1)) (hf:f4=1\/f4=2\/f4=3\/f4=4\/f4=5\/f4=6\/f4=7\/f4=8\/f4=9\/f4=10\/f4=11\/f4=12):(f4=1/\isF b 0=true/\aby ⟨f0,f1,f2,f3,f4⟩ a b=⟨2,f1,f2,0,0⟩)\/(f4=1/\isF b 0=false/\isF a 0=true/\aby ⟨f0,f1,f2,f3,f4⟩ a b=⟨2,f1,f3,0,0⟩)\/(f4=1/\isF b 0=false/\isF a 0=false/\aby ⟨f0,f1,f2,f3,f4⟩ a b=⟨f0,f1,f2,f3,1⟩)\/(f4=2/\isF b 0=true/\aby ⟨f0,f1,f2,f3,f4⟩ a b=⟨2,f1,f2,0,0⟩)\/(f4=2/\isF b 0=false/\isF a 0=true/\aby ⟨f0,f1,f2,f3,f4⟩ a b=⟨2,f1,f3,0,0⟩)\/(f4=2/\isF b 0=false/\isF a 0=false/\aby ⟨f0,f1,f2,f3,f4⟩ a b=⟨f0,f1,f2,f3,2⟩)\/(f4=3/\isF a 0=true/\aby ⟨f0,f1,f2,f3,f4⟩ a b=⟨1,f1,0,0,0⟩)\/(f4=3/\isF a 0=false/\isF b 0=true/\aby ⟨f0,f1,f2,f3,f4⟩ a b=⟨1,f1,0,0,0⟩)\/(f4=3/\isF a 0=false/\isF b 0=false/\aby ⟨f0,f1,f2,f3,f4⟩ a b=⟨f0,f1,f2,f3,3⟩)\/(f4=4/\aby ⟨f0,f1,f2,f3,f4⟩ a b=⟨f0,f1,f2,f3,4⟩)\/(f4=5/\aby ⟨f0,f1,f2,f3,f4⟩ a b=⟨f0,f1,f2,f3,5⟩)\/(f4=6/\isF b 0=true/\aby ⟨f0,f1,f2,f3,f4⟩ a b=⟨2,f1,f2,0,0⟩)\/(f4=6/\isF b 0=false/\aby ⟨f0,f1,f2,f3,f4⟩ a b=⟨f0,f1,f2,f3,6⟩)\/(f4=7/\isF b 0=true/\aby ⟨f0,f1,f2,f3,f4⟩ a b=⟨2,f1,f2,0,0⟩)\/(f4=7/\isF b 0=false/\aby ⟨f0,f1,f2,f3,f4⟩ a b=⟨f0,f1,f2,f3,7⟩)\/(f4=8/\isF b 0=true/\aby ⟨f0,f1,f2,f3,f4⟩ a b=⟨2,f1,f2,0,0⟩)\/(f4=8/\isF b 0=false/\isF a 0=true/\aby ⟨f0,f1,f2,f3,f4⟩ a b=⟨2,f1,f3,0,0⟩)\/(f4=8/\isF b 0=false/\isF a 0=false/\aby ⟨f0,f1,f2,f3,f4⟩ a b=⟨f0,f1,f2,f3,8⟩)\/(f4=9/\isF b 0=true/\aby ⟨f0,f1,f2,f3,f4⟩ a b=⟨2,f1,f2,0,0⟩)\/(f4=9/\isF b 0=false/\aby ⟨f0,f1,f2,f3,f4⟩ a b=⟨f0,f1,f2,f3,9⟩)\/(f4=10/\isF b 1=true/\aby ⟨f0,f1,f2,f3,f4⟩ a b=⟨2,f1,f2,0,0⟩)\/(f4=10/\isF b 1=false/\isF a 1=true/\aby ⟨f0,f1,f2,f3,f4⟩ a b=⟨2,f1,f3,0,0⟩)\/(f4=10/\isF b 1=false/\isF a 1=false/\isF a 0=true/\aby ⟨f0,f1,f2,f3,f4⟩ a b=⟨1,f1,0,0,0⟩)\/(f4=10/\isF b 1=false/\isF a 1=false/\isF a 0=false/\isF b 0=true/\aby ⟨f0,f1,f2,f3,f4⟩ a b=⟨1,f1,0,0,0⟩)\/(f4=10/\isF b 1=false/\isF a 1=false/\isF a 0=false/\isF b 0=false/\aby ⟨f0,f1,f2,f3,f4⟩ a b=⟨f0,f1,f2,f3,10⟩)\/(f4=11/\isF b 1=true/\aby ⟨f0,f1,f2,f3,f4⟩ a b=⟨2,f1,f2,0,0⟩)\/(f4=11/\isF b 1=false/\aby ⟨f0,f1,f2,f3,f4⟩ a b=⟨f0,f1,f2,f3,11⟩)\/(f4=12/\aby ⟨f0,f1,f2,f3,f4⟩ a b=⟨f0,f1,f2,f3,12⟩):=by
 rw [aby,if_neg hcc];generalize isF b 0=B0;generalize isF a 0=A0;generalize isF b 1=B1;generalize isF a 1=A1;rcases hf with rfl|rfl|rfl|rfl|rfl|rfl|rfl|rfl|rfl|rfl|rfl|rfl <;> cases B0 <;> cases A0 <;> cases B1 <;> cases A1 <;> simp
theorem akl (f0 f1 f2 f3 f4:Int) (h1:1<=f4) (h2:f4<=12) (a b:SF) (hcc:¬ (a.f0=1/\b.f0=1)) (w:World) :
  Calls prog 75 #[.agg #[iV f0,iV f1,iV f2,iV f3,iV f4],.agg #[iV a.f0,iV a.f1],.agg #[iV b.f0,iV b.f1]] w fun e w'=>e = .returned (.agg #[iV (aby ⟨f0,f1,f2,f3,f4⟩ a b).f0,iV (aby ⟨f0,f1,f2,f3,f4⟩ a b).f1,iV (aby ⟨f0,f1,f2,f3,f4⟩ a b).f2,iV (aby ⟨f0,f1,f2,f3,f4⟩ a b).f3,iV (aby ⟨f0,f1,f2,f3,f4⟩ a b).f4])/\Below w.heap.size w w':=by
 have HB:=jb_ w
 have hcb:((a.f0 == 1) && (b.f0 == 1))=false:=by
  by_cases x:a.f0=1 <;> by_cases y:b.f0=1 <;> simp [x,y]
  exact hcc ⟨x,y⟩
 have hf:f4=1\/f4=2\/f4=3\/f4=4\/f4=5\/f4=6\/f4=7\/f4=8\/f4=9\/f4=10\/f4=11\/f4=12:=by omega
 have HD:=aM (arw f0 f1 f2 f3 f4 a b hcc hf);clear hf;have HX:=aM hcb;clear h1 h2 hcc hcb;go_enter func75,ntmps75;go_upto_region 2 with (first|((with_reducible refine jd 3 ?_);refine jX #[iV f0,iV f1,iV f2,iV f3,iV f4] TQ ?_;intro g3 hg ai hbox hb;have B3:=aM hbox;have G3:=kG hg;have n1:=kH hb;clear HB;have HB:=n1;clear n1 hg hbox hb)|((with_reducible refine jd 4 ?_);refine jX #[iV a.f0,iV a.f1] 54 ?_;intro g4 hg aj hbox hb;have k3:=kB B3 hb;clear B3;have B3:=k3;clear k3;have B4:=aM hbox;have G4:=kG hg;have n1:=kH hb;clear HB;have HB:=n1;clear n1 hg hbox hb)|((with_reducible refine jd 5 ?_);refine jX #[iV b.f0,iV b.f1] 54 ?_;intro g5 hg ak hbox hb;have k3:=kB B3 hb;have k4:=kB B4 hb;clear B3 B4;have B3:=k3;have B4:=k4;clear k3 k4;have B5:=aM hbox;have G5:=kG hg;have n1:=kH hb;clear HB;have HB:=n1;clear n1 hg hbox hb)|((with_reducible refine jd 6 ?_);refine jX (ics [0,0,0,0,0]) TQ ?_;intro g6 hg ah hbox hb;have k3:=kB B3 hb;have k4:=kB B4 hb;have k5:=kB B5 hb;clear B3 B4 B5;have B3:=k3;have B4:=k4;have B5:=k5;clear k3 k4 k5;have B6:=aM hbox;have G6:=kG hg;have n1:=kH hb;clear HB;have HB:=n1;clear n1 hg hbox hb;obtain⟨q0,q1,q2,q3,q4⟩:=ab3 B3.out;obtain⟨a0,a1⟩:=abG B4.out;obtain⟨b0,b1⟩:=abG B5.out));go_cut [16] (fun v16 wc=>v16 = .bool false/\wc=ah)
 case first =>
  cases hx:(a.f0 == 1) with
  | true =>
   have hy:(b.f0 == 1)=false:=by have:=HX.out;simpa [hx] using this
   go_wp2;go_meet;exact⟨rfl,rfl⟩
  | false =>
   go_wp2;go_meet;exact⟨rfl,rfl⟩
 obtain⟨rfl,rfl⟩:=hcut;clear HX;have aa:=Sa1.e b 0;have ae:=Sa1.e a 0;have af:=Sa1.e b 1;have ag:=Sa1.e a 1;rcases HD.out with ⟨rfl,hb0,hres⟩ | ⟨rfl,hb0,ha0,hres⟩ | ⟨rfl,hb0,ha0,hres⟩ | ⟨rfl,hb0,hres⟩ | ⟨rfl,hb0,ha0,hres⟩ | ⟨rfl,hb0,ha0,hres⟩ | ⟨rfl,ha0,hres⟩ | ⟨rfl,ha0,hb0,hres⟩ | ⟨rfl,ha0,hb0,hres⟩ | ⟨rfl,hres⟩ | ⟨rfl,hres⟩ | ⟨rfl,hb0,hres⟩ | ⟨rfl,hb0,hres⟩ | ⟨rfl,hb0,hres⟩ | ⟨rfl,hb0,hres⟩ | ⟨rfl,hb0,hres⟩ | ⟨rfl,hb0,ha0,hres⟩ | ⟨rfl,hb0,ha0,hres⟩ | ⟨rfl,hb0,hres⟩ | ⟨rfl,hb0,hres⟩ | ⟨rfl,hb1,hres⟩ | ⟨rfl,hb1,ha1,hres⟩ | ⟨rfl,hb1,ha1,ha0,hres⟩ | ⟨rfl,hb1,ha1,ha0,hb0,hres⟩ | ⟨rfl,hb1,ha1,ha0,hb0,hres⟩ | ⟨rfl,hb1,hres⟩ | ⟨rfl,hb1,hres⟩ | ⟨rfl,hres⟩
 all_goals
  (try rw [hb0] at aa);(try rw [ha0] at ae);(try rw [hb1] at af);(try rw [ha1] at ag);have aa:=aM aa;have ae:=aM ae;have af:=aM af;have ag:=aM ag;have HRES:=aM hres;clear hres HD;(try clear hb0);(try clear ha0);(try clear hb1);(try clear ha1);go_wp2_with (first|(go_at_call 76;(first|(with_reducible refine (Sa1.calls _ _ _ _ _ aa.out).mono ?_)|(with_reducible refine (Sa1.calls _ _ _ _ _ ae.out).mono ?_)|(with_reducible refine (Sa1.calls _ _ _ _ _ af.out).mono ?_)|(with_reducible refine (Sa1.calls _ _ _ _ _ ag.out).mono ?_));rintro e au ⟨rfl,hb⟩;replace B3:=kB B3 hb;replace B4:=kB B4 hb;replace B5:=kB B5 hb;replace B6:=kB B6 hb;replace HB:=kH hb;clear hb q0 q1 q2 q3 q4 a0 a1 b0 b1;obtain⟨q0,q1,q2,q3,q4⟩:=ab3 B3.out;obtain⟨a0,a1⟩:=abG B4.out;obtain⟨b0,b1⟩:=abG B5.out)|(go_at_call 99;(with_reducible refine (an1 _ _ _ _ q1).mono ?_);rintro e av ⟨rfl,hb⟩;replace B3:=kB B3 hb;replace B4:=kB B4 hb;replace B5:=kB B5 hb;replace B6:=kB B6 hb;replace HB:=kH hb;clear hb q0 q1 q2 q3 q4 a0 a1 b0 b1;obtain⟨q0,q1,q2,q3,q4⟩:=ab3 B3.out;obtain⟨a0,a1⟩:=abG B4.out;obtain⟨b0,b1⟩:=abG B5.out)|((with_reducible refine aaC (t:=TQ) (p:=6) rfl ?_);refine agJ (p:=6) rfl rfl rfl rfl B6.out ?_;intro w32 hw hb6;replace HB:=aM (abf hw G6.out HB.out);clear B6 hw q0 q1 q2 q3 q4 a0 a1 b0 b1;have B6:=aM hb6;clear hb6));exact bodyPost_ret (apE rfl rfl B6.out) rfl ⟨by rw [HRES.out],HB.out⟩
theorem aja (f0 f1 f2 f3 f4:Int) (a b:SF) (ha:a.f0=1) (hbb:b.f0=1) (w:World) :
  Calls prog 75 #[.agg #[iV f0,iV f1,iV f2,iV f3,iV f4],.agg #[iV a.f0,iV a.f1],.agg #[iV b.f0,iV b.f1]] w fun e w'=>e = .returned (.agg #[iV 1,iV f1,iV 0,iV 0,iV (ap f4 a.f1 b.f1)])/\Below w.heap.size w w':=by
 have HB:=jb_ w;have hx:(a.f0 == 1)=true:=by simp [ha]
 have hy:(b.f0 == 1)=true:=by simp [hbb]
 have A2:=aM (Sa7.e f4 a.f1 b.f1);clear ha hbb;go_enter func75,ntmps75;go_upto_region 3 with (first|((with_reducible refine jd 3 ?_);refine jX #[iV f0,iV f1,iV f2,iV f3,iV f4] TQ ?_;intro g3 hg au hbox hb;have B3:=aM hbox;have G3:=kG hg;have n1:=kH hb;clear HB;have HB:=n1;clear n1 hg hbox hb)|((with_reducible refine jd 4 ?_);refine jX #[iV a.f0,iV a.f1] 54 ?_;intro g4 hg av hbox hb;have ah:=aM (show g3≠g4 by rw [hg];exact Nat.ne_of_lt (aaY B3.out));have k3:=kB B3 hb;clear B3;have B3:=k3;clear k3;have B4:=aM hbox;have G4:=kG hg;have n1:=kH hb;clear HB;have HB:=n1;clear n1 hg hbox hb)|((with_reducible refine jd 5 ?_);refine jX #[iV b.f0,iV b.f1] 54 ?_;intro g5 hg ax hbox hb;have ai:=aM (show g3≠g5 by rw [hg];exact Nat.ne_of_lt (aaY B3.out));have aj:=aM (show g4≠g5 by rw [hg];exact Nat.ne_of_lt (aaY B4.out));have k3:=kB B3 hb;have k4:=kB B4 hb;clear B3 B4;have B3:=k3;have B4:=k4;clear k3 k4;have B5:=aM hbox;have G5:=kG hg;have n1:=kH hb;clear HB;have HB:=n1;clear n1 hg hbox hb)|((with_reducible refine jd 6 ?_);refine jX (ics [0,0,0,0,0]) TQ ?_;intro g6 hg ak hbox hb;have aa:=aM (show g3≠g6 by rw [hg];exact Nat.ne_of_lt (aaY B3.out));have ae:=aM (show g4≠g6 by rw [hg];exact Nat.ne_of_lt (aaY B4.out));have af:=aM (show g5≠g6 by rw [hg];exact Nat.ne_of_lt (aaY B5.out));have k3:=kB B3 hb;have k4:=kB B4 hb;have k5:=kB B5 hb;clear B3 B4 B5;have B3:=k3;have B4:=k4;have B5:=k5;clear k3 k4 k5;have B6:=aM hbox;have G6:=kG hg;have n1:=kH hb;clear HB;have HB:=n1;clear n1 hg hbox hb;obtain⟨q0,q1,q2,q3,q4⟩:=ab3 B3.out;obtain⟨a0,a1⟩:=abG B4.out;obtain⟨b0,b1⟩:=abG B5.out));have e0:=aa6 B6.out 0;have e1:=aa6 B6.out 1;have e2:=aa6 B6.out 2;have e3:=aa6 B6.out 3;have e4:=aa6 B6.out 4;obtain⟨s0,s1,s2,s3,s4⟩:=ab3 B6.out;have n36:=aa.out;have n46:=ae.out;have n56:=af.out;have n63:=Ne.symm aa.out;have n64:=Ne.symm ae.out;have n65:=Ne.symm af.out;go_region_held3 (fun w'=>w'.cell? ⟨g3,1,none⟩=some (iV f1)/\w'.cell? ⟨g3,4,none⟩=some (iV f4)/\w'.cell? ⟨g4,1,none⟩=some (iV a.f1)/\w'.cell? ⟨g5,1,none⟩=some (iV b.f1)) (first|(simp [*];done)|(go_simp;done)|(constructor <;> go_simp)) (first|(go_at_call 98;(with_reducible refine (Sa7.calls _ _ _ _ _ A2.out).mono ?_);rintro e ay ⟨rfl,nd,rfl⟩))
 rename_i hH
 clear hH;generalize hw0:World.setCell _ ⟨g6,4,none⟩ (iV (ap f4 a.f1 b.f1))=ag;have hw:ag=(ak.drewN (1+nd)).setCells g6 0 (encs (Value.int .i64) [1,f1,0,0,ap f4 a.f1 b.f1]):=hw0.symm;clear hw0;have n1:=aM (abf hw G6.out (aal HB.out _));have n6:aa1 (ag.heap[g6]?=some (.cells (ics [1,f1,0,0,ap f4 a.f1 b.f1]) TQ (0,0))):=⟨by rw [hw];exact ab7 [1,f1,0,0,ap f4 a.f1 b.f1] 0 [0,0,0,0,0] _ (abw B6.out _) (by simp)⟩;clear hw HB B6 B3 B4 B5 q0 q1 q2 q3 q4 a0 a1 b0 b1 s0 s1 s2 s3 s4 e0 e1 e2 e3 e4 n36 n46 n56 n63 n64 n65;go_wp2;exact bodyPost_ret (apE rfl rfl n6.out) rfl ⟨rfl,n1.out⟩
theorem amL {q:SQ} (h1:1<=q.f4) (h2:q.f4<=12) (a b:SF) (w:World) :
  Calls prog 75 #[.agg #[iV q.f0,iV q.f1,iV q.f2,iV q.f3,iV q.f4],.agg #[iV a.f0,iV a.f1],.agg #[iV b.f0,iV b.f1]] w fun e w'=>e = .returned (.agg #[iV (aby q a b).f0,iV (aby q a b).f1,iV (aby q a b).f2,iV (aby q a b).f3,iV (aby q a b).f4])/\Below w.heap.size w w':=by
 by_cases hcc:a.f0=1/\b.f0=1
 ·have e:aby q a b=⟨1,q.f1,0,0,ap q.f4 a.f1 b.f1⟩:=if_pos hcc;rw [e];exact aja _ _ _ _ _ a b hcc.1 hcc.2 w
 exact akl q.f0 q.f1 q.f2 q.f3 q.f4 h1 h2 a b hcc w
theorem agM {op:Oper} {x y:Operand} {ev:Operand->Value} {w:World} (ho:op.op = .store TQ x y) {g:Nat} (hx:ev x = .pointer (some ⟨g,0,none⟩)) {v0 v1 v2 v3 v4:Int} (hy:ev y = .agg #[iV v0,iV v1,iV v2,iV v3,iV v4]) (hb:w.heap[g]?=some (.cells (ics [0,0,0,0,0]) TQ (0,0))):(execOp ev op).run prog w = .ok .skip (w.setCells g 0 (encs (Value.int .i64) [v0,v1,v2,v3,v4])):=by
 have h1:=run_storeVar_mid (P:=prog) w g 0 TQ (ics [v0,v1,v2,v3,v4]) (by rw [abO];exact aci hb (by simp)) (anf rfl) (aee _);have hy':ev y = .agg (ics [v0,v1,v2,v3,v4]):=hy;unfold execOp;simp only [ho,hx,hy',Instr.storeAt,Instr.sureAddr,Sem.run_bind,Sem.run_pure,Result.andThen_ok,h1]
theorem amJ {G:Prop} (h:G:=by
  go_enter func43,ntmps43;go_wp2_with (first|((with_reducible refine jd 3 ?_);refine jX #[iV q.f0,iV q.f1,iV q.f2,iV q.f3,iV q.f4] TQ ?_;intro g3 hg aj hbox hb;have B3:=aM hbox;have G3:=kG hg;replace HB:=kH hb;clear hg hbox hb)|((with_reducible refine jd 5 ?_);refine jX (ics (fl x)) T12 ?_;intro g5 hg ak hbox hb;replace B3:=kB B3 hb;have B5:=aM hbox;have G5:=kG hg;replace HB:=kH hb;clear hg hbox hb)|((with_reducible refine jd 6 ?_);refine jX (ics [0,0,0,0,0]) TQ ?_;intro g6 hg aa hbox hb;replace B3:=kB B3 hb;replace B5:=kB B5 hb;have B6:=aM hbox;have G6:=kG hg;replace HB:=kH hb;clear hg hbox hb;obtain⟨q0,q1,q2,q3,q4⟩:=ab3 B3.out;have a0:=abR B5.out hx.1 ra;have a1:=abT B5.out hx.1 ra;have b0:=abR B5.out hx.1 rb;have b1:=abT B5.out hx.1 rb)|(go_at_call 76;(with_reducible refine (Sa1.calls _ _ _ _ _ eis.out).mono ?_);rintro e ax ⟨rfl,hb⟩;replace B3:=kB B3 hb;replace B5:=kB B5 hb;replace B6:=kB B6 hb;replace HB:=kH hb;clear hb q0 q1 q2 q3 q4 a0 a1 b0 b1;obtain⟨q0,q1,q2,q3,q4⟩:=ab3 B3.out;have a0:=abR B5.out hx.1 ra;have a1:=abT B5.out hx.1 ra;have b0:=abR B5.out hx.1 rb;have b1:=abT B5.out hx.1 rb)|((with_reducible refine aaC (t:=TQ) (p:=6) rfl ?_);refine agJ (p:=6) rfl rfl rfl rfl B6.out ?_;intro w32 hw hb6;replace HB:=aM (abf hw G6.out HB.out);clear B6 hw q0 q1 q2 q3 q4 a0 a1 b0 b1;have B6:=aM hb6;clear hb6))
  exact bodyPost_ret (apE rfl rfl B6.out) rfl ⟨by rw [HRES.out],HB.out⟩):G:=h
theorem amK {q:SQ} {m:Int} (hq:QV (q_ q) m) {i:Nat} (hi:i < 1000) {x:List SF} (hx:okR x) (hr:(fa x 0).f0≠0) (w:World) :
  Calls prog 43 #[.agg #[iV q.f0,iV q.f1,iV q.f2,iV q.f3,iV q.f4],iV (i:Int),.agg (ics (fl x))] w fun e w'=>e = .returned (.agg #[iV (abq q x i).f0,iV (abq q x i).f1,iV (abq q x i).f2,iV (abq q x i).f3,iV (abq q x i).f4])/\Below w.heap.size w w':=by
 have HB:=jb_ w;obtain⟨⟨d1,d2⟩,⟨a1,a2⟩,b1,b2⟩:=abF hq;have ⟨ra,rb⟩:=akZ hq;simp only [q_] at d1 d2 a1 a2 b1 b2 ra rb;have ay:=decide_eq_true a1;have az:=decide_eq_true a2;have aA:=decide_eq_true b1;have aB:=decide_eq_true b2
 have ef:abq q x i=if q.f0=2 then (if (fa x q.f2.toNat).f0=1 then ⟨1,q.f1,0,0,(fa x q.f2.toNat).f1⟩ else q) else if q.f0=3 then aby q (fa x q.f2.toNat) (fa x q.f3.toNat) else if q.f0=5 then (if isF (fa x q.f2.toNat) 0=true then ⟨4,0,0,0,q.f4⟩ else if (fa x q.f2.toNat).f0=1 then ⟨4,0,0,0,((i+1:Nat):Int)⟩ else q) else q:=by
  rw [abq,if_neg hr]
 have eis:=aM (Sa1.e (fa x q.f2.toNat) 0);by_cases c2:q.f0=2
 ·have av:(q.f0 == 2)=true:=by simp [c2]
  have au:(q.f0 == 3)=false:=by simp [c2]
  have ag:(q.f0 == 5)=false:=by simp [c2]
  by_cases c1:(fa x q.f2.toNat).f0=1
  ·have ah:((fa x q.f2.toNat).f0 == 1)=true:=by simp [c1]
   rw [if_pos c2,if_pos c1] at ef;have HRES:=aM ef;clear ef c1 c2 hq hr;go_enter func43,ntmps43;go_upto_region 2 with (first|((with_reducible refine jd 3 ?_);refine jX #[iV q.f0,iV q.f1,iV q.f2,iV q.f3,iV q.f4] TQ ?_;intro g3 hg aj hbox hb;have B3:=aM hbox;have G3:=kG hg;have n1:=kH hb;clear HB;have HB:=n1;clear n1 hg hbox hb)|((with_reducible refine jd 5 ?_);refine jX (ics (fl x)) T12 ?_;intro g5 hg ak hbox hb;have k3:=kB B3 hb;clear B3;have B3:=k3;clear k3;have B5:=aM hbox;have G5:=kG hg;have n1:=kH hb;clear HB;have HB:=n1;clear n1 hg hbox hb)|((with_reducible refine jd 6 ?_);refine jX (ics [0,0,0,0,0]) TQ ?_;intro g6 hg aa hbox hb;have k3:=kB B3 hb;have k5:=kB B5 hb;clear B3 B5;have B3:=k3;have B5:=k5;clear k3 k5;have B6:=aM hbox;have G6:=kG hg;have n1:=kH hb;clear HB;have HB:=n1;clear n1 hg hbox hb;obtain⟨q0,q1,q2,q3,q4⟩:=ab3 B3.out;have a0:=abR B5.out hx.1 ra;have a1:=abT B5.out hx.1 ra;have b0:=abR B5.out hx.1 rb;have b1:=abT B5.out hx.1 rb));refine abr (n:=9) (S:=fun w'=>Below aa.heap.size aa w') (ds:=[8]) (jb 9 0) (by kernel_rfl) rfl rfl (aad (Below.refl _ _)) (fun hHeld=>?_);generalize aa.drew=wd at hHeld ⊢;refine jq 0 19 (jb 9 1) ?_;refine take_ (i:=1) (N:=some 20) (v:=?_) (a':=?_) (jb 9 3) rfl rfl (by kernel_rfl) (fun _ _ _ h=>h) (Or.inl ⟨by rfl,?_⟩) hHeld ?_ ?_;rotate_left
   ·intro w' hs;have z0:=(hs.cell (World.block_lt_of_cell? aa _ q1)).trans q1;go_simp
    with_reducible rfl
   rotate_left
   ·exact qP
   refine jq 2 21 (jb 9 7) ?_;refine take_ (i:=3) (N:=some 22) (v:=?_) (a':=?_) (jb 9 15) rfl rfl (by kernel_rfl) (fun _ _ _ h=>h) (Or.inl ⟨by rfl,?_⟩) hHeld ?_ ?_;rotate_left
   ·intro w' hs;have z0:=(hs.cell (World.block_lt_of_cell? aa _ q2)).trans q2;go_simp
    with_reducible rfl
   rotate_left
   ·exact qP
   refine jq 4 23 (jb 9 31) ?_;refine jq 5 24 (jb 9 63) ?_;refine take_ (i:=6) (N:=some 25) (v:=?_) (a':=?_) (jb 9 127) rfl rfl (by kernel_rfl) (fun _ _ _ h=>h) (Or.inl ⟨by rfl,?_⟩) hHeld ?_ ?_;rotate_left
   ·intro w' hs;have z0:=(hs.cell (World.block_lt_of_cell? aa _ a1)).trans a1;go_simp
    with_reducible rfl
   rotate_left
   ·exact qP
   refine jq 7 26 (jb 9 255) ?_;refine afY (i:=8) (N:=none) (jb 9 511) rfl rfl (by kernel_rfl) (by decide) (fun K hK=>?_);have ae:=aaU B6.out hHeld;refine aep (w1:=wd.setCells g6 0 (encs (Value.int .i64) [1,q.f1,0,0,(fa x q.f2.toNat).f1])) (by rfl) rfl ?_ ?_
   ·exact agM (x:=.tmp 6) (y:=.tmp 26) (g:=g6) rfl rfl rfl ae
   refine hK.out _ _ ?_;clear hK K;refine abW (by kernel_rfl) ?_;have hw:wd.setCells g6 0 (encs (Value.int .i64) [1,q.f1,0,0,(fa x q.f2.toNat).f1])=wd.setCells g6 0 (encs (Value.int .i64) [1,q.f1,0,0,(fa x q.f2.toNat).f1]):=rfl;have n1:=aM (abf hw G6.out (aaD HB.out hHeld));have n6:=aM (ab7 [1,q.f1,0,0,(fa x q.f2.toNat).f1] 0 [0,0,0,0,0] _ ae (by simp));generalize wd.setCells g6 0 (encs (Value.int .i64) [1,q.f1,0,0,(fa x q.f2.toNat).f1])=ai at n1 n6 ⊢;replace n6:aa1 (ai.heap[g6]?=some (.cells (ics [1,q.f1,0,0,(fa x q.f2.toNat).f1]) TQ (0,0))):=n6;clear hw HB B6 B3 B5 q0 q1 q2 q3 q4 a0 a1 b0 b1 hHeld ae;go_wp2;exact bodyPost_ret (apE rfl rfl n6.out) rfl ⟨by rw [HRES.out],n1.out⟩
  have ah:((fa x q.f2.toNat).f0 == 1)=false:=by simp [c1]
  rw [if_pos c2,if_neg c1] at ef;have HRES:=aM ef;clear ef c1 c2 hq hr;exact amJ
 have av:(q.f0 == 2)=false:=by simp [c2]
 by_cases c3:q.f0=3
 ·have au:(q.f0 == 3)=true:=by simp [c3]
  have ag:(q.f0 == 5)=false:=by simp [c3]
  have hn:1<=q.f4/\q.f4<=12:=by unfold QV q_ at hq;simp only at hq;omega
  have go:=fun W=>amL hn.1 hn.2 (fa x q.f2.toNat) (fa x q.f3.toNat) W
  rw [if_neg c2,if_pos c3] at ef;have HRES:=aM ef;clear ef c2 c3 hq hr hn;go_enter func43,ntmps43;go_upto_region 4 with (first|((with_reducible refine jd 3 ?_);refine jX #[iV q.f0,iV q.f1,iV q.f2,iV q.f3,iV q.f4] TQ ?_;intro g3 hg aj hbox hb;have B3:=aM hbox;have G3:=kG hg;have n1:=kH hb;clear HB;have HB:=n1;clear n1 hg hbox hb)|((with_reducible refine jd 5 ?_);refine jX (ics (fl x)) T12 ?_;intro g5 hg ak hbox hb;have k3:=kB B3 hb;clear B3;have B3:=k3;clear k3;have B5:=aM hbox;have G5:=kG hg;have n1:=kH hb;clear HB;have HB:=n1;clear n1 hg hbox hb)|((with_reducible refine jd 6 ?_);refine jX (ics [0,0,0,0,0]) TQ ?_;intro g6 hg aa hbox hb;have k3:=kB B3 hb;have k5:=kB B5 hb;clear B3 B5;have B3:=k3;have B5:=k5;clear k3 k5;have B6:=aM hbox;have G6:=kG hg;have n1:=kH hb;clear HB;have HB:=n1;clear n1 hg hbox hb;obtain⟨q0,q1,q2,q3,q4⟩:=ab3 B3.out;have a0:=abR B5.out hx.1 ra;have a1:=abT B5.out hx.1 ra;have b0:=abR B5.out hx.1 rb;have b1:=abT B5.out hx.1 rb));refine abr (n:=11) (S:=fun w'=>Below aa.heap.size aa w') (ds:=[10]) (jb 11 0) (by kernel_rfl) rfl rfl (aad (Below.refl _ _)) (fun hHeld=>?_);generalize aa.drew=wd at hHeld ⊢;refine take_ (i:=0) (N:=some 31) (v:=?_) (a':=?_) (jb 11 1) rfl rfl (by kernel_rfl) (fun _ _ _ h=>h) (Or.inl ⟨by rfl,?_⟩) hHeld ?_ ?_;rotate_left
  ·intro w' hs;have z0:=(hs.cell (World.block_lt_of_cell? aa _ q0)).trans q0;have z1:=(hs.cell (World.block_lt_of_cell? aa _ q1)).trans q1;have z2:=(hs.cell (World.block_lt_of_cell? aa _ q2)).trans q2;have z3:=(hs.cell (World.block_lt_of_cell? aa _ q3)).trans q3;have z4:=(hs.cell (World.block_lt_of_cell? aa _ q4)).trans q4;go_simp
   with_reducible rfl
  rotate_left
  ·exact qP
  refine jq 1 32 (jb 11 3) ?_;refine take_ (i:=2) (N:=some 33) (v:=?_) (a':=?_) (jb 11 7) rfl rfl (by kernel_rfl) (fun _ _ _ h=>h) (Or.inl ⟨by rfl,?_⟩) hHeld ?_ ?_;rotate_left
  ·intro w' hs;have z0:=(hs.cell (World.block_lt_of_cell? aa _ q2)).trans q2;go_simp
   with_reducible rfl
  rotate_left
  ·exact qP
  refine jq 3 34 (jb 11 15) ?_;refine take_ (i:=4) (N:=some 35) (v:=?_) (a':=?_) (jb 11 31) rfl rfl (by kernel_rfl) (fun _ _ _ h=>h) (Or.inl ⟨by rfl,?_⟩) hHeld ?_ ?_;rotate_left
  ·intro w' hs;have z0:=(hs.cell (World.block_lt_of_cell? aa _ a0)).trans a0;have z1:=(hs.cell (World.block_lt_of_cell? aa _ a1)).trans a1;go_simp
   with_reducible rfl
  rotate_left
  ·exact qP
  refine jq 5 36 (jb 11 63) ?_;refine take_ (i:=6) (N:=some 37) (v:=?_) (a':=?_) (jb 11 127) rfl rfl (by kernel_rfl) (fun _ _ _ h=>h) (Or.inl ⟨by rfl,?_⟩) hHeld ?_ ?_;rotate_left
  ·intro w' hs;have z0:=(hs.cell (World.block_lt_of_cell? aa _ q3)).trans q3;go_simp
   with_reducible rfl
  rotate_left
  ·exact qP
  refine jq 7 38 (jb 11 255) ?_;refine take_ (i:=8) (N:=some 39) (v:=?_) (a':=?_) (jb 11 511) rfl rfl (by kernel_rfl) (fun _ _ _ h=>h) (Or.inl ⟨by rfl,?_⟩) hHeld ?_ ?_;rotate_left
  ·intro w' hs;have z0:=(hs.cell (World.block_lt_of_cell? aa _ b0)).trans b0;have z1:=(hs.cell (World.block_lt_of_cell? aa _ b1)).trans b1;go_simp
   with_reducible rfl
  rotate_left
  ·exact qP
  refine acO (i:=9) (N:=some 40) (jb 11 1023) rfl rfl (by kernel_rfl) (by decide) (fun K hK=>?_);refine abp func75 (by kernel_rfl) rfl #[.agg #[iV q.f0,iV q.f1,iV q.f2,iV q.f3,iV q.f4],.agg #[iV (fa x q.f2.toNat).f0,iV (fa x q.f2.toNat).f1],.agg #[iV (fa x q.f3.toNat).f0,iV (fa x q.f3.toNat).f1]] (by rfl) rfl rfl qM ?_
  (with_reducible refine (go _).mono ?_);rintro e af ⟨rfl,hb⟩;refine⟨_,rfl,?_⟩;refine hK.out _ _ (aaD hHeld hb) (fun hHeld=>?_);clear hK K hb;refine aan (a':=?_) ?_ ?_;rotate_left
  ·show Act.put _ (some 40) _=_
   simp only [Act.put,List.setIfInBounds_toArray,List.set_cons_zero,List.set_cons_succ,aat,aay];rfl
  refine afY (i:=10) (N:=none) (jb 11 2047) rfl rfl (by kernel_rfl) (by decide) (fun K hK=>?_);have ae:=aaU B6.out hHeld;refine aep (w1:=af.setCells g6 0 (encs (Value.int .i64) [(aby q (fa x q.f2.toNat) (fa x q.f3.toNat)).f0,(aby q (fa x q.f2.toNat) (fa x q.f3.toNat)).f1,(aby q (fa x q.f2.toNat) (fa x q.f3.toNat)).f2,(aby q (fa x q.f2.toNat) (fa x q.f3.toNat)).f3,(aby q (fa x q.f2.toNat) (fa x q.f3.toNat)).f4])) (by rfl) rfl ?_ ?_
  ·exact agM (x:=.tmp 6) (y:=.tmp 40) (g:=g6) rfl rfl rfl ae
  refine hK.out _ _ ?_;clear hK K;refine abW (by kernel_rfl) ?_;have hw:af.setCells g6 0 (encs (Value.int .i64) [(aby q (fa x q.f2.toNat) (fa x q.f3.toNat)).f0,(aby q (fa x q.f2.toNat) (fa x q.f3.toNat)).f1,(aby q (fa x q.f2.toNat) (fa x q.f3.toNat)).f2,(aby q (fa x q.f2.toNat) (fa x q.f3.toNat)).f3,(aby q (fa x q.f2.toNat) (fa x q.f3.toNat)).f4])=af.setCells g6 0 (encs (Value.int .i64) [(aby q (fa x q.f2.toNat) (fa x q.f3.toNat)).f0,(aby q (fa x q.f2.toNat) (fa x q.f3.toNat)).f1,(aby q (fa x q.f2.toNat) (fa x q.f3.toNat)).f2,(aby q (fa x q.f2.toNat) (fa x q.f3.toNat)).f3,(aby q (fa x q.f2.toNat) (fa x q.f3.toNat)).f4]):=rfl;have n1:=aM (abf hw G6.out (aaD HB.out hHeld));have n6:=aM (ab7 [(aby q (fa x q.f2.toNat) (fa x q.f3.toNat)).f0,(aby q (fa x q.f2.toNat) (fa x q.f3.toNat)).f1,(aby q (fa x q.f2.toNat) (fa x q.f3.toNat)).f2,(aby q (fa x q.f2.toNat) (fa x q.f3.toNat)).f3,(aby q (fa x q.f2.toNat) (fa x q.f3.toNat)).f4] 0 [0,0,0,0,0] _ ae (by simp));generalize af.setCells g6 0 (encs (Value.int .i64) [(aby q (fa x q.f2.toNat) (fa x q.f3.toNat)).f0,(aby q (fa x q.f2.toNat) (fa x q.f3.toNat)).f1,(aby q (fa x q.f2.toNat) (fa x q.f3.toNat)).f2,(aby q (fa x q.f2.toNat) (fa x q.f3.toNat)).f3,(aby q (fa x q.f2.toNat) (fa x q.f3.toNat)).f4])=ai at n1 n6 ⊢;replace n6:aa1 (ai.heap[g6]?=some (.cells (ics [(aby q (fa x q.f2.toNat) (fa x q.f3.toNat)).f0,(aby q (fa x q.f2.toNat) (fa x q.f3.toNat)).f1,(aby q (fa x q.f2.toNat) (fa x q.f3.toNat)).f2,(aby q (fa x q.f2.toNat) (fa x q.f3.toNat)).f3,(aby q (fa x q.f2.toNat) (fa x q.f3.toNat)).f4]) TQ (0,0))):=n6;clear hw HB B6 B3 B5 q0 q1 q2 q3 q4 a0 a1 b0 b1 hHeld ae;go_wp2;exact bodyPost_ret (apE rfl rfl n6.out) rfl ⟨by rw [HRES.out],n1.out⟩
 have au:(q.f0 == 3)=false:=by simp [c3]
 rw [if_neg c2,if_neg c3] at ef;by_cases c5:q.f0=5
 ·have ag:(q.f0 == 5)=true:=by simp [c5]
  rw [if_pos c5] at ef
  cases cz:isF (fa x q.f2.toNat) 0 with
  | true =>
   rw [cz,if_pos rfl] at ef;rw [cz] at eis;have HRES:=aM ef;clear ef c2 c3 c5 hq hr cz;exact amJ
  | false =>
   rw [cz,if_neg (by decide)] at ef;rw [cz] at eis;by_cases c1:(fa x q.f2.toNat).f0=1
   ·have ah:((fa x q.f2.toNat).f0 == 1)=true:=by simp [c1]
    rw [if_pos c1,<- aav (show i < 9223372036854775807 by omega)] at ef;have HRES:=aM ef;clear ef c2 c3 c5 hq hr cz c1 hi;exact amJ
   have ah:((fa x q.f2.toNat).f0 == 1)=false:=by simp [c1]
   rw [if_neg c1] at ef;have HRES:=aM ef;clear ef c2 c3 c5 hq hr cz c1;exact amJ
 have ag:(q.f0 == 5)=false:=by simp [c5]
 rw [if_neg c5] at ef;have HRES:=aM ef;clear ef c2 c3 c5 hq hr;exact amJ
end Go.Proofs.YtdkkdiiceaomaaaGreat.M
namespace Go.Proofs.YtdkkdiiceaomaaaGreat.M
open Go.Proofs.Tryz Go.RowKit Go.Proofs.YtdkkdiiceaomaaaGreatW.PrintWords Go.Proofs.YtdkkdiiceaomaaaGreatW.PrintLast Go.Proofs.YtdkkdiiceaomaaaGreatW.PrintMore
def apC (l0:List S31):Option (List S31):=if l0.length < 3518437208883 then some l0 else none
set_option maxHeartbeats 1000000 in
theorem an3 (A0:Option Addr) (c0:Nat) (l0 r:List S31) (w:World) (hr0:Kd.C k31 w A0 l0.length l0) (hc0:l0.length<=c0) (h:apC l0=some r) :
  Calls prog 41 #[.slice A0 l0.length c0] w fun e w'=>∃ aa:Value,e = .returned aa/\Kd.R k31 31 w' w.heap.size (fun _=>True) aa r/\Below w.heap.size w w':=by
 unfold apC at h;split at h
 next hl =>
  injection h with h
  subst h;have HL:=aM hl;clear hl
  cases A0 with
  | none =>
   have e0:l0=[]:=by
    cases l0 with
    | nil=>rfl
    | cons x xs=>obtain⟨ad,_,e,_⟩:=Kd.C_get hr0 z31 0 (by omega) (by simp);cases e
   subst e0;have he:=fun (W:World) (n:Nat)=>Lib.run_eql_slice_nil (P:=prog) W 23 31 none n c0 0 0 underlying23
   go_enter func41,ntmps41;go_wp2;go_ret;exact⟨_,rfl,Kd.R_nil _ _ _ _ _,Below.refl _ _⟩
  | some ad =>
   have ae:=aM hr0;clear hr0;have HB:=jb_ w;have he:=fun (W:World) (n:Nat)=>Lib.run_eql_slice_nil (P:=prog) W 23 31 (some ad) n c0 0 0 underlying23
   go_enter func41,ntmps41;go_wp2_with (first|((with_reducible refine jd 5 ?_);refine Kd.R_lit k31 _ 31 ?hg (N:=5) ?hd (xs:=([]:List S31)) (inner:=[]) (ok:=fun _=>True) (okp:=fun _=>True) ?hr ?hp (fun _ hk=>hk) trivial (Below.refl _ _) (Nat.le_refl _) (by simp) ?_;(case hd=>rfl);(case hg=>rfl);(case hr=>first|(go_simp;done)|(go_simp;rfl));(case hp=>exact (aa8 _ _));intro v1 w1 ho hb hg_ hnew_;clear hg_ hnew_;have HO:=aM ho;replace HB:=kH hb;clear hb ho)|((with_reducible refine aa9 (b:=.append) (xs:=#[.tmp 5,.tmp 6]) rfl ?_);at_builtin;refine Kd.R_append_rows k31 (w0:=w) w.heap.size rfl (.tmp 5) (.tmp 6) 23 31 (.agg #[(iV 0),(iV 0),(iV 0),(iV 0),(iV 0)]) 40 rfl underlying23 abd rfl (by decide) (by omega) v1 [] l0 _ _ _ (fun _=>True) (fun _=>False) rfl rfl ?aO ?aR (fun _ _ h=>h) (fun _ h=>h.elim) ?aF ?aB ?aS ?aL ?_;(case aR=>exact Kd.C_below ae.out HB.out);(case aB=>exact HB.out);(case aF=>exact (fun _ _=>trivial));(case aO=>exact HO.out);(case aS=>exact aa4 HB.out);(case aL=>have:=HL.out;simp only [List.length_nil];omega);intro v2 w2 ho hb hg hat;have HB2:=aM hb;have af:=aM ho;clear ho hb hg hat));go_ret;exact⟨_,rfl,af.out,HB2.out⟩
 next=>cases h
end Go.Proofs.YtdkkdiiceaomaaaGreat.M
namespace Go.Proofs.YtdkkdiiceaomaaaGreat.M
open Go.Proofs.Tryz Go.RowKit Go.Proofs.YtdkkdiiceaomaaaGreatW.PrintWords Go.Proofs.YtdkkdiiceaomaaaGreatW.PrintLast Go.Proofs.YtdkkdiiceaomaaaGreatW.PrintMore PM
theorem ajV {α:Type} {F:Nat->Option α} {v r:α} (hm:∀ k,LeO (F k) (F (k+1))) (h:Ev F v) {k:Nat} (hk:F k=some r):r=v:=by
 obtain⟨K,hK⟩:=h
 have up:∀ d,F (k+d)=some r:=by
  intro d
  induction d with
  | zero=>exact hk
  | succ d ih=>exact hm _ _ ih
 have:=up K
 rw [hK (k+K) (by omega)] at this;exact (Option.some.inj this).symm
def akB (k:Nat) (l0:List SQ):Option (List SQ × Bool):=Sav.f k l0
theorem Sa3.mono:∀ a0 k,LeO (akB k a0) (akB (k+1) a0):=Sav.mono
/-- A quad put into a row of quads. -/
theorem arN {W:World} {base g n cap:Nat} {ok:Nat->Prop} {xs:List SQ} (h:Kd.R k31 TQ W base ok (.slice (some ⟨g,0,none⟩) n cap) xs) {i:Int} (h0:0<=i) (h1:i < n) (y:SQ) :
  Kd.R k31 TQ (W.setCells g (i.toNat*5) (encs (Value.int .i64) [y.f0,y.f1,y.f2,y.f3,y.f4])) base ok (.slice (some ⟨g,0,none⟩) n cap) (xs.set i.toNat y)/\W.grownBy (W.setCells g (i.toNat*5) (encs (Value.int .i64) [y.f0,y.f1,y.f2,y.f3,y.f4])) (some g)/\W.there g (i.toNat*5) 5:=by
 obtain⟨ce,hcl,hM,hcc,hfr⟩:=Kd.R_elem h z31 i h0 h1;obtain rfl:=adz hM;have HP:=Kd.R_seg h i h0 h1 (seg:=encs (Value.int .i64) [y.f0,y.f1,y.f2,y.f3,y.f4]) (j:=0) hcl hcc (by show 0+5<=5;omega) (x':=y) (aaX _ _ _ y) (fun _ hk=>hk);refine⟨HP.1,HP.2,fun j hj=>?_⟩;have hj':j=0\/j=1\/j=2\/j=3\/j=4:=by omega
 refine⟨?_,hfr j⟩;have e:∀ u,_:=fun u=>hcc j u
 rcases hj' with rfl|rfl|rfl|rfl|rfl
 all_goals
  rw [show W.cell? ⟨g,i.toNat*5+_,none⟩=_ from hcc _ _ rfl];rfl
theorem ang {op:Oper} {x y:Operand} {ev:Operand->Value} {w:World} (ho:op.op = .store TQ x y) {g i:Nat} (hx:ev x = .pointer (some ⟨g,i,none⟩)) {v0 v1 v2 v3 v4:Int} (hy:ev y = .agg #[iV v0,iV v1,iV v2,iV v3,iV v4]) (ht:w.there g i 5):(execOp ev op).run prog w = .ok .skip (w.setCells g i (encs (Value.int .i64) [v0,v1,v2,v3,v4])):=by
 have h1:=run_storeVar_mid (P:=prog) w g i TQ (ics [v0,v1,v2,v3,v4]) (by rw [abO];exact ht) (anf rfl) (aee _);have hy':ev y = .agg (ics [v0,v1,v2,v3,v4]):=hy;unfold execOp;simp only [ho,hx,hy',Instr.storeAt,Instr.sureAddr,Sem.run_bind,Sem.run_pure,Result.andThen_ok,h1]
theorem ard {c:List SQ} {b:Bool} (hb:cvB c=b) (A0:Option Addr) (c0:Nat) (w:World) (hr0:Kd.C k31 w A0 c.length c) (hc0:c.length<=c0):Calls prog 20 #[.slice A0 c.length c0] w fun e w'=>e = .returned (.bool b)/\Below w.heap.size w w':=by
 obtain⟨k,hk⟩:=(arb c).get;rw [hb] at hk;exact Sa0.calls k A0 c0 c b w hr0 hc0 hk
theorem aiR {c:List SQ} (h:¬ CV (qs c)) (A0:Option Addr) (c0:Nat) (w:World) (hr0:Kd.C k31 w A0 c.length c) (hc0:c.length<=c0) :
  Calls prog 14 #[.slice A0 c.length c0] w fun e w'=>∃ ae:Value,e = .returned (.tuple #[ae,.bool false])/\Kd.R k31 TQ w' w.heap.size (fun _=>True) ae ([]:List SQ)/\Below w.heap.size w w':=by
 have af:=aM hr0;have ag:=aM hc0;clear hr0 hc0;have hv:cvB c=false:=decide_eq_false h;have HV:=aM hv;clear h hv;have HB:=jb_ w;go_enter func14,ntmps14;go_wp2_with (first|(go_at_call 20;(with_reducible refine (ard HV.out A0 c0 _ ?s1 ag.out).mono ?_);(case s1=>exact Kd.C_below af.out HB.out);rintro e w5 ⟨rfl,hb⟩;replace HB:=kH hb;clear hb));go_ret2;exact⟨_,rfl,Kd.R_nil _ _ _ _ _,HB.out⟩
theorem ahX {c:List SQ} (h:CV (qs c)) (A0:Option Addr) (c0:Nat) (w:World) (hr0:Kd.C k31 w A0 c.length c) (hc0:c.length<=c0) :
  Calls prog 14 #[.slice A0 c.length c0] w fun e w'=>∃ (ae:Value) (U:List (List SF)),(FS c).Lfp U/\e = .returned (.tuple #[ae,.bool true])/\Kd.R k31 TQ w' w.heap.size (fun _=>True) ae (adb U c)/\Below w.heap.size w w':=by
 have af:=aM hr0;have ag:=aM hc0;clear hr0 hc0;have h6:=abh h;have hcl:apC c=some c:=if_pos (by omega);have HCL:=aM hcl;have HV:=aM (show cvB c=true from decide_eq_true h);clear hcl;have HB:=jb_ w;go_enter func14,ntmps14;go_wp2_with (first|(go_at_call 20;(with_reducible refine (ard HV.out A0 c0 _ ?s1 ag.out).mono ?_);(case s1=>exact Kd.C_below af.out HB.out);rintro e w5 ⟨rfl,hb⟩;replace HB:=kH hb;clear hb)|(go_at_call 41;(with_reducible refine (an3 A0 c0 c c _ ?s2 ag.out HCL.out).mono ?_);(case s2=>exact Kd.C_below af.out HB.out);rintro e w6 ⟨v4,rfl,ho,hb⟩;have HO:=aM (Kd.R_lower ho HB.out.size);replace HB:=kH hb;clear hb ho)|(go_at_call 42;(with_reducible refine (amO h A0 c0 _ ?s3 ag.out).mono ?_);(case s3=>exact Kd.C_below af.out HB.out);rintro e w7 ⟨g,U,hU,rfl,hg,hbk,hb⟩;have HU:=aM hU;have GG:=aM (Nat.le_trans HB.out.size hg);have BG:=aM hbk;replace HO:=kR HO hb;replace HB:=kH hb;clear hb hU hg hbk));obtain⟨ah,ay,rfl,aj,az,aB,ak⟩:=Kd.R_form HO.out (by omega);have aA:=aM aj
 have N4:aa1 (g≠ah):=⟨fun z=>by
  subst z;have x:=ak.symm.trans BG.out;simp only [Option.some.injEq,Obj.cells.injEq] at x
  exact absurd x.2.1 (by decide)⟩
 clear aj az ak;have hst:=HU.out.1.1;have au:=abk U c;have FL:=aM au;clear au;go_loopg [15] c.length (fun kq v15 w'=>∃ (pi:Int) (p:Nat),v15 = iV pi/\aa1 (pi=(p:Int)/\p+kq=c.length)/\aa1 (w'.heap[g]?=some (.cells (ics (flat U)) T12 (0,0)))/\aa1 (Kd.R k31 TQ w' w.heap.size (fun _=>True) (.slice (some ⟨ah,0,none⟩) c.length ay) ((adb U c).take p ++ c.drop p))/\aa1 (Below w.heap.size w w'));case atStart=>exact⟨0,0,rfl,⟨rfl,Nat.zero_add _⟩,BG,⟨by rw [List.take_zero,List.nil_append,List.drop_zero];exact HO.out⟩,HB⟩
 clear BG HO HB;obtain⟨pi,p,rfl,HP,BG,HO,HB⟩:=hrel;rcases gk with _|k1
 ·have ep:p=c.length:=by have:=HP.out.2;omega
  subst ep;have hpi:pi=(c.length:Int):=HP.out.1;subst hpi;go_wp2;go_ret2;exact⟨_,U,HU.out,rfl,by have:=HO.out;rwa [List.take_of_length_le (by rw [FL.out];exact Nat.le_refl _),List.drop_eq_nil_of_le (Nat.le_refl _),List.append_nil] at this,HB.out⟩
 have hp:p < c.length:=by have:=HP.out.2;omega
 have hpi:pi=(p:Int):=HP.out.1;have hUl:U.length=c.length:=hst.1;obtain⟨x,hx⟩:∃ x,x=(FS c).at' U p:=⟨_,rfl⟩
 have okx:okR x:=by rw [hx];exact hst.2 p hp
 have x24:(fl x).length=24:=by rw [ac7,okx.1]
 have hrg:wr.rangeAt g (pi.toNat*24) (encs (Value.int .i64) (fl x)):=by
  have:=aes BG.out (agK hst) (i:=p) (by omega)
  rw [<- aiS (c:=c) (by omega),<- hx] at this;rw [hpi,Int.toNat_natCast];exact this
 have p0:0<=pi:=by omega
 have p1:pi < (c.length:Int):=by omega
 obtain⟨aq,e2,x0,x1,x2,x3,x4⟩:=aaR af.out pi p0 p1;cases e2;have rq:aa0 c pi=qa c p:=by rw [hpi];exact ac9 c p
 rw [rq] at x0 x1 x2 x3 x4;have hq:=abU h hp;have hget:(adb U c).getD p z31=abq (qa c p) x p:=by rw [hx];exact adA U hp
 have hnext:=ahD z31 (abk U c) (p:=p) (by rw [abk];exact hp);rw [hget] at hnext;have HN:=aM hnext;have HG:=aM hget;have HPI:=aM hpi;have aC:=eq_true p0;have aD:=eq_true p1;have aF:=decide_eq_true p0;have aG:=decide_eq_true p1;have av:=aM (And.intro p0 p1);clear hnext hget hpi hx rq p0 p1;go_upto_if 23 with (first|((with_reducible refine afW (N:=19) rfl rfl rfl rfl x24 hrg ?_))|((with_reducible refine jd 6 ?_);refine jX (ics z24) T12 ?_;intro g6 hg aH hbox hb;have N6:=aM (show g≠g6 by rw [hg];exact Nat.ne_of_lt (aaY BG.out));have G6:=kG hg;have n2:=kB BG hb;have n4:=kR HO hb;have n1:=kH hb;clear HB BG HO hrg;have HB:=n1;have BG:=n2;have HO:=n4;have B6:=aM hbox;clear n1 n2 n4 hg hbox hb)|((with_reducible refine aea (p:=6) (v:=19) rfl rfl rfl rfl x24 B6.out (by decide) ?_);intro aa hw hb6;rw [ad8 (by rw [x24];rfl)] at hb6;have n2:=aM (ads hw N6.out BG.out);have n4:=aM (Kd.R_mono (acY hw (fun _ hk=>hk.2) (Kd.R_types HO.out B6.out (by decide))) (fun _ hk=>hk.1));have n1:=aM (abf hw G6.out HB.out);clear HB BG HO B6 hw;have HB:=n1;have BG:=n2;have HO:=n4;have B6:=aM hb6;clear n1 n2 n4 hb6;have k0:aa.cell? ⟨g6,0,none⟩=some (iV (fa x 0).f0):=abR B6.out okx.1 (i:=0) (by decide)));by_cases ck:(fa x 0).f0=0
 ·have ckb:((fa x 0).f0 != 0)=false:=by simp [ck]
  have hfq:abq (qa c p) x p=qa c p:=by rw [abq,if_pos ck]
  have hs:(adb U c).take p ++ c.drop p=(adb U c).take (p+1) ++ c.drop (p+1):=anp z31 (abk U c) (by rw [abk];exact hp) (by rw [HG.out,hfq];rfl);have HS:=aM hs;clear hs hfq ck k0;go_wp2;go_roundg k1;case measure=>omega
  exact⟨_,p+1,rfl,⟨by have:=HPI.out;(first|omega|(rw [aaK (by omega) (by omega)];omega)),by have:=HP.out.2;omega⟩,BG,⟨by rw [<- HS.out];exact HO.out⟩,HB⟩
 have ckb:((fa x 0).f0 != 0)=true:=by simp [ck]
 have go:=fun W=>amK hq (show p < 1000 by omega) okx ck W
 rw [<- HPI.out] at go;have y0:=kx HB x0;have y1:=kx HB x1;have y2:=kx HB x2;have y3:=kx HB x3;have y4:=kx HB x4;clear ck x0 x1 x2 x3 x4;go_wp2_with fail;refine abr (n:=11) (S:=fun w'=>Below aa.heap.size aa w') (ds:=[10]) (jb 11 0) (by kernel_rfl) rfl rfl (aad (Below.refl _ _)) (fun hHeld=>?_);generalize aa.drew=wd at hHeld ⊢;refine jq 0 24 (jb 11 1) ?_;refine jq 1 25 (jb 11 3) ?_;refine jq 2 26 (jb 11 7) ?_;refine jq 3 27 (jb 11 15) ?_;refine jq 4 28 (jb 11 31) ?_;refine take_ (i:=5) (N:=some 29) (v:=?_) (a':=?_) (jb 11 63) rfl rfl (by kernel_rfl) (fun _ _ _ h=>h) (Or.inl ⟨by rfl,?_⟩) hHeld ?_ ?_;rotate_left
 ·intro w' hs;have z0:=(hs.cell (World.block_lt_of_cell? aa _ y0)).trans y0;have z1:=(hs.cell (World.block_lt_of_cell? aa _ y1)).trans y1;have z2:=(hs.cell (World.block_lt_of_cell? aa _ y2)).trans y2;have z3:=(hs.cell (World.block_lt_of_cell? aa _ y3)).trans y3;have z4:=(hs.cell (World.block_lt_of_cell? aa _ y4)).trans y4;go_simp
  with_reducible rfl
 rotate_left
 ·exact qP
 refine jq 6 30 (jb 11 127) ?_;refine take_ (i:=7) (N:=some 31) (a':=?_) (jb 11 255) rfl rfl (by kernel_rfl) (fun _ _ _ h=>h) (yieldsIf_load_mid (by rfl) T12 (.tmp 6) rfl g6 0 rfl _ _ (fun w' hs=>aec (aco B6.out) hs) underlying56 rfl (af4 x24)) hHeld ?_ ?_;rotate_left
 ·exact qP
 refine acO (i:=8) (N:=some 32) (jb 11 511) rfl rfl (by kernel_rfl) (by decide) (fun K hK=>?_);refine abp func43 (by kernel_rfl) rfl #[.agg #[iV (qa c p).f0,iV (qa c p).f1,iV (qa c p).f2,iV (qa c p).f3,iV (qa c p).f4],iV pi,.agg (ics (fl x))] (by rfl) rfl rfl qM ?_
 (with_reducible refine (go _).mono ?_);rintro e ai ⟨rfl,hb⟩;refine⟨_,rfl,?_⟩;refine hK.out _ _ (aaD hHeld hb) (fun hHeld=>?_);clear hK K hb;refine aan (a':=?_) ?_ ?_;rotate_left
 ·show Act.put _ (some 32) _=_
  simp only [Act.put,List.setIfInBounds_toArray,List.set_cons_zero,List.set_cons_succ,aat,aay];rfl
 refine jq 9 33 (jb 11 1023) ?_;refine afY (i:=10) (N:=none) (jb 11 2047) rfl rfl (by kernel_rfl) (by decide) (fun K hK=>?_);have ax:=Kd.R_below HO.out hHeld;obtain⟨P1,P2,P3⟩:=arN ax av.out.1 av.out.2 (abq (qa c p) x p);refine aep (w1:=ai.setCells ah (pi.toNat*5) (encs (Value.int .i64) [(abq (qa c p) x p).f0,(abq (qa c p) x p).f1,(abq (qa c p) x p).f2,(abq (qa c p) x p).f3,(abq (qa c p) x p).f4])) (by rfl) rfl ?_ ?_
 ·exact ang (x:=.tmp 33) (y:=.tmp 32) (g:=ah) rfl rfl rfl P3
 refine hK.out _ _ ?_;clear hK K;refine abW (by kernel_rfl) ?_;have m1:=aM (ac3 aA.out (encs (Value.int .i64) [(abq (qa c p) x p).f0,(abq (qa c p) x p).f1,(abq (qa c p) x p).f2,(abq (qa c p) x p).f3,(abq (qa c p) x p).f4]) (pi.toNat*5) ai (aaD HB.out hHeld));have m2:=aM (abE N4.out (encs (Value.int .i64) [(abq (qa c p) x p).f0,(abq (qa c p) x p).f1,(abq (qa c p) x p).f2,(abq (qa c p) x p).f3,(abq (qa c p) x p).f4]) (pi.toNat*5) ai (aaU BG.out hHeld));have m3:=aM P1;generalize ai.setCells ah (pi.toNat*5) (encs (Value.int .i64) [(abq (qa c p) x p).f0,(abq (qa c p) x p).f1,(abq (qa c p) x p).f2,(abq (qa c p) x p).f3,(abq (qa c p) x p).f4])=aI at m1 m2 m3 ⊢;clear HB BG HO ax P1 P2 P3 hHeld B6 y0 y1 y2 y3 y4 k0 go;go_wp2;go_roundg k1;case measure=>omega
 exact⟨_,p+1,rfl,⟨by have:=HPI.out;(first|omega|(rw [aaK (by omega) (by omega)];omega)),by have:=HP.out.2;omega⟩,m2,⟨by have:=m3.out;rw [show pi.toNat=p by rw [HPI.out,Int.toNat_natCast],HN.out] at this;exact this⟩,m1⟩
theorem agn (k:Nat) (A0:Option Addr) (c0:Nat) (l0 r1:List SQ) (r2:Bool) (w:World) (hr0:Kd.C k31 w A0 l0.length l0) (hc0:l0.length<=c0) (h:akB k l0=some (r1,r2)) :
  Calls prog 14 #[.slice A0 l0.length c0] w fun e w'=>∃ ae:Value,e = .returned (.tuple #[ae,.bool r2])/\Kd.R k31 TQ w' w.heap.size (fun _=>True) ae r1/\Below w.heap.size w w':=by
 by_cases hv:CV (qs l0)
 ·obtain⟨U,hU,hE⟩:=amz hv;have e:=ajV (fun k=>Sa3.mono l0 k) hE h;obtain⟨rfl,rfl⟩:=Prod.mk.inj e;refine (ahX hv A0 c0 w hr0 hc0).mono ?_;rintro e w' ⟨v,V,hV,rfl,hR,hb⟩;rw [Sys.lfp_unique (abV hv) hV hU] at hR;exact⟨v,rfl,hR,hb⟩
 have e:=ajV (fun k=>Sa3.mono l0 k) (ajp hv) h;obtain⟨rfl,rfl⟩:=Prod.mk.inj e;exact aiR hv A0 c0 w hr0 hc0
end Go.Proofs.YtdkkdiiceaomaaaGreat.M
namespace Go.Proofs.YtdkkdiiceaomaaaGreat.M
open Go.Proofs.Tryz Go.RowKit Go.Proofs.YtdkkdiiceaomaaaGreatW.PrintWords Go.Proofs.YtdkkdiiceaomaaaGreatW.PrintLast Go.Proofs.YtdkkdiiceaomaaaGreatW.PrintMore PM Kd
theorem apA {c:List SQ} (h:¬ CV (qs c)):Ev (fun k=>SaD.f k c) ([],false):=by
 simp only [SaD.f];exact aaM (Ev.bind (acW c) (aa5 Ev.pure (by unfold cvB;simp [h])))
theorem aoQ {c:List SQ} {b:Bool} (hb:cvB c=b) (A0:Option Addr) (c0:Nat) (w:World) (hr0:Kd.C k31 w A0 c.length c) (hc0:c.length<=c0):Calls prog 44 #[.slice A0 c.length c0] w fun e w'=>e = .returned (.bool b)/\Below w.heap.size w w':=by
 obtain⟨k,hk⟩:=(acW c).get;rw [hb] at hk;exact San.calls k A0 c0 c b w hr0 hc0 hk
theorem an7 {c:List SQ} (h:CV (qs c)):∃ U,(RS c).Lfp U/\∀ (A0:Option Addr) (c0:Nat) (w:World),Kd.C k31 w A0 c.length c->c.length<=c0->Calls prog 149 #[.slice A0 c.length c0] w fun e w'=>∃ v,e = .returned v/\Kd.R Kd.bool 4 w' w.heap.size (fun _=>True) v U/\Below w.heap.size w w':=by
 obtain⟨U,hU,hE⟩:=aoJ h;obtain⟨k,hk⟩:=hE.get;exact⟨U,hU,fun A0 c0 w hr hc=>Sam.calls k A0 c0 c U w hr hc hk⟩
theorem aki (q:SQ) {i:Nat} (hi:i < 9223372036854775807) {b:Bool} (hb:idle q i=b) (w:World):Calls prog 150 #[.agg #[iV q.f0,iV q.f1,iV q.f2,iV q.f3,iV q.f4],iV (i:Int)] w fun e w'=>e = .returned (.bool b)/\Below w.heap.size w w':=by
 obtain⟨k,hk⟩:=(aoo q hi).get;rw [hb] at hk;exact alV k _ _ _ _ _ _ b w hk
theorem ag0 {c:List SQ} {U:List Bool} (h9:c.length < 9223372036854775807) {n:Int} (h0:0<=n) (hn:n<=c.length) (A0:Option Addr) (c0:Nat) (w:World) (hr0:Kd.C Kd.bool w A0 (kps c U).length (kps c U)) (hc0:(kps c U).length<=c0):Calls prog 151 #[.slice A0 (kps c U).length c0,iV n] w fun e w'=>e = .returned (iV (plc c U n.toNat:Int))/\Below w.heap.size w w':=by
 obtain⟨k,hk⟩:=(alU (U:=U) h9 h0 hn).get;refine (Sbn.calls k A0 c0 _ _ _ w hr0 hc0 hk).mono ?_;rintro e w' ⟨rfl,nd,rfl⟩;exact⟨rfl,aal (Below.refl _ _) _⟩
theorem akR {ops:Array Oper} {rest:List Oper} {op:Oper} {a:Act} {Q:Exit->Act->World->Prop} {w:World} {p:Tmp} {v:Operand} (ho:op.op = .store 4 (.tmp p) v) (hgd:op.guard=none) (hN:op.dst=none) {g o:Nat} (hx:a.eval (.tmp p) = .pointer (some ⟨g,o,none⟩)) {y:Bool} (hy:a.eval v = .bool y) {u:Value} (hc:w.cell? ⟨g,o,none⟩=some u) (hf:w.frozen? ⟨g,o,none⟩=false)
  (h:∀ w',w'=w.setCell ⟨g,o,none⟩ (.bool y)->wpList prog ops Q rest a w'):wpList prog ops Q (op :: rest) a w:=by
 refine aax (P:=prog) hgd ho hN (w1:=w.setCell ⟨g,o,none⟩ (.bool y)) ?_ (fun w' hw=>h w' hw);unfold execOp;simp only [ho,hx,hy];first|(go_simp;done)|(go_simp;rfl)
theorem apu {c:List SQ} (h:¬ CV (qs c)) (A0:Option Addr) (c0:Nat) (w:World) (hr0:Kd.C k31 w A0 c.length c) (hc0:c.length<=c0) :
  Calls prog 132 #[.slice A0 c.length c0] w fun e w'=>∃ ae:Value,e = .returned (.tuple #[ae,.bool false])/\Kd.R k31 TQ w' w.heap.size (fun _=>True) ae ([]:List SQ)/\Below w.heap.size w w':=by
 have af:=aM hr0;have aj:=aM hc0;clear hr0 hc0;have hv:cvB c=false:=decide_eq_false h;have HV:=aM hv;clear h hv;have HB:=jb_ w;go_enter func132,ntmps132;go_wp2_with (first|((with_reducible refine jd 9 ?_);refine R_lit k31 _ 31 ?hg (N:=9) ?hd (xs:=([]:List SQ)) (inner:=[]) (ok:=fun _=>True) (okp:=fun _=>True) ?hr ?hp (fun _ hk=>hk) trivial (Below.refl _ _) (Nat.le_refl _) (by simp) ?_;(case hd=>rfl);(case hg=>rfl);(case hr=>first|(go_simp;done)|(go_simp;rfl));(case hp=>exact (aa8 _ _));intro v9 w5 ho hb hg_ hnew_;clear hg_ hnew_;have HO:=aM (R_lower ho HB.out.size);replace HB:=kH hb;clear ho hb)|((with_reducible refine abX (f:=44) rfl ?_);skip;refine ae0 (some 11) rfl rfl func44 (by kernel_rfl) rfl #[.slice A0 c.length c0] rfl qM ?_;(with_reducible refine (aoQ HV.out A0 c0 _ ?s1 aj.out).mono ?_);(case s1=>exact C_below af.out HB.out);rintro e ay ⟨rfl,hb⟩;refine⟨_,rfl,?_⟩;replace HO:=kR HO hb;replace HB:=kH hb;clear hb));go_ret2;exact⟨_,rfl,HO.out,HB.out⟩
theorem acd {G:Prop} (h:G:=by
  go_wp2_with (first|((with_reducible refine jd 8 ?_);refine jX (ics [0,0,0,0,0]) TQ ?_;intro g8 hg av hbox hb;have G8:=kG hg;replace HO:=aM (R_below (R_elderB HO.out g8 (Nat.le_of_eq hg.symm)) hb);replace HU:=kR HU hb;replace HB:=kH hb;clear x0 x1 x2 x3 x4;have B8:=aM hbox;clear hg hbox hb)|((with_reducible refine agJ (p:=8) (v:=47) rfl rfl rfl rfl B8.out ?_);intro ax hw aa;replace HO:=aM (acY hw (fun _ hk=>hk.2) HO.out);replace HU:=aM (R_mono (acY hw (fun _ hk=>hk.2) (R_types HU.out B8.out (by decide))) (fun _ hk=>hk.1));replace HB:=aM (abf hw G8.out HB.out);clear B8 hw;have B8:=aM aa;clear aa;obtain⟨d0,d1,d2,d3,d4⟩:=ab3 B8.out;obtain⟨ak,e9,z0⟩:=Kd.at_bool (R_reads' HU.out).2.2 ji ag.out.1 ag.out.2;rw [RZ.out] at z0;(first|cases e9|(injection e9 with e9;subst e9)))|((with_reducible refine abX (f:=151) rfl ?_);skip;refine ae0 (some 64) rfl rfl func151 (by kernel_rfl) rfl #[.slice (some ak) (kps c U).length cr,iV q.f4] rfl qM ?_;(with_reducible refine (PL.out (some ak) cr _ ?s3 ?s4).mono ?_);(case s3=>exact (R_reads' HU.out).2.2);(case s4=>exact (kp HU));rintro e aH ⟨rfl,hb⟩;refine⟨_,rfl,?_⟩;replace HO:=kR HO hb;replace HU:=kR HU hb;replace B8:=kB B8 hb;replace HB:=kH hb;clear hb d0 d1 d2 d3 d4 z0;obtain⟨d0,d1,d2,d3,d4⟩:=ab3 B8.out)|((with_reducible refine apS (p:=65) rfl rfl rfl rfl rfl B8.out (by simp only [List.length_cons,List.length_nil];omega) ?_);intro az hw aa;replace HO:=aM (R_put hw (fun _ hk=>hk.2) HO.out);replace HU:=aM (R_mono (R_put hw (fun _ hk=>hk.2) (R_types HU.out B8.out (by decide))) (fun _ hk=>hk.1));replace HB:=aM (alH hw G8.out HB.out);clear B8 hw d0 d1 d2 d3 d4;have B8:aa1 (az.heap[g8]?=some (.cells (ics [q.f0,q.f1,q.f2,q.f3,(plc c U q.f4.toNat:Int)]) TQ (0,0))):=⟨aa⟩;clear aa;obtain⟨d0,d1,d2,d3,d4⟩:=ab3 B8.out)|((with_reducible refine aa9 (b:=.append) (xs:=#[.tmp 66,.tmp 68]) rfl ?_);at_builtin;refine R_append k31 (w0:=w) w.heap.size rfl (.tmp 66) (.tmp 68) 23 31 (.agg #[(iV 0),(iV 0),(iV 0),(iV 0),(iV 0)]) 40 rfl underlying23 abd rfl (by decide) (by omega) (.slice Ao (sqU c U j).length co) (sqU c U j) (⟨q.f0,q.f1,q.f2,q.f3,(plc c U q.f4.toNat:Int)⟩:SQ) [iV q.f0,iV q.f1,iV q.f2,iV q.f3,iV (plc c U q.f4.toNat:Int)] (fun k_=>True/\k_≠g8) (fun _=>False) rfl rfl ?aP (fun _ hk=>hk.elim) ?aF ?aO ?aB ?aS ?aL ?_;(case aP=>exact aaX _ _ _ (⟨q.f0,q.f1,q.f2,q.f3,(plc c U q.f4.toNat:Int)⟩:SQ));(case aB=>exact HB.out);(case aF=>exact (fun k_ hk=>⟨trivial,Kd.freshB B8.out k_ hk⟩));(case aO=>exact HO.out);(case aS=>exact HB.out.size);(case aL=>have:=hlel.out;omega);intro v44 aA ho hb hg hat;have nHU:=aM (R_over' HU.out (R_typed HO.out) (by decide) hg);rw [<- HN.out] at ho;replace HO:=aM (R_mono (ok':=fun _=>True) ho (fun _ _=>trivial));replace HB:=aM hb;clear HU B8 ho hb hg hat d0 d1 d2 d3 d4;have HU:=nHU;clear nHU));go_roundg k1;case measure=>omega
  exact⟨_,j+1,rfl,⟨by have:=HJI.out;(first|omega|(rw [aaK (by omega) (by omega)];omega)),by have:=HJ.out.2;omega⟩,HO,HU,HB⟩):G:=h
theorem acb {G:Prop} (h:G:=by
  go_wp2_with (first|((with_reducible refine jc 150 34 ?_);(try (refine aaj (by rfl) ?_;dsimp only));refine jG func150 #[.agg #[iV (qa c p).f0,iV (qa c p).f1,iV (qa c p).f2,iV (qa c p).f3,iV (qa c p).f4],iV pi] ?_;refine (A3.out _).mono ?_;skip;rintro e w8 ⟨rfl,hb⟩;refine⟨_,rfl,?_⟩;replace HO:=kR HO hb;replace HU:=kR HU hb;replace HB:=kH hb;clear y0 y1 y2 y3 y4 hz;clear hb)|((with_reducible refine aaC (t:=4) (p:=37) rfl ?_);obtain⟨ah,ai⟩:=R_celln false HU.out pi au.out.1 au.out.2;(with_reducible refine akR (p:=37) (y:=false) rfl rfl rfl rfl rfl ah ai ?_);clear ah ai;intro w9 hw;have pg:=R_putg HU.out pi false;rw [HS.out] at pg;have nHO:=aM (R_over' (v:=.slice (some ⟨go,0,none⟩) U.length cr) HO.out (R_typed HU.out) (by decide) pg.2);have nHU:=aM pg.1;have nHB:=aM (alH hw GO.out HB.out);change aa1 (Kd.R _ _ (World.setCell _ _ (.bool false)) _ _ _ _) at nHO nHU;rw [<- hw] at nHO nHU;clear HB HO HU hw pg;have HB:=nHB;have HO:=nHO;have HU:=nHU;clear nHB nHO nHU));go_roundg k1;case measure=>omega
  exact⟨_,p+1,rfl,⟨by have:=HPI.out;(first|omega|(rw [aaK (by omega) (by omega)];omega)),by have:=HP.out.2;omega⟩,HO,HU,HB⟩):G:=h
theorem anK {c:List SQ} (h:CV (qs c)) (A0:Option Addr) (c0:Nat) (w:World) (hr0:Kd.C k31 w A0 c.length c) (hc0:c.length<=c0) :
  Calls prog 132 #[.slice A0 c.length c0] w fun e w'=>∃ (ae:Value) (U:List Bool),(RS c).Lfp U/\e = .returned (.tuple #[ae,.bool true])/\Kd.R k31 TQ w' w.heap.size (fun _=>True) ae (sqC c U)/\Below w.heap.size w w':=by
 have af:=aM hr0;have aj:=aM hc0;clear hr0 hc0;have h6:=abh h;have h6':c.length<=600:=h6.2;have HV:=aM (show cvB c=true from decide_eq_true h);have HB:=jb_ w;obtain⟨U,hU,hgo⟩:=an7 h;have hUl:U.length=c.length:=hU.1.1.1;have HUL:=aM hUl;clear hUl;have aC:=aM hU;have HGO:=aM hgo;clear hU hgo;go_enter func132,ntmps132;go_wp2_with (first|((with_reducible refine jd 9 ?_);refine R_lit k31 _ 31 ?hg (N:=9) ?hd (xs:=([]:List SQ)) (inner:=[]) (ok:=fun _=>True) (okp:=fun _=>True) ?hr ?hp (fun _ hk=>hk) trivial (Below.refl _ _) (Nat.le_refl _) (by simp) ?_;(case hd=>rfl);(case hg=>rfl);(case hr=>first|(go_simp;done)|(go_simp;rfl));(case hp=>exact (aa8 _ _));intro v9 w5 ho hb hg_ hnew_;clear hg_ hnew_;have HO:=aM (R_lower ho HB.out.size);replace HB:=kH hb;clear ho hb)|((with_reducible refine abX (f:=44) rfl ?_);skip;refine ae0 (some 11) rfl rfl func44 (by kernel_rfl) rfl #[.slice A0 c.length c0] rfl qM ?_;(with_reducible refine (aoQ HV.out A0 c0 _ ?s1 aj.out).mono ?_);(case s1=>exact C_below af.out HB.out);rintro e ay ⟨rfl,hb⟩;refine⟨_,rfl,?_⟩;replace HO:=kR HO hb;replace HB:=kH hb;clear hb)|((with_reducible refine abX (f:=149) rfl ?_);skip;refine ae0 (some 15) rfl rfl func149 (by kernel_rfl) rfl #[.slice A0 c.length c0] rfl qM ?_;(with_reducible refine (HGO.out A0 c0 _ ?s2 aj.out).mono ?_);(case s2=>exact C_below af.out HB.out);rintro e w6 ⟨v17,rfl,ho,hb⟩;refine⟨_,rfl,?_⟩;obtain⟨Ar,cr,rfl⟩:=R_slice ho;have HU:=aM (R_lower ho HB.out.size);replace HO:=kR HO hb;replace HB:=kH hb;clear hb ho));have HM:aa1 (∃ M:List Bool,M=(kps c U).take 0 ++ U.drop 0/\Kd.R Kd.bool 4 w6 w.heap.size (fun _=>True) (.slice Ar M.length cr) M):=⟨_,rfl,HU.out⟩;go_loopg [6] c.length (fun kq v6 w'=>∃ (pi:Int) (p:Nat),v6 = iV pi/\aa1 (pi=(p:Int)/\p+kq=c.length)/\aa1 (Kd.R k31 TQ w' w.heap.size (fun _=>True) v9 ([]:List SQ))/\aa1 (Kd.R Kd.bool 4 w' w.heap.size (fun _=>True) (.slice Ar U.length cr) ((kps c U).take p ++ U.drop p))/\aa1 (Below w.heap.size w w'));case atStart=>exact⟨0,0,rfl,⟨rfl,Nat.zero_add _⟩,HO,⟨by rw [List.take_zero,List.nil_append,List.drop_zero];exact HU.out⟩,HB⟩
 clear HO HU HB HM;obtain⟨pi,p,rfl,HP,HO,HU,HB⟩:=hrel;rcases gk with _|k1
 ·have ep:p=c.length:=by have:=HP.out.2;omega
  subst ep;have hpi:pi=(c.length:Int):=HP.out.1;subst hpi;have hfull:(kps c U).take c.length ++ U.drop c.length=kps c U:=by rw [List.take_of_length_le (by rw [ady];exact Nat.le_refl _),List.drop_eq_nil_of_le (by rw [HUL.out];exact Nat.le_refl _),List.append_nil]
  rw [hfull] at HU;have hKU:U.length=(kps c U).length:=by rw [ady,HUL.out]
  have nHU:aa1 (Kd.R Kd.bool 4 wr w.heap.size (fun _=>True) (.slice Ar (kps c U).length cr) (kps c U)):=⟨by rw [<- hKU];exact HU.out⟩;have HKU:=aM hKU;clear hfull HU;have HU:=nHU;clear nHU;rw [hKU];clear hKU;go_wp2;go_loopg [4,7] c.length (fun kq v4 v7 w'=>∃ (ji:Int) (j:Nat),v7 = iV ji/\aa1 (ji=(j:Int)/\j+kq=c.length)/\aa1 (Kd.R k31 TQ w' w.heap.size (fun _=>True) v4 (sqU c U j))/\aa1 (Kd.R Kd.bool 4 w' w.heap.size (fun _=>True) (.slice Ar (kps c U).length cr) (kps c U))/\aa1 (Below w.heap.size w w'));case atStart=>exact⟨0,0,rfl,⟨rfl,Nat.zero_add _⟩,HO,HU,HB⟩
  clear HO HU HB;obtain⟨ji,j,rfl,HJ,HO,HU,HB⟩:=hrel;obtain⟨Ao,co,rfl⟩:=R_slice HO.out;rcases gk with _|k1
  ·have ej:j=c.length:=by have:=HJ.out.2;omega
   subst ej;have hji:ji=(c.length:Int):=HJ.out.1;subst hji;go_wp2;go_ret2;exact⟨_,U,aC.out,rfl,HO.out,HB.out⟩
  have hj:j < c.length:=by have:=HJ.out.2;omega
  have hji:ji=(j:Int):=HJ.out.1;have j0:0<=ji:=by omega
  have j1:ji < (c.length:Int):=by omega
  have ju:ji < ((kps c U).length:Int):=by rw [ady];exact j1
  obtain⟨aq,e2,x0,x1,x2,x3,x4⟩:=aaR af.out ji j0 j1;cases e2;have rq:aa0 c ji=qa c j:=by rw [hji];exact ac9 c j
  rw [rq] at x0 x1 x2 x3 x4;replace x0:=kx HB x0;replace x1:=kx HB x1;replace x2:=kx HB x2;replace x3:=kx HB x3;replace x4:=kx HB x4;have rz:acn false (kps c U) ji=kpt c U j:=by rw [hji,ac4,ag1 hj]
  have hle:(sqU c U j).length<=600:=by rw [aiV];have:=ajH c U j;omega
  have hlel:=aM hle;have HN:=aM (ajA c U j);have HJI:=aM hji;have hnr:(qa c j).f0=4\/(qa c j).f0=5->0<=(qa c j).f4/\(qa c j).f4 < c.length:=fun g=>akF h hj g
  obtain⟨q,hq⟩:∃ q,q=qa c j:=⟨_,rfl⟩
  rw [<- hq] at x0 x1 x2 x3 x4 HN hnr;have ag:=aM (And.intro j0 ju);have aI:=eq_true j0;have aJ:=eq_true j1;have jut:=eq_true ju;have aK:=decide_eq_true j0;have aN:=decide_eq_true j1;have jub:=decide_eq_true ju;clear hji rq j0 j1 ju hle hq;by_cases g:kpt c U j=true
  ·rw [g] at rz;have RZ:=aM rz;rw [if_pos g] at HN;clear rz g;by_cases g4:q.f0=4
   ·obtain⟨n0,n1⟩:=hnr (.inl g4);have es:sqQ c U q=⟨q.f0,q.f1,q.f2,q.f3,(plc c U q.f4.toNat:Int)⟩:=if_pos (.inl g4);rw [es] at HN;have PL:=aM (fun (A0:Option Addr) (c0:Nat) (W:World)=>ag0 (c:=c) (U:=U) (n:=q.f4) (by omega) n0 (by omega) A0 c0 W);have aD:(q.f0 == 4)=true:=beq_iff_eq.mpr g4;clear hnr g4 n0 n1 es;exact acd
   have aD:(q.f0 == 4)=false:=beq_eq_false_iff_ne.mpr g4;by_cases g5:q.f0=5
   ·obtain⟨n0,n1⟩:=hnr (.inr g5);have es:sqQ c U q=⟨q.f0,q.f1,q.f2,q.f3,(plc c U q.f4.toNat:Int)⟩:=if_pos (.inr g5);rw [es] at HN;have PL:=aM (fun (A0:Option Addr) (c0:Nat) (W:World)=>ag0 (c:=c) (U:=U) (n:=q.f4) (by omega) n0 (by omega) A0 c0 W);have aG:(q.f0 == 5)=true:=beq_iff_eq.mpr g5;clear hnr g4 g5 n0 n1 es;exact acd
   have aG:(q.f0 == 5)=false:=beq_eq_false_iff_ne.mpr g5;have es:sqQ c U q=q:=if_neg (by omega);rw [es] at HN;clear hnr g4 g5 es;go_wp2_with (first|((with_reducible refine jd 8 ?_);refine jX (ics [0,0,0,0,0]) TQ ?_;intro g8 hg av hbox hb;have G8:=kG hg;replace HO:=aM (R_below (R_elderB HO.out g8 (Nat.le_of_eq hg.symm)) hb);replace HU:=kR HU hb;replace HB:=kH hb;clear x0 x1 x2 x3 x4;have B8:=aM hbox;clear hg hbox hb)|((with_reducible refine agJ (p:=8) (v:=47) rfl rfl rfl rfl B8.out ?_);intro ax hw aa;replace HO:=aM (acY hw (fun _ hk=>hk.2) HO.out);replace HU:=aM (R_mono (acY hw (fun _ hk=>hk.2) (R_types HU.out B8.out (by decide))) (fun _ hk=>hk.1));replace HB:=aM (abf hw G8.out HB.out);clear B8 hw;have B8:=aM aa;clear aa;obtain⟨d0,d1,d2,d3,d4⟩:=ab3 B8.out;obtain⟨ak,e9,z0⟩:=Kd.at_bool (R_reads' HU.out).2.2 ji ag.out.1 ag.out.2;rw [RZ.out] at z0;(first|cases e9|(injection e9 with e9;subst e9)))|((with_reducible refine aa9 (b:=.append) (xs:=#[.tmp 66,.tmp 68]) rfl ?_);at_builtin;refine R_append k31 (w0:=w) w.heap.size rfl (.tmp 66) (.tmp 68) 23 31 (.agg #[(iV 0),(iV 0),(iV 0),(iV 0),(iV 0)]) 40 rfl underlying23 abd rfl (by decide) (by omega) (.slice Ao (sqU c U j).length co) (sqU c U j) (⟨q.f0,q.f1,q.f2,q.f3,q.f4⟩:SQ) [iV q.f0,iV q.f1,iV q.f2,iV q.f3,iV q.f4] (fun k_=>True/\k_≠g8) (fun _=>False) rfl rfl ?aP (fun _ hk=>hk.elim) ?aF ?aO ?aB ?aS ?aL ?_;(case aP=>exact aaX _ _ _ (⟨q.f0,q.f1,q.f2,q.f3,q.f4⟩:SQ));(case aB=>exact HB.out);(case aF=>exact (fun k_ hk=>⟨trivial,Kd.freshB B8.out k_ hk⟩));(case aO=>exact HO.out);(case aS=>exact HB.out.size);(case aL=>have:=hlel.out;omega);intro v44 aA ho hb hg hat;have nHU:=aM (R_over' HU.out (R_typed HO.out) (by decide) hg);rw [<- HN.out] at ho;replace HO:=aM (R_mono (ok':=fun _=>True) ho (fun _ _=>trivial));replace HB:=aM hb;clear HU B8 ho hb hg hat d0 d1 d2 d3 d4;have HU:=nHU;clear nHU));go_roundg k1;case measure=>omega
   exact⟨_,j+1,rfl,⟨by have:=HJI.out;(first|omega|(rw [aaK (by omega) (by omega)];omega)),by have:=HJ.out.2;omega⟩,HO,HU,HB⟩
  have g:=Bool.eq_false_iff.mpr g;rw [g] at rz;have RZ:=aM rz;rw [if_neg (by rw [g];simp),List.append_nil] at HN;clear rz g hnr;go_wp2_with (first|((with_reducible refine jd 8 ?_);refine jX (ics [0,0,0,0,0]) TQ ?_;intro g8 hg av hbox hb;have G8:=kG hg;replace HO:=aM (R_below (R_elderB HO.out g8 (Nat.le_of_eq hg.symm)) hb);replace HU:=kR HU hb;replace HB:=kH hb;clear x0 x1 x2 x3 x4;have B8:=aM hbox;clear hg hbox hb)|((with_reducible refine agJ (p:=8) (v:=47) rfl rfl rfl rfl B8.out ?_);intro ax hw aa;replace HO:=aM (acY hw (fun _ hk=>hk.2) HO.out);replace HU:=aM (R_mono (acY hw (fun _ hk=>hk.2) (R_types HU.out B8.out (by decide))) (fun _ hk=>hk.1));replace HB:=aM (abf hw G8.out HB.out);clear B8 hw;have B8:=aM aa;clear aa;obtain⟨d0,d1,d2,d3,d4⟩:=ab3 B8.out;obtain⟨ak,e9,z0⟩:=Kd.at_bool (R_reads' HU.out).2.2 ji ag.out.1 ag.out.2;rw [RZ.out] at z0;(first|cases e9|(injection e9 with e9;subst e9))));have nHO:=aM (R_mono (ok':=fun _=>True) HO.out (fun _ _=>trivial));clear HO;have HO:=nHO;clear nHO;go_roundg k1;case measure=>omega
  exact⟨_,j+1,rfl,⟨by have:=HJI.out;(first|omega|(rw [aaK (by omega) (by omega)];omega)),by have:=HJ.out.2;omega⟩,⟨by rw [HN.out];exact HO.out⟩,HU,HB⟩
 have hp:p < c.length:=by have:=HP.out.2;omega
 have hpi:pi=(p:Int):=HP.out.1;have p0:0<=pi:=by omega
 have p1:pi < (c.length:Int):=by omega
 have pu:pi < (U.length:Int):=by rw [HUL.out];exact p1
 obtain⟨aq,e2,x0,x1,x2,x3,x4⟩:=aaR af.out pi p0 p1;cases e2;have rq:aa0 c pi=qa c p:=by rw [hpi];exact ac9 c p
 rw [rq] at x0 x1 x2 x3 x4;have kl:=ady c U;have cl:=HUL.out;have hl:=alf (A:=kps c U) (B:=U) (by omega) (show p<=(kps c U).length by omega);have hgt:=alg false (A:=kps c U) (B:=U) (by omega) (show p<=(kps c U).length by omega);have hn:=ahD false (A:=kps c U) (B:=U) (by omega) (show p < (kps c U).length by omega);rw [ag1 hp] at hn;obtain⟨M,hM⟩:∃ M,M=(kps c U).take p ++ U.drop p:=⟨_,rfl⟩
 rw [<- hM] at hl hgt hn HU;obtain⟨go,cp,he,gb,gl,cells,HG⟩:=R_form HU.out (by omega);simp only [Value.slice.injEq] at he;obtain⟨rfl,hbm,rfl⟩:=he;have GO:=aM gb;clear hbm gb gl HG;have hz:=(R_celln false HU.out pi p0 pu).1;have rz:acn false M pi=U.getD p false:=by rw [hpi,ac4,hgt]
 rw [rz] at hz;have hset:∀ b,kpt c U p=b->M.set pi.toNat b=(kps c U).take (p+1) ++ U.drop (p+1):=fun b e=>by rw [hpi,Int.toNat_natCast,<- e];exact hn
 have HSET:=aM hset;have HPI:=aM hpi;have X0:=aM x0;have X1:=aM x1;have X2:=aM x2;have X3:=aM x3;have X4:=aM x4;have y0:=kx HB x0;have y1:=kx HB x1;have y2:=kx HB x2;have y3:=kx HB x3;have y4:=kx HB x4;have au:=aM (And.intro p0 pu);have A2:=aM (show ∀ b,idle (qa c p) p=b->∀ W,Calls prog 150 #[.agg #[iV (qa c p).f0,iV (qa c p).f1,iV (qa c p).f2,iV (qa c p).f3,iV (qa c p).f4],iV pi] W fun e w'=>e = .returned (.bool b)/\Below W.heap.size W w' from fun b e W=>by rw [hpi];exact aki _ (by omega) e W);have aQ:=eq_true p0;have aR:=eq_true p1;have put_:=eq_true pu;have aT:=decide_eq_true p0;have aU:=decide_eq_true p1;have pub:=decide_eq_true pu;clear x0 x1 x2 x3 x4 hset hpi rq rz p0 p1 pu hn hgt hl kl cl hM;by_cases cu:U.getD p false=true
 ·rw [cu] at hz;by_cases ci:idle (qa c p) p=true
  ·have HS:=aM (HSET.out false (by unfold kpt;rw [cu,ci];rfl));have A3:=aM (A2.out true ci);clear cu ci A2 HSET;exact acb
  have ci:=Bool.eq_false_iff.mpr ci;have HS:=aM (HSET.out true (by unfold kpt;rw [cu,ci];rfl));have A3:=aM (A2.out false ci);clear cu ci A2 HSET;go_wp2_with (first|((with_reducible refine jc 150 34 ?_);(try (refine aaj (by rfl) ?_;dsimp only));refine jG func150 #[.agg #[iV (qa c p).f0,iV (qa c p).f1,iV (qa c p).f2,iV (qa c p).f3,iV (qa c p).f4],iV pi] ?_;refine (A3.out _).mono ?_;skip;rintro e w8 ⟨rfl,hb⟩;refine⟨_,rfl,?_⟩;replace HO:=kR HO hb;replace HU:=kR HU hb;replace HB:=kH hb;clear y0 y1 y2 y3 y4 hz;clear hb)|((with_reducible refine aaC (t:=4) (p:=37) rfl ?_);obtain⟨ah,ai⟩:=R_celln false HU.out pi au.out.1 au.out.2;(with_reducible refine akR (p:=37) (y:=true) rfl rfl rfl rfl rfl ah ai ?_);clear ah ai;intro w9 hw;have pg:=R_putg HU.out pi true;rw [HS.out] at pg;have nHO:=aM (R_over' (v:=.slice (some ⟨go,0,none⟩) U.length cr) HO.out (R_typed HU.out) (by decide) pg.2);have nHU:=aM pg.1;have nHB:=aM (alH hw GO.out HB.out);change aa1 (Kd.R _ _ (World.setCell _ _ (.bool true)) _ _ _ _) at nHO nHU;rw [<- hw] at nHO nHU;clear HB HO HU hw pg;have HB:=nHB;have HO:=nHO;have HU:=nHU;clear nHB nHO nHU));go_roundg k1;case measure=>omega
  exact⟨_,p+1,rfl,⟨by have:=HPI.out;(first|omega|(rw [aaK (by omega) (by omega)];omega)),by have:=HP.out.2;omega⟩,HO,HU,HB⟩
 have cu:=Bool.eq_false_iff.mpr cu;rw [cu] at hz;have HS:=aM (HSET.out false (by unfold kpt;rw [cu];rfl));clear cu A2 HSET;exact acb
theorem SaD.calls (k:Nat) (A0:Option Addr) (c0:Nat) (l0 r1:List SQ) (r2:Bool) (w:World) (hr0:Kd.C k31 w A0 l0.length l0) (hc0:l0.length<=c0) (h:SaD.f k l0=some (r1,r2)) :
  Calls prog 132 #[.slice A0 l0.length c0] w fun e w'=>∃ ae:Value,e = .returned (.tuple #[ae,.bool r2])/\Kd.R k31 TQ w' w.heap.size (fun _=>True) ae r1/\Below w.heap.size w w':=by
 by_cases hv:CV (qs l0)
 ·obtain⟨U,hU,hE⟩:=aoO hv;have e:=ajV (fun k=>SaD.mono l0 k) hE h;obtain⟨rfl,rfl⟩:=Prod.mk.inj e;refine (anK hv A0 c0 w hr0 hc0).mono ?_;rintro e w' ⟨v,V,hV,rfl,hR,hb⟩;rw [Sys.lfp_unique (afe hv) hV hU] at hR;exact⟨v,rfl,hR,hb⟩
 have e:=ajV (fun k=>SaD.mono l0 k) (apA hv) h;obtain⟨rfl,rfl⟩:=Prod.mk.inj e;exact apu hv A0 c0 w hr0 hc0
end Go.Proofs.YtdkkdiiceaomaaaGreat.M
namespace Go.Proofs.YtdkkdiiceaomaaaGreat.M
open Go.Proofs.Tryz Go.RowKit Go.Proofs.YtdkkdiiceaomaaaGreatW.PrintWords Go.Proofs.YtdkkdiiceaomaaaGreatW.PrintLast Go.Proofs.YtdkkdiiceaomaaaGreatW.PrintMore Kd
attribute [local go_sem] aas aaq aaH aaG aai aah aar aap
def ajn (k:Nat) (l0:List S31):Option ((List S31)):=(Sav.f k l0).bind fun ax=>((Saq.f k ax.1).bind fun ay=>((Saw.f k ay.1).bind fun az=>((Sar.f k az.1).bind fun aA=>((SaD.f k aA.1).bind fun aB=>(some aB.1)))))
theorem alT (k:Nat) (A0:Option Addr) (c0:Nat) (l0 r:List S31) (w:World) (hr0:Kd.C k31 w A0 l0.length l0) (hc0:l0.length<=c0) (h:ajn k l0=some r) :
  Calls prog 117 #[.slice A0 l0.length c0] w fun e w'=>∃ aU:Value,e = .returned (aU)/\Kd.R k31 31 w' w.heap.size (fun _=>True) aU r/\Below w.heap.size w w':=by
 have bg:=aM hr0;have bi:=aM hc0;clear hr0 hc0;have HB:=jb_ w;have H:=h;unfold ajn at H;clear h;obtain⟨⟨aj,aD⟩,A2,H⟩:=qE H;try dsimp only at H
 obtain⟨⟨ak,aF⟩,A3,H⟩:=qE H;try dsimp only at H
 obtain⟨⟨au,aG⟩,A4,H⟩:=qE H;try dsimp only at H
 obtain⟨⟨av,aH⟩,A5,H⟩:=qE H;try dsimp only at H
 obtain⟨⟨aI,aJ⟩,A6,H⟩:=qE H;try dsimp only at H
 obtain rfl:=oJ H;go_enter func117,ntmps117;go_wp2_with (first|((with_reducible refine jc 15 15 ?_);refine jM func15 (Sav.calls k _ _ l0 aj aD _ (kC bg.out) bi.out A2.out) ?_;rintro aV w7 ⟨ho0,hb⟩;have aa:=kL ho0;replace HB:=kH hb;clear hb;(try clear ho0);obtain⟨bn,bq,bu⟩:=R_slice aa.out;subst bu)|((with_reducible refine jc 23 20 ?_);refine jM func23 (Saq.calls k _ _ aj ak aF _ (kJ aa) (kp aa) A3.out) ?_;rintro aW w9 ⟨ho0,hb⟩;have ae:=aM (R_lower (R_new' ho0 (R_lt (qR aa))) (aa4 qB));replace aa:=kO aa ho0 hb;replace HB:=kH hb;clear hb;(try clear ho0);obtain⟨aK,aL,aN⟩:=R_slice ae.out;subst aN)|((with_reducible refine jc 130 25 ?_);refine jM func130 (Saw.calls k _ _ ak au aG _ (kJ ae) (kp ae) A4.out) ?_;rintro aX bv ⟨ho0,hb⟩;have af:=aM (R_lower (R_new' (R_new' ho0 (R_lt (qR aa))) (R_lt (qR ae))) (aa4 qB));replace aa:=kO aa ho0 hb;replace ae:=kO ae ho0 hb;replace HB:=kH hb;clear hb;(try clear ho0);obtain⟨aO,aP,aQ⟩:=R_slice af.out;subst aQ)|((with_reducible refine jc 131 30 ?_);refine jM func131 (Sar.calls k _ _ au av aH _ (kJ af) (kp af) A5.out) ?_;rintro aY bz ⟨ho0,hb⟩;have ai:=aM (R_lower (R_new' (R_new' (R_new' ho0 (R_lt (qR aa))) (R_lt (qR ae))) (R_lt (qR af))) (aa4 qB));replace aa:=kO aa ho0 hb;replace ae:=kO ae ho0 hb;replace af:=kO af ho0 hb;replace HB:=kH hb;clear hb;(try clear ho0);obtain⟨aR,aS,aT⟩:=R_slice ai.out;subst aT)|((with_reducible refine jc 132 35 ?_);refine jM func132 (SaD.calls k _ _ av aI aJ _ (kJ ai) (kp ai) A6.out) ?_;rintro aZ bA ⟨ho0,hb⟩;have aC:=aM (R_lower (R_new' (R_new' (R_new' (R_new' ho0 (R_lt (qR aa))) (R_lt (qR ae))) (R_lt (qR af))) (R_lt (qR ai))) (aa4 qB));replace aa:=kO aa ho0 hb;replace ae:=kO ae ho0 hb;replace af:=kO af ho0 hb;replace ai:=kO ai ho0 hb;replace HB:=kH hb;clear hb;(try clear ho0)));go_ret;exact⟨_,qW,by (with_reducible repeat (first|apply R_alloc|apply R_drewN|apply R_drew));exact R_mono aC.out (fun _ hk=>trivial),qB⟩
end Go.Proofs.YtdkkdiiceaomaaaGreat.M
namespace Go.Proofs.YtdkkdiiceaomaaaGreat.M
open Go.Proofs.Tryz Go.RowKit Go.Proofs.YtdkkdiiceaomaaaGreatW.PrintWords Go.Proofs.YtdkkdiiceaomaaaGreatW.PrintLast Go.Proofs.YtdkkdiiceaomaaaGreatW.PrintMore
attribute [local go_sem] aas aaq aaH aaG aai aah aar aap
mutual
def ahb:Nat->List S31->Int->Bool->Option ((List S31) × Bool)
 | 0,_,_,_=>none
 | k+1,x0,x1,bA=>if bA=true then (some ((([]:List S31)),false)) else ((some (([]:List S31):List S31)).bind fun af=>(if af.length+x0.length < 3518437208883 then (adj k x1 (af ++ x0) 0) else (none)))
def adj:Nat->Int->List S31->Int->Option ((List S31) × Bool)
 | 0,_,_,_=>none
 | k+1,x1,x6,x7=>if x7 < x1 then ((ajn k x6).bind fun ak=>(adj k x1 ak (wrap64 (x7+1)))) else (some (x6,true))
end
def Saz.f (k:Nat) (l0:List S31) (a1:Int):Option ((List S31) × Bool):=(San.f k l0).bind fun aA=>(if aA=true then ((aeh a1 0 4).bind fun aC=>(ahb k l0 a1 (!aC))) else (ahb k l0 a1 true))
theorem Saz.calls (k:Nat) (A0:Option Addr) (c0:Nat) (l0:List S31) (a1:Int) (r1:List S31) (r2:Bool) (w:World) (hr0:Kd.C k31 w A0 l0.length l0) (hc0:l0.length<=c0) (h:Saz.f k l0 a1=some (r1,r2)) :
  Calls prog 97 #[.slice A0 l0.length c0,iV a1] w fun e w'=>∃ aZ:Value,e = .returned (.tuple #[aZ,.bool r2])/\Kd.R k31 31 w' w.heap.size (fun _=>True) aZ r1/\Below w.heap.size w w':=by
 have aT:=aM hr0;have bg:=aM hc0;clear hr0 hc0;have HB:=jb_ w;have H:=h;unfold Saz.f at H;clear h;have aU:=aM H;clear H;go_enter func97,ntmps97;go_upto_region 1 with (fail);go_cut [15] (fun v15 wc=>∃ (kq:Nat) (au:Bool),v15 = .bool au/\aa1 (ahb kq l0 a1 au=some (r1,r2))/\aa1 (kq<=k)/\aa1 (Below w.heap.size w wc))
 case first =>
  have H:=aU.out;clear aU;obtain⟨aA,A4,H⟩:=qE H;try dsimp only at H
  replace H:=jB H;rcases H with ⟨rfl,H⟩ | ⟨rfl,H⟩
  ·obtain⟨aC,A6,H⟩:=qE H;try dsimp only at H
   have H':=aM H;clear H;go_wp2_with (first|((with_reducible refine jc 44 9 ?_);refine jK func44 (San.calls k _ _ l0 true _ (kb aT HB) bg.out A4.out) ?_;intro aV hb;replace HB:=kH hb;clear hb)|(go_at_call 60;(with_reducible refine (Sbt.calls _ _ _ _ _ (aa1.out (by assumption))).mono ?_);rintro e w' ⟨rfl,⟨nd,rfl⟩⟩));go_meet;exact⟨_,_,qZ,H',⟨by first|omega|exact Nat.le_refl _⟩,⟨qB⟩⟩
  have H':=aM H;clear H;go_wp2_with (first|((with_reducible refine jc 44 9 ?_);refine jK func44 (San.calls k _ _ l0 false _ (kb aT HB) bg.out A4.out) ?_;intro aV hb;replace HB:=kH hb;clear hb));go_meet;exact⟨_,_,qZ,H',⟨by first|omega|exact Nat.le_refl _⟩,⟨qB⟩⟩
 clear aU;obtain⟨kq,au,rfl,HA,HJ2,HB⟩:=hcut
 cases kq with
 | zero=>exact absurd HA.out (by simp [ahb])
 | succ bi =>
  have H:=HA.out;clear HA;simp only [ahb] at H;replace H:=jB H;rcases H with ⟨rfl,H⟩ | ⟨rfl,H⟩
  ·obtain⟨bn,aa⟩:=ky ([]:List S31);replace H:=kv aa H;obtain⟨rfl,rfl⟩:=oJ2 H;go_wp2_with (first|((with_reducible refine jd 16 ?_);refine jV k31 31 ([]:List S31) [] (aa8 _ _) ?_;intro bq bC av hb;replace av:=kr aa av;have aD:=kL av;replace HB:=kH hb;clear hb av));go_ret2;exact⟨_,qW,qR aD,qB⟩
  obtain⟨af,ae⟩:=ky ([]:List S31);replace H:=kv ae H;replace H:=jL H;obtain⟨aK,H⟩:=H;obtain⟨aN,ai⟩:=ky ((af ++ l0):List S31);replace H:=kv ai H;have H':=aM H;clear H;go_wp2_with (first|((with_reducible refine jd 17 ?_);refine jV k31 31 ([]:List S31) [] (aa8 _ _) ?_;intro aP bF ax hb;replace ax:=kr ae ax;have ay:=kL ax;replace HB:=kH hb;clear hb ax)|((with_reducible refine aa9 (b:=.append) (xs:=#[.tmp 17,.tmp 18]) rfl ?_);at_builtin;refine Kd.R_append_rows k31 (w0:=w) w.heap.size rfl (.tmp 17) (.tmp 18) 23 31 (.agg #[(iV 0),(iV 0),(iV 0),(iV 0),(iV 0)]) 40 rfl underlying23 abd rfl (by decide) (by omega) aP af l0 _ _ _ (fun _=>True) (fun _=>False) rfl rfl ?aO ?aR (fun _ _ h=>h) (fun _ h=>h.elim) ?aF ?aB ?aS ?aL ?_;(case aR=>exact kb aT HB);(case aB=>exact qB);(case aF=>exact (fun _ _=>trivial));(case aO=>exact (qR ay));(case aS=>exact (aa4 qB));(case aL=>have:=aK.out;omega);intro bu bG ho hb hg hat;rw [<- ai.out] at ho;have aG:=aM ho;replace HB:=aM hb;clear ay;clear ho hb hg hat));go_loopg [6,7] bi (fun kq v6 v7 w'=>∃ (az:List S31) (aH:Int),v7 = iV aH/\aa1 (adj kq a1 az aH=some (r1,r2))/\aa1 (kq<=bi)/\aa1 (Kd.R k31 31 w' w.heap.size (fun _=>True) v6 az)/\aa1 (Below w.heap.size w w'));case atStart=>exact⟨(aN),(0),qZ,H',⟨Nat.le_refl _⟩,⟨qR aG⟩,⟨qB⟩⟩
  clear H';obtain⟨az,aH,rfl,HA,bv,aj,HB⟩:=hrel;rcases gk with _|k2
  ·exact absurd HA.out (by simp [adj])
  have H:=HA.out;clear HA;simp only [adj] at H;replace H:=jD H;rcases H with ⟨aQ,H⟩ | ⟨aQ,H⟩
  ·obtain⟨ak,bD,H⟩:=qE H;try dsimp only at H
   have H':=aM H;clear H;obtain⟨aW,aX,aY⟩:=Kd.R_slice aj.out;subst aY;go_wp2_with (first|((with_reducible refine jc 117 26 ?_);refine jM func117 (alT k2 _ _ az ak _ (kJ aj) (kp aj) bD.out) ?_;rintro bz bE ⟨aI,hb⟩;have aJ:=aM (Kd.R_lower (Kd.R_new' aI (Kd.R_lt (qR aj))) (aa4 qB));replace aj:=kO aj aI hb;replace HB:=kH hb;clear hb;(try clear aI)));go_roundg k2;case measure=>have:=HJ2.out;have:=bv.out;omega
   exact⟨_,_,qZ,H',⟨by have:=HJ2.out;have:=bv.out;omega⟩,⟨by (with_reducible repeat (first|apply Kd.R_alloc|apply Kd.R_drewN|apply Kd.R_drew));exact Kd.R_mono aJ.out (fun _ hk=>trivial)⟩,⟨qB⟩⟩
  obtain⟨rfl,rfl⟩:=oJ2 H;go_wp2;go_ret2;exact⟨_,qW,qR aj,qB⟩
end Go.Proofs.YtdkkdiiceaomaaaGreat.M
namespace Go.Proofs.YtdkkdiiceaomaaaGreat.M
open Go.Proofs.Tryz Go.RowKit Go.Proofs.YtdkkdiiceaomaaaGreatW.PrintWords Go.Proofs.YtdkkdiiceaomaaaGreatW.PrintLast Go.Proofs.YtdkkdiiceaomaaaGreatW.PrintMore Kd
attribute [local go_sem] aas aaq aaH aaG aai aah aar aap
def ama (k:Nat) (ah:List Int) (av:Int):Option ((List S31) × Int):=(ab4 k ah av 2).bind fun ax=>(if ax.1=0 then ((akq k ah ax.2).bind fun az=>(some (az.1,az.2))) else ((amf k ah ax.2 2).bind fun ay=>((amD k ay.1).bind fun aA=>(if (aA.1.length:Int) > 40 then ((akq k ah ay.2).bind fun aB=>(some (aB.1,aB.2))) else ((ab4 k ah ay.2 3).bind fun aC=>((Saz.f k aA.1 (wrap64 (Int.tdiv aC.1 2))).bind fun aH=>(some (aH.1,aC.2))))))))
theorem adH (k g:Nat) (ah:List Int) (av:Int) (r1:List S31) (r2:Int) (w0 w:World) (hI:Sah w0 w g ah av) (hB:Below w0.heap.size w0 w) (h:ama k ah av=some (r1,r2)) :
  Calls prog 71 #[.pointer (some ⟨g,0,none⟩)] w fun e w'=>∃ bE:Value,e = .returned (bE)/\Kd.R k31 31 w' w.heap.size (fun _=>True) bE r1/\Sah w0 w' g ah r2/\Below w0.heap.size w0 w'/\aa7 w w' g none:=by
 have HI0:=aM hI;have HK:=aM (aaI w g none);have HL:=aM hB.size;clear hI;have HW0:=aM hB.size;have HB:=aM hB;clear hB;have H:=h;unfold ama at H;clear h;obtain⟨⟨aD,aj⟩,A2,H⟩:=qE H;try dsimp only at H
 replace H:=jE H;rcases H with ⟨aX,aY,H⟩ | ⟨c3,aX,aY,H⟩
 ·obtain⟨⟨aL,aN⟩,A4,H⟩:=qE H;try dsimp only at H
  obtain⟨rfl,rfl⟩:=oJ2 H;go_enter func71,ntmps71;go_wp2_with (first|((with_reducible refine jc 55 8 ?_);refine jK func55 (aab k g ah av 2 aD aj w0 _ (qI HI0) qB A2.out) ?_;rintro w5 ⟨hi,hb,hk⟩;replace HK:=kI hk;replace HB:=aM hb;replace HI0:=aM hi;clear hb hk hi)|((with_reducible refine jc 94 11 ?_);refine jM func94 (aix k g ah aj aL aN w0 _ (qI HI0) qB A4.out) ?_;rintro bF w6 ⟨ho0,hi,hb,hk⟩;have aI:=aM (R_lower ho0 kU);replace HK:=kI hk;replace HB:=aM hb;replace HI0:=aM hi;clear hb hk hi;(try clear ho0)));go_ret;exact⟨_,qW,qR aI,qI HI0,qB,qH⟩
 obtain⟨⟨ak,au⟩,A7,H⟩:=qE H;try dsimp only at H
 obtain⟨⟨ai,aG⟩,A8,H⟩:=qE H;try dsimp only at H
 by_cases c9:(ai.length:Int) > 40
 ·rw [if_pos c9] at H;have aZ:=decide_eq_true c9;have bg:decide (40 < ai.length)=true:=decide_eq_true (by omega);clear c9;obtain⟨⟨aO,aP⟩,bI,H⟩:=qE H;try dsimp only at H
  obtain⟨rfl,rfl⟩:=oJ2 H;go_enter func71,ntmps71;go_wp2_with (first|((with_reducible refine jc 55 8 ?_);refine jK func55 (aab k g ah av 2 aD aj w0 _ (qI HI0) qB A2.out) ?_;rintro bL ⟨hi,hb,hk⟩;replace HK:=kI hk;replace HB:=aM hb;replace HI0:=aM hi;clear hb hk hi)|((with_reducible refine jc 96 14 ?_);refine jM func96 (aiy k g ah aj 2 ak au w0 _ (qI HI0) qB A7.out) ?_;rintro aQ bM ⟨ho0,hi,hb,hk⟩;have aa:=aM (N_lower (N_mono (ok':=fun k_=>k_≠g) ho0 (fun k_ hk_=>(Sah.fresh (qI HI0) k_ hk_))) kU);replace HK:=kI hk;replace HB:=aM hb;replace HI0:=aM hi;clear hb hk hi;(try clear ho0);obtain⟨bi,bn,bq⟩:=N_slice aa.out;subst bq)|((with_reducible refine jc 95 15 ?_);refine jM func95 (aiF k _ _ ak ai aG _ (kC (N_reads' aa.out).2.2) (N_reads' aa.out).2.1 A8.out) ?_;rintro aR bN ⟨ho0,hb⟩;have ag:=aM (R_lower ho0 kU);replace aa:=aM (N_elder' (qN aa) (R_base ho0) hb);replace HI0:=aM (Sah.below (qI HI0) hb);replace HK:=kY hb;replace HB:=kH hb;clear hb;(try clear ho0);obtain⟨bu,bv,bz⟩:=R_slice ag.out;subst bz)|((with_reducible refine jc 94 22 ?_);refine jM func94 (aix k g ah au aO aP w0 _ (qI HI0) qB bI.out) ?_;rintro bG w16 ⟨ho0,hi,hb,hk⟩;have aJ:=aM (R_lower (R_new' ho0 (R_lt (qR ag))) kU);replace aa:=aM (N_mono (N_told (N_oldK (N_mono (ok:=fun k_=>(k_≠g/\some k_≠(.slice bu ai.length bv:Value).ownBlock)) (qN aa) (fun k_ hk_=>(⟨hk_,hk_.1⟩:_/\k_≠g))) hk) (R_base ho0)) (fun _ h_=>h_.1));replace ag:=aM (R_mono (R_told (R_oldK (Sah.apart (show Sah w0 _ g ah au from qI HI0) (qR ag) (by decide)) hk) (R_base ho0)) (fun _ h_=>h_.1));replace HK:=kI hk;replace HB:=aM hb;replace HI0:=aM hi;clear hb hk hi;(try clear ho0)));go_ret;exact⟨_,qW,by (with_reducible repeat (first|apply R_alloc|apply R_drewN|apply R_drew));exact R_mono aJ.out (fun _ hk=>trivial),qI HI0,qB,qH⟩
 rw [if_neg c9] at H;have aZ:=decide_eq_false c9;have bg:decide (40 < ai.length)=false:=decide_eq_false (by omega);clear c9;obtain⟨⟨aF,aS⟩,bJ,H⟩:=qE H;try dsimp only at H
 obtain⟨⟨aT,aU⟩,bK,H⟩:=qE H;try dsimp only at H
 obtain⟨rfl,rfl⟩:=oJ2 H;go_enter func71,ntmps71;go_wp2_with (first|((with_reducible refine jc 55 8 ?_);refine jK func55 (aab k g ah av 2 aD aj w0 _ (qI HI0) qB A2.out) ?_;rintro bO ⟨hi,hb,hk⟩;replace HK:=kI hk;replace HB:=aM hb;replace HI0:=aM hi;clear hb hk hi)|((with_reducible refine jc 96 14 ?_);refine jM func96 (aiy k g ah aj 2 ak au w0 _ (qI HI0) qB A7.out) ?_;rintro aQ bP ⟨ho0,hi,hb,hk⟩;have aa:=aM (N_lower (N_mono (ok':=fun k_=>k_≠g) ho0 (fun k_ hk_=>(Sah.fresh (qI HI0) k_ hk_))) kU);replace HK:=kI hk;replace HB:=aM hb;replace HI0:=aM hi;clear hb hk hi;(try clear ho0);obtain⟨bA,bB,bC⟩:=N_slice aa.out;subst bC)|((with_reducible refine jc 95 15 ?_);refine jM func95 (aiF k _ _ ak ai aG _ (kC (N_reads' aa.out).2.2) (N_reads' aa.out).2.1 A8.out) ?_;rintro aR bQ ⟨ho0,hb⟩;have ag:=aM (R_lower ho0 kU);replace aa:=aM (N_elder' (qN aa) (R_base ho0) hb);replace HI0:=aM (Sah.below (qI HI0) hb);replace HK:=kY hb;replace HB:=kH hb;clear hb;(try clear ho0);obtain⟨aV,aW,bD⟩:=R_slice ag.out;subst bD)|((with_reducible refine jc 55 26 ?_);refine jK func55 (aab k g ah au 3 aF aS w0 _ (qI HI0) qB bJ.out) ?_;rintro bR ⟨hi,hb,hk⟩;replace aa:=aM (N_mono (N_keep (N_mono (ok:=fun k_=>(k_≠g/\some k_≠(.slice aV ai.length aW:Value).ownBlock)) (qN aa) (fun k_ hk_=>(⟨hk_,hk_.1⟩:_/\k_≠g))) hk (fun _ h=>h.2)) (fun _ h=>h.1));replace ag:=aM (R_mono (R_keep (Sah.apart (show Sah w0 _ g ah au from qI HI0) (qR ag) (by decide)) hk (fun _ h=>h.2)) (fun _ h=>h.1));replace HK:=kI hk;replace HB:=aM hb;replace HI0:=aM hi;clear hb hk hi)|((with_reducible refine jc 97 28 ?_);refine jM func97 (Saz.calls k _ _ ai (wrap64 (Int.tdiv aF 2)) aT aU _ (kJ ag) (kp ag) bK.out) ?_;rintro bH bS ⟨ho0,hb⟩;have aK:=aM (R_lower (R_new' ho0 (R_lt (qR ag))) kU);replace aa:=aM (N_elder' (qN aa) (R_base ho0) hb);replace ag:=kO ag ho0 hb;replace HI0:=aM (Sah.below (qI HI0) hb);replace HK:=kY hb;replace HB:=kH hb;clear hb;(try clear ho0)));go_ret;exact⟨_,qW,by (with_reducible repeat (first|apply R_alloc|apply R_drewN|apply R_drew));exact R_mono aK.out (fun _ hk=>trivial),qI HI0,qB,qH⟩
def amb (k:Nat) (aj:List Int) (aA:Int):Option ((List S31) × Int):=(ama k aj aA).bind fun ah=>((ab4 k aj ah.2 36).bind fun ak=>(if ak.1=0 then (if 0 < (ah.1.length:Int) then (some ((ah.1.set (0:Int).toNat (⟨(aa0 ah.1 0).f0,12,(aa0 ah.1 0).f2,(aa0 ah.1 0).f3,(aa0 ah.1 0).f4⟩:S31)),ak.2)) else (none)) else (if ak.1=1 then (if ah.1.length < 3518437208883 then (some ((ah.1 ++ [(⟨9,0,0,0,0⟩:S31)]),ak.2)) else (none)) else (if ak.1=2 then (if 0 < (ah.1.length:Int) then (some ((ah.1.set (0:Int).toNat (⟨4,0,0,0,(ah.1.length:Int)⟩:S31)),ak.2)) else (none)) else (if ak.1=3 then (some ((([]:List S31)),ak.2)) else (some (ah.1,ak.2)))))))
theorem amc (k g:Nat) (aj:List Int) (aA:Int) (r1:List S31) (r2:Int) (w0 w:World) (hI:Sah w0 w g aj aA) (hB:Below w0.heap.size w0 w) (h:amb k aj aA=some (r1,r2)) :
  Calls prog 39 #[.pointer (some ⟨g,0,none⟩)] w fun e w'=>∃ dS:Value,e = .returned (dS)/\Kd.R k31 31 w' w.heap.size (fun _=>True) dS r1/\Sah w0 w' g aj r2/\Below w0.heap.size w0 w'/\aa7 w w' g none:=by
 have eG:=underlying31;have HI0:=aM hI;have HK:=aM (aaI w g none);have HL:=aM hB.size;clear hI;have HW0:=aM hB.size;have HB:=aM hB;clear hB;have H:=h;unfold amb at H;clear h;obtain⟨⟨ae,ai⟩,A2,H⟩:=qE H;try dsimp only at H
 obtain⟨⟨aC,aD⟩,A3,H⟩:=qE H;try dsimp only at H
 replace H:=jE H;rcases H with ⟨dG,dH,H⟩ | ⟨c4,dG,dH,H⟩
 ·replace H:=jU H;obtain⟨c5,H⟩:=H;have eH:=decide_eq_true c5;have eO:decide (0 < ae.length)=true:=decide_eq_true (by omega);clear c5;obtain⟨bZ,aH⟩:=ky ((ae.set (0:Int).toNat (⟨(aa0 ae 0).f0,12,(aa0 ae 0).f2,(aa0 ae 0).f3,(aa0 ae 0).f4⟩:S31)):List S31);replace H:=kv aH H;obtain⟨rfl,rfl⟩:=oJ2 H;go_enter func39,ntmps39;go_wp2_with (first|((with_reducible refine jc 71 5 ?_);refine jM func71 (adH k g aj aA ae ai w0 _ (qI HI0) qB A2.out) ?_;rintro aG w7 ⟨ho0,hi,hb,hk⟩;have aa:=aM (R_lower ho0 kU);replace HK:=kI hk;replace HB:=aM hb;replace HI0:=aM hi;clear hb hk hi;(try clear ho0))|((with_reducible refine jc 55 7 ?_);refine jK func55 (aab k g aj ai 36 aC aD w0 _ (qI HI0) qB A3.out) ?_;rintro w8 ⟨hi,hb,hk⟩;replace aa:=aM (R_mono (R_keep (Sah.apart (show Sah w0 _ g aj ai from qI HI0) (qR aa) (by decide)) hk (fun _ h=>h.2)) (fun _ h=>h.1));replace HK:=kI hk;replace HB:=aM hb;replace HI0:=aM hi;clear hb hk hi;have p6:0<=(0:Int):=(by omega);have q6:(0:Int) < ((ae.length:Int):Int):=qD;have fq:(0 < ae.length)=True:=eq_true (by omega);obtain⟨aZ,dU,dV,dW,eP,fu,dX⟩:=R_form aa.out (by omega);(first|cases dV|(injection dV with ea_ en_ ec_;(first|subst ea_|(injection ea_ with ea_;subst ea_));subst ec_;clear en_));have eQ:=aM dW;have fw:=aM dX;clear dW eP dX;obtain⟨fA,dI,dY,bg,bi⟩:=R_elem aa.out z31 (0:Int) p6 q6;obtain rfl:=adz dY;have bK:w8.cell? ⟨aZ,(0:Int).toNat*5,none⟩=some (iV ((aa0 ae 0).f0)):=bg 0 _ rfl;have bL:w8.cell? ⟨aZ,(0:Int).toNat*5+1,none⟩=some (iV ((aa0 ae 0).f1)):=bg 1 _ rfl;have bM:w8.cell? ⟨aZ,(0:Int).toNat*5+2,none⟩=some (iV ((aa0 ae 0).f2)):=bg 2 _ rfl;have bN:w8.cell? ⟨aZ,(0:Int).toNat*5+3,none⟩=some (iV ((aa0 ae 0).f3)):=bg 3 _ rfl;have bO:w8.cell? ⟨aZ,(0:Int).toNat*5+4,none⟩=some (iV ((aa0 ae 0).f4)):=bg 4 _ rfl;have bP:w8.frozen? ⟨aZ,(0:Int).toNat*5,none⟩=false:=bi 0;have bQ:w8.frozen? ⟨aZ,(0:Int).toNat*5+1,none⟩=false:=bi 1;have bR:w8.frozen? ⟨aZ,(0:Int).toNat*5+2,none⟩=false:=bi 2;have bS:w8.frozen? ⟨aZ,(0:Int).toNat*5+3,none⟩=false:=bi 3;have bT:w8.frozen? ⟨aZ,(0:Int).toNat*5+4,none⟩=false:=bi 4;clear dI bg bi dY;(try rw [show ((0:Int)).toNat=0 from rfl] at bK);(try simp only [Nat.reduceMul,Nat.zero_mul,Nat.zero_add,Nat.reduceAdd] at bK);(try rw [show ((0:Int)).toNat=0 from rfl] at bP);(try simp only [Nat.reduceMul,Nat.zero_mul,Nat.zero_add,Nat.reduceAdd] at bP);(try rw [show ((0:Int)).toNat=0 from rfl] at bL);(try simp only [Nat.reduceMul,Nat.zero_mul,Nat.zero_add,Nat.reduceAdd] at bL);(try rw [show ((0:Int)).toNat=0 from rfl] at bQ);(try simp only [Nat.reduceMul,Nat.zero_mul,Nat.zero_add,Nat.reduceAdd] at bQ);(try rw [show ((0:Int)).toNat=0 from rfl] at bM);(try simp only [Nat.reduceMul,Nat.zero_mul,Nat.zero_add,Nat.reduceAdd] at bM);(try rw [show ((0:Int)).toNat=0 from rfl] at bR);(try simp only [Nat.reduceMul,Nat.zero_mul,Nat.zero_add,Nat.reduceAdd] at bR);(try rw [show ((0:Int)).toNat=0 from rfl] at bN);(try simp only [Nat.reduceMul,Nat.zero_mul,Nat.zero_add,Nat.reduceAdd] at bN);(try rw [show ((0:Int)).toNat=0 from rfl] at bS);(try simp only [Nat.reduceMul,Nat.zero_mul,Nat.zero_add,Nat.reduceAdd] at bS);(try rw [show ((0:Int)).toNat=0 from rfl] at bO);(try simp only [Nat.reduceMul,Nat.zero_mul,Nat.zero_add,Nat.reduceAdd] at bO);(try rw [show ((0:Int)).toNat=0 from rfl] at bT);(try simp only [Nat.reduceMul,Nat.zero_mul,Nat.zero_add,Nat.reduceAdd] at bT);replace p6:=eq_true p6;replace q6:=eq_true q6;have dZ:=aM (show Kd.R k31 31 w8 w.heap.size (fun _=>True) (.slice (some ⟨aZ,0,none⟩) ae.length dU) ae from (qR aa));obtain⟨fB,cu,d9,bV,cz⟩:=R_elem dZ.out z31 (0:Int) (by omega) (by have h_:(0:Int) < ((ae.length:Int):Int):=qD;first|exact h_|(have e_:=(R_reads' aa.out).1;omega)|simpa using h_);obtain rfl:=adz d9;have dJ:=R_seg dZ.out (0:Int) (by omega) (by have h_:(0:Int) < ((ae.length:Int):Int):=qD;first|exact h_|(have e_:=(R_reads' aa.out).1;omega)|simpa using h_) (seg:=[iV 12]) (j:=1) cu bV (show 2<=5 from by decide) (x':=(⟨(aa0 ae 0).f0,12,(aa0 ae 0).f2,(aa0 ae 0).f3,(aa0 ae 0).f4⟩:S31)) (aaX _ _ _ (⟨(aa0 ae 0).f0,12,(aa0 ae 0).f2,(aa0 ae 0).f3,(aa0 ae 0).f4⟩:S31) ) (fun _ hk=>hk);have bu:=bV 1 _ rfl;(try simp only [show (k31).sz=5 from rfl,Nat.mul_one,Nat.add_zero] at bu);(try rw [show ((0:Int)).toNat=0 from rfl] at bu);(try simp only [Nat.reduceMul,Nat.zero_mul,Nat.zero_add,Nat.reduceAdd] at bu);have bv:=cz 1;(try simp only [show (k31).sz=5 from rfl,Nat.mul_one,Nat.add_zero] at bv);(try rw [show ((0:Int)).toNat=0 from rfl] at bv);(try simp only [Nat.reduceMul,Nat.zero_mul,Nat.zero_add,Nat.reduceAdd] at bv);clear cu bV cz d9)|((with_reducible refine aaC (t:=3) (p:=12) rfl ?_);refine aax (t:=3) (p:=12) (v:=?dK) (w1:=(w8.setCell ⟨aZ,1,none⟩ (iV 12))) ?hg ?ho ?hn ?hr ?_;(case ho=>rfl);(case hg=>rfl);(case hn=>rfl);(case hr=>first|(go_simp;done)|(go_simp;rfl));intro dL hw;have hg:w8.grownBy dL (some aZ):=(by rw [hw];exact dJ.2);have hp_:Kd.R k31 31 dL w.heap.size (fun _=>True) (.slice (some ⟨aZ,0,none⟩) ae.length dU) bZ:=(by rw [hw,aH.out];exact dJ.1);clear dJ;replace HI0:=aM (Sah.grown (qI HI0) hg (acm HI0.out aa.out (by decide)));replace HB:=aM ((by rw [hw];exact aag (HB.out) (Nat.le_trans HL.out eQ.out):Below w0.heap.size w0 dL));replace HK:=aM (aa7.trans qH (aaT hg g) (R_base2 aa.out));replace aa:=aM hp_;clear hg hw hp_));go_ret;exact⟨_,qW,qR aa,qI HI0,qB,qH⟩
 replace H:=jE H;rcases H with ⟨cB,cK,H⟩ | ⟨c11,cB,cK,H⟩
 ·replace H:=jL H;obtain⟨cO,H⟩:=H;obtain⟨ed,aI⟩:=ky ((ae ++ [(⟨9,0,0,0,0⟩:S31)]):List S31);replace H:=kv aI H;obtain⟨rfl,rfl⟩:=oJ2 H;go_enter func39,ntmps39;go_wp2_with (first|((with_reducible refine jc 71 5 ?_);refine jM func71 (adH k g aj aA ae ai w0 _ (qI HI0) qB A2.out) ?_;rintro aG fC ⟨ho0,hi,hb,hk⟩;have aa:=aM (R_lower ho0 kU);replace HK:=kI hk;replace HB:=aM hb;replace HI0:=aM hi;clear hb hk hi;(try clear ho0))|((with_reducible refine jc 55 7 ?_);refine jK func55 (aab k g aj ai 36 aC aD w0 _ (qI HI0) qB A3.out) ?_;rintro fD ⟨hi,hb,hk⟩;replace aa:=aM (R_mono (R_keep (Sah.apart (show Sah w0 _ g aj ai from qI HI0) (qR aa) (by decide)) hk (fun _ h=>h.2)) (fun _ h=>h.1));replace HK:=kI hk;replace HB:=aM hb;replace HI0:=aM hi;clear hb hk hi)|((with_reducible refine aa9 (b:=.append) (xs:=#[.tmp 15,.tmp 17]) rfl ?_);at_builtin;refine R_append k31 w.heap.size rfl (.tmp 15) (.tmp 17) 23 31 (.agg #[(iV 0),(iV 0),(iV 0),(iV 0),(iV 0)]) 40 rfl underlying23 abd rfl (by decide) (by omega) aG ae (⟨9,0,0,0,0⟩:S31) [iV 9,iV 0,iV 0,iV 0,iV 0] (fun _=>True) (fun _=>False) rfl rfl ?aP (fun _ hk=>hk.elim) ?aF ?aO (Below.refl _ _) ?aS ?aL ?_;(case aP=>exact aaX _ _ _ (⟨9,0,0,0,0⟩:S31));(case aF=>exact (fun _ _=>trivial));(case aO=>exact (qR aa));(case aS=>exact kU);(case aL=>have:=cO.out;omega);intro ek fE ho hb hg hat;rw [<- aI.out] at ho;have bW:=aM ho;replace HI0:=aM (Sah.grown (qI HI0) hg (acm HI0.out aa.out (by decide)));replace HB:=aM (abQ qB HL.out hb);replace HK:=aM (aa7.trans qH (aaT hg g) (R_base2 aa.out));clear aa;clear ho hb hg hat));go_ret;exact⟨_,qW,qR bW,qI HI0,qB,qH⟩
 replace H:=jE H;rcases H with ⟨df,dh,H⟩ | ⟨c16,df,dh,H⟩
 ·replace H:=jU H;obtain⟨c17,H⟩:=H;have eu:=decide_eq_true c17;have eB:decide (0 < ae.length)=true:=decide_eq_true (by omega);clear c17;obtain⟨di,aJ⟩:=ky ((ae.set (0:Int).toNat (⟨4,0,0,0,(ae.length:Int)⟩:S31)):List S31);replace H:=kv aJ H;obtain⟨rfl,rfl⟩:=oJ2 H;go_enter func39,ntmps39;go_wp2_with (first|((with_reducible refine jc 71 5 ?_);refine jM func71 (adH k g aj aA ae ai w0 _ (qI HI0) qB A2.out) ?_;rintro aG fF ⟨ho0,hi,hb,hk⟩;have aa:=aM (R_lower ho0 kU);replace HK:=kI hk;replace HB:=aM hb;replace HI0:=aM hi;clear hb hk hi;(try clear ho0))|((with_reducible refine jc 55 7 ?_);refine jK func55 (aab k g aj ai 36 aC aD w0 _ (qI HI0) qB A3.out) ?_;rintro bn ⟨hi,hb,hk⟩;replace aa:=aM (R_mono (R_keep (Sah.apart (show Sah w0 _ g aj ai from qI HI0) (qR aa) (by decide)) hk (fun _ h=>h.2)) (fun _ h=>h.1));replace HK:=kI hk;replace HB:=aM hb;replace HI0:=aM hi;clear hb hk hi;obtain⟨eT,dn,dM⟩:=R_slice aa.out;subst dM;have dN:0<=(0:Int):=(by omega);have dO:(0:Int) < ((ae.length:Int):Int):=qD;have eU:(0 < ae.length)=True:=eq_true (by omega);obtain⟨au,eX,dw,dx,dP,eY,dz⟩:=R_form aa.out (by omega);(first|cases dw|(injection dw with ea_ en_ ec_;(first|subst ea_|(injection ea_ with ea_;subst ea_));subst ec_;clear en_));have bz:=aM dx;have eZ:=aM dz;clear dx dP dz;obtain⟨fe,dA,dB,ax,ay⟩:=R_elem aa.out z31 (0:Int) dN dO;obtain rfl:=adz dB;have bA:bn.cell? ⟨au,(0:Int).toNat*5,none⟩=some (iV ((aa0 ae 0).f0)):=ax 0 _ rfl;have bB:bn.cell? ⟨au,(0:Int).toNat*5+1,none⟩=some (iV ((aa0 ae 0).f1)):=ax 1 _ rfl;have bC:bn.cell? ⟨au,(0:Int).toNat*5+2,none⟩=some (iV ((aa0 ae 0).f2)):=ax 2 _ rfl;have bD:bn.cell? ⟨au,(0:Int).toNat*5+3,none⟩=some (iV ((aa0 ae 0).f3)):=ax 3 _ rfl;have bE:bn.cell? ⟨au,(0:Int).toNat*5+4,none⟩=some (iV ((aa0 ae 0).f4)):=ax 4 _ rfl;have bF:bn.frozen? ⟨au,(0:Int).toNat*5,none⟩=false:=ay 0;have bG:bn.frozen? ⟨au,(0:Int).toNat*5+1,none⟩=false:=ay 1;have bH:bn.frozen? ⟨au,(0:Int).toNat*5+2,none⟩=false:=ay 2;have bI:bn.frozen? ⟨au,(0:Int).toNat*5+3,none⟩=false:=ay 3;have bJ:bn.frozen? ⟨au,(0:Int).toNat*5+4,none⟩=false:=ay 4;clear dA ax ay dB;(try rw [show ((0:Int)).toNat=0 from rfl] at bA);(try simp only [Nat.reduceMul,Nat.zero_mul,Nat.zero_add,Nat.reduceAdd] at bA);(try rw [show ((0:Int)).toNat=0 from rfl] at bF);(try simp only [Nat.reduceMul,Nat.zero_mul,Nat.zero_add,Nat.reduceAdd] at bF);(try rw [show ((0:Int)).toNat=0 from rfl] at bB);(try simp only [Nat.reduceMul,Nat.zero_mul,Nat.zero_add,Nat.reduceAdd] at bB);(try rw [show ((0:Int)).toNat=0 from rfl] at bG);(try simp only [Nat.reduceMul,Nat.zero_mul,Nat.zero_add,Nat.reduceAdd] at bG);(try rw [show ((0:Int)).toNat=0 from rfl] at bC);(try simp only [Nat.reduceMul,Nat.zero_mul,Nat.zero_add,Nat.reduceAdd] at bC);(try rw [show ((0:Int)).toNat=0 from rfl] at bH);(try simp only [Nat.reduceMul,Nat.zero_mul,Nat.zero_add,Nat.reduceAdd] at bH);(try rw [show ((0:Int)).toNat=0 from rfl] at bD);(try simp only [Nat.reduceMul,Nat.zero_mul,Nat.zero_add,Nat.reduceAdd] at bD);(try rw [show ((0:Int)).toNat=0 from rfl] at bI);(try simp only [Nat.reduceMul,Nat.zero_mul,Nat.zero_add,Nat.reduceAdd] at bI);(try rw [show ((0:Int)).toNat=0 from rfl] at bE);(try simp only [Nat.reduceMul,Nat.zero_mul,Nat.zero_add,Nat.reduceAdd] at bE);(try rw [show ((0:Int)).toNat=0 from rfl] at bJ);(try simp only [Nat.reduceMul,Nat.zero_mul,Nat.zero_add,Nat.reduceAdd] at bJ);replace dN:=eq_true dN;replace dO:=eq_true dO;have dC:=aM (show Kd.R k31 31 bn w.heap.size (fun _=>True) (.slice (some ⟨au,0,none⟩) ae.length dn) ae from (qR aa));obtain⟨fo,bU,dD,av,az⟩:=R_elem dC.out z31 (0:Int) (by omega) (by have h_:(0:Int) < ((ae.length:Int):Int):=qD;first|exact h_|(have e_:=(R_reads' aa.out).1;omega)|simpa using h_);obtain rfl:=adz dD;have bX:=R_seg dC.out (0:Int) (by omega) (by have h_:(0:Int) < ((ae.length:Int):Int):=qD;first|exact h_|(have e_:=(R_reads' aa.out).1;omega)|simpa using h_) (seg:=[iV 4,iV 0,iV 0,iV 0,iV (ae.length:Int)]) (j:=0) bU av (show 5<=5 from by decide) (x':=(⟨4,0,0,0,(ae.length:Int)⟩:S31)) (aaX _ _ _ (⟨4,0,0,0,(ae.length:Int)⟩:S31) ) (fun _ hk=>hk);have aK:=av 0 _ rfl;(try simp only [show (k31).sz=5 from rfl,Nat.mul_one,Nat.add_zero] at aK);(try rw [show ((0:Int)).toNat=0 from rfl] at aK);(try simp only [Nat.reduceMul,Nat.zero_mul,Nat.zero_add,Nat.reduceAdd] at aK);have aN:=az 0;(try simp only [show (k31).sz=5 from rfl,Nat.mul_one,Nat.add_zero] at aN);(try rw [show ((0:Int)).toNat=0 from rfl] at aN);(try simp only [Nat.reduceMul,Nat.zero_mul,Nat.zero_add,Nat.reduceAdd] at aN);have aQ:=av 1 _ rfl;(try simp only [show (k31).sz=5 from rfl,Nat.mul_one,Nat.add_zero] at aQ);(try rw [show ((0:Int)).toNat=0 from rfl] at aQ);(try simp only [Nat.reduceMul,Nat.zero_mul,Nat.zero_add,Nat.reduceAdd] at aQ);have aR:=az 1;(try simp only [show (k31).sz=5 from rfl,Nat.mul_one,Nat.add_zero] at aR);(try rw [show ((0:Int)).toNat=0 from rfl] at aR);(try simp only [Nat.reduceMul,Nat.zero_mul,Nat.zero_add,Nat.reduceAdd] at aR);have aT:=av 2 _ rfl;(try simp only [show (k31).sz=5 from rfl,Nat.mul_one,Nat.add_zero] at aT);(try rw [show ((0:Int)).toNat=0 from rfl] at aT);(try simp only [Nat.reduceMul,Nat.zero_mul,Nat.zero_add,Nat.reduceAdd] at aT);have aU:=az 2;(try simp only [show (k31).sz=5 from rfl,Nat.mul_one,Nat.add_zero] at aU);(try rw [show ((0:Int)).toNat=0 from rfl] at aU);(try simp only [Nat.reduceMul,Nat.zero_mul,Nat.zero_add,Nat.reduceAdd] at aU);have aV:=av 3 _ rfl;(try simp only [show (k31).sz=5 from rfl,Nat.mul_one,Nat.add_zero] at aV);(try rw [show ((0:Int)).toNat=0 from rfl] at aV);(try simp only [Nat.reduceMul,Nat.zero_mul,Nat.zero_add,Nat.reduceAdd] at aV);have aW:=az 3;(try simp only [show (k31).sz=5 from rfl,Nat.mul_one,Nat.add_zero] at aW);(try rw [show ((0:Int)).toNat=0 from rfl] at aW);(try simp only [Nat.reduceMul,Nat.zero_mul,Nat.zero_add,Nat.reduceAdd] at aW);have aX:=av 4 _ rfl;(try simp only [show (k31).sz=5 from rfl,Nat.mul_one,Nat.add_zero] at aX);(try rw [show ((0:Int)).toNat=0 from rfl] at aX);(try simp only [Nat.reduceMul,Nat.zero_mul,Nat.zero_add,Nat.reduceAdd] at aX);have aY:=az 4;(try simp only [show (k31).sz=5 from rfl,Nat.mul_one,Nat.add_zero] at aY);(try rw [show ((0:Int)).toNat=0 from rfl] at aY);(try simp only [Nat.reduceMul,Nat.zero_mul,Nat.zero_add,Nat.reduceAdd] at aY);clear bU av az dD)|((with_reducible refine aaC (t:=31) (p:=25) rfl ?_);refine aax (t:=31) (p:=25) (v:=?dQ) (w1:=(((((bn.setCell ⟨au,0,none⟩ (iV 4)).setCell ⟨au,1,none⟩ (iV 0)).setCell ⟨au,2,none⟩ (iV 0)).setCell ⟨au,3,none⟩ (iV 0)).setCell ⟨au,4,none⟩ (iV (ae.length:Int)))) ?hg ?ho ?hn ?hr ?_;(case ho=>rfl);(case hg=>rfl);(case hn=>rfl);(case hr=>first|(go_simp;done)|(go_simp;rfl));intro dR hw;have hg:bn.grownBy dR (some au):=(by rw [hw];exact bX.2);have hp_:Kd.R k31 31 dR w.heap.size (fun _=>True) (.slice (some ⟨au,0,none⟩) ae.length dn) di:=(by rw [hw,aJ.out];exact bX.1);clear bX;replace HI0:=aM (Sah.grown (qI HI0) hg (acm HI0.out aa.out (by decide)));replace HB:=aM ((by rw [hw];exact aag (aag (aag (aag (aag (HB.out) (Nat.le_trans HL.out bz.out)) (Nat.le_trans HL.out bz.out)) (Nat.le_trans HL.out bz.out)) (Nat.le_trans HL.out bz.out)) (Nat.le_trans HL.out bz.out):Below w0.heap.size w0 dR));replace HK:=aM (aa7.trans qH (aaT hg g) (R_base2 aa.out));replace aa:=aM hp_;clear hg hw hp_));go_ret;exact⟨_,qW,qR aa,qI HI0,qB,qH⟩
 replace H:=jE H;rcases H with ⟨dE,dF,H⟩ | ⟨c24,dE,dF,H⟩
 ·obtain⟨eD,aB⟩:=ky ([]:List S31);replace H:=kv aB H;obtain⟨rfl,rfl⟩:=oJ2 H;go_enter func39,ntmps39;go_wp2_with (first|((with_reducible refine jc 71 5 ?_);refine jM func71 (adH k g aj aA ae ai w0 _ (qI HI0) qB A2.out) ?_;rintro aG fG ⟨ho0,hi,hb,hk⟩;have aa:=aM (R_lower ho0 kU);replace HK:=kI hk;replace HB:=aM hb;replace HI0:=aM hi;clear hb hk hi;(try clear ho0))|((with_reducible refine jc 55 7 ?_);refine jK func55 (aab k g aj ai 36 aC aD w0 _ (qI HI0) qB A3.out) ?_;rintro fH ⟨hi,hb,hk⟩;replace aa:=aM (R_mono (R_keep (Sah.apart (show Sah w0 _ g aj ai from qI HI0) (qR aa) (by decide)) hk (fun _ h=>h.2)) (fun _ h=>h.1));replace HK:=kI hk;replace HB:=aM hb;replace HI0:=aM hi;clear hb hk hi)|((with_reducible refine jd 28 ?_);refine jV k31 31 ([]:List S31) [] (aa8 _ _) ?_;intro eF fI bq hb;replace bq:=kr aB bq;have bY:=aM (R_lower (R_new' bq (R_lt (qR aa))) kU);replace aa:=kO aa bq hb;replace HI0:=aM (Sah.below (qI HI0) hb);replace HK:=kY hb;replace HB:=kH hb;clear hb bq));go_ret;exact⟨_,qW,by (with_reducible repeat (first|apply R_alloc|apply R_drewN|apply R_drew));exact R_mono bY.out (fun _ hk=>trivial),qI HI0,qB,qH⟩
 obtain⟨rfl,rfl⟩:=oJ2 H;go_enter func39,ntmps39;go_wp2_with (first|((with_reducible refine jc 71 5 ?_);refine jM func71 (adH k g aj aA ae ai w0 _ (qI HI0) qB A2.out) ?_;rintro aG fJ ⟨ho0,hi,hb,hk⟩;have aa:=aM (R_lower ho0 kU);replace HK:=kI hk;replace HB:=aM hb;replace HI0:=aM hi;clear hb hk hi;(try clear ho0))|((with_reducible refine jc 55 7 ?_);refine jK func55 (aab k g aj ai 36 aC aD w0 _ (qI HI0) qB A3.out) ?_;rintro fK ⟨hi,hb,hk⟩;replace aa:=aM (R_mono (R_keep (Sah.apart (show Sah w0 _ g aj ai from qI HI0) (qR aa) (by decide)) hk (fun _ h=>h.2)) (fun _ h=>h.1));replace HK:=kI hk;replace HB:=aM hb;replace HI0:=aM hi;clear hb hk hi));go_ret;exact⟨_,qW,qR aa,qI HI0,qB,qH⟩
end Go.Proofs.YtdkkdiiceaomaaaGreat.M
namespace Go.Proofs.YtdkkdiiceaomaaaGreat.M
open Go.Proofs.Tryz Go.RowKit Go.Proofs.YtdkkdiiceaomaaaGreatW.PrintWords Go.Proofs.YtdkkdiiceaomaaaGreatW.PrintLast Go.Proofs.YtdkkdiiceaomaaaGreatW.PrintMore
attribute [local go_sem] aas aaq aaH aaG aai aah aar aap
def alQ (l0:List Int):Option (List Int × Int):=if (l0.length:Int) > 2000 then (if 2000<=(l0.length:Int) then (some (l0.take 2000,0)) else (none)) else (some (l0,0))
theorem alR (A0:Option Addr) (c0:Nat) (l0 r1:List Int) (r2:Int) (w0 w:World) (hB:Below w0.heap.size w0 w) (hr0:Kd.C (Kd.int .u8) w0 A0 l0.length l0) (hc0:l0.length<=c0) (h:alQ l0=some (r1,r2)) :
  Calls prog 40 #[.slice A0 l0.length c0] w fun e w'=>∃ g_:Nat,e = .returned (.pointer (some ⟨g_,0,none⟩))/\Sah w0 w' g_ r1 r2/\Below w0.heap.size w0 w'/\Below w.heap.size w w':=by
 have aG:=underlying88;have aB:=aM hr0;have aH:=aM hc0;clear hr0 hc0;have HBW:=jb_ w;have HW0:=aM hB.size;have HB:=aM hB;clear hB;have H:=h;unfold alQ at H;clear h;by_cases c2:(l0.length:Int) > 2000
 ·rw [if_pos c2] at H;have ay:=decide_eq_true c2;have az:decide (2000 < l0.length)=true:=decide_eq_true (by omega);clear c2;replace H:=jJ H;obtain⟨aI,aJ,H⟩:=H;obtain⟨rfl,rfl⟩:=oJ2 H;obtain⟨i04,av,_,ax,_⟩:=info_parts aru;obtain⟨aC,aD,aF⟩:=ahx (P:=prog) (Value.int .u8) 0 22 5 .i64 underlying22 av ax A0 c0 l0 2000 (by omega) (qD) aH.out;have af:=aM (Kd.C_of_reads (h1:=fun _=>rfl) (aD _ (Kd.reads_of_C aB.out)));have aA:=aM aF;clear aD aF av ax;go_enter func40,ntmps40;go_wp2_with (first|((with_reducible refine jd 10 ?_);refine aga ?hg (N:=10) ?hd (cs:=#[.slice A0 (l0.take 2000).length c0,iV 0]) (t:=88) ?hr ?_;(case hd=>rfl);(case hg=>rfl);(case hr=>first|(go_simp;done)|(go_simp;rfl));intro aa hg w5 hbox hb;have ag:=aM hbox;have ah:=aM ((by rw [hg];exact (aa4 (by repeat (first|(with_reducible first|exact HBW.out|apply aaz|apply aal|apply aad)|exact HBW.out))):w.heap.size<=aa));have ai:=aM ((Nat.le_trans HW0.out (by rw [hg];exact (aa4 (by repeat (first|(with_reducible first|exact HBW.out|apply aaz|apply aal|apply aad)|exact HBW.out))):w.heap.size<=aa):w0.heap.size<=aa));replace HBW:=aM (aaD HBW.out hb);replace HB:=kH hb;clear hb hbox hg));go_ret;exact⟨_,rfl,(show Sah w0 _ aa (l0.take 2000) 0 from ⟨_,_,qK ag,ai.out,af.out⟩),qB,by repeat (first|(with_reducible first|exact HBW.out|apply aaz|apply aal|apply aad|refine aag ?_ ah.out)|exact HBW.out)⟩
 rw [if_neg c2] at H;have ay:=decide_eq_false c2;have az:decide (2000 < l0.length)=false:=decide_eq_false (by omega);clear c2;obtain⟨rfl,rfl⟩:=oJ2 H;go_enter func40,ntmps40;go_wp2_with (first|((with_reducible refine jd 10 ?_);refine jY _ 88 ?_;intro ae hg w6 aj hb;have ak:=aM ((by rw [hg];exact (aa4 (by repeat (first|(with_reducible first|exact HBW.out|apply aaz|apply aal|apply aad)|exact HBW.out))):w.heap.size<=ae));have au:=aM ((Nat.le_trans HW0.out (by rw [hg];exact (aa4 (by repeat (first|(with_reducible first|exact HBW.out|apply aaz|apply aal|apply aad)|exact HBW.out))):w.heap.size<=ae):w0.heap.size<=ae));replace HBW:=aM (aaD HBW.out hb);replace HB:=kH hb;clear hb hg));go_ret;exact⟨_,rfl,(show Sah w0 _ ae l0 0 from ⟨_,_,qK aj,au.out,aB.out⟩),qB,by repeat (first|(with_reducible first|exact HBW.out|apply aaz|apply aal|apply aad|refine aag ?_ ak.out)|exact HBW.out)⟩
def amB (k:Nat) (l0:List Int):Option ((List S31)):=(alQ l0).bind fun aa=>((amb k aa.1 aa.2).bind fun ak=>(some ak.1))
theorem agl (k:Nat) (A0:Option Addr) (c0:Nat) (l0:List Int) (r:List S31) (w:World) (hr0:Kd.C (Kd.int .u8) w A0 l0.length l0) (hc0:l0.length<=c0) (h:amB k l0=some r) :
  Calls prog 13 #[.slice A0 l0.length c0] w fun e w'=>∃ az:Value,e = .returned (az)/\Kd.R k31 31 w' w.heap.size (fun _=>True) az r/\Below w.heap.size w w':=by
 have aB:=aM hr0;have aC:=aM hc0;clear hr0 hc0;have HB:=jb_ w;have H:=h;unfold amB at H;clear h;obtain⟨⟨ah,ai⟩,A2,H⟩:=qE H;try dsimp only at H
 obtain⟨⟨av,ax⟩,A3,H⟩:=qE H;try dsimp only at H
 obtain rfl:=oJ H;go_enter func13,ntmps13;go_wp2_with (first|((with_reducible refine jc 40 4 ?_);refine jM func40 (alR _ _ l0 ah ai w _ qB aB.out aC.out A2.out) ?_;rintro aj w4 ⟨hi,hb,hb2⟩;have ag:=aM hi;replace HB:=aM hb;(try clear hb);(try clear hb2);(try clear hi))|((with_reducible refine jc 39 5 ?_);refine jM func39 (amc k aj ah ai av ax w _ (qI ag) qB A3.out) ?_;rintro aA w5 ⟨ho0,hi,hb,hk⟩;have au:=kL ho0;replace HB:=aM hb;replace ag:=aM hi;(try clear hb);(try clear hk);(try clear hi);(try clear ho0)));go_ret;exact⟨_,qW,qR au,qB⟩
attribute [local go_sem high] aq9
def afk:Nat->List S31->List S31->Int->Option (Bool)
 | 0,_,_,_=>none
 | k+1,x0,x1,x5=>if x5 < (x0.length:Int) then (if 0<=x5 then (if x5 < (x1.length:Int) then (if (!(((aa0 x0 x5).f0) == ((aa0 x1 x5).f0)) || (!(((aa0 x0 x5).f1) == ((aa0 x1 x5).f1)) || (!(((aa0 x0 x5).f2) == ((aa0 x1 x5).f2)) || (!(((aa0 x0 x5).f3) == ((aa0 x1 x5).f3)) || (!(((aa0 x0 x5).f4) == ((aa0 x1 x5).f4)))))))=true then (some false) else (afk k x0 x1 (wrap64 (x5+1)))) else (none)) else (none)) else (some true)
def SbO.f (k:Nat) (l0 l1:List S31):Option (Bool):=if (l0.length:Int)=(l1.length:Int) then (afk k l0 l1 0) else (some false)
theorem SbO.calls (k:Nat) (A0:Option Addr) (c0:Nat) (l0:List S31) (A1:Option Addr) (c1:Nat) (l1:List S31) (r:Bool) (w:World) (hr0:Kd.C k31 w A0 l0.length l0) (hc0:l0.length<=c0) (hr1:Kd.C k31 w A1 l1.length l1) (hc1:l1.length<=c1) (h:SbO.f k l0 l1=some r) :
  Calls prog 16 #[.slice A0 l0.length c0,.slice A1 l1.length c1] w fun e w'=>e = .returned (.bool r)/\aaw w w':=by
 have aQ:=underlying31;have aN:=aM hr0;have aT:=aM hc0;clear hr0 hc0;have HR1:=aM hr1;have aU:=aM hc1;clear hr1 hc1;have H:=h;unfold SbO.f at H;clear h;by_cases c3:(l0.length:Int)=(l1.length:Int)
 ·rw [if_pos c3] at H;have aC:((l0.length:Int) == (l1.length:Int))=true:=beq_iff_eq.mpr c3;have aD:((l0.length:Int) != (l1.length:Int))=false:=bne_eq_false_iff_eq.mpr c3;have aF:(l0.length == l1.length)=true:=by first|simpa using c3|(simp at c3 ⊢;omega)
  clear c3;have H':=aM H;clear H;go_enter func16,ntmps16;go_wp2;repeat (go_quiet (fail);try go_wp2)
  go_loopg [5] k (fun kq v5 w'=>∃ (aa:Int),v5 = iV aa/\aa1 (afk kq l0 l1 aa=some r)/\aa1 (kq<=k)/\aaw w w');case atStart=>exact⟨(0),qZ,H',⟨Nat.le_refl _⟩,by repeat (first|exact aaP _|apply aaw.step)⟩
  clear H';try clear c1;try clear c3;try clear aC;try clear aD;try clear aF
  obtain⟨aa,rfl,HA,aO,⟨m1,rfl⟩⟩:=hrel;rcases gk with _|k1
  ·exact absurd HA.out (by simp [afk])
  have H:=HA.out;clear HA;simp only [afk] at H;replace H:=jD H;rcases H with ⟨aK,H⟩ | ⟨aK,H⟩
  ·replace H:=jI H;obtain⟨aR,H⟩:=H;replace H:=jI H;obtain⟨aS,H⟩:=H;by_cases c7:(!(((aa0 l0 aa).f0) == ((aa0 l1 aa).f0)) || (!(((aa0 l0 aa).f1) == ((aa0 l1 aa).f1)) || (!(((aa0 l0 aa).f2) == ((aa0 l1 aa).f2)) || (!(((aa0 l0 aa).f3) == ((aa0 l1 aa).f3)) || (!(((aa0 l0 aa).f4) == ((aa0 l1 aa).f4)))))))=true
   ·rw [if_pos c7] at H;have aL:(!(((aa0 l0 aa).f0) == ((aa0 l1 aa).f0)) || (!(((aa0 l0 aa).f1) == ((aa0 l1 aa).f1)) || (!(((aa0 l0 aa).f2) == ((aa0 l1 aa).f2)) || (!(((aa0 l0 aa).f3) == ((aa0 l1 aa).f3)) || (!(((aa0 l0 aa).f4) == ((aa0 l1 aa).f4)))))))=true:=c7;clear c7;obtain rfl:=oJ H;obtain⟨aA,ae,af,ag,ah,ai,aj,aG,aH⟩:=an9 aN aa;cases ae;obtain⟨aB,ak,au,av,ax,ay,az,aI,aJ⟩:=an9 HR1 aa;cases ak;go_wp2;repeat (go_quiet (fail);try go_wp2)
    go_ret;exact⟨qZ,qU⟩
   rw [if_neg c7] at H;have aL:(!(((aa0 l0 aa).f0) == ((aa0 l1 aa).f0)) || (!(((aa0 l0 aa).f1) == ((aa0 l1 aa).f1)) || (!(((aa0 l0 aa).f2) == ((aa0 l1 aa).f2)) || (!(((aa0 l0 aa).f3) == ((aa0 l1 aa).f3)) || (!(((aa0 l0 aa).f4) == ((aa0 l1 aa).f4)))))))=false:=by simpa using c7
   clear c7;have H':=aM H;clear H;obtain⟨aA,ae,af,ag,ah,ai,aj,aG,aH⟩:=an9 aN aa;cases ae;obtain⟨aB,ak,au,av,ax,ay,az,aI,aJ⟩:=an9 HR1 aa;cases ak;go_wp2;repeat (go_quiet (fail);try go_wp2)
   go_roundg k1;case measure=>have:=aO.out;omega
   exact⟨(wrap64 (aa+1)),qZ,H',⟨by have:=aO.out;omega⟩,by repeat (first|exact aaP _|apply aaw.step)⟩
  obtain rfl:=oJ H;go_wp2;repeat (go_quiet (fail);try go_wp2)
  go_ret;exact⟨qZ,qU⟩
 rw [if_neg c3] at H;have aC:((l0.length:Int) == (l1.length:Int))=false:=beq_eq_false_iff_ne.mpr c3;have aD:((l0.length:Int) != (l1.length:Int))=true:=bne_iff_ne.mpr c3;have aF:(l0.length == l1.length)=false:=by first|simpa using c3|(simp at c3 ⊢;omega)
 obtain rfl:=oJ H;go_enter func16,ntmps16;go_wp2;repeat (go_quiet (fail);try go_wp2)
 go_ret;exact⟨qZ,qU⟩
end Go.Proofs.YtdkkdiiceaomaaaGreat.M
namespace Go.Proofs.YtdkkdiiceaomaaaGreat.M
open Go.Proofs.Tryz Go.RowKit Go.Proofs.YtdkkdiiceaomaaaGreatW.PrintWords Go.Proofs.YtdkkdiiceaomaaaGreatW.PrintLast Go.Proofs.YtdkkdiiceaomaaaGreatW.PrintMore Kd
attribute [local go_sem] aas aaq aaH aaG aai aah aar aap
attribute [local go_sem high] aq9
mutual
def afl:Nat->List S31->List S31->Bool->List S31->Bool->Bool->Option (Bool)
 | 0,_,_,_,_,_,_=>none
 | k+1,x3,x4,x5,x6,x7,eH=>if eH=true then (if (x5 == x7)=true then ((SbO.f k x4 x6).bind fun bz=>(some bz)) else (some false)) else (adG k x3 x4 0)
def adG:Nat->List S31->List S31->Int->Option (Bool)
 | 0,_,_,_=>none
 | k+1,x3,x4,x8=>if x8 < (x3.length:Int) then (if 0<=x8 then (if ((aa0 x3 x8).f0)=2 then (adG k x3 x4 (wrap64 (x8+1))) else (if ((aa0 x3 x8).f0)=3 then (adG k x3 x4 (wrap64 (x8+1))) else (if (((aa0 x3 x8).f0)=5) then (adG k x3 x4 (wrap64 (x8+1))) else (if x8 < (x4.length:Int) then (if (!(((aa0 x4 x8).f0) == ((aa0 x3 x8).f0)) || (!(((aa0 x4 x8).f1) == ((aa0 x3 x8).f1)) || (!(((aa0 x4 x8).f2) == ((aa0 x3 x8).f2)) || (!(((aa0 x4 x8).f3) == ((aa0 x3 x8).f3)) || (!(((aa0 x4 x8).f4) == ((aa0 x3 x8).f4)))))))=true then (some false) else (adG k x3 x4 (wrap64 (x8+1)))) else (none))))) else (none)) else (some true)
end
def SbN.f (k:Nat) (l0:List Int):Option (Bool):=if (l0.length:Int) > 1048576 then (some true) else ((amB k l0).bind fun af=>((akB k af).bind fun aH=>((Sav.f k af).bind fun aI=>(if (aH.2 != aI.2)=true then (afl k af aH.1 aH.2 aI.1 aI.2 true) else ((SbO.f k aH.1 aI.1).bind fun bY=>(if bY=true then (afl k af aH.1 aH.2 aI.1 aI.2 (!aH.2)) else (afl k af aH.1 aH.2 aI.1 aI.2 true)))))))
theorem SbN.calls (k:Nat) (A0:Option Addr) (c0:Nat) (l0:List Int) (r:Bool) (w:World) (hr0:Kd.C (Kd.int .u8) w A0 l0.length l0) (hc0:l0.length<=c0) (h:SbN.f k l0=some r) :
  Calls prog 4 #[.slice A0 l0.length c0] w fun e w'=>e = .returned (.bool r)/\Below w.heap.size w w':=by
 have eP:=underlying31;have dP:=aM hr0;have dQ:=aM hc0;clear hr0 hc0;have HB:=jb_ w;have H:=h;unfold SbN.f at H;clear h;by_cases c2:(l0.length:Int) > 1048576
 ·rw [if_pos c2] at H;have cO:=decide_eq_true c2;have df:decide (1048576 < l0.length)=true:=decide_eq_true (by omega);clear c2;obtain rfl:=oJ H;go_enter func4,ntmps4;go_wp2;repeat (go_quiet (fail);try go_wp2)
  go_ret;exact⟨qW,qB⟩
 rw [if_neg c2] at H;have cO:=decide_eq_false c2;have df:decide (1048576 < l0.length)=false:=decide_eq_false (by omega);clear c2;obtain⟨af,A3,H⟩:=qE H;try dsimp only at H
 obtain⟨⟨aj,au⟩,A4,H⟩:=qE H;try dsimp only at H
 obtain⟨⟨aF,av⟩,A5,H⟩:=qE H;try dsimp only at H
 have dR:=aM H;clear H;go_enter func4,ntmps4;go_upto_region 6 with (first|(go_at_call 13;(with_reducible refine (agl k _ _ l0 af _ ?ah ?ai A3.out).mono ?_);(case ah=>exact kC dP.out);(case ai=>exact dQ.out);rintro e w7 ⟨bZ,rfl,ho0,hb⟩;have ae:=kL ho0;replace HB:=kH hb;clear hb;(try clear ho0);obtain⟨dh,di,dz⟩:=R_slice ae.out;subst dz)|(go_at_call 14;(with_reducible refine (agn k _ _ af aj au _ ?ah ?ai A4.out).mono ?_);(case ah=>exact kJ ae);(case ai=>exact (kp ae));rintro e w9 ⟨aU,rfl,ho0,hb⟩;have ag:=aM (R_lower (R_new' ho0 (R_lt (qR ae))) (aa4 qB));replace ae:=kO ae ho0 hb;replace HB:=kH hb;clear hb;(try clear ho0))|(go_at_call 15;(with_reducible refine (Sav.calls k _ _ af aF av _ ?ah ?ai A5.out).mono ?_);(case ah=>exact kJ ae);(case ai=>exact (kp ae));rintro e ek ⟨bA,rfl,ho0,hb⟩;have ak:=aM (R_lower (R_new' (R_new' ho0 (R_lt (qR ae))) (R_lt (qR ag))) (aa4 qB));replace ae:=kO ae ho0 hb;replace ag:=kO ag ho0 hb;replace HB:=kH hb;clear hb;(try clear ho0)));repeat (go_quiet (first|(go_at_call 13;(with_reducible refine (agl k _ _ l0 af _ ?ah ?ai A3.out).mono ?_);(case ah=>exact kC dP.out);(case ai=>exact dQ.out);rintro e w7 ⟨bZ,rfl,ho0,hb⟩;have cu:=aM (R_lower ho0 (aa4 qB));have cz:=aM (aaD qB hb);clear HB;have ae:=cu;have HB:=cz;clear cu cz;(try clear hb);(try clear hb2);(try clear hk);(try clear hi);(try clear ho0);obtain⟨dh,di,dz⟩:=R_slice ae.out;subst dz)|(go_at_call 14;(with_reducible refine (agn k _ _ af aj au _ ?ah ?ai A4.out).mono ?_);(case ah=>exact kJ ae);(case ai=>exact (kp ae));rintro e w9 ⟨aU,rfl,ho0,hb⟩;have cu:=aM (R_elder' (qR ae) (R_base ho0) hb);have cz:=aM (R_lower (R_new' ho0 (R_lt (qR ae))) (aa4 qB));have dA:=aM (aaD qB hb);clear ae;clear HB;have ae:=cu;have ag:=cz;have HB:=dA;clear cu cz dA;(try clear hb);(try clear hb2);(try clear hk);(try clear hi);(try clear ho0))|(go_at_call 15;(with_reducible refine (Sav.calls k _ _ af aF av _ ?ah ?ai A5.out).mono ?_);(case ah=>exact kJ ae);(case ai=>exact (kp ae));rintro e ek ⟨bA,rfl,ho0,hb⟩;have cu:=aM (R_elder' (qR ae) (R_base ho0) hb);have cz:=aM (R_elder' (qR ag) (R_base ho0) hb);have dA:=aM (R_lower (R_new' (R_new' ho0 (R_lt (qR ae))) (R_lt (qR ag))) (aa4 qB));have eu:=aM (aaD qB hb);clear ae;clear ag;clear HB;have ae:=cu;have ag:=cz;have ak:=dA;have HB:=eu;clear cu cz dA eu;(try clear hb);(try clear hb2);(try clear hk);(try clear hi);(try clear ho0)));go_upto_region 6 with (first|(go_at_call 13;(with_reducible refine (agl k _ _ l0 af _ ?ah ?ai A3.out).mono ?_);(case ah=>exact kC dP.out);(case ai=>exact dQ.out);rintro e w7 ⟨bZ,rfl,ho0,hb⟩;have ae:=kL ho0;replace HB:=kH hb;clear hb;(try clear ho0);obtain⟨dh,di,dz⟩:=R_slice ae.out;subst dz)|(go_at_call 14;(with_reducible refine (agn k _ _ af aj au _ ?ah ?ai A4.out).mono ?_);(case ah=>exact kJ ae);(case ai=>exact (kp ae));rintro e w9 ⟨aU,rfl,ho0,hb⟩;have ag:=aM (R_lower (R_new' ho0 (R_lt (qR ae))) (aa4 qB));replace ae:=kO ae ho0 hb;replace HB:=kH hb;clear hb;(try clear ho0))|(go_at_call 15;(with_reducible refine (Sav.calls k _ _ af aF av _ ?ah ?ai A5.out).mono ?_);(case ah=>exact kJ ae);(case ai=>exact (kp ae));rintro e ek ⟨bA,rfl,ho0,hb⟩;have ak:=aM (R_lower (R_new' (R_new' ho0 (R_lt (qR ae))) (R_lt (qR ag))) (aa4 qB));replace ae:=kO ae ho0 hb;replace ag:=kO ag ho0 hb;replace HB:=kH hb;clear hb;(try clear ho0))))
 (try simp only [Act.put,List.setIfInBounds_toArray,List.set_cons_zero,List.set_cons_succ]);go_cut [37] (fun v37 wc=>∃ (kq:Nat) (bK:Bool),v37 = .bool bK/\aa1 (afl kq af aj au aF av bK=some r)/\aa1 (kq<=k)/\aa1 (Kd.R k31 31 wc w.heap.size (fun k_=>some k_≠(aU:Value).ownBlock/\some k_≠(bA:Value).ownBlock) (.slice dh af.length di) af)/\aa1 (Kd.R k31 31 wc w.heap.size (fun k_=>some k_≠((.slice dh af.length di):Value).ownBlock/\some k_≠(bA:Value).ownBlock) aU aj)/\aa1 (Kd.R k31 31 wc w.heap.size (fun k_=>some k_≠((.slice dh af.length di):Value).ownBlock/\some k_≠(aU:Value).ownBlock) bA aF)/\aa1 (Below w.heap.size w wc))
 case first =>
  have H:=dR.out;clear dR;by_cases c11:(au != av)=true
  ·rw [if_pos c11] at H;have bB:(au != av)=true:=c11;(try (have dB:decide (au=av)=false:=by simpa using c11));(try (have dC:(au == av)=false:=by simpa using c11));(try (have eB:¬ (au=av):=by simpa using c11));clear c11;(first|rw [bB]|(simp only [aat,aay];rw [bB])|skip);have H':=aM H;clear H;go_wp2;repeat (go_quiet (fail);try go_wp2)
   go_meet;exact⟨_,(true),qZ,H',⟨by first|omega|exact Nat.le_refl _⟩,⟨by (with_reducible repeat (first|apply R_alloc|apply R_drewN|apply R_drew));exact R_mono ae.out (fun _ hk=>⟨hk.1.2,hk.2⟩)⟩,⟨by (with_reducible repeat (first|apply R_alloc|apply R_drewN|apply R_drew));exact R_mono ag.out (fun _ hk=>⟨hk.1.2,hk.2⟩)⟩,⟨by (with_reducible repeat (first|apply R_alloc|apply R_drewN|apply R_drew));exact R_mono ak.out (fun _ hk=>⟨hk.1.2,hk.2⟩)⟩,⟨qB⟩⟩
  rw [if_neg c11] at H;have bB:(au != av)=false:=by simpa using c11
  (try (have dB:decide (au=av)=true:=by simpa using c11));(try (have dC:(au == av)=true:=by simpa using c11));clear c11;(first|rw [bB]|(simp only [aat,aay];rw [bB])|skip);obtain⟨bY,dw,H⟩:=qE H;try dsimp only at H
  replace H:=jB H;rcases H with ⟨rfl,H⟩ | ⟨rfl,H⟩
  ·have H':=aM H;clear H;obtain⟨eQ,eT,dS⟩:=R_slice ag.out;subst dS;obtain⟨eU,eX,dU⟩:=R_slice ak.out;subst dU;go_wp2_with (first|(go_at_call 16;(with_reducible refine (SbO.calls k _ _ aj _ _ aF true _ ?ah ?ai ?aA ?aB dw.out).mono ?_);(case ah=>exact kJ ag);(case ai=>exact (kp ag));(case aA=>exact kJ ak);(case aB=>exact (kp ak));rintro e w' ⟨rfl,⟨nd,rfl⟩⟩;(try first|exact⟨rfl,_,World.drewN_drewN _ _ _⟩|exact⟨rfl,_,Eq.trans (World.drewN_drewN _ _ _) (congrArg (World.drewN _) (Nat.add_assoc _ _ _))⟩)));repeat (go_quiet (first|(go_at_call 16;(with_reducible refine (SbO.calls k _ _ aj _ _ aF true _ ?ah ?ai ?aA ?aB dw.out).mono ?_);(case ah=>exact kJ ag);(case ai=>exact (kp ag));(case aA=>exact kJ ak);(case aB=>exact (kp ak));rintro e w' ⟨rfl,⟨nd,rfl⟩⟩;(try first|exact⟨rfl,_,World.drewN_drewN _ _ _⟩|exact⟨rfl,_,Eq.trans (World.drewN_drewN _ _ _) (congrArg (World.drewN _) (Nat.add_assoc _ _ _))⟩)));try go_wp2_with (first|(go_at_call 16;(with_reducible refine (SbO.calls k _ _ aj _ _ aF true _ ?ah ?ai ?aA ?aB dw.out).mono ?_);(case ah=>exact kJ ag);(case ai=>exact (kp ag));(case aA=>exact kJ ak);(case aB=>exact (kp ak));rintro e w' ⟨rfl,⟨nd,rfl⟩⟩;(try first|exact⟨rfl,_,World.drewN_drewN _ _ _⟩|exact⟨rfl,_,Eq.trans (World.drewN_drewN _ _ _) (congrArg (World.drewN _) (Nat.add_assoc _ _ _))⟩))))
   go_meet;exact⟨_,_,qZ,H',⟨by first|omega|exact Nat.le_refl _⟩,⟨by (with_reducible repeat (first|apply R_alloc|apply R_drewN|apply R_drew));exact R_mono ae.out (fun _ hk=>⟨hk.1.2,hk.2⟩)⟩,⟨by (with_reducible repeat (first|apply R_alloc|apply R_drewN|apply R_drew));exact R_mono ag.out (fun _ hk=>⟨hk.1.2,hk.2⟩)⟩,⟨by (with_reducible repeat (first|apply R_alloc|apply R_drewN|apply R_drew));exact R_mono ak.out (fun _ hk=>⟨hk.1.2,hk.2⟩)⟩,⟨qB⟩⟩
  have H':=aM H;clear H;obtain⟨eY,eZ,dV⟩:=R_slice ag.out;subst dV;obtain⟨fe,fo,dW⟩:=R_slice ak.out;subst dW;go_wp2_with (first|(go_at_call 16;(with_reducible refine (SbO.calls k _ _ aj _ _ aF false _ ?ah ?ai ?aA ?aB dw.out).mono ?_);(case ah=>exact kJ ag);(case ai=>exact (kp ag));(case aA=>exact kJ ak);(case aB=>exact (kp ak));rintro e w' ⟨rfl,⟨nd,rfl⟩⟩;(try first|exact⟨rfl,_,World.drewN_drewN _ _ _⟩|exact⟨rfl,_,Eq.trans (World.drewN_drewN _ _ _) (congrArg (World.drewN _) (Nat.add_assoc _ _ _))⟩)));repeat (go_quiet (first|(go_at_call 16;(with_reducible refine (SbO.calls k _ _ aj _ _ aF false _ ?ah ?ai ?aA ?aB dw.out).mono ?_);(case ah=>exact kJ ag);(case ai=>exact (kp ag));(case aA=>exact kJ ak);(case aB=>exact (kp ak));rintro e w' ⟨rfl,⟨nd,rfl⟩⟩;(try first|exact⟨rfl,_,World.drewN_drewN _ _ _⟩|exact⟨rfl,_,Eq.trans (World.drewN_drewN _ _ _) (congrArg (World.drewN _) (Nat.add_assoc _ _ _))⟩)));try go_wp2_with (first|(go_at_call 16;(with_reducible refine (SbO.calls k _ _ aj _ _ aF false _ ?ah ?ai ?aA ?aB dw.out).mono ?_);(case ah=>exact kJ ag);(case ai=>exact (kp ag));(case aA=>exact kJ ak);(case aB=>exact (kp ak));rintro e w' ⟨rfl,⟨nd,rfl⟩⟩;(try first|exact⟨rfl,_,World.drewN_drewN _ _ _⟩|exact⟨rfl,_,Eq.trans (World.drewN_drewN _ _ _) (congrArg (World.drewN _) (Nat.add_assoc _ _ _))⟩))))
  go_meet;exact⟨_,_,qZ,H',⟨by first|omega|exact Nat.le_refl _⟩,⟨by (with_reducible repeat (first|apply R_alloc|apply R_drewN|apply R_drew));exact R_mono ae.out (fun _ hk=>⟨hk.1.2,hk.2⟩)⟩,⟨by (with_reducible repeat (first|apply R_alloc|apply R_drewN|apply R_drew));exact R_mono ag.out (fun _ hk=>⟨hk.1.2,hk.2⟩)⟩,⟨by (with_reducible repeat (first|apply R_alloc|apply R_drewN|apply R_drew));exact R_mono ak.out (fun _ hk=>⟨hk.1.2,hk.2⟩)⟩,⟨qB⟩⟩
 clear dR;try clear c2;try clear cO;try clear df
 obtain⟨kq,bK,rfl,HA,cB,aG,aJ,bI,HB⟩:=hcut
 cases kq with
 | zero=>exact absurd HA.out (by simp [afl])
 | succ dD =>
  have H:=HA.out;clear HA;simp only [afl] at H;replace H:=jB H;rcases H with ⟨rfl,H⟩ | ⟨rfl,H⟩
  ·by_cases c19:(au == av)=true
   ·rw [if_pos c19] at H;have dE:(au == av)=true:=c19;(try (have dF:decide (au=av)=true:=by simpa using c19));(try (have dG:(au == av)=true:=by simpa using c19));clear c19;obtain⟨bz,dX,H⟩:=qE H;try dsimp only at H
    obtain rfl:=oJ H;obtain⟨fq,fu,dY⟩:=R_slice aJ.out;subst dY;obtain⟨fw,fA,dZ⟩:=R_slice bI.out;subst dZ;go_wp2_with (first|(go_at_call 16;(with_reducible refine (SbO.calls dD _ _ aj _ _ aF bz _ ?ah ?ai ?aA ?aB dX.out).mono ?_);(case ah=>exact kJ aJ);(case ai=>exact (kp aJ));(case aA=>exact kJ bI);(case aB=>exact (kp bI));rintro e w' ⟨rfl,⟨nd,rfl⟩⟩;(try first|exact⟨rfl,_,World.drewN_drewN _ _ _⟩|exact⟨rfl,_,Eq.trans (World.drewN_drewN _ _ _) (congrArg (World.drewN _) (Nat.add_assoc _ _ _))⟩)));repeat (go_quiet (first|(go_at_call 16;(with_reducible refine (SbO.calls dD _ _ aj _ _ aF bz _ ?ah ?ai ?aA ?aB dX.out).mono ?_);(case ah=>exact kJ aJ);(case ai=>exact (kp aJ));(case aA=>exact kJ bI);(case aB=>exact (kp bI));rintro e w' ⟨rfl,⟨nd,rfl⟩⟩;(try first|exact⟨rfl,_,World.drewN_drewN _ _ _⟩|exact⟨rfl,_,Eq.trans (World.drewN_drewN _ _ _) (congrArg (World.drewN _) (Nat.add_assoc _ _ _))⟩)));try go_wp2_with (first|(go_at_call 16;(with_reducible refine (SbO.calls dD _ _ aj _ _ aF bz _ ?ah ?ai ?aA ?aB dX.out).mono ?_);(case ah=>exact kJ aJ);(case ai=>exact (kp aJ));(case aA=>exact kJ bI);(case aB=>exact (kp bI));rintro e w' ⟨rfl,⟨nd,rfl⟩⟩;(try first|exact⟨rfl,_,World.drewN_drewN _ _ _⟩|exact⟨rfl,_,Eq.trans (World.drewN_drewN _ _ _) (congrArg (World.drewN _) (Nat.add_assoc _ _ _))⟩))))
    go_ret;exact⟨qW,qB⟩
   rw [if_neg c19] at H;have dE:(au == av)=false:=by simpa using c19
   (try (have dF:decide (au=av)=false:=by simpa using c19));(try (have dG:(au == av)=false:=by simpa using c19));(try (have eD:¬ (au=av):=by simpa using c19));clear c19;obtain rfl:=oJ H;go_wp2;repeat (go_quiet (fail);try go_wp2)
   go_ret;exact⟨qW,qB⟩
  have H':=aM H;clear H;go_wp2;repeat (go_quiet (fail);try go_wp2)
  go_loopg [8] dD (fun kq v8 w'=>∃ (aa:Int),v8 = iV aa/\aa1 (adG kq af aj aa=some r)/\aa1 (kq<=dD)/\aa1 (Kd.R k31 31 w' w.heap.size (fun k_=>some k_≠(aU:Value).ownBlock) (.slice dh af.length di) af)/\aa1 (Kd.R k31 31 w' w.heap.size (fun k_=>some k_≠((.slice dh af.length di):Value).ownBlock) aU aj)/\aa1 (Below w.heap.size w w'));case atStart=>exact⟨(0),qZ,H',⟨Nat.le_refl _⟩,⟨by (with_reducible repeat (first|apply R_alloc|apply R_drewN|apply R_drew));exact R_mono aG.out (fun _ hk=>hk.1)⟩,⟨by (with_reducible repeat (first|apply R_alloc|apply R_drewN|apply R_drew));exact R_mono aJ.out (fun _ hk=>hk.1)⟩,⟨qB⟩⟩
  clear H';try clear c2;try clear cO;try clear df
  obtain⟨aa,rfl,HA,cK,aG,aJ,HB⟩:=hrel;rcases gk with _|k2
  ·exact absurd HA.out (by simp [adG])
  have H:=HA.out;clear HA;simp only [adG] at H;replace H:=jD H;rcases H with ⟨dH,H⟩ | ⟨dH,H⟩
  ·replace H:=jI H;obtain⟨eF,H⟩:=H;replace H:=jE H;rcases H with ⟨dI,dJ,H⟩ | ⟨fF,dI,dJ,H⟩
   ·have H':=aM H;clear H;have ax:0<=(aa:Int):=qD;have ay:aa < (af.length:Int):=qD;obtain⟨az,aO,aP,aQ,aR,aS,aT⟩:=aaR (R_reads' aG.out).2.2 aa ax ay;cases aO;replace ax:=eq_true ax;replace ay:=eq_true ay;go_wp2;repeat (go_quiet (fail);try go_wp2)
    go_roundg k2;case measure=>have:=cB.out;have:=cK.out;omega
    exact⟨(wrap64 (aa+1)),qZ,H',⟨by have:=cB.out;have:=cK.out;omega⟩,⟨qR aG⟩,⟨qR aJ⟩,⟨qB⟩⟩
   replace H:=jE H;rcases H with ⟨dK,dL,H⟩ | ⟨fG,dK,dL,H⟩
   ·have H':=aM H;clear H;have ax:0<=(aa:Int):=qD;have ay:aa < (af.length:Int):=qD;obtain⟨az,aO,aP,aQ,aR,aS,aT⟩:=aaR (R_reads' aG.out).2.2 aa ax ay;cases aO;replace ax:=eq_true ax;replace ay:=eq_true ay;have aC:0<=(aa:Int):=qD;have aD:aa < (af.length:Int):=qD;obtain⟨aN,aV,aW,aX,aY,aZ,bg⟩:=aaR (R_reads' aG.out).2.2 aa aC aD;obtain rfl:az=aN:=(by injection aV);replace aC:=eq_true aC;replace aD:=eq_true aD;go_wp2;repeat (go_quiet (fail);try go_wp2)
    go_roundg k2;case measure=>have:=cB.out;have:=cK.out;omega
    exact⟨(wrap64 (aa+1)),qZ,H',⟨by have:=cB.out;have:=cK.out;omega⟩,⟨qR aG⟩,⟨qR aJ⟩,⟨qB⟩⟩
   replace H:=jE H;rcases H with ⟨dM,dN,H⟩ | ⟨fH,dM,dN,H⟩
   ·have H':=aM H;clear H;have ax:0<=(aa:Int):=qD;have ay:aa < (af.length:Int):=qD;obtain⟨az,aO,aP,aQ,aR,aS,aT⟩:=aaR (R_reads' aG.out).2.2 aa ax ay;cases aO;replace ax:=eq_true ax;replace ay:=eq_true ay;have aC:0<=(aa:Int):=qD;have aD:aa < (af.length:Int):=qD;obtain⟨aN,aV,aW,aX,aY,aZ,bg⟩:=aaR (R_reads' aG.out).2.2 aa aC aD;obtain rfl:az=aN:=(by injection aV);replace aC:=eq_true aC;replace aD:=eq_true aD;have aK:0<=(aa:Int):=qD;have aL:aa < (af.length:Int):=qD;obtain⟨bi,bC,bD,bE,bF,bG,bH⟩:=aaR (R_reads' aG.out).2.2 aa aK aL;obtain rfl:az=bi:=(by injection bC);replace aK:=eq_true aK;replace aL:=eq_true aL;go_wp2;repeat (go_quiet (fail);try go_wp2)
    go_roundg k2;case measure=>have:=cB.out;have:=cK.out;omega
    exact⟨(wrap64 (aa+1)),qZ,H',⟨by have:=cB.out;have:=cK.out;omega⟩,⟨qR aG⟩,⟨qR aJ⟩,⟨qB⟩⟩
   replace H:=jI H;obtain⟨eG,H⟩:=H;by_cases dx:(!(((aa0 aj aa).f0) == ((aa0 af aa).f0)) || (!(((aa0 aj aa).f1) == ((aa0 af aa).f1)) || (!(((aa0 aj aa).f2) == ((aa0 af aa).f2)) || (!(((aa0 aj aa).f3) == ((aa0 af aa).f3)) || (!(((aa0 aj aa).f4) == ((aa0 af aa).f4)))))))=true
   ·rw [if_pos dx] at H;have dO:(!(((aa0 aj aa).f0) == ((aa0 af aa).f0)) || (!(((aa0 aj aa).f1) == ((aa0 af aa).f1)) || (!(((aa0 aj aa).f2) == ((aa0 af aa).f2)) || (!(((aa0 aj aa).f3) == ((aa0 af aa).f3)) || (!(((aa0 aj aa).f4) == ((aa0 af aa).f4)))))))=true:=dx;clear dx;obtain rfl:=oJ H;have ax:0<=(aa:Int):=qD;have ay:aa < (af.length:Int):=qD;obtain⟨az,aO,aP,aQ,aR,aS,aT⟩:=aaR (R_reads' aG.out).2.2 aa ax ay;cases aO;replace ax:=eq_true ax;replace ay:=eq_true ay;have aC:0<=(aa:Int):=qD;have aD:aa < (af.length:Int):=qD;obtain⟨aN,aV,aW,aX,aY,aZ,bg⟩:=aaR (R_reads' aG.out).2.2 aa aC aD;obtain rfl:az=aN:=(by injection aV);replace aC:=eq_true aC;replace aD:=eq_true aD;have aK:0<=(aa:Int):=qD;have aL:aa < (af.length:Int):=qD;obtain⟨bi,bC,bD,bE,bF,bG,bH⟩:=aaR (R_reads' aG.out).2.2 aa aK aL;obtain rfl:az=bi:=(by injection bC);replace aK:=eq_true aK;replace aL:=eq_true aL;obtain⟨fB,fC,d9⟩:=R_slice aJ.out;subst d9;have bn:0<=(aa:Int):=qD;have bq:aa < (aj.length:Int):=qD;obtain⟨dn,bL,bM,bN,bO,bP,bQ⟩:=aaR (R_reads' aJ.out).2.2 aa bn bq;cases bL;replace bn:=eq_true bn;replace bq:=eq_true bq;have bu:0<=(aa:Int):=qD;have bv:aa < (af.length:Int):=qD;obtain⟨bJ,bR,bS,bT,bU,bV,bW⟩:=aaR (R_reads' aG.out).2.2 aa bu bv;obtain rfl:az=bJ:=(by injection bR);replace bu:=eq_true bu;replace bv:=eq_true bv;go_wp2;repeat (go_quiet (fail);try go_wp2)
    go_ret;exact⟨qW,qB⟩
   rw [if_neg dx] at H;have dO:(!(((aa0 aj aa).f0) == ((aa0 af aa).f0)) || (!(((aa0 aj aa).f1) == ((aa0 af aa).f1)) || (!(((aa0 aj aa).f2) == ((aa0 af aa).f2)) || (!(((aa0 aj aa).f3) == ((aa0 af aa).f3)) || (!(((aa0 aj aa).f4) == ((aa0 af aa).f4)))))))=false:=by simpa using dx
   clear dx;have H':=aM H;clear H;have ax:0<=(aa:Int):=qD;have ay:aa < (af.length:Int):=qD;obtain⟨az,aO,aP,aQ,aR,aS,aT⟩:=aaR (R_reads' aG.out).2.2 aa ax ay;cases aO;replace ax:=eq_true ax;replace ay:=eq_true ay;have aC:0<=(aa:Int):=qD;have aD:aa < (af.length:Int):=qD;obtain⟨aN,aV,aW,aX,aY,aZ,bg⟩:=aaR (R_reads' aG.out).2.2 aa aC aD;obtain rfl:az=aN:=(by injection aV);replace aC:=eq_true aC;replace aD:=eq_true aD;have aK:0<=(aa:Int):=qD;have aL:aa < (af.length:Int):=qD;obtain⟨bi,bC,bD,bE,bF,bG,bH⟩:=aaR (R_reads' aG.out).2.2 aa aK aL;obtain rfl:az=bi:=(by injection bC);replace aK:=eq_true aK;replace aL:=eq_true aL;obtain⟨fD,fE,ed⟩:=R_slice aJ.out;subst ed;have bn:0<=(aa:Int):=qD;have bq:aa < (aj.length:Int):=qD;obtain⟨dn,bL,bM,bN,bO,bP,bQ⟩:=aaR (R_reads' aJ.out).2.2 aa bn bq;cases bL;replace bn:=eq_true bn;replace bq:=eq_true bq;have bu:0<=(aa:Int):=qD;have bv:aa < (af.length:Int):=qD;obtain⟨bJ,bR,bS,bT,bU,bV,bW⟩:=aaR (R_reads' aG.out).2.2 aa bu bv;obtain rfl:az=bJ:=(by injection bR);replace bu:=eq_true bu;replace bv:=eq_true bv;go_wp2;repeat (go_quiet (fail);try go_wp2)
   go_roundg k2;case measure=>have:=cB.out;have:=cK.out;omega
   exact⟨(wrap64 (aa+1)),qZ,H',⟨by have:=cB.out;have:=cK.out;omega⟩,⟨qR aG⟩,⟨qR aJ⟩,⟨qB⟩⟩
  obtain rfl:=oJ H;go_wp2;repeat (go_quiet (fail);try go_wp2)
  go_ret;exact⟨qW,qB⟩
/-- THE ONE PURE STATEMENT of SbN: yours. -/
def SbN.Pure:Prop:=∀ (l0:List Int),l0.length<=maxLen->l0.length*1<=140737488351232->(∀ x∈l0,(Lit.int .u8 x).wf=true)->∃ k,SbN.f k l0=some true
theorem SbN.walk (P:SbN.Pure) (a0:Option Addr) (bX cap0:Nat) (z0:List Int) (w:World) (w0:(a0=none/\bX=0/\cap0=0/\z0=[])\/∃ x,a0=some x/\bX<=cap0/\cap0<=maxLen/\z0.length=cap0/\(∀ i,i < z0.length->w.cell? (x.add i)=some (.int .u8 (z0.getD i 0)))/\∀ n∈z0,(Lit.int .u8 n).wf=true) (y0:bX*1<=140737488351232) :
  Calls prog 4 #[.slice a0 bX cap0] w fun e w'=>e = .returned (.bool true)/\Below w.heap.size w w':=by
 obtain⟨l0,rfl,hr0,hm0,hw0,hc0⟩:=agq w0;obtain⟨k,h⟩:=P l0 hm0 y0 hw0;refine (SbN.calls k _ _ l0 true w (C_of_reads (d:=(0:Int)) (h1:=fun _=>rfl) hr0) hc0 h).mono ?_;rintro e w' ⟨rfl,hd⟩;exact⟨rfl,hd⟩
end Go.Proofs.YtdkkdiiceaomaaaGreat.M
namespace Go.Proofs.YtdkkdiiceaomaaaGreat.M
open Go.Proofs.Tryz Go.RowKit Go.Proofs.YtdkkdiiceaomaaaGreatW.PrintWords Go.Proofs.YtdkkdiiceaomaaaGreatW.PrintLast Go.Proofs.YtdkkdiiceaomaaaGreatW.PrintMore PM
theorem akk {q:SQ} (h:¬ (q.f0=2\/q.f0=3\/q.f0=5)) (x:List SF) (i:Nat):abq q x i=q:=by
 unfold abq;split
 ·rfl
 rw [if_neg (by omega),if_neg (by omega),if_neg (by omega)]
end Go.Proofs.YtdkkdiiceaomaaaGreat.M
namespace Go.Proofs.YtdkkdiiceaomaaaGreat.M
open Go.Proofs.Tryz Go.RowKit Go.Proofs.YtdkkdiiceaomaaaGreatW.PrintWords Go.Proofs.YtdkkdiiceaomaaaGreatW.PrintLast Go.Proofs.YtdkkdiiceaomaaaGreatW.PrintMore
attribute [local go_sem] aas aaq aaH aaG aai aah aar aap
end Go.Proofs.YtdkkdiiceaomaaaGreat.M
namespace Go.Proofs.YtdkkdiiceaomaaaGreat.M
open Go.Proofs.Tryz Go.RowKit Go.Proofs.YtdkkdiiceaomaaaGreatW.PrintWords Go.Proofs.YtdkkdiiceaomaaaGreatW.PrintLast Go.Proofs.YtdkkdiiceaomaaaGreatW.PrintMore PM
abbrev SE:=aaL
/-- With fuel enough,F answers what P says. -/
def An {α:Type} (F:Nat->Option α) (P:α->Prop):Prop:=∃ v,Ev F v/\P v
theorem an8 {α:Type} {F:Nat->Option α} {P:α->Prop} {v:α} (e:Ev F v) (p:P v):An F P:=⟨v,e,p⟩
theorem aae {α:Type} {P:α->Prop} {v:α} (p:P v):An (fun _=>Option.some v) P:=⟨v,Ev.pure,p⟩
theorem An.bind {α β:Type} {F:Nat->Option α} {G:Nat->α->Option β} {P:α->Prop} {Q:β->Prop} (h:An F P) (g:∀ a,P a->An (fun k=>G k a) Q):An (fun k=>(F k).bind (G k)) Q:=by
 obtain⟨a,e,p⟩:=h;obtain⟨b,e',q⟩:=g a p;exact⟨b,Ev.bind e e',q⟩
theorem abe {α β:Type} {a:α} {G:Nat->α->Option β} {Q:β->Prop} (g:An (fun k=>G k a) Q):An (fun k=>(Option.some a).bind (G k)) Q:=g
theorem aaQ {α:Type} {F:Nat->Option α} {P:α->Prop} (h:An (fun k=>F (k+1)) P):An F P:=by
 obtain⟨v,e,p⟩:=h;exact⟨v,Ev.succ e,p⟩
theorem aaE {α:Type} {c:Prop} [Decidable c] {A B:Nat->Option α} {P:α->Prop} (g:An A P) (h:c:=by first|assumption|omega|(simp;done)|(simp;omega)):An (fun k=>if c then A k else B k) P:=by
 simp only [if_pos h];exact g
theorem ab6 {α:Type} {c:Prop} [Decidable c] {A B:Nat->Option α} {P:α->Prop} (g:An B P) (h:¬ c:=by first|assumption|omega|(simp;done)|(simp;omega)):An (fun k=>if c then A k else B k) P:=by
 simp only [if_neg h];exact g
theorem aaJ {α:Type} {c:Prop} [Decidable c] {A B:Nat->Option α} {P:α->Prop} (g:c->An A P) (g':¬ c->An B P):An (fun k=>if c then A k else B k) P:=by
 by_cases h:c
 ·exact aaE (g h) h
 exact ab6 (g' h) h
theorem An.mono {α:Type} {F:Nat->Option α} {P Q:α->Prop} (h:An F P) (g:∀ v,P v->Q v):An F Q:=by
 obtain⟨v,e,p⟩:=h;exact⟨v,e,g v p⟩
def Bt (b:List Int):Prop:=b.length<=2000/\∀ x∈b,0<=x/\x < 256
theorem Bt.at_ {b:List Int} (h:Bt b) {i:Int} (h0:0<=i) (h1:i < b.length):0<=rd b i/\rd b i < 256:=by
 unfold rd;have hi:i.toNat < b.length:=by omega
 have e:b.getD i.toNat 0=b[i.toNat]:=by simp [hi]
 rw [e];exact h.2 _ (List.getElem_mem _)
theorem ak7 {x n:Int} (hx:0<=x) (hn:1<=n):0<=x.tmod n/\x.tmod n < n:=by
 rw [Int.tmod_eq_emod_of_nonneg hx];exact⟨Int.emod_nonneg _ (by omega),Int.emod_lt_of_pos _ (by omega)⟩
theorem aoR (x y:Int) (h0:0<=x) (h1:x < 2 ^ 62) (h2:0<=y) (h3:y < 2 ^ 62):0<=Go.bits .xor .i64 x y:=by
 obtain⟨a,rfl⟩:=Int.eq_ofNat_of_zero_le h0;obtain⟨b,rfl⟩:=Int.eq_ofNat_of_zero_le h2;have ha:a < 2 ^ 62:=by exact_mod_cast h1
 have hb:b < 2 ^ 62:=by exact_mod_cast h3
 have hp:(2:Nat) ^ 62<=2 ^ IntKind.i64.bits:=by decide
 have ha':a % 2 ^ IntKind.i64.bits=a:=Nat.mod_eq_of_lt (Nat.lt_of_lt_of_le ha hp);have hb':b % 2 ^ IntKind.i64.bits=b:=Nat.mod_eq_of_lt (Nat.lt_of_lt_of_le hb hp);have hx:a ^^^ b < 2 ^ 62:=Nat.xor_lt_two_pow ha hb;simp only [Go.bits,BitVec.ofInt_natCast,BitVec.toNat_xor,BitVec.toNat_ofNat,ha',hb'];rw [IntKind.wrap_i64];omega
theorem apf (y z q d:Int) (hy:0<=y) (hy1:y < 256) (hz:0<=z) (hz1:z < 256) (hq:0<=q) (hq1:q<=1000000) (hd:0<=d) (hd1:d<=q) :
  0<=Go.bits .xor .i64 (wrap64 ((wrap64 ((wrap64 ((wrap64 ((wrap64 y)*131))+(wrap64 ((wrap64 z)*1117))))+(wrap64 (q*29))))+(wrap64 ((wrap64 d)*53)))) (wrap64 (Int.tdiv (wrap64 ((wrap64 ((wrap64 ((wrap64 ((wrap64 y)*131))+(wrap64 ((wrap64 z)*1117))))+(wrap64 (q*29))))+(wrap64 ((wrap64 d)*53)))) 64)):=by
 have e:wrap64 ((wrap64 ((wrap64 ((wrap64 ((wrap64 y)*131))+(wrap64 ((wrap64 z)*1117))))+(wrap64 (q*29))))+(wrap64 ((wrap64 d)*53)))=y*131+z*1117+q*29+d*53:=by unfold wrap64;omega
 rw [e];have h0:0<=y*131+z*1117+q*29+d*53:=by omega
 have h1:y*131+z*1117+q*29+d*53 < 1000000000000:=by omega
 generalize y*131+z*1117+q*29+d*53=X at h0 h1;have h2:wrap64 (X.tdiv 64)=X / 64:=by rw [Int.tdiv_eq_ediv_of_nonneg h0];unfold wrap64;omega
 rw [h2];exact aoR X (X / 64) h0 (by omega) (by omega) (by omega)
theorem apb {b:List Int} (hb:Bt b) {p n:Int} (h:0<=p/\p+1<=1000000):An (fun k=>ab4 k b p n) (fun v=>0<=v.1/\(1<=n->v.1 < n)/\v.2=p+1):=by
 obtain⟨h0,h1⟩:=h;have e1:wrap64 (p+1)=p+1:=aaK (by omega) (by omega);have e2:wrap64 (p+1 - 1)=p:=by rw [aaK (by omega) (by omega)];omega
 have t:An (fun k=>afj k n true b (p+1)) (fun v=>0<=v.1/\(1<=n->v.1 < n)/\v.2=p+1)\/1<=n:=by
  by_cases c:1<=n
  ·exact Or.inr c
  refine Or.inl (aaQ ?_);simp only [afj];exact aaE (aae ⟨by simp,fun h=>absurd h c,rfl⟩)
 simp only [ab4,e1];refine aaJ (fun c=>t.resolve_right (by omega)) (fun c=>?_);refine aaQ ?_;simp only [afj,e2];refine aaJ (fun c'=>aae ⟨by simp,fun h=>by simp only;omega,rfl⟩) (fun c'=>?_)
 have hl:1<=(b.length:Int):=by
  have:(b.length:Int)≠0:=by simpa using c'
  omega
 have hl2:=hb.1;refine aaJ (fun d=>?_) (fun d=>?_)
 ·refine aaE (ab6 (aae ?_));obtain⟨r0,r1⟩:=hb.at_ h0 d;rw [aaK (by omega) (by omega)];exact⟨(ak7 r0 (by omega)).1,fun h=>(ak7 r0 h).2,rfl⟩
 obtain⟨i0,i1⟩:=ak7 (x:=p) h0 hl;have e3:wrap64 (wrap64 (p*7)+3)=p*7+3:=by unfold wrap64;omega
 obtain⟨j0,j1⟩:=ak7 (x:=p*7+3) (by omega) hl;obtain⟨y0,y1⟩:=hb.at_ i0 i1;obtain⟨z0,z1⟩:=hb.at_ j0 j1;simp only [e3];refine ab6 (aaE (aaE (aaE (aaE (ab6 (aae ?_))))));have d0:0<=p.tdiv b.length:=Int.tdiv_nonneg h0 (by omega);have d1:p.tdiv b.length<=p:=by rw [Int.tdiv_eq_ediv_of_nonneg h0];exact Int.ediv_le_self _ h0
 have m:=apf _ _ p _ y0 y1 z0 z1 h0 (by omega) d0 d1;exact⟨(ak7 m (by omega)).1,fun h=>(ak7 m h).2,rfl⟩
theorem aao {b:List Int} (hb:Bt b) {p:Int} (n:Int) (h:0<=p/\p+1<=1000000) (hn:1<=n:=by omega):An (fun k=>ab4 k b p n) (fun v=>0<=v.1/\v.1 < n/\v.2=p+1) :=
 (apb hb h).mono fun v h=>⟨h.1,h.2.1 hn,h.2.2⟩
theorem abK {b:List Int} (hb:Bt b) {p:Int} (h:0<=p/\p+1<=1000000):An (fun k=>aeK k b p) (fun v=>v.2=p+1):=by
 simp only [aeK];exact An.bind (aao hb 6 h) fun v h=>aae h.2.2
theorem ajO {b:List Int} (hb:Bt b) {p:Int} (h:0<=p/\p+1<=1000000):An (fun k=>akp k b p) (fun v=>1<=v.1/\v.1<=12/\v.2=p+1):=by
 simp only [akp];refine An.bind (aao hb 12 h) fun v h=>aae ?_
 rw [aaK (by omega) (by omega)];simp only;omega
theorem akG (n:Int):∃ v,afc n=some v:=by
 unfold afc;split
 ·exact⟨_,rfl⟩
 split <;> exact⟨_,rfl⟩
theorem akh {b:List Int} (hb:Bt b) {p:Int} (h:0<=p/\p+5<=1000000):An (fun k=>alL k b p) (fun v=>p<=v.2/\v.2<=p+5):=by
 simp only [alL];refine An.bind (aao hb 6 (by omega)) fun v h1=>?_
 refine aaJ (fun c=>abe (An.bind (aao hb 8 (by omega)) fun u h2=>aaE (aaE (aae (by simp only;omega)) (by simp only [List.length_cons,List.length_nil];omega)))) (fun c=>aaJ (fun c=>?_) (fun c=>aaJ (fun c=>An.bind (aao hb 200 (by omega)) fun u h2=>aae (by simp only;omega)) (fun c=>An.bind (aao hb 20 (by omega)) fun u h2=>aae (by simp only;omega))));refine An.bind (aao hb 256 (by omega)) fun v1 h1=>An.bind (aao hb 256 (by omega)) fun v2 h2=>An.bind (aao hb 256 (by omega)) fun v3 h3=>An.bind (aao hb 200 (by omega)) fun v4 h4=>?_
 obtain⟨x,hx⟩:=akG (wrap64 ((wrap64 ((wrap64 ((wrap64 (v1.1*65536))+(wrap64 (v2.1*256))))+v3.1))*(wrap64 (1+v4.1))));simp only [hx];exact abe (aae (by simp only;omega))
def okE:Nat->SE->Prop
 | 0,_=>False
 | d+1,e=>(e.f0=0/\0<=e.f1/\e.f1<=99999/\e.f2=[])\/(e.f0=13/\0<=e.f1/\e.f1<=3/\e.f2=[])\/(1<=e.f0/\e.f0<=12/\e.f1=0/\∃ a b,e.f2=[a,b]/\okE d a/\okE d b)
theorem alb:∀ {d:Nat} {e:SE},okE d e->okE (d+1) e
 | 0,_,h=>h.elim
 | d+1,e,h=>by
  rcases h with h|h | ⟨h1,h2,h3,a,b,h4,h5,h6⟩
  ·exact Or.inl h
  ·exact Or.inr (Or.inl h)
  exact Or.inr (Or.inr ⟨h1,h2,h3,a,b,h4,alb h5,alb h6⟩)
theorem ai9 {d d':Nat} {e:SE} (h:okE d e) (hd:d<=d'):okE d' e:=by
 induction hd with
 | refl=>exact h
 | step _ ih=>exact alb ih
theorem agS {b:List Int} (hb:Bt b) {p:Int} (h:0<=p/\p+2<=1000000):An (fun k=>alN k b p) (fun v=>okE 1 ⟨v.1,v.2.1,v.2.2.1⟩/\p<=v.2.2.2/\v.2.2.2<=p+2):=by
 simp only [alN,afA];refine An.bind (aao hb 4 (by omega)) fun v h1=>?_
 refine aaJ (fun c=>An.bind (aao hb 4 (by omega)) fun u h2=>abe (aae ⟨Or.inl ⟨rfl,h2.1,by simp only;omega,rfl⟩,by simp only;omega⟩)) (fun c=>aaJ (fun c=>?_) (fun c=>An.bind (aao hb 4 (by omega)) fun u h2=>abe (aae ⟨Or.inr (Or.inl ⟨rfl,h2.1,by simp only;omega,rfl⟩),by simp only;omega⟩)));refine abe (An.bind (aao hb 8 (by omega)) fun u h2=>aaE (aaE (abe (aae ⟨Or.inl ⟨rfl,?_⟩,by simp only;omega⟩)) (by simp only [List.length_cons,List.length_nil];omega)));obtain⟨u1,u2⟩:=u;obtain⟨m,rfl⟩:=Int.eq_ofNat_of_zero_le h2.1;have hm:m < 8:=by have:=h2.2.1;simp only at this;omega
 simp only [ajD]
 match m,hm with
 | 0,_=>simp
 | 1,_=>simp
 | 2,_=>simp
 | 3,_=>simp
 | 4,_=>simp
 | 5,_=>simp
 | 6,_=>simp
 | 7,_=>simp
def cE:Nat->Int
 | 0=>2
 | d+1=>2+2*cE d
theorem aok:∀ d,2<=cE d
 | 0=>by simp [cE]
 | d+1=>by have:=aok d;simp only [cE];omega
theorem af8 {b:List Int} (hb:Bt b):∀ (d:Nat) (p:Int),d<=100->0<=p/\p+cE d<=1000000->An (fun k=>adD k b p ((d+1:Nat):Int)) (fun v=>okE (d+1) ⟨v.1,v.2.1,v.2.2.1⟩/\p<=v.2.2.2/\v.2.2.2<=p+cE d)
 | 0,p,_,h=>by
  refine aaQ ?_;simp only [adD];refine aaE (aaQ ?_);simp only [agf];exact aaE (An.bind (agS hb h) fun v h=>aae h)
 | d+1,p,hd,h=>by
  have c2:=aok d;simp only [cE] at h ⊢;refine aaQ ?_;simp only [adD];refine ab6 (An.bind (aao hb 3 (by omega)) fun v h1=>aaQ ?_);simp only [agf];refine aaJ (fun c=>An.bind (agS hb (by omega)) fun u h2=>aae ⟨ai9 h2.1 (by omega),by simp only;omega⟩) (fun c=>?_);have e:wrap64 (((d+1+1:Nat):Int) - 1)=((d+1:Nat):Int):=by rw [aaK (by omega) (by omega)];omega
  refine An.bind (ajO hb (by omega)) fun o h3=>?_
  simp only [e];refine An.bind (af8 hb d o.2 (by omega) (by omega)) fun x h4=>?_
  refine An.bind (af8 hb d x.2.2.2 (by omega) (by omega)) fun y h5=>?_
  simp only [air];exact abe (aae ⟨Or.inr (Or.inr ⟨h3.1,h3.2.1,rfl,_,_,rfl,h4.1,h5.1⟩),by simp only;omega⟩)
/-- One more than what was picked is a depth. -/
theorem adR {b:List Int} (hb:Bt b) {p x:Int} (hx:0<=x/\x < 3) (h:0<=p/\p+14<=1000000):An (fun k=>adD k b p (wrap64 (1+x))) (fun v=>okE 3 ⟨v.1,v.2.1,v.2.2.1⟩/\p<=v.2.2.2/\v.2.2.2<=p+14):=by
 obtain⟨m,rfl⟩:=Int.eq_ofNat_of_zero_le hx.1;rw [aaK (by omega) (by omega),show (1:Int)+(m:Int)=((m+1:Nat):Int) by omega]
 have hc:cE m<=14:=by
  match m,hx with
  | 0,_=>decide
  | 1,_=>decide
  | 2,_=>decide
  | m+3,h=>omega
 exact (af8 hb m p (by omega) (by omega)).mono fun v h=>⟨ai9 h.1 (by omega),by omega⟩
abbrev ST:=aak
def aob (x:ST):Prop:=x.f4=[]/\x.f5=[]/\((x.f0=1/\0<=x.f1/\x.f1<=3/\x.f2=0/\okE 3 x.f3)\/(x.f0=4/\x.f1=0/\0<=x.f2/\x.f2<=2/\okE 3 x.f3)\/(x.f0=5/\0<=x.f1/\x.f1<=3/\0<=x.f2/\x.f2<=2/\x.f3=⟨0,0,[]⟩)\/(x.f0=6/\x.f1=0/\x.f2=0/\x.f3=⟨0,0,[]⟩)\/(x.f0=7/\x.f1=0/\x.f2=0/\okE 3 x.f3))
def okS:Nat->ST->Prop
 | 0,x=>aob x
 | n+1,x=>aob x\/((x.f0=2\/x.f0=3/\x.f5=[])/\x.f1=0/\x.f2=0/\okE 3 x.f3/\x.f4.length<=5/\x.f5.length<=5/\(∀ y∈x.f4,okS n y)/\(∀ y∈x.f5,okS n y))
theorem adx {n:Nat} {x:ST} (h:aob x):okS n x:=by
 cases n with
 | zero=>exact h
 | succ n=>exact Or.inl h
/-- What a draw of a statement answers,as a statement;the reader behind it. -/
def tS (v:Int × Int × Int × Int × Int × List SE × List ST × List ST × Int):ST:=⟨v.1,v.2.1,v.2.2.1,⟨v.2.2.2.1,v.2.2.2.2.1,v.2.2.2.2.2.1⟩,v.2.2.2.2.2.2.1,v.2.2.2.2.2.2.2.1⟩
theorem afZ {b:List Int} (hb:Bt b) {p:Int} (h:0<=p/\p+16<=1000000):An (fun k=>aks k b p) (fun v=>aob (tS v)/\p<=v.2.2.2.2.2.2.2.2/\v.2.2.2.2.2.2.2.2<=p+16):=by
 simp only [aks];refine An.bind (aao hb 3 (by omega)) fun v h1=>An.bind (aao hb 3 (by omega)) fun u h2=>An.bind (adR hb (by omega) (by omega)) fun e h3=>aae ?_
 exact⟨⟨rfl,rfl,Or.inl ⟨rfl,h1.1,by simp only [tS];omega,rfl,h3.1⟩⟩,by simp only;omega⟩
theorem agR {b:List Int} (hb:Bt b) {p x:Int} (hx:x<=3) (h:0<=p/\p+18<=1000000):An (fun k=>amd k b p x) (fun v=>aob (tS v)/\p<=v.2.2.2.2.2.2.2.2/\v.2.2.2.2.2.2.2.2<=p+18):=by
 simp only [amd];refine aaJ (fun c=>An.bind (afZ hb (by omega)) fun v h1=>aae ⟨h1.1,by simp only;omega⟩) (fun c=>?_);refine An.bind (aao hb x (by omega)) fun v h1=>An.bind (aao hb 2 (by omega)) fun u h2=>aaJ (fun c=>?_) (fun c=>?_)
 ·refine An.bind (aao hb 3 (by omega)) fun y h3=>An.bind (adR hb (by omega) (by omega)) fun e h4=>aae ?_
  exact⟨⟨rfl,rfl,Or.inr (Or.inl ⟨rfl,rfl,h1.1,by simp only [tS];omega,h4.1⟩)⟩,by simp only;omega⟩
 refine An.bind (aao hb 3 (by omega)) fun y h3=>aae ?_
 exact⟨⟨rfl,rfl,Or.inr (Or.inr (Or.inl ⟨rfl,h3.1,by simp only [tS];omega,h1.1,by simp only [tS];omega,rfl⟩))⟩,by simp only;omega⟩
def cS:Nat->Int
 | 0=>19
 | n+1=>18+4*cS n
theorem agY:∀ n,19<=cS n
 | 0=>by simp [cS]
 | n+1=>by have:=agY n;simp only [cS];omega
/-- What is drawn for one statement of a nest n. -/
def ah2 (b:List Int) (n:Nat):Prop:=∀ (x:Int),x<=3->∀ (l:Bool) (p:Int),0<=p/\p+cS n<=1000000->An (fun k=>akr k b p x (n:Int) l) (fun v=>v.1.length<=2/\(∀ y∈v.1,okS n y)/\p<=v.2/\v.2<=p+cS n)
theorem ain {b:List Int} {n:Nat} (hs:ah2 b n) {x:Int} (hx:x<=3) (l:Bool) {m:Nat} (hm:m<=10):∀ (d i:Nat),i+d=m->∀ (o:List ST) (p:Int),o.length<=2*i->(∀ y∈o,okS n y)->0<=p/\p+(d:Int)*cS n<=1000000->An (fun k=>aeM k x (n:Int) (m:Int) l o (i:Int) b p) (fun v=>v.1.length<=2*m/\(∀ y∈v.1,okS n y)/\p<=v.2/\v.2<=p+(d:Int)*cS n)
 | 0,i,hi,o,p,ho,hy,h=>by
  refine aaQ ?_;simp only [aeM];exact ab6 (aae ⟨by simp only;omega,hy,by simp only;omega⟩)
 | d+1,i,hi,o,p,ho,hy,h=>by
  have c2:=agY n;have e:((d+1:Nat):Int)*cS n=(d:Int)*cS n+cS n:=by rw [show ((d+1:Nat):Int)=(d:Int)+1 from rfl,Int.add_mul,Int.one_mul]
  have e0:0<=(d:Int)*cS n:=Int.mul_nonneg (by omega) (by omega);rw [e] at h ⊢;refine aaQ ?_;simp only [aeM,aav (show i < 9223372036854775807 by omega)];refine aaE (An.bind (hs x hx l p (by omega)) fun v h1=>?_);refine aaE ?_
  refine (ain hs hx l hm d (i+1) (by omega) (o ++ v.1) v.2 (by simp;omega) (by
   intro y hy';rcases List.mem_append.1 hy' with q|q
   ·exact hy y q
   exact h1.2.1 y q) (by omega)).mono fun u h2=>⟨h2.1,h2.2.1,by omega⟩
theorem ajY {b:List Int} {n:Nat} (hs:ah2 b n) {x:Int} (hx:x<=3) (l:Bool) {m:Int} (hm:0<=m/\m<=10) (p:Int) (h:0<=p/\p+m*cS n<=1000000):An (fun k=>afB k b p x (n:Int) m l) (fun v=>(v.1.length:Int)<=2*m/\(∀ y∈v.1,okS n y)/\p<=v.2/\v.2<=p+m*cS n):=by
 obtain⟨m,rfl⟩:=Int.eq_ofNat_of_zero_le hm.1;refine aaQ ?_;simp only [afB];exact (ain hs hx l (by omega) m 0 (Nat.zero_add _) [] p (by simp) (by simp) h).mono fun u h2=>⟨by omega,h2.2⟩
/-- A block of at most two. -/
theorem agb {b:List Int} {n:Nat} (hs:ah2 b n) {x:Int} (hx:x<=3) (l:Bool) {m:Int} (hm:0<=m/\m < 3) (p:Int) (h:0<=p/\p+2*cS n<=1000000):An (fun k=>afB k b p x (n:Int) m l) (fun v=>v.1.length<=4/\(∀ y∈v.1,okS n y)/\p<=v.2/\v.2<=p+2*cS n):=by
 have e:m*cS n<=2*cS n:=Int.mul_le_mul_of_nonneg_right (by omega) (by have:=agY n;omega);exact (ajY hs hx l (by omega) p (by omega)).mono fun u h2=>⟨by omega,h2.2.1,by omega⟩
theorem arv {b:List Int} (hb:Bt b) {n:Nat} (hn:n<=1000) (hs:ah2 b n) {x:Int} (hx:x<=3) (l:Bool) (p:Int) (h:0<=p/\p+17+4*cS n<=1000000):An (fun k=>aku k b p x ((n+1:Nat):Int) l) (fun v=>okS (n+1) (tS v)/\p<=v.2.2.2.2.2.2.2.2/\v.2.2.2.2.2.2.2.2<=p+17+4*cS n):=by
 have c2:=agY n;have e:wrap64 (((n+1:Nat):Int) - 1)=(n:Int):=by rw [aaK (by omega) (by omega)];omega
 refine aaQ ?_;simp only [aku,e];refine An.bind (aao hb 2 (by omega)) fun v h1=>An.bind (adR hb (by omega) (by omega)) fun q h2=>An.bind (aao hb 3 (by omega)) fun u h3=>An.bind (agb hs hx l (by omega) _ (by omega)) fun c h4=>An.bind (aao hb 3 (by omega)) fun u' h5=>An.bind (agb hs hx l (by omega) _ (by omega)) fun c' h6=>aae ?_
 exact⟨Or.inr ⟨Or.inl rfl,rfl,rfl,h2.1,Nat.le_trans h4.1 (by omega),Nat.le_trans h6.1 (by omega),h4.2.1,h6.2.1⟩,by simp only;omega⟩
theorem aj2 {x:Int} (h:0<=x/\x<=99999):okE 1 ⟨0,x,[]⟩:=Or.inl ⟨rfl,h.1,h.2,rfl⟩
theorem ala:okE 1 ⟨13,3,[]⟩:=Or.inr (Or.inl ⟨rfl,by decide,by decide,rfl⟩)
theorem aph {b:List Int} (hb:Bt b) {n:Nat} (hn:n<=1000) (hs:ah2 b n) {x:Int} (hx:x<=3) (p:Int) (h:0<=p/\p+17+4*cS n<=1000000):An (fun k=>akt k b p x ((n+1:Nat):Int)) (fun v=>v.1.length<=2/\(∀ y∈v.1,okS (n+1) y)/\p<=v.2/\v.2<=p+17+4*cS n):=by
 have c2:=agY n;have e:wrap64 (((n+1:Nat):Int) - 1)=(n:Int):=by rw [aaK (by omega) (by omega)];omega
 refine aaQ ?_;simp only [akt,afA,air,e];refine An.bind (aao hb 3 (by omega)) fun v h1=>An.bind (agb hs hx false (by omega) _ (by omega)) fun c h2=>?_
 refine abe (abe (abe (abe (An.bind (aao hb 3 (by omega)) fun u h3=>abe (abe (abe ?_))))));refine aaE (abe (aae ⟨by simp,?_,by simp only;omega⟩)) (by simp only [List.length_cons,List.length_nil];omega);have hw:wrap64 (1+u.1)=1+u.1:=aaK (by omega) (by omega);intro y hy;rcases List.mem_cons.1 hy with rfl|hy
 ·exact Or.inl ⟨rfl,rfl,Or.inl ⟨rfl,by simp,by simp,rfl,ai9 (aj2 (x:=0) (by decide)) (by omega)⟩⟩
 rcases List.mem_cons.1 hy with rfl|hy
 ·refine Or.inr ⟨Or.inr ⟨rfl,rfl⟩,rfl,rfl,?_,?_,by simp,?_,by simp⟩
  ·exact ai9 (d:=2) (Or.inr (Or.inr ⟨by simp only;omega,by simp only;omega,rfl,_,_,rfl,ala,by rw [hw];exact aj2 (x:=1+u.1) (by omega)⟩)) (by omega)
  ·simp only [List.length_append,List.length_cons,List.length_nil];omega
  intro z hz;rcases List.mem_append.1 hz with q|q
  ·exact h2.2.1 z q
  obtain rfl:=List.mem_singleton.1 q;exact adx ⟨rfl,rfl,Or.inl ⟨rfl,by simp,by simp,rfl,ai9 (d:=2) (Or.inr (Or.inr ⟨by simp only;omega,by simp only;omega,rfl,_,_,rfl,ala,aj2 (x:=1) (by decide)⟩)) (by omega)⟩⟩
 cases hy
theorem adw {n:Nat} {x:ST} (h:okS n x):∀ y∈[x],okS n y:=fun y hy=>by rw [List.mem_singleton.1 hy];exact h
theorem aet {b:List Int} (hb:Bt b) {n:Nat} {p:Int} (h:0<=p/\p+15<=1000000):An (fun k=>(ab4 k b p 3).bind fun t=>(adD k b t.2 (wrap64 (1+t.1))).bind fun e=>some ([(⟨7,0,0,⟨e.1,e.2.1,e.2.2.1⟩,[],[]⟩:ST)],e.2.2.2)) (fun v=>v.1.length<=2/\(∀ y∈v.1,okS n y)/\p<=v.2/\v.2<=p+15):=by
 refine An.bind (aao hb 3 (by omega)) fun v h1=>An.bind (adR hb (by omega) (by omega)) fun e h2=>aae ?_
 exact⟨by simp,adw (adx ⟨rfl,rfl,Or.inr (Or.inr (Or.inr (Or.inr ⟨rfl,rfl,rfl,h2.1⟩)))⟩),by simp only;omega⟩
theorem ap0 {b:List Int} (hb:Bt b):∀ n,n<=1000->ah2 b n:=by
 intro n hn
 induction n with
 | zero=>?_
 | succ n ih=>?_
 all_goals
  intro x hx l p h;refine aaQ ?_;simp only [akr];simp only [cS] at h ⊢
 ·refine An.bind (aao hb 10 (by omega)) fun v h1=>?_
  have j2:∀ c,An (fun k=>ae3 k x v.1 c b v.2) (fun u=>u.1.length<=2/\(∀ y∈u.1,okS 0 y)/\p<=u.2/\u.2<=p+19):=by
   intro c;refine aaQ ?_;simp only [ae3];refine aaJ (fun c=>An.bind (agR hb hx (by omega)) fun t h2=>aae ⟨by simp,adw (adx h2.1),by simp only;omega⟩) (fun c=>aaJ (fun c=>aae ⟨by simp,adw (adx ⟨rfl,rfl,Or.inr (Or.inr (Or.inr (Or.inl ⟨rfl,rfl,rfl,rfl⟩)))⟩),by simp only;omega⟩) (fun c=>?_));exact (aet hb (n:=0) (by omega)).mono fun u h=>⟨h.1,h.2.1,by omega⟩
  have j1:An (fun k=>aeL k x ((0:Nat):Int) false b v.2) (fun u=>u.1.length<=2/\(∀ y∈u.1,okS 0 y)/\p<=u.2/\u.2<=p+19):=by
   refine aaQ ?_;simp only [aeL];exact ab6 ((aet hb (n:=0) (by omega)).mono fun u h=>⟨h.1,h.2.1,by omega⟩)
  have j0:∀ c,An (fun k=>adI k x ((0:Nat):Int) l v.1 c b v.2) (fun u=>u.1.length<=2/\(∀ y∈u.1,okS 0 y)/\p<=u.2/\u.2<=p+19):=by
   intro c;refine aaQ ?_;simp only [adI];refine aaJ (fun c=>An.bind (afZ hb (by omega)) fun t h2=>aae ⟨by simp,adw (adx h2.1),by simp only;omega⟩) (fun c=>aaJ (fun c=>ab6 ((aet hb (n:=0) (by omega)).mono fun u h=>⟨h.1,h.2.1,by omega⟩)) (fun c=>aaJ (fun c=>ab6 j1) (fun c=>aaJ (fun c=>j2 _) (fun c=>aaJ (fun c=>j2 _) (fun c=>j2 _)))))
  exact aaJ (fun c=>j0 _) (fun c=>j0 _)
 have ih:=ih (by omega);have c2:=agY n;refine An.bind (aao hb 10 (by omega)) fun v h1=>?_
 have j2:∀ c,An (fun k=>ae3 k x v.1 c b v.2) (fun u=>u.1.length<=2/\(∀ y∈u.1,okS (n+1) y)/\p<=u.2/\u.2<=p+(18+4*cS n)):=by
  intro c;refine aaQ ?_;simp only [ae3];refine aaJ (fun c=>An.bind (agR hb hx (by omega)) fun t h2=>aae ⟨by simp,adw (adx h2.1),by simp only;omega⟩) (fun c=>aaJ (fun c=>aae ⟨by simp,adw (adx ⟨rfl,rfl,Or.inr (Or.inr (Or.inr (Or.inl ⟨rfl,rfl,rfl,rfl⟩)))⟩),by simp only;omega⟩) (fun c=>?_));exact (aet hb (n:=n+1) (by omega)).mono fun u h=>⟨h.1,h.2.1,by omega⟩
 have j1:∀ c,An (fun k=>aeL k x ((n+1:Nat):Int) c b v.2) (fun u=>u.1.length<=2/\(∀ y∈u.1,okS (n+1) y)/\p<=u.2/\u.2<=p+(18+4*cS n)):=by
  intro c;refine aaQ ?_;simp only [aeL];refine aaJ (fun c=>An.bind (aph hb (by omega) ih hx _ (by omega)) fun u h=>aae ⟨h.1,h.2.1,by simp only;omega⟩) (fun c=>?_);exact (aet hb (n:=n+1) (by omega)).mono fun u h=>⟨h.1,h.2.1,by omega⟩
 have j0:∀ c,An (fun k=>adI k x ((n+1:Nat):Int) l v.1 c b v.2) (fun u=>u.1.length<=2/\(∀ y∈u.1,okS (n+1) y)/\p<=u.2/\u.2<=p+(18+4*cS n)):=by
  intro c;refine aaQ ?_;simp only [adI];refine aaJ (fun c=>An.bind (afZ hb (by omega)) fun t h2=>aae ⟨by simp,adw (adx h2.1),by simp only;omega⟩) (fun c=>aaJ (fun c=>aaE (An.bind (arv hb (by omega) ih hx l _ (by omega)) fun t h2=>aae ⟨by simp,adw h2.1,by simp only;omega⟩)) (fun c=>aaJ (fun c=>aaE (j1 _)) (fun c=>aaJ (fun c=>j2 _) (fun c=>aaJ (fun c=>j2 _) (fun c=>j2 _)))))
 exact aaJ (fun c=>j0 _) (fun c=>j0 _)
set_option maxRecDepth 100000
theorem ap6 (l:List ST) (i:Nat):aac l (i:Int)=l.getD i apI:=by simp [aac]
theorem akS {l:List ST} {i:Nat} (h:i < l.length):l.getD i apI∈l:=by
 rw [show l.getD i apI=l[i] by simp [h]];exact List.getElem_mem _
def cW:Nat->Int
 | 0=>1
 | n+1=>1+10*cW n
theorem aoj:∀ n,1<=cW n
 | 0=>by simp [cW]
 | n+1=>by have:=aoj n;simp only [cW];omega
theorem arB {n:Nat} (h:n<=3):cW n<=1111:=by
 match n,h with
 | 0,_=>decide
 | 1,_=>decide
 | 2,_=>decide
 | 3,_=>decide
theorem aim {l:List ST} (hl:l.length<=12) {B:Int} (hB:0<=B/\B<=6000) (hc:∀ x∈l,An (fun k=>SaJ.f k x.f4) (fun c=>0<=c/\c<=B)/\An (fun k=>SaJ.f k x.f5) (fun c=>0<=c/\c<=B)) :
  ∀ (d i:Nat),i+d=l.length->∀ t:Int,0<=t->t<=(i:Int)*12001->An (fun k=>aeX k l t (i:Int)) (fun c=>t<=c/\c<=t+(d:Int)*(1+2*B))
 | 0,i,hi,t,h0,h1=>by
  refine aaQ ?_;simp only [aeX];exact ab6 (aae ⟨by omega,by omega⟩)
 | d+1,i,hi,t,h0,h1=>by
  have e:((d+1:Nat):Int)*(1+2*B)=(d:Int)*(1+2*B)+(1+2*B):=by rw [show ((d+1:Nat):Int)=(d:Int)+1 from rfl,Int.add_mul,Int.one_mul]
  rw [e];obtain⟨h4,h5⟩:=hc _ (akS (show i < l.length by omega));refine aaQ ?_;simp only [aeX,ap6,aav (show i < 9223372036854775807 by omega)];refine aaE (aaE (An.bind h4 fun c k4=>An.bind h5 fun c' k5=>?_));have e1:wrap64 (wrap64 (wrap64 (t+1)+c)+c')=t+1+c+c':=by unfold wrap64;omega
  rw [e1];exact (aim hl hB hc d (i+1) (by omega) (t+1+c+c') (by omega) (by omega)).mono fun u h=>⟨by omega,by omega⟩
theorem ag8 {l:List ST} (hl:l.length<=12) {B:Int} (hB:0<=B/\B<=6000) (hc:∀ x∈l,An (fun k=>SaJ.f k x.f4) (fun c=>0<=c/\c<=B)/\An (fun k=>SaJ.f k x.f5) (fun c=>0<=c/\c<=B)):An (fun k=>SaJ.f k l) (fun c=>0<=c/\c<=(l.length:Int)*(1+2*B)):=by
 refine aaQ ?_;simp only [SaJ.f];exact (aim hl hB hc l.length 0 (Nat.zero_add _) 0 (by omega) (by omega)).mono fun u h=>⟨h.1,by omega⟩
theorem aeA {B:Int} (h:0<=B):An (fun k=>SaJ.f k []) (fun c=>0<=c/\c<=B) :=
 (ag8 (l:=[]) (by simp) (B:=0) (by omega) (by simp)).mono fun u h'=>⟨h'.1,by simp at h';omega⟩
theorem ahK:∀ n,n<=3->∀ l:List ST,(∀ x∈l,okS n x)->l.length<=12->An (fun k=>SaJ.f k l) (fun c=>0<=c/\c<=(l.length:Int)*cW n)
 | 0,_,l,h,hl=>by
  refine (ag8 hl (B:=0) (by omega) fun x hx=>?_).mono fun u h'=>⟨h'.1,by simp only [cW];omega⟩
  obtain⟨e4,e5,_⟩:aob x:=h x hx;rw [e4,e5];exact⟨aeA (by omega),aeA (by omega)⟩
 | n+1,hn,l,h,hl=>by
  have w0:=aoj n;have w1:=arB (n:=n) (by omega);refine (ag8 hl (B:=5*cW n) (by omega) fun x hx=>?_).mono fun u h'=>⟨h'.1,by rw [show cW (n+1)=1+2*(5*cW n) by simp only [cW];omega];exact h'.2⟩
  rcases h x hx with ⟨e4,e5,_⟩ | ⟨_,_,_,_,l4,l5,h4,h5⟩
  ·rw [e4,e5];exact⟨aeA (by omega),aeA (by omega)⟩
  have m4:(x.f4.length:Int)*cW n<=5*cW n:=Int.mul_le_mul_of_nonneg_right (by omega) (by omega);have m5:(x.f5.length:Int)*cW n<=5*cW n:=Int.mul_le_mul_of_nonneg_right (by omega) (by omega);exact⟨(ahK n (by omega) x.f4 h4 (by omega)).mono fun u k=>⟨k.1,by omega⟩,(ahK n (by omega) x.f5 h5 (by omega)).mono fun u k=>⟨k.1,by omega⟩⟩
/-- What aa answers. -/
def okL (l:List ST):Prop:=l.length<=12/\(∀ x∈l,okS 3 x)/\∃ c:Int,c<=16/\Ev (fun k=>SaJ.f k l) c
theorem apY {b:List Int} (p:Int):∀ (d:Nat) (o:List ST),o.length=d->d<=12->(∀ x∈o,okS 3 x)->An (fun k=>afo k o b p) (fun v=>okL v.1/\v.2=p):=by
 intro d
 induction d with
 | zero=>?_
 | succ d ih=>?_
 all_goals
  intro o ho hd h;obtain⟨c,e,c0,c1⟩:=ahK 3 (by omega) o h (by omega);refine aaQ ?_;simp only [afo];refine An.bind (an8 (P:=fun u=>u=c) e rfl) fun u hu=>?_
  subst hu;refine aaJ (fun g=>?_) (fun g=>aae ⟨⟨by show o.length<=12;omega,h,u,by omega,e⟩,rfl⟩)
 ·rw [ho] at c1;simp at c1
  omega
 have e1:wrap64 ((o.length:Int) - 1)=(d:Int):=by rw [ho,aaK (by omega) (by omega)];omega
 rw [e1];refine aaE (aaE ?_);rw [Int.toNat_natCast];exact ih (o.take d) (by rw [List.length_take];omega) (by omega) fun x hx=>h x (List.mem_of_mem_take hx)
theorem aj4 {b:List Int} (hb:Bt b) {x p:Int} (hx:x<=3) (h:0<=p/\p+9600<=1000000):An (fun k=>amf k b p x) (fun v=>okL v.1/\p<=v.2/\v.2<=p+9600):=by
 have e3:cS 3=1594:=by decide
 simp only [amf];refine An.bind (aao hb 6 (by omega)) fun v h1=>?_
 have e1:wrap64 (1+v.1)=1+v.1:=aaK (by omega) (by omega);have e2:(1+v.1)*cS 3<=6*cS 3:=Int.mul_le_mul_of_nonneg_right (by omega) (by omega);rw [e1];refine An.bind (ajY (n:=3) (ap0 hb 3 (by omega)) hx true (m:=1+v.1) (by omega) v.2 (by omega)) fun c h2=>?_
 exact (apY c.2 c.1.length c.1 rfl (by omega) h2.2.1).mono fun u h3=>⟨h3.1,by omega,by omega⟩
theorem aj5:∀ (d:Nat) (e:SE),okE d e->∀ a:Int,d<=a->a<=5->Ev (fun k=>ahQ k e.f0 e.f1 e.f2 a) true
 | 0,_,h,_,_,_=>h.elim
 | d+1,⟨f0,f1,f2⟩,h,a,ha,ha'=>by
  refine Ev.succ ?_;simp only [ahQ,aiq,ajo];refine aa5 ?_;rcases h with ⟨q0,q1,q2,q3⟩ | ⟨q0,q1,q2,q3⟩ | ⟨q0,q1,q2,x,y,q3,q4,q5⟩
  ·simp only at q0 q1 q2 q3;subst q0;subst q3;exact aa2 (aaM (aa2 (Ev.pure.eq rfl) (by simp;omega)))
  ·simp only at q0 q1 q2 q3;subst q0;subst q3;exact aa5 (aa2 (aaM (aa2 (Ev.pure.eq rfl) (by simp;omega))))
  simp only at q0 q1 q2 q3;subst q2;subst q3;have ew:wrap64 (a - 1)=a - 1:=aaK (by omega) (by omega);have i1:=aj5 d x q4 (a - 1) (by omega) (by omega);have i2:=aj5 d y q5 (a - 1) (by omega) (by omega);rw [ew];refine aa5 (aa5 (aaM (aa2 (aa2 (aa2 (aa2 (Ev.bind i1 (aa2 (aa2 (Ev.bind i2 Ev.pure) (by simp)) rfl)) (by simp)) (by simp)) rfl) (by simp;omega))))
theorem afE {d:Nat} {e:SE} (h:okE d e) (hd:d<=5):Ev (fun k=>ajq k e.f0 e.f1 e.f2) true:=by
 simp only [ajq];exact Ev.bind (aj5 d e h 5 (by omega) (by omega)) Ev.pure
theorem ahZ {x:ST} (h:aob x) (k0:Int):Ev (fun k=>agG k x.f0 x.f1 x.f2 x.f3.f0 x.f3.f1 x.f3.f2 x.f4 x.f5 k0) true:=by
 obtain⟨f0,f1,f2,f3,f4,f5⟩:=x;obtain⟨e4,e5,h⟩:=h;simp only at e4 e5 h;subst e4;subst e5;have h2:f0≠2:=by omega
 have h3:f0≠3:=by omega
 refine Ev.succ ?_;simp only [agG];refine aa5 (Ev.succ ?_);simp only [ae5];refine aa2 (Ev.bind ?_ Ev.pure) (by simp [h3]);simp only [ao1];refine aa5 (Ev.succ ?_);simp only [ahm,agF,agH,aiq,amV];refine aa5 ?_;rcases h with ⟨rfl,q1,q2,q3,q4⟩ | ⟨rfl,q1,q2,q3,q4⟩ | ⟨rfl,q1,q2,q3,q4,q5⟩ | ⟨rfl,q1,q2,q3⟩ | ⟨rfl,q1,q2,q3⟩
 ·refine aa2 (Ev.bind (a:=true) (aa2 (aaM (Ev.pure.eq (by simp;omega)))) (aa2 (Ev.bind (a:=true) (aa5 (Ev.pure.eq (by simp;omega))) (aa2 (Ev.bind (afE q4 (by omega)) Ev.pure) rfl)) rfl))
 ·refine aa5 (aa2 (Ev.bind (a:=true) (aa5 (Ev.pure.eq (by simp;omega))) (aa2 (Ev.bind (a:=true) (aa2 (aaM (Ev.pure.eq (by simp;omega)))) (aa2 (Ev.bind (afE q4 (by omega)) Ev.pure) rfl)) rfl)))
 ·subst q5;exact aa5 (aa5 (aa2 (Ev.bind (a:=true) (aa2 (aaM (Ev.pure.eq (by simp;omega)))) (aa2 (Ev.bind (a:=true) (aa2 (aaM (Ev.pure.eq (by simp;omega)))) (aa2 (Ev.bind (a:=true) (aa2 (aa2 (Ev.pure.eq rfl) rfl) rfl) Ev.pure) rfl)) rfl))))
 ·subst q3;exact aa5 (aa5 (aa5 (aa2 (Ev.bind (a:=true) (aa5 (Ev.pure.eq (by simp;omega))) (aa2 (Ev.bind (a:=true) (aa5 (Ev.pure.eq (by simp;omega))) (aa2 (Ev.bind (a:=true) (aa2 (aa2 (Ev.pure.eq rfl) rfl) rfl) Ev.pure) rfl)) rfl)))))
 exact aa5 (aa5 (aa5 (aa5 (aa2 (Ev.bind (a:=true) (aa5 (Ev.pure.eq (by simp;omega))) (aa2 (Ev.bind (a:=true) (aa5 (Ev.pure.eq (by simp;omega))) (aa2 (Ev.bind (afE q3 (by omega)) Ev.pure) rfl)) rfl))))))
theorem agZ {l:List ST} (hl:l.length<=12) {a:Int} (hx:∀ x∈l,Ev (fun k=>agG k x.f0 x.f1 x.f2 x.f3.f0 x.f3.f1 x.f3.f2 x.f4 x.f5 a) true):∀ (d i:Nat),i+d=l.length->Ev (fun k=>aeY k l a (i:Int)) true
 | 0,i,hi=>by
  refine Ev.succ ?_;simp only [aeY];exact aa5 Ev.pure
 | d+1,i,hi=>by
  refine Ev.succ ?_;simp only [aeY,ap6,aav (show i < 9223372036854775807 by omega)];exact aa2 (aa2 (Ev.bind (hx _ (akS (by omega))) (aa2 (agZ hl hx d (i+1) (by omega)) rfl)))
theorem afb {l:List ST} (hl:l.length<=12) {a:Int} (hx:∀ x∈l,Ev (fun k=>agG k x.f0 x.f1 x.f2 x.f3.f0 x.f3.f1 x.f3.f2 x.f4 x.f5 a) true):Ev (fun k=>SaH.f k l a) true:=by
 refine Ev.succ ?_;simp only [SaH.f];exact agZ hl hx l.length 0 (Nat.zero_add _)
theorem apd:∀ (n:Nat),n<=3->∀ x:ST,okS n x->Ev (fun k=>agG k x.f0 x.f1 x.f2 x.f3.f0 x.f3.f1 x.f3.f2 x.f4 x.f5 (n:Int)) true
 | 0,_,x,h=>ahZ h _
 | n+1,hn,x,h=>by
  rcases h with h | ⟨q0,q1,q2,q3,l4,l5,h4,h5⟩
  ·exact ahZ h _
  have b4:=afb (l:=x.f4) (by omega) fun y hy=>apd n (by omega) y (h4 y hy)
  have b5:=afb (l:=x.f5) (by omega) fun y hy=>apd n (by omega) y (h5 y hy)
  have e:wrap64 (((n+1:Nat):Int) - 1)=(n:Int):=by rw [aaK (by omega) (by omega)];omega
  have j1:Ev (fun k=>afv k ((n+1:Nat):Int) false x.f0 x.f1 x.f2 x.f3.f0 x.f3.f1 x.f3.f2 x.f4 x.f5) true:=by
   refine Ev.succ ?_;simp only [afv,agF,agH,aiq,q1,q2,e];exact aa5 (Ev.bind (a:=true) (aa5 (Ev.pure.eq rfl)) (aa2 (Ev.bind (a:=true) (aa5 (Ev.pure.eq rfl)) (aa2 (Ev.bind (afE q3 (by omega)) (aa2 (Ev.bind b4 (aa2 (Ev.bind b5 Ev.pure) rfl)) rfl)) rfl)) rfl))
  refine Ev.succ ?_;simp only [agG];rcases q0 with q0 | ⟨q0,q5⟩
  ·refine aa2 (Ev.succ ?_) q0;simp only [ae5];exact aa5 (aa5 (aa5 j1))
  refine aa5 (Ev.succ ?_);simp only [ae5];refine aa5 (aa5 (aa2 ?_ q0)) (by simp [q0]);rw [q5] at j1 ⊢;exact j1
theorem ahs {l:List ST} (h:okL l):Ev (fun k=>amX k l) true:=by
 obtain⟨h1,h2,c,h3,h4⟩:=h;simp only [amX];exact Ev.bind (afb h1 fun x hx=>apd 3 (by omega) x (h2 x hx)) (aa2 (Ev.bind h4 (Ev.pure.eq (by simpa using h3))) rfl)
/-- Valid quads whose targets are t at most. -/
def upQ (t:Int) (c:List SQ):Prop:=∀ q∈c,∀ m:Int,t < m->QV (q_ q) m
theorem r4:rg 4:=by decide
theorem upQ.le {t u:Int} {c:List SQ} (h:upQ t c) (hu:t<=u):upQ u c:=fun q hq m hm=>h q hq m (by omega)
theorem upQ.app {t:Int} {c d:List SQ} (h:upQ t c) (h':upQ t d):upQ t (c ++ d):=fun q hq=>(List.mem_append.1 hq).elim (h q) (h' q)
theorem upQ.one {t:Int} {q:SQ} (h:∀ m:Int,t < m->QV (q_ q) m):upQ t [q]:=fun x hx=>by rw [List.mem_singleton.1 hx];exact h
theorem apV (x y:SE):aaB [x,y] 0=x:=rfl
theorem apU (x y:SE):aaB [x,y] 1=y:=rfl
def cX:Nat->Nat
 | 0=>0
 | d+1=>2*cX d+1
theorem arA {d:Nat} (h:d<=3):cX d<=7:=by
 match d,h with
 | 0,_=>decide
 | 1,_=>decide
 | 2,_=>decide
 | 3,_=>decide
theorem apW {c:List SQ} {i:Nat} (h:i < c.length):qa c i∈c:=by
 unfold qa;rw [show c.getD i z31=c[i] by simp [h]];exact List.getElem_mem _
theorem af9:∀ (d:Nat),d<=3->∀ (e:SE),okE d e->∀ a:Int,0<=a->a+d<=12->An (fun k=>aei k e.f0 e.f1 e.f2 a) (fun c=>1<=c.length/\c.length<=cX d/\upQ (-1) c)
 | 0,_,_,h,_,_,_=>h.elim
 | d+1,hd,⟨f0,f1,f2⟩,h,a,ha,ha'=>by
  have c7:=arA (d:=d) (by omega);refine aaQ ?_;simp only [aei];rcases h with ⟨q0,q1,q2,q3⟩ | ⟨q0,q1,q2,q3⟩ | ⟨q0,q1,q2,x,y,q3,q4,q5⟩
  ·simp only at q0 q1 q2;exact aaE (aae ⟨by simp,by simp [cX],upQ.one fun m hm=>Or.inl ⟨rfl,⟨ha,by simp only [q_];omega⟩,rfl,rfl,by simp only [q_];omega,by simp only [q_];omega⟩⟩)
  ·simp only at q0 q1 q2;exact ab6 (aaE (aae ⟨by simp,by simp [cX],upQ.one fun m hm=>Or.inr (Or.inl ⟨rfl,⟨ha,by simp only [q_];omega⟩,⟨q1,by simp only [q_];omega⟩,rfl,rfl⟩)⟩))
  simp only at q0 q1 q2 q3;subst q3
  have hd0:1<=d:=by
   cases d with
   | zero=>exact q4.elim
   | succ d=>omega
  have ew:wrap64 (a+1)=a+1:=aaK (by omega) (by omega);simp only [ew,apV,apU];refine ab6 (ab6 (aaE (An.bind (af9 d (by omega) x q4 a ha (by omega)) fun c h1=>aaE (An.bind (af9 d (by omega) y q5 (a+1) (by omega) (by omega)) fun c' h2=>aaE (abe (aaE (aae ?_) ?_))) (by simp)) (by simp)))
  ·refine⟨by simp;omega,by simp [cX];omega,upQ.app (upQ.app h1.2.2 h2.2.2) (upQ.one fun m hm=>Or.inr (Or.inr (Or.inl ⟨rfl,⟨ha,by simp only [q_];omega⟩,⟨ha,by simp only [q_];omega⟩,⟨by simp only [q_];omega,by simp only [q_];omega⟩,q0,q1⟩)))⟩
  simp only [List.length_append];omega
theorem aef {e:SE} (h:okE 3 e):An (fun k=>aei k e.f0 e.f1 e.f2 4) (fun c=>1<=c.length/\c.length<=7/\upQ (-1) c):=af9 3 (by omega) e h 4 (by omega) (by omega)
theorem aii:An (fun k=>aei k 0 0 [] 4) (fun c=>1<=c.length/\c.length<=7/\upQ (-1) c):=aef (e:=⟨0,0,[]⟩) (Or.inl ⟨rfl,by simp,by simp,rfl⟩)
def cZ:Nat->Nat
 | 0=>8
 | n+1=>9+10*cZ n
theorem arz {n:Nat} (h:n<=3):cZ n<=8999/\8<=cZ n:=by
 match n,h with
 | 0,_=>decide
 | 1,_=>decide
 | 2,_=>decide
 | 3,_=>decide
/-- The code of a statement that begins at a. -/
def ak6 (Z:Nat) (A:Int) (x:ST):Prop:=∀ a:Int,0<=a->a<=A->An (fun k=>ajs k x.f0 x.f1 x.f2 x.f3.f0 x.f3.f1 x.f3.f2 x.f4 x.f5 a) (fun c=>c.length<=Z/\upQ (a+c.length) c)
theorem ajL {l:List ST} (hl:l.length<=12) {Z:Nat} (hZ:Z<=9000) {A:Int} (hA:A<=1000000) (hx:∀ x∈l,ak6 Z A x) {a:Int} (ha:0<=a) (ha':a+108000<=A):∀ (d i:Nat),i+d=l.length->∀ o:List SQ,o.length<=i*Z->upQ (a+o.length) o->An (fun k=>aeV k l a o (i:Int)) (fun c=>c.length<=l.length*Z/\upQ (a+c.length) c)
 | 0,i,hi,o,ho,hu=>by
  refine aaQ ?_;simp only [aeV];exact ab6 (aae ⟨by rw [show l.length=i by omega];exact ho,hu⟩)
 | d+1,i,hi,o,ho,hu=>by
  have m1:i*Z<=12*9000:=Nat.mul_le_mul (by omega) hZ;refine aaQ ?_;simp only [aeV,ap6,aav (show i < 9223372036854775807 by omega)];have ew:wrap64 (a+(o.length:Int))=a+o.length:=aaK (by omega) (by omega);rw [ew];refine aaE (aaE (An.bind (hx _ (akS (by omega)) (a+o.length) (by omega) (by omega)) fun c h1=>aaE (ajL hl hZ hA hx ha ha' d (i+1) (by omega) (o ++ c) ?_ ?_)))
  ·rw [List.length_append,Nat.add_mul,Nat.one_mul];omega
  rw [List.length_append];exact upQ.app (hu.le (by omega)) (h1.2.le (by omega))
theorem aj3 {l:List ST} (hl:l.length<=12) {Z:Nat} (hZ:Z<=9000) {A:Int} (hA:A<=1000000) (hx:∀ x∈l,ak6 Z A x) {a:Int} (ha:0<=a) (ha':a+108000<=A):An (fun k=>SaS.f k l a) (fun c=>c.length<=l.length*Z/\upQ (a+c.length) c):=by
 refine aaQ ?_;simp only [SaS.f];exact ajL hl hZ hA hx ha ha' l.length 0 (Nat.zero_add _) [] (by simp) (fun q hq=>by cases hq)
theorem ajX {x:ST} (h:aob x) (A:Int):ak6 8 A x:=by
 intro a ha ha';obtain⟨f0,f1,f2,f3,f4,f5⟩:=x;obtain⟨_,_,h⟩:=h;simp only at h ⊢;refine aaQ ?_;simp only [ajs];rcases h with ⟨rfl,q1,q2,q3,q4⟩ | ⟨rfl,q1,q2,q3,q4⟩ | ⟨rfl,q1,q2,q3,q4,rfl⟩ | ⟨rfl,q1,q2,rfl⟩ | ⟨rfl,q1,q2,q3⟩
 ·refine An.bind (aef q4) fun c h1=>ab6 (ab6 (aaE (aaE (aae ⟨by simp;omega,upQ.app (h1.2.2.le (by omega)) (upQ.one fun m hm=>Or.inr (Or.inl ⟨rfl,⟨q1,by simp only [q_];omega⟩,r4,rfl,rfl⟩))⟩))))
 ·refine An.bind (aef q4) fun c h1=>ab6 (ab6 (ab6 (aaE (aaE (aae ⟨by simp;omega,upQ.app (h1.2.2.le (by omega)) (upQ.one fun m hm=>Or.inr (Or.inr (Or.inr (Or.inr (Or.inr (Or.inl ⟨rfl,rfl,r4,rfl,q2,q3⟩))))))⟩)))))
 ·refine An.bind aii fun c h1=>ab6 (ab6 (ab6 (ab6 (ab6 (aaE (aae ⟨by simp,upQ.one fun m hm=>Or.inr (Or.inr (Or.inr (Or.inr (Or.inr (Or.inr (Or.inl ⟨rfl,⟨q1,by simp only [q_];omega⟩,rfl,rfl,q3,q4⟩))))))⟩))))))
 ·refine An.bind aii fun c h1=>ab6 (ab6 (ab6 (ab6 (ab6 (ab6 (aae ⟨by simp,upQ.one fun m hm=>Or.inr (Or.inr (Or.inr (Or.inr (Or.inr (Or.inr (Or.inr (Or.inr ⟨Or.inl rfl,rfl,rfl,rfl,rfl⟩)))))))⟩))))))
 refine An.bind (aef q3) fun c h1=>ab6 (ab6 (ab6 (ab6 (aaE (aaE (aae ⟨by simp;omega,upQ.app (h1.2.2.le (by omega)) (upQ.one fun m hm=>Or.inr (Or.inr (Or.inr (Or.inr (Or.inr (Or.inr (Or.inr (Or.inl ⟨rfl,rfl,r4,rfl,rfl⟩))))))))⟩))))))
theorem al2 {n m:Int} (h:0<=n) (h':n < m):QV (q_ ⟨4,0,0,0,n⟩) m:=Or.inr (Or.inr (Or.inr (Or.inl ⟨rfl,rfl,rfl,rfl,h,h'⟩)))
theorem aj1 {n m:Int} (h:0<=n) (h':n < m):QV (q_ ⟨5,0,4,0,n⟩) m:=Or.inr (Or.inr (Or.inr (Or.inr (Or.inl ⟨rfl,rfl,r4,rfl,h,h'⟩))))
theorem ajh:∀ n,n<=3->∀ x:ST,okS n x->ak6 (cZ n) (1000000 - 200000*n) x
 | 0,_,x,h=>ajX h _
 | n+1,hn,x,h=>by
  obtain⟨z1,z0⟩:=arz (n:=n) (by omega);rcases h with h | ⟨q0,q1,q2,q3,l4,l5,h4,h5⟩
  ·intro a ha ha';exact (ajX h _ a ha ha').mono fun c hc=>⟨by simp only [cZ];omega,hc.2⟩
  intro a ha ha';have m4:x.f4.length*cZ n<=5*cZ n:=Nat.mul_le_mul_right _ l4;have m5:x.f5.length*cZ n<=5*cZ n:=Nat.mul_le_mul_right _ l5;have c4:∀ u:Int,0<=u->u<=a+10->An (fun k=>SaS.f k x.f4 u) (fun c=>c.length<=x.f4.length*cZ n/\upQ (u+c.length) c):=fun u hu hu'=>aj3 (by omega) (by omega) (A:=1000000 - 200000*n) (by omega) (fun y hy=>ajh n (by omega) y (h4 y hy)) hu (by omega)
  have c5:∀ u:Int,0<=u->u<=a+50000->An (fun k=>SaS.f k x.f5 u) (fun c=>c.length<=x.f5.length*cZ n/\upQ (u+c.length) c):=fun u hu hu'=>aj3 (by omega) (by omega) (A:=1000000 - 200000*n) (by omega) (fun y hy=>ajh n (by omega) y (h5 y hy)) hu (by omega)
  refine aaQ ?_;simp only [ajs];refine An.bind (aef q3) fun _ _=>?_
  rcases q0 with q0 | ⟨q0,q5⟩
  ·refine aaE (An.bind (aaQ ?_) fun c hc=>aae hc) q0;simp only [aky];refine An.bind (aef q3) fun e h1=>?_
   have w1:wrap64 (wrap64 (a+(e.length:Int))+1)=a+e.length+1:=by unfold wrap64;omega
   simp only [w1];refine An.bind (c4 _ (by omega) (by omega)) fun b h2=>?_
   have w2:wrap64 (a+(e.length:Int)+1+(b.length:Int))=a+e.length+1+b.length:=by unfold wrap64;omega
   have w3:wrap64 (a+(e.length:Int)+1+(b.length:Int)+1)=a+e.length+1+b.length+1:=by unfold wrap64;omega
   simp only [w2,w3];refine aaJ (fun z=>?_) (fun z=>?_)
   ·refine aaE (abe (aaE (aae ⟨?_,?_⟩) ?_))
    ·simp only [List.length_append,List.length_cons,List.length_nil,cZ];omega
    ·simp only [List.length_append,List.length_cons,List.length_nil];exact upQ.app (upQ.app (h1.2.2.le (by omega)) (upQ.one fun m hm=>aj1 (by omega) (by omega))) (h2.2.le (by omega))
    simp only [List.length_append,List.length_cons,List.length_nil];omega
   refine An.bind (c5 _ (by omega) (by omega)) fun d h3=>?_
   have w4:wrap64 (a+(e.length:Int)+1+(b.length:Int)+1+(d.length:Int))=a+e.length+1+b.length+1+d.length:=by unfold wrap64;omega
   simp only [w4];refine aaE (abe (aaE (abe (aaE (abe (aaE (aae ⟨?_,?_⟩) ?_)) ?_)) ?_))
   ·simp only [List.length_append,List.length_cons,List.length_nil,cZ];omega
   ·simp only [List.length_append,List.length_cons,List.length_nil];exact upQ.app (upQ.app (upQ.app (upQ.app (h1.2.2.le (by omega)) (upQ.one fun m hm=>aj1 (by omega) (by omega))) (h2.2.le (by omega))) (upQ.one fun m hm=>al2 (by omega) (by omega))) (h3.2.le (by omega))
   all_goals
    simp only [List.length_append,List.length_cons,List.length_nil];omega
  refine ab6 (aaE (An.bind (aaQ ?_) fun c hc=>aae hc) q0);simp only [akx];refine An.bind (aef q3) fun e h1=>?_
  have w1:wrap64 (wrap64 (a+(e.length:Int))+1)=a+e.length+1:=by unfold wrap64;omega
  simp only [w1];refine An.bind (c4 _ (by omega) (by omega)) fun b h2=>?_
  have w2:wrap64 (wrap64 (a+(e.length:Int)+1+(b.length:Int))+1)=a+e.length+1+b.length+1:=by unfold wrap64;omega
  simp only [w2];refine aaE (abe (aaE (abe (aaE (aae ⟨?_,?_⟩) ?_)) ?_))
  ·simp only [List.length_append,List.length_cons,List.length_nil,cZ];omega
  ·simp only [List.length_append,List.length_cons,List.length_nil];exact upQ.app (upQ.app (upQ.app (h1.2.2.le (by omega)) (upQ.one fun m hm=>aj1 (by omega) (by omega))) (h2.2.le (by omega))) (upQ.one fun m hm=>al2 (by omega) (by omega))
  all_goals
   simp only [List.length_append,List.length_cons,List.length_nil];omega
theorem agD {l:List ST} (h:okL l):An (fun k=>amD k l) (fun v=>v.1.length<=600->CV (qs v.1)):=by
 have m1:l.length*cZ 3<=12*9000:=Nat.mul_le_mul h.1 (by decide);simp only [amD];refine An.bind (an8 (P:=fun u=>u=true) (ahs h) rfl) fun u hu=>aaE (An.bind (aj3 (Z:=cZ 3) (A:=1000000 - 200000*(3:Nat)) (by have:=h.1;omega) (by decide) (by decide) (fun y hy=>ajh 3 (by omega) y (h.2.1 y hy)) (a:=0) (by omega) (by decide)) fun c h1=>aaE (aae ?_)) hu
 intro h6;refine⟨by simp [qs],by simpa [qs] using h6,?_,?_⟩
 ·rw [ab5];intro i hi;rw [acE];have hm:qa (c ++ [(⟨10,0,0,0,0⟩:SQ)]) i∈c ++ [(⟨10,0,0,0,0⟩:SQ)]:=apW hi;rcases List.mem_append.1 hm with q|q
  ·exact h1.2 _ q _ (by simp;omega)
  rw [List.mem_singleton.1 q];exact Or.inr (Or.inr (Or.inr (Or.inr (Or.inr (Or.inr (Or.inr (Or.inr ⟨Or.inr rfl,rfl,rfl,rfl,rfl⟩)))))))
 refine Or.inl ?_;rw [ab5,acE];simp [qa,q_]
end Go.Proofs.YtdkkdiiceaomaaaGreat.M
namespace Go.Proofs.YtdkkdiiceaomaaaGreat.M
open Go.Proofs.Tryz Go.RowKit Go.Proofs.YtdkkdiiceaomaaaGreatW.PrintWords Go.Proofs.YtdkkdiiceaomaaaGreatW.PrintLast Go.Proofs.YtdkkdiiceaomaaaGreatW.PrintMore
attribute [local go_sem] aas aaq aaH aaG aai aah aar aap
end Go.Proofs.YtdkkdiiceaomaaaGreat.M
namespace Go.Proofs.YtdkkdiiceaomaaaGreat.M
open Go.Proofs.Tryz Go.RowKit Go.Proofs.YtdkkdiiceaomaaaGreatW.PrintWords Go.Proofs.YtdkkdiiceaomaaaGreatW.PrintLast Go.Proofs.YtdkkdiiceaomaaaGreatW.PrintMore PM
theorem akd {a b:Nat} (h:∀ r,a.testBit r=true->b.testBit r=true):a<=b:=by
 have e:a ||| b=b:=by
  apply Nat.eq_of_testBit_eq
  intro r;rw [Nat.testBit_or];cases h1:a.testBit r
  ·rfl
  rw [h r h1];rfl
 rw [<- e];exact Nat.left_le_or
theorem sum_set:∀ (L:List Nat) (i x:Nat),i < L.length->(L.set i x).sum+L.getD i 0=L.sum+x
 | a :: L,0,x,h=>by simp;omega
 | a :: L,i+1,x,h=>by
  have:=sum_set L i x (by simpa using h)
  simp only [List.set_cons_succ,List.sum_cons,List.getD_cons_succ];omega
theorem aoa:∀ (L:List Nat),(∀ x∈L,x < 4096)->L.sum<=4096*L.length
 | [],h=>by simp
 | a :: L,h=>by
  have:=aoa L (fun x hx=>h x (List.mem_cons_of_mem _ hx))
  have:=h a List.mem_cons_self
  simp only [List.sum_cons,List.length_cons];omega
theorem aoX {n:Nat} {L:List Nat} (h:Tab n L):L.sum<=4096*n:=by
 rw [<- h.1];refine aoa L fun x hx=>?_
 obtain⟨i,hi,e⟩:=List.getElem_of_mem hx
 have:=h.2 i
 rw [List.getD_eq_getElem?_getD,List.getElem?_eq_getElem hi] at this;rw [<- e];exact this
theorem aio {c:List SQ} (h:CV (qs c)) {L:List Nat} (hL:Tab c.length L) {i:Nat} (hi:i < c.length) (r:Nat):(bf c L i).testBit r=true↔((∃ j∈nx (q_ (qa c i)) i,(L.getD j 0).testBit r=true)/\sets (q_ (qa c i))≠r)\/uses (q_ (qa c i)) r:=by
 unfold bf;rw [aps (abU h hi) (ak0 hL _ _)];unfold aft;rw [aid]
 simp
/-- Below the next round,and within what is live. -/
structure Good (c:List SQ) (L:List Nat):Prop where
 tab:Tab c.length L
 up:∀ i,i < c.length->∀ r,(L.getD i 0).testBit r=true->(bf c L i).testBit r=true
 sound:∀ i,i < c.length->∀ r,(L.getD i 0).testBit r=true->Live (qs c) i r
theorem Good.step {c:List SQ} (h:CV (qs c)) {L:List Nat} (g:Good c L) {i:Nat} (hi:i < c.length):Good c (L.set i (bf c L i)):=by
 have hT:=g.tab.set i (bf c L i) (anC h g.tab hi);have hget:∀ j,(L.set i (bf c L i)).getD j 0=if j=i then bf c L i else L.getD j 0:=fun j=>ad9 L i j _ 0 (by rw [g.tab.1];exact hi)
 have hmono:∀ j r,j < c.length->(L.getD j 0).testBit r=true->((L.set i (bf c L i)).getD j 0).testBit r=true:=by
  intro j r hj hb;rw [hget];split
  ·rename_i e
   subst e;exact g.up j hi r hb
  exact hb
 have hbf:∀ j r,j < c.length->(bf c L j).testBit r=true->(bf c (L.set i (bf c L i)) j).testBit r=true:=by
  intro j r hj hb;rw [aio h g.tab hj] at hb;rw [aio h hT hj];rcases hb with ⟨⟨t,ht,hb⟩,hs⟩|hb
  ·exact .inl ⟨⟨t,ht,hmono t r (alc h hj t ht) hb⟩,hs⟩
  exact .inr hb
 refine⟨hT,fun j hj r hb=>?_,fun j hj r hb=>?_⟩
 ·rw [hget] at hb;split at hb
  ·rename_i e
   subst e;exact hbf j r hj hb
  exact hbf j r hj (g.up j hj r hb)
 rw [hget] at hb;split at hb
 ·rename_i e
  subst e;rw [aio h g.tab hj] at hb;rcases hb with ⟨⟨t,ht,hb⟩,hs⟩|hb
  ·exact Live.flow (by rw [ab5];exact hj) (by rw [acE];exact hs) (by rw [acE];exact ht) (g.sound t (alc h hj t ht) r hb)
  exact Live.use (by rw [ab5];exact hj) (by rw [acE];exact hb)
 exact g.sound j hj r hb
theorem ajB {c:List SQ} (h:CV (qs c)):∀ (i:Nat),i<=c.length->∀ (L:List Nat) (b:Bool),Good c L->Good c (rnd c i L b).1
 | 0,hi,L,b,g=>g
 | i+1,hi,L,b,g=>ajB h i (by omega) _ _ (g.step h (by omega))
theorem ai3 {c:List SQ}:∀ (i:Nat),i<=c.length->∀ (L:List Nat) (b:Bool),L.length=c.length->(rnd c i L b).2=false->b=false/\(rnd c i L b).1=L/\∀ j,j < i->bf c L j=L.getD j 0
 | 0,hi,L,b,hl,e=>⟨e,rfl,fun j hj=>by omega⟩
 | i+1,hi,L,b,hl,e=>by
  obtain⟨e1,e2,e3⟩:=ai3 i (by omega) (L.set i (bf c L i)) _ (by rw [List.length_set];exact hl) e;have f:=Bool.or_eq_false_iff.1 e1;have f2:bf c L i=L.getD i 0:=by simpa using f.2
  have f3:L.set i (bf c L i)=L:=by rw [f2];exact afH (by omega)
  rw [f3] at e3;refine⟨f.1,e2.trans f3,fun j hj=>?_⟩;by_cases hji:j=i
  ·rw [hji];exact f2
  exact e3 j (by omega)
theorem akX {c:List SQ} (h:CV (qs c)):∀ (i:Nat),i<=c.length->∀ (L:List Nat) (b:Bool),Good c L->L.sum<=(rnd c i L b).1.sum/\((rnd c i L b).2=true->b=true\/L.sum < (rnd c i L b).1.sum)
 | 0,hi,L,b,g=>⟨Nat.le_refl _,fun e=>.inl e⟩
 | i+1,hi,L,b,g=>by
  obtain⟨h1,h2⟩:=akX h i (by omega) (L.set i (bf c L i)) (b || !decide (bf c L i=L.getD i 0)) (g.step h (i:=i) (by omega));have hs:=sum_set L i (bf c L i) (by rw [g.tab.1];omega);have hle:=akd (g.up i (by omega));simp only [rnd];refine⟨by omega,fun e=>?_⟩;rcases h2 e with e2|e2
  ·rcases Bool.or_eq_true_iff.1 e2 with e3|e3
   ·exact .inl e3
   have:bf c L i≠L.getD i 0:=by simpa using e3
   exact .inr (by omega)
  exact .inr (by omega)
/-- The table of what is live before each quad. -/
structure LT (c:List SQ) (L:List Nat):Prop where
 tab:Tab c.length L
 iff:∀ i,i < c.length->∀ r,(L.getD i 0).testBit r=true↔Live (qs c) i r
theorem aib {c:List SQ} (h:CV (qs c)):∀ (m:Nat) (L:List Nat),Good c L->4096*c.length < m+L.sum->∃ T,LT c T/\Ev (fun k=>aeR k c (rows L)) (rows T)/\Ev (fun k=>afu k c (ints L) true) (ints T)
 | 0,L,g,hm=>by
  have:=aoX g.tab
  omega
 | m+1,L,g,hm=>by
  have h6:=abh h;have hw:wrap64 ((c.length:Int) - 1)=(c.length:Int) - 1:=aaK (by omega) (by omega);have hr:=Sb4.out h c.length (Nat.le_refl _) L false g.tab;have hi:∀ v,Ev (fun k=>afu k c (ints (rnd c c.length L false).1) (rnd c c.length L false).2) v->Ev (fun k=>adP k c (ints L) false ((c.length:Int) - 1)) v:=fun v=>Sae.out h c.length (Nat.le_refl _) L false g.tab
  cases e:(rnd c c.length L false).2 with
  | false =>
   obtain⟨_,e2,e3⟩:=ai3 c.length (Nat.le_refl _) L false g.tab.1 e;refine⟨L,⟨g.tab,fun i hi r=>?_⟩,?_,?_⟩
   ·refine live_of_closed (c:=qs c) (T:=fun i r=>i < c.length->(L.getD i 0).testBit r=true) (fun i r hi' ht=>g.sound i (by rwa [ab5] at hi') r (ht (by rwa [ab5] at hi'))) ?_ ?_ i r (by rw [ab5];exact hi) |>.symm.trans ⟨fun x=>x hi,fun x _=>x⟩ |>.symm
    ·intro i r _ hu hi;rw [<- e3 i hi,aio h g.tab hi];rw [acE] at hu;exact .inr hu
    intro i j r _ hs hj ht hi;rw [<- e3 i hi,aio h g.tab hi];rw [acE] at hs hj;exact .inl ⟨⟨j,hj,ht (alc h hi j hj)⟩,hs⟩
   ·refine Ev.succ ?_;simp only [aeR,Sb4.f,hw];refine Ev.bind hr ?_;refine aa5 (Ev.eq Ev.pure ?_) ?_
    ·rw [e2]
    simp [e]
   refine Ev.succ ?_;simp only [afu,hw];refine aa2 (hi _ ?_);rw [e,e2];refine Ev.succ ?_;simp only [afu];exact aa5 Ev.pure
  | true =>
   have hs:=(akX h c.length (Nat.le_refl _) L false g).2 e
   have hs':L.sum < (rnd c c.length L false).1.sum:=by
    rcases hs with x|x
    ·cases x
    exact x
   obtain⟨T,t1,t2,t3⟩:=aib h m (rnd c c.length L false).1 (ajB h c.length (Nat.le_refl _) L false g) (by omega);refine⟨T,t1,?_,?_⟩
   ·refine Ev.succ ?_;simp only [aeR,Sb4.f,hw];refine Ev.bind hr (aa2 t2 ?_);exact e
   refine Ev.succ ?_;simp only [afu,hw];refine aa2 (hi _ ?_);rw [e];exact t3
theorem alr {c:List SQ}:Good c (List.replicate c.length 0):=by
 have z:∀ i,(List.replicate c.length 0).getD i 0=0:=by
  intro i;rw [List.getD_eq_getElem?_getD,List.getElem?_replicate];split <;> rfl
 refine⟨⟨by simp,fun i=>by rw [z];decide⟩,fun i hi r hb=>?_,fun i hi r hb=>?_⟩ <;>
 ·rw [z] at hb;simp at hb
theorem aiD {c:List SQ} (h6:c.length<=600) {v:List (List Bool)} (g:Ev (fun k=>aeR k c (rows (List.replicate c.length 0))) v):∀ (d p:Nat),p+d=c.length->Ev (fun k=>afq k c (rows (List.replicate p 0)) (p:Int)) v
 | 0,p,hp=>by
  refine Ev.succ ?_;simp only [afq];refine aa5 ?_;rw [show p=c.length from by omega];exact g
 | d+1,p,hp=>by
  refine Ev.succ ?_;simp only [afq,ahv,List.length_replicate,aav (show p < 9223372036854775807 by omega)];refine aa2 (aa2 (aa2 ?_))
  have:=aiD h6 g d (p+1) (by omega)
  rw [List.replicate_succ',show rows (List.replicate p 0 ++ [0])=rows (List.replicate p 0) ++ [List.replicate 12 false] from by simp [rows,row_zero]] at this;exact this
/-- Both answer one table: what is live. -/
theorem api {c:List SQ} (h:CV (qs c)):∃ T,LT c T/\Ev (fun k=>Sax.f k c) (rows T)/\Ev (fun k=>Sae.f k c) (ints T):=by
 have h6:=abh h;obtain⟨T,t1,t2,t3⟩:=aib h (4096*c.length+1) (List.replicate c.length 0) alr (by omega);refine⟨T,t1,?_,?_⟩
 ·simp only [Sax.f];refine aaM (Ev.bind (acW c) (aa2 ?_ (decide_eq_true h)));exact aiD h6.2 t2 c.length 0 (by omega)
 simp only [Sae.f,Int.toNat_natCast];refine aa2 (aa2 ?_);rw [show List.replicate c.length (0:Int)=ints (List.replicate c.length 0) from by simp [ints]];exact t3
/-- A quad is dead. -/
def dd (c:List SQ) (L:List Nat) (i:Nat):Bool:=((qa c i).f0 == 1 || (qa c i).f0 == 2 || (qa c i).f0 == 3) && !(aft (q_ (qa c i)) i L).testBit (qa c i).f1.toNat
def ajd (c:List SQ) (L:List Nat) (i:Nat):SQ:=if dd c L i=true then ⟨4,0,0,0,((i+1:Nat):Int)⟩ else qa c i
def ag7 (L:List Nat) (c:List SQ):List SQ:=(List.range c.length).map (ajd c L)
theorem ac8 (L:List Nat) (c:List SQ):(ag7 L c).length=c.length:=by simp [ag7]
theorem ag6 (L:List Nat) {c:List SQ} {i:Nat} (h:i < c.length):qa (ag7 L c) i=ajd c L i:=by simp [ag7,qa,List.getD_eq_getElem?_getD,h]
theorem ank {s:Nat} {r:Int} (h0:0<=r) (h1:r < 12):acn false (row s) r=s.testBit r.toNat:=by
 have:=ac4 false (row s) r.toNat
 rw [Int.toNat_of_nonneg h0] at this;rw [this];exact aeb _ _ (by omega)
theorem arC {c:List SQ} (h:CV (qs c)) {i:Nat} (hi:i < c.length) (L:List Nat):alW (qa c i).f0 (qa c i).f1 (qa c i).f2 (qa c i).f3 (qa c i).f4 (row (aft (q_ (qa c i)) i L))=some (dd c L i):=by
 obtain⟨⟨d0,d1⟩,_⟩:=abF (abU h hi);simp only [q_] at d0 d1;unfold alW dd;rw [ank d0 d1,abP];by_cases c1:(qa c i).f0=1
 ·rw [if_pos c1,if_pos d0,if_pos (show (qa c i).f1 < ((12:Nat):Int) by omega)];simp [c1]
 rw [if_neg c1];by_cases c2:(qa c i).f0=2
 ·rw [if_pos c2,if_pos d0,if_pos (show (qa c i).f1 < ((12:Nat):Int) by omega)];simp [c2]
 rw [if_neg c2];by_cases c3:(qa c i).f0=3
 ·rw [if_pos c3,if_pos d0,if_pos (show (qa c i).f1 < ((12:Nat):Int) by omega)];simp [c3]
 rw [if_neg c3];simp [c1,c2,c3]
theorem Sar.out {c:List SQ} (h:CV (qs c)) {L:List Nat} (hL:Tab c.length L):∀ (d p:Nat),p+d=c.length->Ev (fun k=>aeS k c ((ag7 L c).take p) (rows L) (p:Int)) (ag7 L c,true)
 | 0,p,hp=>by
  refine Ev.succ ?_;simp only [aeS];refine aa5 (Ev.eq Ev.pure ?_);rw [List.take_of_length_le (by rw [ac8];omega)]
 | d+1,p,hp=>by
  have h6:=abh h;have hi:p < c.length:=by omega
  refine Ev.succ ?_;have lt:((ag7 L c).take p).length < 3518437208883:=by rw [List.length_take,ac8];omega
  have ih:=Sar.out h hL d (p+1) (by omega)
  have e:(ag7 L c).take p ++ [ajd c L p]=(ag7 L c).take (p+1):=by
   rw [<- ag6 L hi];exact ac6 _ (by rw [ac8];exact hi)
  rw [<- e] at ih;simp only [aeS,ac9,aav (show p < 9223372036854775807 by omega)];refine aa2 (aa2 (Ev.bind (aoF h hL hi) ?_));rw [arC h hi];refine aaM ?_;by_cases g:dd c L p=true
  ·rw [ajd,if_pos g] at ih;exact aa2 (aa2 ih lt)
  rw [ajd,if_neg g] at ih;exact aa5 (aa2 ih lt)
theorem aje {c:List SQ} (h:CV (qs c)) (L:List Nat):CV (qs (ag7 L c)):=by
 have h6:=abh h;refine alC (by rw [ac8];exact h6.1) (by rw [ac8];exact h6.2) (fun i hi=>?_) ?_
 ·rw [ac8] at hi ⊢;rw [ag6 L hi,ajd];split
  ·rename_i g
   have lt:i+1 < c.length:=by
    have hl:=aeg h
    have:i≠c.length - 1:=by
     intro e;rw [<- e] at hl;unfold dd at g;rcases hl with hl|hl <;> simp [hl] at g
    omega
   exact .inr (.inr (.inr (.inl ⟨rfl,rfl,rfl,rfl,by show (0:Int)<=((i+1:Nat):Int);omega,by show ((i+1:Nat):Int) < (c.length:Int);omega⟩)))
  exact abU h hi
 rw [ac8,ag6 L (by omega),ajd];split
 ·exact .inr rfl
 exact aeg h
theorem alB {c:List SQ} (h:CV (qs c)):∃ v,v.length=c.length/\CV (qs v)/\Ev (fun k=>Sar.f k c) (v,true):=by
 obtain⟨L,hL,e1,_⟩:=api h;refine⟨ag7 L c,ac8 L c,aje h L,?_⟩;simp only [Sar.f];exact aaM (Ev.bind (acW c) (aa2 (Ev.bind e1 (Sar.out h hL.1 c.length 0 (Nat.zero_add _))) (decide_eq_true h)))
/-- One pass of the five answers v for c. -/
def Step:Nat->List SQ->List SQ->Prop
 | 0,c,v=>Ev (fun k=>Sav.f k c) (v,true)
 | 1,c,v=>Ev (fun k=>Saq.f k c) (v,true)
 | 2,c,v=>Ev (fun k=>Saw.f k c) (v,true)
 | 3,c,v=>Ev (fun k=>Sar.f k c) (v,true)
 | _,c,v=>Ev (fun k=>SaD.f k c) (v,true)
theorem step0 {c:List SQ} (h:CV (qs c)):∃ v,CV (qs v)/\Step 0 c v:=by
 obtain⟨U,hU,e⟩:=amz h;exact⟨_,aj9 h hU.1.1,e⟩
theorem step1 {c:List SQ} (h:CV (qs c)):∃ v,CV (qs v)/\Step 1 c v:=by
 obtain⟨U,hU,e⟩:=aqT h;exact⟨_,ajg h hU.1.1,e⟩
theorem step2 {c:List SQ} (h:CV (qs c)):∃ v,CV (qs v)/\Step 2 c v:=⟨_,aj6 h,aqQ h⟩
theorem aro {c:List SQ} (h:CV (qs c)):∃ v,CV (qs v)/\Step 3 c v:=by
 obtain⟨v,_,hv,e⟩:=alB h;exact⟨v,hv,e⟩
theorem arn {c:List SQ} (h:CV (qs c)):∃ v,CV (qs v)/\Step 4 c v:=by
 obtain⟨U,hU,e⟩:=aoO h;exact⟨_,akT h hU,e⟩
/-- The first j passes lead from c to y. -/
def arM:Nat->List SQ->List SQ->Prop
 | 0,c,y=>y=c
 | j+1,c,y=>∃ x,arM j c x/\Step j x y
theorem alj {c y:List SQ} (h:arM 5 c y):Ev (fun k=>ajn k c) y:=by
 obtain⟨x4,⟨x3,⟨x2,⟨x1,⟨x0,rfl,s0⟩,s1⟩,s2⟩,s3⟩,s4⟩:=h;simp only [ajn];exact Ev.bind s0 (Ev.bind s1 (Ev.bind s2 (Ev.bind s3 (Ev.bind s4 Ev.pure))))
theorem aqj {c:List SQ} (h:CV (qs c)):∃ v,CV (qs v)/\Ev (fun k=>ajn k c) v:=by
 obtain⟨x1,h1,s1⟩:=step0 h;obtain⟨x2,h2,s2⟩:=step1 h1;obtain⟨x3,h3,s3⟩:=step2 h2;obtain⟨x4,h4,s4⟩:=aro h3;obtain⟨x5,h5,s5⟩:=arn h4;exact⟨x5,h5,alj ⟨_,⟨_,⟨_,⟨_,⟨_,rfl,s1⟩,s2⟩,s3⟩,s4⟩,s5⟩⟩
theorem anT (t:Int) (x:List SQ):Ev (fun k=>adj k t x t) (x,true):=by
 refine Ev.succ ?_;simp only [adj];exact aa5 Ev.pure
theorem anS {t:Int} (ht:t<=4) {r:Nat} (hr:(r:Int) < t) {x y:List SQ} (h:Ev (fun k=>ajn k x) y) {z:List SQ × Bool} (hz:Ev (fun k=>adj k t y ((r+1:Nat):Int)) z):Ev (fun k=>adj k t x (r:Int)) z:=by
 refine Ev.succ ?_;simp only [adj,aav (show r < 9223372036854775807 by omega)];exact aa2 (Ev.bind h hz)
theorem Saz.out {t:Nat} (ht:t<=4):∀ (d r:Nat),r+d=t->∀ {x:List SQ},CV (qs x)->∃ v,CV (qs v)/\Ev (fun k=>adj k (t:Int) x (r:Int)) (v,true)
 | 0,r,hr,x,h=>⟨x,h,by rw [show r=t from by omega];exact anT _ _⟩
 | d+1,r,hr,x,h=>by
  obtain⟨y,hy,e⟩:=aqj h;obtain⟨v,hv,e2⟩:=Saz.out ht d (r+1) (by omega) hy;exact⟨v,hv,anS (by omega) (by omega) e e2⟩
/-- A code and how often: what is asked of both. -/
def okT (c:List SQ) (t:Int):Prop:=CV (qs c)/\0<=t/\t<=4
theorem amy {c:List SQ} {t:Int} (h:okT c t) {z:List SQ × Bool} (hz:Ev (fun k=>adj k t c 0) z):Ev (fun k=>Saz.f k c t) z:=by
 have h6:=abh h.1;simp only [Saz.f,aiq];refine Ev.bind (acW c) (aa2 (aaM ?_) (decide_eq_true h.1));rw [decide_eq_true h.2];refine Ev.succ ?_;simp only [ahb];refine aa5 (aaM (aa2 hz ?_)) (by simp);simp only [List.length_nil];omega
theorem aqP {c:List SQ} {t:Int} (h:okT c t):∃ v,CV (qs v)/\Ev (fun k=>Saz.f k c t) (v,true):=by
 obtain⟨v,hv,e⟩:=Saz.out (t:=t.toNat) (by have:=h.2;omega) t.toNat 0 (Nat.zero_add _) h.1;rw [Int.toNat_of_nonneg h.2.1] at e;exact⟨v,hv,amy h e⟩
theorem ake {b:List Int} (hb:Bt b) {p n:Int} (hn:1<=n) (h:0<=p/\p+8<=1000000):An (fun k=>am8 k b p n) (fun v=>p<=v.2.2.2.2.2/\v.2.2.2.2.2<=p+8):=by
 have j2:∀ x c q,p<=q->q<=p+1->An (fun k=>afn k n x c b q) (fun v=>p<=v.2.2.2.2.2/\v.2.2.2.2.2<=p+8):=by
  intro x c q hq hq';refine aaQ ?_;simp only [afn];refine aaJ (fun _=>An.bind (abK hb (by omega)) fun v h1=>An.bind (abK hb (by omega)) fun v h2=>An.bind (abK hb (by omega)) fun v h3=>An.bind (ajO hb (by omega)) fun v h4=>aae (by simp only;omega)) (fun _=>?_);refine aaJ (fun _=>An.bind (aao hb n (by omega)) fun v h1=>aae (by simp only;omega)) (fun _=>?_);refine aaJ (fun _=>An.bind (abK hb (by omega)) fun v h1=>An.bind (aao hb n (by omega)) fun v h2=>aae (by simp only;omega)) (fun _=>?_);refine aaJ (fun _=>An.bind (abK hb (by omega)) fun v h1=>An.bind (aao hb 2 (by omega)) fun v h2=>aae (by simp only;omega)) (fun _=>?_);refine aaJ (fun _=>An.bind (abK hb (by omega)) fun v h1=>An.bind (aao hb 2 (by omega)) fun v h2=>aae (by simp only;omega)) (fun _=>?_);exact An.bind (aao hb 4 (by omega)) fun v h1=>aaJ (fun _=>aae (by simp only;omega)) (fun _=>An.bind (abK hb (by omega)) fun v h2=>aae (by simp only;omega))
 have j1:∀ x c q,p<=q->q<=p+1->An (fun k=>agi k n x c b q) (fun v=>p<=v.2.2.2.2.2/\v.2.2.2.2.2<=p+8):=by
  intro x c q hq hq';refine aaQ ?_;simp only [agi];refine aaJ (fun _=>An.bind (abK hb (by omega)) fun v h1=>An.bind (abK hb (by omega)) fun v h2=>aae (by simp only;omega)) (fun _=>aaJ (fun _=>j2 _ _ _ hq hq') (fun _=>aaJ (fun _=>j2 _ _ _ hq hq') (fun _=>j2 _ _ _ hq hq')))
 have j0:∀ x c q,p<=q->q<=p+1->An (fun k=>agj k n x c b q) (fun v=>p<=v.2.2.2.2.2/\v.2.2.2.2.2<=p+8):=by
  intro x c q hq hq';refine aaQ ?_;simp only [agj];refine aaJ (fun _=>An.bind (abK hb (by omega)) fun v h1=>An.bind (akh hb (by omega)) fun v h2=>abe (An.bind (aao hb 4 (by omega)) fun v h3=>aaE (aaE (aae (by simp only;omega)) (by simp only [List.length_cons,List.length_nil];omega)))) (fun _=>aaJ (fun _=>j1 _ _ _ hq hq') (fun _=>j1 _ _ _ hq hq'))
 simp only [am8];exact An.bind (aao hb 12 (by omega)) fun v h1=>aaJ (fun _=>j0 _ _ _ (by omega) (by omega)) (fun _=>j0 _ _ _ (by omega) (by omega))
theorem agQ {b:List Int} (hb:Bt b) {m:Nat} (hm:m<=14):∀ (d i:Nat),i+1+d=m->∀ (o:List SQ) (p:Int),o.length=i->0<=p/\p+8*(d:Int)+2<=1000000->An (fun k=>afm k (m:Int) o (i:Int) b p) (fun v=>1<=v.1.length/\v.1.length<=14/\p<=v.2/\v.2<=p+8*(d:Int)+2)
 | 0,i,hi,o,p,ho,h=>by
  refine aaQ ?_;simp only [afm,aav (show i < 9223372036854775807 by omega)];refine ab6 (An.bind (aao hb 3 (by omega)) fun v h1=>aaJ (fun _=>An.bind (aao hb (m:Int) (by omega)) fun u h2=>aaE (aae ?_)) (fun _=>aaE (aae ?_)))
  ·simp only [List.length_append,List.length_cons,List.length_nil];omega
  simp only [List.length_append,List.length_cons,List.length_nil];omega
 | d+1,i,hi,o,p,ho,h=>by
  refine aaQ ?_;simp only [afm,aav (show i < 9223372036854775807 by omega)];refine aaE (An.bind (ake hb (by omega) (by omega)) fun v h1=>aaE ?_);exact (agQ hb hm d (i+1) (by omega) _ v.2.2.2.2.2 (by simp [ho]) (by omega)).mono fun u h2=>⟨h2.1,h2.2.1,by omega,by omega⟩
theorem afh {b:List Int} (hb:Bt b) {p:Int} (h:0<=p/\p+120<=1000000):An (fun k=>akq k b p) (fun v=>1<=v.1.length/\v.1.length<=14/\p<=v.2/\v.2<=p+120):=by
 simp only [akq];refine An.bind (aao hb 14 (by omega)) fun v h1=>?_
 obtain⟨v1,v2⟩:=v;obtain⟨m,rfl⟩:=Int.eq_ofNat_of_zero_le h1.1;have hm:(m:Int) < 14:=h1.2.1;have hp:v2=p+1:=h1.2.2;have e:wrap64 (1+(m:Int))=((m+1:Nat):Int):=by rw [aaK (by omega) (by omega)];omega
 simp only [e];exact (agQ hb (m:=m+1) (by omega) m 0 (by omega) [] v2 rfl (by omega)).mono fun u h2=>⟨h2.1,h2.2.1,by omega,by omega⟩
theorem akf {b:List Int} (hb:Bt b) {p:Int} (h:0<=p/\p+9800<=1000000):An (fun k=>ama k b p) (fun v=>1<=v.1.length/\v.1.length<=600/\p<=v.2/\v.2<=p+9800):=by
 simp only [ama];refine An.bind (aao hb 2 (by omega)) fun v h1=>aaJ (fun _=>An.bind (afh hb (by omega)) fun u h2=>aae ⟨h2.1,by show u.1.length<=600;omega,by simp only;omega⟩) (fun _=>?_)
 refine An.bind (aj4 hb (by omega) (by omega)) fun s h2=>An.bind (agD h2.1) fun c h3=>aaJ (fun _=>An.bind (afh hb (by omega)) fun u h4=>aae ⟨h4.1,by show u.1.length<=600;omega,by simp only;omega⟩) (fun g=>?_)
 refine An.bind (aao hb 3 (by omega)) fun t h4=>?_
 have e1:Int.tdiv t.1 2=t.1 / 2:=Int.tdiv_eq_ediv_of_nonneg h4.1;have e2:wrap64 (Int.tdiv t.1 2)=t.1 / 2:=by rw [e1,aaK (by omega) (by omega)]
 rw [e2];obtain⟨r,hr,er⟩:=aqP (c:=c.1) (t:=t.1 / 2) ⟨h3 (by omega),by omega,by omega⟩;have h6:=abh hr;exact An.bind (an8 (P:=fun u=>u=(r,true)) er rfl) fun u hu=>aae (by subst hu;exact⟨h6.1,h6.2,by simp only;omega,by simp only;omega⟩)
theorem akg {b:List Int} (hb:Bt b) {p:Int} (h:0<=p/\p+9900<=1000000):An (fun k=>amb k b p) (fun v=>v.1.length<=601/\p<=v.2/\v.2<=p+9900):=by
 simp only [amb];refine An.bind (akf hb (by omega)) fun c h1=>An.bind (aao hb 36 (by omega)) fun v h2=>?_
 refine aaJ (fun _=>aaE (aae ?_)) (fun _=>aaJ (fun _=>aaE (aae ?_)) (fun _=>aaJ (fun _=>aaE (aae ?_)) (fun _=>aaJ (fun _=>aae ?_) (fun _=>aae ?_))))
 all_goals
  simp only [List.length_set,List.length_append,List.length_cons,List.length_nil];omega
theorem alF {x:Int} (h:(Lit.int .u8 x).wf=true):0<=x/\x < 256:=by
 simp [Lit.wf,IntKind.min,IntKind.max,IntKind.bits,IntKind.signed] at h
 omega
theorem alm {l:List Int} (h:∀ x∈l,(Lit.int .u8 x).wf=true):An (fun _=>alQ l) (fun v=>Bt v.1/\v.2=0):=by
 simp only [alQ];refine aaJ (fun c=>aaE (aae ⟨⟨by simp;omega,fun x hx=>alF (h x (List.mem_of_mem_take hx))⟩,rfl⟩)) (fun c=>aae ⟨⟨by show l.length<=2000;omega,fun x hx=>alF (h x hx)⟩,rfl⟩)
theorem ag5 {l:List Int} (h:∀ x∈l,(Lit.int .u8 x).wf=true):An (fun k=>amB k l) (fun v=>v.length<=601):=by
 simp only [amB];exact An.bind (alm h) fun v h1=>An.bind (akg h1.1 (by omega)) fun c h2=>aae h2.1
theorem afg (v:List SQ) (h:v.length<=1000):∀ (d p:Nat),p+d=v.length->Ev (fun k=>afk k v v (p:Int)) true
 | 0,p,hp=>by
  refine Ev.succ ?_;simp only [afk];exact aa5 Ev.pure
 | d+1,p,hp=>by
  refine Ev.succ ?_;simp only [afk,aav (show p < 9223372036854775807 by omega)];exact aa2 (aa2 (aa2 (aa5 (afg v h d (p+1) (by omega)))))
theorem ad3 (v:List SQ) (h:v.length<=1000):Ev (fun k=>SbO.f k v v) true:=by
 simp only [SbO.f];exact aa2 (afg v h v.length 0 (Nat.zero_add _))
theorem anx {c:List SQ} (h:CV (qs c)):∃ U,(FS c).Lfp U/\Ev (fun k=>Sav.f k c) (adb U c,true)/\Ev (fun k=>akB k c) (adb U c,true):=by
 obtain⟨U,hU,e⟩:=amz h;exact⟨U,hU,e,e⟩
theorem alu {c:List SQ} (h:¬ CV (qs c)):Ev (fun k=>Sav.f k c) ([],false)/\Ev (fun k=>akB k c) ([],false):=⟨ajp h,ajp h⟩
theorem adB {c:List SQ} (hn:c.length<=600) {U:List (List SF)}:∀ (d p:Nat),p+d=c.length->Ev (fun k=>adG k c (adb U c) (p:Int)) true
 | 0,p,hp=>by
  refine Ev.succ ?_;simp only [adG];exact aa5 Ev.pure
 | d+1,p,hp=>by
  have hp':p < c.length:=by omega
  have hl:=abk U c;have ih:=adB hn (U:=U) d (p+1) (by omega);refine Ev.succ ?_;simp only [adG,ac9,adA U hp',aav (show p < 9223372036854775807 by omega)];refine aa2 (aa2 ?_);by_cases g2:(qa c p).f0=2
  ·exact aa2 ih g2
  refine aa5 ?_ g2;by_cases g3:(qa c p).f0=3
  ·exact aa2 ih g3
  refine aa5 ?_ g3;by_cases g5:(qa c p).f0=5
  ·exact aa2 ih g5
  refine aa5 ?_ g5;simp only [akk (show ¬ ((qa c p).f0=2\/(qa c p).f0=3\/(qa c p).f0=5) by omega)];exact aa2 (aa5 ih (by simp))
theorem agB {l:List Int} (hw:∀ x∈l,(Lit.int .u8 x).wf=true):An (fun k=>SbN.f k l) (fun v=>v=true):=by
 simp only [SbN.f];refine aaJ (fun _=>aae rfl) (fun _=>An.bind (ag5 hw) fun c hc=>?_);by_cases h:CV (qs c)
 ·obtain⟨U,hU,e1,e2⟩:=anx h;have h6:=(abh h).2;have hl:=abk U c;refine an8 (Ev.bind e2 (Ev.bind e1 (aa5 (Ev.bind (ad3 (adb U c) (by omega)) (aa2 (Ev.succ ?_) rfl)) (by simp)))) rfl;simp only [afl];exact aa5 (adB h6 c.length 0 (Nat.zero_add _)) (by simp)
 obtain⟨e1,e2⟩:=alu h;refine an8 (Ev.bind e2 (Ev.bind e1 (aa5 (Ev.bind (ad3 _ (by simp)) (aa2 (Ev.succ ?_) rfl)) (by simp)))) rfl;simp only [afl];exact aa2 (aa2 (Ev.bind (ad3 _ (by simp)) Ev.pure) (by simp)) (by simp)
end Go.Proofs.YtdkkdiiceaomaaaGreat.M
namespace Go.Proofs.YtdkkdiiceaomaaaGreat.Pure
open Go.Proofs.YtdkkdiiceaomaaaGreat.M
theorem FnFoldKeeps:SbN.Pure:=by
 intro l _ _ hw;obtain⟨v,e,h⟩:=agB hw;subst h;exact e.get
end Go.Proofs.YtdkkdiiceaomaaaGreat.Pure
namespace Go.Proofs.YtdkkdiiceaomaaaGreat.fnFoldKeeps
open Go.ChangeShapes Go.WideShapes Go.ChangeAt Go.RowKit
open Go.ChangeMaps (open_string shut_string)
theorem own : ownKnob Tryz.prog.godebug = none := by kernel_rfl
theorem laidOut : laidOutB Tryz.prog = true := by kernel_rfl
def IsRow (k : IntKind) (w : World) (a : Option Addr) (len cap : Nat) (zs : List Int) : Prop :=
  (a = none ∧ len = 0 ∧ cap = 0 ∧ zs = []) ∨
  ∃ x, a = some x ∧ len ≤ cap ∧ cap ≤ maxLen ∧ zs.length = cap ∧ (∀ i, i < zs.length → w.cell? (x.add i) = some (.int k (zs.getD i 0))) ∧ ∀ n ∈ zs, (Lit.int k n).wf = true
theorem lifted (os : Os) (started : os.Started) (H : Type) (enc : TypeId × Value → H) :
    ReturnsInHanded {} Tryz.checked os 4 .any (Rows.fnFoldKeepsSpec.pre6 enc Tryz.prog Tryz.f4 Rows.fnFoldKeepsRow.domain false) (Rows.fnFoldKeepsSpec.post enc Tryz.prog Tryz.f4 false true false false) := by
  refine returnsInHanded_of_change_sized (C := Tryz.checked) own started (by kernel_rfl) Tryz.func4
    (ChangeSpec.witness6 (enc := enc) (C := Tryz.checked) false ⟨#[], #[.slice none 0 0], []⟩ 8 (by kernel_rfl) (by kernel_rfl) (by kernel_rfl) (by kernel_rfl)) ?_
  intro W base args ds gs before hval0 hW hcnd hsz0 _
  have hsz : (DataW.weightsEach Tryz.prog (Tryz.f4.params.toList ++ Rows.fnFoldKeepsSpec.plain.varTypes Tryz.prog) (ds ++ gs)).all (· ≤ reachBytes) = true := hsz0
  have hval : ∀ (j : Nat) t v, Tryz.f4.params[j]? = some t → args[j]? = some v → Value.okWide Tryz.prog W .any base t v := hval0
  have hW' := hW
  obtain ⟨p, q, hA0, hV, rfl, hfz, hnd⟩ := hW
  have hA : DataW.TrodAll enc Tryz.prog W 0 (fun _ => true) true Tryz.f4.params.toList args.toList ds p := hA0
  rw [Tryz.params4] at hA hval hsz
  obtain ⟨v0, vs0, d0, ds0, p0, q0, hargs, rfl, rfl, h0, r0⟩ := trodAll_cons hA
  obtain ⟨rfl, rfl, rfl⟩ := trodAll_nil r0
  obtain rfl : args = #[v0] := by cases args; simp_all
  obtain ⟨rfl, rfl⟩ := trodVars_none hV
  obtain ⟨a0, len0, cap0, rfl⟩ := okWide_slice Tryz.underlying22 (hval 0 22 v0 rfl rfl)
  have k0 := h0
  have lt0 : ∀ x ∈ p0, x.block < W.heap.size := by obtain ⟨m, hm⟩ := k0; exact DataW.trod_lt m _ _ _ hm
  obtain ⟨z0, w0⟩ : ∃ zs, IsRow .u8 W a0 len0 cap0 zs := by
    obtain ⟨fuel, hf⟩ := h0
    rcases open_ints Tryz.underlying22 Tryz.underlying5 (by kernel_rfl) hf with ⟨hcs, _⟩ | ⟨x, l, c, zs, hcs, _, hl, hm, hz, _, hcell, hwz⟩
    · simp [Value.cells] at hcs
      obtain ⟨rfl, rfl, rfl⟩ := hcs
      exact ⟨[], .inl ⟨rfl, rfl, rfl, rfl⟩⟩
    · simp [Value.cells] at hcs
      obtain ⟨rfl, rfl, rfl⟩ := hcs
      exact ⟨zs, .inr ⟨_, rfl, hl, hm, by simpa using hz, hcell, hwz⟩⟩
  have y0 : len0 * 1 ≤ 140737488351232 := Go.Proofs.YtdkkdiiceaomaaaGreatW.PrintWords.sized_ints hsz (j := 0) (t := 22) rfl rfl Tryz.underlying22 Tryz.underlying5 (by kernel_rfl) (by kernel_rfl) h0
  clear hA0 hval0 hsz0 hsz
  refine (M.SbN.walk Pure.FnFoldKeeps a0 len0 cap0 z0 W w0 y0).mono fun e W' ⟨he, bel⟩ => ?_
  subst he
  exact ⟨_, rfl, _, _, _, [], _, [], hW', trodAll_mk1 (shut_bool Tryz.underlying4 _), (trodAll_cons_mk (Below.trod laidOut (by kernel_rfl) (of_decide_eq_true (by kernel_rfl)) k0 bel lt0) trodAll_mk0), rfl, bel.frame _, fun h => by cases h⟩
theorem over : Rows.fnFoldKeepsRow.holds Tryz.pinned (OpenSpec.ofChange Rows.fnFoldKeepsSpec) :=
  OpenClaim.holds_of_wide 4 Tryz.f4 rfl rfl rfl rfl rfl rfl rfl ⟨rfl, rfl, rfl, rfl, rfl⟩ rfl rfl rfl rfl rfl (by kernel_rfl) Tryz.func4 (by kernel_rfl)
    (of_decide_eq_true (by kernel_rfl)) (by unfold Func.isWrapper; first | (rw [if_pos (by decide +kernel)]; kernel_rfl) | (rw [if_neg (by decide +kernel)]; exact ⟨rfl, rfl⟩))
    (fun os started H enc _ => lifted os started H enc)
theorem proved : Rows.FnFoldKeepsSaid := over
#print axioms proved
end Go.Proofs.YtdkkdiiceaomaaaGreat.fnFoldKeeps
namespace Go.Proofs.YtdkkdiiceaomaaaGreat
/-- The row, under a short name, for the claim. -/
theorem fnFoldKeeps_holds : Rows.FnFoldKeepsSaid := fnFoldKeeps.proved
end Go.Proofs.YtdkkdiiceaomaaaGreat
