/- Part 4 of the proof: A function as plain Lean and its contract: written by a program of this session's, turned from the kit's print. -/
import Derived.Test.YtdkkdiiceaomaaaGreatEB3
import Derived.Deep.MidRow
import Derived.ChangeKeysEq
import Derived.WalkSpells
set_option linter.unusedVariables false
set_option linter.unusedSimpArgs false
set_option maxHeartbeats 8000000
set_option maxRecDepth 100000
namespace Go.Proofs.YtdkkdiiceaomaaaGreat.M
open Go.Proofs.Tryz Go.RowKit Go.Proofs.YtdkkdiiceaomaaaGreatW.PrintWords Go.Proofs.YtdkkdiiceaomaaaGreatW.PrintLast Go.Proofs.YtdkkdiiceaomaaaGreatW.PrintMore Kd
attribute [local go_sem] aas aaq aaH aaG aaj aai aar aap
def adn:Nat->List S31->List Bool->Option (List Bool)
 | 0,_,_=>none
 | k+1,x0,x3=>(SaU.f k x0 x3).bind fun au=>(if au.1=true then (adn k x0 au.2) else (some au.2))
def Saf.f (k:Nat) (l0:List S31):Option (List Bool):=(Sag.f k l0).bind fun aF=>(if aF=true then (if 0<=(l0.length:Int) then (if ((l0.length:Int):Int).toNat<=281474976710656 then ((some (List.replicate ((l0.length:Int):Int).toNat false:List Bool)).bind fun aa=>(if 0 < (aa.length:Int) then (adn k l0 (aa.set (0:Int).toNat true)) else (none))) else (none)) else (none)) else (some (([]:List Bool))))
theorem ahf:∀ k,(∀ y0 y1,LeO (adn k y0 y1) (adn (k+1) y0 y1))
 | 0=>fun _ _ r h=>by simp [adn] at h
 | k+1=>by
  have bD:=ahf k;have m0:=@Sag.mono;have m1:=@SaU.mono
  intros;unfold adn;exact mM
theorem Saf.mono:∀ a0 k,LeO (Saf.f k a0) (Saf.f (k+1) a0):=by
 intro a0 k;have bD:=ahf k;unfold Saf.f;have m0:=@Sag.mono;have m1:=@SaU.mono;exact mM
theorem Saf.calls (k:Nat) (A0:Option Addr) (c0:Nat) (l0:List S31) (r:List Bool) (w:World) (hr0:Kd.C k31 w A0 l0.length l0) (hc0:l0.length<=c0) (h:Saf.f k l0=some r) :
  Calls prog 149 #[.slice A0 l0.length c0] w fun e w'=>∃ bg:Value,e = .returned (bg)/\Kd.R Kd.bool 4 w' w.heap.size (fun _=>True) bg r/\Below w.heap.size w w':=by
 have aP:=aM hr0;have aQ:=aM hc0;clear hr0 hc0;have HB:=jb_ w;have H:=h;unfold Saf.f at H;clear h;obtain⟨aF,A2,H⟩:=qE H;try dsimp only at H
 replace H:=jB H;rcases H with ⟨rfl,H⟩ | ⟨rfl,H⟩
 ·replace H:=jJ H;obtain⟨aR,aS,H⟩:=H;replace H:=jJ H;obtain⟨aT,aU,H⟩:=H;obtain⟨aa,aj⟩:=ky ((List.replicate ((l0.length:Int):Int).toNat false):List Bool);replace H:=kv aj H;replace H:=jU H;obtain⟨c6,H⟩:=H;have aV:=decide_eq_true c6;have aW:decide (0 < aa.length)=true:=decide_eq_true (by omega);clear c6;obtain⟨aG,av⟩:=ky ((aa.set (0:Int).toNat true):List Bool);replace H:=kv av H;have H':=aM H;clear H;go_enter func149,ntmps149;go_wp2_with (first|((with_reducible refine jc 44 5 ?_);refine jK func44 (Sag.calls k _ _ l0 true _ (kC aP.out) aQ.out A2.out) ?_;intro w8 hb;replace HB:=kH hb;clear hb)|((with_reducible refine jd 10 ?_);refine R_make Kd.bool _ 4 rfl (N:=10) rfl 42 _ _ rfl (l0.length:Int) rfl rfl underlying42 (.bool false) 1 ant rfl (by decide) (by omega) false (ok:=fun _=>True) (okp:=fun _=>True) rfl (fun _ hk=>hk) trivial (qD) (Nat.le_trans (Nat.mul_le_mul_right _ (qD:(l0.length:Int).toNat<=281474976710656)) (by omega)) (Below.refl _ _) (Nat.le_refl _) ?_;intro bi w9 ay hb hg_ hnew_;clear hg_ hnew_;replace ay:=kr aj ay;have ae:=kL ay;replace HB:=kH hb;clear hb ay;have p7:0<=(0:Int):=(by omega);have q7:(0:Int) < ((aa.length:Int):Int):=qD;have bE:(0 < aa.length)=True:=eq_true (by omega);obtain⟨aD,aH,bn,bq,bF,bJ,bu⟩:=R_form ae.out (by omega);(first|cases bn|(injection bn with ea_ en_ ec_;(first|subst ea_|(injection ea_ with ea_;subst ea_));subst ec_;clear en_));have bG:=aM bq;have bK:=aM bu;clear bq bF bu;obtain⟨az,aI⟩:=R_celln false ae.out (0:Int) p7 q7;(try rw [show ((0:Int)).toNat=0 from rfl] at az);(try simp only [Nat.reduceMul,Nat.zero_mul,Nat.zero_add,Nat.reduceAdd] at az);(try rw [show ((0:Int)).toNat=0 from rfl] at aI);(try simp only [Nat.reduceMul,Nat.zero_mul,Nat.zero_add,Nat.reduceAdd] at aI);replace p7:=eq_true p7;replace q7:=eq_true q7;obtain⟨aJ,aK⟩:=R_celln false ae.out (0:Int) (by omega) (qD);(try simp only [Int.reduceToNat,Int.toNat_zero,Int.toNat_ofNat,Nat.reduceMul,Nat.zero_mul,Nat.zero_add] at aJ aK);(try rw [show ((0:Int)).toNat=0 from rfl] at aJ);(try rw [show ((0:Int)).toNat=0 from rfl] at aK);have aN:=R_putg ae.out (0:Int) true)|((with_reducible refine aaI (t:=4) (p:=12) rfl ?_);refine aat (t:=4) (p:=12) (v:=?aX) (w1:=(w9.setCell ⟨aD,(0:Int).toNat,none⟩ (.bool true))) ?hg ?ho ?hn ?hr ?_;(case ho=>rfl);(case hg=>rfl);(case hn=>rfl);(case hr=>first|(go_simp;done)|(go_simp;rfl));intro aY hw;have hg:w9.grownBy aY (some aD):=(by rw [hw];exact aN.2);have hp_:Kd.R Kd.bool 4 aY w.heap.size (fun _=>True) (.slice (some ⟨aD,0,none⟩) aa.length aH) aG:=(by rw [hw,av.out];exact aN.1);clear aN;replace ae:=aM hp_;replace HB:=aM ((by rw [hw];exact aad (HB.out) bG.out:Below w.heap.size w aY));clear hg hw hp_));go_loopg [] k (fun kq w'=>∃ (ai:List Bool),aa1 (adn kq l0 ai=some r)/\aa1 (kq<=k)/\aa1 (Kd.R Kd.bool 4 w' w.heap.size (fun _=>True) (.slice (some ⟨aD,0,none⟩) aa.length aH) ai)/\aa1 (Below w.heap.size w w'));case atStart=>exact⟨(aG),H',⟨Nat.le_refl _⟩,⟨qR ae⟩,⟨qB⟩⟩
  clear H';try clear aR;try clear aS;try clear aT;try clear aU;try clear c6;try clear aV;try clear aW;try clear p7;try clear q7;try clear bE;try clear az
  obtain⟨ai,HA,bv,af,HB⟩:=hrel;have ax:=(R_reads' af.out).1;rw [ax] at af;(try simp only [ax]);rcases gk with _|k1
  ·exact absurd HA.out (by simp [adn])
  have H:=HA.out;clear HA;simp only [adn] at H;obtain⟨⟨bz,aL⟩,bA,H⟩:=qE H;try dsimp only at H
  replace H:=jB H;rcases H with ⟨rfl,H⟩ | ⟨rfl,H⟩
  ·have H':=aM H;clear H;go_wp2_with (first|((with_reducible refine jc 159 15 ?_);refine jK func159 (SaU.calls k1 _ _ l0 (fun k_=>some k_=(.slice (some ⟨aD,0,none⟩) ai.length aH:Value).ownBlock) (.slice (some ⟨aD,0,none⟩) ai.length aH) ai true aL w _ qB (by exact C_kept_came acF aP.out qB (fun k_ hs_=>(by first|exact R_base af.out k_ hs_.symm|exact hs_.2.1))) aQ.out (by exact R_tight rfl af.out) bA.out) ?_;rintro aZ ⟨hy0,hb,hkp⟩;replace af:=aM (R_reok rfl hy0 (fun k_ e_=>af.out.1 k_ e_));replace HB:=aM hb;(try clear hb);(try clear hkp);(try clear hy0)));(try simp only [<- ax]);go_roundg k1;case measure=>have:=bv.out;omega
   exact⟨_,H',⟨by have:=bv.out;omega⟩,⟨by (try simp only [ax]);(with_reducible repeat (first|apply R_alloc|apply R_drewN|apply R_drew));exact af.out⟩,⟨qB⟩⟩
  obtain rfl:=oJ H;go_wp2_with (first|((with_reducible refine jc 159 15 ?_);refine jK func159 (SaU.calls k1 _ _ l0 (fun k_=>some k_=(.slice (some ⟨aD,0,none⟩) ai.length aH:Value).ownBlock) (.slice (some ⟨aD,0,none⟩) ai.length aH) ai false aL w _ qB (by exact C_kept_came acF aP.out qB (fun k_ hs_=>(by first|exact R_base af.out k_ hs_.symm|exact hs_.2.1))) aQ.out (by exact R_tight rfl af.out) bA.out) ?_;rintro aZ ⟨hy0,hb,hkp⟩;replace af:=aM (R_reok rfl hy0 (fun k_ e_=>af.out.1 k_ e_));replace HB:=aM hb;(try clear hb);(try clear hkp);(try clear hy0)));go_ret;exact⟨_,qW,qR af,qB⟩
 obtain⟨bB,ak⟩:=ky ([]:List Bool);replace H:=kv ak H;obtain rfl:=oJ H;go_enter func149,ntmps149;go_wp2_with (first|((with_reducible refine jc 44 5 ?_);refine jK func44 (Sag.calls k _ _ l0 false _ (kC aP.out) aQ.out A2.out) ?_;intro bH hb;replace HB:=kH hb;clear hb)|((with_reducible refine jd 7 ?_);refine jV Kd.bool 4 ([]:List Bool) [] (aa8 _ _) ?_;intro bC bI aC hb;replace aC:=kr ak aC;have aO:=kL aC;replace HB:=kH hb;clear hb aC));go_ret;exact⟨_,qW,qR aO,qB⟩
end Go.Proofs.YtdkkdiiceaomaaaGreat.M
namespace Go.Proofs.YtdkkdiiceaomaaaGreat.M
open Go.Proofs.Tryz Go.RowKit Go.Proofs.YtdkkdiiceaomaaaGreatW.PrintWords Go.Proofs.YtdkkdiiceaomaaaGreatW.PrintLast Go.Proofs.YtdkkdiiceaomaaaGreatW.PrintMore
/-- With fuel enough,F answers v. -/
def Ev {α:Type} (F:Nat->Option α) (v:α):Prop:=∃ K,∀ k,K<=k->F k=some v
theorem Ev.pure {α:Type} {v:α}:Ev (fun _=>some v) v:=⟨0,fun _ _=>rfl⟩
theorem Ev.eq {α:Type} {F:Nat->Option α} {v u:α} (h:Ev F v) (e:v=u):Ev F u:=e ▸ h
theorem Ev.bind {α β:Type} {F:Nat->Option α} {G:Nat->α->Option β} {a:α} {b:β} (h:Ev F a) (g:Ev (fun k=>G k a) b):Ev (fun k=>(F k).bind (G k)) b:=by
 obtain⟨K,h⟩:=h;obtain⟨L,g⟩:=g;refine⟨max K L,fun k hk=>?_⟩;show (F k).bind (G k)=some b
 rw [h k (by omega)];exact g k (by omega)
theorem Ev.succ {α:Type} {F:Nat->Option α} {v:α} (h:Ev (fun k=>F (k+1)) v):Ev F v:=by
 obtain⟨K,h⟩:=h;refine⟨K+1,fun k hk=>?_⟩
 cases k with
 | zero=>omega
 | succ k=>exact h k (by omega)
theorem aa2 {α:Type} {c:Prop} [Decidable c] {A B:Nat->Option α} {v:α} (g:Ev A v) (h:c:=by first|assumption|omega|(simp;done)|(simp;omega)):Ev (fun k=>if c then A k else B k) v:=by
 simp only [if_pos h];exact g
theorem aa5 {α:Type} {c:Prop} [Decidable c] {A B:Nat->Option α} {v:α} (g:Ev B v) (h:¬ c:=by first|assumption|omega|(simp;done)|(simp;omega)):Ev (fun k=>if c then A k else B k) v:=by
 simp only [if_neg h];exact g
theorem aaP {α β:Type} {a:α} {G:Nat->α->Option β} {b:β} (g:Ev (fun k=>G k a) b):Ev (fun k=>(Option.some a).bind (G k)) b:=g
theorem abk {α:Type} {x:Option α} {v:α} (h:x=Option.some v):Ev (fun _=>x) v:=⟨0,fun _ _=>h⟩
theorem Ev.get {α:Type} {F:Nat->Option α} {v:α} (h:Ev F v):∃ k,F k=Option.some v:=by
 obtain⟨K,h⟩:=h;exact⟨K,h K (Nat.le_refl _)⟩
theorem aaJ {x:Int} (h:-9223372036854775808<=x) (h':x < 9223372036854775808):wrap64 x=x:=by unfold wrap64;omega
theorem aay {i:Nat} (h:i < 9223372036854775807):wrap64 ((i:Int)+1)=((i+1:Nat):Int):=by rw [aaJ (by omega) (by omega)];omega
theorem ajE (xs:List Int) (i:Nat):rd xs (i:Int)=xs.getD i 0:=by simp [rd]
theorem abZ {α:Type} (d:α) (xs:List α) (i:Nat):acj d xs (i:Int)=xs.getD i d:=by simp [acj]
theorem akA {n:Nat} (h:n < 65536):IntKind.u16.wrap (n:Int)=(n:Int):=by
 simp only [IntKind.wrap,IntKind.bits,IntKind.signed]
 simp
 omega
theorem ahv {n:Nat} (h:n < 65536):(BitVec.ofInt 16 (n:Int)).toNat=n:=by
 simp [BitVec.toNat_ofInt]
 omega
theorem al1 {a b n:Nat} (ha:a < 2 ^ n) (hb:b < 2 ^ n):a ||| b < 2 ^ n:=Nat.or_lt_two_pow ha hb
theorem ahK {a b:Nat} (ha:a < 65536) (hb:b < 65536):Go.bits .or .u16 (a:Int) (b:Int)=((a ||| b:Nat):Int):=by
 have e:(BitVec.ofInt 16 (a:Int) ||| BitVec.ofInt 16 (b:Int)).toNat=a ||| b:=by rw [BitVec.toNat_or,ahv ha,ahv hb]
 show IntKind.u16.wrap ((BitVec.ofInt 16 (a:Int) ||| BitVec.ofInt 16 (b:Int)).toNat:Int)=_
 rw [e];exact akA (al1 (n:=16) ha hb)
/-- a without the elements of b. -/
def agx (a b:Nat):Nat:=a &&& (65535 - b)
theorem ahY {a b i:Nat} (ha:a < 65536) (hb:b < 65536):(agx a b).testBit i=(a.testBit i && !b.testBit i):=by
 unfold agx;rw [Nat.testBit_and,show 65535 - b=2 ^ 16 - (b+1) from by omega,Nat.testBit_two_pow_sub_succ (by omega)];by_cases h:i < 16
 ·simp [h]
 have:a.testBit i=false:=Nat.testBit_lt_two_pow (Nat.lt_of_lt_of_le ha (show 2 ^ 16<=2 ^ i from Nat.pow_le_pow_right (by decide) (by omega)))
 simp [this]
theorem ahq {a b:Nat}:agx a b<=a:=Nat.and_le_left
theorem ajg {a b:Nat} (ha:a < 65536) (hb:b < 65536):Go.bits .andNot .u16 (a:Int) (b:Int)=((agx a b:Nat):Int):=by
 have e:(BitVec.ofInt 16 (a:Int) &&& ~~~ BitVec.ofInt 16 (b:Int)).toNat=agx a b:=by
  rw [BitVec.toNat_and,BitVec.toNat_not,ahv ha,ahv hb];unfold agx
  congr 1
 show IntKind.u16.wrap ((BitVec.ofInt 16 (a:Int) &&& ~~~ BitVec.ofInt 16 (b:Int)).toNat:Int)=_
 rw [e];exact akA (Nat.lt_of_le_of_lt ahq ha)
theorem aht {r:Nat} (h:r < 12):2 ^ r < 4096:=Nat.pow_lt_pow_right (a:=2) (by decide) (m:=r) (n:=12) h
theorem aiN {r:Nat} (h:r < 12):shl .u16 1 (r:Int)=((2 ^ r:Nat):Int):=by
 have:=aht h
 unfold shl;rw [show min ((r:Int)).toNat (IntKind.bits .u16)=r from by simp [IntKind.bits];omega,Int.one_mul,show (2:Int) ^ r=((2 ^ r:Nat):Int) from by simp];exact akA (by omega)
/-- The flags of a set. -/
def row (s:Nat):List Bool:=(List.range 12).map fun r=>s.testBit r
theorem abK (s:Nat):(row s).length=12:=by simp [row]
theorem ae0 (s r:Nat) (h:r < 12):(row s).getD r false=s.testBit r:=by simp [row,h]
theorem row_zero:row 0=List.replicate 12 false:=by decide
theorem aoj {s r:Nat} (hs:s < 4096) (hr:¬ r < 12):s.testBit r=false:=Nat.testBit_lt_two_pow (Nat.lt_of_lt_of_le hs (show 2 ^ 12<=2 ^ r from Nat.pow_le_pow_right (by decide) (by omega)))
theorem aoZ {s t:Nat} (hs:s < 4096) (ht:t < 4096) (h:∀ r,r < 12->s.testBit r=t.testBit r):s=t:=by
 apply Nat.eq_of_testBit_eq
 intro r;by_cases hr:r < 12
 ·exact h r hr
 rw [aoj hs hr,aoj ht hr]
theorem ap1 {s t:Nat} (hs:s < 4096) (ht:t < 4096) (h:row s=row t):s=t :=
 aoZ hs ht fun r hr=>by rw [<- ae0 s r hr,<- ae0 t r hr,h]
theorem aiP {l:List Bool} {s:Nat} (hl:l.length=12) (h:∀ r,r < 12->l.getD r false=s.testBit r):l=row s:=by
 apply List.ext_getElem (by rw [hl,abK])
 intro i h1 h2
 have:=h i (by omega)
 rw [List.getD_eq_getElem?_getD,List.getElem?_eq_getElem h1] at this;simpa [row] using this
end Go.Proofs.YtdkkdiiceaomaaaGreat.M
namespace Go.Proofs.YtdkkdiiceaomaaaGreat.M
/-- Rows at n places: an order,a join,what a row at a place hands on to other places,a rank. -/
structure Sys (R:Type) where
 n:Nat
 ok:R->Prop
 le:R->R->Prop
 jn:R->R->R
 out:Nat->R->List (Nat × R)
 rk:R->Nat
 top:Nat
 d:R
 ini:R
structure Sys.Laws {R:Type} (S:Sys R):Prop where
 refl:∀ a,S.ok a->S.le a a
 trans:∀ a b c,S.ok a->S.ok b->S.ok c->S.le a b->S.le b c->S.le a c
 anti:∀ a b,S.ok a->S.ok b->S.le a b->S.le b a->a=b
 ub1:∀ a b,S.ok a->S.ok b->S.le a (S.jn a b)
 ub2:∀ a b,S.ok a->S.ok b->S.le b (S.jn a b)
 lub:∀ a b c,S.ok a->S.ok b->S.ok c->S.le a c->S.le b c->S.le (S.jn a b) c
 okj:∀ a b,S.ok a->S.ok b->S.ok (S.jn a b)
 oko:∀ i x,i < S.n->S.ok x->∀ p∈S.out i x,p.1 < S.n/\S.ok p.2
 mono:∀ i x y,i < S.n->S.ok x->S.ok y->S.le x y->∀ p∈S.out i x,∃ v,(p.1,v)∈S.out i y/\S.le p.2 v
 rank:∀ a b,S.ok a->S.ok b->S.le a b->a≠b->S.rk a < S.rk b
 rtop:∀ a,S.ok a->S.rk a<=S.top
 okd:S.ok S.d
 oki:S.ok S.ini
 bot:∀ a,S.ok a->S.le S.d a
 outd:∀ i,S.out i S.d=[]
 pos:0 < S.n
 inid:S.ini≠S.d
namespace Sys
variable {R:Type} (S:Sys R)
def at' (T:List R) (i:Nat):R:=T.getD i S.d
def St (T:List R):Prop:=T.length=S.n/\∀ i,i < S.n->S.ok (S.at' T i)
def Leq (T U:List R):Prop:=∀ i,i < S.n->S.le (S.at' T i) (S.at' U i)
def Cl (T:List R) (i:Nat):Prop:=∀ p∈S.out i (S.at' T i),S.le p.2 (S.at' T p.1)
def Sol (T:List R):Prop:=S.St T/\S.le S.ini (S.at' T 0)/\∀ i,i < S.n->S.Cl T i
def Lfp (T:List R):Prop:=S.Sol T/\∀ U,S.Sol U->S.Leq T U
def put (T:List R) (p:Nat × R):List R:=T.set p.1 (S.jn (S.at' T p.1) p.2)
def cap (T:List R):Nat:=(T.map fun x=>S.top - S.rk x).sum
variable {S}
theorem lfp_unique (L:S.Laws) {T U:List R} (hT:S.Lfp T) (hU:S.Lfp U):T=U:=by
 have h1:=hT.2 U hU.1;have h2:=hU.2 T hT.1;apply List.ext_getElem (hT.1.1.1.trans hU.1.1.1.symm)
 intro i a b;have hi:i < S.n:=by rw [<- hT.1.1.1];exact a
 have e:=L.anti _ _ (hT.1.1.2 i hi) (hU.1.1.2 i hi) (h1 i hi) (h2 i hi);unfold at' at e
 rwa [List.getD_eq_getElem?_getD,List.getD_eq_getElem?_getD,List.getElem?_eq_getElem a,List.getElem?_eq_getElem b] at e
theorem at_set {T:List R} {e i:Nat} {v:R} (he:e < T.length):S.at' (T.set e v) i=if i=e then v else S.at' T i:=by
 unfold at';simp only [List.getD_eq_getElem?_getD,List.getElem?_set];by_cases h:e=i
 ·subst h;simp [he]
 have:¬ i=e:=fun x=>h x.symm
 simp [h,this]
theorem put_at {T:List R} {p:Nat × R} {i:Nat} (hp:p.1 < T.length):S.at' (S.put T p) i=if i=p.1 then S.jn (S.at' T p.1) p.2 else S.at' T i:=at_set hp
theorem put_st (L:S.Laws) {T:List R} (h:S.St T) {p:Nat × R} (hp:p.1 < S.n) (ho:S.ok p.2):S.St (S.put T p):=by
 refine⟨by unfold put;rw [List.length_set];exact h.1,fun i hi=>?_⟩;rw [put_at (by rw [h.1];exact hp)];split
 ·exact L.okj _ _ (h.2 _ hp) ho
 exact h.2 i hi
theorem put_up (L:S.Laws) {T:List R} (h:S.St T) {p:Nat × R} (hp:p.1 < S.n) (ho:S.ok p.2):S.Leq T (S.put T p):=by
 intro i hi;rw [put_at (by rw [h.1];exact hp)];split
 ·rename_i e
  rw [e];exact L.ub1 _ _ (h.2 _ hp) ho
 exact L.refl _ (h.2 i hi)
theorem put_has (L:S.Laws) {T:List R} (h:S.St T) {p:Nat × R} (hp:p.1 < S.n) (ho:S.ok p.2):S.le p.2 (S.at' (S.put T p) p.1):=by
 rw [put_at (by rw [h.1];exact hp),if_pos rfl];exact L.ub2 _ _ (h.2 _ hp) ho
theorem put_le (L:S.Laws) {T U:List R} (h:S.St T) (hU:S.St U) {p:Nat × R} (hp:p.1 < S.n) (ho:S.ok p.2) (hl:S.Leq T U) (hv:S.le p.2 (S.at' U p.1)):S.Leq (S.put T p) U:=by
 intro i hi;rw [put_at (by rw [h.1];exact hp)];split
 ·rename_i e
  subst e;exact L.lub _ _ _ (h.2 _ hi) ho (hU.2 _ hi) (hl _ hi) hv
 exact hl i hi
theorem leq_trans (L:S.Laws) {T U V:List R} (hT:S.St T) (hU:S.St U) (hV:S.St V) (h:S.Leq T U) (g:S.Leq U V):S.Leq T V:=fun i hi=>L.trans _ _ _ (hT.2 i hi) (hU.2 i hi) (hV.2 i hi) (h i hi) (g i hi)
theorem leq_refl (L:S.Laws) {T:List R} (hT:S.St T):S.Leq T T:=fun i hi=>L.refl _ (hT.2 i hi)
theorem put_same {T:List R} {p:Nat × R} (hp:p.1 < T.length) (e:S.jn (S.at' T p.1) p.2=S.at' T p.1):S.put T p=T:=by
 unfold put;rw [e];apply List.ext_getElem (by simp)
 intro i a b;rw [List.getElem_set];split
 ·rename_i x
  subst x;unfold at';rw [List.getD_eq_getElem?_getD,List.getElem?_eq_getElem hp];rfl
 rfl
theorem sum_set (f:R->Nat):∀ (T:List R) (e:Nat) (v:R) (h:e < T.length),((T.set e v).map f).sum+f (T.getD e S.d)=(T.map f).sum+f v
 | [],e,v,h=>by simp at h
 | x :: xs,0,v,h=>by simp;omega
 | x :: xs,e+1,v,h=>by
  have:=sum_set f xs e v (by simpa using h)
  simp only [List.set_cons_succ,List.map_cons,List.sum_cons,List.getD_cons_succ];omega
theorem put_cap (L:S.Laws) {T:List R} (h:S.St T) {p:Nat × R} (hp:p.1 < S.n) (ho:S.ok p.2) (ne:S.jn (S.at' T p.1) p.2≠S.at' T p.1):S.cap (S.put T p) < S.cap T:=by
 have hs:=sum_set (S:=S) (fun x=>S.top - S.rk x) T p.1 (S.jn (S.at' T p.1) p.2) (by rw [h.1];exact hp);have o1:=h.2 _ hp;have o2:=L.okj _ _ o1 ho;have hr:=L.rank _ _ o1 o2 (L.ub1 _ _ o1 ho) (fun x=>ne x.symm);have ht:=L.rtop _ o2;unfold cap put;unfold at' at *;omega
/-- What a place hands on,all at once;whether it is new. -/
def pass [DecidableEq R] (S:Sys R):List (Nat × R)->List R->Bool->List R × Bool
 | [],T,b=>(T,b)
 | p :: ps,T,b=>pass S ps (S.put T p) (b || !decide (S.jn (S.at' T p.1) p.2=S.at' T p.1))
theorem pass_all [DecidableEq R] (L:S.Laws):∀ (ps:List (Nat × R)) (T:List R) (b:Bool),S.St T->(∀ p∈ps,p.1 < S.n/\S.ok p.2) ->
  S.St (pass S ps T b).1/\S.Leq T (pass S ps T b).1/\S.cap (pass S ps T b).1<=S.cap T/\((pass S ps T b).2=false->b=false/\(pass S ps T b).1=T/\∀ p∈ps,S.le p.2 (S.at' T p.1))/\((pass S ps T b).2=true->b=true\/S.cap (pass S ps T b).1 < S.cap T)/\(∀ U,S.St U->S.Leq T U->(∀ p∈ps,S.le p.2 (S.at' U p.1))->S.Leq (pass S ps T b).1 U)
 | [],T,b,h,_=>⟨h,leq_refl L h,Nat.le_refl _,fun e=>⟨e,rfl,by simp⟩,fun e=>.inl e,fun U _ g _=>g⟩
 | p :: ps,T,b,h,hp=>by
  have p1:=(hp p List.mem_cons_self).1;have p2:=(hp p List.mem_cons_self).2;have h1:=put_st L h p1 p2;obtain⟨a1,a2,a3,a4,a5,a6⟩:=pass_all L ps (S.put T p) (b || !decide (S.jn (S.at' T p.1) p.2=S.at' T p.1)) h1 (fun q hq=>hp q (List.mem_cons_of_mem _ hq))
  have hc:S.cap (S.put T p)<=S.cap T:=by
   by_cases e:S.jn (S.at' T p.1) p.2=S.at' T p.1
   ·rw [put_same (by rw [h.1];exact p1) e];exact Nat.le_refl _
   exact Nat.le_of_lt (put_cap L h p1 p2 e)
  refine⟨a1,leq_trans L h h1 a1 (put_up L h p1 p2) a2,Nat.le_trans a3 hc,?_,?_,?_⟩
  ·intro e;obtain⟨x,y,z⟩:=a4 e;simp only [Bool.or_eq_false_iff,Bool.not_eq_eq_eq_not,Bool.not_false,decide_eq_true_eq] at x;have hs:=put_same (by rw [h.1];exact p1) x.2;refine⟨x.1,y.trans hs,fun q hq=>?_⟩;rcases List.mem_cons.1 hq with rfl|hq
   ·have:=put_has L h p1 p2
    rwa [hs] at this
   have:=z q hq
   rwa [hs] at this
  ·intro e;rcases a5 e with x|x
   ·simp only [Bool.or_eq_true,Bool.not_eq_eq_eq_not,Bool.not_true,decide_eq_false_iff_not] at x;rcases x with x|x
    ·exact .inl x
    exact .inr (Nat.lt_of_le_of_lt a3 (put_cap L h p1 p2 x))
   exact .inr (Nat.lt_of_lt_of_le x hc)
  intro U hU hl hv;exact a6 U hU (put_le L h hU p1 p2 hl (hv p List.mem_cons_self)) (fun q hq=>hv q (List.mem_cons_of_mem _ hq))
/-- The rest of a round,d places. -/
def rnds [DecidableEq R] (S:Sys R):Nat->List R->Bool->List R × Bool
 | 0,T,b=>(T,b)
 | d+1,T,b=>rnds S d (pass S (S.out (S.n - (d+1)) (S.at' T (S.n - (d+1)))) T b).1 (pass S (S.out (S.n - (d+1)) (S.at' T (S.n - (d+1)))) T b).2
theorem rnds_all [DecidableEq R] (L:S.Laws):∀ (d:Nat) (T:List R) (b:Bool),d<=S.n->S.St T ->
  S.St (rnds S d T b).1/\S.Leq T (rnds S d T b).1/\S.cap (rnds S d T b).1<=S.cap T/\((rnds S d T b).2=false->b=false/\(rnds S d T b).1=T/\∀ i,S.n - d<=i->i < S.n->S.Cl T i)/\((rnds S d T b).2=true->b=true\/S.cap (rnds S d T b).1 < S.cap T)/\(∀ U,S.Sol U->S.Leq T U->S.Leq (rnds S d T b).1 U)
 | 0,T,b,hd,h=>⟨h,leq_refl L h,Nat.le_refl _,fun e=>⟨e,rfl,fun i a b=>absurd a (by omega)⟩,fun e=>.inl e,fun U _ g=>g⟩
 | d+1,T,b,hd,h=>by
  have hi:S.n - (d+1) < S.n:=by omega
  obtain⟨b1,b2,b3,b4,b5,b6⟩:=pass_all L (S.out (S.n - (d+1)) (S.at' T (S.n - (d+1)))) T b h (L.oko _ _ hi (h.2 _ hi));obtain⟨a1,a2,a3,a4,a5,a6⟩:=rnds_all L d _ (pass S (S.out (S.n - (d+1)) (S.at' T (S.n - (d+1)))) T b).2 (by omega) b1;refine⟨a1,leq_trans L h b1 a1 b2 a2,Nat.le_trans a3 b3,?_,?_,?_⟩
  ·intro e;obtain⟨x,y,z⟩:=a4 e;obtain⟨x',y',z'⟩:=b4 x;refine⟨x',y.trans y',fun i h1 h2=>?_⟩;by_cases e:i=S.n - (d+1)
   ·rw [e];exact z'
   have:=z i (by omega) h2
   rwa [y'] at this
  ·intro e;rcases a5 e with x|x
   ·rcases b5 x with x|x
    ·exact .inl x
    exact .inr (Nat.lt_of_le_of_lt a3 x)
   exact .inr (Nat.lt_of_lt_of_le x b3)
  intro U hU hl;refine a6 U hU (b6 U hU.1 hl fun p hp=>?_);obtain⟨v,m1,m2⟩:=L.mono _ _ _ hi (h.2 _ hi) (hU.1.2 _ hi) (hl _ hi) p hp;have o1:=L.oko _ _ hi (h.2 _ hi) p hp;have o2:=L.oko _ _ hi (hU.1.2 _ hi) _ m1;exact L.trans _ _ _ o1.2 o2.2 (hU.1.2 _ o1.1) m2 (hU.2.2 _ hi _ m1)
/-- The first state. -/
def T0 (S:Sys R):List R:=(List.replicate S.n S.d).set 0 S.ini
theorem T0_at (L:S.Laws) (i:Nat):S.at' (T0 S) i=if i=0 then S.ini else S.d:=by
 unfold T0;rw [at_set (by rw [List.length_replicate];exact L.pos)];split
 ·rfl
 unfold at';simp only [List.getD_eq_getElem?_getD,List.getElem?_replicate];split <;> rfl
theorem T0_st (L:S.Laws):S.St (T0 S):=by
 refine⟨by unfold T0;simp,fun i hi=>?_⟩;rw [T0_at L];split
 ·exact L.oki
 exact L.okd
theorem T0_le (L:S.Laws) {U:List R} (h:S.Sol U):S.Leq (T0 S) U:=by
 intro i hi;rw [T0_at L];split
 ·rename_i e
  subst e;exact h.2.1
 exact L.bot _ (h.1.2 i hi)
/-- What holds between two rounds. -/
def Rd (S:Sys R) (T:List R):Prop:=S.St T/\S.le S.ini (S.at' T 0)/\∀ U,S.Sol U->S.Leq T U
theorem rd0 (L:S.Laws):Rd S (T0 S):=⟨T0_st L,by rw [T0_at L,if_pos rfl];exact L.refl _ L.oki,fun U h=>T0_le L h⟩
theorem rd_step [DecidableEq R] (L:S.Laws) {T:List R} (h:Rd S T):Rd S (rnds S S.n T false).1/\((rnds S S.n T false).2=true->S.cap (rnds S S.n T false).1 < S.cap T)/\((rnds S S.n T false).2=false->S.Lfp (rnds S S.n T false).1):=by
 obtain⟨h1,h2,h3⟩:=h;obtain⟨a1,a2,a3,a4,a5,a6⟩:=rnds_all L S.n T false (Nat.le_refl _) h1;refine⟨⟨a1,L.trans _ _ _ L.oki (h1.2 _ L.pos) (a1.2 _ L.pos) h2 (a2 _ L.pos),fun U hU=>a6 U hU (h3 U hU)⟩,fun e=>?_,fun e=>?_⟩
 ·rcases a5 e with x|x
  ·cases x
  exact x
 obtain⟨_,y,z⟩:=a4 e;rw [y];exact⟨⟨h1,h2,fun i hi=>z i (by omega) hi⟩,h3⟩
/-- What a place hands on,with the list of work. -/
def wpass [DecidableEq R] (S:Sys R):List (Nat × R)->List R->List Nat->List R × List Nat
 | [],T,w=>(T,w)
 | p :: ps,T,w=>if S.jn (S.at' T p.1) p.2=S.at' T p.1 then wpass S ps T w else wpass S ps (S.put T p) (w ++ [p.1])
theorem wpass_all [DecidableEq R] (L:S.Laws):∀ (ps:List (Nat × R)) (T:List R) (w:List Nat),S.St T->(∀ p∈ps,p.1 < S.n/\S.ok p.2)->(∀ i∈w,i < S.n) ->
  S.St (wpass S ps T w).1/\S.Leq T (wpass S ps T w).1/\S.cap (wpass S ps T w).1+(wpass S ps T w).2.length<=S.cap T+w.length/\(∀ i∈(wpass S ps T w).2,i < S.n)/\(∀ i∈w,i∈(wpass S ps T w).2)/\(∀ i,i < S.n->i∈(wpass S ps T w).2\/S.at' (wpass S ps T w).1 i=S.at' T i)/\(∀ p∈ps,S.le p.2 (S.at' (wpass S ps T w).1 p.1))/\(∀ U,S.St U->S.Leq T U->(∀ p∈ps,S.le p.2 (S.at' U p.1))->S.Leq (wpass S ps T w).1 U)
 | [],T,w,h,_,hw=>⟨h,leq_refl L h,Nat.le_refl _,hw,fun i hi=>hi,fun i hi=>.inr rfl,by simp,fun U _ g _=>g⟩
 | p :: ps,T,w,h,hp,hw=>by
  have p1:=(hp p List.mem_cons_self).1;have p2:=(hp p List.mem_cons_self).2;unfold wpass;split
  ·rename_i e
   obtain⟨a1,a2,a3,a4,a5,a6,a7,a8⟩:=wpass_all L ps T w h (fun q hq=>hp q (List.mem_cons_of_mem _ hq)) hw;refine⟨a1,a2,a3,a4,a5,a6,fun q hq=>?_,fun U hU hl hv=>a8 U hU hl fun q hq=>hv q (List.mem_cons_of_mem _ hq)⟩;rcases List.mem_cons.1 hq with rfl|hq
   ·have o:=L.ub2 _ _ (h.2 _ p1) p2;rw [e] at o;exact L.trans _ _ _ p2 (h.2 _ p1) (a1.2 _ p1) o (a2 _ p1)
   exact a7 q hq
  rename_i e
  have h1:=put_st L h p1 p2;have hc:=put_cap L h p1 p2 e
  obtain⟨a1,a2,a3,a4,a5,a6,a7,a8⟩:=wpass_all L ps (S.put T p) (w ++ [p.1]) h1 (fun q hq=>hp q (List.mem_cons_of_mem _ hq)) (fun i hi=>by
   rcases List.mem_append.1 hi with hi|hi
   ·exact hw i hi
   rw [List.mem_singleton.1 hi];exact p1)
  rw [List.length_append,List.length_singleton] at a3;refine⟨a1,leq_trans L h h1 a1 (put_up L h p1 p2) a2,by omega,a4,fun i hi=>a5 i (List.mem_append_left _ hi),fun i hi=>?_,fun q hq=>?_,fun U hU hl hv=>a8 U hU (put_le L h hU p1 p2 hl (hv p List.mem_cons_self)) fun q hq=>hv q (List.mem_cons_of_mem _ hq)⟩
  ·rcases a6 i hi with x|x
   ·exact .inl x
   by_cases ei:i=p.1
   ·exact .inl (a5 i (by rw [ei];simp))
   rw [put_at (by rw [h.1];exact p1),if_neg ei] at x;exact .inr x
  rcases List.mem_cons.1 hq with rfl|hq
  ·exact L.trans _ _ _ p2 (h1.2 _ p1) (a1.2 _ p1) (put_has L h p1 p2) (a2 _ p1)
  exact a7 q hq
theorem not_bot (L:S.Laws) {a b:R} (ha:S.ok a) (hb:S.ok b) (h:S.le a b) (g:a≠S.d):b≠S.d:=fun e=>g (L.anti _ _ ha L.okd (by rw [e] at h;exact h) (L.bot _ ha))
theorem wpass_new [DecidableEq R] (L:S.Laws):∀ (ps:List (Nat × R)) (T:List R) (w:List Nat),S.St T->(∀ p∈ps,p.1 < S.n/\S.ok p.2)->(∀ i∈w,i < S.n)->(∀ i∈w,S.at' T i≠S.d)->∀ i∈(wpass S ps T w).2,S.at' (wpass S ps T w).1 i≠S.d
 | [],T,w,h,_,_,g=>g
 | p :: ps,T,w,h,hp,hw,g=>by
  have p1:=(hp p List.mem_cons_self).1;have p2:=(hp p List.mem_cons_self).2;unfold wpass;split
  ·exact wpass_new L ps T w h (fun q hq=>hp q (List.mem_cons_of_mem _ hq)) hw g
  rename_i e
  have h1:=put_st L h p1 p2;have up:=put_up L h p1 p2
  have hw':∀ i∈w ++ [p.1],i < S.n:=fun i hi=>by
   rcases List.mem_append.1 hi with hi|hi
   ·exact hw i hi
   rw [List.mem_singleton.1 hi];exact p1
  refine wpass_new L ps (S.put T p) (w ++ [p.1]) h1 (fun q hq=>hp q (List.mem_cons_of_mem _ hq)) hw' fun i hi=>?_
  by_cases ei:i=p.1
  ·rw [ei,put_at (by rw [h.1];exact p1),if_pos rfl];intro x;have u:=L.ub1 _ _ (h.2 _ p1) p2;rw [x] at u;exact e (x.trans (L.anti _ _ (h.2 _ p1) L.okd u (L.bot _ (h.2 _ p1))).symm)
  rcases List.mem_append.1 hi with hi|hi
  ·exact not_bot L (h.2 _ (hw i hi)) (h1.2 _ (hw i hi)) (up i (hw i hi)) (g i hi)
  exact absurd (List.mem_singleton.1 hi) ei
/-- What holds while there is work. -/
def Wk (S:Sys R) (T:List R) (w:List Nat):Prop:=Rd S T/\(∀ i∈w,i < S.n)/\(∀ i,i < S.n->i∈w\/S.Cl T i)/\∀ i∈w,S.at' T i≠S.d
theorem wk0 (L:S.Laws):Wk S (T0 S) [0]:=by
 refine⟨rd0 L,by simpa using L.pos,fun i hi=>?_,fun i hi=>?_⟩
 ·by_cases e:i=0
  ·exact .inl (by simp [e])
  refine .inr fun p hp=>?_
  rw [T0_at L,if_neg e,L.outd] at hp;simp at hp
 rw [List.mem_singleton.1 hi,T0_at L,if_pos rfl];exact L.inid
theorem wk_end {T:List R} (h:Wk S T []):S.Lfp T:=⟨⟨h.1.1,h.1.2.1,fun i hi=>by
 rcases h.2.2.1 i hi with x|x
 ·simp at x
 exact x⟩,h.1.2.2⟩
theorem wk_step [DecidableEq R] (L:S.Laws) {T:List R} {w:List Nat} {a:Nat} (h:Wk S T (w ++ [a])):a < S.n/\S.at' T a≠S.d/\Wk S (wpass S (S.out a (S.at' T a)) T w).1 (wpass S (S.out a (S.at' T a)) T w).2/\S.cap (wpass S (S.out a (S.at' T a)) T w).1+(wpass S (S.out a (S.at' T a)) T w).2.length < S.cap T+(w ++ [a]).length:=by
 obtain⟨⟨h1,h2,h3⟩,h4,h5,h6⟩:=h;have ha:a < S.n:=h4 a (by simp);have ho:=L.oko _ _ ha (h1.2 _ ha);have hw:∀ i∈w,i < S.n:=fun i hi=>h4 i (by simp [hi])
 obtain⟨a1,a2,a3,a4,a5,a6,a7,a8⟩:=wpass_all L (S.out a (S.at' T a)) T w h1 ho hw;refine⟨ha,h6 a (by simp),⟨⟨a1,L.trans _ _ _ L.oki (h1.2 _ L.pos) (a1.2 _ L.pos) h2 (a2 _ L.pos),fun U hU=>a8 U hU.1 (h3 U hU) fun p hp=>?_⟩,a4,fun i hi=>?_,wpass_new L _ T w h1 ho hw fun i hi=>h6 i (by simp [hi])⟩,by rw [List.length_append,List.length_singleton];omega⟩
 ·obtain⟨v,m1,m2⟩:=L.mono _ _ _ ha (h1.2 _ ha) (hU.1.2 _ ha) (h3 U hU _ ha) p hp;have o1:=L.oko _ _ ha (h1.2 _ ha) p hp;have o2:=L.oko _ _ ha (hU.1.2 _ ha) _ m1;exact L.trans _ _ _ o1.2 o2.2 (hU.1.2 _ o1.1) m2 (hU.2.2 _ ha _ m1)
 rcases a6 i hi with x|x
 ·exact .inl x
 by_cases ei:i=a
 ·refine .inr ?_;intro p hp;rw [x,ei] at hp;exact a7 p hp
 rcases h5 i hi with y|y
 ·rcases List.mem_append.1 y with y|y
  ·exact .inl (a5 i y)
  exact absurd (List.mem_singleton.1 y) ei
 refine .inr fun p hp=>?_
 rw [x] at hp;have o:=L.oko _ _ hi (h1.2 _ hi) p hp;exact L.trans _ _ _ o.2 (h1.2 _ o.1) (a1.2 _ o.1) (y p hp) (a2 _ o.1)
theorem cap_le (T:List R):S.cap T<=T.length*S.top:=by
 unfold cap
 induction T with
 | nil=>simp
 | cons x xs ih =>
  simp only [List.map_cons,List.sum_cons,List.length_cons,Nat.succ_mul];omega
end Sys
end Go.Proofs.YtdkkdiiceaomaaaGreat.M
namespace Go.Proofs.YtdkkdiiceaomaaaGreat.M
open Go.Proofs.Tryz Go.RowKit Go.Proofs.YtdkkdiiceaomaaaGreatW.PrintWords Go.Proofs.YtdkkdiiceaomaaaGreatW.PrintLast Go.Proofs.YtdkkdiiceaomaaaGreatW.PrintMore
attribute [local go_sem] aas aaq aaH aaG aaj aai aar aap
def agl:Nat->Int->Bool->Int->Int->Int->Int->Int->Option (List Int)
 | 0,_,_,_,_,_,_,_=>none
 | k+1,x1,bC,aC,aR,aS,aT,af=>if bC=true then (some (([af,wrap64 (x1+1)]:List Int))) else (if aC=5 then (if af > (wrap64 (x1+1)) then (some (([wrap64 (x1+1),af]:List Int))) else (some (([wrap64 (x1+1)]:List Int)))) else (some (([wrap64 (x1+1)]:List Int))))
def amZ (k:Nat) (ag ax ay az ae a1:Int):Option (List Int):=if ag=10 then (some ([]:List Int)) else (if ag=4 then (some (([ae]:List Int))) else (if ag=5 then (agl k a1 (decide (ae < (wrap64 (a1+1)))) ag ax ay az ae) else (agl k a1 false ag ax ay az ae)))
theorem an0 (k:Nat) (ag ax ay az ae a1:Int) (r:List Int) (w:World) (h:amZ k ag ax ay az ae a1=some r) :
  Calls prog 65 #[.agg #[iV ag,iV ax,iV ay,iV az,iV ae],iV a1] w fun e w'=>∃ bq:Value,e = .returned (bq)/\Kd.R (Kd.int .i64) 3 w' w.heap.size (fun _=>True) bq r/\Below w.heap.size w w':=by
 have bE:=underlying31;have HB:=jb_ w;have H:=h;unfold amZ at H;clear h;replace H:=jE H;rcases H with ⟨aU,aV,H⟩ | ⟨c3,aU,aV,H⟩
 ·obtain rfl:=oJ H;go_enter func65,ntmps65;go_wp2_with (first|((with_reducible refine jd 2 ?_);refine jY _ 31 ?_;intro aA hg w4 aa hb;have aD:=kG hg;replace HB:=kH hb;clear hb hg;have bN:=jz5 aa));go_ret;exact⟨_,qW,by first|exact Kd.R_nil _ _ _ _ _|exact Kd.N_nil _ _ _ _ _|exact Kd.V_nil _ _ _ _ _|exact Kd.Q_nil _ _ _ _ _|exact Kd.S_nil _ _ _ _ _,qB⟩
 replace H:=jE H;rcases H with ⟨aW,aX,H⟩ | ⟨c6,aW,aX,H⟩
 ·obtain⟨y1206,ah⟩:=ky ((([ae]:List Int)):List Int);replace H:=kv ah H;obtain rfl:=oJ H;go_enter func65,ntmps65;go_wp2_with (first|((with_reducible refine jd 2 ?_);refine jY _ 31 ?_;intro aA hg w7 aa hb;have aD:=kG hg;replace HB:=kH hb;clear hb hg;have bO:=jz5 aa)|((with_reducible refine jd 15 ?_);refine jV (Kd.int .i64) 3 ([ae]:List Int) [iV ae] (aav.one (show Kd.M (Kd.int .i64) _ _ _ ae [iV ae] from rfl) (aa8 _ _)) ?_;intro bu w9 aF hb;replace aF:=kr ah aF;have aK:=kL aF;replace aa:=kB aa hb;replace HB:=kH hb;clear hb aF));go_ret;exact⟨_,qW,qR aK,qB⟩
 have aL:=aM H;clear H;go_enter func65,ntmps65;go_upto_region 5 with (first|((with_reducible refine jd 2 ?_);refine jY _ 31 ?_;intro aA hg bP aa hb;have aD:=kG hg;replace HB:=kH hb;clear hb hg;have bn:=jz5 aa));(try simp only [Act.put,List.setIfInBounds_toArray,List.set_cons_zero,List.set_cons_succ]);go_cut [16] (fun v16 wc=>∃ (kq:Nat) (aB:Bool),v16 = .bool aB/\aa1 (agl kq a1 aB ag ax ay az ae=some r)/\aa1 (kq<=k)/\aa1 (wc.heap[aA]?=some (.cells #[iV ag,iV ax,iV ay,iV az,iV ae] 31 (0,0)))/\aa1 (Below w.heap.size w wc))
 case first =>
  have H:=aL.out;clear aL;replace H:=jE H;rcases H with ⟨av,aY,H⟩ | ⟨c14,av,aY,H⟩
  ·(first|rw [av]|(simp only [aaw,aaA];rw [av])|skip);have H':=aM H;clear H;have bF:=jz5 aa;go_wp2;go_meet;exact⟨_,(decide (ae < (wrap64 (a1+1)))),qZ,H',⟨by first|omega|exact Nat.le_refl _⟩,⟨qK aa⟩,⟨qB⟩⟩
  (first|rw [av]|(simp only [aaw,aaA];rw [av])|skip);have H':=aM H;clear H;have bG:=jz5 aa;go_wp2;go_meet;exact⟨_,(false),qZ,H',⟨by first|omega|exact Nat.le_refl _⟩,⟨qK aa⟩,⟨qB⟩⟩
 clear aL;try clear c3;try clear aU;try clear aV;try clear c6;try clear aW;try clear aX;try clear bn
 obtain⟨kq,aB,rfl,HA,bH,aa,HB⟩:=hcut
 cases kq with
 | zero=>exact absurd HA.out (by simp [agl])
 | succ bI =>
  have H:=HA.out;clear HA;simp only [agl] at H;replace H:=jB H;rcases H with ⟨rfl,H⟩ | ⟨rfl,H⟩
  ·obtain⟨y1209,ai⟩:=ky ((([ae,wrap64 (a1+1)]:List Int)):List Int);replace H:=kv ai H;obtain rfl:=oJ H;have bJ:=jz5 aa;go_wp2_with (first|((with_reducible refine jd 31 ?_);refine jV (Kd.int .i64) 3 ([ae,wrap64 (a1+1)]:List Int) [iV ae,iV (wrap64 (a1+1))] (aav.one (show Kd.M (Kd.int .i64) _ _ _ ae [iV ae] from rfl) (aav.one (show Kd.M (Kd.int .i64) _ _ _ (wrap64 (a1+1)) [iV (wrap64 (a1+1))] from rfl) (aa8 _ _))) ?_;intro bv bQ aG hb;replace aG:=kr ai aG;have aN:=kL aG;replace aa:=kB aa hb;replace HB:=kH hb;clear hb aG));go_ret;exact⟨_,qW,qR aN,qB⟩
  replace H:=jE H;rcases H with ⟨aZ,bg,H⟩ | ⟨c21,aZ,bg,H⟩
  ·replace H:=jD H;rcases H with ⟨bi,H⟩ | ⟨bi,H⟩
   ·obtain⟨y1212,aj⟩:=ky ((([wrap64 (a1+1),ae]:List Int)):List Int);replace H:=kv aj H;obtain rfl:=oJ H;have bK:=jz5 aa;go_wp2_with (first|((with_reducible refine jd 47 ?_);refine jV (Kd.int .i64) 3 ([wrap64 (a1+1),ae]:List Int) [iV (wrap64 (a1+1)),iV ae] (aav.one (show Kd.M (Kd.int .i64) _ _ _ (wrap64 (a1+1)) [iV (wrap64 (a1+1))] from rfl) (aav.one (show Kd.M (Kd.int .i64) _ _ _ ae [iV ae] from rfl) (aa8 _ _))) ?_;intro bz bR aH hb;replace aH:=kr aj aH;have aO:=kL aH;replace aa:=kB aa hb;replace HB:=kH hb;clear hb aH));go_ret;exact⟨_,qW,qR aO,qB⟩
   obtain⟨y1215,ak⟩:=ky ((([wrap64 (a1+1)]:List Int)):List Int);replace H:=kv ak H;obtain rfl:=oJ H;have bL:=jz5 aa;go_wp2_with (first|((with_reducible refine jd 50 ?_);refine jV (Kd.int .i64) 3 ([wrap64 (a1+1)]:List Int) [iV (wrap64 (a1+1))] (aav.one (show Kd.M (Kd.int .i64) _ _ _ (wrap64 (a1+1)) [iV (wrap64 (a1+1))] from rfl) (aa8 _ _)) ?_;intro bA bS aI hb;replace aI:=kr ak aI;have aP:=kL aI;replace aa:=kB aa hb;replace HB:=kH hb;clear hb aI));go_ret;exact⟨_,qW,qR aP,qB⟩
  obtain⟨y1218,au⟩:=ky ((([wrap64 (a1+1)]:List Int)):List Int);replace H:=kv au H;obtain rfl:=oJ H;have bM:=jz5 aa;go_wp2_with (first|((with_reducible refine jd 50 ?_);refine jV (Kd.int .i64) 3 ([wrap64 (a1+1)]:List Int) [iV (wrap64 (a1+1))] (aav.one (show Kd.M (Kd.int .i64) _ _ _ (wrap64 (a1+1)) [iV (wrap64 (a1+1))] from rfl) (aa8 _ _)) ?_;intro bB bT aJ hb;replace aJ:=kr au aJ;have aQ:=kL aJ;replace aa:=kB aa hb;replace HB:=kH hb;clear hb aJ));go_ret;exact⟨_,qW,qR aQ,qB⟩
def aeB:Nat->Int->Bool->Int->Int->Int->Int->Int->Option (Int)
 | 0,_,_,_,_,_,_,_=>none
 | k+1,x4,x5,aO,aP,ai,au,aQ=>if x5=true then (if 0<=ai then (some (shl .u16 1 ai)) else (none)) else (if x4=3 then (if 0<=ai then (if 0<=au then (some (Go.bits .or .u16 (shl .u16 1 ai) (shl .u16 1 au))) else (none)) else (none)) else (some 0))
def ajp (k:Nat) (ae aj af ah ak:Int):Option (Int):=if ae=2 then (aeB k ae (ae == 2) ae aj af ah ak) else (if ae=5 then (aeB k ae (ae == 5) ae aj af ah ak) else (if ae=6 then (aeB k ae (ae == 6) ae aj af ah ak) else (aeB k ae (ae == 9) ae aj af ah ak)))
theorem agj (k:Nat) (ae aj af ah ak r:Int) (w:World) (h:ajp k ae aj af ah ak=some r) :
  Calls prog 48 #[.agg #[iV ae,iV aj,iV af,iV ah,iV ak]] w fun e w'=>e = .returned (.int .u16 r)/\Below w.heap.size w w':=by
 have bI:=underlying31;have HB:=jb_ w;have H:=h;unfold ajp at H;clear h;have aT:=aM H;clear H;go_enter func48,ntmps48;go_upto_if 5 with (first|((with_reducible refine jd 1 ?_);refine jY _ 31 ?_;intro ag hg w3 aa hb;have aA:=kG hg;have aB:=kG hg;replace HB:=kH hb;clear hb hg;have bv:=jz5 aa));repeat (go_quiet (first|((with_reducible refine anu (N:=1) rfl ?_);refine aer ?hg (N:=1) ?hd (cs:=#[iV ae,iV aj,iV af,iV ah,iV ak]) (t:=31) ?hr ?_;(case hd=>rfl);(case hg=>rfl);(case hr=>first|(go_simp;done)|(go_simp;rfl));intro ag hg w3 hbox hb;have bz:=aM (aaL qB hb);have bA:=aM hbox;have bB:=aM ((by rw [hg];exact (aa4 qB):w.heap.size<=ag));have bC:=aM ((by rw [hg];exact (aa4 qB):w.heap.size<=ag));clear HB;have HB:=bz;have aa:=bA;have aA:=bB;have aB:=bC;clear bz bA bB bC;clear hb hbox hg;have bJ:w3.cell? ⟨ag,0,none⟩=some (iV ae):=(aa3 aa.out 0).trans rfl;have bK:w3.cell? ⟨ag,1,none⟩=some (iV aj):=(aa3 aa.out 1).trans rfl;have bL:w3.cell? ⟨ag,2,none⟩=some (iV af):=(aa3 aa.out 2).trans rfl;have bM:w3.cell? ⟨ag,3,none⟩=some (iV ah):=(aa3 aa.out 3).trans rfl;have bN:w3.cell? ⟨ag,4,none⟩=some (iV ak):=(aa3 aa.out 4).trans rfl;have bO:=aa6 aa.out 0;have bP:=aa6 aa.out 1;have bQ:=aa6 aa.out 2;have bR:=aa6 aa.out 3;have bS:=aa6 aa.out 4));go_upto_if 5 with (first|((with_reducible refine jd 1 ?_);refine jY _ 31 ?_;intro ag hg w3 aa hb;have aA:=kG hg;have aB:=kG hg;replace HB:=kH hb;clear hb hg;have bv:=jz5 aa)))
 (try simp only [Act.put,List.setIfInBounds_toArray,List.set_cons_zero,List.set_cons_succ]);go_cut [5] (fun v5 wc=>∃ (kq:Nat) (aG:Bool),v5 = .bool aG/\aa1 (aeB kq ae aG ae aj af ah ak=some r)/\aa1 (kq<=k)/\aa1 (wc.heap[ag]?=some (.cells #[iV ae,iV aj,iV af,iV ah,iV ak] 31 (0,0)))/\aa1 (Below w.heap.size w wc))
 case first =>
  have H:=aT.out;clear aT;replace H:=jE H;rcases H with ⟨aC,aU,H⟩ | ⟨c5,aC,aU,H⟩
  ·(first|rw [aC]|(simp only [aaw,aaA];rw [aC])|skip);have H':=aM H;clear H;go_wp2;repeat (go_quiet (fail);try go_wp2)
   go_meet;exact⟨_,((ae == 2)),qZ,H',⟨by first|omega|exact Nat.le_refl _⟩,⟨qK aa⟩,⟨qB⟩⟩
  (first|rw [aC]|(simp only [aaw,aaA];rw [aC])|skip);replace H:=jE H;rcases H with ⟨aV,aW,H⟩ | ⟨c6,aV,aW,H⟩
  ·have H':=aM H;clear H;go_wp2;repeat (go_quiet (fail);try go_wp2)
   go_meet;exact⟨_,((ae == 5)),qZ,H',⟨by first|omega|exact Nat.le_refl _⟩,⟨qK aa⟩,⟨qB⟩⟩
  replace H:=jE H;rcases H with ⟨aX,aY,H⟩ | ⟨c7,aX,aY,H⟩
  ·have H':=aM H;clear H;go_wp2;repeat (go_quiet (fail);try go_wp2)
   go_meet;exact⟨_,((ae == 6)),qZ,H',⟨by first|omega|exact Nat.le_refl _⟩,⟨qK aa⟩,⟨qB⟩⟩
  have H':=aM H;clear H;go_wp2;repeat (go_quiet (fail);try go_wp2)
  go_meet;exact⟨_,((ae == 9)),qZ,H',⟨by first|omega|exact Nat.le_refl _⟩,⟨qK aa⟩,⟨qB⟩⟩
 clear aT;try clear bv
 obtain⟨kq,aG,rfl,HA,bX,aa,HB⟩:=hcut
 cases kq with
 | zero=>exact absurd HA.out (by simp [aeB])
 | succ bY =>
  have H:=HA.out;clear HA;simp only [aeB] at H;replace H:=jB H;rcases H with ⟨rfl,H⟩ | ⟨rfl,H⟩
  ·replace H:=jJ H;obtain⟨bT,bU,H⟩:=H;obtain⟨aD,av⟩:∃ j_:Int,(shl .u16 1 af)=j_:=⟨_,rfl⟩
   replace H:(some aD)=some r:=by first|(rw [av] at H;exact H)|(simp only [av] at H ⊢;exact H)
   have aH:(IntKind.u16.wrap (1*2 ^ min af.toNat 16))=aD:=av;have aI:af<=16->(IntKind.u16.wrap (1*2 ^ af.toNat))=aD:=aea av;have aZ:(IntKind.u16.wrap (2 ^ min af.toNat 16))=aD:=by have h_:=aH;rw [Int.one_mul] at h_;exact h_
   have bg:af<=16->(IntKind.u16.wrap (2 ^ af.toNat))=aD:=fun hle_=>by have h_:=aI hle_;rw [Int.one_mul] at h_;exact h_
   obtain rfl:=oJ H;have bV:=jz5 aa;go_wp2;repeat (go_quiet (fail);try go_wp2)
   go_ret;exact⟨by first|rfl|(simp [aaF,aaE] <;> rfl)|(simp only [<- av];first|rfl|(simp [aaF,aaE] <;> rfl))|(simp [*,aaF,aaE] <;> rfl),qB⟩
  replace H:=jE H;rcases H with ⟨aR,aS,H⟩ | ⟨c12,aR,aS,H⟩
  ·replace H:=jJ H;obtain⟨bD,bE,H⟩:=H;obtain⟨az,ax⟩:∃ j_:Int,(shl .u16 1 af)=j_:=⟨_,rfl⟩
   replace H:(if 0<=ah then (some (Go.bits .or .u16 (az) (shl .u16 1 ah))) else (none))=some r:=by first|(rw [ax] at H;exact H)|(simp only [ax] at H ⊢;exact H)
   have aJ:(IntKind.u16.wrap (1*2 ^ min af.toNat 16))=az:=ax;have aK:af<=16->(IntKind.u16.wrap (1*2 ^ af.toNat))=az:=aea ax;have bi:(IntKind.u16.wrap (2 ^ min af.toNat 16))=az:=by have h_:=aJ;rw [Int.one_mul] at h_;exact h_
   have bn:af<=16->(IntKind.u16.wrap (2 ^ af.toNat))=az:=fun hle_=>by have h_:=aK hle_;rw [Int.one_mul] at h_;exact h_
   replace H:=jJ H;obtain⟨bF,bG,H⟩:=H;obtain⟨aF,ay⟩:∃ j_:Int,(shl .u16 1 ah)=j_:=⟨_,rfl⟩
   replace H:(some (Go.bits .or .u16 (az) (aF)))=some r:=by first|(rw [ay] at H;exact H)|(simp only [ay] at H ⊢;exact H)
   have aL:(IntKind.u16.wrap (1*2 ^ min ah.toNat 16))=aF:=ay;have aN:ah<=16->(IntKind.u16.wrap (1*2 ^ ah.toNat))=aF:=aea ay;have bq:(IntKind.u16.wrap (2 ^ min ah.toNat 16))=aF:=by have h_:=aL;rw [Int.one_mul] at h_;exact h_
   have bu:ah<=16->(IntKind.u16.wrap (2 ^ ah.toNat))=aF:=fun hle_=>by have h_:=aN hle_;rw [Int.one_mul] at h_;exact h_
   obtain rfl:=oJ H;have bW:=jz5 aa;go_wp2;repeat (go_quiet (fail);try go_wp2)
   go_ret;exact⟨by first|rfl|(simp [aaF,aaE] <;> rfl)|(simp only [<- ax,<- ay];first|rfl|(simp [aaF,aaE] <;> rfl))|(simp [*,aaF,aaE] <;> rfl),qB⟩
  obtain rfl:=oJ H;go_wp2;repeat (go_quiet (fail);try go_wp2)
  go_ret;exact⟨qW,qB⟩
def akr (aa ae af ag ah:Int):Option (Int):=if aa=1 then (some ae) else (if aa=2 then (some ae) else (if aa=3 then (some ae) else (if aa=7 then (some ae) else (some (-1)))))
theorem amF {G:Prop} (h:G:=by
  go_enter func50,ntmps50;go_wp2_with (first|((with_reducible refine jd 1 ?_);refine jY _ 31 ?_;intro au hg aD ai hb;have av:=kG hg;replace HB:=kH hb;clear hb hg;have aF:=jz5 ai));go_ret
  exact⟨qW,qB⟩):G:=h
theorem Sac.calls (aa ae af ag ah r:Int) (w:World) (h:akr aa ae af ag ah=some r) :
  Calls prog 50 #[.agg #[iV aa,iV ae,iV af,iV ag,iV ah]] w fun e w'=>e = .returned (iV r)/\Below w.heap.size w w':=by
 have aG:=underlying31;have HB:=jb_ w;have H:=h;unfold akr at H;clear h;replace H:=jE H;rcases H with ⟨ax,ay,H⟩ | ⟨c2,ax,ay,H⟩
 ·obtain rfl:=oJ H;exact amF
 replace H:=jE H;rcases H with ⟨az,aA,H⟩ | ⟨c5,az,aA,H⟩
 ·obtain rfl:=oJ H;exact amF
 replace H:=jE H;rcases H with ⟨aB,aC,H⟩ | ⟨c8,aB,aC,H⟩
 ·obtain rfl:=oJ H;exact amF
 replace H:=jE H;rcases H with ⟨aj,ak,H⟩ | ⟨c11,aj,ak,H⟩
 ·obtain rfl:=oJ H;exact amF
 obtain rfl:=oJ H;exact amF
end Go.Proofs.YtdkkdiiceaomaaaGreat.M
namespace Go.Proofs.YtdkkdiiceaomaaaGreat.M
open Go.Proofs.Tryz Go.RowKit Go.Proofs.YtdkkdiiceaomaaaGreatW.PrintWords Go.Proofs.YtdkkdiiceaomaaaGreatW.PrintLast Go.Proofs.YtdkkdiiceaomaaaGreatW.PrintMore PM
abbrev SQ:=S31
def q_ (x:SQ):Q:=⟨x.f0,x.f1,x.f2,x.f3,x.f4⟩
def qs (c:List SQ):List Q:=c.map q_
/-- The quad at an index. -/
def qa (c:List SQ) (i:Nat):SQ:=c.getD i z31
theorem ac5 (c:List SQ) (i:Nat):aa0 c (i:Int)=qa c i:=by simp [aa0,qa]
theorem acC (c:List SQ) (i:Nat):at_ (qs c) i=q_ (qa c i):=by
 unfold at_ qs qa;simp only [List.getD_eq_getElem?_getD,List.getElem?_map];cases c[i]? <;> rfl
theorem ab5 (c:List SQ):(qs c).length=c.length:=by simp [qs]
theorem aio (a b c:Int):ae4 a b c=some (decide (b<=a/\a<=c)):=by
 unfold ae4;by_cases h:a>=b
 ·have:b<=a:=h
  simp [this]
 have:¬ b<=a:=h
 simp [this]
theorem arH (x:Int) (u:Bool):ajs x u=some (rgU x u):=by
 cases u <;> simp only [ajs,rgU,aio,rgB,rg,Option.bind_some,if_true,Bool.false_eq_true,if_false]
theorem arG (q:Q) (u v t:Bool):aeI q.op q.dst q.a q.b q.n u v t=some (rgs q.dst q.a q.b u v t):=by
 simp only [aeI,arH,Option.bind_some,rgs];cases rgU q.dst u <;> cases rgU q.a v <;> simp
theorem abg {a b:Bool} (h:a=true↔b=true):some a=some b:=congrArg some (Bool.eq_iff_iff.2 h)
theorem apl (x y:Bool):(if x=true then some y else some false)=some (x && y):=by cases x <;> rfl
theorem ali (n m:Int):(if n>=0 then some (decide (n < m)) else some false)=some (decide (0<=n/\n < m)):=by
 by_cases h:n>=0
 ·rw [if_pos h];exact abg (by simp only [decide_eq_true_eq];omega)
 rw [if_neg h];exact abg (by simp only [decide_eq_true_eq,Bool.false_eq_true,false_iff];omega)
theorem apv (q:Q) (m:Int):ajk q.op q.dst q.a q.b q.n m=some (qvB q m):=by
 simp only [ajk,arG,Option.bind_some,ajj,ajm,aio];obtain⟨op,d,a,b,n⟩:=q;have ho:op=1\/op=2\/op=3\/op=4\/op=5\/op=6\/op=7\/op=9\/op=8\/op=10\/(op≠1/\op≠2/\op≠3/\op≠4/\op≠5/\op≠6/\op≠7/\op≠9/\op≠8/\op≠10):=by omega
 rcases ho with h|h|h|h|h|h|h|h|h|h | ⟨h1,h2,h3,h4,h5,h6,h7,h8,h9,h10⟩
 case inr.inr.inr.inr.inr.inr.inr.inr.inr.inr =>
  simp only [if_neg h1,if_neg h2,if_neg h3,if_neg h4,if_neg h5,if_neg h6,if_neg h7,if_neg h8,if_neg h9,if_neg h10];refine abg ?_;simp only [qvB_iff,QV,h1,h2,h3,h4,h5,h6,h7,h8,h9,h10,false_and,or_self,false_iff,not_false_eq_true,Bool.false_eq_true]
 all_goals
  have h':=h;clear h;subst h';simp only [reduceIte,Int.reduceEq,if_true,if_false];(try rw [ali]);rw [apl];refine abg ?_;rw [qvB_iff];simp only [QV,rgs,rgU,Bool.and_eq_true,rgB_iff,decide_eq_true_eq,if_true,if_false,Bool.false_eq_true,beq_iff_eq,Int.reduceEq,false_and,true_and,false_or,or_false,rg,wd];omega
theorem arI (q:Q) (m:Int):ao2 q.op q.dst q.a q.b q.n m=some (qvB q m):=rfl
instance (c:List Q):Decidable (CV c):=by unfold CV;infer_instance
/-- Whether a code is valid. -/
def cvB (c:List SQ):Bool:=decide (CV (qs c))
theorem abT {c:List SQ} (h:CV (qs c)) {i:Nat} (hi:i < c.length):QV (q_ (qa c i)) c.length:=by
 have:=h.2.2.1 i (by rw [ab5];exact hi)
 rwa [acC,ab5] at this
theorem aqS (c:List SQ) (h1:1<=c.length) (h6:c.length<=600):∀ (m i:Nat),i+m=c.length->(∀ j,j < i->QV (q_ (qa c j)) c.length)->Ev (fun k=>adm k c (c.length:Int) (i:Int)) (cvB c)
 | 0,i,h,hv=>by
  refine Ev.succ ?_;simp only [adm];rw [show wrap64 ((c.length:Int) - 1)=((c.length - 1:Nat):Int) from by rw [aaJ (by omega) (by omega)];omega,ac5];refine aa5 (aa2 (aa2 ?_))
  have e:cvB c=decide ((qa c (c.length - 1)).f0=10\/(qa c (c.length - 1)).f0=4):=by
   unfold cvB;refine decide_eq_decide.2 ?_;unfold CV;rw [ab5,acC];refine⟨fun x=>x.2.2.2,fun x=>⟨h1,h6,fun j hj=>?_,x⟩⟩;rw [acC];exact hv j (by omega)
  rw [e];by_cases hl:(qa c (c.length - 1)).f0=10
  ·refine aa2 ?_;simp only [hl,true_or,decide_true];exact Ev.pure
  refine aa5 ?_;refine abk (abg ?_);simp [hl,ac5]
 | m+1,i,h,hv=>by
  refine Ev.succ ?_;simp only [adm,ac5,aay (show i < 9223372036854775807 by omega)];refine aa2 (aa2 (aa2 ?_));refine Ev.bind (a:=qvB (q_ (qa c i)) c.length) (abk (apv (q_ (qa c i)) _)) ?_;by_cases hq:qvB (q_ (qa c i)) c.length=true
  ·refine aa2 (aqS c h1 h6 m (i+1) (by omega) fun j hj=>?_);by_cases hj':j < i
   ·exact hv j hj'
   rw [show j=i from by omega];exact qvB_iff.1 hq
  refine aa5 ?_;refine abk (abg ?_);simp only [Bool.false_eq_true,cvB,decide_eq_true_eq,false_iff];exact fun x=>hq (qvB_iff.2 (abT x (by omega)))
theorem acZ (c:List SQ):Ev (fun k=>Sag.f k c) (cvB c):=by
 simp only [Sag.f,aio];refine aaP ?_;by_cases h:1<=(c.length:Int)/\(c.length:Int)<=600
 ·refine aa2 ?_;exact aqS c (by omega) (by omega) c.length 0 (by omega) (by omega)
 refine aa5 ?_;refine abk (abg ?_);simp only [Bool.false_eq_true,cvB,decide_eq_true_eq,false_iff];intro x;have h1:=x.1;have h2:=x.2.1;rw [ab5] at h1 h2;omega
theorem ar8 (c:List SQ) (h1:1<=c.length) (h6:c.length<=600):∀ (m i:Nat),i+m=c.length->(∀ j,j < i->QV (q_ (qa c j)) c.length)->Ev (fun k=>afn k c c (c.length:Int) (i:Int)) (cvB c)
 | 0,i,h,hv=>by
  refine Ev.succ ?_;simp only [afn];rw [show wrap64 ((c.length:Int) - 1)=((c.length - 1:Nat):Int) from by rw [aaJ (by omega) (by omega)];omega,ac5];refine aa5 (aa2 (aa2 ?_))
  have e:cvB c=decide ((qa c (c.length - 1)).f0=10\/(qa c (c.length - 1)).f0=4):=by
   unfold cvB;refine decide_eq_decide.2 ?_;unfold CV;rw [ab5,acC];refine⟨fun x=>x.2.2.2,fun x=>⟨h1,h6,fun j hj=>?_,x⟩⟩;rw [acC];exact hv j (by omega)
  rw [e];by_cases hl:(qa c (c.length - 1)).f0=10
  ·refine aa2 ?_;simp only [hl,true_or,decide_true];exact Ev.pure
  refine aa5 ?_;refine abk (abg ?_);simp [hl,ac5]
 | m+1,i,h,hv=>by
  refine Ev.succ ?_;simp only [afn,ac5,aay (show i < 9223372036854775807 by omega)];refine aa2 (aa2 (aa2 ?_));refine Ev.bind (a:=qvB (q_ (qa c i)) c.length) (abk (arI (q_ (qa c i)) _)) ?_;by_cases hq:qvB (q_ (qa c i)) c.length=true
  ·refine aa2 (ar8 c h1 h6 m (i+1) (by omega) fun j hj=>?_);by_cases hj':j < i
   ·exact hv j hj'
   rw [show j=i from by omega];exact qvB_iff.1 hq
  refine aa5 ?_;refine abk (abg ?_);simp only [Bool.false_eq_true,cvB,decide_eq_true_eq,false_iff];exact fun x=>hq (qvB_iff.2 (abT x (by omega)))
theorem aoM (c:List SQ):Ev (fun k=>Sa0.f k c) (cvB c):=by
 simp only [Sa0.f]
 have no:¬ (1<=c.length/\c.length<=600)->Ev (fun k=>afo k c true) (cvB c):=by
  intro h;refine Ev.succ ?_;simp only [afo];refine aa2 (abk (abg ?_));simp only [Bool.false_eq_true,cvB,decide_eq_true_eq,false_iff];intro x;have h1:=x.1;have h2:=x.2.1;rw [ab5] at h1 h2;omega
 by_cases h:(c.length:Int) < 1
 ·exact aa2 (no (by omega))
 refine aa5 ?_;by_cases h2:(c.length:Int) > 600
 ·rw [decide_eq_true h2];exact no (by omega)
 rw [decide_eq_false h2];refine Ev.succ ?_;simp only [afo];refine aa5 ?_;exact ar8 c (by omega) (by omega) c.length 0 (by omega) (by omega)
def ints (l:List Nat):List Int:=l.map fun (j:Nat)=>(j:Int)
theorem ab2 (l:List Nat):(ints l).length=l.length:=by simp [ints]
theorem ad8 {l:List Nat} (i:Nat):rd (ints l) (i:Int)=((l.getD i 0:Nat):Int):=by
 rw [ajE];simp only [ints,List.getD_eq_getElem?_getD,List.getElem?_map];cases l[i]? <;> rfl
theorem ap5 {q:Q} {m n:Int} (h:QV q m) (hm:m<=n):QV q n:=by
 rcases h with h|h|h | ⟨a,b,c,d,e,f⟩ | ⟨a,b,c,d,e,f⟩|h
 ·exact .inl h
 ·exact .inr (.inl h)
 ·exact .inr (.inr (.inl h))
 ·exact .inr (.inr (.inr (.inl ⟨a,b,c,d,e,Int.lt_of_lt_of_le f hm⟩)))
 ·exact .inr (.inr (.inr (.inr (.inl ⟨a,b,c,d,e,Int.lt_of_lt_of_le f hm⟩))))
 exact .inr (.inr (.inr (.inr (.inr h))))
theorem arn {q:Q} {m:Nat} (h:QV q m) (hm:m<=600):QV q 600:=ap5 h (by omega)
theorem ajK {q:Q} {m:Nat} (h:QV q m) (hm:m<=600) (h4:q.op=4\/q.op=5):0<=q.n/\q.n < 600:=by unfold QV rg wd at h;omega
theorem ak3 {c:List SQ} (h:CV (qs c)) {i:Nat} (hi:i < c.length):Ev (fun k=>afv k c (i:Int)) (ints (nx (q_ (qa c i)) i)):=by
 have hq:=abT h hi;have h6:c.length<=600:=by have:=h.2.1;rwa [ab5] at this
 simp only [afv,ac5];refine aa2 (aa2 ?_);have hn:=ajK hq h6;unfold nx;by_cases c1:(qa c i).f0=10
 ·refine aa2 (Ev.eq Ev.pure ?_);simp [q_,c1,ints]
 refine aa5 ?_;by_cases c2:(qa c i).f0=4
 ·refine aa2 (Ev.eq Ev.pure ?_)
  have:=hn (.inl c2)
  simp [q_,c1,c2,ints] at this ⊢
  omega
 refine aa5 ?_;have w:=aay (show i < 9223372036854775807 by omega);by_cases c3:(qa c i).f0=5
 ·refine aa2 ?_
  have:=hn (.inr c3)
  refine Ev.succ ?_;simp only [adE,w];simp only [q_] at this;by_cases c4:(qa c i).f4 < ((i+1:Nat):Int)
  ·rw [decide_eq_true c4];refine aa2 (Ev.eq Ev.pure ?_)
   have:(qa c i).f4 < (i:Int)+1:=by omega
   simp [q_,c1,c2,c3,ints,this]
   omega
  rw [decide_eq_false c4];refine aa5 (aa2 ?_);have d4:¬ (qa c i).f4 < (i:Int)+1:=by omega
  by_cases c5:(qa c i).f4 > ((i+1:Nat):Int)
  ·refine aa2 (Ev.eq Ev.pure ?_);have d5:(i:Int)+1 < (qa c i).f4:=by omega
   simp [q_,c1,c2,c3,ints,d4,d5]
   omega
  refine aa5 (Ev.eq Ev.pure ?_);have d5:¬ (i:Int)+1 < (qa c i).f4:=by omega
  simp [q_,c1,c2,c3,ints,d4,d5]
 refine aa5 ?_;refine Ev.succ ?_;simp only [adE,w];refine aa5 (aa5 (Ev.eq Ev.pure ?_));simp [q_,c1,c2,c3,ints]
theorem aoL {c:List SQ} (h:CV (qs c)) {i:Nat} (hi:i < c.length):Ev (fun k=>amZ k (qa c i).f0 (qa c i).f1 (qa c i).f2 (qa c i).f3 (qa c i).f4 (i:Int)) (ints (nx (q_ (qa c i)) i)):=by
 have hq:=abT h hi;have h6:c.length<=600:=by have:=h.2.1;rwa [ab5] at this
 simp only [amZ];have hn:=ajK hq h6;unfold nx;by_cases c1:(qa c i).f0=10
 ·refine aa2 (Ev.eq Ev.pure ?_);simp [q_,c1,ints]
 refine aa5 ?_;by_cases c2:(qa c i).f0=4
 ·refine aa2 (Ev.eq Ev.pure ?_)
  have:=hn (.inl c2)
  simp [q_,c1,c2,ints] at this ⊢
  omega
 refine aa5 ?_;have w:=aay (show i < 9223372036854775807 by omega);by_cases c3:(qa c i).f0=5
 ·refine aa2 ?_
  have:=hn (.inr c3)
  refine Ev.succ ?_;simp only [agl,w];simp only [q_] at this;by_cases c4:(qa c i).f4 < ((i+1:Nat):Int)
  ·rw [decide_eq_true c4];refine aa2 (Ev.eq Ev.pure ?_)
   have:(qa c i).f4 < (i:Int)+1:=by omega
   simp [q_,c1,c2,c3,ints,this]
   omega
  rw [decide_eq_false c4];refine aa5 (aa2 ?_);have d4:¬ (qa c i).f4 < (i:Int)+1:=by omega
  by_cases c5:(qa c i).f4 > ((i+1:Nat):Int)
  ·refine aa2 (Ev.eq Ev.pure ?_);have d5:(i:Int)+1 < (qa c i).f4:=by omega
   simp [q_,c1,c2,c3,ints,d4,d5]
   omega
  refine aa5 (Ev.eq Ev.pure ?_);have d5:¬ (i:Int)+1 < (qa c i).f4:=by omega
  simp [q_,c1,c2,c3,ints,d4,d5]
 refine aa5 ?_;refine Ev.succ ?_;simp only [agl,w];refine aa5 (aa5 (Ev.eq Ev.pure ?_));simp [q_,c1,c2,c3,ints]
theorem aqK {q:Q} (h:QV q 600):ajl q.op q.dst q.a q.b q.n=some (sets q):=by
 simp only [ajl,apv,Option.bind_some,qvB_iff.2 h,if_true,sets];(repeat' split) <;> first|rfl|(exfalso;omega)
theorem aqT (q:Q):akr q.op q.dst q.a q.b q.n=some (sets q):=by
 simp only [akr,sets];(repeat' split) <;> first|rfl|(exfalso;omega)
theorem aiO {q:Q} {m:Int} (h:QV q m):sets q < 12:=by unfold QV rg at h;unfold sets;split <;> omega
/-- The registers that a quad reads,as a list and as a set. -/
def aeN (q:Q):List Nat :=
 if q.op=2\/q.op=5\/q.op=6\/q.op=9 then [q.a.toNat] else if q.op=3 then (if q.a=q.b then [q.a.toNat] else [(mn q.a q.b).toNat,(mx q.a q.b).toNat]) else []
def acA (q:Q):Nat:=if q.op=2\/q.op=5\/q.op=6\/q.op=9 then 2 ^ q.a.toNat else if q.op=3 then 2 ^ q.a.toNat ||| 2 ^ q.b.toNat else 0
theorem abL {q:Q} {m:Int} (h:QV q m):(0<=q.dst/\q.dst < 12)/\(0<=q.a/\q.a < 12)/\(0<=q.b/\q.b < 12):=by unfold QV rg at h;omega
theorem aju {q:Q} {m:Int} (h:QV q m):acA q < 4096:=by
 obtain⟨_,⟨h1,h2⟩,h3,h4⟩:=abL h;unfold acA;split
 ·exact aht (by omega)
 split
 ·exact al1 (n:=12) (aht (by omega)) (aht (by omega))
 decide
theorem akH {q:Q} {m:Int} (h:QV q m) (r:Nat):(acA q).testBit r=decide (uses q r):=by
 obtain⟨_,⟨h1,h2⟩,h3,h4⟩:=abL h;apply Bool.eq_iff_iff.2
 rw [decide_eq_true_eq];unfold acA uses;split
 ·rename_i h
  simp only [Nat.testBit_two_pow,decide_eq_true_eq];omega
 split
 ·simp only [Nat.testBit_or,Nat.testBit_two_pow,Bool.or_eq_true,decide_eq_true_eq];omega
 simp
 omega
theorem aqJ {q:Q} (h:QV q 600):Ev (fun k=>amv k q.op q.dst q.a q.b q.n) (ints (aeN q)):=by
 obtain⟨_,⟨h1,h2⟩,h3,h4⟩:=abL h;simp only [amv,apv];refine aaP (aa2 ?_ (qvB_iff.2 h))
 have j:∀ b:Bool,(b=true↔q.op=2\/q.op=5\/q.op=6\/q.op=9)->Ev (fun k=>aey k q.op b q.op q.dst q.a q.b q.n) (ints (aeN q)):=by
  intro b hb;refine Ev.succ ?_;simp only [aey];by_cases c1:b=true
  ·refine aa2 (Ev.eq Ev.pure ?_);unfold aeN;rw [if_pos (hb.1 c1)];simp [ints]
   omega
  refine aa5 ?_;have c0:=fun x=>c1 (hb.2 x)
  by_cases c2:q.op=3
  ·refine aa2 ?_;by_cases c3:q.a=q.b
   ·refine aa2 (Ev.eq Ev.pure ?_);unfold aeN;rw [if_neg c0,if_pos c2,if_pos c3];simp [ints]
    omega
   refine aa5 (Ev.eq Ev.pure ?_);unfold aeN;rw [if_neg c0,if_pos c2,if_neg c3];simp only [ints,List.map_cons,List.map_nil,mn,mx];(repeat' split) <;> simp <;> omega
  refine aa5 (Ev.eq Ev.pure ?_);unfold aeN;rw [if_neg c0,if_neg c2];rfl
 by_cases c1:q.op=2
 ·exact aa2 (j _ (by simp [c1]))
 refine aa5 ?_;by_cases c2:q.op=5
 ·exact aa2 (j _ (by simp [c2]))
 refine aa5 ?_;by_cases c3:q.op=6
 ·exact aa2 (j _ (by simp [c3]))
 exact aa5 (j _ (by simp only [beq_iff_eq];omega))
theorem amE {q:Q} {m:Int} (h:QV q m):Ev (fun k=>ajp k q.op q.dst q.a q.b q.n) (acA q:Int):=by
 obtain⟨_,⟨h1,h2⟩,h3,h4⟩:=abL h;have ea:shl .u16 1 q.a=((2 ^ q.a.toNat:Nat):Int):=by have:=aiN (r:=q.a.toNat) (by omega);rwa [Int.toNat_of_nonneg h1] at this
 have eb:shl .u16 1 q.b=((2 ^ q.b.toNat:Nat):Int):=by have:=aiN (r:=q.b.toNat) (by omega);rwa [Int.toNat_of_nonneg h3] at this
 have pa:=aht (r:=q.a.toNat) (by omega);have pb:=aht (r:=q.b.toNat) (by omega);simp only [ajp]
 have j:∀ b:Bool,(b=true↔q.op=2\/q.op=5\/q.op=6\/q.op=9)->Ev (fun k=>aeB k q.op b q.op q.dst q.a q.b q.n) (acA q:Int):=by
  intro b hb;refine Ev.succ ?_;simp only [aeB,ea,eb];by_cases c1:b=true
  ·refine aa2 (aa2 (Ev.eq Ev.pure ?_));unfold acA;rw [if_pos (hb.1 c1)]
  have c0:=fun x=>c1 (hb.2 x)
  refine aa5 ?_;by_cases c2:q.op=3
  ·refine aa2 (aa2 (aa2 (Ev.eq Ev.pure ?_)));unfold acA;rw [if_neg c0,if_pos c2];exact ahK (by omega) (by omega)
  refine aa5 (Ev.eq Ev.pure ?_);unfold acA;rw [if_neg c0,if_neg c2];rfl
 by_cases c1:q.op=2
 ·exact aa2 (j _ (by simp [c1]))
 refine aa5 ?_;by_cases c2:q.op=5
 ·exact aa2 (j _ (by simp [c2]))
 refine aa5 ?_;by_cases c3:q.op=6
 ·exact aa2 (j _ (by simp [c3]))
 exact aa5 (j _ (by simp only [beq_iff_eq];omega))
theorem agI {a:Int} (h:wd a):BitVec.ofInt 64 a=(BitVec.ofInt 32 a).signExtend 64:=by
 obtain⟨h1,h2⟩:=h;apply BitVec.eq_of_toInt_eq
 rw [BitVec.toInt_signExtend_of_le (by decide),BitVec.toInt_ofInt,BitVec.toInt_ofInt,Int.bmod_def,Int.bmod_def];omega
theorem aeM (x:BitVec 64):IntKind.i64.wrap (x.toNat:Int)=x.toInt:=by
 rw [IntKind.wrap_i64,BitVec.toInt_eq_toNat_bmod,Int.bmod_def]
 have:=x.isLt
 omega
theorem aiL (x:BitVec 32):wd (x.signExtend 64).toInt:=by
 rw [BitVec.toInt_signExtend_of_le (by decide)];have h1:=BitVec.le_toInt x;have h2:=BitVec.toInt_lt (x:=x);unfold wd;simp at h1 h2
 omega
theorem arh {a b:Int} (ha:wd a) (hb:wd b):wd (Go.bits .or .i64 a b):=by
 show wd (IntKind.i64.wrap ((BitVec.ofInt 64 a ||| BitVec.ofInt 64 b).toNat:Int))
 rw [aeM,agI ha,agI hb,<- BitVec.signExtend_or];exact aiL _
theorem apI {a b:Int} (ha:wd a) (hb:wd b):wd (Go.bits .xor .i64 a b):=by
 show wd (IntKind.i64.wrap ((BitVec.ofInt 64 a ^^^ BitVec.ofInt 64 b).toNat:Int))
 rw [aeM,agI ha,agI hb,<- BitVec.signExtend_xor];exact aiL _
theorem apL {a b:Int} (ha:wd a) (hb:wd b):wd (Go.bits .and .i64 a b):=by
 show wd (IntKind.i64.wrap ((BitVec.ofInt 64 a &&& BitVec.ofInt 64 b).toNat:Int))
 rw [aeM,agI ha,agI hb,<- BitVec.signExtend_and];exact aiL _
theorem arD (b:Int):0<=Go.bits .and .i64 b 31:=by
 show 0<=IntKind.i64.wrap ((BitVec.ofInt 64 b &&& BitVec.ofInt 64 31).toNat:Int)
 have h:(BitVec.ofInt 64 b &&& BitVec.ofInt 64 31).toNat<=31:=by
  rw [BitVec.toNat_and,show (BitVec.ofInt 64 31).toNat=31 from by decide];exact Nat.and_le_right
 rw [IntKind.wrap_i64];omega
theorem afI (n:Int):wd (wrap32 n):=by unfold wd wrap32;omega
theorem Saz.e (n:Int):af0 n=some (wrap32 n):=by
 have k:(2147483647 < n.tmod 4294967296->wrap32 n=n.tmod 4294967296 - 4294967296)/\(n.tmod 4294967296 < -2147483648->wrap32 n=n.tmod 4294967296+4294967296)/\(n.tmod 4294967296<=2147483647->-2147483648<=n.tmod 4294967296->wrap32 n=n.tmod 4294967296)/\-4294967296 < n.tmod 4294967296/\n.tmod 4294967296 < 4294967296:=by
  unfold wrap32;rcases (by omega:n < 0\/0<=n) with h|h
  ·have e:n.tmod 4294967296 = -((-n) % 4294967296):=by
    have:=Int.neg_tmod (-n) 4294967296
    rw [Int.neg_neg] at this;rw [this,Int.tmod_eq_emod_of_nonneg (by omega)]
   rw [e];omega
  rw [Int.tmod_eq_emod_of_nonneg h];omega
 obtain⟨h1,h2,h3,h4,h5⟩:=k;unfold af0;split
 ·rename_i g
  rw [h1 g,aaJ (by omega) (by omega)]
 split
 ·rename_i g
  rw [h2 g,aaJ (by omega) (by omega)]
 rw [h3 (by omega) (by omega)]
/-- What an operator makes of two words. -/
def ap (o a b:Int):Int :=
 if o=1 then Go.bits .or .i64 a b else if o=2 then Go.bits .xor .i64 a b else if o=3 then Go.bits .and .i64 a b else if o=4 then (if a=b then 1 else 0) else if o=5 then (if a < b then 1 else 0)
 else if o=6 then wrap32 (shl .i64 a (Go.bits .and .i64 b 31)) else if o=7 then shr .i64 a (Go.bits .and .i64 b 31) else if o=8 then wrap32 (wrap64 (a+b)) else if o=9 then wrap32 (wrap64 (a - b)) else if o=10 then wrap32 (wrap64 (a*b))
 else if o=11 then (if b=0 then -1 else wrap32 (wrap64 (Int.tdiv a b))) else (if b=0 then a else Int.tmod a b)
theorem apJ {a:Int} (ha:wd a) (b:Int):wd (shr .i64 a b):=by
 unfold shr;obtain⟨h1,h2⟩:=ha;generalize min b.toNat (IntKind.bits .i64)=s;have hp:(0:Int) < 2 ^ s:=Int.pow_pos (by decide);have h3:(1:Int)<=2 ^ s:=hp;have h4:=Int.mul_le_mul_of_nonneg_left h3 (show (0:Int)<=2147483648 by decide);constructor
 ·rw [Int.le_ediv_iff_mul_le hp];omega
 apply Int.le_of_lt_add_one
 rw [Int.ediv_lt_iff_lt_mul hp];omega
theorem aoQ {a:Int} (ha:wd a) (b:Int):wd (Int.tmod a b):=by
 obtain⟨h1,h2⟩:=ha;have h3:=Int.natAbs_tmod a b;have h4:=Nat.mod_le a.natAbs b.natAbs;unfold wd;rcases (by omega:a < 0\/0<=a) with h|h
 ·have h5:=Int.tmod_nonneg b (show 0<=-a by omega);rw [Int.neg_tmod] at h5;omega
 omega
theorem akC (p:Prop) [Decidable p]:wd (if p then 1 else 0):=by
 by_cases h:p
 ·rw [if_pos h];decide
 rw [if_neg h];decide
theorem acO {p:Prop} [Decidable p] {x y:Int} (hx:wd x) (hy:wd y):wd (if p then x else y):=by
 by_cases h:p
 ·rw [if_pos h];exact hx
 rw [if_neg h];exact hy
theorem apK {o a b:Int} (ha:wd a) (hb:wd b):wd (ap o a b) :=
 acO (arh ha hb) (acO (apI ha hb) (acO (apL ha hb) (acO (akC _) (acO (akC _) (acO (afI _) (acO (apJ ha _) (acO (afI _) (acO (afI _) (acO (afI _) (acO (acO (by decide) (afI _)) (acO ha (aoQ ha _))))))))))))
theorem Sae.e {o a b:Int} (ho:1<=o/\o<=12) (ha:wd a) (hb:wd b):Ev (fun k=>amD k o a b) (ap o a b,true):=by
 simp only [amD,ajm,ajj,aio,Option.bind_some];refine aa2 (aa2 ?_ (decide_eq_true ha)) (decide_eq_true ho);refine Ev.succ ?_;rw [decide_eq_true (show -2147483648<=b/\b<=2147483647 from hb)];simp only [agi,amR,anY,apy,anX,Saz.e,Option.bind_some,if_pos (arD b),Bool.not_true,Bool.false_eq_true,if_false];refine abk ?_;unfold ap;by_cases c1:o=1
 ·rw [if_pos c1,if_pos c1]
 rw [if_neg c1,if_neg c1];by_cases c2:o=2
 ·rw [if_pos c2,if_pos c2]
 rw [if_neg c2,if_neg c2];by_cases c3:o=3
 ·rw [if_pos c3,if_pos c3]
 rw [if_neg c3,if_neg c3];by_cases c4:o=4
 ·rw [if_pos c4,if_pos c4];by_cases e:a=b <;> simp [e]
 rw [if_neg c4,if_neg c4];by_cases c5:o=5
 ·rw [if_pos c5,if_pos c5];by_cases e:a < b <;> simp [e]
 rw [if_neg c5,if_neg c5];by_cases c6:o=6
 ·rw [if_pos c6,if_pos c6]
 rw [if_neg c6,if_neg c6];by_cases c7:o=7
 ·rw [if_pos c7,if_pos c7]
  simp
 rw [if_neg c7,if_neg c7];by_cases c8:o=8
 ·rw [if_pos c8,if_pos c8]
 rw [if_neg c8,if_neg c8];by_cases c9:o=9
 ·rw [if_pos c9,if_pos c9]
 rw [if_neg c9,if_neg c9];by_cases c10:o=10
 ·rw [if_pos c10,if_pos c10]
 rw [if_neg c10,if_neg c10];by_cases c11:o=11
 ·rw [if_pos c11,if_pos c11];by_cases e:b=0 <;> simp [e]
 rw [if_neg c11,if_neg c11];by_cases e:b=0 <;> simp [e]
end Go.Proofs.YtdkkdiiceaomaaaGreat.M
namespace Go.Proofs.YtdkkdiiceaomaaaGreat.M
open Go.Proofs.Tryz Go.RowKit Go.Proofs.YtdkkdiiceaomaaaGreatW.PrintWords Go.Proofs.YtdkkdiiceaomaaaGreatW.PrintLast Go.Proofs.YtdkkdiiceaomaaaGreatW.PrintMore
attribute [local go_sem] aas aaq aaH aaG aaj aai aar aap
def aiF:Nat->List Int->Int->List Int->Int->Int->Option (Int)
 | 0,_,_,_,_,_=>none
 | k+1,x1,x7,aD,aS,aC=>if aC < aS then (if 0<=aC then (if aC < (aD.length:Int) then (if 0<=(rd aD aC) then (if (rd aD aC) < (x1.length:Int) then (aiF k x1 (Go.bits .or .u16 x7 (rd x1 (rd aD aC))) aD aS (wrap64 (aC+1))) else (none)) else (none)) else (none)) else (none)) else (some x7)
def Sa7.f (k:Nat) (l0:List S31) (l1:List Int) (a2:Int):Option (Int):=if 0<=a2 then (if a2 < (l0.length:Int) then ((amZ k ((aa0 l0 a2).f0) ((aa0 l0 a2).f1) ((aa0 l0 a2).f2) ((aa0 l0 a2).f3) ((aa0 l0 a2).f4) a2).bind fun aa=>(aiF k l1 0 aa (aa.length:Int) 0)) else (none)) else (none)
end Go.Proofs.YtdkkdiiceaomaaaGreat.M
namespace Go.Proofs.YtdkkdiiceaomaaaGreat.M
open Go.Proofs.Tryz Go.RowKit Go.Proofs.YtdkkdiiceaomaaaGreatW.PrintWords Go.Proofs.YtdkkdiiceaomaaaGreatW.PrintLast Go.Proofs.YtdkkdiiceaomaaaGreatW.PrintMore Kd
attribute [local go_sem] aas aaq aaH aaG aaj aai aar aap
mutual
def afm:Nat->List S31->List Int->Bool->Option (List Int)
 | 0,_,_,_=>none
 | k+1,x0,x3,x4=>if x4=true then (adF k x0 x3 false (wrap64 ((x0.length:Int) - 1))) else (some x3)
def adF:Nat->List S31->List Int->Bool->Int->Option (List Int)
 | 0,_,_,_,_=>none
 | k+1,x0,x3,x4,x5=>if x5>=0 then ((Sa7.f k x0 x3 x5).bind fun ak=>(if 0<=x5 then (if x5 < (x0.length:Int) then ((akr ((aa0 x0 x5).f0) ((aa0 x0 x5).f1) ((aa0 x0 x5).f2) ((aa0 x0 x5).f3) ((aa0 x0 x5).f4)).bind fun ay=>(if ay>=0 then (if 0<=ay then ((ajp k ((aa0 x0 x5).f0) ((aa0 x0 x5).f1) ((aa0 x0 x5).f2) ((aa0 x0 x5).f3) ((aa0 x0 x5).f4)).bind fun aL=>(if x5 < (x3.length:Int) then (if (Go.bits .or .u16 (Go.bits .andNot .u16 ak (shl .u16 1 ay)) aL)=(rd x3 x5) then (adF k x0 x3 x4 (wrap64 (x5 - 1))) else (adF k x0 (x3.set (x5:Int).toNat (Go.bits .or .u16 (Go.bits .andNot .u16 ak (shl .u16 1 ay)) aL)) true (wrap64 (x5 - 1)))) else (none))) else (none)) else ((ajp k ((aa0 x0 x5).f0) ((aa0 x0 x5).f1) ((aa0 x0 x5).f2) ((aa0 x0 x5).f3) ((aa0 x0 x5).f4)).bind fun bg=>(if x5 < (x3.length:Int) then (if (Go.bits .or .u16 ak bg)=(rd x3 x5) then (adF k x0 x3 x4 (wrap64 (x5 - 1))) else (adF k x0 (x3.set (x5:Int).toNat (Go.bits .or .u16 ak bg)) true (wrap64 (x5 - 1)))) else (none))))) else (none)) else (none))) else (afm k x0 x3 x4)
end
def Sa6.f (k:Nat) (l0:List S31):Option (List Int):=if 0<=(l0.length:Int) then (if ((l0.length:Int):Int).toNat<=140737488355328 then (afm k l0 (List.replicate ((l0.length:Int):Int).toNat 0) true) else (none)) else (none)
end Go.Proofs.YtdkkdiiceaomaaaGreat.M
namespace Go.Proofs.YtdkkdiiceaomaaaGreat.M
open Go.Proofs.Tryz Go.RowKit Go.Proofs.YtdkkdiiceaomaaaGreatW.PrintWords Go.Proofs.YtdkkdiiceaomaaaGreatW.PrintLast Go.Proofs.YtdkkdiiceaomaaaGreatW.PrintMore PM
theorem adb {α:Type} (l:List α) (i j:Nat) (x d:α) (h:i < l.length):(l.set i x).getD j d=if j=i then x else l.getD j d:=by
 simp only [List.getD_eq_getElem?_getD,List.getElem?_set];by_cases e:i=j
 ·subst e;simp [h]
 have:¬ j=i:=fun x=>e x.symm
 simp [e,this]
theorem adc {l:List Nat} {i:Nat} (h:i < l.length):l.getD i 0∈l:=by
 rw [List.getD_eq_getElem?_getD,List.getElem?_eq_getElem h];exact List.getElem_mem h
/-- A table of sets. -/
def Tab (n:Nat) (L:List Nat):Prop:=L.length=n/\∀ i,L.getD i 0 < 4096
theorem Tab.set {n:Nat} {L:List Nat} (h:Tab n L) (i x:Nat) (hx:x < 4096):Tab n (L.set i x):=by
 refine⟨by rw [List.length_set];exact h.1,fun j=>?_⟩;by_cases hi:i < L.length
 ·rw [adb L i j x 0 hi];split
  ·exact hx
  exact h.2 j
 rw [List.set_eq_of_length_le (by omega)];exact h.2 j
def rows (L:List Nat):List (List Bool):=L.map row
theorem ahr (L:List Nat):(rows L).length=L.length:=by simp [rows]
theorem akT {L:List Nat} {i:Nat} (h:i < L.length):acQ (rows L) (i:Int)=row (L.getD i 0):=by
 simp [acQ,rows,List.getD_eq_getElem?_getD,List.getElem?_eq_getElem h]
theorem anc (L:List Nat) (i x:Nat):(rows L).set i (row x)=rows (L.set i x):=by simp [rows,List.map_set]
theorem ints_set (L:List Nat) (i x:Nat):(ints L).set i (x:Int)=ints (L.set i x):=by simp [ints,List.map_set]
def joinL (L:List Nat) (s:Nat) (ns:List Nat):Nat:=ns.foldl (fun s j=>s ||| L.getD j 0) s
theorem ajR {n:Nat} {L:List Nat} (h:Tab n L):∀ (ns:List Nat) (s:Nat),s < 4096->joinL L s ns < 4096
 | [],s,hs=>hs
 | j :: ns,s,hs=>ajR h ns (s ||| L.getD j 0) (al1 (n:=12) hs (h.2 j))
theorem ai9 (L:List Nat) (r:Nat):∀ (ns:List Nat) (s:Nat),(joinL L s ns).testBit r=true↔s.testBit r=true\/∃ j∈ns,(L.getD j 0).testBit r=true
 | [],s=>by simp [joinL]
 | j :: ns,s=>by
  have:=ai9 L r ns (s ||| L.getD j 0)
  rw [show joinL L s (j :: ns)=joinL L (s ||| L.getD j 0) ns from rfl,this];simp only [Nat.testBit_or,Bool.or_eq_true,List.mem_cons,exists_eq_or_imp,or_assoc]
/-- What is live behind a quad,and before it. -/
def aft (q:Q) (i:Nat) (L:List Nat):Nat:=joinL L 0 (nx q i)
def bef (q:Q) (s:Nat):Nat:=(if 0<=sets q then agx s (2 ^ (sets q).toNat) else s) ||| acA q
def bf (c:List SQ) (L:List Nat) (i:Nat):Nat:=bef (q_ (qa c i)) (aft (q_ (qa c i)) i L)
theorem ajX {n:Nat} {L:List Nat} (h:Tab n L) (q:Q) (i:Nat):aft q i L < 4096:=ajR h _ _ (by decide)
theorem aq9 {q:Q} {s:Nat} (hs:s < 4096):(if 0<=sets q then agx s (2 ^ (sets q).toNat) else s) < 4096:=by
 split
 ·exact Nat.lt_of_le_of_lt ahq hs
 exact hs
theorem aqd {q:Q} {m:Int} (h:QV q m) {s:Nat} (hs:s < 4096):bef q s < 4096:=al1 (n:=12) (aq9 hs) (aju h)
theorem apr {q:Q} {m:Int} (h:QV q m) {s:Nat} (hs:s < 4096) (r:Nat):(bef q s).testBit r=true↔(s.testBit r=true/\sets q≠r)\/uses q r:=by
 unfold bef;rw [Nat.testBit_or,akH h,Bool.or_eq_true,decide_eq_true_eq];refine or_congr ?_ Iff.rfl;have h12:=aiO h;split
 ·rename_i h0
  have:=aht (r:=(sets q).toNat) (by omega)
  rw [ahY (by omega) (by omega),Nat.testBit_two_pow];simp only [Bool.and_eq_true,Bool.not_eq_true',decide_eq_false_iff_not];refine and_congr Iff.rfl ?_;omega
 rename_i h0
 refine⟨fun x=>⟨x,?_⟩,fun x=>x.1⟩;omega
theorem aoG {L ns:List Nat} {n:Nat} (hL:Tab n L) {x9:Nat} (h9:x9 < ns.length) (hn:ns.getD x9 0 < L.length) {s:Nat} {v:List Bool}
  (g:Ev (fun k=>aeE k (rows L) (row (s ||| L.getD (ns.getD x9 0) 0)) (ints ns) (wrap64 ((x9:Int)+1))) v) :
  ∀ (d p:Nat),p+d=12->∀ l:List Bool,l.length=12->(∀ r,r < 12->l.getD r false=if r < p then (s ||| L.getD (ns.getD x9 0) 0).testBit r else s.testBit r)->Ev (fun k=>ado k (rows L) l (ints ns) (x9:Int) (p:Int)) v
 | 0,p,hp,l,hl,hr=>by
  refine Ev.succ ?_;simp only [ado];refine aa5 ?_;rw [aiP hl (s:=s ||| L.getD (ns.getD x9 0) 0) (fun r h=>by rw [hr r h,if_pos (by omega)])];exact g
 | d+1,p,hp,l,hl,hr=>by
  refine Ev.succ ?_;simp only [ado,abZ,aay (show p < 9223372036854775807 by omega),ad8,akT hn,ae0 _ p (by omega),abK,ahr,ab2,Int.toNat_natCast];refine aa2 (aa2 (aa2 ?_));have hlp:=hr p (by omega);rw [if_neg (by omega)] at hlp
  have key:∀ b:Bool,b=(s ||| L.getD (ns.getD x9 0) 0).testBit p->Ev (fun k=>ado k (rows L) (l.set p b) (ints ns) (x9:Int) ((p+1:Nat):Int)) v:=by
   intro b hb;refine aoG hL h9 hn g d (p+1) (by omega) _ (by rw [List.length_set];exact hl) (fun r h=>?_);rw [adb l p r b false (by omega)];by_cases e:r=p
   ·subst e;rw [if_pos rfl,if_pos (by omega),hb]
   rw [if_neg e,hr r h];by_cases e2:r < p
   ·rw [if_pos e2,if_pos (by omega)]
   rw [if_neg e2,if_neg (by omega)]
  by_cases hb:l.getD p false=true
  ·refine aa2 (key true ?_);rw [Nat.testBit_or,<- hlp,hb];rfl
  refine aa5 (aa2 (aa2 (aa2 (aa2 (aa2 (key _ ?_))))));rw [Nat.testBit_or,<- hlp,Bool.eq_false_iff.2 hb];rfl
theorem SaV.out {L ns:List Nat} {n:Nat} (hL:Tab n L) (h9:ns.length < 9223372036854775807) (hn:∀ j∈ns,j < n):∀ (d p:Nat),p+d=ns.length->∀ s:Nat,Ev (fun k=>aeE k (rows L) (row s) (ints ns) (p:Int)) (row (joinL L s (ns.drop p)))
 | 0,p,hp,s=>by
  refine Ev.succ ?_;simp only [aeE,ab2];refine aa5 ?_;rw [List.drop_eq_nil_of_le (by omega)];exact Ev.pure
 | d+1,p,hp,s=>by
  refine Ev.succ ?_;simp only [aeE,ab2];refine aa2 ?_;have hm:ns.getD p 0 < n:=hn _ (adc (by omega));refine aoG hL (by omega) (by rw [hL.1];exact hm) ?_ 12 0 rfl (row s) (abK s) (fun r h=>by rw [ae0 s r h,if_neg (by omega)]);rw [aay (by omega),List.drop_eq_getElem_cons (show p < ns.length by omega)]
  have:=SaV.out hL h9 hn d (p+1) (by omega) (s ||| L.getD (ns.getD p 0) 0)
  rw [show ns.getD p 0=ns[p]'(by omega) from by rw [List.getD_eq_getElem?_getD,List.getElem?_eq_getElem (by omega)];rfl] at this ⊢;exact this
theorem ai4 (q:Q) (i:Nat):(nx q i).length<=2:=by
 unfold nx;(repeat' split) <;> simp
theorem al4 {c:List SQ} (h:CV (qs c)) {i:Nat} (hi:i < c.length):∀ j∈nx (q_ (qa c i)) i,j < c.length:=by
 intro j hj
 have:=nx_lt h (i:=i) (j:=j) (by rw [ab5];exact hi) (by rw [acC];exact hj)
 rwa [ab5] at this
theorem aoH {c:List SQ} (h:CV (qs c)) {L:List Nat} (hL:Tab c.length L) {i:Nat} (hi:i < c.length):Ev (fun k=>SaV.f k c (rows L) (i:Int)) (row (aft (q_ (qa c i)) i L)):=by
 simp only [SaV.f];refine aa2 (Ev.bind (ak3 h hi) ?_);rw [<- row_zero];have hl:=ai4 (q_ (qa c i)) i;exact SaV.out hL (by omega) (al4 h hi) (nx (q_ (qa c i)) i).length 0 (by omega) 0
theorem Sa7.out {L ns:List Nat} {n:Nat} (hL:Tab n L) (h9:ns.length < 9223372036854775807) (hn:∀ j∈ns,j < n):∀ (d p:Nat),p+d=ns.length->∀ s:Nat,s < 4096->Ev (fun k=>aiF k (ints L) (s:Int) (ints ns) (ns.length:Int) (p:Int)) ((joinL L s (ns.drop p):Nat):Int)
 | 0,p,hp,s,hs=>by
  refine Ev.succ ?_;simp only [aiF,ab2];refine aa5 ?_;rw [List.drop_eq_nil_of_le (by omega)];exact Ev.pure
 | d+1,p,hp,s,hs=>by
  refine Ev.succ ?_;have hm:ns.getD p 0 < n:=hn _ (adc (by omega));have hL1:=hL.1;have hL2:=hL.2 (ns.getD p 0);simp only [aiF,ab2,ad8,aay (show p < 9223372036854775807 by omega),ahK (show s < 65536 by omega) (show L.getD (ns.getD p 0) 0 < 65536 by omega)];refine aa2 (aa2 (aa2 (aa2 (aa2 ?_))))
  have:=Sa7.out hL h9 hn d (p+1) (by omega) (s ||| L.getD (ns.getD p 0) 0) (al1 (n:=12) hs hL2)
  rw [List.drop_eq_getElem_cons (show p < ns.length by omega)];rw [show ns.getD p 0=ns[p]'(by omega) from by rw [List.getD_eq_getElem?_getD,List.getElem?_eq_getElem (by omega)];rfl] at this ⊢;exact this
theorem ar5 {c:List SQ} (h:CV (qs c)) {L:List Nat} (hL:Tab c.length L) {i:Nat} (hi:i < c.length):Ev (fun k=>Sa7.f k c (ints L) (i:Int)) ((aft (q_ (qa c i)) i L:Nat):Int):=by
 simp only [Sa7.f,ac5];refine aa2 (aa2 (Ev.bind (aoL h hi) ?_));have hl:=ai4 (q_ (qa c i)) i;rw [ab2];exact Sa7.out hL (by omega) (al4 h hi) (nx (q_ (qa c i)) i).length 0 (by omega) 0 (by decide)
theorem apR {s u:Nat} (h:u < 12):(row s).set u true=row (s ||| 2 ^ u):=by
 refine aiP (by rw [List.length_set,abK]) fun r hr=>?_
 rw [adb _ _ _ _ _ (by rw [abK];exact h),ae0 s r hr,Nat.testBit_or,Nat.testBit_two_pow];by_cases e:r=u
 ·subst e
  simp
 have:¬ u=r:=fun x=>e x.symm
 simp [e,this]
theorem ap0 {s u:Nat} (hs:s < 4096) (h:u < 12):(row s).set u false=row (agx s (2 ^ u)):=by
 have:=aht h
 refine aiP (by rw [List.length_set,abK]) fun r hr=>?_
 rw [adb _ _ _ _ _ (by rw [abK];exact h),ae0 s r hr,ahY (by omega) (by omega),Nat.testBit_two_pow];by_cases e:r=u
 ·subst e
  simp
 have:¬ u=r:=fun x=>e x.symm
 simp [e,this]
def onL (s:Nat) (us:List Nat):Nat:=us.foldl (fun s u=>s ||| 2 ^ u) s
theorem SaW.out {us:List Nat} (h9:us.length < 9223372036854775807) (hu:∀ u∈us,u < 12):∀ (d p:Nat),p+d=us.length->∀ s:Nat,Ev (fun k=>afk k (row s) (ints us) (p:Int)) (row (onL s (us.drop p)))
 | 0,p,hp,s=>by
  refine Ev.succ ?_;simp only [afk,ab2];refine aa5 ?_;rw [List.drop_eq_nil_of_le (by omega)];exact Ev.pure
 | d+1,p,hp,s=>by
  refine Ev.succ ?_;have hm:us.getD p 0 < 12:=hu _ (adc (by omega));simp only [afk,ab2,ad8,aay (show p < 9223372036854775807 by omega),abK,Int.toNat_natCast,apR hm];refine aa2 (aa2 (aa2 (aa2 ?_)))
  have:=SaW.out h9 hu d (p+1) (by omega) (s ||| 2 ^ us.getD p 0)
  rw [List.drop_eq_getElem_cons (show p < us.length by omega)];rw [show us.getD p 0=us[p]'(by omega) from by rw [List.getD_eq_getElem?_getD,List.getElem?_eq_getElem (by omega)];rfl] at this ⊢;exact this
theorem ana {q:Q} {m:Int} (h:QV q m):∀ u∈aeN q,u < 12:=by
 obtain⟨_,⟨h1,h2⟩,h3,h4⟩:=abL h;unfold aeN;intro u hu;have e1:mn q.a q.b=q.a\/mn q.a q.b=q.b:=by unfold mn;split <;> simp
 have e2:mx q.a q.b=q.a\/mx q.a q.b=q.b:=by unfold mx;split <;> simp
 (repeat' split at hu) <;> simp at hu <;> omega
theorem akI (q:Q):(aeN q).length<=2:=by
 unfold aeN;(repeat' split) <;> simp
theorem ank {q:Q} {m:Int} (h:QV q m) (s:Nat):onL s (aeN q)=s ||| acA q:=by
 obtain⟨_,⟨h1,h2⟩,h3,h4⟩:=abL h;unfold aeN acA;split
 ·rfl
 split
 ·split
  ·rename_i e
   rw [show q.b=q.a from e.symm,Nat.or_self];rfl
  show (s ||| _) ||| _=_
  rw [Nat.or_assoc]
  congr 1
  unfold mn mx;split
  ·rename_i hlt
   rw [if_neg (by omega),Nat.or_comm]
  rename_i hlt
  rw [if_pos (by omega)]
 simp [onL]
theorem aqZ {q:Q} (h:QV q 600) {s:Nat} (hs:s < 4096):Ev (fun k=>amP k q.op q.dst q.a q.b q.n (row s)) (row (bef q s)):=by
 have h12:=aiO h;have hl:=akI q;simp only [amP,aqK h,List.nil_append];refine aaP (aa2 (aaP (aaP ?_)) (by rw [abK];simp));simp only [List.nil_append]
 have j:∀ t:Nat,Ev (fun k=>agk k (row t) q.op q.dst q.a q.b q.n) (row (t ||| acA q)):=by
  intro t;refine Ev.succ ?_;simp only [agk];refine Ev.bind (aqJ h) ?_;rw [<- ank h];exact SaW.out (by omega) (ana h) (aeN q).length 0 (by omega) t
 unfold bef;by_cases h0:sets q>=0
 ·refine aa2 (aaP (aa2 (aa2 ?_ (by rw [abK];omega))));rw [if_pos h0,ap0 hs (by omega)];exact j _
 refine aa5 ?_;rw [if_neg (by omega)];exact j s
theorem SaY.out {a b:List Bool} (h9:a.length < 9223372036854775807) (hl:a.length=b.length):∀ (d p:Nat),p+d=a.length->(∀ r,r < p->a.getD r false=b.getD r false)->Ev (fun k=>aeC k a b (p:Int)) (decide (a=b))
 | 0,p,hp,he=>by
  refine Ev.succ ?_;simp only [aeC];refine aa5 (abk (abg ?_))
  have:a=b:=by
   apply List.ext_getElem hl
   intro i h1 h2
   have:=he i (by omega)
   rwa [List.getD_eq_getElem?_getD,List.getD_eq_getElem?_getD,List.getElem?_eq_getElem h1,List.getElem?_eq_getElem h2] at this
  simp [this]
 | d+1,p,hp,he=>by
  refine Ev.succ ?_;simp only [aeC,abZ,aay (show p < 9223372036854775807 by omega)];refine aa2 (aa2 (aa2 ?_));by_cases e:a.getD p false=b.getD p false
  ·refine aa5 (SaY.out h9 hl d (p+1) (by omega) fun r hr=>?_) (by simpa using e);by_cases h:r=p
   ·rw [h];exact e
   exact he r (by omega)
  refine aa2 (abk (abg ?_)) (by simpa using e);simp only [Bool.false_eq_true,decide_eq_true_eq,false_iff];intro x;exact e (by rw [x])
theorem aqX {s t:Nat} (hs:s < 4096) (ht:t < 4096):Ev (fun k=>SaY.f k (row s) (row t)) (decide (s=t)):=by
 simp only [SaY.f];refine Ev.eq (SaY.out (by rw [abK];omega) (by rw [abK,abK]) 12 0 (by rw [abK]) (by omega)) ?_;exact decide_eq_decide.2 ⟨ap1 hs ht,fun h=>by rw [h]⟩
/-- One round,from the quad i - 1 down. -/
def rnd (c:List SQ):Nat->List Nat->Bool->List Nat × Bool
 | 0,L,b=>(L,b)
 | i+1,L,b=>rnd c i (L.set i (bf c L i)) (b || !decide (bf c L i=L.getD i 0))
theorem afy {L:List Nat} {i:Nat} (h:i < L.length):L.set i (L.getD i 0)=L:=by
 apply List.ext_getElem (by simp)
 intro j h1 h2;rw [List.getElem_set];split
 ·rename_i e
  subst e;rw [List.getD_eq_getElem?_getD,List.getElem?_eq_getElem h];rfl
 rfl
theorem anE {c:List SQ} (h:CV (qs c)) {L:List Nat} (hL:Tab c.length L) {i:Nat} (hi:i < c.length):bf c L i < 4096:=aqd (abT h hi) (ajX hL _ _)
theorem abf {c:List SQ} (h:CV (qs c)):1<=c.length/\c.length<=600:=by
 have h1:=h.1;have h2:=h.2.1;rw [ab5] at h1 h2;exact⟨h1,h2⟩
theorem apW {c:List SQ} (h:CV (qs c)) {i:Nat} (hi:i < c.length):QV (q_ (qa c i)) 600:=arn (abT h hi) (abf h).2
theorem SaX.out {c:List SQ} (h:CV (qs c)):∀ (i:Nat),i<=c.length->∀ (L:List Nat) (b:Bool),Tab c.length L->Ev (fun k=>aeD k c (rows L) b ((i:Int) - 1)) ((rnd c i L b).2,rows (rnd c i L b).1)
 | 0,hi,L,b,hL=>by
  refine Ev.succ ?_;simp only [aeD];exact aa5 Ev.pure
 | i+1,hi,L,b,hL=>by
  refine Ev.succ ?_;have h6:=abf h;have hL1:=hL.1;simp only [aeD,show ((i+1:Nat):Int) - 1=(i:Int) from by omega,ac5,ahr,aaJ (show -9223372036854775808<=(i:Int) - 1 by omega) (show (i:Int) - 1 < 9223372036854775808 by omega),akT (show i < L.length by omega),Int.toNat_natCast];refine aa2 (aa2 (aa2 (Ev.bind (aoH h hL (by omega)) (Ev.bind (aqZ (q:=q_ (qa c i)) (apW h (by omega)) (ajX hL _ _)) (aa2 (Ev.bind (aqX (anE h hL (by omega)) (hL.2 i)) ?_))))));have hT:=hL.set i (bf c L i) (anE h hL (by omega));by_cases e:bf c L i=L.getD i 0
  ·refine aa2 ?_ (decide_eq_true e)
   have:=SaX.out h i (by omega) L b hL
   simp only [rnd];rw [e,afy (by omega)];simpa using this
  refine aa5 ?_ (fun x=>e (of_decide_eq_true x))
  have:=SaX.out h i (by omega) _ true hT
  simp only [rnd];rw [show (b || !decide (bf c L i=L.getD i 0))=true from by rw [decide_eq_false e];simp];rw [show (rows L).set i (row (bef (q_ (qa c i)) (aft (q_ (qa c i)) i L)))=rows (L.set i (bf c L i)) from anc _ _ _];exact this
theorem Sa6.out {c:List SQ} (h:CV (qs c)) {v:List Int}:∀ (i:Nat),i<=c.length->∀ (L:List Nat) (b:Bool),Tab c.length L->Ev (fun k=>afm k c (ints (rnd c i L b).1) (rnd c i L b).2) v->Ev (fun k=>adF k c (ints L) b ((i:Int) - 1)) v
 | 0,hi,L,b,hL,g=>by
  refine Ev.succ ?_;simp only [adF];exact aa5 g
 | i+1,hi,L,b,hL,g=>by
  refine Ev.succ ?_;have h6:=abf h;have hL1:=hL.1;have hq:=abT h (show i < c.length by omega);have hu:=aju hq;have h12:=aiO hq;have hb:=anE h hL (show i < c.length by omega);have ha:=ajX hL (q_ (qa c i)) i;have hT:=hL.set i (bf c L i) hb;have ih:=fun b'=>Sa6.out (v:=v) h i (by omega) (L.set i (bf c L i)) b' hT
  have fin:Ev (fun k=>if ((bf c L i:Nat):Int)=rd (ints L) (i:Int) then adF k c (ints L) b (wrap64 ((i:Int) - 1)) else adF k c ((ints L).set ((i:Int)).toNat ((bf c L i:Nat):Int)) true (wrap64 ((i:Int) - 1))) v:=by
   rw [ad8,Int.toNat_natCast,ints_set,aaJ (by omega) (by omega)];simp only [rnd] at g;by_cases e:bf c L i=L.getD i 0
   ·refine aa2 ?_ (by omega)
    have:=ih b
    rw [e,afy (by omega)] at this;refine this ?_;rw [e,afy (by omega)] at g;simpa using g
   refine aa5 ?_ (by omega);refine ih true ?_;rw [show (b || !decide (bf c L i=L.getD i 0))=true from by rw [decide_eq_false e];simp] at g;exact g
  simp only [adF,show ((i+1:Nat):Int) - 1=(i:Int) from by omega,ac5];refine aa2 (Ev.bind (ar5 h hL (by omega)) (aa2 (aa2 (Ev.bind (abk (aqT (q_ (qa c i)))) ?_))));by_cases h0:sets (q_ (qa c i))>=0
  ·refine aa2 (aa2 (Ev.bind (amE (q:=q_ (qa c i)) hq) (aa2 ?_ (by rw [ab2];omega))));have hp:=aht (r:=(sets (q_ (qa c i))).toNat) (by omega);have es:=aiN (r:=(sets (q_ (qa c i))).toNat) (by omega);rw [Int.toNat_of_nonneg (by omega)] at es;have hd:=Nat.lt_of_le_of_lt (ahq (b:=2 ^ (sets (q_ (qa c i))).toNat)) ha;rw [es,ajg (by omega) (by omega),ahK (by omega) (by omega)]
   have eb:agx (aft (q_ (qa c i)) i L) (2 ^ (sets (q_ (qa c i))).toNat) ||| acA (q_ (qa c i))=bf c L i:=by
    unfold bf bef;rw [if_pos (by omega)]
   rw [eb];exact fin
  refine aa5 (Ev.bind (amE (q:=q_ (qa c i)) hq) (aa2 ?_ (by rw [ab2];omega)));rw [ahK (by omega) (by omega)]
  have eb:aft (q_ (qa c i)) i L ||| acA (q_ (qa c i))=bf c L i:=by
   unfold bf bef;rw [if_neg (by omega)]
  rw [eb];exact fin
abbrev SF:=S54
theorem af1 {a b:SF} (h:a.f0=b.f0) (g:a.f1=b.f1):a=b:=by cases a;cases b;simp only [S54.mk.injEq];exact⟨h,g⟩
instance:DecidableEq SF:=fun a b=>if h:a.f0=b.f0/\a.f1=b.f1 then .isTrue (af1 h.1 h.2) else .isFalse (fun e=>h (by rw [e];exact⟨rfl,rfl⟩))
def zF:SF:=⟨0,0⟩
def fa (l:List SF) (r:Nat):SF:=l.getD r zF
def okF (f:SF):Prop:=(f.f0=0/\f.f1=0)\/(f.f0=1/\wd f.f1)\/(f.f0=2/\f.f1=0)
def jF (a b:SF):SF:=if a.f0=0 then b else if b.f0=0 then a else if a=b then a else ⟨2,0⟩
def leF (a b:SF):Prop:=a.f0=0\/a=b\/b.f0=2
theorem ajW {f:SF} (h:okF f) (e:f.f0=2):f=⟨2,0⟩:=af1 e (by unfold okF at h;simp only;omega)
theorem ahx {f:SF} (h:okF f) (e:f.f0=0):f=⟨0,0⟩:=af1 e (by unfold okF at h;simp only;omega)
theorem acE (a:SF):leF a a:=.inr (.inl rfl)
theorem alb {a b c:SF} (h:leF a b) (g:leF b c):leF a c:=by
 rcases h with h|h|h
 ·exact .inl h
 ·rw [h];exact g
 rcases g with g|g|g
 ·omega
 ·rw [<- g];exact .inr (.inr h)
 exact .inr (.inr g)
theorem anm {a b:SF} (ha:okF a) (hb:okF b) (h:leF a b) (g:leF b a):a=b:=by
 rcases h with h|h|h
 ·rcases g with g|g|g
  ·rw [ahx ha h,ahx hb g]
  ·exact g.symm
  omega
 ·exact h
 rcases g with g|g|g
 ·omega
 ·exact g.symm
 rw [ajW ha g,ajW hb h]
theorem aq3 (a b:SF):leF a (jF a b):=by
 unfold jF;split
 ·rename_i h
  exact .inl h
 split
 ·exact acE _
 split
 ·exact acE _
 exact .inr (.inr rfl)
theorem aq2 (a b:SF):leF b (jF a b):=by
 unfold jF;split
 ·exact acE _
 split
 ·rename_i h
  exact .inl h
 split
 ·rename_i h
  rw [h];exact acE _
 exact .inr (.inr rfl)
theorem aq4 {a b c:SF} (h:leF a c) (g:leF b c):leF (jF a b) c:=by
 unfold jF;split
 ·exact g
 split
 ·exact h
 split
 ·exact h
 rcases h with h|h|h
 ·contradiction
 ·rcases g with g|g|g
  ·contradiction
  ·rename_i x
   exact absurd (h.trans g.symm) x
  exact .inr (.inr g)
 exact .inr (.inr h)
theorem art {a b:SF} (ha:okF a) (hb:okF b):okF (jF a b):=by
 unfold jF;split
 ·exact hb
 split
 ·exact ha
 split
 ·exact ha
 exact .inr (.inr ⟨rfl,rfl⟩)
theorem ajM {a b:SF} (ha:okF a) (hb:okF b) (h:leF a b):a.f0.toNat<=b.f0.toNat/\(a≠b->a.f0.toNat < b.f0.toNat):=by
 rcases h with h|h|h
 ·refine⟨by omega,fun e=>?_⟩
  have:b.f0≠0:=fun x=>e (by rw [ahx ha h,ahx hb x])
  unfold okF at hb;omega
 ·rw [h];exact⟨Nat.le_refl _,fun e=>absurd rfl e⟩
 refine⟨by unfold okF at ha;omega,fun e=>?_⟩
 have:a.f0≠2:=fun x=>e (by rw [ajW ha x,ajW hb h])
 unfold okF at ha;omega
def ahU {α:Type} (f:Nat->α):List α:=(List.range 12).map f
theorem aaf {α:Type} (f:Nat->α):(ahU f).length=12:=by simp [ahU]
theorem afA {α:Type} (f:Nat->α) (d:α) {r:Nat} (h:r < 12):(ahU f).getD r d=f r:=by simp [ahU,h]
theorem aid {α:Type} (d:α) {a b:List α} (ha:a.length=12) (hb:b.length=12) (h:∀ r,r < 12->a.getD r d=b.getD r d):a=b:=by
 apply List.ext_getElem (ha.trans hb.symm)
 intro i h1 h2
 have:=h i (by omega)
 rwa [List.getD_eq_getElem?_getD,List.getD_eq_getElem?_getD,List.getElem?_eq_getElem h1,List.getElem?_eq_getElem h2] at this
def sumTo (f:Nat->Nat):Nat->Nat
 | 0=>0
 | n+1=>sumTo f n+f n
theorem sumTo_le {f g:Nat->Nat}:∀ n,(∀ r,r < n->f r<=g r)->sumTo f n<=sumTo g n
 | 0,_=>Nat.le_refl _
 | n+1,h=>Nat.add_le_add (sumTo_le n fun r hr=>h r (by omega)) (h n (by omega))
theorem ahm {f g:Nat->Nat}:∀ n,(∀ r,r < n->f r<=g r)->∀ r,r < n->f r < g r->sumTo f n < sumTo g n
 | 0,_,r,h,_=>by omega
 | n+1,h,r,hr,hl=>by
  unfold sumTo;by_cases e:r=n
  ·have:=sumTo_le n fun r hr=>h r (by omega)
   rw [e] at hl;omega
  have:=ahm n (fun r hr=>h r (by omega)) r (by omega) hl
  have:=h n (by omega)
  omega
theorem adZ (k:Nat):∀ n,sumTo (fun _=>k) n=n*k
 | 0=>by simp [sumTo]
 | n+1=>by rw [sumTo,adZ k n];rw [Nat.succ_mul]
theorem aib {l:List SF} (hl:l.length=12) {s r:Nat} (hs:s < 12) (v:SF):fa (l.set s v) r=if r=s then v else fa l r:=adb l s r v zF (by omega)
def okR (l:List SF):Prop:=l.length=12/\(∀ r,r < 12->okF (fa l r))/\((∀ r,r < 12->(fa l r).f0=0)\/(∀ r,r < 12->(fa l r).f0≠0))
def jR (a b:List SF):List SF:=ahU fun r=>jF (fa a r) (fa b r)
def leR (a b:List SF):Prop:=∀ r,r < 12->leF (fa a r) (fa b r)
theorem aja (a b:List SF) {r:Nat} (h:r < 12):fa (jR a b) r=jF (fa a r) (fa b r):=afA _ _ h
def ade (q:Q) (i:Nat) (x:List SF):List Nat:=if q.op=5/\(fa x q.a.toNat).f0=1 then (if (fa x q.a.toNat).f1=0 then [q.n.toNat] else [i+1]) else nx q i
def akw (q:Q) (x:List SF):SF:=if q.op=1 then ⟨1,q.n⟩ else if q.op=2 then fa x q.a.toNat else if q.op=3 then (if (fa x q.a.toNat).f0=1/\(fa x q.b.toNat).f0=1 then ⟨1,ap q.n (fa x q.a.toNat).f1 (fa x q.b.toNat).f1⟩ else ⟨2,0⟩) else ⟨2,0⟩
def ajY (q:Q) (x:List SF):List SF:=if sets q < 0 then x else x.set (sets q).toNat (akw q x)
def rkF (x:List SF):Nat:=sumTo (fun r=>(fa x r).f0.toNat) 12
def FS (c:List SQ):Sys (List SF) where
 n:=c.length
 ok:=okR
 le:=leR
 jn:=jR
 out:=fun i x=>if (fa x 0).f0=0 then [] else (ade (q_ (qa c i)) i x).map fun e=>(e,ajY (q_ (qa c i)) x)
 rk:=rkF
 top:=24
 d:=List.replicate 12 zF
 ini:=List.replicate 12 ⟨1,0⟩
theorem afZ {q:Q} {i:Nat} {x:List SF} {e:Nat} (h:e∈ade q i x):e∈nx q i:=by
 unfold ade at h;split at h
 ·rename_i g
  have e4:¬ q.op=10:=by omega
  have e5:¬ q.op=4:=by omega
  unfold nx;rw [if_neg e4,if_neg e5,if_pos g.1];(repeat' split at h) <;> (repeat' split) <;> simp at h ⊢ <;> omega
 exact h
theorem aho {l:List SF} (h:okR l) (g:(fa l 0).f0≠0):∀ r,r < 12->(fa l r).f0≠0:=by
 rcases h.2.2 with x|x
 ·exact absurd (x 0 (by omega)) g
 exact x
theorem ao9 {q:Q} {m:Int} (h:QV q m):q.a.toNat < 12/\q.b.toNat < 12:=by unfold QV rg wd at h;omega
theorem anb {q:Q} {m:Int} (h:QV q m):(sets q).toNat < 12:=by unfold QV rg wd at h;unfold sets;split <;> omega
theorem aoS {q:Q} {m:Int} (h:QV q m) {x:List SF} (hx:okR x):okF (akw q x):=by
 have ⟨ra,rb⟩:=ao9 h;unfold akw;split
 ·exact .inr (.inl ⟨rfl,by unfold QV rg at h;simp only;unfold wd at h ⊢;omega⟩)
 split
 ·exact hx.2.1 _ ra
 split
 ·split
  ·rename_i g
   have a1:=hx.2.1 _ ra;have b1:=hx.2.1 _ rb;unfold okF at a1 b1;refine .inr (.inl ⟨rfl,apK ?_ ?_⟩)
   ·rcases a1 with x|x|x
    ·omega
    ·exact x.2
    omega
   rcases b1 with x|x|x
   ·omega
   ·exact x.2
   omega
  exact .inr (.inr ⟨rfl,rfl⟩)
 exact .inr (.inr ⟨rfl,rfl⟩)
theorem akE {q:Q} {m:Int} (h:QV q m) {x:List SF} (hx:∀ r,r < 12->(fa x r).f0≠0):(akw q x).f0≠0:=by
 have ⟨ra,rb⟩:=ao9 h;unfold akw;(repeat' split) <;> first|exact hx _ ra|simp
theorem alJ {q:Q} {m:Int} (h:QV q m) {x:List SF} (hx:okR x) (g:(fa x 0).f0≠0):okR (ajY q x):=by
 unfold ajY;split
 ·exact hx
 have hs:=anb h;have s:=aho hx g;refine⟨by rw [List.length_set];exact hx.1,fun r hr=>?_,.inr fun r hr=>?_⟩
 ·rw [aib hx.1 hs];split
  ·exact aoS h hx
  exact hx.2.1 r hr
 rw [aib hx.1 hs];split
 ·exact akE h s
 exact s r hr
theorem afP {a b:SF} (h:leF a b) (ha:a.f0≠0) (hb:b.f0=1):a=b:=by
 rcases h with h|h|h
 ·exact absurd h ha
 ·exact h
 omega
theorem akF {q:Q} {m:Int} (h:QV q m) {x y:List SF} (hx:∀ r,r < 12->(fa x r).f0≠0) (hl:leR x y):leF (akw q x) (akw q y):=by
 have ⟨ra,rb⟩:=ao9 h;unfold akw;split
 ·exact acE _
 split
 ·exact hl _ ra
 split
 ·by_cases g:(fa y q.a.toNat).f0=1/\(fa y q.b.toNat).f0=1
  ·have e1:=afP (hl _ ra) (hx _ ra) g.1;have e2:=afP (hl _ rb) (hx _ rb) g.2;rw [e1,e2];exact acE _
  rw [if_neg g];exact .inr (.inr rfl)
 exact acE _
theorem alK {q:Q} {m:Int} (h:QV q m) {x y:List SF} (ox:okR x) (oy:okR y) (hx:(fa x 0).f0≠0) (hl:leR x y):leR (ajY q x) (ajY q y):=by
 unfold ajY;split
 ·exact hl
 have hs:=anb h;intro r hr;rw [aib ox.1 hs,aib oy.1 hs];split
 ·exact akF h (aho ox hx) hl
 exact hl r hr
theorem afX (f:SF) {r:Nat} (h:r < 12):fa (List.replicate 12 f) r=f:=by
 unfold fa;rw [List.getD_eq_getElem?_getD,List.getElem?_replicate,if_pos h];rfl
theorem agr {c:List SQ} (h:CV (qs c)):(FS c).Laws where
 refl:=fun a _ r _=>acE _
 trans:=fun a b c _ _ _ h g r hr=>alb (h r hr) (g r hr)
 anti:=fun a b ha hb h g=>aid zF ha.1 hb.1 fun r hr=>anm (ha.2.1 r hr) (hb.2.1 r hr) (h r hr) (g r hr)
 ub1:=fun a b _ _ r hr=>by show leF _ (fa (jR a b) r);rw [aja a b hr];exact aq3 _ _
 ub2:=fun a b _ _ r hr=>by show leF _ (fa (jR a b) r);rw [aja a b hr];exact aq2 _ _
 lub:=fun a b c _ _ _ h g r hr=>by show leF (fa (jR a b) r) _;rw [aja a b hr];exact aq4 (h r hr) (g r hr)
 okj:=fun a b ha hb=>by
  refine⟨aaf _,fun r hr=>?_,?_⟩
  ·show okF (fa (jR a b) r)
   rw [aja a b hr];exact art (ha.2.1 r hr) (hb.2.1 r hr)
  have k:∀ r,r < 12->((fa (jR a b) r).f0=0↔(fa a r).f0=0/\(fa b r).f0=0):=by
   intro r hr;rw [aja a b hr];unfold jF;split
   ·simp_all
   split
   ·simp_all
   split <;> simp_all
  rcases ha.2.2 with x|x
  ·rcases hb.2.2 with y|y
   ·exact .inl fun r hr=>(k r hr).2 ⟨x r hr,y r hr⟩
   exact .inr fun r hr e=>y r hr ((k r hr).1 e).2
  exact .inr fun r hr e=>x r hr ((k r hr).1 e).1
 oko:=fun i x hi hx p hp=>by
  have hp':p∈(if (fa x 0).f0=0 then [] else (ade (q_ (qa c i)) i x).map fun e=>(e,ajY (q_ (qa c i)) x)):=hp;split at hp'
  ·simp at hp'
  rename_i g
  obtain⟨e,he,rfl⟩:=List.mem_map.1 hp';have n:=nx_lt h (i:=i) (j:=e) (by rw [ab5];exact hi) (by rw [acC];exact afZ he);rw [ab5] at n;exact⟨n,alJ (abT h hi) hx g⟩
 mono:=fun i x y hi hx hy hl p hp=>by
  have hp':p∈(if (fa x 0).f0=0 then [] else (ade (q_ (qa c i)) i x).map fun e=>(e,ajY (q_ (qa c i)) x)):=hp;split at hp'
  ·simp at hp'
  rename_i g
  obtain⟨e,he,rfl⟩:=List.mem_map.1 hp';have v:=abT h hi;have sx:=aho hx g
  have gy:(fa y 0).f0≠0:=by
   rcases hl 0 (by omega) with z|z|z
   ·exact absurd z g
   ·rw [<- z];exact g
   omega
  have ⟨ra,rb⟩:=ao9 v;refine⟨ajY (q_ (qa c i)) y,?_,alK v hx hy g hl⟩;show _∈(if (fa y 0).f0=0 then [] else (ade (q_ (qa c i)) i y).map fun e=>(e,ajY (q_ (qa c i)) y))
  rw [if_neg gy];refine List.mem_map.2 ⟨e,?_,rfl⟩;by_cases k:(q_ (qa c i)).op=5/\(fa y (q_ (qa c i)).a.toNat).f0=1
  ·have e1:=afP (hl _ ra) (sx _ ra) k.2;unfold ade at he ⊢
   rwa [e1] at he
  have:=afZ he
  unfold ade
  rwa [if_neg k]
 rank:=fun a b ha hb hl ne=>by
  have k:∃ r,r < 12/\fa a r≠fa b r:=by
   apply Classical.byContradiction
   intro x;exact ne (aid zF ha.1 hb.1 fun r hr=>Classical.byContradiction fun y=>x ⟨r,hr,y⟩)
  obtain⟨r,hr,hne⟩:=k;exact ahm 12 (fun r hr=>(ajM (ha.2.1 r hr) (hb.2.1 r hr) (hl r hr)).1) r hr ((ajM (ha.2.1 r hr) (hb.2.1 r hr) (hl r hr)).2 hne)
 rtop:=fun a ha=>by
  have:=sumTo_le (f:=fun r=>(fa a r).f0.toNat) (g:=fun _=>2) 12 (fun r hr=>by have:=ha.2.1 r hr;unfold okF at this;omega)
  rw [adZ] at this;exact this
 okd:=⟨by simp [FS],fun r hr=>by show okF (fa (List.replicate 12 zF) r);rw [afX _ hr];exact .inl ⟨rfl,rfl⟩,.inl fun r hr=>by show (fa (List.replicate 12 zF) r).f0=0;rw [afX _ hr];rfl⟩
 oki:=⟨by simp [FS],fun r hr=>by show okF (fa (List.replicate 12 ⟨1,0⟩) r);rw [afX _ hr];exact .inr (.inl ⟨rfl,by decide⟩),.inr fun r hr=>by show (fa (List.replicate 12 ⟨1,0⟩) r).f0≠0;rw [afX _ hr];simp⟩
 bot:=fun a _ r hr=>by show leF (fa (List.replicate 12 zF) r) _;rw [afX _ hr];exact .inl rfl
 outd:=fun i=>by
  show (if (fa (List.replicate 12 zF) 0).f0=0 then [] else (ade (q_ (qa c i)) i (List.replicate 12 zF)).map fun e=>(e,ajY (q_ (qa c i)) (List.replicate 12 zF)))=[]
  exact if_pos (by rw [afX _ (by omega)];rfl)
 pos:=(abf h).1
 inid:=fun e=>by
  have:=congrArg (fun l=>(fa l 0).f0) (show List.replicate 12 (⟨1,0⟩:SF)=List.replicate 12 zF from e)
  simp only [afX _ (show 0 < 12 by omega)] at this;cases this
theorem anf (x:List SF) (r:Nat):aaa x (r:Int)=fa x r:=by simp [aaa,fa];rfl
theorem afM (x:List SF) {i:Int} (h:0<=i):aaa x i=fa x i.toNat:=by rw [<- anf,Int.toNat_of_nonneg h]
theorem arF (a b:SF):amd a.f0 a.f1 b.f0 b.f1=some ((jF a b).f0,(jF a b).f1):=by
 unfold amd jF;by_cases c1:a.f0=0
 ·rw [if_pos c1,if_pos c1]
 rw [if_neg c1,if_neg c1];by_cases c2:b.f0=0
 ·rw [if_pos c2,if_pos c2]
 rw [if_neg c2,if_neg c2];by_cases c3:a=b
 ·rw [if_pos c3,c3]
  simp
 rw [if_neg c3,if_neg];intro x;simp only [Bool.and_eq_true,beq_iff_eq] at x;exact c3 (af1 x.1 x.2)
theorem akB {f:SF} (h:okF f) (g:f.f0=1):wd f.f1:=by
 rcases h with x|x|x
 ·omega
 ·exact x.2
 omega
theorem aou {q:Q} (h1:1<=q.n/\q.n<=12) {a b:SF} (ha:okF a) (hb:okF b):Ev (fun k=>akp k q.op q.dst q.a q.b q.n a.f0 a.f1 b.f0 b.f1) (if a.f0=1/\b.f0=1 then (1,ap q.n a.f1 b.f1) else (2,0)):=by
 unfold akp;by_cases c1:a.f0=1
 ·refine aa2 ?_;by_cases c2:b.f0=1
  ·refine aa2 (Ev.bind (Sae.e h1 (akB ha c1) (akB hb c2)) (Ev.eq Ev.pure ?_));rw [if_pos ⟨c1,c2⟩]
  refine aa5 (Ev.eq Ev.pure ?_);rw [if_neg fun x=>c2 x.2]
 refine aa5 (Ev.eq Ev.pure ?_);rw [if_neg fun x=>c1 x.1]
theorem aqV {q:Q} {m:Int} (h:QV q m) {x:List SF} (hx:okR x):Ev (fun k=>amK k q.op q.dst q.a q.b q.n x) (ajY q x):=by
 have hl:=hx.1;obtain⟨⟨d0,d1⟩,⟨a0,a1⟩,b0,b1⟩:=abL h;unfold amK ajY;refine aaP (aa2 (aaP ?_) (by simp [hl]));simp only [List.nil_append,hl];by_cases c1:q.op=1
 ·have s:sets q=q.dst:=by unfold sets;rw [if_pos (.inl c1)]
  refine aa2 (aa2 (aa2 (Ev.eq Ev.pure ?_)));rw [s,if_neg (show ¬ q.dst < 0 by omega),akw,if_pos c1]
 refine aa5 ?_;by_cases c2:q.op=2
 ·have s:sets q=q.dst:=by unfold sets;rw [if_pos (.inr (.inl c2))]
  refine aa2 (aa2 (aa2 (aa2 (aa2 (Ev.eq Ev.pure ?_)))));rw [s,if_neg (show ¬ q.dst < 0 by omega),akw,if_neg c1,if_pos c2,afM _ a0]
 refine aa5 ?_;by_cases c7:q.op=7
 ·have s:sets q=q.dst:=by unfold sets;rw [if_pos (.inr (.inr (.inr c7)))]
  refine aa2 (aa2 (aa2 (Ev.eq Ev.pure ?_)));rw [s,if_neg (show ¬ q.dst < 0 by omega),akw,if_neg c1,if_neg c2,if_neg (by omega)]
 refine aa5 ?_;by_cases c3:q.op=3
 ·have s:sets q=q.dst:=by unfold sets;rw [if_pos (.inr (.inr (.inl c3)))]
  have ⟨ra,rb⟩:=ao9 h;have hn:1<=q.n/\q.n<=12:=by unfold QV at h;omega
  refine aa2 (aa2 (aa2 (aa2 (aa2 ?_))));rw [afM _ a0,afM _ b0];refine Ev.bind (aou hn (hx.2.1 _ ra) (hx.2.1 _ rb)) (aa2 (aa2 (Ev.eq Ev.pure ?_)));rw [s,if_neg (show ¬ q.dst < 0 by omega),akw,if_neg c1,if_neg c2,if_pos c3];split <;> rfl
 refine aa5 (Ev.eq Ev.pure ?_);rw [if_pos (by unfold sets;rw [if_neg (by omega)];decide)]
theorem aqy {c:List SQ} (h:CV (qs c)) {i:Nat} (hi:i < c.length) {x:List SF} (hx:okR x):Ev (fun k=>ami k c x (i:Int)) (ints (ade (q_ (qa c i)) i x)):=by
 have hq:=abT h hi;have h6:=abf h;obtain⟨_,⟨a0,a1⟩,_⟩:=abL hq;have a0':0<=(qa c i).f2:=a0;have a1':(qa c i).f2 < 12:=a1;simp only [ami,ac5,hx.1];refine aa2 (aa2 ?_)
 have n1:∀ b,b=true->ade (q_ (qa c i)) i x=nx (q_ (qa c i)) i->Ev (fun k=>aff k c x (i:Int) b (qa c i).f0 (qa c i).f1 (qa c i).f2 (qa c i).f3 (qa c i).f4) (ints (ade (q_ (qa c i)) i x)):=by
  intro b hb he;refine Ev.succ ?_;simp only [aff];rw [hb,he];exact aa2 (Ev.bind (ak3 h hi) Ev.pure)
 by_cases c5:(qa c i).f0=5
 ·refine aa2 (aa2 (aa2 ?_));rw [afM _ a0'];by_cases c1:(fa x (qa c i).f2.toNat).f0=1
  ·rw [show ((fa x (qa c i).f2.toNat).f0 != 1)=false from by simp [c1]];refine Ev.succ ?_;simp only [aff,hx.1];refine aa5 (aa2 (aa2 ?_));rw [afM _ a0']
   have n0:0<=(qa c i).f4:=by
    have:0<=(q_ (qa c i)).n:=by
     have k5:(q_ (qa c i)).op=5:=c5;unfold QV at hq;omega
    exact this
   have e:ade (q_ (qa c i)) i x=if (fa x (qa c i).f2.toNat).f1=0 then [(qa c i).f4.toNat] else [i+1]:=by
    unfold ade;exact if_pos ⟨c5,c1⟩
   rw [e];by_cases c2:(fa x (qa c i).f2.toNat).f1=0
   ·refine aa2 (Ev.eq Ev.pure ?_);rw [if_pos c2];simp [ints]
    omega
   refine aa5 (Ev.eq Ev.pure ?_);rw [if_neg c2,aay (show i < 9223372036854775807 by omega)];rfl
  exact n1 _ (by simp [c1]) (by unfold ade;exact if_neg fun x=>c1 x.2)
 exact aa5 (n1 _ rfl (by unfold ade;exact if_neg fun x=>c5 x.1))
/-- The first p facts of a row joined. -/
def jP (p:Nat) (a b:List SF):List SF:=ahU fun r=>if r < p then jF (fa a r) (fa b r) else fa a r
theorem aic (p:Nat) (a b:List SF) {r:Nat} (h:r < 12):fa (jP p a b) r=if r < p then jF (fa a r) (fa b r) else fa a r:=afA _ _ h
theorem jP0 {a:List SF} (b:List SF) (h:a.length=12):jP 0 a b=a:=aid zF (aaf _) h fun r hr=>by
 show fa (jP 0 a b) r=_
 rw [aic _ _ _ hr,if_neg (by omega)];rfl
theorem arP (a b:List SF):jP 12 a b=jR a b:=aid zF (aaf _) (aaf _) fun r hr=>by
 show fa (jP 12 a b) r=fa (jR a b) r
 rw [aic _ _ _ hr,if_pos hr,aja _ _ hr]
theorem aq1 (p:Nat) (hp:p < 12) (a b:List SF):(jP p a b).set p (jF (fa a p) (fa b p))=jP (p+1) a b:=by
 refine aid zF (by rw [List.length_set];exact aaf _) (aaf _) fun r hr=>?_
 show fa _ r=fa _ r
 rw [aib (l:=jP p a b) (aaf _) hp,aic _ _ _ hr,aic _ _ _ hr];by_cases e:r=p
 ·rw [if_pos e,if_pos (by omega),e]
 rw [if_neg e];by_cases l:r < p
 ·rw [if_pos l,if_pos (by omega)]
 rw [if_neg l,if_neg (by omega)]
theorem apk (p:Nat) (hp:p < 12) {a b:List SF} (h:jF (fa a p) (fa b p)=fa a p):jP p a b=jP (p+1) a b:=by
 refine aid zF (aaf _) (aaf _) fun r hr=>?_
 show fa _ r=fa _ r
 rw [aic _ _ _ hr,aic _ _ _ hr];by_cases e:r=p
 ·rw [if_neg (by omega),if_pos (by omega),e,h]
 by_cases l:r < p
 ·rw [if_pos l,if_pos (by omega)]
 rw [if_neg l,if_neg (by omega)]
theorem akS {α:Type} {T:List (List α)} {e:Nat} (h:e < T.length) (v:List α):(T.set e v).getD e []=v:=by
 rw [List.getD_eq_getElem?_getD,List.getElem?_set_self h];rfl
theorem Sb2.out {T:List (List SF)} {e:Nat} (he:e < T.length) (h9:T.length < 9223372036854775807) {a v:List SF} (hv:v.length=12):∀ (d p:Nat) (b:Bool),p+d=12->Ev (fun k=>adT k (T.set e (jP p a v)) (e:Int) v b (p:Int)) (b || !decide (jR a v=jP p a v),T.set e (jR a v))
 | 0,p,b,hp=>by
  refine Ev.succ ?_;simp only [adT];refine aa5 (Ev.eq Ev.pure ?_);rw [show p=12 from by omega,arP]
  simp
 | d+1,p,b,hp=>by
  refine Ev.succ ?_
  have hr:aaz (T.set e (jP p a v)) (e:Int)=jP p a v:=by
   unfold aaz;rw [Int.toNat_natCast];exact akS he _
  have hL:(jP p a v).length=12:=aaf _;simp only [adT,hr,anf,List.length_set,hL,hv,aic p a v (show p < 12 by omega),if_neg (Nat.lt_irrefl p),aay (show p < 9223372036854775807 by omega),Int.toNat_natCast,List.set_set];refine aa2 (aa2 (aa2 (aa2 (aa2 (aa2 ?_)))));rw [arF];refine aaP ?_
  have hc:(!((jF (fa a p) (fa v p)).f0 == (fa a p).f0) || !((jF (fa a p) (fa v p)).f1 == (fa a p).f1)) = !decide (jF (fa a p) (fa v p)=fa a p):=by
   rw [Bool.eq_iff_iff];simp only [Bool.or_eq_true,Bool.not_eq_eq_eq_not,Bool.not_true,beq_eq_false_iff_ne,ne_eq,decide_eq_false_iff_not];refine⟨fun x y=>by rw [y] at x;simp at x,fun x=>Classical.byContradiction fun y=>?_⟩;simp only [not_or,Classical.not_not] at y;exact x (af1 y.1 y.2)
  simp only [hc];by_cases g:jF (fa a p) (fa v p)=fa a p
  ·rw [decide_eq_true g];refine aa5 ?_;rw [apk p (by omega) g];exact Sb2.out he h9 hv d (p+1) b (by omega)
  rw [decide_eq_false g];refine aa2 ?_
  have:=Sb2.out he h9 (a:=a) hv d (p+1) true (by omega)
  rw [<- aq1 p (by omega)] at this;refine Ev.eq this ?_
  have ne:¬ jR a v=jP p a v:=by
   intro x;have y:fa (jR a v) p=fa (jP p a v) p:=by rw [x]
   rw [aja _ _ (by omega),aic _ _ _ (by omega),if_neg (Nat.lt_irrefl p)] at y;exact g y
  rw [decide_eq_false ne]
  simp
theorem aqz {T:List (List SF)} {e:Nat} (he:e < T.length) (h9:T.length < 9223372036854775807) {a v:List SF} (ha:a.length=12) (hv:v.length=12) (hT:T.getD e []=a):Ev (fun k=>Sb2.f k T (e:Int) v) (!decide (jR a v=a),T.set e (jR a v)):=by
 have:=Sb2.out he h9 (a:=a) hv 12 0 false (by omega)
 rw [jP0 v ha] at this
 have hs:T.set e a=T:=by
  rw [<- hT];apply List.ext_getElem (by simp)
  intro i h1 h2;rw [List.getElem_set];split
  ·rename_i x
   subst x;rw [List.getD_eq_getElem?_getD,List.getElem?_eq_getElem he];rfl
  rfl
 rw [hs] at this;refine Ev.eq this ?_;rw [Bool.false_or]
theorem apC {c:List SQ} {T:List (List SF)} {e:Nat} (h:e < T.length):(FS c).at' T e=T.getD e []:=by
 show T.getD e (List.replicate 12 zF)=_
 rw [List.getD_eq_getElem?_getD,List.getD_eq_getElem?_getD,List.getElem?_eq_getElem h];rfl
theorem aco {α:Type} (d:α) {l:List α} {p:Nat} (h:p < l.length):l.drop p=l.getD p d :: l.drop (p+1):=by
 rw [List.drop_eq_getElem_cons h,List.getD_eq_getElem?_getD,List.getElem?_eq_getElem h];rfl
theorem aos {c:List SQ} (h:CV (qs c)) {i:Nat} (hi:i < c.length) {v:List SF} (hv:okR v) {es:List Nat} (hl:es.length < 1000) (he:∀ e∈es,e < c.length) {R:Bool × List (List SF)}:∀ (d p:Nat) (T:List (List SF)) (b:Bool),p+d=es.length->(FS c).St T->Ev (fun k=>adD k c (Sys.pass (FS c) ((es.drop p).map fun e=>(e,v)) T b).1 (Sys.pass (FS c) ((es.drop p).map fun e=>(e,v)) T b).2 ((i+1:Nat):Int)) R->Ev (fun k=>aex k c T b (i:Int) (ints es) v (p:Int)) R
 | 0,p,T,b,hp,hT,g=>by
  refine Ev.succ ?_;have h6:=abf h;rw [List.drop_eq_nil_of_le (by omega)] at g;simp only [aex,ab2,aay (show i < 9223372036854775807 by omega)];exact aa5 g
 | d+1,p,T,b,hp,hT,g=>by
  refine Ev.succ ?_;have h6:=abf h;have hm:es.getD p 0 < c.length:=he _ (adc (by omega));have hn:T.length=c.length:=hT.1;have hc:=aqz (T:=T) (e:=es.getD p 0) (by omega) (by omega) (a:=(FS c).at' T (es.getD p 0)) (hT.2 _ hm).1 hv.1 (apC (c:=c) (by omega)).symm;rw [aco 0 (show p < es.length by omega)] at g;have hT':=Sys.put_st (agr h) hT (p:=(es.getD p 0,v)) hm hv;simp only [aex,ab2,ad8,aay (show p < 9223372036854775807 by omega)];refine aa2 (aa2 (Ev.bind hc ?_));have go:=fun b'=>aos h hi hv hl he (R:=R) d (p+1) (Sys.put (FS c) T (es.getD p 0,v)) b' (by omega) hT'
  by_cases e:jR ((FS c).at' T (es.getD p 0)) v=(FS c).at' T (es.getD p 0)
  ·rw [decide_eq_true e];refine aa5 (go b ?_)
   have:=g
   simp only [List.map_cons,Sys.pass] at this
   rwa [show decide ((FS c).jn ((FS c).at' T (es.getD p 0)) v=(FS c).at' T (es.getD p 0))=true from decide_eq_true e,Bool.not_true,Bool.or_false] at this
  rw [decide_eq_false e];refine aa2 (go true ?_)
  have:=g
  simp only [List.map_cons,Sys.pass] at this
  rwa [show decide ((FS c).jn ((FS c).at' T (es.getD p 0)) v=(FS c).at' T (es.getD p 0))=false from decide_eq_false e,Bool.not_false,Bool.or_true] at this
theorem alx (q:Q) (i:Nat) (x:List SF):(ade q i x).length<=2:=by
 unfold ade nx;(repeat' split) <;> simp
theorem Sb8.out {c:List SQ} (h:CV (qs c)):∀ (d:Nat),d<=c.length->∀ (T:List (List SF)) (b:Bool),(FS c).St T->Ev (fun k=>adD k c T b ((c.length - d:Nat):Int)) ((Sys.rnds (FS c) d T b).2,(Sys.rnds (FS c) d T b).1)
 | 0,hd,T,b,hT=>by
  refine Ev.succ ?_;simp only [adD,Nat.sub_zero];exact aa5 Ev.pure
 | d+1,hd,T,b,hT=>by
  refine Ev.succ ?_;have h6:=abf h;have hi:c.length - (d+1) < c.length:=by omega
  have hn:T.length=c.length:=hT.1
  have hr:aaz T ((c.length - (d+1):Nat):Int)=(FS c).at' T (c.length - (d+1)):=by
   rw [apC (by omega)];unfold aaz;rw [Int.toNat_natCast]
  have ok:=hT.2 _ hi;have hL:=ok.1;have h0:aaa ((FS c).at' T (c.length - (d+1))) 0=fa ((FS c).at' T (c.length - (d+1))) 0:=anf _ 0;have hw:=aay (show c.length - (d+1) < 9223372036854775807 by omega);have hs:((c.length - (d+1)+1:Nat):Int)=((c.length - d:Nat):Int):=by congr 1;omega
  obtain⟨b1,_⟩:=Sys.pass_all (agr h) ((FS c).out (c.length - (d+1)) ((FS c).at' T (c.length - (d+1)))) T b hT ((agr h).oko _ _ hi ok);have ih:=Sb8.out h d (by omega) _ (Sys.pass (FS c) ((FS c).out (c.length - (d+1)) ((FS c).at' T (c.length - (d+1)))) T b).2 b1;simp only [adD,hr,hL,h0,hw,ac5];refine aa2 (aa2 (aa2 (aa2 ?_)));show Ev _ ((Sys.rnds (FS c) d (Sys.pass (FS c) ((FS c).out (c.length - (d+1)) ((FS c).at' T (c.length - (d+1)))) T b).1 (Sys.pass (FS c) ((FS c).out (c.length - (d+1)) ((FS c).at' T (c.length - (d+1)))) T b).2).2,(Sys.rnds (FS c) d (Sys.pass (FS c) ((FS c).out (c.length - (d+1)) ((FS c).at' T (c.length - (d+1)))) T b).1 (Sys.pass (FS c) ((FS c).out (c.length - (d+1)) ((FS c).at' T (c.length - (d+1)))) T b).2).1)
  by_cases g:(fa ((FS c).at' T (c.length - (d+1))) 0).f0=0
  ·refine aa2 ?_;rw [hs];have e:(FS c).out (c.length - (d+1)) ((FS c).at' T (c.length - (d+1)))=[]:=if_pos g;rw [e] at ih ⊢;exact ih
  refine aa5 (Ev.bind (aqy h hi ok) (Ev.bind (aqV (abT h hi) ok) ?_));have e:(FS c).out (c.length - (d+1)) ((FS c).at' T (c.length - (d+1)))=(ade (q_ (qa c (c.length - (d+1)))) (c.length - (d+1)) ((FS c).at' T (c.length - (d+1)))).map fun e=>(e,ajY (q_ (qa c (c.length - (d+1)))) ((FS c).at' T (c.length - (d+1)))):=if_neg g
  refine aos h hi (alJ (abT h hi) ok g) (by have:=alx (q_ (qa c (c.length - (d+1)))) (c.length - (d+1)) ((FS c).at' T (c.length - (d+1)));omega) (fun e he=>?_) _ 0 T b (Nat.zero_add _) hT ?_
  ·have n:=nx_lt h (i:=c.length - (d+1)) (j:=e) (by rw [ab5];exact hi) (by rw [acC];exact afZ he)
   rwa [ab5] at n
  rw [List.drop_zero,<- e,hs];exact ih
theorem ah9 {c:List SQ} (h:CV (qs c)):∀ (m:Nat) (T:List (List SF)),(FS c).Rd T->(FS c).cap T<=m->∃ U,(FS c).Lfp U/\Ev (fun k=>adW k c T) U
 | m,T,hT,hm=>by
  obtain⟨a,b,e⟩:=Sys.rd_step (agr h) hT;have o:=Sb8.out h c.length (Nat.le_refl _) T false hT.1;rw [Nat.sub_self] at o;have o':Ev (fun k=>Sb8.f k c T) ((Sys.rnds (FS c) c.length T false).2,(Sys.rnds (FS c) c.length T false).1):=o
  cases g:(Sys.rnds (FS c) c.length T false).2 with
  | false =>
   refine⟨_,e g,Ev.succ ?_⟩;simp only [adW];exact Ev.bind o' (aa5 Ev.pure (by simp [g]))
  | true =>
   have lt:=b g
   match m,hm with
   | 0,hm=>omega
   | m+1,hm =>
    obtain⟨U,hU,hE⟩:=ah9 h m _ a (by have:(FS c).cap (Sys.rnds (FS c) c.length T false).1 < (FS c).cap T:=lt;show (FS c).cap (Sys.rnds (FS c) c.length T false).1<=m;omega);refine⟨U,hU,Ev.succ ?_⟩;simp only [adW];exact Ev.bind o' (aa2 hE (by simp [g]))
theorem ap2 (n p:Nat) (hp:p < 12):((List.replicate p (⟨1,0⟩:SF)) ++ List.replicate (12 - p) zF).set p ⟨1,0⟩=(List.replicate (p+1) (⟨1,0⟩:SF)) ++ List.replicate (12 - (p+1)) zF:=by
 rw [List.set_append_right _ _ (by simp),List.length_replicate,Nat.sub_self,show 12 - p=(12 - (p+1))+1 from by omega,List.replicate_succ,List.set_cons_zero,List.replicate_succ',List.append_assoc];rfl
theorem aiA {c:List SQ} (h:CV (qs c)) {U:List (List SF)} (g:Ev (fun k=>adW k c (Sys.T0 (FS c))) U):∀ (d p:Nat),p+d=12->Ev (fun k=>afi k c ((List.replicate c.length (List.replicate 12 zF)).set 0 (List.replicate p ⟨1,0⟩ ++ List.replicate (12 - p) zF)) (p:Int)) U
 | 0,p,hp=>by
  have:p=12:=by omega
  subst this;refine Ev.succ ?_;simp only [afi];refine aa5 ?_
  have e:((List.replicate c.length (List.replicate 12 zF)).set 0 (List.replicate 12 (⟨1,0⟩:SF) ++ List.replicate (12 - 12) zF))=Sys.T0 (FS c):=by
   rw [Nat.sub_self,List.replicate_zero,List.append_nil];rfl
  rw [e];exact g
 | d+1,p,hp=>by
  have h6:=abf h;refine Ev.succ ?_
  have hr:aaz ((List.replicate c.length (List.replicate 12 zF)).set 0 (List.replicate p (⟨1,0⟩:SF) ++ List.replicate (12 - p) zF)) 0=List.replicate p (⟨1,0⟩:SF) ++ List.replicate (12 - p) zF:=by
   unfold aaz;exact akS (by simp;omega) _
  have hl:(List.replicate p (⟨1,0⟩:SF) ++ List.replicate (12 - p) zF).length=12:=by simp;omega
  simp only [afi,hr,hl,List.length_set,List.length_replicate,aay (show p < 9223372036854775807 by omega),Int.toNat_natCast,Int.toNat_zero,List.set_set,ap2 c.length p (by omega)];exact aa2 (aa2 (aa2 (aa2 (aiA h g d (p+1) (by omega)))))
theorem ak0 {c:List SQ} (h:CV (qs c)) {U:List (List SF)} (g:Ev (fun k=>adW k c (Sys.T0 (FS c))) U):∀ (d p:Nat),p+d=c.length->Ev (fun k=>afj k c (List.replicate p (List.replicate 12 zF)) (p:Int)) U
 | 0,p,hp=>by
  refine Ev.succ ?_;simp only [afj];refine aa5 ?_
  have:=aiA h g 12 0 rfl
  have e:((List.replicate c.length (List.replicate 12 zF)).set 0 (List.replicate 0 (⟨1,0⟩:SF) ++ List.replicate (12 - 0) zF))=List.replicate p (List.replicate 12 zF):=by
   have:=(abf h).1
   obtain⟨n,hn⟩:∃ n,p=n+1:=⟨p - 1,by omega⟩
   rw [show c.length=n+1 from by omega,hn];rfl
  rw [e] at this;exact this
 | d+1,p,hp=>by
  have h6:=abf h;refine Ev.succ ?_;have e:List.replicate p (List.replicate 12 zF) ++ [List.replicate 12 z54]=List.replicate (p+1) (List.replicate 12 zF):=(List.replicate_succ' ..).symm;simp only [afj,List.length_replicate,e,aay (show p < 9223372036854775807 by omega)];exact aa2 (aa2 (aa2 (ak0 h g d (p+1) (by omega))))
theorem aqP {c:List SQ} (h:CV (qs c)):∃ U,(FS c).Lfp U/\Ev (fun k=>San.f k c) U:=by
 obtain⟨U,hU,hE⟩:=ah9 h _ _ (Sys.rd0 (agr h)) (Nat.le_refl _);refine⟨U,hU,?_⟩;simp only [San.f];refine aaP (Ev.bind (acZ c) (aa2 ?_ (decide_eq_true h)));exact ak0 h hE c.length 0 (Nat.zero_add _)
theorem aod {l:List Int} (h:l.length < 9223372036854775807) (a:Int):∀ (d p:Nat),p+d=l.length->(∀ j,j < p->l.getD j 0≠a)->Ev (fun k=>aeG k l a (p:Int)) (decide (a∈l))
 | 0,p,hp,hn=>by
  refine Ev.succ ?_;simp only [aeG];refine aa5 (abk (abg ?_));simp only [Bool.false_eq_true,decide_eq_true_eq,false_iff];intro hm;obtain⟨j,hj,e⟩:=List.getElem_of_mem hm;refine hn j (by omega) ?_;rw [List.getD_eq_getElem?_getD,List.getElem?_eq_getElem hj];exact e
 | d+1,p,hp,hn=>by
  refine Ev.succ ?_;simp only [aeG,ajE,aay (show p < 9223372036854775807 by omega)];refine aa2 (aa2 ?_);by_cases e:l.getD p 0=a
  ·refine aa2 (abk (abg ?_));simp only [true_iff,decide_eq_true_eq];rw [<- e,List.getD_eq_getElem?_getD,List.getElem?_eq_getElem (by omega)];exact List.getElem_mem _
  refine aa5 (aod h a d (p+1) (by omega) fun j hj=>?_);by_cases x:j=p
  ·rw [x];exact e
  exact hn j (by omega)
theorem ajZ (a:Int) {l:List Int} (h:l.length < 9223372036854775807):Ev (fun k=>ahN k a l) (decide (a∈l)):=by
 simp only [ahN,SaS.f];exact Ev.bind (aod h a l.length 0 (Nat.zero_add _) (by omega)) Ev.pure
def isF (f:SF) (n:Int):Bool:=f.f0 == 1 && f.f1 == n
theorem Sb5.e (f:SF) (n:Int):agC f.f0 f.f1 n=some (isF f n):=by
 unfold agC isF;by_cases h:f.f0=1 <;> simp [h]
/-- An operation simplified. -/
def aqc (q:SQ) (a b:SF):SQ :=
 if a.f0=1/\b.f0=1 then ⟨1,q.f1,0,0,ap q.f4 a.f1 b.f1⟩
 else if (isF b 0 && decide (q.f4∈([1,2,6,7,8,9]:List Int)))=true then ⟨2,q.f1,q.f2,0,0⟩
 else if (isF b 1 && decide (q.f4∈([10,11]:List Int)))=true then ⟨2,q.f1,q.f2,0,0⟩
 else if (isF a 0 && decide (q.f4∈([1,2,8]:List Int)))=true then ⟨2,q.f1,q.f3,0,0⟩
 else if (isF a 1 && (q.f4 == 10))=true then ⟨2,q.f1,q.f3,0,0⟩
 else if ((isF a 0 || isF b 0) && decide (q.f4∈([3,10]:List Int)))=true then ⟨1,q.f1,0,0,0⟩
 else q
abbrev tQ (q:SQ):Int × Int × Int × Int × Int:=(q.f0,q.f1,q.f2,q.f3,q.f4)
theorem als {α:Type} {x y:Bool} {F:Nat->Bool->Option α} {A:Nat->Option Bool} {v:α} (hA:Ev A y) (h:Ev (fun k=>F k (x && y)) v):Ev (fun k=>if x=true then (A k).bind fun t=>F k t else F k false) v:=by
 cases x with
 | true=>exact aa2 (Ev.bind hA h) rfl
 | false=>exact aa5 h (by simp)
theorem aiw (q:SQ) (a b:SF) (x:Bool):Ev (fun k=>agc k x q.f0 q.f1 q.f2 q.f3 q.f4 a.f0 a.f1 b.f0 b.f1) (tQ (if x=true then ⟨2,q.f1,q.f3,0,0⟩ else if ((isF a 0 || isF b 0) && decide (q.f4∈([3,10]:List Int)))=true then ⟨1,q.f1,0,0,0⟩ else q)):=by
 refine Ev.succ ?_;simp only [agc,Sb5.e,Option.bind_some]
 cases x with
 | true=>exact aa2 Ev.pure rfl
 | false =>
  refine aa5 ?_ (by simp);rw [if_neg (by simp)]
  have go:Ev (fun k=>(ahN k q.f4 ([3,10]:List Int)).bind fun t=>if t=true then some ((1:Int),q.f1,(0:Int),(0:Int),(0:Int)) else some (q.f0,q.f1,q.f2,q.f3,q.f4)) (tQ (if decide (q.f4∈([3,10]:List Int))=true then ⟨1,q.f1,0,0,0⟩ else q)):=by
   refine Ev.bind (ajZ q.f4 (by decide)) (abk ?_);split <;> rfl
  cases isF a 0 with
  | true=>exact aa2 go rfl
  | false =>
   refine aa5 ?_ (by simp)
   cases isF b 0 with
   | true=>exact aa2 go rfl
   | false=>exact aa5 Ev.pure (by simp)
theorem amn (q:SQ) (a b:SF) (x:Bool):Ev (fun k=>agd k x q.f0 q.f1 q.f2 q.f3 q.f4 a.f0 a.f1 b.f0 b.f1) (tQ (if x=true then ⟨2,q.f1,q.f3,0,0⟩ else if (isF a 1 && (q.f4 == 10))=true then ⟨2,q.f1,q.f3,0,0⟩ else if ((isF a 0 || isF b 0) && decide (q.f4∈([3,10]:List Int)))=true then ⟨1,q.f1,0,0,0⟩ else q)):=by
 refine Ev.succ ?_;simp only [agd,Sb5.e,Option.bind_some]
 cases x with
 | true=>exact aa2 Ev.pure rfl
 | false =>
  refine aa5 ?_ (by simp);rw [if_neg (by simp)]
  cases isF a 1 with
  | true=>exact aa2 (aiw q a b (q.f4 == 10)) rfl
  | false=>exact aa5 (aiw q a b false) (by simp)
theorem amo (q:SQ) (a b:SF) (x:Bool):Ev (fun k=>age k x q.f0 q.f1 q.f2 q.f3 q.f4 a.f0 a.f1 b.f0 b.f1) (tQ (if x=true then ⟨2,q.f1,q.f2,0,0⟩ else if (isF a 0 && decide (q.f4∈([1,2,8]:List Int)))=true then ⟨2,q.f1,q.f3,0,0⟩ else if (isF a 1 && (q.f4 == 10))=true then ⟨2,q.f1,q.f3,0,0⟩ else if ((isF a 0 || isF b 0) && decide (q.f4∈([3,10]:List Int)))=true then ⟨1,q.f1,0,0,0⟩ else q)):=by
 refine Ev.succ ?_;simp only [age,Sb5.e,Option.bind_some]
 cases x with
 | true=>exact aa2 Ev.pure rfl
 | false =>
  refine aa5 ?_ (by simp);rw [if_neg (by simp)];exact als (ajZ q.f4 (by decide)) (amn q a b _)
theorem amq (q:SQ) (a b:SF) (x:Bool):Ev (fun k=>agf k x q.f0 q.f1 q.f2 q.f3 q.f4 a.f0 a.f1 b.f0 b.f1) (tQ (if x=true then ⟨2,q.f1,q.f2,0,0⟩ else if (isF b 1 && decide (q.f4∈([10,11]:List Int)))=true then ⟨2,q.f1,q.f2,0,0⟩ else if (isF a 0 && decide (q.f4∈([1,2,8]:List Int)))=true then ⟨2,q.f1,q.f3,0,0⟩ else if (isF a 1 && (q.f4 == 10))=true then ⟨2,q.f1,q.f3,0,0⟩ else if ((isF a 0 || isF b 0) && decide (q.f4∈([3,10]:List Int)))=true then ⟨1,q.f1,0,0,0⟩ else q)):=by
 refine Ev.succ ?_;simp only [agf,Sb5.e,Option.bind_some]
 cases x with
 | true=>exact aa2 Ev.pure rfl
 | false =>
  refine aa5 ?_ (by simp);rw [if_neg (by simp)];exact als (ajZ q.f4 (by decide)) (amo q a b _)
theorem aqI {q:SQ} (h1:1<=q.f4/\q.f4<=12) {a b:SF} (ha:okF a) (hb:okF b):Ev (fun k=>amr k q.f0 q.f1 q.f2 q.f3 q.f4 a.f0 a.f1 b.f0 b.f1) (tQ (aqc q a b)):=by
 simp only [amr];refine Ev.bind (aou (q:=q_ q) h1 ha hb) ?_;unfold aqc;by_cases c:a.f0=1/\b.f0=1
 ·rw [if_pos c,if_pos c];exact aa2 Ev.pure rfl
 rw [if_neg c,if_neg c];refine aa5 ?_ (by simp);simp only [Sb5.e,Option.bind_some];exact als (ajZ q.f4 (by decide)) (amq q a b _)
/-- A quad simplified by the facts before it. -/
def ahD (q:SQ) (x:List SF) (i:Nat):SQ :=
 if (fa x 0).f0=0 then q else if q.f0=2 then (if (fa x q.f2.toNat).f0=1 then ⟨1,q.f1,0,0,(fa x q.f2.toNat).f1⟩ else q) else if q.f0=3 then aqc q (fa x q.f2.toNat) (fa x q.f3.toNat)
 else if q.f0=5 then (if isF (fa x q.f2.toNat) 0=true then ⟨4,0,0,0,q.f4⟩ else if (fa x q.f2.toNat).f0=1 then ⟨4,0,0,0,((i+1:Nat):Int)⟩ else q) else q
theorem aqv {q:SQ} {m:Int} (h:QV (q_ q) m) {x:List SF} (hx:okR x) {i:Nat} (hi:i < 9223372036854775807):Ev (fun k=>ame k q.f0 q.f1 q.f2 q.f3 q.f4 x (i:Int)) (tQ (ahD q x i)):=by
 have hl:=hx.1;obtain⟨⟨d0,d1⟩,⟨a0,a1⟩,b0,b1⟩:=abL h;have ⟨ra,rb⟩:=ao9 h;simp only [q_] at d0 d1 a0 a1 b0 b1 ra rb;have h0:aaa x 0=fa x 0:=anf _ 0;simp only [ame,hl,h0,afM x a0,afM x b0,aay hi];unfold ahD;refine aa2 ?_;by_cases c0:(fa x 0).f0=0
 ·rw [if_pos c0];exact aa2 Ev.pure
 rw [if_neg c0];refine aa5 ?_;by_cases c2:q.f0=2
 ·rw [if_pos c2];refine aa2 (aa2 (aa2 (abk ?_)));split <;> rfl
 rw [if_neg c2];refine aa5 ?_;by_cases c3:q.f0=3
 ·rw [if_pos c3];refine aa2 (aa2 (aa2 (aa2 (aa2 ?_))));have hn:1<=q.f4/\q.f4<=12:=by unfold QV q_ at h;simp only at h;omega
  exact Ev.bind (aqI hn (hx.2.1 _ ra) (hx.2.1 _ rb)) Ev.pure
 rw [if_neg c3];refine aa5 ?_;by_cases c5:q.f0=5
 ·rw [if_pos c5,if_pos c5];refine aa2 (aa2 ?_);rw [Sb5.e];refine aaP (abk ?_);split
  ·rfl
  split <;> rfl
 rw [if_neg c5,if_neg c5];exact Ev.pure
/-- A code simplified. -/
def agA (U:List (List SF)) (c:List SQ):List SQ:=(List.range c.length).map fun i=>ahD (qa c i) ((FS c).at' U i) i
theorem acn (U:List (List SF)) (c:List SQ):(agA U c).length=c.length:=by simp [agA]
theorem afW (U:List (List SF)) {c:List SQ} {i:Nat} (h:i < c.length):qa (agA U c) i=ahD (qa c i) ((FS c).at' U i) i:=by simp [agA,qa,List.getD_eq_getElem?_getD,h]
theorem ac1 {α:Type} (d:α) {l:List α} {p:Nat} (h:p < l.length):l.take p ++ [l.getD p d]=l.take (p+1):=by
 rw [List.take_add_one,List.getD_eq_getElem?_getD,List.getElem?_eq_getElem h];rfl
theorem Sao.out {c:List SQ} (h:CV (qs c)) {U:List (List SF)} (hU:(FS c).St U):∀ (d p:Nat),p+d=c.length->Ev (fun k=>afh k c ((agA U c).take p) U (p:Int)) (agA U c,true)
 | 0,p,hp=>by
  refine Ev.succ ?_;simp only [afh];refine aa5 (Ev.eq Ev.pure ?_);rw [List.take_of_length_le (by rw [acn];omega)]
 | d+1,p,hp=>by
  have h6:=abf h;have hi:p < c.length:=by omega
  have hn:U.length=c.length:=hU.1
  have hr:aaz U (p:Int)=(FS c).at' U p:=by
   rw [apC (by omega)];unfold aaz;rw [Int.toNat_natCast]
  refine Ev.succ ?_;simp only [afh,hr,ac5,aay (show p < 9223372036854775807 by omega)];refine aa2 (aa2 (aa2 (Ev.bind (aqv (abT h hi) (hU.2 p hi) (by omega)) (aa2 ?_ (by rw [List.length_take,acn];omega)))))
  have e:(agA U c).take p ++ [ahD (qa c p) ((FS c).at' U p) p]=(agA U c).take (p+1):=by
   rw [<- afW U hi];exact ac1 _ (by rw [acn];exact hi)
  have:=Sao.out h hU d (p+1) (by omega)
  rw [<- e] at this;exact this
theorem aqN {c:List SQ} (h:CV (qs c)):∃ U,(FS c).Lfp U/\Ev (fun k=>Sao.f k c) (agA U c,true):=by
 obtain⟨U,hU,hE⟩:=aqP h;refine⟨U,hU,?_⟩;simp only [Sao.f];refine aaP (Ev.bind (acZ c) (aa2 (Ev.bind hE ?_) (decide_eq_true h)));exact Sao.out h hU.1.1 c.length 0 (Nat.zero_add _)
theorem akh {q:SQ} {m:Int} (h:QV (q_ q) m) (h3:q.f0=3) {a b:SF} (ha:okF a) (hb:okF b):QV (q_ (aqc q a b)) m:=by
 obtain⟨⟨d0,d1⟩,⟨a0,a1⟩,b0,b1⟩:=abL h;have hn:1<=q.f4/\q.f4<=12:=by unfold QV q_ at h;simp only at h;omega
 simp only [q_] at d0 d1 a0 a1 b0 b1;have ca:∀ r:Int,0<=r->r < 12->QV (q_ ⟨2,q.f1,r,0,0⟩) m:=fun r h1 h2=>.inr (.inl ⟨rfl,⟨d0,by show q.f1<=11;omega⟩,⟨h1,by show r<=11;omega⟩,rfl,rfl⟩)
 have cc:∀ n:Int,wd n->QV (q_ ⟨1,q.f1,0,0,n⟩) m:=fun n hn=>.inl ⟨rfl,⟨d0,by show q.f1<=11;omega⟩,rfl,rfl,hn⟩
 unfold aqc;split
 ·rename_i g
  exact cc _ (apK (akB ha g.1) (akB hb g.2))
 split
 ·exact ca _ a0 a1
 split
 ·exact ca _ a0 a1
 split
 ·exact ca _ b0 b1
 split
 ·exact ca _ b0 b1
 split
 ·exact cc 0 (by decide)
 exact h
theorem aj5 {c:List SQ} (h:CV (qs c)) {i:Nat} (hi:i < c.length) {x:List SF} (hx:okR x):QV (q_ (ahD (qa c i) x i)) c.length:=by
 have v:=abT h hi;obtain⟨⟨d0,d1⟩,⟨a0,a1⟩,b0,b1⟩:=abL v;have ⟨ra,rb⟩:=ao9 v;simp only [q_] at d0 d1 a0 a1 b0 b1 ra rb;unfold ahD;split
 ·exact v
 split
 ·split
  ·rename_i g
   exact .inl ⟨rfl,⟨d0,by show (qa c i).f1<=11;omega⟩,rfl,rfl,akB (hx.2.1 _ ra) g⟩
  exact v
 split
 ·rename_i g
  exact akh v g (hx.2.1 _ ra) (hx.2.1 _ rb)
 split
 ·rename_i g
  have hn:0<=(qa c i).f4/\(qa c i).f4 < c.length:=by unfold QV q_ at v;simp only at v;omega
  split
  ·exact .inr (.inr (.inr (.inl ⟨rfl,rfl,rfl,rfl,hn⟩)))
  split
  ·have lt:i+1 < c.length:=by
    have:=nx_lt h (i:=i) (j:=i+1) (by rw [ab5];exact hi) (by
     rw [acC];unfold nx;rw [if_neg (by show ¬ (qa c i).f0=10;omega),if_neg (by show ¬ (qa c i).f0=4;omega),if_pos (show (q_ (qa c i)).op=5 from g)]
     (repeat' split) <;> simp)
    rwa [ab5] at this
   exact .inr (.inr (.inr (.inl ⟨rfl,rfl,rfl,rfl,by show (0:Int)<=((i+1:Nat):Int);omega,by show ((i+1:Nat):Int) < (c.length:Int);omega⟩)))
  exact v
 exact v
theorem alm {q:SQ} (h:q.f0=10\/q.f0=4) (x:List SF) (i:Nat):ahD q x i=q:=by
 unfold ahD;(repeat' split) <;> first|rfl|omega
theorem alz {c:List SQ} (h1:1<=c.length) (h6:c.length<=600) (hv:∀ i,i < c.length->QV (q_ (qa c i)) c.length) (hl:(qa c (c.length - 1)).f0=10\/(qa c (c.length - 1)).f0=4):CV (qs c):=by
 refine⟨by rw [ab5];exact h1,by rw [ab5];exact h6,fun i hi=>?_,?_⟩
 ·rw [acC,ab5];rw [ab5] at hi;exact hv i hi
 rw [acC,ab5];exact hl
theorem ae3 {c:List SQ} (h:CV (qs c)):(qa c (c.length - 1)).f0=10\/(qa c (c.length - 1)).f0=4:=by
 have:=h.2.2.2
 rwa [acC,ab5] at this
theorem aj6 {c:List SQ} (h:CV (qs c)) {U:List (List SF)} (hU:(FS c).St U):CV (qs (agA U c)):=by
 have h6:=abf h;refine alz (by rw [acn];exact h6.1) (by rw [acn];exact h6.2) (fun i hi=>?_) ?_
 ·rw [acn] at hi ⊢;rw [afW U hi];exact aj5 h hi (hU.2 i hi)
 rw [acn,afW U (by omega),alm (ae3 h)];exact ae3 h
theorem aiT {α:Type} {A B:List α} (hl:A.length=B.length) {p:Nat} (hp:p<=A.length):(A.take p ++ B.drop p).length=A.length:=by
 rw [List.length_append,List.length_take,List.length_drop];omega
theorem aiU {α:Type} (d:α) {A B:List α} (hl:A.length=B.length) {p:Nat} (hp:p<=A.length):(A.take p ++ B.drop p).getD p d=B.getD p d:=by
 rw [List.getD_eq_getElem?_getD,List.getElem?_append_right (by rw [List.length_take];omega),List.length_take,show p - min p A.length=0 from by omega,List.getElem?_drop,List.getD_eq_getElem?_getD];rfl
theorem ahz {α:Type} (d:α) {A B:List α} (hl:A.length=B.length) {p:Nat} (hp:p < A.length):(A.take p ++ B.drop p).set p (A.getD p d)=A.take (p+1) ++ B.drop (p+1):=by
 rw [<- ac1 d hp,aco d (show p < B.length by omega),List.set_append_right _ _ (by rw [List.length_take];omega),List.length_take,show p - min p A.length=0 from by omega,List.set_cons_zero,List.append_assoc];rfl
theorem anl {α:Type} (d:α) {A B:List α} (hl:A.length=B.length) {p:Nat} (hp:p < A.length) (e:A.getD p d=B.getD p d):A.take p ++ B.drop p=A.take (p+1) ++ B.drop (p+1):=by
 rw [<- ac1 d hp,aco d (show p < B.length by omega),e,List.append_assoc];rfl
/-- Where jumps from a place lead to. -/
def tgt (c:List SQ):Nat->Nat->Nat->Nat
 | 0,x,a=>a
 | d+1,x,a=>if (qa c x).f0=4 then tgt c d (qa c x).f4.toNat a else x
theorem al6 {c:List SQ} (h:CV (qs c)) {x:Nat} (hx:x < c.length) (h4:(qa c x).f0=4\/(qa c x).f0=5):0<=(qa c x).f4/\(qa c x).f4 < c.length:=by
 have v:=abT h hx;unfold QV q_ at v;simp only at v;omega
theorem ao5 {c:List SQ} (h:CV (qs c)) {a:Nat} (ha:a < c.length):∀ d x,x < c.length->tgt c d x a < c.length
 | 0,x,hx=>ha
 | d+1,x,hx=>by
  unfold tgt;split
  ·rename_i g
   have:=al6 h hx (.inl g)
   exact ao5 h ha d _ (by omega)
  exact hx
theorem Sbh.out {c:List SQ} (h:CV (qs c)) (a:Nat):∀ (d p x:Nat),p+d=c.length->x < c.length->Ev (fun k=>aev k c (a:Int) (x:Int) (p:Int)) (tgt c d x a:Int)
 | 0,p,x,hp,hx=>by
  refine Ev.succ ?_;simp only [aev];exact aa5 Ev.pure
 | d+1,p,x,hp,hx=>by
  refine Ev.succ ?_;have h6:=abf h;simp only [aev,ac5,aay (show p < 9223372036854775807 by omega)];refine aa2 (aa2 (aa2 ?_));by_cases g:(qa c x).f0=4
  ·have:=al6 h hx (.inl g)
   have ih:=Sbh.out h a d (p+1) (qa c x).f4.toNat (by omega) (by omega);rw [Int.toNat_of_nonneg this.1] at ih;refine aa2 (Ev.eq ih ?_);rw [tgt,if_pos g]
  refine aa5 (Ev.eq Ev.pure ?_);rw [tgt,if_neg g]
def apM (c:List SQ) (n:Int):Int:=(tgt c c.length n.toNat n.toNat:Nat)
theorem aon {c:List SQ} (h:CV (qs c)) {n:Int} (h0:0<=n) (h1:n < c.length):Ev (fun k=>Sbh.f k c n) (apM c n):=by
 have:=Sbh.out h n.toNat c.length 0 n.toNat (Nat.zero_add _) (by omega)
 rw [Int.toNat_of_nonneg h0] at this;exact this
def anr (c:List SQ) (q:SQ):SQ:=if q.f0=4\/q.f0=5 then ⟨q.f0,q.f1,q.f2,q.f3,apM c q.f4⟩ else q
def agz (c:List SQ):List SQ:=c.map (anr c)
theorem ack (c:List SQ):(agz c).length=c.length:=by simp [agz]
theorem apZ (f:SQ->SQ) {c:List SQ} {i:Nat} (h:i < c.length):qa (c.map f) i=f (qa c i):=by simp [qa,List.getD_eq_getElem?_getD,List.getElem?_eq_getElem h]
theorem afT {c:List SQ} {i:Nat} (h:i < c.length):qa (agz c) i=anr c (qa c i):=apZ _ h
theorem Sap.out {c:List SQ} (h:CV (qs c)):∀ (d p:Nat),p+d=c.length->Ev (fun k=>adV k c ((agz c).take p) (p:Int)) (agz c,true)
 | 0,p,hp=>by
  refine Ev.succ ?_;simp only [adV];refine aa5 (Ev.eq Ev.pure ?_);rw [List.take_of_length_le (by rw [ack];omega)]
 | d+1,p,hp=>by
  have h6:=abf h;have hi:p < c.length:=by omega
  refine Ev.succ ?_;simp only [adV,ac5,aay (show p < 9223372036854775807 by omega)];have lt:((agz c).take p).length < 3518437208883:=by rw [List.length_take,ack];omega
  have ih:=Sap.out h d (p+1) (by omega)
  have e:∀ x,anr c (qa c p)=x->(agz c).take p ++ [x]=(agz c).take (p+1):=by
   intro x hx;rw [<- hx,<- afT hi];exact ac1 _ (by rw [ack];exact hi)
  refine aa2 (aa2 ?_);by_cases c4:(qa c p).f0=4
  ·have:=al6 h hi (.inl c4)
   refine aa2 (Ev.bind (aon h this.1 this.2) (aa2 ?_ lt));rw [e _ (by rw [anr,if_pos (.inl c4)])];exact ih
  refine aa5 ?_;by_cases c5:(qa c p).f0=5
  ·have:=al6 h hi (.inr c5)
   refine aa2 (Ev.bind (aon h this.1 this.2) (aa2 ?_ lt));rw [e _ (by rw [anr,if_pos (.inr c5)])];exact ih
  refine aa5 (aa2 ?_ lt)
  have:=e _ (by rw [anr,if_neg (by omega)])
  rw [<- this] at ih;exact ih
theorem aqM {c:List SQ} (h:CV (qs c)):Ev (fun k=>Sap.f k c) (agz c,true):=by
 simp only [Sap.f];exact aaP (Ev.bind (acZ c) (aa2 (Sap.out h c.length 0 (Nat.zero_add _)) (decide_eq_true h)))
theorem apj (c:List SQ) (q:SQ):(anr c q).f0=q.f0:=by
 unfold anr;split <;> rfl
theorem aj1 {c:List SQ} (h:CV (qs c)):CV (qs (agz c)):=by
 have h6:=abf h;refine alz (by rw [ack];exact h6.1) (by rw [ack];exact h6.2) (fun i hi=>?_) ?_
 ·rw [ack] at hi ⊢;rw [afT hi];have v:=abT h hi;unfold anr;split
  ·rename_i g
   have n:=al6 h hi g
   have t:0<=apM c (qa c i).f4/\apM c (qa c i).f4 < c.length:=by
    have:=ao5 h (a:=(qa c i).f4.toNat) (by omega) c.length (qa c i).f4.toNat (by omega)
    unfold apM;omega
   rcases v with v|v|v | ⟨o,p1,p2,p3,_⟩ | ⟨o,p1,p2,p3,_⟩|v
   ·have:(qa c i).f0=1:=v.1
    omega
   ·have:(qa c i).f0=2:=v.1
    omega
   ·have:(qa c i).f0=3:=v.1
    omega
   ·exact .inr (.inr (.inr (.inl ⟨o,p1,p2,p3,t⟩)))
   ·exact .inr (.inr (.inr (.inr (.inl ⟨o,p1,p2,p3,t⟩))))
   have:¬ ((qa c i).f0=4\/(qa c i).f0=5):=by
    simp only [q_] at v;omega
   exact absurd g this
  exact v
 rw [ack,afT (by omega),apj];exact ae3 h
def RS (c:List SQ):Sys Bool where
 n:=c.length
 ok:=fun _=>True
 le:=fun a b=>a=true->b=true
 jn:=fun a b=>a || b
 out:=fun i x=>if x=true then (nx (q_ (qa c i)) i).map fun e=>(e,true) else []
 rk:=fun x=>if x=true then 1 else 0
 top:=1
 d:=false
 ini:=true
theorem ajJ {c:List SQ} (h:CV (qs c)) {i e:Nat} (hi:i < c.length) (he:e∈nx (q_ (qa c i)) i):e < c.length:=by
 have n:=nx_lt h (i:=i) (j:=e) (by rw [ab5];exact hi) (by rw [acC];exact he)
 rwa [ab5] at n
theorem af3 {c:List SQ} (h:CV (qs c)):(RS c).Laws where
 refl:=fun a _ x=>x
 trans:=fun a b c _ _ _ h g x=>g (h x)
 anti:=fun a b _ _ h g=>by cases a <;> cases b <;> first|rfl|(have:=h rfl;cases this)|(have:=g rfl;cases this)
 ub1:=fun a b _ _ x=>by show (a || b)=true;rw [x];rfl
 ub2:=fun a b _ _ x=>by show (a || b)=true;rw [x];simp
 lub:=fun a b c _ _ _ h g x=>by
  have x':(a || b)=true:=x;rcases (Bool.or_eq_true a b).mp x' with y|y
  ·exact h y
  exact g y
 okj:=fun a b _ _=>trivial
 oko:=fun i x hi _ p hp=>by
  have hp':p∈(if x=true then (nx (q_ (qa c i)) i).map fun e=>(e,true) else []):=hp;split at hp'
  ·obtain⟨e,he,rfl⟩:=List.mem_map.1 hp';exact⟨ajJ h hi he,trivial⟩
  simp at hp'
 mono:=fun i x y hi _ _ hl p hp=>by
  have hp':p∈(if x=true then (nx (q_ (qa c i)) i).map fun e=>(e,true) else []):=hp;split at hp'
  ·rename_i g
   refine⟨true,?_,fun _=>rfl⟩;show _∈(if y=true then (nx (q_ (qa c i)) i).map fun e=>(e,true) else [])
   rw [if_pos (hl g)];obtain⟨e,he,rfl⟩:=List.mem_map.1 hp';exact List.mem_map.2 ⟨e,he,rfl⟩
  simp at hp'
 rank:=fun a b _ _ h ne=>by
  show (if a=true then 1 else 0) < (if b=true then 1 else 0)
  cases a <;> cases b <;> first|exact absurd rfl ne|(have:=h rfl;cases this)|decide
 rtop:=fun a _=>by show (if a=true then 1 else 0)<=1;split <;> omega
 okd:=trivial
 oki:=trivial
 bot:=fun a _ x=>by cases x
 outd:=fun i=>by
  show (if false=true then (nx (q_ (qa c i)) i).map (fun e=>(e,true)) else [])=[]
  rw [if_neg (by decide)]
 pos:=(abf h).1
 inid:=by show ¬ true=false;decide
theorem aoI {c:List SQ} (h:CV (qs c)) {i:Nat} (hi:i < c.length) {es:List Nat} (hl:es.length < 1000) (he:∀ e∈es,e < c.length) {R:Bool × List Bool}:∀ (d p:Nat) (T:List Bool) (b:Bool),p+d=es.length->(RS c).St T->Ev (fun k=>acd k c (Sys.pass (RS c) ((es.drop p).map fun e=>(e,true)) T b).1 (Sys.pass (RS c) ((es.drop p).map fun e=>(e,true)) T b).2 ((i+1:Nat):Int)) R->Ev (fun k=>acb k c T b (i:Int) (ints es) (p:Int)) R
 | 0,p,T,b,hp,hT,g=>by
  refine Ev.succ ?_;have h6:=abf h;rw [List.drop_eq_nil_of_le (by omega)] at g;simp only [acb,ab2,aay (show i < 9223372036854775807 by omega)];exact aa5 g
 | d+1,p,T,b,hp,hT,g=>by
  refine Ev.succ ?_;have h6:=abf h;have hm:es.getD p 0 < c.length:=he _ (adc (by omega));have hn:T.length=c.length:=hT.1;rw [aco 0 (show p < es.length by omega)] at g;have hT':=Sys.put_st (af3 h) hT (p:=(es.getD p 0,true)) hm trivial;have go:=fun b'=>aoI h hi hl he (R:=R) d (p+1) (Sys.put (RS c) T (es.getD p 0,true)) b' (by omega) hT'
  simp only [acb,ab2,ad8,abZ,hn,Int.toNat_natCast,aay (show p < 9223372036854775807 by omega)];refine aa2 (aa2 (aa2 (aa2 ?_)));simp only [List.map_cons,Sys.pass] at g
  cases e:T.getD (es.getD p 0) false with
  | true =>
   refine aa2 ?_ rfl;have hs:Sys.put (RS c) T (es.getD p 0,true)=T:=Sys.put_same (by show es.getD p 0 < T.length;omega) (by show (T.getD (es.getD p 0) false || true)=T.getD (es.getD p 0) false;rw [e];rfl);have hd:decide ((RS c).jn ((RS c).at' T (es.getD p 0)) true=(RS c).at' T (es.getD p 0))=true:=decide_eq_true (by show (T.getD (es.getD p 0) false || true)=T.getD (es.getD p 0) false;rw [e];rfl)
   have:=go b
   rw [hs] at this g;refine this ?_
   rwa [hd,Bool.not_true,Bool.or_false] at g
  | false =>
   refine aa5 ?_ (by simp);have hd:decide ((RS c).jn ((RS c).at' T (es.getD p 0)) true=(RS c).at' T (es.getD p 0))=false:=decide_eq_false (by show ¬ (T.getD (es.getD p 0) false || true)=T.getD (es.getD p 0) false;rw [e];decide)
   have hs:Sys.put (RS c) T (es.getD p 0,true)=T.set (es.getD p 0) true:=by
    show T.set (es.getD p 0) (T.getD (es.getD p 0) false || true)=_
    rw [e];rfl
   rw [hd,Bool.not_false,Bool.or_true] at g
   have:=go true g
   rwa [hs] at this
theorem SaU.out {c:List SQ} (h:CV (qs c)):∀ (d:Nat),d<=c.length->∀ (T:List Bool) (b:Bool),(RS c).St T->Ev (fun k=>acd k c T b ((c.length - d:Nat):Int)) ((Sys.rnds (RS c) d T b).2,(Sys.rnds (RS c) d T b).1)
 | 0,hd,T,b,hT=>by
  refine Ev.succ ?_;simp only [acd,Nat.sub_zero];exact aa5 Ev.pure
 | d+1,hd,T,b,hT=>by
  refine Ev.succ ?_;have h6:=abf h;have hi:c.length - (d+1) < c.length:=by omega
  have hn:T.length=c.length:=hT.1;have hw:=aay (show c.length - (d+1) < 9223372036854775807 by omega);have hs:((c.length - (d+1)+1:Nat):Int)=((c.length - d:Nat):Int):=by congr 1;omega
  obtain⟨b1,_⟩:=Sys.pass_all (af3 h) ((RS c).out (c.length - (d+1)) ((RS c).at' T (c.length - (d+1)))) T b hT ((af3 h).oko _ _ hi trivial);have ih:=SaU.out h d (by omega) _ (Sys.pass (RS c) ((RS c).out (c.length - (d+1)) ((RS c).at' T (c.length - (d+1)))) T b).2 b1;simp only [acd,abZ,hn,hw];refine aa2 (aa2 (aa2 ?_));show Ev _ ((Sys.rnds (RS c) d (Sys.pass (RS c) ((RS c).out (c.length - (d+1)) ((RS c).at' T (c.length - (d+1)))) T b).1 (Sys.pass (RS c) ((RS c).out (c.length - (d+1)) ((RS c).at' T (c.length - (d+1)))) T b).2).2,(Sys.rnds (RS c) d (Sys.pass (RS c) ((RS c).out (c.length - (d+1)) ((RS c).at' T (c.length - (d+1)))) T b).1 (Sys.pass (RS c) ((RS c).out (c.length - (d+1)) ((RS c).at' T (c.length - (d+1)))) T b).2).1)
  by_cases g:T.getD (c.length - (d+1)) false=true
  ·have e:(RS c).out (c.length - (d+1)) ((RS c).at' T (c.length - (d+1)))=(nx (q_ (qa c (c.length - (d+1)))) (c.length - (d+1))).map fun e=>(e,true):=if_pos g
   refine aa2 (Ev.bind (ak3 h hi) ?_) g;refine aoI h hi (by have:=ai4 (q_ (qa c (c.length - (d+1)))) (c.length - (d+1));omega) (fun e he=>ajJ h hi he) _ 0 T b (Nat.zero_add _) hT ?_;rw [List.drop_zero,<- e,hs];exact ih
  have e:(RS c).out (c.length - (d+1)) ((RS c).at' T (c.length - (d+1)))=[]:=if_neg g;refine aa5 ?_ g;rw [hs];rw [e] at ih ⊢;exact ih
theorem ahe {c:List SQ} (h:CV (qs c)):∀ (m:Nat) (T:List Bool),(RS c).Rd T->(RS c).cap T<=m->∃ U,(RS c).Lfp U/\Ev (fun k=>adn k c T) U
 | m,T,hT,hm=>by
  obtain⟨a,b,e⟩:=Sys.rd_step (af3 h) hT;have o:=SaU.out h c.length (Nat.le_refl _) T false hT.1;rw [Nat.sub_self] at o;have o':Ev (fun k=>SaU.f k c T) ((Sys.rnds (RS c) c.length T false).2,(Sys.rnds (RS c) c.length T false).1):=o
  cases g:(Sys.rnds (RS c) c.length T false).2 with
  | false =>
   refine⟨_,e g,Ev.succ ?_⟩;simp only [adn];exact Ev.bind o' (aa5 Ev.pure (by simp [g]))
  | true =>
   have lt:=b g
   match m,hm with
   | 0,hm=>omega
   | m+1,hm =>
    obtain⟨U,hU,hE⟩:=ahe h m _ a (by have:(RS c).cap (Sys.rnds (RS c) c.length T false).1 < (RS c).cap T:=lt;show (RS c).cap (Sys.rnds (RS c) c.length T false).1<=m;omega);refine⟨U,hU,Ev.succ ?_⟩;simp only [adn];exact Ev.bind o' (aa2 hE (by simp [g]))
theorem aoD {c:List SQ} (h:CV (qs c)):∃ U,(RS c).Lfp U/\Ev (fun k=>Saf.f k c) U:=by
 have h6:=abf h;obtain⟨U,hU,hE⟩:=ahe h _ _ (Sys.rd0 (af3 h)) (Nat.le_refl _);refine⟨U,hU,?_⟩;simp only [Saf.f,Int.toNat_natCast];refine Ev.bind (acZ c) (aa2 (aa2 (aa2 (aaP (aa2 ?_ (by rw [List.length_replicate];omega))))) (decide_eq_true h));exact hE
theorem ape {w:List Nat} (h:w≠[]):∃ v a,w=v ++ [a]:=⟨w.dropLast,w.getLast h,(List.dropLast_concat_getLast h).symm⟩
end Go.Proofs.YtdkkdiiceaomaaaGreat.M
namespace Go.Proofs.YtdkkdiiceaomaaaGreat.M
open Go.Proofs.Tryz Go.RowKit Go.Proofs.YtdkkdiiceaomaaaGreatW.PrintWords Go.Proofs.YtdkkdiiceaomaaaGreatW.PrintLast Go.Proofs.YtdkkdiiceaomaaaGreatW.PrintMore
mutual
def adU:Nat->List S31->List S31->List Bool->Int->Option ((List S31) × Bool)
 | 0,_,_,_,_=>none
 | k+1,x0,x4,x5,x6=>if x6 < (x0.length:Int) then (if 0<=x6 then (if x6 < (x5.length:Int) then (if acj false x5 x6=true then ((air k ((aa0 x0 x6).f0) ((aa0 x0 x6).f1) ((aa0 x0 x6).f2) ((aa0 x0 x6).f3) ((aa0 x0 x6).f4) x6).bind fun af=>(adU k x0 x4 (x5.set (x6:Int).toNat (!af)) (wrap64 (x6+1)))) else (adU k x0 x4 (x5.set (x6:Int).toNat false) (wrap64 (x6+1)))) else (none)) else (none)) else (adi k x0 x4 x5 0)
def adi:Nat->List S31->List S31->List Bool->Int->Option ((List S31) × Bool)
 | 0,_,_,_,_=>none
 | k+1,x0,x4,x5,x7=>if x7 < (x0.length:Int) then (if 0<=x7 then (if x7 < (x5.length:Int) then (if acj false x5 x7=true then (if ((aa0 x0 x7).f0)=4 then ((Sbg.f k x5 ((aa0 x0 x7).f4)).bind fun ag=>(if x4.length < 3518437208883 then (adi k x0 (x4 ++ [(⟨(aa0 x0 x7).f0,(aa0 x0 x7).f1,(aa0 x0 x7).f2,(aa0 x0 x7).f3,ag⟩:S31)]) x5 (wrap64 (x7+1))) else (none))) else (if ((aa0 x0 x7).f0)=5 then ((Sbg.f k x5 ((aa0 x0 x7).f4)).bind fun ah=>(if x4.length < 3518437208883 then (adi k x0 (x4 ++ [(⟨(aa0 x0 x7).f0,(aa0 x0 x7).f1,(aa0 x0 x7).f2,(aa0 x0 x7).f3,ah⟩:S31)]) x5 (wrap64 (x7+1))) else (none))) else (if x4.length < 3518437208883 then (adi k x0 (x4 ++ [(⟨(aa0 x0 x7).f0,(aa0 x0 x7).f1,(aa0 x0 x7).f2,(aa0 x0 x7).f3,(aa0 x0 x7).f4⟩:S31)]) x5 (wrap64 (x7+1))) else (none)))) else (adi k x0 x4 x5 (wrap64 (x7+1)))) else (none)) else (none)) else (some (x4,true))
end
def Saw.f (k:Nat) (l0:List S31):Option ((List S31) × Bool):=(some (([]:List S31):List S31)).bind fun ae=>((Sag.f k l0).bind fun ai=>(if ai=true then ((Saf.f k l0).bind fun aj=>(adU k l0 ae aj 0)) else (some (ae,false))))
theorem ah7:∀ k,(∀ y0 y1 y2 y3,LeO (adU k y0 y1 y2 y3) (adU (k+1) y0 y1 y2 y3))/\(∀ y0 y1 y2 y3,LeO (adi k y0 y1 y2 y3) (adi (k+1) y0 y1 y2 y3))
 | 0=>⟨fun _ _ _ _ r h=>by simp [adU] at h,fun _ _ _ _ r h=>by simp [adi] at h⟩
 | k+1=>by
  obtain⟨aa,ih1⟩:=ah7 k;refine⟨?_,?_⟩
  ·intro y0 y1 y2 y3;unfold adU
   repeat' first
   | (with_reducible exact aa _ _ _ _)
   | (with_reducible exact ih1 _ _ _ _)
   | (with_reducible exact Saf.mono _ _)
   | (with_reducible exact Sag.mono _ _)
   | (with_reducible exact Sbf.mono _ _ _ _ _ _ _)
   | (with_reducible exact Sbg.mono _ _ _)
   | (with_reducible exact aeL _)
   | (with_reducible exact acJ _)
   | (with_reducible refine adG ?_ ?_)
   | (with_reducible refine LeO.bind ?_ (fun _=>?_))
   | exact aa _ _ _ _
   | exact ih1 _ _ _ _
   | exact Saf.mono _ _
   | exact Sag.mono _ _
   | exact Sbf.mono _ _ _ _ _ _ _
   | exact Sbg.mono _ _ _
   | exact acJ _
   | refine adG ?_ ?_
   | refine LeO.bind ?_ (fun _=>?_)
  intro y0 y1 y2 y3;unfold adi
  repeat' first
  | (with_reducible exact aa _ _ _ _)
  | (with_reducible exact ih1 _ _ _ _)
  | (with_reducible exact Saf.mono _ _)
  | (with_reducible exact Sag.mono _ _)
  | (with_reducible exact Sbf.mono _ _ _ _ _ _ _)
  | (with_reducible exact Sbg.mono _ _ _)
  | (with_reducible exact aeL _)
  | (with_reducible exact acJ _)
  | (with_reducible refine adG ?_ ?_)
  | (with_reducible refine LeO.bind ?_ (fun _=>?_))
  | exact aa _ _ _ _
  | exact ih1 _ _ _ _
  | exact Saf.mono _ _
  | exact Sag.mono _ _
  | exact Sbf.mono _ _ _ _ _ _ _
  | exact Sbg.mono _ _ _
  | exact acJ _
  | refine adG ?_ ?_
  | refine LeO.bind ?_ (fun _=>?_)
theorem Saw.mono:∀ a0 k,LeO (Saw.f k a0) (Saw.f (k+1) a0):=by
 intro a0 k;obtain⟨aa,ih1⟩:=ah7 k;unfold Saw.f
 repeat' first
   | (with_reducible exact aa _ _ _ _)
   | (with_reducible exact ih1 _ _ _ _)
   | (with_reducible exact Saf.mono _ _)
   | (with_reducible exact Sag.mono _ _)
   | (with_reducible exact Sbf.mono _ _ _ _ _ _ _)
   | (with_reducible exact Sbg.mono _ _ _)
   | (with_reducible exact aeL _)
   | (with_reducible exact acJ _)
   | (with_reducible refine adG ?_ ?_)
   | (with_reducible refine LeO.bind ?_ (fun _=>?_))
   | exact aa _ _ _ _
   | exact ih1 _ _ _ _
   | exact Saf.mono _ _
   | exact Sag.mono _ _
   | exact Sbf.mono _ _ _ _ _ _ _
   | exact Sbg.mono _ _ _
   | exact acJ _
   | refine adG ?_ ?_
   | refine LeO.bind ?_ (fun _=>?_)
end Go.Proofs.YtdkkdiiceaomaaaGreat.M
namespace Go.Proofs.YtdkkdiiceaomaaaGreat.M
open Go.Proofs.Tryz Go.RowKit Go.Proofs.YtdkkdiiceaomaaaGreatW.PrintWords Go.Proofs.YtdkkdiiceaomaaaGreatW.PrintLast Go.Proofs.YtdkkdiiceaomaaaGreatW.PrintMore PM
/-- A quad has no effect. -/
def idle (q:SQ) (i:Nat):Bool:=if q.f0=4\/q.f0=5 then q.f4 == ((i+1:Nat):Int) else q.f0 == 2 && q.f1 == q.f2
theorem aoo (q:SQ) {i:Nat} (hi:i < 9223372036854775807):Ev (fun k=>air k q.f0 q.f1 q.f2 q.f3 q.f4 (i:Int)) (idle q i):=by
 simp only [air];by_cases c4:q.f0=4
 ·have e:idle q i=(q.f4 == ((i+1:Nat):Int)):=if_pos (.inl c4);rw [e];refine aa2 (Ev.succ ?_);simp only [adB,aay hi];exact aa2 Ev.pure (by simp [c4])
 refine aa5 (Ev.succ ?_);simp only [adB,aay hi];by_cases c5:q.f0=5
 ·have e:idle q i=(q.f4 == ((i+1:Nat):Int)):=if_pos (.inr c5);rw [e];exact aa2 Ev.pure (by simp [c5])
 refine aa5 ?_ (by simp [c5]);have e:idle q i=(q.f0 == 2 && q.f1 == q.f2):=if_neg (by omega);rw [e];by_cases c2:q.f0=2
 ·refine aa2 (Ev.eq Ev.pure ?_);simp [c2]
 refine aa5 (Ev.eq Ev.pure ?_);simp [c2]
/-- A quad is kept. -/
def kpt (c:List SQ) (U:List Bool) (i:Nat):Bool:=U.getD i false && !idle (qa c i) i
def kps (c:List SQ) (U:List Bool):List Bool:=(List.range c.length).map (kpt c U)
theorem adw (c:List SQ) (U:List Bool):(kps c U).length=c.length:=by simp [kps]
theorem afS {c:List SQ} {U:List Bool} {i:Nat} (h:i < c.length):(kps c U).getD i false=kpt c U i:=by simp [kps,List.getD_eq_getElem?_getD,h]
/-- How many quads ahead of a place are kept. -/
def plc (c:List SQ) (U:List Bool) (n:Nat):Nat:=((List.range n).filter (kpt c U)).length
theorem afz (c:List SQ) (U:List Bool) (n:Nat):plc c U (n+1)=plc c U n+(if kpt c U n=true then 1 else 0):=by
 unfold plc;rw [List.range_succ,List.filter_append,List.length_append]
 congr 1
 by_cases h:kpt c U n=true <;> simp [h]
theorem ajI (c:List SQ) (U:List Bool) (n:Nat):plc c U n<=n:=by
 have:=List.length_filter_le (kpt c U) (List.range n)
 rwa [List.length_range] at this
theorem ajG (c:List SQ) (U:List Bool) {a b:Nat} (h:a<=b):plc c U a<=plc c U b:=by
 induction b with
 | zero=>rw [show a=0 from by omega];exact Nat.le_refl _
 | succ b ih =>
  by_cases e:a=b+1
  ·rw [e];exact Nat.le_refl _
  rw [afz]
  have:=ih (by omega)
  omega
theorem ajH (c:List SQ) (U:List Bool) {a b m:Nat} (h:a<=m) (hm:m < b) (hk:kpt c U m=true):plc c U a < plc c U b:=by
 have h1:=ajG c U h;have h2:=afz c U m;rw [if_pos hk] at h2;have h3:=ajG c U (show m+1<=b by omega);omega
theorem Sbg.out {c:List SQ} {U:List Bool} (h9:c.length < 9223372036854775807) {n:Nat} (hn:n<=c.length):∀ (d p:Nat),p+d=n->Ev (fun k=>aca k (kps c U) (n:Int) (plc c U p:Int) (p:Int)) (plc c U n:Int)
 | 0,p,hp=>by
  refine Ev.succ ?_;simp only [aca];refine aa5 (Ev.eq Ev.pure ?_);rw [show p=n from by omega]
 | d+1,p,hp=>by
  refine Ev.succ ?_;have h1:=ajI c U p;have ih:=Sbg.out (U:=U) h9 hn d (p+1) (by omega);rw [afz] at ih;simp only [aca,abZ,adw,afS (show p < c.length by omega),aay (show p < 9223372036854775807 by omega),aay (show plc c U p < 9223372036854775807 by omega)];refine aa2 (aa2 (aa2 ?_));by_cases g:kpt c U p=true
  ·rw [if_pos g] at ih;exact aa2 ih
  rw [if_neg g] at ih;exact aa5 ih
theorem am1 {c:List SQ} {U:List Bool} (h9:c.length < 9223372036854775807) {n:Int} (h0:0<=n) (hn:n<=c.length):Ev (fun k=>Sbg.f k (kps c U) n) (plc c U n.toNat:Int):=by
 have:=Sbg.out (U:=U) h9 (n:=n.toNat) (by omega) n.toNat 0 (Nat.zero_add _)
 rw [Int.toNat_of_nonneg h0] at this;exact this
def sqQ (c:List SQ) (U:List Bool) (q:SQ):SQ:=if q.f0=4\/q.f0=5 then ⟨q.f0,q.f1,q.f2,q.f3,(plc c U q.f4.toNat:Int)⟩ else q
def sqU (c:List SQ) (U:List Bool) (p:Nat):List SQ:=((List.range p).filter (kpt c U)).map fun i=>sqQ c U (qa c i)
def sqC (c:List SQ) (U:List Bool):List SQ:=sqU c U c.length
theorem ajz (c:List SQ) (U:List Bool) (p:Nat):sqU c U (p+1)=sqU c U p ++ (if kpt c U p=true then [sqQ c U (qa c p)] else []):=by
 unfold sqU;rw [List.range_succ,List.filter_append,List.map_append]
 congr 1
 by_cases h:kpt c U p=true <;> simp [h]
theorem aiM (c:List SQ) (U:List Bool) (p:Nat):(sqU c U p).length=plc c U p:=by simp [sqU,plc]
theorem amu {c:List SQ} (h:CV (qs c)) {U:List Bool}:∀ (d p:Nat),p+d=c.length->Ev (fun k=>adi k c (sqU c U p) (kps c U) (p:Int)) (sqC c U,true)
 | 0,p,hp=>by
  refine Ev.succ ?_;simp only [adi];refine aa5 (Ev.eq Ev.pure ?_);rw [show p=c.length from by omega];rfl
 | d+1,p,hp=>by
  have h6:=abf h;have hi:p < c.length:=by omega
  refine Ev.succ ?_;have ih:=amu h (U:=U) d (p+1) (by omega);rw [ajz] at ih;have lt:(sqU c U p).length < 3518437208883:=by rw [aiM];have:=ajI c U p;omega
  simp only [adi,abZ,adw,afS hi,ac5,aay (show p < 9223372036854775807 by omega)];refine aa2 (aa2 (aa2 ?_));by_cases g:kpt c U p=true
  ·refine aa2 ?_;rw [if_pos g] at ih;by_cases c4:(qa c p).f0=4
   ·have n:=al6 h hi (.inl c4);refine aa2 (Ev.bind (am1 (by omega) n.1 (by omega)) (aa2 ?_ lt));rw [sqQ,if_pos (.inl c4)] at ih;exact ih
   refine aa5 ?_;by_cases c5:(qa c p).f0=5
   ·have n:=al6 h hi (.inr c5);refine aa2 (Ev.bind (am1 (by omega) n.1 (by omega)) (aa2 ?_ lt));rw [sqQ,if_pos (.inr c5)] at ih;exact ih
   refine aa5 (aa2 ?_ lt);rw [sqQ,if_neg (by omega)] at ih;exact ih
  rw [if_neg g,List.append_nil] at ih;exact aa5 ih
theorem Saw.one {c:List SQ} (h:CV (qs c)) {U:List Bool} (hU:U.length=c.length):∀ (d p:Nat),p+d=c.length->Ev (fun k=>adU k c [] ((kps c U).take p ++ U.drop p) (p:Int)) (sqC c U,true)
 | 0,p,hp=>by
  refine Ev.succ ?_;simp only [adU];refine aa5 ?_;rw [List.take_of_length_le (by rw [adw];omega),List.drop_eq_nil_of_le (by omega),List.append_nil];exact amu h c.length 0 (Nat.zero_add _)
 | d+1,p,hp=>by
  have h6:=abf h;have hi:p < c.length:=by omega
  have kl:=adw c U;have hl:=aiT (A:=kps c U) (B:=U) (by omega) (show p<=(kps c U).length by omega);have hg:=aiU false (A:=kps c U) (B:=U) (by omega) (show p<=(kps c U).length by omega);have hn:=ahz false (A:=kps c U) (B:=U) (by omega) (show p < (kps c U).length by omega);rw [afS hi] at hn;have ih:=Saw.one h hU d (p+1) (by omega);rw [<- hn] at ih;refine Ev.succ ?_;simp only [adU,abZ,hl,kl,hg,ac5,Int.toNat_natCast,aay (show p < 9223372036854775807 by omega)];refine aa2 (aa2 (aa2 ?_));by_cases g:U.getD p false=true
  ·refine aa2 (Ev.bind (aoo (qa c p) (by omega)) ?_);rw [kpt,g,Bool.true_and] at ih;exact ih
  refine aa5 ?_;rw [kpt,Bool.eq_false_iff.mpr g,Bool.false_and] at ih;exact ih
theorem aoA {c:List SQ} (h:CV (qs c)):∃ U,(RS c).Lfp U/\Ev (fun k=>Saw.f k c) (sqC c U,true):=by
 obtain⟨U,hU,hE⟩:=aoD h;refine⟨U,hU,?_⟩;simp only [Saw.f];exact aaP (Ev.bind (acZ c) (aa2 (Ev.bind hE (Saw.one h hU.1.1.1 c.length 0 (Nat.zero_add _))) (decide_eq_true h)))
theorem ak7 {c:List SQ} {U:List Bool} (hU:(RS c).Lfp U):U.getD 0 false=true:=hU.1.2.1 rfl
theorem aeQ {c:List SQ} {U:List Bool} (hU:(RS c).Lfp U) {i e:Nat} (hi:i < c.length) (g:U.getD i false=true) (he:e∈nx (q_ (qa c i)) i):U.getD e false=true:=by
 refine hU.1.2.2 i hi (e,true) ?_ rfl;show _∈(if U.getD i false=true then (nx (q_ (qa c i)) i).map fun e=>(e,true) else [])
 rw [if_pos g];exact List.mem_map.2 ⟨e,he,rfl⟩
theorem apm {c:List SQ} {i:Nat} (g:idle (qa c i) i=true):i+1∈nx (q_ (qa c i)) i:=by
 unfold idle at g;unfold nx;by_cases c4:(qa c i).f0=4
 ·rw [if_pos (.inl c4)] at g;have e:(qa c i).f4=((i+1:Nat):Int):=by simpa using g
  rw [if_neg (show ¬ (q_ (qa c i)).op=10 by show ¬ (qa c i).f0=10;omega),if_pos (show (q_ (qa c i)).op=4 from c4)];show i+1∈[(qa c i).f4.toNat]
  rw [e,Int.toNat_natCast]
  simp
 by_cases c5:(qa c i).f0=5
 ·rw [if_neg (show ¬ (q_ (qa c i)).op=10 by show ¬ (qa c i).f0=10;omega),if_neg (show ¬ (q_ (qa c i)).op=4 from c4),if_pos (show (q_ (qa c i)).op=5 from c5)];(repeat' split) <;> simp
 rw [if_neg (by omega)] at g
 have c2:(qa c i).f0=2:=by
  have:(qa c i).f0=2/\(qa c i).f1=(qa c i).f2:=by simpa using g
  exact this.1
 rw [if_neg (show ¬ (q_ (qa c i)).op=10 by show ¬ (qa c i).f0=10;omega),if_neg (show ¬ (q_ (qa c i)).op=4 from c4),if_neg (show ¬ (q_ (qa c i)).op=5 from c5)]
 simp
theorem ahw {c:List SQ} (h:CV (qs c)):idle (qa c (c.length - 1)) (c.length - 1)=false:=by
 have h6:=abf h;have hl:=ae3 h;unfold idle;rcases hl with hl|hl
 ·rw [if_neg (by omega)];simp [hl]
 rw [if_pos (.inl hl)]
 have:=al6 h (x:=c.length - 1) (by omega) (.inl hl)
 simp
 omega
/-- From what is reached on,some quad is kept. -/
theorem aeg {c:List SQ} (h:CV (qs c)) {U:List Bool} (hU:(RS c).Lfp U):∀ (d i:Nat),i+d=c.length - 1->i < c.length->U.getD i false=true->∃ m,i<=m/\m < c.length/\kpt c U m=true
 | 0,i,hd,hi,g=>⟨i,Nat.le_refl _,hi,by
  unfold kpt;rw [g,show i=c.length - 1 from by omega,ahw h]
  rfl⟩
 | d+1,i,hd,hi,g=>by
  by_cases x:idle (qa c i) i=true
  ·obtain⟨m,h1,h2,h3⟩:=aeg h hU d (i+1) (by omega) (by omega) (aeQ hU hi g (apm x));exact⟨m,by omega,h2,h3⟩
  refine⟨i,Nat.le_refl _,hi,?_⟩;unfold kpt;rw [g,Bool.eq_false_iff.mpr x];rfl
theorem ajP {c:List SQ} {U:List Bool} {i:Nat} (h:kpt c U i=true):U.getD i false=true/\idle (qa c i) i=false:=by
 unfold kpt at h;simpa using h
theorem arO {c:List SQ} (h:CV (qs c)) {i:Nat} (hi:i < c.length) (h4:(qa c i).f0=4\/(qa c i).f0=5):(qa c i).f4.toNat∈nx (q_ (qa c i)) i:=by
 have hn:=al6 h hi h4;unfold nx;rw [if_neg (show ¬ (q_ (qa c i)).op=10 by show ¬ (qa c i).f0=10;omega)];by_cases c4:(qa c i).f0=4
 ·rw [if_pos (show (q_ (qa c i)).op=4 from c4)];exact List.mem_singleton.2 rfl
 rw [if_neg (show ¬ (q_ (qa c i)).op=4 from c4),if_pos (show (q_ (qa c i)).op=5 by show (qa c i).f0=5;omega)];have e:(q_ (qa c i)).n=(qa c i).f4:=rfl;rw [e];split
 ·simp
 split
 ·simp
 simp
 omega
theorem agT {p:Nat->Bool}:∀ (n:Nat) {j:Nat},j < ((List.range n).filter p).length->∃ i,i < n/\p i=true/\((List.range n).filter p)[j]?=some i/\((List.range i).filter p).length=j
 | 0,j,h=>by simp at h
 | n+1,j,h=>by
  rw [List.range_succ,List.filter_append] at h ⊢;by_cases hj:j < ((List.range n).filter p).length
  ·obtain⟨i,h1,h2,h3,h4⟩:=agT (p:=p) n hj;exact⟨i,by omega,h2,by rw [List.getElem?_append_left hj];exact h3,h4⟩
  by_cases g:p n=true
  ·have e:List.filter p [n]=[n]:=by simp [g]
   rw [e,List.length_append,List.length_singleton] at h;refine⟨n,by omega,g,?_,by omega⟩;rw [e,List.getElem?_append_right (by omega),show j - ((List.range n).filter p).length=0 from by omega];rfl
  have e:List.filter p [n]=[]:=by simp [g]
  rw [e,List.append_nil] at h;omega
theorem akP {c:List SQ} {U:List Bool} {j:Nat} (h:j < (sqC c U).length):∃ i,i < c.length/\kpt c U i=true/\qa (sqC c U) j=sqQ c U (qa c i)/\plc c U i=j:=by
 have h':j < ((List.range c.length).filter (kpt c U)).length:=by
  unfold sqC sqU at h
  rwa [List.length_map] at h
 obtain⟨i,h1,h2,h3,h4⟩:=agT _ h';refine⟨i,h1,h2,?_,h4⟩;unfold qa sqC sqU;rw [List.getD_eq_getElem?_getD,List.getElem?_map,h3];rfl
theorem akO {c:List SQ} (h:CV (qs c)) {U:List Bool} (hU:(RS c).Lfp U):CV (qs (sqC c U)):=by
 have h6:=abf h;have hl:(sqC c U).length=plc c U c.length:=aiM c U _;have hle:=ajI c U c.length
 have h1:1<=(sqC c U).length:=by
  obtain⟨m,_,h2,h3⟩:=aeg h hU (c.length - 1) 0 (Nat.zero_add _) (by omega) (ak7 hU)
  have:=ajH c U (Nat.zero_le m) h2 h3
  omega
 refine alz h1 (by omega) (fun j hj=>?_) ?_
 ·obtain⟨i,hi,hk,e,_⟩:=akP hj;rw [e];have v:=abT h hi;unfold sqQ;split
  ·rename_i g
   have n:=al6 h hi g;obtain⟨m,m1,m2,m3⟩:=aeg h hU (c.length - 1 - (qa c i).f4.toNat) (qa c i).f4.toNat (by omega) (by omega) (aeQ hU hi (ajP hk).1 (arO h hi g));have lt:=ajH c U m1 m2 m3;have t:0<=(plc c U (qa c i).f4.toNat:Int)/\(plc c U (qa c i).f4.toNat:Int) < ((sqC c U).length:Int):=by omega
   rcases v with v|v|v | ⟨o,p1,p2,p3,_⟩ | ⟨o,p1,p2,p3,_⟩|v
   ·have:(qa c i).f0=1:=v.1
    omega
   ·have:(qa c i).f0=2:=v.1
    omega
   ·have:(qa c i).f0=3:=v.1
    omega
   ·exact .inr (.inr (.inr (.inl ⟨o,p1,p2,p3,t⟩)))
   ·exact .inr (.inr (.inr (.inr (.inl ⟨o,p1,p2,p3,t⟩))))
   have:¬ ((qa c i).f0=4\/(qa c i).f0=5):=by
    simp only [q_] at v;omega
   exact absurd g this
  rename_i g
  rcases v with v|v|v|v|v|v
  ·exact .inl v
  ·exact .inr (.inl v)
  ·exact .inr (.inr (.inl v))
  ·exact absurd (.inl v.1) g
  ·exact absurd (.inr v.1) g
  exact .inr (.inr (.inr (.inr (.inr v))))
 obtain⟨i,hi,hk,e,hj⟩:=akP (c:=c) (U:=U) (j:=(sqC c U).length - 1) (by omega);rw [e]
 have key:(qa c i).f0=10\/(qa c i).f0=4:=by
  apply Classical.byContradiction
  intro x
  have hn:i+1∈nx (q_ (qa c i)) i:=by
   unfold nx;rw [if_neg (show ¬ (q_ (qa c i)).op=10 from fun y=>x (.inl y)),if_neg (show ¬ (q_ (qa c i)).op=4 from fun y=>x (.inr y))];(repeat' split) <;> simp
  have lt:=ajJ h hi hn;obtain⟨m,m1,m2,m3⟩:=aeg h hU (c.length - 1 - (i+1)) (i+1) (by omega) lt (aeQ hU hi (ajP hk).1 hn);have l1:=ajH c U (Nat.le_refl i) (Nat.lt_succ_self i) hk;have l2:=ajH c U m1 m2 m3
  have:plc c U (i+1)<=plc c U c.length - 1:=by omega
  have e1:=afz c U i;rw [if_pos hk] at e1;omega
 have eo:(sqQ c U (qa c i)).f0=(qa c i).f0:=by
  unfold sqQ;split <;> rfl
 rw [eo];exact key
end Go.Proofs.YtdkkdiiceaomaaaGreat.M
namespace Go.Proofs.YtdkkdiiceaomaaaGreat.M
open Go.Proofs.Tryz Go.RowKit Go.Proofs.YtdkkdiiceaomaaaGreatW.PrintWords Go.Proofs.YtdkkdiiceaomaaaGreatW.PrintLast Go.Proofs.YtdkkdiiceaomaaaGreatW.PrintMore
attribute [local go_sem] aas aaq aaH aaG aaj aai aar aap
attribute [local go_sem high] alu
end Go.Proofs.YtdkkdiiceaomaaaGreat.M
namespace Go.Proofs.YtdkkdiiceaomaaaGreat.M
open Go.Proofs.Tryz Go.RowKit Go.Proofs.YtdkkdiiceaomaaaGreatW.PrintWords Go.Proofs.YtdkkdiiceaomaaaGreatW.PrintLast Go.Proofs.YtdkkdiiceaomaaaGreatW.PrintMore PM
/-- A row of facts,its numbers one after the other. -/
def fl:List SF->List Int
 | []=>[]
 | f :: x=>f.f0 :: f.f1 :: fl x
theorem aln:∀ x:List SF,(fl x).length=2*x.length
 | []=>rfl
 | f :: x=>by simp only [fl,List.length_cons,aln x];omega
theorem alo:∀ (x:List SF) (r:Nat),(fl x).getD (2*r) 0=(fa x r).f0/\(fl x).getD (2*r+1) 0=(fa x r).f1
 | [],r=>by simp [fl,fa,zF]
 | f :: x,0=>by simp [fl,fa]
 | f :: x,r+1=>by
  have:=alo x r
  rw [show 2*(r+1)=2*r+1+1 from by omega];simpa [fl,fa] using this
/-- The cells of numbers. -/
abbrev ics (m:List Int):Array Value:=(encs (Value.int .i64) m).toArray
theorem adJ (m:List Int):(ics m).size=m.length:=by simp [encs]
theorem ahC {m:List Int} {i:Nat} (h:i < m.length):(ics m)[i]?=some (iV (m.getD i 0)):=by simp [encs,List.getD_eq_getElem?_getD,List.getElem?_eq_getElem h]
theorem aj4 (m:List Int):(ics m).all (·.oneCell')=true:=all_oneCell_toArray fun v hv=>by
 simp only [encs,List.mem_map] at hv;obtain⟨n,_,rfl⟩:=hv;rfl
theorem afC {w:World} {g t:Nat} {m:List Int} (h:w.heap[g]?=some (.cells (ics m) t (0,0))) {i:Nat} (hi:i < m.length):w.cell? ⟨g,i,none⟩=some (iV (m.getD i 0)):=(aa3 h i).trans (ahC hi)
theorem agM {w:World} {g t:Nat} {m:List Int} (h:w.heap[g]?=some (.cells (ics m) t (0,0))) (o n:Nat):w.rangeAt g o (encs (Value.int .i64) ((m.drop o).take n)):=fun j v hv=>by
 have hj:j < (encs (Value.int .i64) ((m.drop o).take n)).length:=(List.getElem?_eq_some_iff.1 hv).1;simp only [encs,List.length_map,List.length_take,List.length_drop] at hj;rw [afC h (show o+j < m.length by omega)];rw [<- hv];simp only [encs,List.getElem?_map,List.getElem?_take,List.getElem?_drop,List.getD_eq_getElem?_getD];rw [if_pos (by omega),List.getElem?_eq_getElem (by omega)];rfl
theorem abC {w:World} {g t:Nat} {m:List Int} (h:w.heap[g]?=some (.cells (ics m) t (0,0))):w.rangeAt g 0 (encs (Value.int .i64) m):=by
 have:=agM h 0 m.length
 rwa [List.drop_zero,List.take_length] at this
theorem aeO {w:World} {g t:Nat} {m:List Int} (h:w.heap[g]?=some (.cells (ics m) t (0,0))) {o n:Nat} (hn:o+n<=m.length):w.there g o n:=fun j hj=>by
 refine⟨by rw [afC h (by omega)];rfl,aa6 h _⟩
/-- Numbers in place of those from a place on. -/
def over (m:List Int) (o:Nat) (r:List Int):List Int:=m.take o ++ r ++ m.drop (o+r.length)
theorem abQ {t g:Nat}:∀ (r:List Int) (o:Nat) (m:List Int) (w:World),w.heap[g]?=some (.cells (ics m) t (0,0))->o+r.length<=m.length->(w.setCells g o (encs (Value.int .i64) r)).heap[g]?=some (.cells (ics (over m o r)) t (0,0))
 | [],o,m,w,h,hn=>by
  have:over m o []=m:=by simp [over]
  rw [this];exact h
 | a :: r,o,m,w,h,hn=>by
  rw [List.length_cons] at hn
  have h1:(w.setCell ⟨g,o,none⟩ (iV a)).heap[g]?=some (.cells (ics (m.set o a)) t (0,0)):=by
   rw [aeX h]
   congr 1
   simp [encs,List.map_set]
  have:=abQ r (o+1) (m.set o a) _ h1 (by rw [List.length_set];omega)
  have e:over (m.set o a) (o+1) r=over m o (a :: r):=by
   unfold over;rw [List.length_cons,show o+(r.length+1)=o+1+r.length from by omega,List.drop_set_of_lt (by omega)]
   congr 1
   rw [List.take_set,List.take_add_one,List.getElem?_eq_getElem (by omega)];rw [List.set_append_right _ _ (by rw [List.length_take];omega),List.length_take,show o - min o m.length=0 from by omega]
   simp
  rw [e] at this;exact this
theorem acK {g:Nat} {w0:World} (hg:w0.heap.size<=g):∀ (r:List Value) (o:Nat) (w:World),Below w0.heap.size w0 w->Below w0.heap.size w0 (w.setCells g o r)
 | [],o,w,h=>h
 | a :: r,o,w,h=>acK hg r (o+1) _ (aad h hg)
theorem abN {g g':Nat} (hne:g'≠g) {cs:Array Value} {t:TypeId}:∀ (r:List Value) (o:Nat) (w:World),w.heap[g']?=some (.cells cs t (0,0))->(w.setCells g o r).heap[g']?=some (.cells cs t (0,0))
 | [],o,w,h=>h
 | a :: r,o,w,h=>abN hne r (o+1) _ (acp h (p:=⟨g,o,none⟩) hne _)
theorem aj9 {g g':Nat} {w w':World} {o:Nat} {r:List Value} (hw:w'=w.setCells g o r) (hne:g'≠g) {cs:Array Value} {t:TypeId} (h:w.heap[g']?=some (.cells cs t (0,0))):w'.heap[g']?=some (.cells cs t (0,0)):=by
 rw [hw];exact abN hne r o w h
theorem ac7 {g:Nat} {w0 w w':World} {o:Nat} {r:List Value} (hw:w'=w.setCells g o r) (hg:w0.heap.size<=g) (h:Below w0.heap.size w0 w):Below w0.heap.size w0 w':=by
 rw [hw];exact acK hg r o w h
theorem ady {w:World} {g t:Nat} {a0 a1 a2 a3 a4:Value} (h:w.heap[g]?=some (.cells #[a0,a1,a2,a3,a4] t (0,0))):w.cell? ⟨g,0,none⟩=some a0/\w.cell? ⟨g,1,none⟩=some a1/\w.cell? ⟨g,2,none⟩=some a2/\w.cell? ⟨g,3,none⟩=some a3/\w.cell? ⟨g,4,none⟩=some a4:=⟨(aa3 h 0).trans rfl,(aa3 h 1).trans rfl,(aa3 h 2).trans rfl,(aa3 h 3).trans rfl,(aa3 h 4).trans rfl⟩
abbrev T12:TypeId:=56
section
variable {ops:Array Oper} {rest:List Oper} {op:Oper} {a:Act} {Q:Exit->Act->World->Prop}
end
theorem abJ {m r:List Int} (h:r.length=m.length):over m 0 r=r:=by
 unfold over;rw [List.take_zero,List.nil_append,List.drop_eq_nil_of_le (by omega),List.append_nil]
theorem ar4 {c:List SQ} (h:CV (qs c)) {i:Nat} (hi:i < c.length) (w:World) :
  Calls prog 65 #[.agg #[iV (qa c i).f0,iV (qa c i).f1,iV (qa c i).f2,iV (qa c i).f3,iV (qa c i).f4],iV (i:Int)] w fun e w'=>∃ v,e = .returned v/\Kd.R (Kd.int .i64) 3 w' w.heap.size (fun _=>True) v (ints (nx (q_ (qa c i)) i))/\Below w.heap.size w w':=by
 obtain⟨k,hk⟩:=(aoL h hi).get;exact an0 k _ _ _ _ _ _ _ _ hk
def aiK (U:List (List SF)):Prop:=∀ x∈U,x.length=12
theorem aiK.tail {x:List SF} {U:List (List SF)} (h:aiK (x :: U)):aiK U:=fun y hy=>h y (List.mem_cons_of_mem _ hy)
theorem aiK.head {x:List SF} {U:List (List SF)} (h:aiK (x :: U)):(fl x).length=24:=by rw [aln,h x List.mem_cons_self]
theorem aiK.set {U:List (List SF)} (h:aiK U) (i:Nat) {v:List SF} (hv:v.length=12):aiK (U.set i v):=fun y hy=>by
 rcases List.mem_or_eq_of_mem_set hy with m|m
 ·exact h y m
 rw [m];exact hv
theorem ahj {α:Type} {d:Kd α} {e base g:Nat} {ok:Nat->Prop} {v:Value} {xs:List α} (hg:∀ k,ok k->k≠g):∀ (r:List Value) (o:Nat) {w:World},d.R e w base ok v xs->d.R e (w.setCells g o r) base ok v xs
 | [],o,w,h=>h
 | a :: r,o,w,h=>ahj hg r (o+1) (Kd.R_far (p:=⟨g,o,none⟩) h hg a)
theorem ac4 {α:Type} {d:Kd α} {e base g o:Nat} {ok:Nat->Prop} {v:Value} {xs:List α} {r:List Value} {w w':World} (hw:w'=w.setCells g o r) (hg:∀ k,ok k->k≠g) (h:d.R e w base ok v xs):d.R e w' base ok v xs:=by
 rw [hw];exact ahj hg r o h
def ca (l:List Int) (r:Nat):Int:=l.getD r 0
theorem abE (f:Nat->Int) {r:Nat} (h:r < 12):ca (ahU f) r=f r:=afA _ _ h
theorem agV {l:List Int} (hl:l.length=12) {s r:Nat} (hs:s < 12) (v:Int):ca (l.set s v) r=if r=s then v else ca l r:=adb l s r v 0 (by omega)
theorem abS {a b:List Int} (ha:a.length=12) (hb:b.length=12) (h:∀ r,r < 12->ca a r=ca b r):a=b:=aid 0 ha hb h
theorem al8 {α:Type} (f:Nat->α):ahU f≠[]:=fun e=>by have:=aaf f;rw [e] at this;simp at this
def okC (l:List Int):Prop:=l=[]\/(l.length=12/\∀ r,r < 12->0<=ca l r/\ca l r < 12)
def leC (a b:List Int):Prop:=a=[]\/(b≠[]/\∀ r:Nat,r < 12->ca b r=ca a r\/ca b r=r)
def jC (a b:List Int):List Int:=if a=[] then b else if b=[] then a else ahU fun r=>if ca a r=ca b r then ca a r else r
def acP:List Int:=ahU fun r=>(r:Int)
def aeZ (q:Q) (x:List Int):List Int:=if sets q < 0 then x else ahU fun r=>if (r:Int)=sets q then (if q.op=2 then q.a else r) else if ca x r=sets q then r else ca x r
def rkC (x:List Int):Nat:=if x=[] then 0 else 1+sumTo (fun r=>if ca x r=r then 1 else 0) 12
def CS (c:List SQ):Sys (List Int) where
 n:=c.length
 ok:=okC
 le:=leC
 jn:=jC
 out:=fun i x=>if x=[] then [] else (nx (q_ (qa c i)) i).map fun e=>(e,aeZ (q_ (qa c i)) x)
 rk:=rkC
 top:=13
 d:=[]
 ini:=acP
theorem abM {l:List Int} (h:okC l) (g:l≠[]):l.length=12/\∀ r,r < 12->0<=ca l r/\ca l r < 12:=by
 rcases h with h|h
 ·exact absurd h g
 exact h
theorem aeY {q:Q} {m:Int} (h:QV q m) {x:List Int} (hx:okC x) (g:x≠[]):okC (aeZ q x)/\aeZ q x≠[]:=by
 unfold aeZ;split
 ·exact⟨hx,g⟩
 refine⟨.inr ⟨aaf _,fun r hr=>?_⟩,al8 _⟩;have k:=(abM hx g).2 r hr;obtain⟨_,⟨a0,a1⟩,_⟩:=abL h;rw [abE _ hr];(repeat' split) <;> omega
theorem alL {q:Q} {m:Int} (h:QV q m) {x y:List Int} (hx:okC x) (hy:okC y) (g:x≠[]) (g':y≠[]) (hl:leC x y):leC (aeZ q x) (aeZ q y):=by
 rcases hl with hl|hl
 ·exact absurd hl g
 refine .inr ⟨(aeY h hy g').2,fun r hr=>?_⟩;have k:=hl.2 r hr;unfold aeZ;split
 ·exact k
 rw [abE _ hr,abE _ hr];by_cases e:(r:Int)=sets q
 ·rw [if_pos e,if_pos e];exact .inl rfl
 rw [if_neg e,if_neg e];rcases k with k|k
 ·rw [k];exact .inl rfl
 rw [k,if_neg e];exact .inr rfl
theorem afB {a b:List Int} (h:leC a b) (g:a≠[]):b≠[]:=by
 rcases h with h|h
 ·exact absurd h g
 exact h.1
theorem aj2 {a b:List Int} (ha:a≠[]):jC a b≠[]:=by
 unfold jC;rw [if_neg ha];split
 ·exact ha
 exact al8 _
theorem ajN (a:List Int):leC a a:=by
 by_cases h:a=[]
 ·exact .inl h
 exact .inr ⟨h,fun r _=>.inl rfl⟩
theorem abB {c:List SQ} (h:CV (qs c)):(CS c).Laws where
 refl:=fun a _=>ajN a
 trans:=fun a b c _ _ _ h g=>by
  rcases h with h|h
  ·exact .inl h
  rcases g with g|g
  ·exact absurd g h.1
  refine .inr ⟨g.1,fun r hr=>?_⟩;rcases g.2 r hr with x|x
  ·rw [x];exact h.2 r hr
  exact .inr x
 anti:=fun a b ha hb h g=>by
  by_cases ea:a=[]
  ·rcases g with g|g
   ·rw [ea,g]
   exact absurd ea g.1
  have eb:=afB h ea;rcases h with h|h
  ·exact absurd h ea
  rcases g with g|g
  ·exact absurd g eb
  refine abS (abM ha ea).1 (abM hb eb).1 fun r hr=>?_
  rcases h.2 r hr with x|x
  ·exact x.symm
  rcases g.2 r hr with y|y
  ·exact y
  omega
 ub1:=fun a b ha hb=>by
  show leC a (jC a b)
  by_cases ea:a=[]
  ·exact .inl ea
  refine .inr ⟨aj2 ea,fun r hr=>?_⟩;unfold jC;rw [if_neg ea];split
  ·exact .inl rfl
  rw [abE _ hr];split
  ·exact .inl rfl
  exact .inr rfl
 ub2:=fun a b ha hb=>by
  show leC b (jC a b)
  by_cases eb:b=[]
  ·exact .inl eb
  by_cases ea:a=[]
  ·unfold jC;rw [if_pos ea];exact ajN b
  refine .inr ⟨aj2 ea,fun r hr=>?_⟩;unfold jC;rw [if_neg ea,if_neg eb,abE _ hr];split
  ·rename_i x
   exact .inl x
  exact .inr rfl
 lub:=fun a b c ha hb hc h g=>by
  show leC (jC a b) c
  by_cases ea:a=[]
  ·unfold jC
   rwa [if_pos ea]
  by_cases eb:b=[]
  ·unfold jC
   rwa [if_neg ea,if_pos eb]
  refine .inr ⟨afB h ea,fun r hr=>?_⟩;rcases h with h|h
  ·exact absurd h ea
  rcases g with g|g
  ·exact absurd g eb
  unfold jC;rw [if_neg ea,if_neg eb,abE _ hr];have k:=h.2 r hr;have k':=g.2 r hr;split <;> omega
 okj:=fun a b ha hb=>by
  show okC (jC a b)
  unfold jC;split
  ·exact hb
  split
  ·exact ha
  rename_i ea eb
  refine .inr ⟨aaf _,fun r hr=>?_⟩;rw [abE _ hr]
  have:=(abM ha ea).2 r hr
  split <;> omega
 oko:=fun i x hi hx p hp=>by
  have hp':p∈(if x=[] then [] else (nx (q_ (qa c i)) i).map fun e=>(e,aeZ (q_ (qa c i)) x)):=hp;split at hp'
  ·simp at hp'
  rename_i g
  obtain⟨e,he,rfl⟩:=List.mem_map.1 hp';have n:=nx_lt h (i:=i) (j:=e) (by rw [ab5];exact hi) (by rw [acC];exact he);rw [ab5] at n;exact⟨n,(aeY (abT h hi) hx g).1⟩
 mono:=fun i x y hi hx hy hl p hp=>by
  have hp':p∈(if x=[] then [] else (nx (q_ (qa c i)) i).map fun e=>(e,aeZ (q_ (qa c i)) x)):=hp;split at hp'
  ·simp at hp'
  rename_i g
  obtain⟨e,he,rfl⟩:=List.mem_map.1 hp';have g':=afB hl g;refine⟨aeZ (q_ (qa c i)) y,?_,alL (abT h hi) hx hy g g' hl⟩;show _∈(if y=[] then [] else (nx (q_ (qa c i)) i).map fun e=>(e,aeZ (q_ (qa c i)) y))
  rw [if_neg g'];exact List.mem_map.2 ⟨e,he,rfl⟩
 rank:=fun a b ha hb hl ne=>by
  show rkC a < rkC b
  unfold rkC;by_cases ea:a=[]
  ·have eb:b≠[]:=fun x=>ne (by rw [ea,x])
   rw [if_pos ea,if_neg eb];omega
  have eb:=afB hl ea;rw [if_neg ea,if_neg eb];rcases hl with hl|hl
  ·exact absurd hl ea
  have k:∃ r,r < 12/\ca a r≠ca b r:=by
   apply Classical.byContradiction
   intro x;exact ne (abS (abM ha ea).1 (abM hb eb).1 fun r hr=>Classical.byContradiction fun y=>x ⟨r,hr,y⟩)
  obtain⟨r,hr,hne⟩:=k
  have:=ahm (f:=fun r=>if ca a r=r then 1 else 0) (g:=fun r=>if ca b r=r then 1 else 0) 12 (fun r hr=>by
   have:=hl.2 r hr
   split <;> split <;> omega) r hr (by
   have:=hl.2 r hr
   rw [if_neg (by omega),if_pos (by omega)]
   omega)
  omega
 rtop:=fun a ha=>by
  show rkC a<=13
  unfold rkC;split
  ·omega
  have:=sumTo_le (f:=fun r=>if ca a r=r then 1 else 0) (g:=fun _=>1) 12 (fun r hr=>by split <;> omega)
  rw [adZ] at this;omega
 okd:=.inl rfl
 oki:=.inr ⟨aaf _,fun r hr=>by
  show 0<=ca (ahU fun r=>(r:Int)) r/\ca (ahU fun r=>(r:Int)) r < 12
  rw [abE _ hr]
  omega⟩
 bot:=fun a _=>.inl rfl
 outd:=fun i=>by
  show (if ([]:List Int)=[] then ([]:List (Nat × List Int)) else (nx (q_ (qa c i)) i).map fun e=>(e,aeZ (q_ (qa c i)) []))=[]
  exact if_pos rfl
 pos:=(abf h).1
 inid:=al8 _
theorem ap4 (x:List Int) (r:Nat):rd x (r:Int)=ca x r:=ajE x r
theorem ajF (x:List Int) {i:Int} (h:0<=i):rd x i=ca x i.toNat:=by rw [<- ap4,Int.toNat_of_nonneg h]
theorem Sbd.out:∀ (d p:Nat),p+d=12->Ev (fun k=>acT k (acP.take p) (p:Int)) acP
 | 0,p,hp=>by
  refine Ev.succ ?_;simp only [acT];refine aa5 (Ev.eq Ev.pure ?_);rw [List.take_of_length_le (by show (ahU _).length<=p;rw [aaf];omega)]
 | d+1,p,hp=>by
  refine Ev.succ ?_;have hl:acP.length=12:=aaf _
  have e:acP.take p ++ [(p:Int)]=acP.take (p+1):=by
   rw [<- ac1 0 (show p < acP.length by omega)]
   congr 2
   exact (abE _ (show p < 12 by omega)).symm
  simp only [acT,e,aay (show p < 9223372036854775807 by omega)];refine aa2 (aa2 (Sbd.out d (p+1) (by omega)) (by rw [List.length_take];omega))
theorem aop:Ev (fun k=>aji k) acP:=Sbd.out 12 0 rfl
/-- What is a copy of s is none,below p. -/
def ajd (s:Int) (p:Nat) (x:List Int):List Int:=ahU fun r=>if r < p/\ca x r=s then (r:Int) else ca x r
theorem Sb9.out {q:Q} {s:Nat} (hs:s < 12) {x:List Int} (hx:x.length=12) (hq:sets q=s):∀ (d p:Nat),p+d=12->Ev (fun k=>acV k (ajd s p x) (s:Int) (p:Int) q.op q.dst q.a q.b q.n) (aeZ q x)
 | 0,p,hp=>by
  have:p=12:=by omega
  subst this;refine Ev.succ ?_;have hl:(ajd s 12 x).length=12:=aaf _;simp only [acV,hl,Int.toNat_natCast,List.set_set];refine aa5 (aa2 (aa2 (aaP ?_)))
  have key:∀ v:Int,v=(if q.op=2 then q.a else (s:Int))->(ajd s 12 x).set s v=aeZ q x:=by
   intro v hv;unfold aeZ;rw [hq,if_neg (by omega)];refine abS (by rw [List.length_set];exact hl) (aaf _) fun r hr=>?_
   rw [agV hl hs,abE _ hr];by_cases e:r=s
   ·rw [if_pos e,if_pos (by omega),hv,e]
   rw [if_neg e,if_neg (by omega)];unfold ajd;rw [abE _ hr];by_cases g:ca x r=s
   ·rw [if_pos ⟨hr,g⟩,if_pos g]
   rw [if_neg (fun y=>g y.2),if_neg g]
  by_cases c2:q.op=2
  ·refine aa2 (Ev.eq Ev.pure ?_);simp only [List.set_set];exact key _ (by rw [if_pos c2])
  refine aa5 (Ev.eq Ev.pure ?_);exact key _ (by rw [if_neg c2])
 | d+1,p,hp=>by
  refine Ev.succ ?_;have hl:(ajd s p x).length=12:=aaf _;have aa:p < 12:=by omega
  have hc:ca (ajd s p x) p=ca x p:=by
   unfold ajd;rw [abE _ aa,if_neg (by omega)]
  simp only [acV,hl,ap4,hc,Int.toNat_natCast,aay (show p < 9223372036854775807 by omega)];refine aa2 (aa2 (aa2 ?_));by_cases g:ca x p=s
  ·refine aa2 ?_
   have e:(ajd s p x).set p (p:Int)=ajd s (p+1) x:=by
    refine abS (by rw [List.length_set];exact hl) (aaf _) fun r hr=>?_
    rw [agV hl aa];unfold ajd;rw [abE _ hr,abE _ hr];by_cases er:r=p
    ·rw [if_pos er,if_pos ⟨by omega,by rw [er];exact g⟩,er]
    rw [if_neg er];by_cases l:r < p/\ca x r=s
    ·rw [if_pos l,if_pos ⟨by omega,l.2⟩]
    rw [if_neg l,if_neg (fun y=>l ⟨by omega,y.2⟩)]
   rw [e];exact Sb9.out hs hx hq d (p+1) (by omega)
  refine aa5 ?_
  have e:ajd s p x=ajd s (p+1) x:=by
   refine abS hl (aaf _) fun r hr=>?_
   unfold ajd;rw [abE _ hr,abE _ hr];by_cases l:r < p/\ca x r=s
   ·rw [if_pos l,if_pos ⟨by omega,l.2⟩]
   rw [if_neg l,if_neg (fun y=>l ⟨by
    have:r≠p:=fun e=>g (by rw [<- e];exact y.2)
    omega,y.2⟩)]
  rw [e];exact Sb9.out hs hx hq d (p+1) (by omega)
theorem aqp {q:Q} (h:QV q 600) {x:List Int} (hx:okC x) (g:x≠[]):Ev (fun k=>aiv k q.op q.dst q.a q.b q.n x) (aeZ q x):=by
 have hl:=(abM hx g).1;have hs:=anb h;simp only [aiv,aqK h,List.nil_append];refine aaP (aa2 (aaP (aaP ?_)) (by simp [hl]));simp only [List.nil_append];by_cases c:sets q < 0
 ·refine aa2 (Ev.eq Ev.pure ?_);unfold aeZ;rw [if_pos c]
 refine aa5 ?_;have e:sets q=((sets q).toNat:Int):=by omega
 have o:=Sb9.out hs hl e 12 0 rfl
 have e0:ajd ((sets q).toNat:Int) 0 x=x:=abS (aaf _) hl fun r hr=>by
  unfold ajd;rw [abE _ hr,if_neg (by omega)]
 rw [e0,<- e] at o;exact o
/-- The first p copies of a row met. -/
def mP (p:Nat) (a v:List Int):List Int:=ahU fun r=>if r < p then (if ca a r=ca v r then ca a r else (r:Int)) else ca a r
theorem afq (p:Nat) (a v:List Int) {r:Nat} (h:r < 12):ca (mP p a v) r=if r < p then (if ca a r=ca v r then ca a r else (r:Int)) else ca a r:=afA _ _ h
theorem al9 (p:Nat) (hp:p < 12) (a v:List Int) (z:Int) (hz:z=if ca a p=ca v p then ca a p else (p:Int)):(mP p a v).set p z=mP (p+1) a v:=by
 refine abS (by rw [List.length_set];exact aaf _) (aaf _) fun r hr=>?_
 rw [agV (l:=mP p a v) (aaf _) hp,afq _ _ _ hr,afq _ _ _ hr];by_cases e:r=p
 ·rw [if_pos e,if_pos (by omega),e,hz]
 rw [if_neg e];by_cases l:r < p
 ·rw [if_pos l,if_pos (show r < p+1 by omega)]
 rw [if_neg l,if_neg (show ¬ r < p+1 by omega)]
theorem aiW (p:Nat) (hp:p < 12) {a v:List Int} (h:ca a p=p\/ca a p=ca v p):mP p a v=mP (p+1) a v:=by
 refine abS (aaf _) (aaf _) fun r hr=>?_
 rw [afq _ _ _ hr,afq _ _ _ hr];by_cases e:r=p
 ·subst e;rw [if_neg (by omega),if_pos (by omega)];split <;> omega
 by_cases l:r < p
 ·rw [if_pos l,if_pos (show r < p+1 by omega)]
 rw [if_neg l,if_neg (show ¬ r < p+1 by omega)]
theorem Sba.out {T:List (List Int)} {e:Nat} (he:e < T.length) (h9:T.length < 9223372036854775807) {a v:List Int} (hv:v.length=12):∀ (d p:Nat) (b:Bool),p+d=12->Ev (fun k=>acH k (T.set e (mP p a v)) (e:Int) v b (p:Int)) (b || !decide (mP 12 a v=mP p a v),T.set e (mP 12 a v))
 | 0,p,b,hp=>by
  refine Ev.succ ?_;simp only [acH];refine aa5 (Ev.eq Ev.pure ?_);rw [show p=12 from by omega]
  simp
 | d+1,p,b,hp=>by
  refine Ev.succ ?_;have aa:p < 12:=by omega
  have hr:ab1 (T.set e (mP p a v)) (e:Int)=mP p a v:=by
   unfold ab1;rw [Int.toNat_natCast];exact akS he _
  have hL:(mP p a v).length=12:=aaf _;simp only [acH,hr,ap4,List.length_set,hL,hv,afq p a v aa,if_neg (Nat.lt_irrefl p),aay (show p < 9223372036854775807 by omega),Int.toNat_natCast,List.set_set];refine aa2 (aa2 (aa2 (aa2 (aa2 ?_))));by_cases g:ca a p=p
  ·refine aa2 ?_;rw [aiW p aa (.inl g)];exact Sba.out he h9 hv d (p+1) b (by omega)
  refine aa5 (aa2 ?_);by_cases g2:ca a p=ca v p
  ·refine aa2 ?_;rw [aiW p aa (.inr g2)];exact Sba.out he h9 hv d (p+1) b (by omega)
  refine aa5 ?_
  have:=Sba.out he h9 (a:=a) hv d (p+1) true (by omega)
  rw [<- al9 p aa a v (p:Int) (by rw [if_neg g2])] at this;refine Ev.eq this ?_
  have ne:¬ mP 12 a v=mP p a v:=by
   intro x;have y:ca (mP 12 a v) p=ca (mP p a v) p:=by rw [x]
   rw [afq _ _ _ aa,afq _ _ _ aa,if_neg (Nat.lt_irrefl p),if_pos aa,if_neg g2] at y;exact g y.symm
  rw [decide_eq_false ne]
  simp
theorem aqo {T:List (List Int)} {e:Nat} (he:e < T.length) (h9:T.length < 9223372036854775807) {a v:List Int} (ha:okC a) (hv:okC v) (gv:v≠[]) (hT:T.getD e []=a):Ev (fun k=>Sba.f k T (e:Int) v) (!decide (jC a v=a),T.set e (jC a v)):=by
 have hr:ab1 T (e:Int)=a:=by
  unfold ab1;rw [Int.toNat_natCast];exact hT
 have lv:=(abM hv gv).1;simp only [Sba.f,hr,Int.toNat_natCast];refine aa2 (aa2 ?_);by_cases ea:a=[]
 ·subst ea;refine aa2 (aaP (aa2 (Ev.eq Ev.pure ?_) (by simp [lv]))) (by simp);have ej:jC [] v=v:=if_pos rfl;rw [ej,decide_eq_false gv]
  simp
 have la:=(abM ha ea).1;refine aa5 ?_ (by rw [la];decide);have o:=Sba.out he h9 (a:=a) lv 12 0 false rfl;have e0:mP 0 a v=a:=abS (aaf _) la fun r hr=>by rw [afq _ _ _ hr,if_neg (by omega)]
 have e1:mP 12 a v=jC a v:=by
  unfold jC;rw [if_neg ea,if_neg gv];refine abS (aaf _) (aaf _) fun r hr=>?_
  rw [afq _ _ _ hr,if_pos hr,abE _ hr]
 rw [e0,e1] at o
 have hs:T.set e a=T:=by
  rw [<- hT];apply List.ext_getElem (by simp)
  intro i h1 h2;rw [List.getElem_set];split
  ·rename_i x
   subst x;rw [List.getD_eq_getElem?_getD,List.getElem?_eq_getElem he];rfl
  rfl
 rw [hs] at o;refine Ev.eq o ?_;rw [Bool.false_or]
theorem arJ {c:List SQ} {T:List (List Int)} {e:Nat}:(CS c).at' T e=T.getD e []:=rfl
theorem aoq {c:List SQ} (h:CV (qs c)) {i:Nat} (hi:i < c.length) {v:List Int} (hv:okC v) (gv:v≠[]) {es:List Nat} (hl:es.length < 1000) (he:∀ e∈es,e < c.length) {R:Bool × List (List Int)}:∀ (d p:Nat) (T:List (List Int)) (b:Bool),p+d=es.length->(CS c).St T->Ev (fun k=>acs k c (Sys.pass (CS c) ((es.drop p).map fun e=>(e,v)) T b).1 (Sys.pass (CS c) ((es.drop p).map fun e=>(e,v)) T b).2 ((i+1:Nat):Int)) R->Ev (fun k=>acU k c T b (i:Int) (ints es) v (p:Int)) R
 | 0,p,T,b,hp,hT,g=>by
  refine Ev.succ ?_;have h6:=abf h;rw [List.drop_eq_nil_of_le (by omega)] at g;simp only [acU,ab2,aay (show i < 9223372036854775807 by omega)];exact aa5 g
 | d+1,p,T,b,hp,hT,g=>by
  refine Ev.succ ?_;have h6:=abf h;have hm:es.getD p 0 < c.length:=he _ (adc (by omega));have hn:T.length=c.length:=hT.1;have hc:=aqo (T:=T) (e:=es.getD p 0) (by omega) (by omega) (a:=(CS c).at' T (es.getD p 0)) (hT.2 _ hm) hv gv rfl;rw [aco 0 (show p < es.length by omega)] at g;have hT':=Sys.put_st (abB h) hT (p:=(es.getD p 0,v)) hm hv;simp only [acU,ab2,ad8,aay (show p < 9223372036854775807 by omega)];refine aa2 (aa2 (Ev.bind hc ?_));have go:=fun b'=>aoq h hi hv gv hl he (R:=R) d (p+1) (Sys.put (CS c) T (es.getD p 0,v)) b' (by omega) hT'
  by_cases e:jC ((CS c).at' T (es.getD p 0)) v=(CS c).at' T (es.getD p 0)
  ·rw [decide_eq_true e];refine aa5 (go b ?_)
   have:=g
   simp only [List.map_cons,Sys.pass] at this
   rwa [show decide ((CS c).jn ((CS c).at' T (es.getD p 0)) v=(CS c).at' T (es.getD p 0))=true from decide_eq_true e,Bool.not_true,Bool.or_false] at this
  rw [decide_eq_false e];refine aa2 (go true ?_)
  have:=g
  simp only [List.map_cons,Sys.pass] at this
  rwa [show decide ((CS c).jn ((CS c).at' T (es.getD p 0)) v=(CS c).at' T (es.getD p 0))=false from decide_eq_false e,Bool.not_false,Bool.or_true] at this
theorem Sbc.out {c:List SQ} (h:CV (qs c)):∀ (d:Nat),d<=c.length->∀ (T:List (List Int)) (b:Bool),(CS c).St T->Ev (fun k=>acs k c T b ((c.length - d:Nat):Int)) ((Sys.rnds (CS c) d T b).2,(Sys.rnds (CS c) d T b).1)
 | 0,hd,T,b,hT=>by
  refine Ev.succ ?_;simp only [acs,Nat.sub_zero];exact aa5 Ev.pure
 | d+1,hd,T,b,hT=>by
  refine Ev.succ ?_;have h6:=abf h;have hi:c.length - (d+1) < c.length:=by omega
  have hn:T.length=c.length:=hT.1
  have hr:ab1 T ((c.length - (d+1):Nat):Int)=(CS c).at' T (c.length - (d+1)):=by
   unfold ab1;rw [Int.toNat_natCast];rfl
  have ok:=hT.2 _ hi;have hw:=aay (show c.length - (d+1) < 9223372036854775807 by omega);have hs:((c.length - (d+1)+1:Nat):Int)=((c.length - d:Nat):Int):=by congr 1;omega
  obtain⟨b1,_⟩:=Sys.pass_all (abB h) ((CS c).out (c.length - (d+1)) ((CS c).at' T (c.length - (d+1)))) T b hT ((abB h).oko _ _ hi ok);have ih:=Sbc.out h d (by omega) _ (Sys.pass (CS c) ((CS c).out (c.length - (d+1)) ((CS c).at' T (c.length - (d+1)))) T b).2 b1;simp only [acs,hr,hw,ac5];refine aa2 (aa2 (aa2 ?_));show Ev _ ((Sys.rnds (CS c) d (Sys.pass (CS c) ((CS c).out (c.length - (d+1)) ((CS c).at' T (c.length - (d+1)))) T b).1 (Sys.pass (CS c) ((CS c).out (c.length - (d+1)) ((CS c).at' T (c.length - (d+1)))) T b).2).2,(Sys.rnds (CS c) d (Sys.pass (CS c) ((CS c).out (c.length - (d+1)) ((CS c).at' T (c.length - (d+1)))) T b).1 (Sys.pass (CS c) ((CS c).out (c.length - (d+1)) ((CS c).at' T (c.length - (d+1)))) T b).2).1)
  by_cases g:(CS c).at' T (c.length - (d+1))=[]
  ·refine aa2 ?_ (by rw [g];rfl);rw [hs];have e:(CS c).out (c.length - (d+1)) ((CS c).at' T (c.length - (d+1)))=[]:=if_pos g;rw [e] at ih ⊢;exact ih
  have hL:=(abM ok g).1;refine aa5 (Ev.bind (ak3 h hi) (Ev.bind (aqp (apW h hi) ok g) ?_)) (by rw [hL];decide);have e:(CS c).out (c.length - (d+1)) ((CS c).at' T (c.length - (d+1)))=(nx (q_ (qa c (c.length - (d+1)))) (c.length - (d+1))).map fun e=>(e,aeZ (q_ (qa c (c.length - (d+1)))) ((CS c).at' T (c.length - (d+1)))):=if_neg g
  refine aoq h hi (aeY (abT h hi) ok g).1 (aeY (abT h hi) ok g).2 (by have:=ai4 (q_ (qa c (c.length - (d+1)))) (c.length - (d+1));omega) (fun e he=>?_) _ 0 T b (Nat.zero_add _) hT ?_
  ·have n:=nx_lt h (i:=c.length - (d+1)) (j:=e) (by rw [ab5];exact hi) (by rw [acC];exact he)
   rwa [ab5] at n
  rw [List.drop_zero,<- e,hs];exact ih
/-- What is not reached has no copies. -/
def ahV (x:List Int):List Int:=if x=[] then acP else x
def ags (U:List (List Int)):List (List Int):=U.map ahV
theorem abR (U:List (List Int)):(ags U).length=U.length:=by simp [ags]
theorem ahF {U:List (List Int)} {i:Nat} (h:i < U.length):(ags U).getD i []=ahV (U.getD i []):=by simp [ags,List.getD_eq_getElem?_getD,List.getElem?_eq_getElem h]
theorem ak1 {c:List SQ} (h:CV (qs c)) {U:List (List Int)} (hU:U.length=c.length):∀ (d p:Nat),p+d=c.length->Ev (fun k=>acX k c ((ags U).take p ++ U.drop p) (p:Int)) (ags U)
 | 0,p,hp=>by
  refine Ev.succ ?_;simp only [acX];refine aa5 (Ev.eq Ev.pure ?_);rw [List.take_of_length_le (by rw [abR];omega),List.drop_eq_nil_of_le (by omega),List.append_nil]
 | d+1,p,hp=>by
  refine Ev.succ ?_;have h6:=abf h;have hl:((ags U).take p ++ U.drop p).length=c.length:=by rw [List.length_append,List.length_take,List.length_drop,abR];omega
  have hr:ab1 ((ags U).take p ++ U.drop p) (p:Int)=U.getD p []:=by
   unfold ab1;rw [Int.toNat_natCast,List.getD_eq_getElem?_getD,List.getElem?_append_right (by rw [List.length_take,abR];omega),List.length_take,abR,show p - min p U.length=0 from by omega,List.getElem?_drop,List.getD_eq_getElem?_getD];rfl
  have e:(ags U).take (p+1) ++ U.drop (p+1)=(ags U).take p ++ (ahV (U.getD p []) :: U.drop (p+1)):=by
   rw [<- ac1 [] (show p < (ags U).length by rw [abR];omega),ahF (by omega),List.append_assoc];rfl
  simp only [acX,hr,hl,Int.toNat_natCast,aay (show p < 9223372036854775807 by omega)];refine aa2 (aa2 (aa2 ?_));have ih:=ak1 h hU d (p+1) (by omega);rw [e] at ih;rw [aco [] (show p < U.length by omega)];by_cases g:U.getD p []=[]
  ·refine aa2 (Ev.bind aop ?_) (by rw [g];rfl);rw [List.set_append_right _ _ (by rw [List.length_take,abR];omega),List.length_take,abR,show p - min p U.length=0 from by omega,List.set_cons_zero];rw [ahV,if_pos g] at ih;exact ih
  refine aa5 ?_ (by intro x;exact g (List.eq_nil_of_length_eq_zero (by omega)));rw [ahV,if_neg g] at ih;exact ih
theorem ahb {c:List SQ} (h:CV (qs c)):∀ (m:Nat) (T:List (List Int)),(CS c).Rd T->(CS c).cap T<=m->∃ U,(CS c).Lfp U/\Ev (fun k=>acY k c T) (ags U)
 | m,T,hT,hm=>by
  obtain⟨a,b,e⟩:=Sys.rd_step (abB h) hT;have o:=Sbc.out h c.length (Nat.le_refl _) T false hT.1;rw [Nat.sub_self] at o;have o':Ev (fun k=>Sbc.f k c T) ((Sys.rnds (CS c) c.length T false).2,(Sys.rnds (CS c) c.length T false).1):=o
  cases g:(Sys.rnds (CS c) c.length T false).2 with
  | false =>
   have l:=e g;refine⟨_,l,Ev.succ ?_⟩;simp only [acY];exact Ev.bind o' (aa5 (ak1 h l.1.1.1 c.length 0 (Nat.zero_add _)) (by simp [g]))
  | true =>
   have lt:=b g
   match m,hm with
   | 0,hm=>omega
   | m+1,hm =>
    obtain⟨U,hU,hE⟩:=ahb h m _ a (by have:(CS c).cap (Sys.rnds (CS c) c.length T false).1 < (CS c).cap T:=lt;show (CS c).cap (Sys.rnds (CS c) c.length T false).1<=m;omega);refine⟨U,hU,Ev.succ ?_⟩;simp only [acY];exact Ev.bind o' (aa2 hE (by simp [g]))
theorem ak2 {c:List SQ} (h:CV (qs c)) {U:List (List Int)} (g:Ev (fun k=>acY k c (Sys.T0 (CS c))) U):∀ (d p:Nat),p+d=c.length->Ev (fun k=>adl k c (List.replicate p []) (p:Int)) U
 | 0,p,hp=>by
  refine Ev.succ ?_;have h6:=abf h;simp only [adl,List.length_replicate];refine aa5 (Ev.bind aop (aa2 ?_))
  have e:(List.replicate p ([]:List Int)).set (0:Int).toNat acP=Sys.T0 (CS c):=by
   rw [show p=c.length from by omega];rfl
  rw [e];exact g
 | d+1,p,hp=>by
  have h6:=abf h;refine Ev.succ ?_;have e:List.replicate p ([]:List Int) ++ [[]]=List.replicate (p+1) []:=(List.replicate_succ' ..).symm;simp only [adl,List.length_replicate,e,aay (show p < 9223372036854775807 by omega)];exact aa2 (aa2 (ak2 h g d (p+1) (by omega)))
theorem aqR {c:List SQ} (h:CV (qs c)):∃ U,(CS c).Lfp U/\Ev (fun k=>Sai.f k c) (ags U):=by
 obtain⟨U,hU,hE⟩:=ahb h _ _ (Sys.rd0 (abB h)) (Nat.le_refl _);refine⟨U,hU,?_⟩;simp only [Sai.f];refine aaP (Ev.bind (acZ c) (aa2 ?_ (decide_eq_true h)));exact ak2 h hE c.length 0 (Nat.zero_add _)
/-- A quad that reads what its registers are copies of. -/
def ac2 (q:SQ) (x:List Int):SQ:=if q.f0=2\/q.f0=5\/q.f0=6\/q.f0=9 then ⟨q.f0,q.f1,ca x q.f2.toNat,q.f3,q.f4⟩ else if q.f0=3 then ⟨q.f0,q.f1,ca x q.f2.toNat,ca x q.f3.toNat,q.f4⟩ else q
theorem aqn {q:SQ} {m:Int} (h:QV (q_ q) m) {x:List Int} (hl:x.length=12):Ev (fun k=>ait k q.f0 q.f1 q.f2 q.f3 q.f4 x) (tQ (ac2 q x)):=by
 obtain⟨_,⟨a0,a1⟩,b0,b1⟩:=abL h;simp only [q_] at a0 a1 b0 b1
 have j:∀ b:Bool,b=true->(q.f0=2\/q.f0=5\/q.f0=6\/q.f0=9)->Ev (fun k=>acG k x q.f0 b q.f0 q.f1 q.f2 q.f3 q.f4) (tQ (ac2 q x)):=by
  intro b hb hq;refine Ev.succ ?_;simp only [acG,hl,ajF x a0,ajF x b0];refine aa2 (aa2 (aa2 (Ev.eq Ev.pure ?_)));rw [ac2,if_pos hq]
 simp only [ait];by_cases c2:q.f0=2
 ·exact aa2 (j _ (by simp [c2]) (.inl c2))
 refine aa5 ?_;by_cases c5:q.f0=5
 ·exact aa2 (j _ (by simp [c5]) (.inr (.inl c5)))
 refine aa5 ?_;by_cases c6:q.f0=6
 ·exact aa2 (j _ (by simp [c6]) (.inr (.inr (.inl c6))))
 refine aa5 ?_;by_cases c9:q.f0=9
 ·exact j _ (by simp [c9]) (.inr (.inr (.inr c9)))
 refine Ev.succ ?_;simp only [acG,hl,ajF x a0,ajF x b0];refine aa5 ?_ (by simp [c9]);have no:¬ (q.f0=2\/q.f0=5\/q.f0=6\/q.f0=9):=by omega
 by_cases c3:q.f0=3
 ·refine aa2 (aa2 (aa2 (aa2 (aa2 (Ev.eq Ev.pure ?_)))));rw [ac2,if_neg no,if_pos c3]
 refine aa5 (Ev.eq Ev.pure ?_);rw [ac2,if_neg no,if_neg c3]
def acB (U:List (List Int)) (c:List SQ):List SQ:=(List.range c.length).map fun i=>ac2 (qa c i) (ahV ((CS c).at' U i))
theorem aaX (U:List (List Int)) (c:List SQ):(acB U c).length=c.length:=by simp [acB]
theorem adx (U:List (List Int)) {c:List SQ} {i:Nat} (h:i < c.length):qa (acB U c) i=ac2 (qa c i) (ahV ((CS c).at' U i)):=by simp [acB,qa,List.getD_eq_getElem?_getD,h]
theorem ahG {x:List Int} (h:okC x):(ahV x).length=12/\∀ r,r < 12->0<=ca (ahV x) r/\ca (ahV x) r < 12:=by
 unfold ahV;split
 ·refine⟨aaf _,fun r hr=>?_⟩;unfold acP;rw [abE _ hr];omega
 rename_i g
 exact abM h g
theorem Saj.out {c:List SQ} (h:CV (qs c)) {U:List (List Int)} (hU:(CS c).St U):∀ (d p:Nat),p+d=c.length->Ev (fun k=>adk k c ((acB U c).take p) (ags U) (p:Int)) (acB U c,true)
 | 0,p,hp=>by
  refine Ev.succ ?_;simp only [adk];refine aa5 (Ev.eq Ev.pure ?_);rw [List.take_of_length_le (by rw [aaX];omega)]
 | d+1,p,hp=>by
  have h6:=abf h;have hi:p < c.length:=by omega
  have hn:U.length=c.length:=hU.1
  have hr:ab1 (ags U) (p:Int)=ahV ((CS c).at' U p):=by
   unfold ab1;rw [Int.toNat_natCast,ahF (by omega)];rfl
  refine Ev.succ ?_;simp only [adk,hr,ac5,abR,aay (show p < 9223372036854775807 by omega)];refine aa2 (aa2 (aa2 (Ev.bind (aqn (abT h hi) (ahG (hU.2 p hi)).1) (aa2 ?_ (by rw [List.length_take,aaX];omega)))))
  have e:(acB U c).take p ++ [ac2 (qa c p) (ahV ((CS c).at' U p))]=(acB U c).take (p+1):=by
   rw [<- adx U hi];exact ac1 _ (by rw [aaX];exact hi)
  have:=Saj.out h hU d (p+1) (by omega)
  rw [<- e] at this;exact this
theorem amA {c:List SQ} (h:CV (qs c)):∃ U,(CS c).Lfp U/\Ev (fun k=>Saj.f k c) (acB U c,true):=by
 obtain⟨U,hU,hE⟩:=aqR h;refine⟨U,hU,?_⟩;simp only [Saj.f];refine aaP (Ev.bind (acZ c) (aa2 (Ev.bind hE ?_) (decide_eq_true h)));exact Saj.out h hU.1.1 c.length 0 (Nat.zero_add _)
theorem ajo {c:List SQ} (h:¬ CV (qs c)):Ev (fun k=>Saj.f k c) ([],false):=by
 simp only [Saj.f];exact aaP (Ev.bind (acZ c) (aa5 Ev.pure (by unfold cvB;simp [h])))
theorem aiQ {q:SQ} {m:Int} (h:QV (q_ q) m) {x:List Int} (hx:∀ r,r < 12->0<=ca x r/\ca x r < 12):QV (q_ (ac2 q x)) m:=by
 have ⟨ra,rb⟩:=ao9 h;simp only [q_] at ra rb;have ha:=hx _ ra;have hb:=hx _ rb;have ga:rg (ca x q.f2.toNat):=⟨ha.1,by omega⟩;have gb:rg (ca x q.f3.toNat):=⟨hb.1,by omega⟩
 have keep:¬ (q.f0=2\/q.f0=5\/q.f0=6\/q.f0=9)->q.f0≠3->QV (q_ (ac2 q x)) m:=by
  intro h1 h2;rw [ac2,if_neg h1,if_neg h2];exact h
 have one:(q.f0=2\/q.f0=5\/q.f0=6\/q.f0=9)->ac2 q x=⟨q.f0,q.f1,ca x q.f2.toNat,q.f3,q.f4⟩:=fun k=>by rw [ac2,if_pos k]
 rcases h with h1 | ⟨o,p1,_,p3⟩ | ⟨o,p1,_,_,p3⟩|h1 | ⟨o,p1,_,p3⟩ | ⟨o,p1,_,p3⟩|h1 | ⟨o,p1,_,p3⟩|h1
 ·have o:q.f0=1:=h1.1;exact keep (by omega) (by omega)
 ·have o':q.f0=2:=o;rw [one (.inl o')];exact .inr (.inl ⟨o,p1,ga,p3⟩)
 ·have o':q.f0=3:=o;rw [ac2,if_neg (by omega),if_pos o'];exact .inr (.inr (.inl ⟨o,p1,ga,gb,p3⟩))
 ·have o:q.f0=4:=h1.1;exact keep (by omega) (by omega)
 ·have o':q.f0=5:=o;rw [one (.inr (.inl o'))];exact .inr (.inr (.inr (.inr (.inl ⟨o,p1,ga,p3⟩))))
 ·have o':q.f0=6:=o;rw [one (.inr (.inr (.inl o')))];exact .inr (.inr (.inr (.inr (.inr (.inl ⟨o,p1,ga,p3⟩)))))
 ·have o:q.f0=7:=h1.1;exact keep (by omega) (by omega)
 ·have o':q.f0=9:=o;rw [one (.inr (.inr (.inr o')))];exact .inr (.inr (.inr (.inr (.inr (.inr (.inr (.inl ⟨o,p1,ga,p3⟩)))))))
 have o:q.f0=8\/q.f0=10:=h1.1;exact keep (by omega) (by omega)
theorem ajB (q:SQ) (x:List Int):(ac2 q x).f0=q.f0:=by
 unfold ac2;(repeat' split) <;> rfl
theorem ag4 {c:List SQ} (h:CV (qs c)) {U:List (List Int)} (hU:(CS c).St U):CV (qs (acB U c)):=by
 have h6:=abf h;refine alz (by rw [aaX];exact h6.1) (by rw [aaX];exact h6.2) (fun i hi=>?_) ?_
 ·rw [aaX] at hi ⊢;rw [adx U hi];exact aiQ (abT h hi) (ahG (hU.2 i hi)).2
 rw [aaX,adx U (by omega),ajB];exact ae3 h
def z12:List Int:=[0,0,0,0,0,0,0,0,0,0,0,0]
abbrev TC:TypeId:=70
theorem aoY {l:List Int} (h:l.length=12):(prog.info? TC).map (·.size)=some (ics l).size:=by
 rw [adJ,h]
 kernel_rfl
theorem agH {l:List Int} (h:l.length=12):(prog.info? TC).map (·.size)=some (encs (Value.int .i64) l).length:=by
 rw [show (encs (Value.int .i64) l).length=l.length from by simp [encs],h]
 kernel_rfl
section
variable {ops:Array Oper} {rest:List Oper} {op:Oper} {a:Act} {Q:Exit->Act->World->Prop}
theorem afO {w:World} {p N:Tmp} (_hd:op.dst=some N) (hgd:op.guard=none) (ho:op.op = .load TC (.tmp p)) {g o:Nat} (hx:a.eval (.tmp p) = .pointer (some ⟨g,o,none⟩)) {l:List Int} (hl:l.length=12) (hc:w.rangeAt g o (encs (Value.int .i64) l)) (h:wpList prog ops Q rest (a.put op.dst (.agg (ics l))) w):wpList prog ops Q (op :: rest) a w :=
 wpList_load_mid hgd TC (.tmp p) ho g o hx _ _ hc underlying70 rfl (agH hl) h
theorem adh {w:World} {p v:Tmp} (ho:op.op = .store TC (.tmp p) (.tmp v)) (hgd:op.guard=none) {g o t:Nat} (hx:a.eval (.tmp p) = .pointer (some ⟨g,o,none⟩)) {l m:List Int} (hy:a.eval (.tmp v) = .agg (ics l)) (hl:l.length=12) (hb:w.heap[g]?=some (.cells (ics m) t (0,0))) (hm:o+12<=m.length)
  (h:∀ w',w'=w.setCells g o (encs (Value.int .i64) l)->w'.heap[g]?=some (.cells (ics (over m o l)) t (0,0))->wpList prog ops Q rest (a.put op.dst undef) w'):wpList prog ops Q (op :: rest) a w:=by
 refine wpList_store_mid hgd TC (.tmp p) (.tmp v) ho g o (ics l) hx hy ?_ (aoY hl) (aj4 l) ?_
 ·rw [adJ];exact aeO hb (by omega)
 exact h _ rfl (abQ l o m w hb (by omega))
theorem ahW {w:World} {p:Tmp} {v:Operand} (ho:op.op = .store 3 (.tmp p) v) (hgd:op.guard=none) (hN:op.dst=none) {g o t:Nat} (hx:a.eval (.tmp p) = .pointer (some ⟨g,o,none⟩)) {y:Int} {m:List Int} (hy:a.eval v = iV y) (hb:w.heap[g]?=some (.cells (ics m) t (0,0))) (hm:o < m.length)
  (h:∀ w',w'=w.setCell ⟨g,o,none⟩ (iV y)->w'.heap[g]?=some (.cells (ics (m.set o y)) t (0,0))->wpList prog ops Q rest (a.put op.dst undef) w'):wpList prog ops Q (op :: rest) a w:=by
 have hc:=afC hb hm;have hf:=aa6 hb o;refine aat (P:=prog) hgd ho hN (w1:=w.setCell ⟨g,o,none⟩ (iV y)) ?_ (fun w' hw=>?_)
 ·unfold execOp;simp only [ho,hx,hy];first|(go_simp;done)|(go_simp;rfl)
 have e:w'.heap[g]?=some (.cells (ics (m.set o y)) t (0,0)):=by
  rw [hw,aeX hb]
  congr 1
  simp [encs,List.map_set]
 have:=h w' hw e
 rwa [hN] at this
end
theorem apS {w:World} {fn:Func} {p:Tmp} (h:fn.results = #[.cell p TC]) {tmps:Array Value} {g t:Nat} {l:List Int} (hp:tmps.getD p undef = .pointer (some ⟨g,0,none⟩)) (hb:w.heap[g]?=some (.cells (ics l) t (0,0))) (hl:l.length=12):(results fn tmps).run prog w = .ok (.agg (ics l)) w :=
 results_cell_row h tmps w g t _ _ _ hp hb underlying70 rfl (aoY hl)
theorem aik {w:World} {g t:Nat} {l:List Int} (h:w.heap[g]?=some (.cells (ics l) t (0,0))) (hl:l.length=12) {i:Int} (hi:i.toNat < 12):w.cell? ⟨g,i.toNat,none⟩=some (iV (ca l i.toNat)):=afC h (by omega)
def ale (p:Nat):List Int:=ahU fun r=>if r < p then (r:Int) else 0
theorem ald (p:Nat) (hp:p < 12):(ale p).set p (p:Int)=ale (p+1):=by
 refine abS (by rw [List.length_set];exact aaf _) (aaf _) fun r hr=>?_
 rw [agV (l:=ale p) (aaf _) hp];unfold ale;rw [abE _ hr,abE _ hr];by_cases e:r=p
 ·rw [if_pos e,if_pos (show r < p+1 by omega),e]
 rw [if_neg e];by_cases l:r < p
 ·rw [if_pos l,if_pos (show r < p+1 by omega)]
 rw [if_neg l,if_neg (show ¬ r < p+1 by omega)]
theorem alc:ale 0=z12:=by decide
theorem ann:ale 12=acP:=by decide
set_option maxHeartbeats 4000000 in
theorem amI (w:World):Calls prog 83 #[] w fun e w'=>e = .returned (.agg (ics acP))/\Below w.heap.size w w':=by
 have HB:=jb_ w;go_enter func83,ntmps83;go_wp2_with (first|((with_reducible refine jd 0 ?_);refine jX (ics z12) TC ?_;intro g0 hg ay hbox hb;have B0:=aM hbox;have G0:=kG hg;replace HB:=kH hb;clear hg hbox hb)|((with_reducible refine jd 1 ?_);refine jX (ics z12) TC ?_;intro g1 hg az hbox hb;have af:=aM (show g0≠g1 by rw [hg];exact Nat.ne_of_lt (ab3 B0.out));replace B0:=kB B0 hb;have B1:=aM hbox;have G1:=kG hg;replace HB:=kH hb;clear hg hbox hb));rw [<- alc] at B1;go_loopg [3] 12 (fun kq v3 w'=>∃ (ri:Int) (r:Nat),v3 = iV ri/\aa1 (ri=(r:Int)/\r+kq=12)/\aa1 (w'.heap[g0]?=some (.cells (ics z12) TC (0,0)))/\aa1 (w'.heap[g1]?=some (.cells (ics (ale r)) TC (0,0)))/\aa1 (Below w.heap.size w w'));case atStart=>exact⟨0,0,rfl,⟨rfl,rfl⟩,B0,B1,HB⟩
 clear B0 B1 HB;obtain⟨ri,r,rfl,HR,B0,B1,HB⟩:=hrel;rcases gk with _|k1
 ·have er:r=12:=by have:=HR.out.2;omega
  subst er;have hri:ri=12:=HR.out.1;subst hri;rw [ann] at B1;have s12:acP.length=12:=aaf _;have aa:=aM s12;clear s12;go_wp2_with (first|((with_reducible refine afO (N:=10) rfl rfl rfl rfl aa.out (abC B1.out) ?_))|((with_reducible refine adh (p:=0) (v:=10) rfl rfl rfl rfl aa.out B0.out (by decide) ?_);intro w6 hw hb6;rw [abJ (by rw [aa.out];rfl)] at hb6;have n1:=aM (ac7 hw G0.out HB.out);clear B0 HB hw;have B0:=aM hb6;have HB:=n1;clear n1 hb6));exact bodyPost_ret (apS rfl rfl B0.out aa.out) rfl ⟨rfl,HB.out⟩
 have ae:r < 12:=by have:=HR.out.2;omega
 have hri:ri=(r:Int):=HR.out.1;have r0:0<=ri:=by omega
 have r1:ri < 12:=by omega
 have hset:(ale r).set ri.toNat ri=ale (r+1):=by rw [hri,Int.toNat_natCast];exact ald r ae
 have hm:ri.toNat < (ale r).length:=by rw [show (ale r).length=12 from aaf _];omega
 have HS:=aM hset;have ai:=eq_true r0;have aj:=eq_true r1;have ak:=decide_eq_true r0;have au:=decide_eq_true r1;clear hri r0 r1 hset;go_wp2_with (first|((with_reducible refine ahW (p:=8) rfl rfl rfl rfl rfl B1.out hm ?_);intro w7 hw hb1;rw [HS.out] at hb1;have n1:=aM (show Below w.heap.size w w7 by rw [hw];exact aad HB.out G1.out);replace B0:=aM (show w7.heap[g0]?=some (.cells (ics z12) TC (0,0)) by rw [hw];exact acp B0.out (p:=⟨g1,_,none⟩) af.out _);clear B1 HB hw;have B1:=aM hb1;have HB:=n1;clear n1 hb1));go_roundg k1;case measure=>omega
 exact⟨_,r+1,rfl,⟨by have:=HR.out.1;(first|omega|(rw [aaJ (by omega) (by omega)];omega)),by have:=HR.out.2;omega⟩,B0,B1,HB⟩
set_option maxHeartbeats 4000000 in
theorem an1 {c d:List Int} (hc:c.length=12) (hd:d.length=12) (w:World):Calls prog 85 #[.agg (ics c),.agg (ics d)] w fun e w'=>e = .returned (.agg (ics (mP 12 c d)))/\Below w.heap.size w w':=by
 have HB:=jb_ w;have HC:=aM hc;have HD:=aM hd;clear hc hd;go_enter func85,ntmps85;go_wp2_with (first|((with_reducible refine jd 2 ?_);refine jX (ics c) TC ?_;intro g2 hg aA hbox hb;have B2:=aM hbox;have G2:=kG hg;replace HB:=kH hb;clear hg hbox hb)|((with_reducible refine jd 3 ?_);refine jX (ics d) TC ?_;intro g3 hg aB hbox hb;have ag:=aM (show g2≠g3 by rw [hg];exact Nat.ne_of_lt (ab3 B2.out));replace B2:=kB B2 hb;have B3:=aM hbox;have G3:=kG hg;replace HB:=kH hb;clear hg hbox hb)|((with_reducible refine jd 4 ?_);refine jX (ics z12) TC ?_;intro g4 hg av hbox hb;have ah:=aM (show g2≠g4 by rw [hg];exact Nat.ne_of_lt (ab3 B2.out));have ax:=aM (show g3≠g4 by rw [hg];exact Nat.ne_of_lt (ab3 B3.out));replace B2:=kB B2 hb;replace B3:=kB B3 hb;have B4:=aM hbox;have G4:=kG hg;replace HB:=kH hb;clear hg hbox hb));have B2:aa1 (av.heap[g2]?=some (.cells (ics (mP 0 c d)) TC (0,0))):=⟨by rw [show mP 0 c d=c from abS (aaf _) HC.out fun r hr=>by rw [afq _ _ _ hr,if_neg (by omega)]];exact B2.out⟩;go_loopg [6] 12 (fun kq v6 w'=>∃ (ri:Int) (r:Nat),v6 = iV ri/\aa1 (ri=(r:Int)/\r+kq=12)/\aa1 (w'.heap[g2]?=some (.cells (ics (mP r c d)) TC (0,0)))/\aa1 (w'.heap[g3]?=some (.cells (ics d) TC (0,0)))/\aa1 (w'.heap[g4]?=some (.cells (ics z12) TC (0,0)))/\aa1 (Below w.heap.size w w'));case atStart=>exact⟨0,0,rfl,⟨rfl,rfl⟩,B2,B3,B4,HB⟩
 clear B2 B3 B4 HB;obtain⟨ri,r,rfl,HR,B2,B3,B4,HB⟩:=hrel;rcases gk with _|k1
 ·have er:r=12:=by have:=HR.out.2;omega
  subst er;have hri:ri=12:=HR.out.1;subst hri;have aa:=aM (show (mP 12 c d).length=12 from aaf _);go_wp2_with (first|((with_reducible refine afO (N:=20) rfl rfl rfl rfl aa.out (abC B2.out) ?_))|((with_reducible refine adh (p:=4) (v:=20) rfl rfl rfl rfl aa.out B4.out (by decide) ?_);intro w6 hw hb6;rw [abJ (by rw [aa.out];rfl)] at hb6;have n1:=aM (ac7 hw G4.out HB.out);clear B4 HB hw;have B4:=aM hb6;have HB:=n1;clear n1 hb6));exact bodyPost_ret (apS rfl rfl B4.out aa.out) rfl ⟨rfl,HB.out⟩
 have ae:r < 12:=by have:=HR.out.2;omega
 have hri:ri=(r:Int):=HR.out.1;have r0:0<=ri:=by omega
 have r1:ri < 12:=by omega
 have rt:ri.toNat=r:=by rw [hri];rfl
 have y0:=aik B2.out (aaf _) (i:=ri) (by omega);have y1:=aik B3.out HD.out (i:=ri) (by omega);have ec:ca (mP r c d) ri.toNat=ca c r:=by rw [rt,afq _ _ _ ae,if_neg (Nat.lt_irrefl r)]
 rw [ec] at y0;have ed:ca d ri.toNat=ca d r:=by rw [rt]
 rw [ed] at y1;have hm:ri.toNat < (mP r c d).length:=by rw [show (mP r c d).length=12 from aaf _];omega
 have HRT:=aM rt;have ai:=eq_true r0;have aj:=eq_true r1;have ak:=decide_eq_true r0;have au:=decide_eq_true r1;clear hri r0 r1 rt ec ed;by_cases e:ca c r=ca d r
 ·have eb:(ca c r != ca d r)=false:=by simp [e]
  have hs:mP r c d=mP (r+1) c d:=aiW r ae (.inr e);have HS:=aM hs;clear e hs;go_wp2;go_region;go_wp2;go_roundg k1;case measure=>omega
  exact⟨_,r+1,rfl,⟨by have:=HR.out.1;(first|omega|(rw [aaJ (by omega) (by omega)];omega)),by have:=HR.out.2;omega⟩,⟨by rw [<- HS.out];(with_reducible repeat (first|refine abF ?_ _|refine aaS ?_));exact B2.out⟩,⟨by (with_reducible repeat (first|refine abF ?_ _|refine aaS ?_));exact B3.out⟩,⟨by (with_reducible repeat (first|refine abF ?_ _|refine aaS ?_));exact B4.out⟩,⟨by (with_reducible repeat (first|exact HB.out|apply aan|apply aah))⟩⟩
 have eb:(ca c r != ca d r)=true:=by simp [e]
 have hs:(mP r c d).set ri.toNat ri=mP (r+1) c d:=by rw [HRT.out];exact al9 r ae c d ri (by rw [if_neg e];exact HR.out.1)
 have HS:=aM hs;clear e hs;go_wp2;go_region;have k2:=aM (aaS B2.out);have k3:=aM (aaS B3.out);have k4:=aM (aaS B4.out);have kH:=aM (aah HB.out);clear B2 B3 B4 HB;go_wp2_with (first|((with_reducible refine ahW (p:=18) rfl rfl rfl rfl rfl k2.out hm ?_);intro w7 hw hb1;rw [HS.out] at hb1;have n3:=aM (show w7.heap[g3]?=some (.cells (ics d) TC (0,0)) by rw [hw];exact acp k3.out (p:=⟨g2,_,none⟩) (Ne.symm ag.out) _);have n4:=aM (show w7.heap[g4]?=some (.cells (ics z12) TC (0,0)) by rw [hw];exact acp k4.out (p:=⟨g2,_,none⟩) (Ne.symm ah.out) _);have n1:=aM (show Below w.heap.size w w7 by rw [hw];exact aad kH.out G2.out);clear k2 k3 k4 kH hw;have B2:=aM hb1;have B3:=n3;have B4:=n4;have HB:=n1;clear n1 n3 n4 hb1));go_roundg k1;case measure=>omega
 exact⟨_,r+1,rfl,⟨by have:=HR.out.1;(first|omega|(rw [aaJ (by omega) (by omega)];omega)),by have:=HR.out.2;omega⟩,B2,B3,B4,HB⟩
/-- Below p,what is s or a copy of s is itself. -/
def aeU (s:Int) (p:Nat) (x:List Int):List Int:=ahU fun r=>if r < p/\((r:Int)=s\/ca x r=s) then (r:Int) else ca x r
theorem aem (s:Int) (p:Nat) (x:List Int):(aeU s p x).length=12:=aaf _
theorem alA (s:Int) {x:List Int} (hx:x.length=12):aeU s 0 x=x:=abS (aaf _) hx fun r hr=>by
 unfold aeU;rw [abE _ hr,if_neg (by omega)]
theorem apq (s:Int) {p:Nat} (hp:p < 12) (x:List Int):ca (aeU s p x) p=ca x p:=by
 unfold aeU;rw [abE _ hp,if_neg (by omega)]
theorem alB {s:Int} {p:Nat} {x:List Int} (h:¬ ((p:Int)=s\/ca x p=s)):aeU s p x=aeU s (p+1) x:=by
 refine abS (aaf _) (aaf _) fun r hr=>?_
 unfold aeU;rw [abE _ hr,abE _ hr];by_cases l:r < p/\((r:Int)=s\/ca x r=s)
 ·rw [if_pos l,if_pos ⟨by omega,l.2⟩]
 rw [if_neg l,if_neg (fun y=>l ⟨by
  have:r≠p:=fun e=>h (by rw [<- e];exact y.2)
  omega,y.2⟩)]
theorem alC {s:Int} {p:Nat} (hp:p < 12) {x:List Int} (h:(p:Int)=s\/ca x p=s):(aeU s p x).set p (p:Int)=aeU s (p+1) x:=by
 refine abS (by rw [List.length_set];exact aaf _) (aaf _) fun r hr=>?_
 rw [agV (l:=aeU s p x) (aaf _) hp];unfold aeU;rw [abE _ hr,abE _ hr];by_cases er:r=p
 ·rw [if_pos er,if_pos ⟨by omega,by rw [er];exact h⟩,er]
 rw [if_neg er];by_cases l:r < p/\((r:Int)=s\/ca x r=s)
 ·rw [if_pos l,if_pos ⟨by omega,l.2⟩]
 rw [if_neg l,if_neg (fun y=>l ⟨by omega,y.2⟩)]
theorem anA {q:Q} {x:List Int} (h:¬ sets q < 0) (o:q.op≠2):aeU (sets q) 12 x=aeZ q x:=by
 unfold aeZ;rw [if_neg h];refine abS (aaf _) (aaf _) fun r hr=>?_
 unfold aeU;rw [abE _ hr,abE _ hr];by_cases e:(r:Int)=sets q
 ·rw [if_pos ⟨hr,.inl e⟩,if_pos e,if_neg o]
 rw [if_neg e];by_cases g:ca x r=sets q
 ·rw [if_pos ⟨hr,.inr g⟩,if_pos g]
 rw [if_neg (fun y=>by rcases y.2 with z|z;exact e z;exact g z),if_neg g]
theorem alD {q:Q} {x:List Int} (h:¬ sets q < 0) (hs:(sets q).toNat < 12) (o:q.op=2):(aeU (sets q) 12 x).set (sets q).toNat q.a=aeZ q x:=by
 unfold aeZ;rw [if_neg h];refine abS (by rw [List.length_set];exact aaf _) (aaf _) fun r hr=>?_
 rw [agV (l:=aeU (sets q) 12 x) (aaf _) hs,abE _ hr];by_cases e:r=(sets q).toNat
 ·rw [if_pos e,if_pos (by omega),if_pos o]
 rw [if_neg e,if_neg (by omega)];unfold aeU;rw [abE _ hr];by_cases g:ca x r=sets q
 ·rw [if_pos ⟨hr,.inr g⟩,if_pos g]
 rw [if_neg (fun y=>by rcases y.2 with z|z;omega;exact g z),if_neg g]
theorem ar6 {G:Prop} (h:G:=by
  go_wp2_with (first|((with_reducible refine ahW (p:=27) rfl rfl rfl rfl rfl k2.out hm ?_);intro w7 hw hb1;rw [HS.out] at hb1;have n3:=aM (show w7.heap[g3]?=some (.cells #[iV q.f0,iV q.f1,iV q.f2,iV q.f3,iV q.f4] 31 (0,0)) by rw [hw];exact acp k3.out (p:=⟨g2,_,none⟩) (Ne.symm af.out) _);have n4:=aM (show w7.heap[g4]?=some (.cells (ics z12) TC (0,0)) by rw [hw];exact acp k4.out (p:=⟨g2,_,none⟩) (Ne.symm ag.out) _);have n1:=aM (show Below w.heap.size w w7 by rw [hw];exact aad kH.out G2.out);clear k2 k3 k4 kH hw;have B2:=aM hb1;have B3:=n3;have B4:=n4;have HB:=n1;clear n1 n3 n4 hb1));go_roundg k1;case measure=>omega
  exact⟨_,r+1,rfl,⟨by have:=HR.out.1;(first|omega|(rw [aaJ (by omega) (by omega)];omega)),by have:=HR.out.2;omega⟩,B2,B3,B4,HB⟩):G:=h
theorem an2 {x:List Int} (hx:x.length=12) {q:SQ} {m:Int} (hq:QV (q_ q) m) (w:World) :
  Calls prog 84 #[.agg (ics x),.agg #[iV q.f0,iV q.f1,iV q.f2,iV q.f3,iV q.f4]] w fun e w'=>e = .returned (.agg (ics (aeZ (q_ q) x)))/\Below w.heap.size w w':=by
 have hs:akr q.f0 q.f1 q.f2 q.f3 q.f4=some (sets (q_ q)):=aqT (q_ q);have ae:=anb hq;have KX:¬ sets (q_ q) < 0->(q_ q).op=2->_:=fun a b=>alD (x:=x) a ae b
 have KY:¬ sets (q_ q) < 0->(q_ q).op≠2->_:=fun a b=>anA (x:=x) a b
 obtain⟨s,es⟩:∃ s,s=sets (q_ q):=⟨_,rfl⟩
 have ea:sets (q_ q) < 0->aeZ (q_ q) x=x:=fun c=>if_pos c
 rw [<- es] at hs ae ea KX KY;have A1:=aM hs;clear hs es;have HX:=aM hx;clear hx;have HB:=jb_ w;by_cases c0:s < 0
 ·have c0b:=decide_eq_true c0;rw [ea c0];clear c0 ea KX KY ae hq;go_enter func84,ntmps84;go_wp2_with (first|((with_reducible refine jd 2 ?_);refine jX (ics x) TC ?_;intro g2 hg ak hbox hb;have B2:=aM hbox;have G2:=kG hg;replace HB:=kH hb;clear hg hbox hb)|((with_reducible refine jd 3 ?_);refine jX #[iV q.f0,iV q.f1,iV q.f2,iV q.f3,iV q.f4] 31 ?_;intro g3 hg au hbox hb;have af:=aM (show g2≠g3 by rw [hg];exact Nat.ne_of_lt (ab3 B2.out));replace B2:=kB B2 hb;have B3:=aM hbox;have G3:=kG hg;replace HB:=kH hb;clear hg hbox hb)|((with_reducible refine jd 4 ?_);refine jX (ics z12) TC ?_;intro g4 hg av hbox hb;have ag:=aM (show g2≠g4 by rw [hg];exact Nat.ne_of_lt (ab3 B2.out));have ai:=aM (show g3≠g4 by rw [hg];exact Nat.ne_of_lt (ab3 B3.out));replace B2:=kB B2 hb;replace B3:=kB B3 hb;have B4:=aM hbox;have G4:=kG hg;replace HB:=kH hb;clear hg hbox hb;obtain⟨q0,q1,q2,q3,q4⟩:=ady B3.out)|(go_at_call 50;(with_reducible refine (Sac.calls _ _ _ _ _ _ _ A1.out).mono ?_);rintro e w5 ⟨rfl,hb⟩;replace B2:=kB B2 hb;replace B3:=kB B3 hb;replace B4:=kB B4 hb;replace HB:=kH hb;clear hb q0 q1 q2 q3 q4)|((with_reducible refine afO (N:=11) rfl rfl rfl rfl HX.out (abC B2.out) ?_))|((with_reducible refine adh (p:=4) (v:=11) rfl rfl rfl rfl HX.out B4.out (by decide) ?_);intro w6 hw hb6;rw [abJ (by rw [HX.out];rfl)] at hb6;have n1:=aM (ac7 hw G4.out HB.out);clear B4 HB hw;have B4:=aM hb6;have HB:=n1;clear n1 hb6));exact bodyPost_ret (apS rfl rfl B4.out HX.out) rfl ⟨rfl,HB.out⟩
 have c0b:=decide_eq_false c0;have K2:=aM (KX c0);have K3:=aM (KY c0);have S0:0<=s:=by omega
 have S1:s < 12:=by omega
 have ah:=aM (And.intro S0 S1);clear c0 ea KX KY ae S0 S1;obtain⟨z,hz⟩:∃ z,z=aeZ (q_ q) x:=⟨_,rfl⟩
 have HZ:=aM hz;rw [<- hz];clear hz hq;go_enter func84,ntmps84;go_wp2_with (first|((with_reducible refine jd 2 ?_);refine jX (ics x) TC ?_;intro g2 hg ak hbox hb;have B2:=aM hbox;have G2:=kG hg;replace HB:=kH hb;clear hg hbox hb)|((with_reducible refine jd 3 ?_);refine jX #[iV q.f0,iV q.f1,iV q.f2,iV q.f3,iV q.f4] 31 ?_;intro g3 hg au hbox hb;have af:=aM (show g2≠g3 by rw [hg];exact Nat.ne_of_lt (ab3 B2.out));replace B2:=kB B2 hb;have B3:=aM hbox;have G3:=kG hg;replace HB:=kH hb;clear hg hbox hb)|((with_reducible refine jd 4 ?_);refine jX (ics z12) TC ?_;intro g4 hg av hbox hb;have ag:=aM (show g2≠g4 by rw [hg];exact Nat.ne_of_lt (ab3 B2.out));have ai:=aM (show g3≠g4 by rw [hg];exact Nat.ne_of_lt (ab3 B3.out));replace B2:=kB B2 hb;replace B3:=kB B3 hb;have B4:=aM hbox;have G4:=kG hg;replace HB:=kH hb;clear hg hbox hb;obtain⟨q0,q1,q2,q3,q4⟩:=ady B3.out)|(go_at_call 50;(with_reducible refine (Sac.calls _ _ _ _ _ _ _ A1.out).mono ?_);rintro e w5 ⟨rfl,hb⟩;replace B2:=kB B2 hb;replace B3:=kB B3 hb;replace B4:=kB B4 hb;replace HB:=kH hb;clear hb q0 q1 q2 q3 q4));rw [<- alA s HX.out] at B2;go_loopg [12] 12 (fun kq v12 w'=>∃ (ri:Int) (r:Nat),v12 = iV ri/\aa1 (ri=(r:Int)/\r+kq=12)/\aa1 (w'.heap[g2]?=some (.cells (ics (aeU s r x)) TC (0,0)))/\aa1 (w'.heap[g3]?=some (.cells #[iV q.f0,iV q.f1,iV q.f2,iV q.f3,iV q.f4] 31 (0,0)))/\aa1 (w'.heap[g4]?=some (.cells (ics z12) TC (0,0)))/\aa1 (Below w.heap.size w w'));case atStart=>exact⟨0,0,rfl,⟨rfl,rfl⟩,B2,B3,B4,HB⟩
 clear B2 B3 B4 HB;obtain⟨ri,r,rfl,HR,B2,B3,B4,HB⟩:=hrel;rcases gk with _|k1
 ·have er:r=12:=by have:=HR.out.2;omega
  subst er;have hri:ri=12:=HR.out.1;subst hri;obtain⟨q0,q1,q2,q3,q4⟩:=ady B3.out;by_cases o:q.f0=2
  ·have ob:(q.f0 == 2)=true:=by simp [o]
   have hset:(aeU s 12 x).set s.toNat q.f2=z:=by rw [HZ.out];exact K2.out o
   have HS:=aM hset;have aa:z.length=12:=by rw [<- hset,List.length_set];exact aem _ _ _
   have ZL:=aM aa;have hm:s.toNat < (aeU s 12 x).length:=by rw [aem];have:=ah.out;omega
   have ay:=eq_true ah.out.1;have az:=eq_true ah.out.2;have aA:=decide_eq_true ah.out.1;have aB:=decide_eq_true ah.out.2;clear o hset aa;go_wp2_with (first|((with_reducible refine ahW (p:=35) rfl rfl rfl rfl rfl B2.out hm ?_);intro w7 hw hb1;rw [HS.out] at hb1;have n3:=aM (show w7.heap[g3]?=some (.cells #[iV q.f0,iV q.f1,iV q.f2,iV q.f3,iV q.f4] 31 (0,0)) by rw [hw];exact acp B3.out (p:=⟨g2,_,none⟩) (Ne.symm af.out) _);have n4:=aM (show w7.heap[g4]?=some (.cells (ics z12) TC (0,0)) by rw [hw];exact acp B4.out (p:=⟨g2,_,none⟩) (Ne.symm ag.out) _);have n1:=aM (show Below w.heap.size w w7 by rw [hw];exact aad HB.out G2.out);clear B2 B3 B4 HB hw q0 q1 q2 q3 q4;have B2:=aM hb1;have B3:=n3;have B4:=n4;have HB:=n1;clear n1 n3 n4 hb1)|((with_reducible refine afO (N:=36) rfl rfl rfl rfl ZL.out (abC B2.out) ?_))|((with_reducible refine adh (p:=4) (v:=36) rfl rfl rfl rfl ZL.out B4.out (by decide) ?_);intro w6 hw hb6;rw [abJ (by rw [ZL.out];rfl)] at hb6;have n1:=aM (ac7 hw G4.out HB.out);clear B4 HB hw;have B4:=aM hb6;have HB:=n1;clear n1 hb6));exact bodyPost_ret (apS rfl rfl B4.out ZL.out) rfl ⟨rfl,HB.out⟩
  have ob:(q.f0 == 2)=false:=by simp [o]
  have hset:aeU s 12 x=z:=by rw [HZ.out];exact K3.out o
  rw [hset] at B2;have aa:z.length=12:=by rw [<- hset];exact aem _ _ _
  have ZL:=aM aa;clear o hset aa;go_wp2_with (first|((with_reducible refine afO (N:=36) rfl rfl rfl rfl ZL.out (abC B2.out) ?_))|((with_reducible refine adh (p:=4) (v:=36) rfl rfl rfl rfl ZL.out B4.out (by decide) ?_);intro w6 hw hb6;rw [abJ (by rw [ZL.out];rfl)] at hb6;have n1:=aM (ac7 hw G4.out HB.out);clear B4 HB hw;have B4:=aM hb6;have HB:=n1;clear n1 hb6));exact bodyPost_ret (apS rfl rfl B4.out ZL.out) rfl ⟨rfl,HB.out⟩
 have aj:r < 12:=by have:=HR.out.2;omega
 have hri:ri=(r:Int):=HR.out.1;have r0:0<=ri:=by omega
 have r1:ri < 12:=by omega
 have rt:ri.toNat=r:=by rw [hri];rfl
 have y0:=aik B2.out (aem _ _ _) (i:=ri) (by omega);have ec:ca (aeU s r x) ri.toNat=ca x r:=by rw [rt,apq _ aj]
 rw [ec] at y0;have hm:ri.toNat < (aeU s r x).length:=by rw [aem];omega
 have aC:=eq_true r0;have aD:=eq_true r1;have aF:=decide_eq_true r0;have aG:=decide_eq_true r1;have go:((r:Int)=s\/ca x r=s)->(aeU s r x).set ri.toNat ri=aeU s (r+1) x:=fun h=>by rw [rt,hri];exact alC aj h
 have no:¬ ((r:Int)=s\/ca x r=s)->aeU s r x=aeU s (r+1) x:=alB;by_cases e:ri=s
 ·have eb:(ri == s)=true:=by simp [e]
  have HS:=aM (go (.inl (by omega)));clear e hri r0 r1 rt ec go no;have k2:=B2;have k3:=B3;have k4:=B4;have kH:=HB;clear B2 B3 B4 HB;exact ar6
 have eb:(ri == s)=false:=by simp [e]
 by_cases e2:ca x r=s
 ·have ax:(ca x r == s)=true:=by simp [e2]
  have HS:=aM (go (.inr e2));clear e e2 hri r0 r1 rt ec go no;have k2:=B2;have k3:=B3;have k4:=B4;have kH:=HB;clear B2 B3 B4 HB;exact ar6
 have ax:(ca x r == s)=false:=by simp [e2]
 have HS:=aM (no (fun z=>by rcases z with z|z;omega;exact e2 z));clear e e2 hri r0 r1 rt ec go no;have k2:=B2;have k3:=B3;have k4:=B4;have kH:=HB;clear B2 B3 B4 HB;go_wp2;go_roundg k1;case measure=>omega
 exact⟨_,r+1,rfl,⟨by have:=HR.out.1;(first|omega|(rw [aaJ (by omega) (by omega)];omega)),by have:=HR.out.2;omega⟩,⟨by rw [<- HS.out];exact k2.out⟩,k3,k4,kH⟩
theorem aru:(prog.info? 3).map (·.size)=some 1:=by kernel_rfl
theorem aqa:prog.cellsOf 3=1:=by kernel_rfl
theorem arK:prog.underlying 3=some (.int .i64):=by kernel_rfl
theorem aob (w:World) {x:List Int} {i:Nat} (hi:i < x.length):(part 3 (ics x) (i*1)).run prog w = .ok (iV (ca x i)) w:=by
 have hagg:(isAgg 3).run prog w = .ok false w:=by
  unfold isAgg;rw [Sem.run_bind,run_underlying arK w];rfl
 unfold part;rw [Sem.run_bind,hagg,Result.andThen_ok,Nat.mul_one,ahC hi];rfl
theorem aig (d:Nat) (w:World) {x y:List Int} (hx:x.length=12) (hy:y.length=12):∀ is:List Nat,(∀ i∈is,i < 12)->(Op.eqItems (d+1) 3 1 (ics x) (ics y) is).run prog w = .ok (decide (∀ i∈is,ca x i=ca y i)) w
 | [],_=>by simp [Op.eqItems]
 | i :: is,h=>by
  have hi:i < 12:=h i List.mem_cons_self;have ih:=aig d w hx hy is (fun j hj=>h j (List.mem_cons_of_mem _ hj));simp only [Op.eqItems,Sem.run_bind,aob w (show i < x.length by omega),aob w (show i < y.length by omega),run_equalIn_int w d 3 .i64 .i64 _ _ arK,Result.andThen_ok];by_cases e:ca x i=ca y i
  ·rw [if_neg (by rw [e];simp),ih];simp [e]
  rw [if_pos (by simp [e])];simp [e]
theorem arQ (d:Nat) (w:World) (x y:List Int) (hx:x.length=12) (hy:y.length=12):(Op.equalIn (d+2) TC (.agg (ics x)) (.agg (ics y))).run prog w = .ok (decide (x=y)) w:=by
 obtain⟨i0,h0,h2⟩:=Option.map_eq_some_iff.1 aru;rw [run_equalIn_array w (d+1) (ics x) (ics y) underlying70 h0,aqa,aig d w hx hy _ (fun i hi=>List.mem_range.1 hi)];exact congrArg (fun b=>Result.ok b w) (decide_eq_decide.2 ⟨fun z=>abS hx hy fun r hr=>z r (List.mem_range.2 hr),fun z i _=>by rw [z]⟩)
def AC (U:List (List Int)):Prop:=∀ x∈U,x.length=12
theorem AC.tail {x:List Int} {U:List (List Int)} (h:AC (x :: U)):AC U:=fun y hy=>h y (List.mem_cons_of_mem _ hy)
theorem AC.head {x:List Int} {U:List (List Int)} (h:AC (x :: U)):x.length=12:=h x List.mem_cons_self
theorem alr:∀ {U:List (List Int)},AC U->U.flatten.length=12*U.length
 | [],h=>rfl
 | x :: U,h=>by
  simp only [List.flatten_cons,List.length_append,List.length_cons,h.head,alr h.tail];omega
theorem aoe:∀ {U:List (List Int)},AC U->∀ {i:Nat},i < U.length->(U.flatten.drop (i*12)).take 12=U.getD i []
 | x :: U,h,0,hi=>by
  show ((x ++ U.flatten).drop (0*12)).take 12=x
  rw [Nat.zero_mul,List.drop_zero]
  have:=h.head
  rw [<- this,List.take_left]
 | x :: U,h,i+1,hi=>by
  have:=aoe h.tail (show i < U.length by simpa using hi)
  have hl:=h.head;rw [show (i+1)*12=12+i*12 from by omega];simp only [List.flatten_cons,List.getD_cons_succ];rw [<- List.drop_drop,<- hl,List.drop_left,hl];exact this
theorem aj8:∀ {U:List (List Int)},AC U->∀ {i:Nat},i < U.length->∀ {v:List Int},v.length=12->over U.flatten (i*12) v=(U.set i v).flatten
 | x :: U,h,0,hi,v,hv=>by
  have hl:=h.head;unfold over;simp only [Nat.zero_mul,List.take_zero,List.nil_append,Nat.zero_add,List.flatten_cons,List.set_cons_zero];rw [hv,<- hl,List.drop_left]
 | x :: U,h,i+1,hi,v,hv=>by
  have ih:=aj8 h.tail (show i < U.length by simpa using hi) hv;have hl:=h.head;unfold over at ih ⊢;rw [show (i+1)*12=12+i*12 from by omega];simp only [List.flatten_cons,List.set_cons_succ];rw [<- ih,List.take_append,List.drop_append,hl];rw [List.take_of_length_le (by omega),List.drop_eq_nil_of_le (by omega),show 12+i*12 - 12=i*12 from by omega,show 12+i*12+v.length - 12=i*12+v.length from by omega]
  simp
theorem anx {w:World} {g t:Nat} {U:List (List Int)} (h:w.heap[g]?=some (.cells (ics U.flatten) t (0,0))) (hU:AC U) {i:Nat} (hi:i < U.length):w.rangeAt g (i*12) (encs (Value.int .i64) (U.getD i [])):=by
 have:=agM h (i*12) 12
 rwa [aoe hU hi] at this
def ahT (U:List (List Int)):List Int:=(ags U).flatten
def knC (U:List (List Int)):List Bool:=U.map fun x=>decide (x≠[])
theorem apg (U:List (List Int)):(knC U).length=U.length:=by simp [knC]
theorem aph {U:List (List Int)} {i:Nat} (h:i < U.length):(knC U).getD i false=decide (U.getD i []≠[]):=by simp [knC,List.getD_eq_getElem?_getD,List.getElem?_eq_getElem h]
theorem aj0 (U:List (List Int)) (i:Nat) {v:List Int} (hv:v≠[]):knC (U.set i v)=(knC U).set i true:=by
 unfold knC;rw [List.map_set,decide_eq_true hv]
theorem aj7 {c:List SQ} {T:List (List Int)} (h:(CS c).St T):AC (ags T):=fun x hx=>by
 obtain⟨y,hy,rfl⟩:=List.mem_map.1 hx;obtain⟨i,hi,e⟩:=List.getElem_of_mem hy;have hn:T.length=c.length:=h.1
 have:=h.2 i (by show i < c.length;omega)
 rw [arJ,List.getD_eq_getElem?_getD,List.getElem?_eq_getElem hi] at this;rw [<- e];exact (ahG this).1
theorem ajy {c:List SQ} {T:List (List Int)} (h:(CS c).St T):(ahT T).length=12*c.length:=by
 unfold ahT;rw [alr (aj7 h),abR,show T.length=c.length from h.1]
theorem ajx {c:List SQ} {T:List (List Int)} (h:(CS c).St T) {i:Nat} (hi:i < c.length) {v:List Int} (hv:v.length=12):over (ahT T) (i*12) v=ahT (T.set i v):=by
 have e:ags (T.set i v)=(ags T).set i v:=by
  unfold ags;rw [List.map_set,ahV,if_neg (fun z=>by rw [z] at hv;simp at hv)]
 unfold ahT;rw [e,aj8 (aj7 h) (by rw [abR,show T.length=c.length from h.1];exact hi) hv]
theorem adH {w:World} {g t:Nat} {c:List SQ} {T:List (List Int)} (h:w.heap[g]?=some (.cells (ics (ahT T)) t (0,0))) (hT:(CS c).St T) {i:Nat} (hi:i < c.length):w.rangeAt g (i*12) (encs (Value.int .i64) (ahV ((CS c).at' T i))):=by
 have hl:T.length=c.length:=hT.1
 have:=anx h (aj7 hT) (i:=i) (by rw [abR];omega)
 rwa [ahF (by omega)] at this
/-- The first p rows laid. -/
def aek (n p:Nat):List Int:=(List.replicate p acP ++ List.replicate (n - p) z12).flatten
theorem ahp:acP.length=12:=aaf _
theorem alq (n p:Nat):AC (List.replicate p acP ++ List.replicate (n - p) z12):=fun x hx=>by
 rcases List.mem_append.1 hx with m|m
 ·rw [List.eq_of_mem_replicate m];exact ahp
 rw [List.eq_of_mem_replicate m];rfl
theorem ane (n:Nat):(List.replicate n z12).flatten=List.replicate (n*12) 0:=by
 induction n with
 | zero=>rfl
 | succ n ih =>
  rw [List.replicate_succ,List.flatten_cons,ih,show (n+1)*12=12+n*12 from by omega,<- List.replicate_append_replicate];rfl
theorem alp (n:Nat):aek n 0=List.replicate (n*12) 0:=by
 unfold aek;rw [List.replicate_zero,List.nil_append,Nat.sub_zero,ane]
theorem anw {n p:Nat} (h:p<=n):(aek n p).length=12*n:=by
 unfold aek;rw [alr (alq n p)]
 simp
 omega
theorem anv {n p:Nat} (h:p < n):over (aek n p) (p*12) acP=aek n (p+1):=by
 unfold aek;rw [aj8 (alq n p) (by simp;omega) ahp]
 congr 1
 obtain⟨m,rfl⟩:∃ m,n=p+(m+1):=⟨n - p - 1,by omega⟩
 rw [show p+(m+1) - p=m+1 from by omega,show p+(m+1) - (p+1)=m from by omega];apply List.ext_getElem (by simp;omega)
 intro i h1 h2;simp only [List.getElem_set,List.getElem_append,List.length_replicate,List.getElem_replicate];split <;> split <;> (try split) <;> first|rfl|omega
theorem apo {c:List SQ}:aek c.length c.length=ahT (Sys.T0 (CS c)):=by
 have e:ags (Sys.T0 (CS c))=List.replicate c.length acP:=by
  unfold ags Sys.T0;apply List.ext_getElem (by simp [CS])
  intro i h1 h2;simp only [List.getElem_map,List.getElem_set,List.getElem_replicate];split
  ·exact if_neg (al8 _)
  exact if_pos rfl
 unfold aek ahT;rw [e,Nat.sub_self,List.replicate_zero,List.append_nil]
theorem ars {c:List SQ}:(List.replicate c.length false).set 0 true=knC (Sys.T0 (CS c)):=by
 unfold Sys.T0;rw [aj0 _ 0 (show (CS c).ini≠[] from al8 _)]
 congr 1
 unfold knC;rw [List.map_replicate];rfl
abbrev bcs (l:List Bool):Array Value:=(encs Value.bool l).toArray
theorem aps {l:List Bool} {i:Nat} (h:i < l.length):(bcs l)[i]?=some (.bool (l.getD i false)):=by simp [encs,List.getD_eq_getElem?_getD,List.getElem?_eq_getElem h]
theorem afE {w:World} {g t:Nat} {l:List Bool} (h:w.heap[g]?=some (.cells (bcs l) t (0,0))) {i:Nat} (hi:i < l.length):w.cell? ⟨g,i,none⟩=some (.bool (l.getD i false)):=(aa3 h i).trans (aps hi)
section
variable {ops:Array Oper} {rest:List Oper} {op:Oper} {a:Act} {Q:Exit->Act->World->Prop}
theorem ao7 {w:World} {p:Tmp} {v:Operand} (ho:op.op = .store 4 (.tmp p) v) (hgd:op.guard=none) (hN:op.dst=none) {g o t:Nat} (hx:a.eval (.tmp p) = .pointer (some ⟨g,o,none⟩)) {y:Bool} {m:List Bool} (hy:a.eval v = .bool y) (hb:w.heap[g]?=some (.cells (bcs m) t (0,0))) (hm:o < m.length)
  (h:∀ w',w'=w.setCell ⟨g,o,none⟩ (.bool y)->w'.heap[g]?=some (.cells (bcs (m.set o y)) t (0,0))->wpList prog ops Q rest (a.put op.dst undef) w'):wpList prog ops Q (op :: rest) a w:=by
 have hc:=afE hb hm;have hf:=aa6 hb o;refine aat (P:=prog) hgd ho hN (w1:=w.setCell ⟨g,o,none⟩ (.bool y)) ?_ (fun w' hw=>?_)
 ·unfold execOp;simp only [ho,hx,hy];first|(go_simp;done)|(go_simp;rfl)
 have e:w'.heap[g]?=some (.cells (bcs (m.set o y)) t (0,0)):=by
  rw [hw,aeX hb]
  congr 1
  simp [encs,List.map_set]
 have:=h w' hw e
 rwa [hN] at this
theorem aiV {W:World} (hgd:op.guard=none) {N:Tmp} (hd:op.dst=some N) {x y:Operand} (ho:op.op = .makeSlice 67 x y) {n:Nat} (hn:n<=600) (hx:a.eval x = iV (n:Int)) (hy:a.eval y = iV (n:Int))
  (h:∀ g,g=W.heap.size->∀ w1,w1.heap[g]?=some (.cells (ics (List.replicate (n*12) 0)) TC (0,0))->Below W.heap.size W w1->wpList prog ops Q rest (a.put op.dst (.slice (some ⟨g,0,none⟩) n n)) w1):wpList prog ops Q (op :: rest) a W:=by
 have hinfo:(prog.info? TC).map (fun i=>(i.zero,i.size,i.bytes))=some (some (.agg (ics z12)),12,96):=by kernel_rfl
 obtain⟨i0,hi,hzz⟩:=Option.map_eq_some_iff.1 hinfo;simp only [Prod.mk.injEq] at hzz;obtain⟨hz0,hz1,hz2⟩:=hzz;have hr:=run_make (P:=prog) W 67 TC i0 (.agg (ics z12)) underlying67 hi hz0 .i64 .i64 (n:Int) (n:Int) (by omega) (Int.le_refl _) (by rw [hz2];omega) (by omega);rw [hz1] at hr;simp only [Int.toNat_natCast] at hr
 have hm:madeCells (Value.agg (ics z12)).cells (n*12)=ics (List.replicate (n*12) 0):=by
  have hz:(Value.agg (ics z12)).cells=Array.replicate 12 (Value.int .i64 0):=rfl
  have hf:∀ j:Nat,(Array.replicate 12 (Value.int .i64 0))[j % 12]! = Value.int .i64 0:=fun j=>by
   rw [getElem!_pos _ _ (by rw [Array.size_replicate];exact Nat.mod_lt _ (by decide)),Array.getElem_replicate]
  rw [hz];apply Array.ext
  ·simp [madeCells,encs]
  intro j h1 h2;simp only [madeCells,Array.getElem_map,Array.size_replicate,Array.getElem_range];rw [hf];simp [encs]
 rw [hm] at hr;refine Kd.event_run hgd (v:=.slice (some ⟨W.heap.size,0,none⟩) n n) (w1:=W.alloc (.cells (ics (List.replicate (n*12) 0)) TC (0,0))) ?_ (h _ rfl _ (ahJ W _) (aax (Below.refl _ _) _));simp [execOp,ho,hx,hy,hr]
theorem ak9 {W:World} (hgd:op.guard=none) {N:Tmp} (hd:op.dst=some N) {x y:Operand} (ho:op.op = .makeSlice 42 x y) {n:Nat} (hn:n<=600) (hx:a.eval x = iV (n:Int)) (hy:a.eval y = iV (n:Int))
  (h:∀ g,g=W.heap.size->∀ w1,w1.heap[g]?=some (.cells (bcs (List.replicate n false)) 4 (0,0))->Below W.heap.size W w1->wpList prog ops Q rest (a.put op.dst (.slice (some ⟨g,0,none⟩) n n)) w1):wpList prog ops Q (op :: rest) a W:=by
 have hinfo:(prog.info? 4).map (fun i=>(i.zero,i.size,i.bytes))=some (some (.bool false),1,1):=by kernel_rfl
 obtain⟨i0,hi,hzz⟩:=Option.map_eq_some_iff.1 hinfo;simp only [Prod.mk.injEq] at hzz;obtain⟨hz0,hz1,hz2⟩:=hzz;have hr:=run_make (P:=prog) W 42 4 i0 (.bool false) underlying42 hi hz0 .i64 .i64 (n:Int) (n:Int) (by omega) (Int.le_refl _) (by rw [hz2];omega) (by omega);rw [hz1] at hr;simp only [Int.toNat_natCast,Nat.mul_one] at hr
 have hm:madeCells (Value.bool false).cells n=bcs (List.replicate n false):=by
  have hz:(Value.bool false).cells = #[.bool false]:=rfl
  rw [hz];apply Array.ext
  ·simp [madeCells,encs]
  intro j h1 h2;simp [madeCells,encs,Nat.mod_one]
 rw [hm] at hr;refine Kd.event_run hgd (v:=.slice (some ⟨W.heap.size,0,none⟩) n n) (w1:=W.alloc (.cells (bcs (List.replicate n false)) 4 (0,0))) ?_ (h _ rfl _ (ahJ W _) (aax (Below.refl _ _) _));simp [execOp,ho,hx,hy,hr]
end
theorem aq8:(prog.info? 54).map (·.size)=some 2:=by kernel_rfl
theorem aqb:prog.cellsOf 54=2:=by kernel_rfl
theorem aoa (w:World) {x:List SF} {i:Nat} (hi:i < x.length):(part 54 (ics (fl x)) (i*2)).run prog w = .ok (.agg #[iV (fa x i).f0,iV (fa x i).f1]) w:=by
 have hl:=aln x
 have he:(ics (fl x)).extract (i*2) (i*2+2) = #[iV (fa x i).f0,iV (fa x i).f1]:=by
  apply Array.ext_getElem?
  intro j;rw [Array.getElem?_extract];have hs:=adJ (fl x);by_cases h0:j=0
  ·subst h0;rw [if_pos (by omega),Nat.add_zero,ahC (by omega),Nat.mul_comm,(alo x i).1];rfl
  by_cases h1:j=1
  ·subst h1;rw [if_pos (by omega),ahC (by omega),Nat.mul_comm,(alo x i).2];rfl
  rw [if_neg (by omega)]
  simp
  omega
 obtain⟨i0,h0,h2⟩:=Option.map_eq_some_iff.1 aq8
 have hagg:(isAgg 54).run prog w = .ok true w:=by
  unfold isAgg;rw [Sem.run_bind,run_underlying underlying54 w];rfl
 have he':List.take 2 (List.drop (i*2) (encs (Value.int .i64) (fl x)))=[iV (fa x i).f0,iV (fa x i).f1]:=by
  have:=congrArg Array.toList he
  simpa using this
 simp [part,Sem.run_bind,hagg,sizeOf,typeInfo,h0,h2,he']
theorem aif (d:Nat) (w:World) {x y:List SF} (hx:x.length=12) (hy:y.length=12):∀ is:List Nat,(∀ i∈is,i < 12)->(Op.eqItems (d+2) 54 2 (ics (fl x)) (ics (fl y)) is).run prog w = .ok (decide (∀ i∈is,fa x i=fa y i)) w
 | [],_=>by simp [Op.eqItems]
 | i :: is,h=>by
  have hi:i < 12:=h i List.mem_cons_self;have ih:=aif d w hx hy is (fun j hj=>h j (List.mem_cons_of_mem _ hj));simp only [Op.eqItems,Sem.run_bind,aoa w (show i < x.length by omega),aoa w (show i < y.length by omega),alu,Result.andThen_ok];by_cases e:fa x i=fa y i
  ·rw [if_neg (by rw [e];simp),ih];simp [e]
  rw [if_pos (by
   have:¬ ((fa x i).f0=(fa y i).f0/\(fa x i).f1=(fa y i).f1):=fun z=>e (af1 z.1 z.2)
   simp only [Bool.not_eq_true',Bool.and_eq_false_iff,beq_eq_false_iff_ne];by_cases z:(fa x i).f0=(fa y i).f0
   ·exact .inr fun q=>this ⟨z,q⟩
   exact .inl z)]
  simp [e]
theorem ary (d:Nat) (w:World) (x y:List SF) (hx:x.length=12) (hy:y.length=12):(Op.equalIn (d+3) T12 (.agg (ics (fl x))) (.agg (ics (fl y)))).run prog w = .ok (decide (x=y)) w:=by
 obtain⟨i0,h0,h2⟩:=Option.map_eq_some_iff.1 aq8;rw [run_equalIn_array w (d+2) (ics (fl x)) (ics (fl y)) underlying56 h0,aqb,aif d w hx hy _ (fun i hi=>List.mem_range.1 hi)];exact congrArg (fun b=>Result.ok b w) (decide_eq_decide.2 ⟨fun z=>aid zF hx hy fun r hr=>z r (List.mem_range.2 hr),fun z i _=>by rw [z]⟩)
end Go.Proofs.YtdkkdiiceaomaaaGreat.M
namespace Go.Proofs.YtdkkdiiceaomaaaGreat.M
open Go.Proofs.Tryz Go.RowKit Go.Proofs.YtdkkdiiceaomaaaGreatW.PrintWords Go.Proofs.YtdkkdiiceaomaaaGreatW.PrintLast Go.Proofs.YtdkkdiiceaomaaaGreatW.PrintMore PM Kd
attribute [local go_sem high] alu ary
theorem ad9 {w w':World} {g o:Nat} {cs:List Value} (h:w.rangeAt g o cs) (hb:Below w.heap.size w w'):w'.rangeAt g o cs:=fun j v hv=>(hb.cell (World.block_lt_of_cell? w _ (h j v hv))).trans (h j v hv)
theorem afU (v:List Nat) (a:Nat):ints (v ++ [a])=ints v ++ [(a:Int)]:=by simp [ints]
attribute [local go_sem high] arQ
theorem R_put {α:Type} {d:Kd α} {e base g o:Nat} {ok:Nat->Prop} {v u:Value} {xs:List α} {w w':World} (hw:w'=w.setCell ⟨g,o,none⟩ u) (hg:∀ k,ok k->k≠g) (h:d.R e w base ok v xs):d.R e w' base ok v xs:=by
 rw [hw];exact R_far (p:=⟨g,o,none⟩) h hg u
theorem an9 {g g':Nat} {w w':World} {o:Nat} {u:Value} (hw:w'=w.setCell ⟨g,o,none⟩ u) (hne:g'≠g) {cs:Array Value} {t:TypeId} (h:w.heap[g']?=some (.cells cs t (0,0))):w'.heap[g']?=some (.cells cs t (0,0)):=by
 rw [hw];exact acp h (p:=⟨g,o,none⟩) hne u
theorem af7 {g:Nat} {w0 w w':World} {o:Nat} {u:Value} (hw:w'=w.setCell ⟨g,o,none⟩ u) (hg:w0.heap.size<=g) (h:Below w0.heap.size w0 w):Below w0.heap.size w0 w':=by
 rw [hw];exact aad h hg
theorem agJ {op:Oper} {x y:Operand} {ev:Operand->Value} {w:World} (ho:op.op = .store TC x y) {g o t:Nat} (hx:ev x = .pointer (some ⟨g,o,none⟩)) {l m:List Int} (hy:ev y = .agg (ics l)) (hl:l.length=12) (hb:w.heap[g]?=some (.cells (ics m) t (0,0))) (hm:o+12<=m.length):(execOp ev op).run prog w = .ok .skip (w.setCells g o (encs (Value.int .i64) l)):=by
 have h1:=run_storeVar_mid (P:=prog) w g o TC (ics l) (by rw [adJ];exact aeO hb (by omega)) (aoY hl) (aj4 l);unfold execOp;simp only [ho,hx,hy,Instr.storeAt,Instr.sureAddr,Sem.run_bind,Sem.run_pure,Result.andThen_ok,h1]
theorem arq {x v:List Int} (hx:x≠[]) (hv:v≠[]):jC x v=mP 12 x v:=by
 unfold jC;rw [if_neg hx,if_neg hv];refine abS (aaf _) (aaf _) fun r hr=>?_
 rw [afq _ _ _ hr,if_pos hr,abE _ hr]
theorem ar7 {G:Prop} (h:G:=by
  go_wp2_with (first|((with_reducible refine ao7 (p:=91) rfl rfl rfl rfl rfl BK.out hkl ?_);intro bL hw hbk;rw [HKN.out] at hbk;have ag:=aM (an9 hw (Ne.symm bq.out) B8.out);have n11:=aM (an9 hw (Ne.symm aC.out) B11.out);have nHW:=aM (R_mono (R_put hw (fun _ hk=>hk.2) (R_types HW.out BK.out (by decide))) (fun _ hk=>hk.1));have nHE:=aM (R_mono (R_put hw (fun _ hk=>hk.2) (R_types HE.out BK.out (by decide))) (fun _ hk=>hk.1));replace BG:=aM (an9 hw NK.out BG.out);replace HB:=aM (af7 hw GK.out HB.out);clear BK B8 B11 HW HE hw;have BK:=aM hbk;have B8:=ag;have B11:=n11;have HW:=nHW;have HE:=nHE;clear ag n11 nHW nHE hbk)|((with_reducible refine afO (N:=94) rfl rfl rfl rfl j12 (abC B11.out) ?_))|((with_reducible refine adh (p:=95) (v:=94) rfl rfl rfl rfl j12 BG.out hmG ?_);intro bM hw hbg;rw [HOV.out] at hbg;replace BK:=aM (aj9 hw (Ne.symm NK.out) BK.out);replace B8:=aM (aj9 hw (Ne.symm N8.out) B8.out);replace HW:=aM (ac4 hw (fun _ hk=>hk.1) HW.out);replace HE:=aM (R_mono (ac4 hw (fun _ hk=>hk.2) (R_types HE.out BG.out (by decide))) (fun _ hk=>hk.1));replace HB:=aM (ac7 hw GG.out HB.out);clear BG hw;have BG:=aM hbg;clear hbg)|((with_reducible refine aa9 (b:=.append) (xs:=#[.tmp 96,.tmp 98]) rfl ?_);at_builtin;refine R_append (Kd.int .i64) (w0:=w) w.heap.size rfl (.tmp 96) (.tmp 98) 28 3 (iV 0) 8 rfl underlying28 akg rfl (by decide) (by omega) (.slice bu (ints l').length bv) (ints l') ni [iV ni] (fun k_=>k_≠g/\some k_≠(.slice (some bz) (ints es).length ce:Value).ownBlock) (fun _=>False) rfl rfl ?aP (fun _ hk=>hk.elim) ?aF ?aO ?aB ?aS ?aL ?_;(case aP=>exact rfl);(case aB=>exact HB.out);(case aF=>exact (fun k_ hk=>⟨fun z=>absurd (ab3 BG.out) (by omega),Kd.fresh' (R_lt HE.out) k_ hk⟩));(case aO=>exact HW.out);(case aS=>exact HB.out.size);(case aL=>rw [ab2];omega);intro bN bO ho hb hg hat;have n2:=aM (aak BG.out hg (R_away HW.out (fun _ hk=>hk.1)));have n3:=aM (aak B8.out hg (R_away (R_types HW.out B8.out (by decide)) (fun _ hk=>hk.2)));have n6:=aM (aak BK.out hg (R_away (R_types HW.out BK.out (by decide)) (fun _ hk=>hk.2)));have n5:=aM (R_after (ok:=fun _=>True) HE.out hg hat);rw [ENI.out] at ho;have n4:=aM ho;replace HB:=aM hb;clear BG BK B8 HW HE ho hb hg hat;have BG:=n2;have BK:=n6;have B8:=n3;have HW:=n4;have HE:=n5;clear n2 n3 n4 n5 n6));go_roundg (es.length - (p+1));case measure=>have:=HP.out.2.1;omega
  exact⟨_,p+1,T'.set en jv,l' ++ [en],rfl,⟨by have:=HP.out.1;(first|omega|(rw [aaJ (by omega) (by omega)];omega)),by omega,HQ.out.1,by have:=HQ.out.2.1;have:=HP.out.2.2.2.1;rw [List.length_append,List.length_singleton];omega,HQ.out.2.2⟩,BG,BK,B8,HW,HE,HB⟩):G:=h
theorem an3 {c:List SQ} (h:CV (qs c)) (A0:Option Addr) (c0:Nat) (w:World) (hr0:Kd.C k31 w A0 c.length c) (hc0:c.length<=c0) :
  Calls prog 51 #[.slice A0 c.length c0] w fun e w'=>∃ g U,(CS c).Lfp U/\e = .returned (.slice (some ⟨g,0,none⟩) c.length c.length)/\w.heap.size<=g/\w'.heap[g]?=some (.cells (ics (ahT U)) TC (0,0))/\Below w.heap.size w w':=by
 have bA:=aM hr0;have bP:=aM hc0;clear hr0 hc0;have h6:=abf h;have h6':c.length<=600:=h6.2;have bQ:decide (0 < (c.length:Int))=true:=decide_eq_true (by omega);have bB:decide (0 < c.length)=true:=decide_eq_true (by omega);have bR:(0 < c.length)=True:=eq_true (by omega);have HB:=jb_ w;go_enter func51,ntmps51;go_wp2_with (first|((with_reducible refine jd 14 ?_);refine aiV rfl (N:=14) rfl rfl h6' rfl rfl ?_;intro g hg w1 hbox hb;have BG:=aM (show w1.heap[g]?=some (.cells (ics (aek c.length 0)) TC (0,0)) by rw [alp];exact hbox);have GG:=aM (show w.heap.size<=g by rw [hg];exact Nat.le_refl _);replace HB:=kH hb;clear hg hbox hb)|((with_reducible refine jd 17 ?_);refine ak9 rfl (N:=17) rfl rfl h6' rfl rfl ?_;intro gK hg w2 hbox hb;have NK:=aM (show g≠gK by rw [hg];exact Nat.ne_of_lt (ab3 BG.out));have BK:=aM hbox;have GK:=kG hg;replace BG:=kB BG hb;replace HB:=kH hb;clear hg hbox hb));go_loopg [20] c.length (fun kq v20 w'=>∃ (pi:Int) (p:Nat),v20 = iV pi/\aa1 (pi=(p:Int)/\p+kq=c.length)/\aa1 (w'.heap[g]?=some (.cells (ics (aek c.length p)) TC (0,0)))/\aa1 (w'.heap[gK]?=some (.cells (bcs (List.replicate c.length false)) 4 (0,0)))/\aa1 (Below w.heap.size w w'));case atStart=>exact⟨0,0,rfl,⟨rfl,Nat.zero_add _⟩,BG,BK,HB⟩
 clear BG BK HB;obtain⟨pi,p,rfl,HP,BG,BK,HB⟩:=hrel;rcases gk with _|k1
 ·have ep:p=c.length:=by have:=HP.out.2;omega
  subst ep;have hpi:pi=(c.length:Int):=HP.out.1;subst hpi;rw [apo] at BG;have hmk:0 < (List.replicate c.length false).length:=by rw [List.length_replicate];omega
  have aV:(List.replicate c.length false).set 0 true=knC (Sys.T0 (CS c)):=ars;have bC:=aM aV;clear aV HP;go_wp2_with (first|((with_reducible refine ao7 (p:=29) rfl rfl rfl rfl rfl BK.out hmk ?_);intro w3 hw hb3;rw [bC.out] at hb3;replace BG:=aM (an9 hw NK.out BG.out);replace HB:=aM (af7 hw GK.out HB.out);clear BK hw;have BK:=aM hb3;clear hb3)|((with_reducible refine jd 30 ?_);refine R_lit (Kd.int .i64) _ 3 ?hg (N:=30) ?hd (xs:=([0]:List Int)) (inner:=[iV 0]) (ok:=fun _=>True) (okp:=fun _=>True) ?hr ?hp (fun _ hk=>hk) trivial (Below.refl _ _) (Nat.le_refl _) (by simp) ?_;(case hd=>rfl);(case hg=>rfl);(case hr=>first|(go_simp;done)|(go_simp;rfl));(case hp=>exact (aav.one (show Kd.M (Kd.int .i64) _ _ _ 0 [iV 0] from rfl) (aa8 _ _)));intro v9 w9 ho hb hg_ hnew_;have n2:=kB BG hb;have n3:=kB BK hb;have HW:=aM (R_mono (ok':=fun k=>k≠g) (R_types (R_lower ho HB.out.size) n2.out (by decide)) (fun _ hk=>hk.2));replace HB:=kH hb;clear BG BK;have BG:=n2;have BK:=n3;clear n2 n3 ho hb hg_ hnew_))
  have cap0:(CS c).cap (Sys.T0 (CS c))+1<=20000:=by
   have:=Sys.cap_le (S:=CS c) (Sys.T0 (CS c))
   rw [(Sys.T0_st (abB h)).1,show (CS c).n*(CS c).top=c.length*13 from rfl] at this;omega
  go_loopg [6] ((CS c).cap (Sys.T0 (CS c))+1) (fun kq v6 w'=>∃ (T:List (List Int)) (l:List Nat),aa1 ((CS c).Wk T l/\(CS c).cap T+l.length<=kq/\kq<=20000)/\aa1 (w'.heap[g]?=some (.cells (ics (ahT T)) TC (0,0)))/\aa1 (w'.heap[gK]?=some (.cells (bcs (knC T)) 4 (0,0)))/\aa1 (Kd.R (Kd.int .i64) 3 w' w.heap.size (fun k=>k≠g) v6 (ints l))/\aa1 (Below w.heap.size w w'));case atStart=>exact⟨_,[0],⟨Sys.wk0 (abB h),Nat.le_refl _,cap0⟩,BG,BK,HW,HB⟩
  clear BG BK HW HB;obtain⟨T,l,HK,BG,BK,HW,HB⟩:=hrel;obtain⟨Ao,co,rfl⟩:=R_slice HW.out;by_cases el:l=[]
  ·subst el;have z:decide (0 < (ints []).length)=false:=rfl;go_wp2;go_ret;exact⟨g,T,Sys.wk_end HK.out.1,rfl,GG.out,BG.out,HB.out⟩
  obtain⟨v,a,rfl⟩:=ape el;obtain⟨ha,hb_,hk,hcap⟩:=Sys.wk_step (abB h) HK.out.1;have aG:a < c.length:=ha;have hT:=HK.out.1.1.1;have hTl:T.length=c.length:=hT.1;obtain⟨x,hx⟩:∃ x,x=(CS c).at' T a:=⟨_,rfl⟩
  have okx:okC x:=by rw [hx];exact hT.2 a ha
  have gx:x≠[]:=by rw [hx];exact hb_
  have aW:=(abM okx gx).1;have fx:ahV ((CS c).at' T a)=x:=by rw [<- hx];exact if_neg gx
  have LL:(ints (v ++ [a])).length=v.length+1:=by rw [ab2];simp
  obtain⟨y,hy⟩:∃ y:List Int,y=ints (v ++ [a]):=⟨_,rfl⟩
  rw [<- hy] at HW LL ⊢;obtain⟨ji,hji⟩:∃ j:Int,j=(v.length:Int):=⟨_,rfl⟩
  obtain⟨ai,hai⟩:∃ j:Int,j=(a:Int):=⟨_,rfl⟩
  have hrd:rd y ji=ai:=by
   rw [hji,hai,hy,ad8];simp [List.getD_eq_getElem?_getD]
  have htk:y.take ji.toNat=ints v:=by rw [hji,hy,Int.toNat_natCast,afU,<- ab2 v,List.take_left]
  have vb:v.length<=100000:=by
   have:=HK.out.2
   rw [List.length_append] at this;omega
  have hjw:IntKind.i64.wrap ((y.length:Int) - 1)=ji:=by rw [LL,hji,aaw,aaJ (by omega) (by omega)];omega
  have yb:decide (0 < (y.length:Int))=true:=decide_eq_true (by omega);have yb':decide (0 < y.length)=true:=decide_eq_true (by omega);have j0:0<=ji:=by omega
  have j1:ji < (y.length:Int):=by omega
  have j2:ji<=(y.length:Int):=by omega
  obtain⟨ad,e,hx0⟩:=Kd.at_int (R_reads' HW.out).2.2 ji j0 j1;cases e;rw [hrd] at hx0;obtain⟨i0,hi0,_,hsz,_⟩:=info_parts akg;have hcut:=aog (P:=prog) 28 3 .i64 underlying28 hi0 (some ad) y.length co ji j0 j2 (R_reads' HW.out).2.1;have hr:=R_take (m:=ji.toNat) HW.out (by omega);rw [htk] at hr;have hvl:(ints v).length=ji.toNat:=by rw [ab2,hji];rfl
  rw [<- hvl] at hr hcut;clear HW hi0 hsz;have HW:=aM hr;clear hr;have a0:0<=ai:=by omega
  have a1:ai < (c.length:Int):=by omega
  obtain⟨aq,e2,x0,x1,x2,x3,x4⟩:=aaQ bA.out ai a0 a1;cases e2;replace x0:=kx HB x0;replace x1:=kx HB x1;replace x2:=kx HB x2;replace x3:=kx HB x3;replace x4:=kx HB x4;have bS:=eq_true j0;have bT:=eq_true j1;have bU:=eq_true j2;have bV:=decide_eq_true j0;have bW:=decide_eq_true j1;have bX:=decide_eq_true j2;have bY:=eq_true a0;have bZ:=eq_true a1;have cu:=decide_eq_true a0;have cz:=decide_eq_true a1;have HAI:=aM hai;have HX:=aM hx;clear hai;clear j0 j1 j2 a0 a1 LL hy hx hji hrd htk hvl el hk hcap;go_wp2;have hq:=abT h aG;have rq:aa0 c ai=qa c a:=by rw [HAI.out];exact ac5 c a
  rw [rq] at x0 x1 x2 x3 x4;have go1:=fun W=>an2 aW hq W
  have hbt:∀ w',Below wr.heap.size wr w'->w'.rangeAt g (ai.toNat*12) (encs (Value.int .i64) x):=fun w' hw'=>by
   have:=adH ((hw'.block g (ab3 BG.out)).trans BG.out) hT aG
   rw [fx] at this;rw [HAI.out,Int.toNat_natCast];exact this
  have hx0':∀ w',Below wr.heap.size wr w'->w'.cell? (aq.add (ai.toNat*5))=some (iV (qa c a).f0):=fun w' hw'=>(hw'.cell (World.block_lt_of_cell? wr _ x0)).trans x0
  have au:∀ w',Below wr.heap.size wr w'->w'.cell? ⟨(aq.add (ai.toNat*5)).block,(aq.add (ai.toNat*5)).off+1,none⟩=some (iV (qa c a).f1):=fun w' hw'=>(hw'.cell (World.block_lt_of_cell? wr _ x1)).trans x1
  have av:∀ w',Below wr.heap.size wr w'->w'.cell? ⟨(aq.add (ai.toNat*5)).block,(aq.add (ai.toNat*5)).off+2,none⟩=some (iV (qa c a).f2):=fun w' hw'=>(hw'.cell (World.block_lt_of_cell? wr _ x2)).trans x2
  have ax:∀ w',Below wr.heap.size wr w'->w'.cell? ⟨(aq.add (ai.toNat*5)).block,(aq.add (ai.toNat*5)).off+3,none⟩=some (iV (qa c a).f3):=fun w' hw'=>(hw'.cell (World.block_lt_of_cell? wr _ x3)).trans x3
  have ay:∀ w',Below wr.heap.size wr w'->w'.cell? ⟨(aq.add (ai.toNat*5)).block,(aq.add (ai.toNat*5)).off+4,none⟩=some (iV (qa c a).f4):=fun w' hw'=>(hw'.cell (World.block_lt_of_cell? wr _ x4)).trans x4
  clear x0 x1 x2 x3 x4 hx0 hcut;obtain⟨vv,hvv⟩:∃ vv,vv=aeZ (q_ (qa c a)) x:=⟨_,rfl⟩
  have okv:okC vv:=by rw [hvv];exact (aeY hq okx gx).1
  have gv:vv≠[]:=by rw [hvv];exact (aeY hq okx gx).2
  have v12:=(abM okv gv).1;rw [<- hvv] at go1;have HVV:=aM hvv;clear hvv;have aH:=fun W=>ar4 h aG W
  rw [<- HAI.out] at aH;obtain⟨es,hes⟩:∃ es,es=nx (q_ (qa c a)) a:=⟨_,rfl⟩
  rw [<- hes] at aH;have HES:=aM hes;clear hes;refine abx (n:=11) (S:=fun w'=>Below wr.heap.size wr w') (ds:=[]) (jb 11 0) (by kernel_rfl) rfl rfl (aah (Below.refl _ _)) (fun hHeld=>?_);generalize wr.drew=wd at hHeld ⊢;refine jq 0 45 (jb 11 1) ?_;refine jq 1 46 (jb 11 3) ?_;refine jq 2 47 (jb 11 7) ?_;refine jq 4 49 (jb 11 23) ?_;refine jq 5 50 (jb 11 55) ?_;refine jq 6 51 (jb 11 119) ?_;refine take_ (i:=3) (N:=some 48) (a':=?_) (jb 11 127) rfl rfl (by kernel_rfl) (fun _ _ _ h=>h) (yieldsIf_load_mid (by rfl) TC (.tmp 47) rfl g (ai.toNat*12) rfl _ _ hbt underlying70 rfl (agH aW)) hHeld ?_ ?_;rotate_left
  ·exact qP
  refine take_ (i:=7) (N:=some 52) (v:=?_) (a':=?_) (jb 11 255) rfl rfl (by kernel_rfl) (fun _ _ _ h=>h) (Or.inl ⟨by rfl,?_⟩) hHeld ?_ ?_;rotate_left
  ·intro w' hs;have y0:=hx0' w' hs;have y1:=au w' hs;have y2:=av w' hs;have y3:=ax w' hs;have y4:=ay w' hs;go_simp
   with_reducible rfl
  rotate_left
  ·exact qP
  refine acl (σ:=Nat) 1 (jb 11 1023) (fun s_=>[(53,.agg (ics vv)),(8,.pointer (some ⟨s_,0,none⟩))]) (fun s_ w'=>Below wr.heap.size wr w'/\wr.heap.size<=s_/\w'.heap[s_]?=some (.cells (ics z12) TC (0,0))) ?_ ?_;rotate_left
  ·intro hCont;refine aky (i:=8) (j:=9) (Ni:=some 53) (Nj:=some 8) (jb 11 511) (jb 11 767) rfl rfl rfl rfl (by kernel_rfl) (by decide) (by decide) (fun K hK=>?_) (fun K hK=>?_)
   ·skip
    refine abm func84 (by kernel_rfl) rfl #[.agg (ics x),.agg #[iV (qa c a).f0,iV (qa c a).f1,iV (qa c a).f2,iV (qa c a).f3,iV (qa c a).f4]] (by rfl) rfl rfl qM ?_
    (with_reducible refine (go1 _).mono ?_);rintro e bD ⟨rfl,hb⟩;refine⟨_,rfl,?_⟩;refine hK.out _ _ (aaL hHeld hb) (fun hHeld=>?_);clear hK K;refine aau (a':=?_) ?_ ?_;rotate_left
    ·show Act.put _ (some 53) _=_
     simp only [Act.put,List.setIfInBounds_toArray,List.set_cons_zero,List.set_cons_succ,aaw,aaA];rfl
    refine ad3 (i:=9) (N:=some 8) (jb 11 1023) rfl rfl (by kernel_rfl) (by decide) (fun K hK=>?_);refine aeq ?hg (N:=8) ?hd (cs:=ics z12) (t:=TC) ?hr ?_;(case hd=>rfl);(case hg=>rfl);(case hr=>first|(go_simp;done)|(go_simp;rfl));intro g8 aT w16 hbox hb;refine hK.out _ _ (aaL hHeld hb) (fun ae=>?_);clear hK K;refine aau (a':=?_) ?_ ?_;rotate_left
    ·show Act.put _ (some 8) _=_
     simp only [Act.put,List.setIfInBounds_toArray,List.set_cons_zero,List.set_cons_succ,aaw,aaA];rfl
    exact aau (by simp only [aba,Act.put,List.setIfInBounds_toArray,List.set_cons_zero,List.set_cons_succ]) (hCont g8 _ ⟨ae,(by rw [aT];exact hHeld.size),hbox⟩)
   skip
   refine aeq ?hg (N:=8) ?hd (cs:=ics z12) (t:=TC) ?hr ?_;(case hd=>rfl);(case hg=>rfl);(case hr=>first|(go_simp;done)|(go_simp;rfl));intro g8 aT w16 hbox hb;refine hK.out _ _ (aaL hHeld hb) (fun ae=>?_);clear hK K;refine aau (a':=?_) ?_ ?_;rotate_left
   ·show Act.put _ (some 8) _=_
    simp only [Act.put,List.setIfInBounds_toArray,List.set_cons_zero,List.set_cons_succ,aaw,aaA];rfl
   refine ad3 (i:=8) (N:=some 53) (jb 11 1023) rfl rfl (by kernel_rfl) (by decide) (fun K hK=>?_);refine abm func84 (by kernel_rfl) rfl #[.agg (ics x),.agg #[iV (qa c a).f0,iV (qa c a).f1,iV (qa c a).f2,iV (qa c a).f3,iV (qa c a).f4]] (by rfl) rfl rfl qM ?_
   (with_reducible refine (go1 _).mono ?_);rintro e bD ⟨rfl,hb⟩;refine⟨_,rfl,?_⟩;refine hK.out _ _ (aaL ae hb) (fun az=>?_);clear hK K;refine aau (a':=?_) ?_ ?_;rotate_left
   ·show Act.put _ (some 53) _=_
    simp only [Act.put,List.setIfInBounds_toArray,List.set_cons_zero,List.set_cons_succ,aaw,aaA];rfl
   exact aau (by simp only [aba,Act.put,List.setIfInBounds_toArray,List.set_cons_zero,List.set_cons_succ]) (hCont g8 _ ⟨az,(by rw [aT];exact hHeld.size),aaO hbox hb⟩)
  intro g8 aI hF;obtain⟨hHeld,G8,B8⟩:=hF;refine aau (a':=?_) ?_ ?_;rotate_left
  ·simp only [aba,Act.put,List.setIfInBounds_toArray,List.set_cons_zero,List.set_cons_succ];rfl
  refine ad3 (i:=10) (N:=none) (jb 11 2047) rfl rfl (by kernel_rfl) (by decide) (fun K hK=>?_);refine afJ (w1:=aI.setCells g8 0 (encs (Value.int .i64) vv)) (by rfl) rfl ?_ ?_
  ·exact agJ (x:=.tmp 8) (y:=.tmp 53) (g:=g8) (o:=0) rfl rfl rfl v12 B8 (by decide)
  refine hK.out _ _ (acK G8 _ _ _ hHeld) (fun hHeld=>?_);clear hK K;refine ac6 (by kernel_rfl) ?_
  have aU:(aI.setCells g8 0 (encs (Value.int .i64) vv)).heap[g8]?=some (.cells (ics vv) TC (0,0)):=by
   have:=abQ vv 0 z12 aI B8 (by rw [v12];decide)
   rwa [abJ (by rw [v12];rfl)] at this
  generalize aI.setCells g8 0 (encs (Value.int .i64) vv)=cB at hHeld aU ⊢;clear B8;have y0:=hx0' _ hHeld;have y1:=au _ hHeld;have y2:=av _ hHeld;have y3:=ax _ hHeld;have y4:=ay _ hHeld;go_wp2_with (first|(go_at_call 65;(with_reducible refine (aH _).mono ?_);rintro e cK ⟨v19,rfl,ho,hb⟩;obtain⟨Ae,ce,rfl⟩:=R_slice ho;have ah:=aaL hHeld hb;have hsz:=hHeld.size;have aX:=aaO aU hb;clear y0 y1 y2 y3 y4 hHeld aU hb));have HW1:=aM (R_elder' HW.out (fun k hk=>Nat.le_trans hsz (R_base ho k hk)) ah);have aY:=aM (R_lower (R_new' ho (fun k hk=>Nat.lt_of_lt_of_le (R_lt HW.out k hk) hsz)) (Nat.le_trans HB.out.size hsz));have aZ:=aM (aaO BG.out ah);have bg:=aM (aaO BK.out ah);have bi:=aM aX;have HB1:=aM (aaL HB.out ah);have cO:=aM (Nat.le_trans HB.out.size G8);have N8:aa1 (g≠g8):=⟨Nat.ne_of_lt (Nat.lt_of_lt_of_le (ab3 BG.out) G8)⟩;have bq:aa1 (gK≠g8):=⟨Nat.ne_of_lt (Nat.lt_of_lt_of_le (ab3 BK.out) G8)⟩;clear HW HB BG BK ah ho hsz G8 hbt hx0' au av ax ay go1 aH hb_ aX
  have fin:Sys.wpass (CS c) ((CS c).out a ((CS c).at' T a)) T v=Sys.wpass (CS c) (es.map fun e=>(e,vv)) T v:=by
   have g0:(CS c).at' T a≠[]:=by rw [<- HX.out];exact gx
   have e:(CS c).out a ((CS c).at' T a)=(nx (q_ (qa c a)) a).map fun e=>(e,aeZ (q_ (qa c a)) ((CS c).at' T a)):=if_neg g0
   rw [e,<- HX.out,<- HES.out,<- HVV.out]
  have FIN:=aM fin;clear fin
  have hel:∀ e∈es,e < c.length:=fun e he=>by
   rw [HES.out] at he;exact ajJ h aG he
  have bE:es.length<=2:=by rw [HES.out];exact ai4 _ _
  go_loopg [6,61] es.length (fun kq v6 v61 w'=>∃ (pj:Int) (p:Nat) (T':List (List Int)) (l':List Nat),v61 = iV pj/\aa1 (pj=(p:Int)/\p+kq=es.length/\(CS c).St T'/\(CS c).cap T' + l'.length<=20000/\Sys.wpass (CS c) ((es.drop p).map fun e=>(e,vv)) T' l'=Sys.wpass (CS c) (es.map fun e=>(e,vv)) T v)/\aa1 (w'.heap[g]?=some (.cells (ics (ahT T')) TC (0,0)))/\aa1 (w'.heap[gK]?=some (.cells (bcs (knC T')) 4 (0,0)))/\aa1 (w'.heap[g8]?=some (.cells (ics vv) TC (0,0)))/\aa1 (Kd.R (Kd.int .i64) 3 w' w.heap.size (fun k=>k≠g/\some k≠(.slice Ae (ints es).length ce:Value).ownBlock) v6 (ints l'))/\aa1 (Kd.R (Kd.int .i64) 3 w' w.heap.size (fun k=>True/\some k≠v6.ownBlock) (.slice Ae (ints es).length ce) (ints es))/\aa1 (Below w.heap.size w w'));case atStart=>exact⟨0,0,T,v,rfl,⟨rfl,Nat.zero_add _,hT,by have:=HK.out.2;rw [List.length_append] at this;omega,by rw [List.drop_zero]⟩,aZ,bg,bi,HW1,aY,HB1⟩
  clear aZ bg bi HW1 aY HB1;obtain⟨pj,p,T',l',rfl,HP,BG,BK,B8,HW,HE,HB⟩:=hrel;obtain⟨hpj,hpk,hT',hc',hfin⟩:=HP.out;clear HP;obtain⟨bu,bv,rfl⟩:=R_slice HW.out;by_cases ep:p < es.length
  ·have hpb:p < es.length:=ep;obtain⟨en,hen⟩:∃ en,en=es.getD p 0:=⟨_,rfl⟩
   have hec:en < c.length:=by rw [hen];exact hel _ (adc hpb)
   obtain⟨ni,hni⟩:∃ j:Int,j=(en:Int):=⟨_,rfl⟩
   have hTl':T'.length=c.length:=hT'.1;obtain⟨tn,htn⟩:∃ tn,tn=(CS c).at' T' en:=⟨_,rfl⟩
   have okt:okC tn:=by rw [htn];exact hT'.2 en hec
   have hkl:ni.toNat < (knC T').length:=by rw [apg,hni,Int.toNat_natCast];omega
   have hkv:(knC T').getD ni.toNat false=decide (tn≠[]):=by rw [hni,Int.toNat_natCast,aph (by omega),htn];rfl
   have aJ:0<=pj:=by omega
   have aK:pj < ((ints es).length:Int):=by rw [ab2];omega
   have hrd:rd (ints es) pj=ni:=by rw [hpj,ad8,hni,hen]
   obtain⟨bz,e2,hx0⟩:=Kd.at_int (R_reads' HE.out).2.2 pj aJ aK;cases e2;rw [hrd] at hx0;have n0:0<=ni:=by omega
   have n1:ni < (c.length:Int):=by omega
   have bF:=eq_true aJ;have bG:=eq_true aK;have bH:=decide_eq_true aJ;have bI:=decide_eq_true aK;have df:=eq_true n0;have dh:=eq_true n1;have di:=decide_eq_true n0;have n1b:=decide_eq_true n1;obtain⟨jv,hjv⟩:∃ jv,jv=jC tn vv:=⟨_,rfl⟩
   have okj:okC jv:=by rw [hjv];exact (abB h).okj _ _ okt okv
   have gj:jv≠[]:=by
    rw [hjv];by_cases z:tn=[]
    ·rw [z];exact gv
    exact aj2 z
   have j12:=(abM okj gj).1;have HP:=aM (And.intro hpj (And.intro hpk (And.intro hT' (And.intro hc' hfin))));have HN:=aM (And.intro hen hni);have HTN:=aM htn;have HJV:=aM hjv;have hdrop:es.drop p=en :: es.drop (p+1):=by rw [hen];exact aco 0 hpb
   have HDR:=aM hdrop;have HKV:=aM hkv;clear hpj hpk hT' hc' hfin hen hni htn hrd aJ aK n0 n1 ep hjv hkv hdrop;by_cases et:tn=[]
   ·have ejv:vv=jv:=by rw [HJV.out,et];rfl
    have HEJ:=aM ejv;have kb:decide (tn≠[])=false:=decide_eq_false (fun z=>z et);have HKB:=aM kb;clear ejv kb et;go_wp2_with (first|((with_reducible refine afO (N:=65) rfl rfl rfl rfl v12 (abC B8.out) ?_))|((with_reducible refine jd 11 ?_);refine jX (ics z12) TC ?_;intro g11 hg bJ hbox hb;have aN:=aM (show g≠g11 by rw [hg];exact Nat.ne_of_lt (ab3 BG.out));have aC:=aM (show gK≠g11 by rw [hg];exact Nat.ne_of_lt (ab3 BK.out));have aQ:=aM (show g8≠g11 by rw [hg];exact Nat.ne_of_lt (ab3 B8.out));have aR:=kG hg;replace BG:=kB BG hb;replace BK:=kB BK hb;replace B8:=kB B8 hb;replace HW:=kR HW hb;replace HE:=kR HE hb;replace HB:=kH hb;clear hx0;have B11:=aM hbox;clear hg hbox hb)|((with_reducible refine adh (p:=11) (v:=65) rfl rfl rfl rfl v12 B11.out (by decide) ?_);intro af hw aa;rw [abJ (by rw [v12];rfl)] at aa;replace BG:=aM (aj9 hw aN.out BG.out);replace BK:=aM (aj9 hw aC.out BK.out);replace B8:=aM (aj9 hw aQ.out B8.out);replace HW:=aM (R_mono (ac4 hw (fun _ hk=>hk.2) (R_types HW.out B11.out (by decide))) (fun _ hk=>hk.1));replace HE:=aM (R_mono (ac4 hw (fun _ hk=>hk.2) (R_types HE.out B11.out (by decide))) (fun _ hk=>hk.1));replace HB:=aM (ac7 hw aR.out HB.out);clear B11 hw;have B11:=aM aa;clear aa;have yk:af.cell? ⟨gK,ni.toNat,none⟩=some (.bool false):=by have:=afE BK.out hkl;rwa [HKV.out,HKB.out] at this));refine abx (n:=13) (S:=fun w'=>Below af.heap.size af w') (ds:=[]) (jb 13 0) (by kernel_rfl) rfl rfl (aah (Below.refl _ _)) (fun hHeld=>?_);have HWD:aa1 (Below af.heap.size af af.drew):=⟨hHeld⟩;generalize af.drew=wd4 at hHeld HWD ⊢;refine jq 0 76 (jb 13 1) ?_;refine jq 1 77 (jb 13 3) ?_;refine jq 2 78 (jb 13 7) ?_;refine take_ (i:=3) (N:=some 79) (v:=?_) (a':=?_) (jb 13 15) rfl rfl (by kernel_rfl) (fun _ _ _ h=>h) (Or.inl ⟨by rfl,?_⟩) hHeld ?_ ?_;rotate_left
    ·intro w' hs;have z0:=(hs.cell (World.block_lt_of_cell? af _ yk)).trans yk;go_simp
     with_reducible rfl
    rotate_left
    ·exact qP
    refine jq 4 80 (jb 13 31) ?_;refine jq 5 81 (jb 13 63) ?_;refine aed (i:=6) (N:=some 82) (v:=undef) (a':=?_) (jb 13 127) rfl rfl (by kernel_rfl) (fun _ _ _ h=>h) (Or.inr ⟨by rfl,rfl⟩) ?_ ?_;rotate_left
    ·exact qP
    refine aed (i:=7) (N:=some 83) (v:=undef) (a':=?_) (jb 13 255) rfl rfl (by kernel_rfl) (fun _ _ _ h=>h) (Or.inr ⟨by rfl,rfl⟩) ?_ ?_;rotate_left
    ·exact qP
    refine aed (i:=8) (N:=some 84) (v:=undef) (a':=?_) (jb 13 511) rfl rfl (by kernel_rfl) (fun _ _ _ h=>h) (Or.inr ⟨by rfl,rfl⟩) ?_ ?_;rotate_left
    ·exact qP
    refine aed (i:=9) (N:=some 85) (v:=undef) (a':=?_) (jb 13 1023) rfl rfl (by kernel_rfl) (fun _ _ _ h=>h) (Or.inr ⟨by rfl,rfl⟩) ?_ ?_;rotate_left
    ·exact qP
    refine aed (i:=10) (N:=some 86) (v:=undef) (a':=?_) (jb 13 2047) rfl rfl (by kernel_rfl) (fun _ _ _ h=>h) (Or.inr ⟨by rfl,rfl⟩) ?_ ?_;rotate_left
    ·exact qP
    refine aed (i:=11) (N:=some 87) (v:=undef) (a':=?_) (jb 13 4095) rfl rfl (by kernel_rfl) (fun _ _ _ h=>h) (Or.inr ⟨by rfl,rfl⟩) ?_ ?_;rotate_left
    ·exact qP
    refine jq 12 88 (jb 13 8191) ?_;refine ac6 (by kernel_rfl) ?_;have nBG:=aM (aaO BG.out HWD.out);have nBK:=aM (aaO BK.out HWD.out);have ag:=aM (aaO B8.out HWD.out);have nHW:=aM (R_below HW.out HWD.out);have nHE:=aM (R_below HE.out HWD.out);have aj:=aM (aaO B11.out HWD.out);have nHB:=aM (aaL HB.out HWD.out);clear HB BG BK B8 HW HE B11 HWD hHeld yk;have BG:=nBG;have BK:=nBK;have B8:=ag;have HW:=nHW;have HE:=nHE;have B11:=aj;have HB:=nHB;clear nHB nBG nBK ag nHW nHE aj;rw [HEJ.out] at B11
    have neq:(CS c).jn ((CS c).at' T' en) vv≠(CS c).at' T' en:=by
     show ¬ jC ((CS c).at' T' en) vv=(CS c).at' T' en
     rw [<- HTN.out,<- HJV.out];exact fun z=>gj (by rw [z];exact Classical.byContradiction fun y=>absurd HKB.out (by rw [decide_eq_true y];decide))
    have hen:en < (CS c).n:=hec
    have eput:Sys.put (CS c) T' (en,vv)=T'.set en jv:=by
     show T'.set en (jC ((CS c).at' T' en) vv)=_
     rw [<- HTN.out,<- HJV.out]
    have st2:=Sys.put_st (abB h) HP.out.2.2.1 (p:=(en,vv)) hen okv;have cp2:=Sys.put_cap (abB h) HP.out.2.2.1 (p:=(en,vv)) hen okv neq
    have hw2:Sys.wpass (CS c) ((es.drop (p+1)).map fun e=>(e,vv)) (Sys.put (CS c) T' (en,vv)) (l' ++ [en])=Sys.wpass (CS c) (es.map fun e=>(e,vv)) T v:=by
     rw [<- HP.out.2.2.2.2,HDR.out,List.map_cons,Sys.wpass,if_neg neq]
    rw [eput] at st2 cp2 hw2;have HQ:=aM (And.intro st2 (And.intro cp2 hw2))
    have hmG:ni.toNat*12+12<=(ahT T').length:=by
     rw [ajy HP.out.2.2.1,HN.out.2,Int.toNat_natCast];omega
    have hov:over (ahT T') (ni.toNat*12) jv=ahT (T'.set en jv):=by
     rw [HN.out.2,Int.toNat_natCast];exact ajx HP.out.2.2.1 hec j12
    have hkn:(knC T').set ni.toNat true=knC (T'.set en jv):=by
     rw [HN.out.2,Int.toNat_natCast];exact (aj0 T' en gj).symm
    have HOV:=aM hov;have HKN:=aM hkn;have bK:l'.length<=20000:=by have:=HP.out.2.2.2.1;omega
    have eni:ints l' ++ [ni]=ints (l' ++ [en]):=by rw [HN.out.2,afU]
    have ENI:=aM eni;clear hen neq eput st2 cp2 hw2 hov hkn eni;exact ar7
   have kb:decide (tn≠[])=true:=decide_eq_true et;have HKB:=aM kb;have HET:=aM et;have t12:=(abM okt et).1;have ejv:mP 12 tn vv=jv:=by rw [HJV.out,arq et gv]
   have HEJ:=aM ejv;have ftn:ahV ((CS c).at' T' en)=tn:=by rw [<- HTN.out];exact if_neg et
   have FTN:=aM ftn;clear ejv kb et ftn;go_wp2_with (first|((with_reducible refine afO (N:=65) rfl rfl rfl rfl v12 (abC B8.out) ?_))|((with_reducible refine jd 11 ?_);refine jX (ics z12) TC ?_;intro g11 hg bJ hbox hb;have aN:=aM (show g≠g11 by rw [hg];exact Nat.ne_of_lt (ab3 BG.out));have aC:=aM (show gK≠g11 by rw [hg];exact Nat.ne_of_lt (ab3 BK.out));have aQ:=aM (show g8≠g11 by rw [hg];exact Nat.ne_of_lt (ab3 B8.out));have aR:=kG hg;replace BG:=kB BG hb;replace BK:=kB BK hb;replace B8:=kB B8 hb;replace HW:=kR HW hb;replace HE:=kR HE hb;replace HB:=kH hb;clear hx0;have B11:=aM hbox;clear hg hbox hb)|((with_reducible refine adh (p:=11) (v:=65) rfl rfl rfl rfl v12 B11.out (by decide) ?_);intro af hw aa;rw [abJ (by rw [v12];rfl)] at aa;replace BG:=aM (aj9 hw aN.out BG.out);replace BK:=aM (aj9 hw aC.out BK.out);replace B8:=aM (aj9 hw aQ.out B8.out);replace HW:=aM (R_mono (ac4 hw (fun _ hk=>hk.2) (R_types HW.out B11.out (by decide))) (fun _ hk=>hk.1));replace HE:=aM (R_mono (ac4 hw (fun _ hk=>hk.2) (R_types HE.out B11.out (by decide))) (fun _ hk=>hk.1));replace HB:=aM (ac7 hw aR.out HB.out);clear B11 hw;have B11:=aM aa;clear aa;have yk:af.cell? ⟨gK,ni.toNat,none⟩=some (.bool true):=by have:=afE BK.out hkl;rwa [HKV.out,HKB.out] at this))
   have hrg:af.rangeAt g (ni.toNat*12) (encs (Value.int .i64) tn):=by
    have:=adH BG.out HP.out.2.2.1 hec
    rw [FTN.out] at this;rw [HN.out.2,Int.toNat_natCast];exact this
   have aD:af.rangeAt g8 0 (encs (Value.int .i64) vv):=abC B8.out;have bn:=fun W=>an1 t12 v12 W
   refine abx (n:=7) (S:=fun w'=>Below af.heap.size af w') (ds:=[6]) (jb 7 0) (by kernel_rfl) rfl rfl (aah (Below.refl _ _)) (fun hHeld=>?_);generalize af.drew=wd3 at hHeld ⊢;refine jq 0 70 (jb 7 1) ?_;refine jq 1 71 (jb 7 3) ?_;refine jq 2 72 (jb 7 7) ?_;refine take_ (i:=3) (N:=some 73) (a':=?_) (jb 7 15) rfl rfl (by kernel_rfl) (fun _ _ _ h=>h) (yieldsIf_load_mid (by rfl) TC (.tmp 72) rfl g (ni.toNat*12) rfl _ _ (fun w' hs=>ad9 hrg hs) underlying70 rfl (agH t12)) hHeld ?_ ?_;rotate_left
   ·exact qP
   refine take_ (i:=4) (N:=some 74) (a':=?_) (jb 7 31) rfl rfl (by kernel_rfl) (fun _ _ _ h=>h) (yieldsIf_load_mid (by rfl) TC (.tmp 8) rfl g8 0 rfl _ _ (fun w' hs=>ad9 aD hs) underlying70 rfl (agH v12)) hHeld ?_ ?_;rotate_left
   ·exact qP
   refine ad3 (i:=5) (N:=some 75) (jb 7 63) rfl rfl (by kernel_rfl) (by decide) (fun K hK=>?_);refine abm func85 (by kernel_rfl) rfl #[.agg (ics tn),.agg (ics vv)] (by rfl) rfl rfl qM ?_
   (with_reducible refine (bn _).mono ?_);rintro e aA ⟨rfl,hb⟩;refine⟨_,rfl,?_⟩;refine hK.out _ _ (aaL hHeld hb) (fun hHeld=>?_);clear hK K hb;refine aau (a':=?_) ?_ ?_;rotate_left
   ·show Act.put _ (some 75) _=_
    simp only [Act.put,List.setIfInBounds_toArray,List.set_cons_zero,List.set_cons_succ,aaw,aaA];rfl
   refine ai7 (i:=6) (N:=none) (jb 7 127) rfl rfl (by kernel_rfl) (by decide) (fun K hK=>?_);have m12:(mP 12 tn vv).length=12:=aaf _;have ak:=aaO B11.out hHeld;refine afJ (w1:=aA.setCells g11 0 (encs (Value.int .i64) (mP 12 tn vv))) (by rfl) rfl ?_ ?_
   ·exact agJ (x:=.tmp 11) (y:=.tmp 75) (g:=g11) (o:=0) rfl rfl rfl m12 ak (by rw [v12];decide)
   refine hK.out _ _ ?_;clear hK K;refine ac6 (by kernel_rfl) ?_;have hw:aA.setCells g11 0 (encs (Value.int .i64) (mP 12 tn vv))=aA.setCells g11 0 (encs (Value.int .i64) (mP 12 tn vv)):=rfl;have aa:=abQ (mP 12 tn vv) 0 vv aA ak (by rw [m12,v12];decide);rw [abJ (by rw [m12,v12]),HEJ.out] at aa;rw [HEJ.out] at hw ⊢;have nBG:=aM (aaO BG.out hHeld);have nBK:=aM (aaO BK.out hHeld);have ag:=aM (aaO B8.out hHeld);have nHW:=aM (R_below HW.out hHeld);have nHE:=aM (R_below HE.out hHeld);have nHB:=aM (aaL HB.out hHeld);clear HB BG BK B8 HW HE;have BG:=nBG;have BK:=nBK;have B8:=ag;have HW:=nHW;have HE:=nHE;have HB:=nHB;clear nHB nBG nBK ag nHW nHE;generalize hwm:aA.setCells g11 0 (encs (Value.int .i64) jv)=wm at aa ⊢;clear hw;have hw:=hwm.symm;have B11:aa1 (aA.heap[g11]?=some (.cells (ics vv) TC (0,0))):=⟨ak⟩;clear ak hwm hHeld hrg aD bn yk;have nBG:=aM (aj9 hw aN.out BG.out);have nBK:=aM (aj9 hw aC.out BK.out);have ag:=aM (aj9 hw aQ.out B8.out);have nHW:=aM (R_mono (ac4 hw (fun _ hk=>hk.2) (R_types HW.out B11.out (by decide))) (fun _ hk=>hk.1));have nHE:=aM (R_mono (ac4 hw (fun _ hk=>hk.2) (R_types HE.out B11.out (by decide))) (fun _ hk=>hk.1));have nHB:=aM (ac7 hw aR.out HB.out);clear HB B11 hw BG BK B8 HW HE;have BG:=nBG;have BK:=nBK;have B8:=ag;have HW:=nHW;have HE:=nHE;have HB:=nHB;clear nHB nBG nBK ag nHW nHE;have B11:=aM aa;clear aa m12;have yk:wm.cell? ⟨gK,ni.toNat,none⟩=some (.bool true):=by have:=afE BK.out hkl;rwa [HKV.out,HKB.out] at this
   have hrg:wm.rangeAt g (ni.toNat*12) (encs (Value.int .i64) tn):=by
    have:=adH BG.out HP.out.2.2.1 hec
    rw [FTN.out] at this;rw [HN.out.2,Int.toNat_natCast];exact this
   have hrg2:wm.rangeAt g11 0 (encs (Value.int .i64) jv):=abC B11.out;go_wp2_with fail;refine abx (n:=13) (S:=fun w'=>Below wm.heap.size wm w') (ds:=[]) (jb 13 0) (by kernel_rfl) rfl rfl (aah (Below.refl _ _)) (fun hHeld=>?_);have HWD:aa1 (Below wm.heap.size wm wm.drew):=⟨hHeld⟩;generalize wm.drew=wd4 at hHeld HWD ⊢;refine jq 0 76 (jb 13 1) ?_;refine jq 1 77 (jb 13 3) ?_;refine jq 2 78 (jb 13 7) ?_;refine take_ (i:=3) (N:=some 79) (v:=?_) (a':=?_) (jb 13 15) rfl rfl (by kernel_rfl) (fun _ _ _ h=>h) (Or.inl ⟨by rfl,?_⟩) hHeld ?_ ?_;rotate_left
   ·intro w' hs;have z0:=(hs.cell (World.block_lt_of_cell? wm _ yk)).trans yk;go_simp
    with_reducible rfl
   rotate_left
   ·exact qP
   refine jq 4 80 (jb 13 31) ?_;refine jq 5 81 (jb 13 63) ?_;refine take_ (i:=6) (N:=some 82) (a':=?_) (jb 13 127) rfl rfl (by kernel_rfl) (fun _ _ _ h=>h) (yieldsIf_load_mid (by rfl) TC (.tmp 11) rfl g11 0 rfl _ _ (fun w' hs=>ad9 hrg2 hs) underlying70 rfl (agH j12)) hHeld ?_ ?_;rotate_left
   ·exact qP
   refine jq 7 83 (jb 13 255) ?_;refine jq 8 84 (jb 13 511) ?_;refine jq 9 85 (jb 13 1023) ?_;refine take_ (i:=10) (N:=some 86) (a':=?_) (jb 13 2047) rfl rfl (by kernel_rfl) (fun _ _ _ h=>h) (yieldsIf_load_mid (by rfl) TC (.tmp 85) rfl g (ni.toNat*12) rfl _ _ (fun w' hs=>ad9 hrg hs) underlying70 rfl (agH t12)) hHeld ?_ ?_;rotate_left
   ·exact qP
   refine jq 11 87 (jb 13 4095) ?_;refine jq 12 88 (jb 13 8191) ?_;refine ac6 (by kernel_rfl) ?_;have nBG:=aM (aaO BG.out HWD.out);have nBK:=aM (aaO BK.out HWD.out);have ag:=aM (aaO B8.out HWD.out);have nHW:=aM (R_below HW.out HWD.out);have nHE:=aM (R_below HE.out HWD.out);have aj:=aM (aaO B11.out HWD.out);have nHB:=aM (aaL HB.out HWD.out);clear HB BG BK B8 HW HE B11 HWD hHeld yk hrg hrg2;have BG:=nBG;have BK:=nBK;have B8:=ag;have HW:=nHW;have HE:=nHE;have B11:=aj;have HB:=nHB;clear nHB nBG nBK ag nHW nHE aj;by_cases ej:jv=tn
   ·have ejb:decide (jv=tn)=true:=decide_eq_true ej;have ejt:(jv=tn)=True:=eq_true ej
    have hw2:Sys.wpass (CS c) ((es.drop (p+1)).map fun e=>(e,vv)) T' l'=Sys.wpass (CS c) (es.map fun e=>(e,vv)) T v:=by
     rw [<- HP.out.2.2.2.2,HDR.out,List.map_cons,Sys.wpass,if_pos (by show jC ((CS c).at' T' en) vv=(CS c).at' T' en;rw [<- HTN.out,<- HJV.out];exact ej)]
    have HW2:=aM hw2;clear hw2 ej;rw [ejb,Bool.not_true];clear ejb ejt;go_wp2;go_roundg (es.length - (p+1));case measure=>have:=HP.out.2.1;omega
    exact⟨_,p+1,T',l',rfl,⟨by have:=HP.out.1;(first|omega|(rw [aaJ (by omega) (by omega)];omega)),by omega,HP.out.2.2.1,HP.out.2.2.2.1,HW2.out⟩,BG,BK,B8,HW,HE,HB⟩
   have ejb:decide (jv=tn)=false:=decide_eq_false ej
   have neq:(CS c).jn ((CS c).at' T' en) vv≠(CS c).at' T' en:=by
    show ¬ jC ((CS c).at' T' en) vv=(CS c).at' T' en
    rw [<- HTN.out,<- HJV.out];exact ej
   clear ej;rw [ejb,Bool.not_false];clear ejb;have hen:en < (CS c).n:=hec
   have eput:Sys.put (CS c) T' (en,vv)=T'.set en jv:=by
    show T'.set en (jC ((CS c).at' T' en) vv)=_
    rw [<- HTN.out,<- HJV.out]
   have st2:=Sys.put_st (abB h) HP.out.2.2.1 (p:=(en,vv)) hen okv;have cp2:=Sys.put_cap (abB h) HP.out.2.2.1 (p:=(en,vv)) hen okv neq
   have hw2:Sys.wpass (CS c) ((es.drop (p+1)).map fun e=>(e,vv)) (Sys.put (CS c) T' (en,vv)) (l' ++ [en])=Sys.wpass (CS c) (es.map fun e=>(e,vv)) T v:=by
    rw [<- HP.out.2.2.2.2,HDR.out,List.map_cons,Sys.wpass,if_neg neq]
   rw [eput] at st2 cp2 hw2;have HQ:=aM (And.intro st2 (And.intro cp2 hw2))
   have hmG:ni.toNat*12+12<=(ahT T').length:=by
    rw [ajy HP.out.2.2.1,HN.out.2,Int.toNat_natCast];omega
   have hov:over (ahT T') (ni.toNat*12) jv=ahT (T'.set en jv):=by
    rw [HN.out.2,Int.toNat_natCast];exact ajx HP.out.2.2.1 hec j12
   have hkn:(knC T').set ni.toNat true=knC (T'.set en jv):=by
    rw [HN.out.2,Int.toNat_natCast];exact (aj0 T' en gj).symm
   have HOV:=aM hov;have HKN:=aM hkn;have bK:l'.length<=20000:=by have:=HP.out.2.2.2.1;omega
   have eni:ints l' ++ [ni]=ints (l' ++ [en]):=by rw [HN.out.2,afU]
   have ENI:=aM eni;clear hen neq eput st2 cp2 hw2 hov hkn eni;exact ar7
  have pb:decide (pj < ((ints es).length:Int))=false:=decide_eq_false (by rw [ab2];omega);have HF:aa1 (Sys.wpass (CS c) (es.map fun e=>(e,vv)) T v=(T',l')):=⟨by rw [<- hfin,List.drop_eq_nil_of_le (by omega)];rfl⟩;have hcF:=aM hc';clear hfin hpj hpk hc';go_wp2_with fail;go_roundg ((CS c).cap T' + l'.length)
  case measure =>
   have k:=(Sys.wk_step (abB h) HK.out.1).2.2.2;have k2:=HK.out.2.1;rw [FIN.out,HF.out] at k;simp only at k;omega
  case rel =>
   have k:=(Sys.wk_step (abB h) HK.out.1).2.2.1;rw [FIN.out,HF.out] at k;exact⟨T',l',⟨k,Nat.le_refl _,hcF.out⟩,BG,BK,⟨R_mono HW.out (fun _ hk=>hk.1)⟩,HB⟩
 have hp:p < c.length:=by have:=HP.out.2;omega
 have hpi:pi=(p:Int):=HP.out.1;have p0:0<=pi:=by omega
 have p1:pi < (c.length:Int):=by omega
 have hm:pi.toNat*12+12<=(aek c.length p).length:=by rw [anw (by omega),hpi,Int.toNat_natCast];omega
 have pp:=anv hp;have hov:over (aek c.length p) (pi.toNat*12) acP=aek c.length (p+1):=by rw [hpi,Int.toNat_natCast];exact pp
 have HOV:=aM hov;have dn:=eq_true p0;have dw:=eq_true p1;have dx:=decide_eq_true p0;have dz:=decide_eq_true p1;clear hov pp p0 p1 hpi;go_wp2_with (first|(go_at_call 83;(with_reducible refine (amI _).mono ?_);rintro e w5 ⟨rfl,hb⟩;replace BG:=kB BG hb;replace BK:=kB BK hb;replace HB:=kH hb;clear hb)|((with_reducible refine adh (p:=26) (v:=25) rfl rfl rfl rfl ahp BG.out hm ?_);intro w3 hw hb3;rw [HOV.out] at hb3;replace BK:=aM (aj9 hw (Ne.symm NK.out) BK.out);replace HB:=aM (ac7 hw GG.out HB.out);clear BG hw;have BG:=aM hb3;clear hb3));go_roundg k1;case measure=>omega
 exact⟨_,p+1,rfl,⟨by have:=HP.out.1;(first|omega|(rw [aaJ (by omega) (by omega)];omega)),by have:=HP.out.2;omega⟩,BG,BK,HB⟩
end Go.Proofs.YtdkkdiiceaomaaaGreat.M
namespace Go.Proofs.YtdkkdiiceaomaaaGreat.M
open Go.Proofs.Tryz Go.RowKit Go.Proofs.YtdkkdiiceaomaaaGreatW.PrintWords Go.Proofs.YtdkkdiiceaomaaaGreatW.PrintLast Go.Proofs.YtdkkdiiceaomaaaGreatW.PrintMore PM
abbrev TQ:TypeId:=31
theorem arl {l:List Int} (h:l.length=5):(prog.info? TQ).map (·.size)=some (ics l).size:=by
 rw [adJ,h]
 kernel_rfl
section
variable {ops:Array Oper} {rest:List Oper} {op:Oper} {a:Act} {Q:Exit->Act->World->Prop}
theorem akK {w:World} {p v:Tmp} (ho:op.op = .store TQ (.tmp p) (.tmp v)) (hgd:op.guard=none) {g:Nat} (hx:a.eval (.tmp p) = .pointer (some ⟨g,0,none⟩)) {v0 v1 v2 v3 v4:Int} (hy:a.eval (.tmp v) = .agg #[iV v0,iV v1,iV v2,iV v3,iV v4]) (hb:w.heap[g]?=some (.cells (ics [0,0,0,0,0]) TQ (0,0)))
  (h:∀ w',w'=w.setCells g 0 (encs (Value.int .i64) [v0,v1,v2,v3,v4])->w'.heap[g]?=some (.cells (ics [v0,v1,v2,v3,v4]) TQ (0,0))->wpList prog ops Q rest (a.put op.dst undef) w'):wpList prog ops Q (op :: rest) a w:=by
 refine wpList_store_mid hgd TQ (.tmp p) (.tmp v) ho g 0 (ics [v0,v1,v2,v3,v4]) hx hy ?_ (arl rfl) (aj4 _) ?_
 ·rw [adJ];exact aeO hb (by simp)
 exact h _ rfl (abQ [v0,v1,v2,v3,v4] 0 [0,0,0,0,0] w hb (by simp))
end
end Go.Proofs.YtdkkdiiceaomaaaGreat.M
namespace Go.Proofs.YtdkkdiiceaomaaaGreat.M
open Go.Proofs.Tryz Go.RowKit Go.Proofs.YtdkkdiiceaomaaaGreatW.PrintWords Go.Proofs.YtdkkdiiceaomaaaGreatW.PrintLast Go.Proofs.YtdkkdiiceaomaaaGreatW.PrintMore
def apB (l0:List S31):Option (List S31):=if l0.length < 3518437208883 then some l0 else none
set_option maxHeartbeats 1000000 in
theorem an4 (A0:Option Addr) (c0:Nat) (l0 r:List S31) (w:World) (hr0:Kd.C k31 w A0 l0.length l0) (hc0:l0.length<=c0) (h:apB l0=some r) :
  Calls prog 41 #[.slice A0 l0.length c0] w fun e w'=>∃ aa:Value,e = .returned aa/\Kd.R k31 31 w' w.heap.size (fun _=>True) aa r/\Below w.heap.size w w':=by
 unfold apB at h;split at h
 next hl =>
  injection h with h
  subst h;have HL:=aM hl;clear hl
  cases A0 with
  | none =>
   have e0:l0=[]:=by
    cases l0 with
    | nil=>rfl
    | cons x xs=>obtain⟨ad,_,e,_⟩:=Kd.C_get hr0 z31 0 (by omega) (by simp);cases e
   subst e0;have he:=fun (W:World) (n:Nat)=>Lib.run_eql_slice_nil (P:=prog) W 23 31 none n c0 0 0 underlying23
   go_enter func41,ntmps41;go_wp2;go_ret;exact⟨_,rfl,Kd.R_nil _ _ _ _ _,Below.refl _ _⟩
  | some ad =>
   have ae:=aM hr0;clear hr0;have HB:=jb_ w;have he:=fun (W:World) (n:Nat)=>Lib.run_eql_slice_nil (P:=prog) W 23 31 (some ad) n c0 0 0 underlying23
   go_enter func41,ntmps41;go_wp2_with (first|((with_reducible refine jd 5 ?_);refine Kd.R_lit k31 _ 31 ?hg (N:=5) ?hd (xs:=([]:List S31)) (inner:=[]) (ok:=fun _=>True) (okp:=fun _=>True) ?hr ?hp (fun _ hk=>hk) trivial (Below.refl _ _) (Nat.le_refl _) (by simp) ?_;(case hd=>rfl);(case hg=>rfl);(case hr=>first|(go_simp;done)|(go_simp;rfl));(case hp=>exact (aa8 _ _));intro v1 w1 ho hb hg_ hnew_;clear hg_ hnew_;have HO:=aM ho;replace HB:=kH hb;clear hb ho)|((with_reducible refine aa9 (b:=.append) (xs:=#[.tmp 5,.tmp 6]) rfl ?_);at_builtin;refine Kd.R_append_rows k31 (w0:=w) w.heap.size rfl (.tmp 5) (.tmp 6) 23 31 (.agg #[(iV 0),(iV 0),(iV 0),(iV 0),(iV 0)]) 40 rfl underlying23 abb rfl (by decide) (by omega) v1 [] l0 _ _ _ (fun _=>True) (fun _=>False) rfl rfl ?aO ?aR (fun _ _ h=>h) (fun _ h=>h.elim) ?aF ?aB ?aS ?aL ?_;(case aR=>exact Kd.C_below ae.out HB.out);(case aB=>exact HB.out);(case aF=>exact (fun _ _=>trivial));(case aO=>exact HO.out);(case aS=>exact aa4 HB.out);(case aL=>have:=HL.out;simp only [List.length_nil];omega);intro v2 w2 ho hb hg hat;have HB2:=aM hb;have af:=aM ho;clear ho hb hg hat));go_ret;exact⟨_,rfl,af.out,HB2.out⟩
 next=>cases h
end Go.Proofs.YtdkkdiiceaomaaaGreat.M
namespace Go.Proofs.YtdkkdiiceaomaaaGreat.M
open Go.Proofs.Tryz Go.RowKit Go.Proofs.YtdkkdiiceaomaaaGreatW.PrintWords Go.Proofs.YtdkkdiiceaomaaaGreatW.PrintLast Go.Proofs.YtdkkdiiceaomaaaGreatW.PrintMore PM
theorem ajS {α:Type} {F:Nat->Option α} {v r:α} (hm:∀ k,LeO (F k) (F (k+1))) (h:Ev F v) {k:Nat} (hk:F k=some r):r=v:=by
 obtain⟨K,hK⟩:=h
 have up:∀ d,F (k+d)=some r:=by
  intro d
  induction d with
  | zero=>exact hk
  | succ d ih=>exact hm _ _ ih
 have:=up K
 rw [hK (k+K) (by omega)] at this;exact (Option.some.inj this).symm
theorem ara {c:List SQ} {b:Bool} (hb:cvB c=b) (A0:Option Addr) (c0:Nat) (w:World) (hr0:Kd.C k31 w A0 c.length c) (hc0:c.length<=c0):Calls prog 20 #[.slice A0 c.length c0] w fun e w'=>e = .returned (.bool b)/\Below w.heap.size w w':=by
 obtain⟨k,hk⟩:=(aoM c).get;rw [hb] at hk;exact Sa0.calls k A0 c0 c b w hr0 hc0 hk
end Go.Proofs.YtdkkdiiceaomaaaGreat.M
