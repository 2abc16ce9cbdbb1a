/- A function as plain Lean and its contract: written by a program of this session's, turned from the kit's print. -/
import Derived.Test.YtdkkdiiceaomaaaGreatEB4
import Derived.Test.YtdkkdiiceaomaaaGreatRows
import Derived.WalkKit
import Derived.ProofKit
import Derived.OpenShut
import Derived.ShutString
import Derived.ChangeOld
import Derived.Below
import Derived.SizedLaws
import Derived.Test.YtdkkdiiceaomaaaGreatEBWSized
set_option linter.unusedVariables false
set_option linter.unusedSimpArgs false
set_option maxHeartbeats 8000000
set_option maxRecDepth 100000
namespace Go.Proofs.YtdkkdiiceaomaaaGreat.M
open Go.Proofs.Tryz Go.RowKit Go.Proofs.YtdkkdiiceaomaaaGreatW.PrintWords Go.Proofs.YtdkkdiiceaomaaaGreatW.PrintLast Go.Proofs.YtdkkdiiceaomaaaGreatW.PrintMore PM Kd
def akv (k:Nat) (l0:List SQ):Option (List SQ × Bool):=Saj.f k l0
theorem Sa1.mono:∀ a0 k,LeO (akv k a0) (akv (k+1) a0):=Saj.mono
theorem aia {α:Type} {l:List α} {i:Nat} (h:i < l.length) (v d:α):(l.set i v).getD i d=v:=by
 rw [List.getD_eq_getElem?_getD,List.getElem?_set_self h];rfl
/-- A register put into a quad of a row. -/
theorem apD {W:World} {base g n cap:Nat} {ok:Nat->Prop} {xs:List SQ} (h:Kd.R k31 TQ W base ok (.slice (some ⟨g,0,none⟩) n cap) xs) {i:Int} (h0:0<=i) (h1:i < n) (v:Int) {q:SQ} (hq:xs.getD i.toNat z31=q) :
  Kd.R k31 TQ (W.setCell ⟨g,i.toNat*5+2,none⟩ (iV v)) base ok (.slice (some ⟨g,0,none⟩) n cap) (xs.set i.toNat ⟨q.f0,q.f1,v,q.f3,q.f4⟩)/\W.cell? ⟨g,i.toNat*5+2,none⟩=some (iV q.f2)/\W.frozen? ⟨g,i.toNat*5+2,none⟩=false:=by
 obtain⟨ce,hcl,hM,hcc,hfr⟩:=R_elem h z31 i h0 h1;rw [hq] at hM;obtain rfl:=acR hM;have HP:=R_seg h i h0 h1 (seg:=[iV v]) (j:=2) hcl hcc (by show 2+1<=5;omega) (x':=⟨q.f0,q.f1,v,q.f3,q.f4⟩) (aaV _ _ _ (⟨q.f0,q.f1,v,q.f3,q.f4⟩:SQ)) (fun _ hk=>hk);exact⟨HP.1,hcc 2 _ rfl,hfr 2⟩
theorem arp {W:World} {base g n cap:Nat} {ok:Nat->Prop} {xs:List SQ} (h:Kd.R k31 TQ W base ok (.slice (some ⟨g,0,none⟩) n cap) xs) {i:Int} (h0:0<=i) (h1:i < n) (v:Int) {q:SQ} (hq:xs.getD i.toNat z31=q) :
  Kd.R k31 TQ (W.setCell ⟨g,i.toNat*5+3,none⟩ (iV v)) base ok (.slice (some ⟨g,0,none⟩) n cap) (xs.set i.toNat ⟨q.f0,q.f1,q.f2,v,q.f4⟩)/\W.cell? ⟨g,i.toNat*5+3,none⟩=some (iV q.f3)/\W.frozen? ⟨g,i.toNat*5+3,none⟩=false:=by
 obtain⟨ce,hcl,hM,hcc,hfr⟩:=R_elem h z31 i h0 h1;rw [hq] at hM;obtain rfl:=acR hM;have HP:=R_seg h i h0 h1 (seg:=[iV v]) (j:=3) hcl hcc (by show 3+1<=5;omega) (x':=⟨q.f0,q.f1,q.f2,v,q.f4⟩) (aaV _ _ _ (⟨q.f0,q.f1,q.f2,v,q.f4⟩:SQ)) (fun _ hk=>hk);exact⟨HP.1,hcc 3 _ rfl,hfr 3⟩
theorem akL {ops:Array Oper} {rest:List Oper} {op:Oper} {a:Act} {Q:Exit->Act->World->Prop} {w:World} {p:Tmp} {v:Operand} (ho:op.op = .store 3 (.tmp p) v) (hgd:op.guard=none) (hN:op.dst=none) {g o:Nat} (hx:a.eval (.tmp p) = .pointer (some ⟨g,o,none⟩)) {y:Int} (hy:a.eval v = iV y) {u:Value} (hc:w.cell? ⟨g,o,none⟩=some u) (hf:w.frozen? ⟨g,o,none⟩=false)
  (h:∀ w',w'=w.setCell ⟨g,o,none⟩ (iV y)->wpList prog ops Q rest a w'):wpList prog ops Q (op :: rest) a w:=by
 refine aat (P:=prog) hgd ho hN (w1:=w.setCell ⟨g,o,none⟩ (iV y)) ?_ (fun w' hw=>h w' hw);unfold execOp;simp only [ho,hx,hy];first|(go_simp;done)|(go_simp;rfl)
theorem ajt {q:Q} (h:q.op=2\/q.op=3\/q.op=5\/q.op=6\/q.op=9):((acA q:Int) == 0)=false:=by
 have k:=fun n:Nat=>Nat.two_pow_pos n
 have:acA q≠0:=by
  unfold acA;split
  ·have:=k q.a.toNat;omega
  rw [if_pos (by omega)];intro z
  have:=Nat.left_le_or (n:=2 ^ q.a.toNat) (m:=2 ^ q.b.toNat)
  have:=k q.a.toNat
  omega
 simp only [beq_eq_false_iff_ne];omega
theorem akG {q:Q} (h:¬ (q.op=2\/q.op=3\/q.op=5\/q.op=6\/q.op=9)):((acA q:Int) == 0)=true:=by
 have:acA q=0:=by
  unfold acA;rw [if_neg (by omega),if_neg (by omega)]
 rw [this];rfl
theorem aiJ {c:List SQ} (h:¬ CV (qs c)) (A0:Option Addr) (c0:Nat) (w:World) (hr0:Kd.C k31 w A0 c.length c) (hc0:c.length<=c0) :
  Calls prog 22 #[.slice A0 c.length c0] w fun e w'=>∃ ag:Value,e = .returned (.tuple #[ag,.bool false])/\Kd.R k31 TQ w' w.heap.size (fun _=>True) ag ([]:List SQ)/\Below w.heap.size w w':=by
 have aj:=aM hr0;have ak:=aM hc0;clear hr0 hc0;have hv:cvB c=false:=decide_eq_false h;have HV:=aM hv;clear h hv;have HB:=jb_ w;go_enter func22,ntmps22;go_wp2_with (first|(go_at_call 20;(with_reducible refine (ara HV.out A0 c0 _ ?s1 ak.out).mono ?_);(case s1=>exact C_below aj.out HB.out);rintro e w5 ⟨rfl,hb⟩;replace HB:=kH hb;clear hb));go_ret2;exact⟨_,rfl,R_nil _ _ _ _ _,HB.out⟩
theorem ahS {c:List SQ} (h:CV (qs c)) (A0:Option Addr) (c0:Nat) (w:World) (hr0:Kd.C k31 w A0 c.length c) (hc0:c.length<=c0) :
  Calls prog 22 #[.slice A0 c.length c0] w fun e w'=>∃ (ag:Value) (U:List (List Int)),(CS c).Lfp U/\e = .returned (.tuple #[ag,.bool true])/\Kd.R k31 TQ w' w.heap.size (fun _=>True) ag (acB U c)/\Below w.heap.size w w':=by
 have aj:=aM hr0;have ak:=aM hc0;clear hr0 hc0;have h6:=abf h;have hcl:apB c=some c:=if_pos (by omega);have HCL:=aM hcl;have HV:=aM (show cvB c=true from decide_eq_true h);clear hcl;have HB:=jb_ w;go_enter func22,ntmps22;go_wp2_with (first|(go_at_call 20;(with_reducible refine (ara HV.out A0 c0 _ ?s1 ak.out).mono ?_);(case s1=>exact C_below aj.out HB.out);rintro e w5 ⟨rfl,hb⟩;replace HB:=kH hb;clear hb)|(go_at_call 41;(with_reducible refine (an4 A0 c0 c c _ ?s2 ak.out HCL.out).mono ?_);(case s2=>exact C_below aj.out HB.out);rintro e w6 ⟨v4,rfl,ho,hb⟩;have HO:=aM (R_lower ho HB.out.size);replace HB:=kH hb;clear hb ho)|(go_at_call 51;(with_reducible refine (an3 h A0 c0 _ ?s3 ak.out).mono ?_);(case s3=>exact C_below aj.out HB.out);rintro e w7 ⟨g,U,hU,rfl,hg,hbk,hb⟩;have HU:=aM hU;have GG:=aM (Nat.le_trans HB.out.size hg);have BG:=aM hbk;replace HO:=kR HO hb;replace HB:=kH hb;clear hb hU hg hbk));obtain⟨ah,aH,rfl,aA,aI,aK,aB⟩:=R_form HO.out (by omega);have az:=aM aA
 have N4:aa1 (g≠ah):=⟨fun z=>by
  subst z;have x:=aB.symm.trans BG.out;simp only [Option.some.injEq,Obj.cells.injEq] at x
  exact absurd x.2.1 (by decide)⟩
 clear aA aI aB;have hst:=HU.out.1.1;go_loopg [16] c.length (fun kq v16 w'=>∃ (pi:Int) (p:Nat),v16 = iV pi/\aa1 (pi=(p:Int)/\p+kq=c.length)/\aa1 (w'.heap[g]?=some (.cells (ics (ahT U)) TC (0,0)))/\aa1 (Kd.R k31 TQ w' w.heap.size (fun _=>True) (.slice (some ⟨ah,0,none⟩) c.length aH) ((acB U c).take p ++ c.drop p))/\aa1 (Below w.heap.size w w'));case atStart=>exact⟨0,0,rfl,⟨rfl,Nat.zero_add _⟩,BG,⟨by rw [List.take_zero,List.nil_append,List.drop_zero];exact HO.out⟩,HB⟩
 clear BG HO HB;obtain⟨pi,p,rfl,HP,BG,HO,HB⟩:=hrel;rcases gk with _|k1
 ·have ep:p=c.length:=by have:=HP.out.2;omega
  subst ep;have hpi:pi=(c.length:Int):=HP.out.1;subst hpi;go_wp2;go_ret2;exact⟨_,U,HU.out,rfl,by have:=HO.out;rwa [List.take_of_length_le (by rw [aaX];exact Nat.le_refl _),List.drop_eq_nil_of_le (Nat.le_refl _),List.append_nil] at this,HB.out⟩
 have hp:p < c.length:=by have:=HP.out.2;omega
 have hpi:pi=(p:Int):=HP.out.1;obtain⟨x,hx⟩:∃ x,x=ahV ((CS c).at' U p):=⟨_,rfl⟩
 have okx:=ahG (hst.2 p hp);rw [<- hx] at okx;have ae:=okx.1
 have hrg:wr.rangeAt g (pi.toNat*12) (encs (Value.int .i64) x):=by
  have:=adH BG.out hst hp
  rw [<- hx] at this;rw [hpi,Int.toNat_natCast];exact this
 have p0:0<=pi:=by omega
 have p1:pi < (c.length:Int):=by omega
 obtain⟨aq,e2,x0,x1,x2,x3,x4⟩:=aaQ aj.out pi p0 p1;cases e2;have rq:aa0 c pi=qa c p:=by rw [hpi];exact ac5 c p
 rw [rq] at x0 x1 x2 x3 x4;have hq:=abT h hp;obtain⟨_,⟨au,av⟩,ax,ay⟩:=abL hq;have au:0<=(qa c p).f2:=au;have av:(qa c p).f2 < 12:=av;have ax:0<=(qa c p).f3:=ax;have ay:(qa c p).f3 < 12:=ay;obtain⟨KU,hKU⟩:=(amE hq).get;obtain⟨un,hun⟩:∃ un:Int,un=(acA (q_ (qa c p)):Int):=⟨_,rfl⟩
 rw [<- hun] at hKU;have A2:=aM (show ajp KU (qa c p).f0 (qa c p).f1 (qa c p).f2 (qa c p).f3 (qa c p).f4=some un from hKU);have hget:(acB U c).getD p z31=ac2 (qa c p) x:=by rw [hx];exact adx U hp
 have hnext:=ahz z31 (aaX U c) (p:=p) (by rw [aaX];exact hp);rw [hget] at hnext;have hat:((acB U c).take p ++ c.drop p).getD pi.toNat z31=qa c p:=by rw [hpi,Int.toNat_natCast,aiU z31 (aaX U c) (by rw [aaX];omega)];rfl
 obtain⟨M,hM⟩:∃ M,M=(acB U c).take p ++ c.drop p:=⟨_,rfl⟩
 rw [<- hM] at hnext hat HO;have hMl:M.length=c.length:=by rw [hM,aiT (aaX U c) (by rw [aaX];omega),aaX]
 have HML:=aM hMl;have HN:=aM hnext;have HAT:=aM hat;have HPI:=aM hpi;have HMM:=aM hM;have HG:=aM hget;have aL:=eq_true p0;have aN:=eq_true p1;have aO:=decide_eq_true p0;have aP:=decide_eq_true p1;have aa:=aM (And.intro p0 p1);have aQ:=eq_true au;have aR:=eq_true av;have aS:=decide_eq_true au;have aT:=decide_eq_true av;have aU:=eq_true ax;have aV:=eq_true ay;have aW:=decide_eq_true ax;have aX:=decide_eq_true ay;have RA:=aM (show (qa c p).f2.toNat < 12 by omega);have RB:=aM (show (qa c p).f3.toNat < 12 by omega);have X0:=aM x0;have X1:=aM x1;have X2:=aM x2;have X3:=aM x3;have X4:=aM x4;clear x0 x1 x2 x3 x4 hnext hat hM hMl hpi rq p0 p1 au av ax ay hget hKU hx;by_cases o1:(qa c p).f0=3
 ·have unb:(un == 0)=false:=by rw [hun];exact ajt (show (qa c p).f0=2\/(qa c p).f0=3\/(qa c p).f0=5\/(qa c p).f0=6\/(qa c p).f0=9 by omega)
  have aJ:((qa c p).f0 == 3)=true:=by simp [o1]
  have er:ac2 (qa c p) x=⟨(qa c p).f0,(qa c p).f1,ca x (qa c p).f2.toNat,ca x (qa c p).f3.toNat,(qa c p).f4⟩:=by unfold ac2;rw [if_neg (by omega),if_pos o1]
  rw [er] at HN;clear er o1 hun;go_wp2_with (first|((with_reducible refine afO (N:=20) rfl rfl rfl rfl ae hrg ?_))|((with_reducible refine jd 6 ?_);refine jX (ics z12) TC ?_;intro g6 hg aC hbox hb;have N6:=aM (show g≠g6 by rw [hg];exact Nat.ne_of_lt (ab3 BG.out));have O6:=aM (show g6≠ah by rw [hg];exact Nat.ne_of_gt (R_lt HO.out ah rfl));have G6:=kG hg;replace BG:=kB BG hb;replace HO:=kR HO hb;replace HB:=kH hb;clear hrg;have B6:=aM hbox;clear hg hbox hb)|((with_reducible refine adh (p:=6) (v:=20) rfl rfl rfl rfl ae B6.out (by decide) ?_);intro aD hw hb6;rw [abJ (by rw [ae];rfl)] at hb6;replace BG:=aM (aj9 hw N6.out BG.out);replace HO:=aM (R_mono (ac4 hw (fun _ hk=>hk.2) (R_types HO.out B6.out (by decide))) (fun _ hk=>hk.1));replace HB:=aM (ac7 hw G6.out HB.out);clear B6 hw;have B6:=aM hb6;clear hb6;have y0:=kx HB X0.out;have y1:=kx HB X1.out;have y2:=kx HB X2.out;have y3:=kx HB X3.out;have y4:=kx HB X4.out)|(go_at_call 48;(with_reducible refine (agj _ _ _ _ _ _ _ _ A2.out).mono ?_);rintro e aF ⟨rfl,hb⟩;replace BG:=kB BG hb;replace HO:=kR HO hb;replace B6:=kB B6 hb;replace HB:=kH hb;clear y0 y1 y2 y3 y4;clear hb;have y0:=kx HB X0.out;have y1:=kx HB X1.out;have y2:=kx HB X2.out;have y3:=kx HB X3.out;have y4:=kx HB X4.out;have z0:=aik B6.out ae RA.out)|((with_reducible refine akL (p:=38) (v:=.tmp 36) rfl rfl rfl rfl rfl (apD HO.out aa.out.1 aa.out.2 (ca x (qa c p).f2.toNat) HAT.out).2.1 (apD HO.out aa.out.1 aa.out.2 (ca x (qa c p).f2.toNat) HAT.out).2.2 ?_);intro aG hw;have nHO:=aM (apD HO.out aa.out.1 aa.out.2 (ca x (qa c p).f2.toNat) HAT.out).1;rw [<- hw] at nHO;have ai:=aM (an9 hw O6.out B6.out);replace BG:=aM (an9 hw N4.out BG.out);replace HB:=aM (af7 hw az.out HB.out);clear HO B6 y0 y1 y2 y3 y4 z0 hw;have HO:=nHO;have B6:=ai;clear nHO ai;have y0:=kx HB X0.out;have y1:=kx HB X1.out;have y2:=kx HB X2.out;have y3:=kx HB X3.out;have y4:=kx HB X4.out;have z0:=aik B6.out ae RB.out;have af:=aM (show (M.set pi.toNat ⟨(qa c p).f0,(qa c p).f1,ca x (qa c p).f2.toNat,(qa c p).f3,(qa c p).f4⟩).getD pi.toNat z31=⟨(qa c p).f0,(qa c p).f1,ca x (qa c p).f2.toNat,(qa c p).f3,(qa c p).f4⟩ from aia (by have:=aa.out;have:=HML.out;omega) _ _))|((with_reducible refine akL (p:=55) (v:=.tmp 53) rfl rfl rfl rfl rfl (arp HO.out aa.out.1 aa.out.2 (ca x (qa c p).f3.toNat) af.out).2.1 (arp HO.out aa.out.1 aa.out.2 (ca x (qa c p).f3.toNat) af.out).2.2 ?_);intro aG hw;have nHO:=aM (arp HO.out aa.out.1 aa.out.2 (ca x (qa c p).f3.toNat) af.out).1;rw [<- hw] at nHO;have ai:=aM (an9 hw O6.out B6.out);replace BG:=aM (an9 hw N4.out BG.out);replace HB:=aM (af7 hw az.out HB.out);clear HO B6 y0 y1 y2 y3 y4 z0 hw;have HO:=nHO;have B6:=ai;clear nHO ai;have y0:=kx HB X0.out;have y1:=kx HB X1.out;have y2:=kx HB X2.out;have y3:=kx HB X3.out;have y4:=kx HB X4.out));go_roundg k1;case measure=>omega
  exact⟨_,p+1,rfl,⟨by have:=HPI.out;(first|omega|(rw [aaJ (by omega) (by omega)];omega)),by have:=HP.out.2;omega⟩,BG,⟨by have:=HO.out;rwa [List.set_set,show pi.toNat=p by rw [HPI.out,Int.toNat_natCast],HN.out] at this⟩,HB⟩
 have aJ:((qa c p).f0 == 3)=false:=by simp [o1]
 by_cases o2:(qa c p).f0=2\/(qa c p).f0=5\/(qa c p).f0=6\/(qa c p).f0=9
 ·have unb:(un == 0)=false:=by rw [hun];exact ajt (show (qa c p).f0=2\/(qa c p).f0=3\/(qa c p).f0=5\/(qa c p).f0=6\/(qa c p).f0=9 by omega)
  have er:ac2 (qa c p) x=⟨(qa c p).f0,(qa c p).f1,ca x (qa c p).f2.toNat,(qa c p).f3,(qa c p).f4⟩:=by unfold ac2;rw [if_pos o2]
  rw [er] at HN;clear er o1 o2 hun;go_wp2_with (first|((with_reducible refine afO (N:=20) rfl rfl rfl rfl ae hrg ?_))|((with_reducible refine jd 6 ?_);refine jX (ics z12) TC ?_;intro g6 hg aC hbox hb;have N6:=aM (show g≠g6 by rw [hg];exact Nat.ne_of_lt (ab3 BG.out));have O6:=aM (show g6≠ah by rw [hg];exact Nat.ne_of_gt (R_lt HO.out ah rfl));have G6:=kG hg;replace BG:=kB BG hb;replace HO:=kR HO hb;replace HB:=kH hb;clear hrg;have B6:=aM hbox;clear hg hbox hb)|((with_reducible refine adh (p:=6) (v:=20) rfl rfl rfl rfl ae B6.out (by decide) ?_);intro aD hw hb6;rw [abJ (by rw [ae];rfl)] at hb6;replace BG:=aM (aj9 hw N6.out BG.out);replace HO:=aM (R_mono (ac4 hw (fun _ hk=>hk.2) (R_types HO.out B6.out (by decide))) (fun _ hk=>hk.1));replace HB:=aM (ac7 hw G6.out HB.out);clear B6 hw;have B6:=aM hb6;clear hb6;have y0:=kx HB X0.out;have y1:=kx HB X1.out;have y2:=kx HB X2.out;have y3:=kx HB X3.out;have y4:=kx HB X4.out)|(go_at_call 48;(with_reducible refine (agj _ _ _ _ _ _ _ _ A2.out).mono ?_);rintro e aF ⟨rfl,hb⟩;replace BG:=kB BG hb;replace HO:=kR HO hb;replace B6:=kB B6 hb;replace HB:=kH hb;clear y0 y1 y2 y3 y4;clear hb;have y0:=kx HB X0.out;have y1:=kx HB X1.out;have y2:=kx HB X2.out;have y3:=kx HB X3.out;have y4:=kx HB X4.out;have z0:=aik B6.out ae RA.out)|((with_reducible refine akL (p:=38) (v:=.tmp 36) rfl rfl rfl rfl rfl (apD HO.out aa.out.1 aa.out.2 (ca x (qa c p).f2.toNat) HAT.out).2.1 (apD HO.out aa.out.1 aa.out.2 (ca x (qa c p).f2.toNat) HAT.out).2.2 ?_);intro aG hw;have nHO:=aM (apD HO.out aa.out.1 aa.out.2 (ca x (qa c p).f2.toNat) HAT.out).1;rw [<- hw] at nHO;have ai:=aM (an9 hw O6.out B6.out);replace BG:=aM (an9 hw N4.out BG.out);replace HB:=aM (af7 hw az.out HB.out);clear HO B6 y0 y1 y2 y3 y4 z0 hw;have HO:=nHO;have B6:=ai;clear nHO ai;have y0:=kx HB X0.out;have y1:=kx HB X1.out;have y2:=kx HB X2.out;have y3:=kx HB X3.out;have y4:=kx HB X4.out;have z0:=aik B6.out ae RB.out;have af:=aM (show (M.set pi.toNat ⟨(qa c p).f0,(qa c p).f1,ca x (qa c p).f2.toNat,(qa c p).f3,(qa c p).f4⟩).getD pi.toNat z31=⟨(qa c p).f0,(qa c p).f1,ca x (qa c p).f2.toNat,(qa c p).f3,(qa c p).f4⟩ from aia (by have:=aa.out;have:=HML.out;omega) _ _)));go_roundg k1;case measure=>omega
  exact⟨_,p+1,rfl,⟨by have:=HPI.out;(first|omega|(rw [aaJ (by omega) (by omega)];omega)),by have:=HP.out.2;omega⟩,BG,⟨by have:=HO.out;rwa [show pi.toNat=p by rw [HPI.out,Int.toNat_natCast],HN.out] at this⟩,HB⟩
 have unb:(un == 0)=true:=by rw [hun];exact akG (show ¬ ((qa c p).f0=2\/(qa c p).f0=3\/(qa c p).f0=5\/(qa c p).f0=6\/(qa c p).f0=9) by omega)
 have er:ac2 (qa c p) x=qa c p:=by unfold ac2;rw [if_neg o2,if_neg o1]
 have hs:(acB U c).take p ++ c.drop p=(acB U c).take (p+1) ++ c.drop (p+1):=anl z31 (aaX U c) (by rw [aaX];exact hp) (by rw [HG.out,er];rfl);have HS:=aM hs;clear er o1 o2 hun hs;go_wp2_with (first|((with_reducible refine afO (N:=20) rfl rfl rfl rfl ae hrg ?_))|((with_reducible refine jd 6 ?_);refine jX (ics z12) TC ?_;intro g6 hg aC hbox hb;have N6:=aM (show g≠g6 by rw [hg];exact Nat.ne_of_lt (ab3 BG.out));have O6:=aM (show g6≠ah by rw [hg];exact Nat.ne_of_gt (R_lt HO.out ah rfl));have G6:=kG hg;replace BG:=kB BG hb;replace HO:=kR HO hb;replace HB:=kH hb;clear hrg;have B6:=aM hbox;clear hg hbox hb)|((with_reducible refine adh (p:=6) (v:=20) rfl rfl rfl rfl ae B6.out (by decide) ?_);intro aD hw hb6;rw [abJ (by rw [ae];rfl)] at hb6;replace BG:=aM (aj9 hw N6.out BG.out);replace HO:=aM (R_mono (ac4 hw (fun _ hk=>hk.2) (R_types HO.out B6.out (by decide))) (fun _ hk=>hk.1));replace HB:=aM (ac7 hw G6.out HB.out);clear B6 hw;have B6:=aM hb6;clear hb6;have y0:=kx HB X0.out;have y1:=kx HB X1.out;have y2:=kx HB X2.out;have y3:=kx HB X3.out;have y4:=kx HB X4.out)|(go_at_call 48;(with_reducible refine (agj _ _ _ _ _ _ _ _ A2.out).mono ?_);rintro e aF ⟨rfl,hb⟩;replace BG:=kB BG hb;replace HO:=kR HO hb;replace B6:=kB B6 hb;replace HB:=kH hb;clear y0 y1 y2 y3 y4;clear hb;have y0:=kx HB X0.out;have y1:=kx HB X1.out;have y2:=kx HB X2.out;have y3:=kx HB X3.out;have y4:=kx HB X4.out;have z0:=aik B6.out ae RA.out));go_roundg k1;case measure=>omega
 exact⟨_,p+1,rfl,⟨by have:=HPI.out;(first|omega|(rw [aaJ (by omega) (by omega)];omega)),by have:=HP.out.2;omega⟩,BG,⟨by rw [<- HS.out,<- HMM.out];exact HO.out⟩,HB⟩
theorem agm (k:Nat) (A0:Option Addr) (c0:Nat) (l0 r1:List SQ) (r2:Bool) (w:World) (hr0:Kd.C k31 w A0 l0.length l0) (hc0:l0.length<=c0) (h:akv k l0=some (r1,r2)) :
  Calls prog 22 #[.slice A0 l0.length c0] w fun e w'=>∃ ag:Value,e = .returned (.tuple #[ag,.bool r2])/\Kd.R k31 TQ w' w.heap.size (fun _=>True) ag r1/\Below w.heap.size w w':=by
 by_cases hv:CV (qs l0)
 ·obtain⟨U,hU,hE⟩:=amA hv;have e:=ajS (fun k=>Sa1.mono l0 k) hE h;obtain⟨rfl,rfl⟩:=Prod.mk.inj e;refine (ahS hv A0 c0 w hr0 hc0).mono ?_;rintro e w' ⟨v,V,hV,rfl,hR,hb⟩;rw [Sys.lfp_unique (abB hv) hV hU] at hR;exact⟨v,rfl,hR,hb⟩
 have e:=ajS (fun k=>Sa1.mono l0 k) (ajo hv) h;obtain⟨rfl,rfl⟩:=Prod.mk.inj e;exact aiJ hv A0 c0 w hr0 hc0
theorem apu {c:List SQ} (h:¬ CV (qs c)):Ev (fun k=>Saw.f k c) ([],false):=by
 simp only [Saw.f];exact aaP (Ev.bind (acZ c) (aa5 Ev.pure (by unfold cvB;simp [h])))
theorem aoO {c:List SQ} {b:Bool} (hb:cvB c=b) (A0:Option Addr) (c0:Nat) (w:World) (hr0:Kd.C k31 w A0 c.length c) (hc0:c.length<=c0):Calls prog 44 #[.slice A0 c.length c0] w fun e w'=>e = .returned (.bool b)/\Below w.heap.size w w':=by
 obtain⟨k,hk⟩:=(acZ c).get;rw [hb] at hk;exact Sag.calls k A0 c0 c b w hr0 hc0 hk
theorem an6 {c:List SQ} (h:CV (qs c)):∃ U,(RS c).Lfp U/\∀ (A0:Option Addr) (c0:Nat) (w:World),Kd.C k31 w A0 c.length c->c.length<=c0->Calls prog 149 #[.slice A0 c.length c0] w fun e w'=>∃ v,e = .returned v/\Kd.R Kd.bool 4 w' w.heap.size (fun _=>True) v U/\Below w.heap.size w w':=by
 obtain⟨U,hU,hE⟩:=aoD h;obtain⟨k,hk⟩:=hE.get;exact⟨U,hU,fun A0 c0 w hr hc=>Saf.calls k A0 c0 c U w hr hc hk⟩
theorem akf (q:SQ) {i:Nat} (hi:i < 9223372036854775807) {b:Bool} (hb:idle q i=b) (w:World):Calls prog 150 #[.agg #[iV q.f0,iV q.f1,iV q.f2,iV q.f3,iV q.f4],iV (i:Int)] w fun e w'=>e = .returned (.bool b)/\Below w.heap.size w w':=by
 obtain⟨k,hk⟩:=(aoo q hi).get;rw [hb] at hk;exact am2 k _ _ _ _ _ _ b w hk
theorem afR {c:List SQ} {U:List Bool} (h9:c.length < 9223372036854775807) {n:Int} (h0:0<=n) (hn:n<=c.length) (A0:Option Addr) (c0:Nat) (w:World) (hr0:Kd.C Kd.bool w A0 (kps c U).length (kps c U)) (hc0:(kps c U).length<=c0):Calls prog 151 #[.slice A0 (kps c U).length c0,iV n] w fun e w'=>e = .returned (iV (plc c U n.toNat:Int))/\Below w.heap.size w w':=by
 obtain⟨k,hk⟩:=(am1 (U:=U) h9 h0 hn).get;refine (Sbg.calls k A0 c0 _ _ _ w hr0 hc0 hk).mono ?_;rintro e w' ⟨rfl,nd,rfl⟩;exact⟨rfl,aan (Below.refl _ _) _⟩
theorem akM {ops:Array Oper} {rest:List Oper} {op:Oper} {a:Act} {Q:Exit->Act->World->Prop} {w:World} {p:Tmp} {v:Operand} (ho:op.op = .store 4 (.tmp p) v) (hgd:op.guard=none) (hN:op.dst=none) {g o:Nat} (hx:a.eval (.tmp p) = .pointer (some ⟨g,o,none⟩)) {y:Bool} (hy:a.eval v = .bool y) {u:Value} (hc:w.cell? ⟨g,o,none⟩=some u) (hf:w.frozen? ⟨g,o,none⟩=false)
  (h:∀ w',w'=w.setCell ⟨g,o,none⟩ (.bool y)->wpList prog ops Q rest a w'):wpList prog ops Q (op :: rest) a w:=by
 refine aat (P:=prog) hgd ho hN (w1:=w.setCell ⟨g,o,none⟩ (.bool y)) ?_ (fun w' hw=>h w' hw);unfold execOp;simp only [ho,hx,hy];first|(go_simp;done)|(go_simp;rfl)
theorem apt {c:List SQ} (h:¬ CV (qs c)) (A0:Option Addr) (c0:Nat) (w:World) (hr0:Kd.C k31 w A0 c.length c) (hc0:c.length<=c0) :
  Calls prog 132 #[.slice A0 c.length c0] w fun e w'=>∃ ae:Value,e = .returned (.tuple #[ae,.bool false])/\Kd.R k31 TQ w' w.heap.size (fun _=>True) ae ([]:List SQ)/\Below w.heap.size w w':=by
 have af:=aM hr0;have aj:=aM hc0;clear hr0 hc0;have hv:cvB c=false:=decide_eq_false h;have HV:=aM hv;clear h hv;have HB:=jb_ w;go_enter func132,ntmps132;go_wp2_with (first|((with_reducible refine jd 9 ?_);refine R_lit k31 _ 31 ?hg (N:=9) ?hd (xs:=([]:List SQ)) (inner:=[]) (ok:=fun _=>True) (okp:=fun _=>True) ?hr ?hp (fun _ hk=>hk) trivial (Below.refl _ _) (Nat.le_refl _) (by simp) ?_;(case hd=>rfl);(case hg=>rfl);(case hr=>first|(go_simp;done)|(go_simp;rfl));(case hp=>exact (aa8 _ _));intro v9 w5 ho hb hg_ hnew_;clear hg_ hnew_;have HO:=aM (R_lower ho HB.out.size);replace HB:=kH hb;clear ho hb)|((with_reducible refine acm (f:=44) rfl ?_);skip;refine aej (some 11) rfl rfl func44 (by kernel_rfl) rfl #[.slice A0 c.length c0] rfl qM ?_;(with_reducible refine (aoO HV.out A0 c0 _ ?s1 aj.out).mono ?_);(case s1=>exact C_below af.out HB.out);rintro e ay ⟨rfl,hb⟩;refine⟨_,rfl,?_⟩;replace HO:=kR HO hb;replace HB:=kH hb;clear hb));go_ret2;exact⟨_,rfl,HO.out,HB.out⟩
theorem ac9 {G:Prop} (h:G:=by
  go_wp2_with (first|((with_reducible refine jd 8 ?_);refine jX (ics [0,0,0,0,0]) TQ ?_;intro g8 hg av hbox hb;have G8:=kG hg;replace HO:=aM (R_below (R_elderB HO.out g8 (Nat.le_of_eq hg.symm)) hb);replace HU:=kR HU hb;replace HB:=kH hb;clear x0 x1 x2 x3 x4;have B8:=aM hbox;clear hg hbox hb)|((with_reducible refine akK (p:=8) (v:=47) rfl rfl rfl rfl B8.out ?_);intro ax hw aa;replace HO:=aM (ac4 hw (fun _ hk=>hk.2) HO.out);replace HU:=aM (R_mono (ac4 hw (fun _ hk=>hk.2) (R_types HU.out B8.out (by decide))) (fun _ hk=>hk.1));replace HB:=aM (ac7 hw G8.out HB.out);clear B8 hw;have B8:=aM aa;clear aa;obtain⟨d0,d1,d2,d3,d4⟩:=ady B8.out;obtain⟨ak,e9,z0⟩:=Kd.at_bool (R_reads' HU.out).2.2 ji ag.out.1 ag.out.2;rw [RZ.out] at z0;(first|cases e9|(injection e9 with e9;subst e9)))|((with_reducible refine acm (f:=151) rfl ?_);skip;refine aej (some 64) rfl rfl func151 (by kernel_rfl) rfl #[.slice (some ak) (kps c U).length cr,iV q.f4] rfl qM ?_;(with_reducible refine (PL.out (some ak) cr _ ?s3 ?s4).mono ?_);(case s3=>exact (R_reads' HU.out).2.2);(case s4=>exact (kp HU));rintro e aH ⟨rfl,hb⟩;refine⟨_,rfl,?_⟩;replace HO:=kR HO hb;replace HU:=kR HU hb;replace B8:=kB B8 hb;replace HB:=kH hb;clear hb d0 d1 d2 d3 d4 z0;obtain⟨d0,d1,d2,d3,d4⟩:=ady B8.out)|((with_reducible refine ahW (p:=65) rfl rfl rfl rfl rfl B8.out (by simp only [List.length_cons,List.length_nil];omega) ?_);intro az hw aa;replace HO:=aM (R_put hw (fun _ hk=>hk.2) HO.out);replace HU:=aM (R_mono (R_put hw (fun _ hk=>hk.2) (R_types HU.out B8.out (by decide))) (fun _ hk=>hk.1));replace HB:=aM (af7 hw G8.out HB.out);clear B8 hw d0 d1 d2 d3 d4;have B8:aa1 (az.heap[g8]?=some (.cells (ics [q.f0,q.f1,q.f2,q.f3,(plc c U q.f4.toNat:Int)]) TQ (0,0))):=⟨aa⟩;clear aa;obtain⟨d0,d1,d2,d3,d4⟩:=ady B8.out)|((with_reducible refine aa9 (b:=.append) (xs:=#[.tmp 66,.tmp 68]) rfl ?_);at_builtin;refine R_append k31 (w0:=w) w.heap.size rfl (.tmp 66) (.tmp 68) 23 31 (.agg #[(iV 0),(iV 0),(iV 0),(iV 0),(iV 0)]) 40 rfl underlying23 abb rfl (by decide) (by omega) (.slice Ao (sqU c U j).length co) (sqU c U j) (⟨q.f0,q.f1,q.f2,q.f3,(plc c U q.f4.toNat:Int)⟩:SQ) [iV q.f0,iV q.f1,iV q.f2,iV q.f3,iV (plc c U q.f4.toNat:Int)] (fun k_=>True/\k_≠g8) (fun _=>False) rfl rfl ?aP (fun _ hk=>hk.elim) ?aF ?aO ?aB ?aS ?aL ?_;(case aP=>exact aaV _ _ _ (⟨q.f0,q.f1,q.f2,q.f3,(plc c U q.f4.toNat:Int)⟩:SQ));(case aB=>exact HB.out);(case aF=>exact (fun k_ hk=>⟨trivial,Kd.freshB B8.out k_ hk⟩));(case aO=>exact HO.out);(case aS=>exact HB.out.size);(case aL=>have:=hlel.out;omega);intro v44 aA ho hb hg hat;have nHU:=aM (R_over' HU.out (R_typed HO.out) (by decide) hg);rw [<- HN.out] at ho;replace HO:=aM (R_mono (ok':=fun _=>True) ho (fun _ _=>trivial));replace HB:=aM hb;clear HU B8 ho hb hg hat d0 d1 d2 d3 d4;have HU:=nHU;clear nHU));go_roundg k1;case measure=>omega
  exact⟨_,j+1,rfl,⟨by have:=HJI.out;(first|omega|(rw [aaJ (by omega) (by omega)];omega)),by have:=HJ.out.2;omega⟩,HO,HU,HB⟩):G:=h
theorem ac8 {G:Prop} (h:G:=by
  go_wp2_with (first|((with_reducible refine jc 150 34 ?_);(try (refine aal (by rfl) ?_;dsimp only));refine jG func150 #[.agg #[iV (qa c p).f0,iV (qa c p).f1,iV (qa c p).f2,iV (qa c p).f3,iV (qa c p).f4],iV pi] ?_;refine (A3.out _).mono ?_;skip;rintro e w8 ⟨rfl,hb⟩;refine⟨_,rfl,?_⟩;replace HO:=kR HO hb;replace HU:=kR HU hb;replace HB:=kH hb;clear y0 y1 y2 y3 y4 hz;clear hb)|((with_reducible refine aaI (t:=4) (p:=37) rfl ?_);obtain⟨ah,ai⟩:=R_celln false HU.out pi au.out.1 au.out.2;(with_reducible refine akM (p:=37) (y:=false) rfl rfl rfl rfl rfl ah ai ?_);clear ah ai;intro w9 hw;have pg:=R_putg HU.out pi false;rw [HS.out] at pg;have nHO:=aM (R_over' (v:=.slice (some ⟨go,0,none⟩) U.length cr) HO.out (R_typed HU.out) (by decide) pg.2);have nHU:=aM pg.1;have nHB:=aM (af7 hw GO.out HB.out);change aa1 (Kd.R _ _ (World.setCell _ _ (.bool false)) _ _ _ _) at nHO nHU;rw [<- hw] at nHO nHU;clear HB HO HU hw pg;have HB:=nHB;have HO:=nHO;have HU:=nHU;clear nHB nHO nHU));go_roundg k1;case measure=>omega
  exact⟨_,p+1,rfl,⟨by have:=HPI.out;(first|omega|(rw [aaJ (by omega) (by omega)];omega)),by have:=HP.out.2;omega⟩,HO,HU,HB⟩):G:=h
theorem anK {c:List SQ} (h:CV (qs c)) (A0:Option Addr) (c0:Nat) (w:World) (hr0:Kd.C k31 w A0 c.length c) (hc0:c.length<=c0) :
  Calls prog 132 #[.slice A0 c.length c0] w fun e w'=>∃ (ae:Value) (U:List Bool),(RS c).Lfp U/\e = .returned (.tuple #[ae,.bool true])/\Kd.R k31 TQ w' w.heap.size (fun _=>True) ae (sqC c U)/\Below w.heap.size w w':=by
 have af:=aM hr0;have aj:=aM hc0;clear hr0 hc0;have h6:=abf h;have h6':c.length<=600:=h6.2;have HV:=aM (show cvB c=true from decide_eq_true h);have HB:=jb_ w;obtain⟨U,hU,hgo⟩:=an6 h;have hUl:U.length=c.length:=hU.1.1.1;have HUL:=aM hUl;clear hUl;have aC:=aM hU;have HGO:=aM hgo;clear hU hgo;go_enter func132,ntmps132;go_wp2_with (first|((with_reducible refine jd 9 ?_);refine R_lit k31 _ 31 ?hg (N:=9) ?hd (xs:=([]:List SQ)) (inner:=[]) (ok:=fun _=>True) (okp:=fun _=>True) ?hr ?hp (fun _ hk=>hk) trivial (Below.refl _ _) (Nat.le_refl _) (by simp) ?_;(case hd=>rfl);(case hg=>rfl);(case hr=>first|(go_simp;done)|(go_simp;rfl));(case hp=>exact (aa8 _ _));intro v9 w5 ho hb hg_ hnew_;clear hg_ hnew_;have HO:=aM (R_lower ho HB.out.size);replace HB:=kH hb;clear ho hb)|((with_reducible refine acm (f:=44) rfl ?_);skip;refine aej (some 11) rfl rfl func44 (by kernel_rfl) rfl #[.slice A0 c.length c0] rfl qM ?_;(with_reducible refine (aoO HV.out A0 c0 _ ?s1 aj.out).mono ?_);(case s1=>exact C_below af.out HB.out);rintro e ay ⟨rfl,hb⟩;refine⟨_,rfl,?_⟩;replace HO:=kR HO hb;replace HB:=kH hb;clear hb)|((with_reducible refine acm (f:=149) rfl ?_);skip;refine aej (some 15) rfl rfl func149 (by kernel_rfl) rfl #[.slice A0 c.length c0] rfl qM ?_;(with_reducible refine (HGO.out A0 c0 _ ?s2 aj.out).mono ?_);(case s2=>exact C_below af.out HB.out);rintro e w6 ⟨v17,rfl,ho,hb⟩;refine⟨_,rfl,?_⟩;obtain⟨Ar,cr,rfl⟩:=R_slice ho;have HU:=aM (R_lower ho HB.out.size);replace HO:=kR HO hb;replace HB:=kH hb;clear hb ho));have HM:aa1 (∃ M:List Bool,M=(kps c U).take 0 ++ U.drop 0/\Kd.R Kd.bool 4 w6 w.heap.size (fun _=>True) (.slice Ar M.length cr) M):=⟨_,rfl,HU.out⟩;go_loopg [6] c.length (fun kq v6 w'=>∃ (pi:Int) (p:Nat),v6 = iV pi/\aa1 (pi=(p:Int)/\p+kq=c.length)/\aa1 (Kd.R k31 TQ w' w.heap.size (fun _=>True) v9 ([]:List SQ))/\aa1 (Kd.R Kd.bool 4 w' w.heap.size (fun _=>True) (.slice Ar U.length cr) ((kps c U).take p ++ U.drop p))/\aa1 (Below w.heap.size w w'));case atStart=>exact⟨0,0,rfl,⟨rfl,Nat.zero_add _⟩,HO,⟨by rw [List.take_zero,List.nil_append,List.drop_zero];exact HU.out⟩,HB⟩
 clear HO HU HB HM;obtain⟨pi,p,rfl,HP,HO,HU,HB⟩:=hrel;rcases gk with _|k1
 ·have ep:p=c.length:=by have:=HP.out.2;omega
  subst ep;have hpi:pi=(c.length:Int):=HP.out.1;subst hpi;have hfull:(kps c U).take c.length ++ U.drop c.length=kps c U:=by rw [List.take_of_length_le (by rw [adw];exact Nat.le_refl _),List.drop_eq_nil_of_le (by rw [HUL.out];exact Nat.le_refl _),List.append_nil]
  rw [hfull] at HU;have hKU:U.length=(kps c U).length:=by rw [adw,HUL.out]
  have nHU:aa1 (Kd.R Kd.bool 4 wr w.heap.size (fun _=>True) (.slice Ar (kps c U).length cr) (kps c U)):=⟨by rw [<- hKU];exact HU.out⟩;have HKU:=aM hKU;clear hfull HU;have HU:=nHU;clear nHU;rw [hKU];clear hKU;go_wp2;go_loopg [4,7] c.length (fun kq v4 v7 w'=>∃ (ji:Int) (j:Nat),v7 = iV ji/\aa1 (ji=(j:Int)/\j+kq=c.length)/\aa1 (Kd.R k31 TQ w' w.heap.size (fun _=>True) v4 (sqU c U j))/\aa1 (Kd.R Kd.bool 4 w' w.heap.size (fun _=>True) (.slice Ar (kps c U).length cr) (kps c U))/\aa1 (Below w.heap.size w w'));case atStart=>exact⟨0,0,rfl,⟨rfl,Nat.zero_add _⟩,HO,HU,HB⟩
  clear HO HU HB;obtain⟨ji,j,rfl,HJ,HO,HU,HB⟩:=hrel;obtain⟨Ao,co,rfl⟩:=R_slice HO.out;rcases gk with _|k1
  ·have ej:j=c.length:=by have:=HJ.out.2;omega
   subst ej;have hji:ji=(c.length:Int):=HJ.out.1;subst hji;go_wp2;go_ret2;exact⟨_,U,aC.out,rfl,HO.out,HB.out⟩
  have hj:j < c.length:=by have:=HJ.out.2;omega
  have hji:ji=(j:Int):=HJ.out.1;have j0:0<=ji:=by omega
  have j1:ji < (c.length:Int):=by omega
  have ju:ji < ((kps c U).length:Int):=by rw [adw];exact j1
  obtain⟨aq,e2,x0,x1,x2,x3,x4⟩:=aaQ af.out ji j0 j1;cases e2;have rq:aa0 c ji=qa c j:=by rw [hji];exact ac5 c j
  rw [rq] at x0 x1 x2 x3 x4;replace x0:=kx HB x0;replace x1:=kx HB x1;replace x2:=kx HB x2;replace x3:=kx HB x3;replace x4:=kx HB x4;have rz:acj false (kps c U) ji=kpt c U j:=by rw [hji,abZ,afS hj]
  have hle:(sqU c U j).length<=600:=by rw [aiM];have:=ajI c U j;omega
  have hlel:=aM hle;have HN:=aM (ajz c U j);have HJI:=aM hji;have hnr:(qa c j).f0=4\/(qa c j).f0=5->0<=(qa c j).f4/\(qa c j).f4 < c.length:=fun g=>al6 h hj g
  obtain⟨q,hq⟩:∃ q,q=qa c j:=⟨_,rfl⟩
  rw [<- hq] at x0 x1 x2 x3 x4 HN hnr;have ag:=aM (And.intro j0 ju);have aI:=eq_true j0;have aJ:=eq_true j1;have jut:=eq_true ju;have aK:=decide_eq_true j0;have aN:=decide_eq_true j1;have jub:=decide_eq_true ju;clear hji rq j0 j1 ju hle hq;by_cases g:kpt c U j=true
  ·rw [g] at rz;have RZ:=aM rz;rw [if_pos g] at HN;clear rz g;by_cases g4:q.f0=4
   ·obtain⟨n0,n1⟩:=hnr (.inl g4);have es:sqQ c U q=⟨q.f0,q.f1,q.f2,q.f3,(plc c U q.f4.toNat:Int)⟩:=if_pos (.inl g4);rw [es] at HN;have PL:=aM (fun (A0:Option Addr) (c0:Nat) (W:World)=>afR (c:=c) (U:=U) (n:=q.f4) (by omega) n0 (by omega) A0 c0 W);have aD:(q.f0 == 4)=true:=beq_iff_eq.mpr g4;clear hnr g4 n0 n1 es;exact ac9
   have aD:(q.f0 == 4)=false:=beq_eq_false_iff_ne.mpr g4;by_cases g5:q.f0=5
   ·obtain⟨n0,n1⟩:=hnr (.inr g5);have es:sqQ c U q=⟨q.f0,q.f1,q.f2,q.f3,(plc c U q.f4.toNat:Int)⟩:=if_pos (.inr g5);rw [es] at HN;have PL:=aM (fun (A0:Option Addr) (c0:Nat) (W:World)=>afR (c:=c) (U:=U) (n:=q.f4) (by omega) n0 (by omega) A0 c0 W);have aG:(q.f0 == 5)=true:=beq_iff_eq.mpr g5;clear hnr g4 g5 n0 n1 es;exact ac9
   have aG:(q.f0 == 5)=false:=beq_eq_false_iff_ne.mpr g5;have es:sqQ c U q=q:=if_neg (by omega);rw [es] at HN;clear hnr g4 g5 es;go_wp2_with (first|((with_reducible refine jd 8 ?_);refine jX (ics [0,0,0,0,0]) TQ ?_;intro g8 hg av hbox hb;have G8:=kG hg;replace HO:=aM (R_below (R_elderB HO.out g8 (Nat.le_of_eq hg.symm)) hb);replace HU:=kR HU hb;replace HB:=kH hb;clear x0 x1 x2 x3 x4;have B8:=aM hbox;clear hg hbox hb)|((with_reducible refine akK (p:=8) (v:=47) rfl rfl rfl rfl B8.out ?_);intro ax hw aa;replace HO:=aM (ac4 hw (fun _ hk=>hk.2) HO.out);replace HU:=aM (R_mono (ac4 hw (fun _ hk=>hk.2) (R_types HU.out B8.out (by decide))) (fun _ hk=>hk.1));replace HB:=aM (ac7 hw G8.out HB.out);clear B8 hw;have B8:=aM aa;clear aa;obtain⟨d0,d1,d2,d3,d4⟩:=ady B8.out;obtain⟨ak,e9,z0⟩:=Kd.at_bool (R_reads' HU.out).2.2 ji ag.out.1 ag.out.2;rw [RZ.out] at z0;(first|cases e9|(injection e9 with e9;subst e9)))|((with_reducible refine aa9 (b:=.append) (xs:=#[.tmp 66,.tmp 68]) rfl ?_);at_builtin;refine R_append k31 (w0:=w) w.heap.size rfl (.tmp 66) (.tmp 68) 23 31 (.agg #[(iV 0),(iV 0),(iV 0),(iV 0),(iV 0)]) 40 rfl underlying23 abb rfl (by decide) (by omega) (.slice Ao (sqU c U j).length co) (sqU c U j) (⟨q.f0,q.f1,q.f2,q.f3,q.f4⟩:SQ) [iV q.f0,iV q.f1,iV q.f2,iV q.f3,iV q.f4] (fun k_=>True/\k_≠g8) (fun _=>False) rfl rfl ?aP (fun _ hk=>hk.elim) ?aF ?aO ?aB ?aS ?aL ?_;(case aP=>exact aaV _ _ _ (⟨q.f0,q.f1,q.f2,q.f3,q.f4⟩:SQ));(case aB=>exact HB.out);(case aF=>exact (fun k_ hk=>⟨trivial,Kd.freshB B8.out k_ hk⟩));(case aO=>exact HO.out);(case aS=>exact HB.out.size);(case aL=>have:=hlel.out;omega);intro v44 aA ho hb hg hat;have nHU:=aM (R_over' HU.out (R_typed HO.out) (by decide) hg);rw [<- HN.out] at ho;replace HO:=aM (R_mono (ok':=fun _=>True) ho (fun _ _=>trivial));replace HB:=aM hb;clear HU B8 ho hb hg hat d0 d1 d2 d3 d4;have HU:=nHU;clear nHU));go_roundg k1;case measure=>omega
   exact⟨_,j+1,rfl,⟨by have:=HJI.out;(first|omega|(rw [aaJ (by omega) (by omega)];omega)),by have:=HJ.out.2;omega⟩,HO,HU,HB⟩
  have g:=Bool.eq_false_iff.mpr g;rw [g] at rz;have RZ:=aM rz;rw [if_neg (by rw [g];simp),List.append_nil] at HN;clear rz g hnr;go_wp2_with (first|((with_reducible refine jd 8 ?_);refine jX (ics [0,0,0,0,0]) TQ ?_;intro g8 hg av hbox hb;have G8:=kG hg;replace HO:=aM (R_below (R_elderB HO.out g8 (Nat.le_of_eq hg.symm)) hb);replace HU:=kR HU hb;replace HB:=kH hb;clear x0 x1 x2 x3 x4;have B8:=aM hbox;clear hg hbox hb)|((with_reducible refine akK (p:=8) (v:=47) rfl rfl rfl rfl B8.out ?_);intro ax hw aa;replace HO:=aM (ac4 hw (fun _ hk=>hk.2) HO.out);replace HU:=aM (R_mono (ac4 hw (fun _ hk=>hk.2) (R_types HU.out B8.out (by decide))) (fun _ hk=>hk.1));replace HB:=aM (ac7 hw G8.out HB.out);clear B8 hw;have B8:=aM aa;clear aa;obtain⟨d0,d1,d2,d3,d4⟩:=ady B8.out;obtain⟨ak,e9,z0⟩:=Kd.at_bool (R_reads' HU.out).2.2 ji ag.out.1 ag.out.2;rw [RZ.out] at z0;(first|cases e9|(injection e9 with e9;subst e9))));have nHO:=aM (R_mono (ok':=fun _=>True) HO.out (fun _ _=>trivial));clear HO;have HO:=nHO;clear nHO;go_roundg k1;case measure=>omega
  exact⟨_,j+1,rfl,⟨by have:=HJI.out;(first|omega|(rw [aaJ (by omega) (by omega)];omega)),by have:=HJ.out.2;omega⟩,⟨by rw [HN.out];exact HO.out⟩,HU,HB⟩
 have hp:p < c.length:=by have:=HP.out.2;omega
 have hpi:pi=(p:Int):=HP.out.1;have p0:0<=pi:=by omega
 have p1:pi < (c.length:Int):=by omega
 have pu:pi < (U.length:Int):=by rw [HUL.out];exact p1
 obtain⟨aq,e2,x0,x1,x2,x3,x4⟩:=aaQ af.out pi p0 p1;cases e2;have rq:aa0 c pi=qa c p:=by rw [hpi];exact ac5 c p
 rw [rq] at x0 x1 x2 x3 x4;have kl:=adw c U;have cl:=HUL.out;have hl:=aiT (A:=kps c U) (B:=U) (by omega) (show p<=(kps c U).length by omega);have hgt:=aiU false (A:=kps c U) (B:=U) (by omega) (show p<=(kps c U).length by omega);have hn:=ahz false (A:=kps c U) (B:=U) (by omega) (show p < (kps c U).length by omega);rw [afS hp] at hn;obtain⟨M,hM⟩:∃ M,M=(kps c U).take p ++ U.drop p:=⟨_,rfl⟩
 rw [<- hM] at hl hgt hn HU;obtain⟨go,cp,he,gb,gl,cells,HG⟩:=R_form HU.out (by omega);simp only [Value.slice.injEq] at he;obtain⟨rfl,hbm,rfl⟩:=he;have GO:=aM gb;clear hbm gb gl HG;have hz:=(R_celln false HU.out pi p0 pu).1;have rz:acj false M pi=U.getD p false:=by rw [hpi,abZ,hgt]
 rw [rz] at hz;have hset:∀ b,kpt c U p=b->M.set pi.toNat b=(kps c U).take (p+1) ++ U.drop (p+1):=fun b e=>by rw [hpi,Int.toNat_natCast,<- e];exact hn
 have HSET:=aM hset;have HPI:=aM hpi;have X0:=aM x0;have X1:=aM x1;have X2:=aM x2;have X3:=aM x3;have X4:=aM x4;have y0:=kx HB x0;have y1:=kx HB x1;have y2:=kx HB x2;have y3:=kx HB x3;have y4:=kx HB x4;have au:=aM (And.intro p0 pu);have A2:=aM (show ∀ b,idle (qa c p) p=b->∀ W,Calls prog 150 #[.agg #[iV (qa c p).f0,iV (qa c p).f1,iV (qa c p).f2,iV (qa c p).f3,iV (qa c p).f4],iV pi] W fun e w'=>e = .returned (.bool b)/\Below W.heap.size W w' from fun b e W=>by rw [hpi];exact akf _ (by omega) e W);have aQ:=eq_true p0;have aR:=eq_true p1;have put_:=eq_true pu;have aT:=decide_eq_true p0;have aU:=decide_eq_true p1;have pub:=decide_eq_true pu;clear x0 x1 x2 x3 x4 hset hpi rq rz p0 p1 pu hn hgt hl kl cl hM;by_cases cu:U.getD p false=true
 ·rw [cu] at hz;by_cases ci:idle (qa c p) p=true
  ·have HS:=aM (HSET.out false (by unfold kpt;rw [cu,ci];rfl));have A3:=aM (A2.out true ci);clear cu ci A2 HSET;exact ac8
  have ci:=Bool.eq_false_iff.mpr ci;have HS:=aM (HSET.out true (by unfold kpt;rw [cu,ci];rfl));have A3:=aM (A2.out false ci);clear cu ci A2 HSET;go_wp2_with (first|((with_reducible refine jc 150 34 ?_);(try (refine aal (by rfl) ?_;dsimp only));refine jG func150 #[.agg #[iV (qa c p).f0,iV (qa c p).f1,iV (qa c p).f2,iV (qa c p).f3,iV (qa c p).f4],iV pi] ?_;refine (A3.out _).mono ?_;skip;rintro e w8 ⟨rfl,hb⟩;refine⟨_,rfl,?_⟩;replace HO:=kR HO hb;replace HU:=kR HU hb;replace HB:=kH hb;clear y0 y1 y2 y3 y4 hz;clear hb)|((with_reducible refine aaI (t:=4) (p:=37) rfl ?_);obtain⟨ah,ai⟩:=R_celln false HU.out pi au.out.1 au.out.2;(with_reducible refine akM (p:=37) (y:=true) rfl rfl rfl rfl rfl ah ai ?_);clear ah ai;intro w9 hw;have pg:=R_putg HU.out pi true;rw [HS.out] at pg;have nHO:=aM (R_over' (v:=.slice (some ⟨go,0,none⟩) U.length cr) HO.out (R_typed HU.out) (by decide) pg.2);have nHU:=aM pg.1;have nHB:=aM (af7 hw GO.out HB.out);change aa1 (Kd.R _ _ (World.setCell _ _ (.bool true)) _ _ _ _) at nHO nHU;rw [<- hw] at nHO nHU;clear HB HO HU hw pg;have HB:=nHB;have HO:=nHO;have HU:=nHU;clear nHB nHO nHU));go_roundg k1;case measure=>omega
  exact⟨_,p+1,rfl,⟨by have:=HPI.out;(first|omega|(rw [aaJ (by omega) (by omega)];omega)),by have:=HP.out.2;omega⟩,HO,HU,HB⟩
 have cu:=Bool.eq_false_iff.mpr cu;rw [cu] at hz;have HS:=aM (HSET.out false (by unfold kpt;rw [cu];rfl));clear cu A2 HSET;exact ac8
theorem Saw.calls (k:Nat) (A0:Option Addr) (c0:Nat) (l0 r1:List SQ) (r2:Bool) (w:World) (hr0:Kd.C k31 w A0 l0.length l0) (hc0:l0.length<=c0) (h:Saw.f k l0=some (r1,r2)) :
  Calls prog 132 #[.slice A0 l0.length c0] w fun e w'=>∃ ae:Value,e = .returned (.tuple #[ae,.bool r2])/\Kd.R k31 TQ w' w.heap.size (fun _=>True) ae r1/\Below w.heap.size w w':=by
 by_cases hv:CV (qs l0)
 ·obtain⟨U,hU,hE⟩:=aoA hv;have e:=ajS (fun k=>Saw.mono l0 k) hE h;obtain⟨rfl,rfl⟩:=Prod.mk.inj e;refine (anK hv A0 c0 w hr0 hc0).mono ?_;rintro e w' ⟨v,V,hV,rfl,hR,hb⟩;rw [Sys.lfp_unique (af3 hv) hV hU] at hR;exact⟨v,rfl,hR,hb⟩
 have e:=ajS (fun k=>Saw.mono l0 k) (apu hv) h;obtain⟨rfl,rfl⟩:=Prod.mk.inj e;exact apt hv A0 c0 w hr0 hc0
end Go.Proofs.YtdkkdiiceaomaaaGreat.M
namespace Go.Proofs.YtdkkdiiceaomaaaGreat.M
open Go.Proofs.Tryz Go.RowKit Go.Proofs.YtdkkdiiceaomaaaGreatW.PrintWords Go.Proofs.YtdkkdiiceaomaaaGreatW.PrintLast Go.Proofs.YtdkkdiiceaomaaaGreatW.PrintMore Kd
attribute [local go_sem] aas aaq aaH aaG aaj aai aar aap
def ajh (k:Nat) (l0:List S31):Option ((List S31)):=(Sao.f k l0).bind fun ax=>((Saj.f k ax.1).bind fun ay=>((Sap.f k ay.1).bind fun az=>((Sak.f k az.1).bind fun aA=>((Saw.f k aA.1).bind fun aB=>(some aB.1)))))
theorem am0 (k:Nat) (A0:Option Addr) (c0:Nat) (l0 r:List S31) (w:World) (hr0:Kd.C k31 w A0 l0.length l0) (hc0:l0.length<=c0) (h:ajh k l0=some r) :
  Calls prog 117 #[.slice A0 l0.length c0] w fun e w'=>∃ aU:Value,e = .returned (aU)/\Kd.R k31 31 w' w.heap.size (fun _=>True) aU r/\Below w.heap.size w w':=by
 have bg:=aM hr0;have bi:=aM hc0;clear hr0 hc0;have HB:=jb_ w;have H:=h;unfold ajh at H;clear h;obtain⟨⟨aj,aD⟩,A2,H⟩:=qE H;try dsimp only at H
 obtain⟨⟨ak,aF⟩,A3,H⟩:=qE H;try dsimp only at H
 obtain⟨⟨au,aG⟩,A4,H⟩:=qE H;try dsimp only at H
 obtain⟨⟨av,aH⟩,A5,H⟩:=qE H;try dsimp only at H
 obtain⟨⟨aI,aJ⟩,A6,H⟩:=qE H;try dsimp only at H
 obtain rfl:=oJ H;go_enter func117,ntmps117;go_wp2_with (first|((with_reducible refine jc 15 15 ?_);refine jM func15 (Sao.calls k _ _ l0 aj aD _ (kC bg.out) bi.out A2.out) ?_;rintro aV w7 ⟨ho0,hb⟩;have aa:=kL ho0;replace HB:=kH hb;clear hb;(try clear ho0);obtain⟨bn,bq,bu⟩:=R_slice aa.out;subst bu)|((with_reducible refine jc 23 20 ?_);refine jM func23 (Saj.calls k _ _ aj ak aF _ (kJ aa) (kp aa) A3.out) ?_;rintro aW w9 ⟨ho0,hb⟩;have ae:=aM (R_lower (R_new' ho0 (R_lt (qR aa))) (aa4 qB));replace aa:=kO aa ho0 hb;replace HB:=kH hb;clear hb;(try clear ho0);obtain⟨aK,aL,aN⟩:=R_slice ae.out;subst aN)|((with_reducible refine jc 130 25 ?_);refine jM func130 (Sap.calls k _ _ ak au aG _ (kJ ae) (kp ae) A4.out) ?_;rintro aX bv ⟨ho0,hb⟩;have af:=aM (R_lower (R_new' (R_new' ho0 (R_lt (qR aa))) (R_lt (qR ae))) (aa4 qB));replace aa:=kO aa ho0 hb;replace ae:=kO ae ho0 hb;replace HB:=kH hb;clear hb;(try clear ho0);obtain⟨aO,aP,aQ⟩:=R_slice af.out;subst aQ)|((with_reducible refine jc 131 30 ?_);refine jM func131 (Sak.calls k _ _ au av aH _ (kJ af) (kp af) A5.out) ?_;rintro aY bz ⟨ho0,hb⟩;have ai:=aM (R_lower (R_new' (R_new' (R_new' ho0 (R_lt (qR aa))) (R_lt (qR ae))) (R_lt (qR af))) (aa4 qB));replace aa:=kO aa ho0 hb;replace ae:=kO ae ho0 hb;replace af:=kO af ho0 hb;replace HB:=kH hb;clear hb;(try clear ho0);obtain⟨aR,aS,aT⟩:=R_slice ai.out;subst aT)|((with_reducible refine jc 132 35 ?_);refine jM func132 (Saw.calls k _ _ av aI aJ _ (kJ ai) (kp ai) A6.out) ?_;rintro aZ bA ⟨ho0,hb⟩;have aC:=aM (R_lower (R_new' (R_new' (R_new' (R_new' ho0 (R_lt (qR aa))) (R_lt (qR ae))) (R_lt (qR af))) (R_lt (qR ai))) (aa4 qB));replace aa:=kO aa ho0 hb;replace ae:=kO ae ho0 hb;replace af:=kO af ho0 hb;replace ai:=kO ai ho0 hb;replace HB:=kH hb;clear hb;(try clear ho0)));go_ret;exact⟨_,qW,by (with_reducible repeat (first|apply R_alloc|apply R_drewN|apply R_drew));exact R_mono aC.out (fun _ hk=>trivial),qB⟩
end Go.Proofs.YtdkkdiiceaomaaaGreat.M
namespace Go.Proofs.YtdkkdiiceaomaaaGreat.M
open Go.Proofs.Tryz Go.RowKit Go.Proofs.YtdkkdiiceaomaaaGreatW.PrintWords Go.Proofs.YtdkkdiiceaomaaaGreatW.PrintLast Go.Proofs.YtdkkdiiceaomaaaGreatW.PrintMore
attribute [local go_sem] aas aaq aaH aaG aaj aai aar aap
mutual
def ah8:Nat->List S31->Int->Bool->Option ((List S31) × Bool)
 | 0,_,_,_=>none
 | k+1,x0,x1,bA=>if bA=true then (some ((([]:List S31)),false)) else ((some (([]:List S31):List S31)).bind fun af=>(if af.length+x0.length < 3518437208883 then (adj k x1 (af ++ x0) 0) else (none)))
def adj:Nat->Int->List S31->Int->Option ((List S31) × Bool)
 | 0,_,_,_=>none
 | k+1,x1,x6,x7=>if x7 < x1 then ((ajh k x6).bind fun ak=>(adj k x1 ak (wrap64 (x7+1)))) else (some (x6,true))
end
def Sas.f (k:Nat) (l0:List S31) (a1:Int):Option ((List S31) × Bool):=(Sag.f k l0).bind fun aA=>(if aA=true then ((ae4 a1 0 4).bind fun aC=>(ah8 k l0 a1 (!aC))) else (ah8 k l0 a1 true))
theorem Sas.calls (k:Nat) (A0:Option Addr) (c0:Nat) (l0:List S31) (a1:Int) (r1:List S31) (r2:Bool) (w:World) (hr0:Kd.C k31 w A0 l0.length l0) (hc0:l0.length<=c0) (h:Sas.f k l0 a1=some (r1,r2)) :
  Calls prog 97 #[.slice A0 l0.length c0,iV a1] w fun e w'=>∃ aZ:Value,e = .returned (.tuple #[aZ,.bool r2])/\Kd.R k31 31 w' w.heap.size (fun _=>True) aZ r1/\Below w.heap.size w w':=by
 have aT:=aM hr0;have bg:=aM hc0;clear hr0 hc0;have HB:=jb_ w;have H:=h;unfold Sas.f at H;clear h;have aU:=aM H;clear H;go_enter func97,ntmps97;go_upto_region 1 with (fail);go_cut [15] (fun v15 wc=>∃ (kq:Nat) (au:Bool),v15 = .bool au/\aa1 (ah8 kq l0 a1 au=some (r1,r2))/\aa1 (kq<=k)/\aa1 (Below w.heap.size w wc))
 case first =>
  have H:=aU.out;clear aU;obtain⟨aA,A4,H⟩:=qE H;try dsimp only at H
  replace H:=jB H;rcases H with ⟨rfl,H⟩ | ⟨rfl,H⟩
  ·obtain⟨aC,A6,H⟩:=qE H;try dsimp only at H
   have H':=aM H;clear H;go_wp2_with (first|((with_reducible refine jc 44 9 ?_);refine jK func44 (Sag.calls k _ _ l0 true _ (kb aT HB) bg.out A4.out) ?_;intro aV hb;replace HB:=kH hb;clear hb)|(go_at_call 60;(with_reducible refine (Sbm.calls _ _ _ _ _ (aa1.out (by assumption))).mono ?_);rintro e w' ⟨rfl,⟨nd,rfl⟩⟩));go_meet;exact⟨_,_,qZ,H',⟨by first|omega|exact Nat.le_refl _⟩,⟨qB⟩⟩
  have H':=aM H;clear H;go_wp2_with (first|((with_reducible refine jc 44 9 ?_);refine jK func44 (Sag.calls k _ _ l0 false _ (kb aT HB) bg.out A4.out) ?_;intro aV hb;replace HB:=kH hb;clear hb));go_meet;exact⟨_,_,qZ,H',⟨by first|omega|exact Nat.le_refl _⟩,⟨qB⟩⟩
 clear aU;obtain⟨kq,au,rfl,HA,HJ2,HB⟩:=hcut
 cases kq with
 | zero=>exact absurd HA.out (by simp [ah8])
 | succ bi =>
  have H:=HA.out;clear HA;simp only [ah8] at H;replace H:=jB H;rcases H with ⟨rfl,H⟩ | ⟨rfl,H⟩
  ·obtain⟨bn,aa⟩:=ky ([]:List S31);replace H:=kv aa H;obtain⟨rfl,rfl⟩:=oJ2 H;go_wp2_with (first|((with_reducible refine jd 16 ?_);refine jV k31 31 ([]:List S31) [] (aa8 _ _) ?_;intro bq bC av hb;replace av:=kr aa av;have aD:=kL av;replace HB:=kH hb;clear hb av));go_ret2;exact⟨_,qW,qR aD,qB⟩
  obtain⟨af,ae⟩:=ky ([]:List S31);replace H:=kv ae H;replace H:=jL H;obtain⟨aK,H⟩:=H;obtain⟨aN,ai⟩:=ky ((af ++ l0):List S31);replace H:=kv ai H;have H':=aM H;clear H;go_wp2_with (first|((with_reducible refine jd 17 ?_);refine jV k31 31 ([]:List S31) [] (aa8 _ _) ?_;intro aP bF ax hb;replace ax:=kr ae ax;have ay:=kL ax;replace HB:=kH hb;clear hb ax)|((with_reducible refine aa9 (b:=.append) (xs:=#[.tmp 17,.tmp 18]) rfl ?_);at_builtin;refine Kd.R_append_rows k31 (w0:=w) w.heap.size rfl (.tmp 17) (.tmp 18) 23 31 (.agg #[(iV 0),(iV 0),(iV 0),(iV 0),(iV 0)]) 40 rfl underlying23 abb rfl (by decide) (by omega) aP af l0 _ _ _ (fun _=>True) (fun _=>False) rfl rfl ?aO ?aR (fun _ _ h=>h) (fun _ h=>h.elim) ?aF ?aB ?aS ?aL ?_;(case aR=>exact kb aT HB);(case aB=>exact qB);(case aF=>exact (fun _ _=>trivial));(case aO=>exact (qR ay));(case aS=>exact (aa4 qB));(case aL=>have:=aK.out;omega);intro bu bG ho hb hg hat;rw [<- ai.out] at ho;have aG:=aM ho;replace HB:=aM hb;clear ay;clear ho hb hg hat));go_loopg [6,7] bi (fun kq v6 v7 w'=>∃ (az:List S31) (aH:Int),v7 = iV aH/\aa1 (adj kq a1 az aH=some (r1,r2))/\aa1 (kq<=bi)/\aa1 (Kd.R k31 31 w' w.heap.size (fun _=>True) v6 az)/\aa1 (Below w.heap.size w w'));case atStart=>exact⟨(aN),(0),qZ,H',⟨Nat.le_refl _⟩,⟨qR aG⟩,⟨qB⟩⟩
  clear H';obtain⟨az,aH,rfl,HA,bv,aj,HB⟩:=hrel;rcases gk with _|k2
  ·exact absurd HA.out (by simp [adj])
  have H:=HA.out;clear HA;simp only [adj] at H;replace H:=jD H;rcases H with ⟨aQ,H⟩ | ⟨aQ,H⟩
  ·obtain⟨ak,bD,H⟩:=qE H;try dsimp only at H
   have H':=aM H;clear H;obtain⟨aW,aX,aY⟩:=Kd.R_slice aj.out;subst aY;go_wp2_with (first|((with_reducible refine jc 117 26 ?_);refine jM func117 (am0 k2 _ _ az ak _ (kJ aj) (kp aj) bD.out) ?_;rintro bz bE ⟨aI,hb⟩;have aJ:=aM (Kd.R_lower (Kd.R_new' aI (Kd.R_lt (qR aj))) (aa4 qB));replace aj:=kO aj aI hb;replace HB:=kH hb;clear hb;(try clear aI)));go_roundg k2;case measure=>have:=HJ2.out;have:=bv.out;omega
   exact⟨_,_,qZ,H',⟨by have:=HJ2.out;have:=bv.out;omega⟩,⟨by (with_reducible repeat (first|apply Kd.R_alloc|apply Kd.R_drewN|apply Kd.R_drew));exact Kd.R_mono aJ.out (fun _ hk=>trivial)⟩,⟨qB⟩⟩
  obtain⟨rfl,rfl⟩:=oJ2 H;go_wp2;go_ret2;exact⟨_,qW,qR aj,qB⟩
end Go.Proofs.YtdkkdiiceaomaaaGreat.M
namespace Go.Proofs.YtdkkdiiceaomaaaGreat.M
open Go.Proofs.Tryz Go.RowKit Go.Proofs.YtdkkdiiceaomaaaGreatW.PrintWords Go.Proofs.YtdkkdiiceaomaaaGreatW.PrintLast Go.Proofs.YtdkkdiiceaomaaaGreatW.PrintMore Kd
attribute [local go_sem] aas aaq aaH aaG aaj aai aar aap
def am8 (k:Nat) (ah:List Int) (av:Int):Option ((List S31) × Int):=(ab4 k ah av 2).bind fun ax=>(if ax.1=0 then ((ako k ah ax.2).bind fun az=>(some (az.1,az.2))) else ((alO k ah ax.2 2).bind fun ay=>((amC k ay.1).bind fun aA=>(if (aA.1.length:Int) > 40 then ((ako k ah ay.2).bind fun aB=>(some (aB.1,aB.2))) else ((ab4 k ah ay.2 3).bind fun aC=>((Sas.f k aA.1 (wrap64 (Int.tdiv aC.1 2))).bind fun aH=>(some (aH.1,aC.2))))))))
theorem adC (k g:Nat) (ah:List Int) (av:Int) (r1:List S31) (r2:Int) (w0 w:World) (hI:Sab w0 w g ah av) (hB:Below w0.heap.size w0 w) (h:am8 k ah av=some (r1,r2)) :
  Calls prog 71 #[.pointer (some ⟨g,0,none⟩)] w fun e w'=>∃ bE:Value,e = .returned (bE)/\Kd.R k31 31 w' w.heap.size (fun _=>True) bE r1/\Sab w0 w' g ah r2/\Below w0.heap.size w0 w'/\aa7 w w' g none:=by
 have HI0:=aM hI;have HK:=aM (aaK w g none);have HL:=aM hB.size;clear hI;have HW0:=aM hB.size;have HB:=aM hB;clear hB;have H:=h;unfold am8 at H;clear h;obtain⟨⟨aD,aj⟩,A2,H⟩:=qE H;try dsimp only at H
 replace H:=jE H;rcases H with ⟨aX,aY,H⟩ | ⟨c3,aX,aY,H⟩
 ·obtain⟨⟨aL,aN⟩,A4,H⟩:=qE H;try dsimp only at H
  obtain⟨rfl,rfl⟩:=oJ2 H;go_enter func71,ntmps71;go_wp2_with (first|((with_reducible refine jc 55 8 ?_);refine jK func55 (aab k g ah av 2 aD aj w0 _ (qI HI0) qB A2.out) ?_;rintro w5 ⟨hi,hb,hk⟩;replace HK:=kI hk;replace HB:=aM hb;replace HI0:=aM hi;clear hb hk hi)|((with_reducible refine jc 94 11 ?_);refine jM func94 (aiu k g ah aj aL aN w0 _ (qI HI0) qB A4.out) ?_;rintro bF w6 ⟨ho0,hi,hb,hk⟩;have aI:=aM (R_lower ho0 kU);replace HK:=kI hk;replace HB:=aM hb;replace HI0:=aM hi;clear hb hk hi;(try clear ho0)));go_ret;exact⟨_,qW,qR aI,qI HI0,qB,qH⟩
 obtain⟨⟨ak,au⟩,A7,H⟩:=qE H;try dsimp only at H
 obtain⟨⟨ai,aG⟩,A8,H⟩:=qE H;try dsimp only at H
 by_cases c9:(ai.length:Int) > 40
 ·rw [if_pos c9] at H;have aZ:=decide_eq_true c9;have bg:decide (40 < ai.length)=true:=decide_eq_true (by omega);clear c9;obtain⟨⟨aO,aP⟩,bI,H⟩:=qE H;try dsimp only at H
  obtain⟨rfl,rfl⟩:=oJ2 H;go_enter func71,ntmps71;go_wp2_with (first|((with_reducible refine jc 55 8 ?_);refine jK func55 (aab k g ah av 2 aD aj w0 _ (qI HI0) qB A2.out) ?_;rintro bL ⟨hi,hb,hk⟩;replace HK:=kI hk;replace HB:=aM hb;replace HI0:=aM hi;clear hb hk hi)|((with_reducible refine jc 96 14 ?_);refine jM func96 (ail k g ah aj 2 ak au w0 _ (qI HI0) qB A7.out) ?_;rintro aQ bM ⟨ho0,hi,hb,hk⟩;have aa:=aM (N_lower (N_mono (ok':=fun k_=>k_≠g) ho0 (fun k_ hk_=>(Sab.fresh (qI HI0) k_ hk_))) kU);replace HK:=kI hk;replace HB:=aM hb;replace HI0:=aM hi;clear hb hk hi;(try clear ho0);obtain⟨bi,bn,bq⟩:=N_slice aa.out;subst bq)|((with_reducible refine jc 95 15 ?_);refine jM func95 (aiB k _ _ ak ai aG _ (kC (N_reads' aa.out).2.2) (N_reads' aa.out).2.1 A8.out) ?_;rintro aR bN ⟨ho0,hb⟩;have ag:=aM (R_lower ho0 kU);replace aa:=aM (N_elder' (qN aa) (R_base ho0) hb);replace HI0:=aM (Sab.below (qI HI0) hb);replace HK:=kY hb;replace HB:=kH hb;clear hb;(try clear ho0);obtain⟨bu,bv,bz⟩:=R_slice ag.out;subst bz)|((with_reducible refine jc 94 22 ?_);refine jM func94 (aiu k g ah au aO aP w0 _ (qI HI0) qB bI.out) ?_;rintro bG w16 ⟨ho0,hi,hb,hk⟩;have aJ:=aM (R_lower (R_new' ho0 (R_lt (qR ag))) kU);replace aa:=aM (N_mono (N_told (N_oldK (N_mono (ok:=fun k_=>(k_≠g/\some k_≠(.slice bu ai.length bv:Value).ownBlock)) (qN aa) (fun k_ hk_=>(⟨hk_,hk_.1⟩:_/\k_≠g))) hk) (R_base ho0)) (fun _ h_=>h_.1));replace ag:=aM (R_mono (R_told (R_oldK (Sab.apart (show Sab w0 _ g ah au from qI HI0) (qR ag) (by decide)) hk) (R_base ho0)) (fun _ h_=>h_.1));replace HK:=kI hk;replace HB:=aM hb;replace HI0:=aM hi;clear hb hk hi;(try clear ho0)));go_ret;exact⟨_,qW,by (with_reducible repeat (first|apply R_alloc|apply R_drewN|apply R_drew));exact R_mono aJ.out (fun _ hk=>trivial),qI HI0,qB,qH⟩
 rw [if_neg c9] at H;have aZ:=decide_eq_false c9;have bg:decide (40 < ai.length)=false:=decide_eq_false (by omega);clear c9;obtain⟨⟨aF,aS⟩,bJ,H⟩:=qE H;try dsimp only at H
 obtain⟨⟨aT,aU⟩,bK,H⟩:=qE H;try dsimp only at H
 obtain⟨rfl,rfl⟩:=oJ2 H;go_enter func71,ntmps71;go_wp2_with (first|((with_reducible refine jc 55 8 ?_);refine jK func55 (aab k g ah av 2 aD aj w0 _ (qI HI0) qB A2.out) ?_;rintro bO ⟨hi,hb,hk⟩;replace HK:=kI hk;replace HB:=aM hb;replace HI0:=aM hi;clear hb hk hi)|((with_reducible refine jc 96 14 ?_);refine jM func96 (ail k g ah aj 2 ak au w0 _ (qI HI0) qB A7.out) ?_;rintro aQ bP ⟨ho0,hi,hb,hk⟩;have aa:=aM (N_lower (N_mono (ok':=fun k_=>k_≠g) ho0 (fun k_ hk_=>(Sab.fresh (qI HI0) k_ hk_))) kU);replace HK:=kI hk;replace HB:=aM hb;replace HI0:=aM hi;clear hb hk hi;(try clear ho0);obtain⟨bA,bB,bC⟩:=N_slice aa.out;subst bC)|((with_reducible refine jc 95 15 ?_);refine jM func95 (aiB k _ _ ak ai aG _ (kC (N_reads' aa.out).2.2) (N_reads' aa.out).2.1 A8.out) ?_;rintro aR bQ ⟨ho0,hb⟩;have ag:=aM (R_lower ho0 kU);replace aa:=aM (N_elder' (qN aa) (R_base ho0) hb);replace HI0:=aM (Sab.below (qI HI0) hb);replace HK:=kY hb;replace HB:=kH hb;clear hb;(try clear ho0);obtain⟨aV,aW,bD⟩:=R_slice ag.out;subst bD)|((with_reducible refine jc 55 26 ?_);refine jK func55 (aab k g ah au 3 aF aS w0 _ (qI HI0) qB bJ.out) ?_;rintro bR ⟨hi,hb,hk⟩;replace aa:=aM (N_mono (N_keep (N_mono (ok:=fun k_=>(k_≠g/\some k_≠(.slice aV ai.length aW:Value).ownBlock)) (qN aa) (fun k_ hk_=>(⟨hk_,hk_.1⟩:_/\k_≠g))) hk (fun _ h=>h.2)) (fun _ h=>h.1));replace ag:=aM (R_mono (R_keep (Sab.apart (show Sab w0 _ g ah au from qI HI0) (qR ag) (by decide)) hk (fun _ h=>h.2)) (fun _ h=>h.1));replace HK:=kI hk;replace HB:=aM hb;replace HI0:=aM hi;clear hb hk hi)|((with_reducible refine jc 97 28 ?_);refine jM func97 (Sas.calls k _ _ ai (wrap64 (Int.tdiv aF 2)) aT aU _ (kJ ag) (kp ag) bK.out) ?_;rintro bH bS ⟨ho0,hb⟩;have aK:=aM (R_lower (R_new' ho0 (R_lt (qR ag))) kU);replace aa:=aM (N_elder' (qN aa) (R_base ho0) hb);replace ag:=kO ag ho0 hb;replace HI0:=aM (Sab.below (qI HI0) hb);replace HK:=kY hb;replace HB:=kH hb;clear hb;(try clear ho0)));go_ret;exact⟨_,qW,by (with_reducible repeat (first|apply R_alloc|apply R_drewN|apply R_drew));exact R_mono aK.out (fun _ hk=>trivial),qI HI0,qB,qH⟩
def am9 (k:Nat) (aj:List Int) (aA:Int):Option ((List S31) × Int):=(am8 k aj aA).bind fun ah=>((ab4 k aj ah.2 36).bind fun ak=>(if ak.1=0 then (if 0 < (ah.1.length:Int) then (some ((ah.1.set (0:Int).toNat (⟨(aa0 ah.1 0).f0,12,(aa0 ah.1 0).f2,(aa0 ah.1 0).f3,(aa0 ah.1 0).f4⟩:S31)),ak.2)) else (none)) else (if ak.1=1 then (if ah.1.length < 3518437208883 then (some ((ah.1 ++ [(⟨9,0,0,0,0⟩:S31)]),ak.2)) else (none)) else (if ak.1=2 then (if 0 < (ah.1.length:Int) then (some ((ah.1.set (0:Int).toNat (⟨4,0,0,0,(ah.1.length:Int)⟩:S31)),ak.2)) else (none)) else (if ak.1=3 then (some ((([]:List S31)),ak.2)) else (some (ah.1,ak.2)))))))
theorem ama (k g:Nat) (aj:List Int) (aA:Int) (r1:List S31) (r2:Int) (w0 w:World) (hI:Sab w0 w g aj aA) (hB:Below w0.heap.size w0 w) (h:am9 k aj aA=some (r1,r2)) :
  Calls prog 39 #[.pointer (some ⟨g,0,none⟩)] w fun e w'=>∃ dS:Value,e = .returned (dS)/\Kd.R k31 31 w' w.heap.size (fun _=>True) dS r1/\Sab w0 w' g aj r2/\Below w0.heap.size w0 w'/\aa7 w w' g none:=by
 have eG:=underlying31;have HI0:=aM hI;have HK:=aM (aaK w g none);have HL:=aM hB.size;clear hI;have HW0:=aM hB.size;have HB:=aM hB;clear hB;have H:=h;unfold am9 at H;clear h;obtain⟨⟨ae,ai⟩,A2,H⟩:=qE H;try dsimp only at H
 obtain⟨⟨aC,aD⟩,A3,H⟩:=qE H;try dsimp only at H
 replace H:=jE H;rcases H with ⟨dG,dH,H⟩ | ⟨c4,dG,dH,H⟩
 ·replace H:=jU H;obtain⟨c5,H⟩:=H;have eH:=decide_eq_true c5;have eO:decide (0 < ae.length)=true:=decide_eq_true (by omega);clear c5;obtain⟨bZ,aH⟩:=ky ((ae.set (0:Int).toNat (⟨(aa0 ae 0).f0,12,(aa0 ae 0).f2,(aa0 ae 0).f3,(aa0 ae 0).f4⟩:S31)):List S31);replace H:=kv aH H;obtain⟨rfl,rfl⟩:=oJ2 H;go_enter func39,ntmps39;go_wp2_with (first|((with_reducible refine jc 71 5 ?_);refine jM func71 (adC k g aj aA ae ai w0 _ (qI HI0) qB A2.out) ?_;rintro aG w7 ⟨ho0,hi,hb,hk⟩;have aa:=aM (R_lower ho0 kU);replace HK:=kI hk;replace HB:=aM hb;replace HI0:=aM hi;clear hb hk hi;(try clear ho0))|((with_reducible refine jc 55 7 ?_);refine jK func55 (aab k g aj ai 36 aC aD w0 _ (qI HI0) qB A3.out) ?_;rintro w8 ⟨hi,hb,hk⟩;replace aa:=aM (R_mono (R_keep (Sab.apart (show Sab w0 _ g aj ai from qI HI0) (qR aa) (by decide)) hk (fun _ h=>h.2)) (fun _ h=>h.1));replace HK:=kI hk;replace HB:=aM hb;replace HI0:=aM hi;clear hb hk hi;have p6:0<=(0:Int):=(by omega);have q6:(0:Int) < ((ae.length:Int):Int):=qD;have fq:(0 < ae.length)=True:=eq_true (by omega);obtain⟨aZ,dU,dV,dW,eP,fu,dX⟩:=R_form aa.out (by omega);(first|cases dV|(injection dV with ea_ en_ ec_;(first|subst ea_|(injection ea_ with ea_;subst ea_));subst ec_;clear en_));have eQ:=aM dW;have fw:=aM dX;clear dW eP dX;obtain⟨fA,dI,dY,bg,bi⟩:=R_elem aa.out z31 (0:Int) p6 q6;obtain rfl:=acR dY;have bK:w8.cell? ⟨aZ,(0:Int).toNat*5,none⟩=some (iV ((aa0 ae 0).f0)):=bg 0 _ rfl;have bL:w8.cell? ⟨aZ,(0:Int).toNat*5+1,none⟩=some (iV ((aa0 ae 0).f1)):=bg 1 _ rfl;have bM:w8.cell? ⟨aZ,(0:Int).toNat*5+2,none⟩=some (iV ((aa0 ae 0).f2)):=bg 2 _ rfl;have bN:w8.cell? ⟨aZ,(0:Int).toNat*5+3,none⟩=some (iV ((aa0 ae 0).f3)):=bg 3 _ rfl;have bO:w8.cell? ⟨aZ,(0:Int).toNat*5+4,none⟩=some (iV ((aa0 ae 0).f4)):=bg 4 _ rfl;have bP:w8.frozen? ⟨aZ,(0:Int).toNat*5,none⟩=false:=bi 0;have bQ:w8.frozen? ⟨aZ,(0:Int).toNat*5+1,none⟩=false:=bi 1;have bR:w8.frozen? ⟨aZ,(0:Int).toNat*5+2,none⟩=false:=bi 2;have bS:w8.frozen? ⟨aZ,(0:Int).toNat*5+3,none⟩=false:=bi 3;have bT:w8.frozen? ⟨aZ,(0:Int).toNat*5+4,none⟩=false:=bi 4;clear dI bg bi dY;(try rw [show ((0:Int)).toNat=0 from rfl] at bK);(try simp only [Nat.reduceMul,Nat.zero_mul,Nat.zero_add,Nat.reduceAdd] at bK);(try rw [show ((0:Int)).toNat=0 from rfl] at bP);(try simp only [Nat.reduceMul,Nat.zero_mul,Nat.zero_add,Nat.reduceAdd] at bP);(try rw [show ((0:Int)).toNat=0 from rfl] at bL);(try simp only [Nat.reduceMul,Nat.zero_mul,Nat.zero_add,Nat.reduceAdd] at bL);(try rw [show ((0:Int)).toNat=0 from rfl] at bQ);(try simp only [Nat.reduceMul,Nat.zero_mul,Nat.zero_add,Nat.reduceAdd] at bQ);(try rw [show ((0:Int)).toNat=0 from rfl] at bM);(try simp only [Nat.reduceMul,Nat.zero_mul,Nat.zero_add,Nat.reduceAdd] at bM);(try rw [show ((0:Int)).toNat=0 from rfl] at bR);(try simp only [Nat.reduceMul,Nat.zero_mul,Nat.zero_add,Nat.reduceAdd] at bR);(try rw [show ((0:Int)).toNat=0 from rfl] at bN);(try simp only [Nat.reduceMul,Nat.zero_mul,Nat.zero_add,Nat.reduceAdd] at bN);(try rw [show ((0:Int)).toNat=0 from rfl] at bS);(try simp only [Nat.reduceMul,Nat.zero_mul,Nat.zero_add,Nat.reduceAdd] at bS);(try rw [show ((0:Int)).toNat=0 from rfl] at bO);(try simp only [Nat.reduceMul,Nat.zero_mul,Nat.zero_add,Nat.reduceAdd] at bO);(try rw [show ((0:Int)).toNat=0 from rfl] at bT);(try simp only [Nat.reduceMul,Nat.zero_mul,Nat.zero_add,Nat.reduceAdd] at bT);replace p6:=eq_true p6;replace q6:=eq_true q6;have dZ:=aM (show Kd.R k31 31 w8 w.heap.size (fun _=>True) (.slice (some ⟨aZ,0,none⟩) ae.length dU) ae from (qR aa));obtain⟨fB,cu,d9,bV,cz⟩:=R_elem dZ.out z31 (0:Int) (by omega) (by have h_:(0:Int) < ((ae.length:Int):Int):=qD;first|exact h_|(have e_:=(R_reads' aa.out).1;omega)|simpa using h_);obtain rfl:=acR d9;have dJ:=R_seg dZ.out (0:Int) (by omega) (by have h_:(0:Int) < ((ae.length:Int):Int):=qD;first|exact h_|(have e_:=(R_reads' aa.out).1;omega)|simpa using h_) (seg:=[iV 12]) (j:=1) cu bV (show 2<=5 from by decide) (x':=(⟨(aa0 ae 0).f0,12,(aa0 ae 0).f2,(aa0 ae 0).f3,(aa0 ae 0).f4⟩:S31)) (aaV _ _ _ (⟨(aa0 ae 0).f0,12,(aa0 ae 0).f2,(aa0 ae 0).f3,(aa0 ae 0).f4⟩:S31) ) (fun _ hk=>hk);have bu:=bV 1 _ rfl;(try simp only [show (k31).sz=5 from rfl,Nat.mul_one,Nat.add_zero] at bu);(try rw [show ((0:Int)).toNat=0 from rfl] at bu);(try simp only [Nat.reduceMul,Nat.zero_mul,Nat.zero_add,Nat.reduceAdd] at bu);have bv:=cz 1;(try simp only [show (k31).sz=5 from rfl,Nat.mul_one,Nat.add_zero] at bv);(try rw [show ((0:Int)).toNat=0 from rfl] at bv);(try simp only [Nat.reduceMul,Nat.zero_mul,Nat.zero_add,Nat.reduceAdd] at bv);clear cu bV cz d9)|((with_reducible refine aaI (t:=3) (p:=12) rfl ?_);refine aat (t:=3) (p:=12) (v:=?dK) (w1:=(w8.setCell ⟨aZ,1,none⟩ (iV 12))) ?hg ?ho ?hn ?hr ?_;(case ho=>rfl);(case hg=>rfl);(case hn=>rfl);(case hr=>first|(go_simp;done)|(go_simp;rfl));intro dL hw;have hg:w8.grownBy dL (some aZ):=(by rw [hw];exact dJ.2);have hp_:Kd.R k31 31 dL w.heap.size (fun _=>True) (.slice (some ⟨aZ,0,none⟩) ae.length dU) bZ:=(by rw [hw,aH.out];exact dJ.1);clear dJ;replace HI0:=aM (Sab.grown (qI HI0) hg (aci HI0.out aa.out (by decide)));replace HB:=aM ((by rw [hw];exact aad (HB.out) (Nat.le_trans HL.out eQ.out):Below w0.heap.size w0 dL));replace HK:=aM (aa7.trans qH (aaU hg g) (R_base2 aa.out));replace aa:=aM hp_;clear hg hw hp_));go_ret;exact⟨_,qW,qR aa,qI HI0,qB,qH⟩
 replace H:=jE H;rcases H with ⟨cB,cK,H⟩ | ⟨c11,cB,cK,H⟩
 ·replace H:=jL H;obtain⟨cO,H⟩:=H;obtain⟨ed,aI⟩:=ky ((ae ++ [(⟨9,0,0,0,0⟩:S31)]):List S31);replace H:=kv aI H;obtain⟨rfl,rfl⟩:=oJ2 H;go_enter func39,ntmps39;go_wp2_with (first|((with_reducible refine jc 71 5 ?_);refine jM func71 (adC k g aj aA ae ai w0 _ (qI HI0) qB A2.out) ?_;rintro aG fC ⟨ho0,hi,hb,hk⟩;have aa:=aM (R_lower ho0 kU);replace HK:=kI hk;replace HB:=aM hb;replace HI0:=aM hi;clear hb hk hi;(try clear ho0))|((with_reducible refine jc 55 7 ?_);refine jK func55 (aab k g aj ai 36 aC aD w0 _ (qI HI0) qB A3.out) ?_;rintro fD ⟨hi,hb,hk⟩;replace aa:=aM (R_mono (R_keep (Sab.apart (show Sab w0 _ g aj ai from qI HI0) (qR aa) (by decide)) hk (fun _ h=>h.2)) (fun _ h=>h.1));replace HK:=kI hk;replace HB:=aM hb;replace HI0:=aM hi;clear hb hk hi)|((with_reducible refine aa9 (b:=.append) (xs:=#[.tmp 15,.tmp 17]) rfl ?_);at_builtin;refine R_append k31 w.heap.size rfl (.tmp 15) (.tmp 17) 23 31 (.agg #[(iV 0),(iV 0),(iV 0),(iV 0),(iV 0)]) 40 rfl underlying23 abb rfl (by decide) (by omega) aG ae (⟨9,0,0,0,0⟩:S31) [iV 9,iV 0,iV 0,iV 0,iV 0] (fun _=>True) (fun _=>False) rfl rfl ?aP (fun _ hk=>hk.elim) ?aF ?aO (Below.refl _ _) ?aS ?aL ?_;(case aP=>exact aaV _ _ _ (⟨9,0,0,0,0⟩:S31));(case aF=>exact (fun _ _=>trivial));(case aO=>exact (qR aa));(case aS=>exact kU);(case aL=>have:=cO.out;omega);intro ek fE ho hb hg hat;rw [<- aI.out] at ho;have bW:=aM ho;replace HI0:=aM (Sab.grown (qI HI0) hg (aci HI0.out aa.out (by decide)));replace HB:=aM (abO qB HL.out hb);replace HK:=aM (aa7.trans qH (aaU hg g) (R_base2 aa.out));clear aa;clear ho hb hg hat));go_ret;exact⟨_,qW,qR bW,qI HI0,qB,qH⟩
 replace H:=jE H;rcases H with ⟨df,dh,H⟩ | ⟨c16,df,dh,H⟩
 ·replace H:=jU H;obtain⟨c17,H⟩:=H;have eu:=decide_eq_true c17;have eB:decide (0 < ae.length)=true:=decide_eq_true (by omega);clear c17;obtain⟨di,aJ⟩:=ky ((ae.set (0:Int).toNat (⟨4,0,0,0,(ae.length:Int)⟩:S31)):List S31);replace H:=kv aJ H;obtain⟨rfl,rfl⟩:=oJ2 H;go_enter func39,ntmps39;go_wp2_with (first|((with_reducible refine jc 71 5 ?_);refine jM func71 (adC k g aj aA ae ai w0 _ (qI HI0) qB A2.out) ?_;rintro aG fF ⟨ho0,hi,hb,hk⟩;have aa:=aM (R_lower ho0 kU);replace HK:=kI hk;replace HB:=aM hb;replace HI0:=aM hi;clear hb hk hi;(try clear ho0))|((with_reducible refine jc 55 7 ?_);refine jK func55 (aab k g aj ai 36 aC aD w0 _ (qI HI0) qB A3.out) ?_;rintro bn ⟨hi,hb,hk⟩;replace aa:=aM (R_mono (R_keep (Sab.apart (show Sab w0 _ g aj ai from qI HI0) (qR aa) (by decide)) hk (fun _ h=>h.2)) (fun _ h=>h.1));replace HK:=kI hk;replace HB:=aM hb;replace HI0:=aM hi;clear hb hk hi;obtain⟨eT,dn,dM⟩:=R_slice aa.out;subst dM;have dN:0<=(0:Int):=(by omega);have dO:(0:Int) < ((ae.length:Int):Int):=qD;have eU:(0 < ae.length)=True:=eq_true (by omega);obtain⟨au,eX,dw,dx,dP,eY,dz⟩:=R_form aa.out (by omega);(first|cases dw|(injection dw with ea_ en_ ec_;(first|subst ea_|(injection ea_ with ea_;subst ea_));subst ec_;clear en_));have bz:=aM dx;have eZ:=aM dz;clear dx dP dz;obtain⟨fe,dA,dB,ax,ay⟩:=R_elem aa.out z31 (0:Int) dN dO;obtain rfl:=acR dB;have bA:bn.cell? ⟨au,(0:Int).toNat*5,none⟩=some (iV ((aa0 ae 0).f0)):=ax 0 _ rfl;have bB:bn.cell? ⟨au,(0:Int).toNat*5+1,none⟩=some (iV ((aa0 ae 0).f1)):=ax 1 _ rfl;have bC:bn.cell? ⟨au,(0:Int).toNat*5+2,none⟩=some (iV ((aa0 ae 0).f2)):=ax 2 _ rfl;have bD:bn.cell? ⟨au,(0:Int).toNat*5+3,none⟩=some (iV ((aa0 ae 0).f3)):=ax 3 _ rfl;have bE:bn.cell? ⟨au,(0:Int).toNat*5+4,none⟩=some (iV ((aa0 ae 0).f4)):=ax 4 _ rfl;have bF:bn.frozen? ⟨au,(0:Int).toNat*5,none⟩=false:=ay 0;have bG:bn.frozen? ⟨au,(0:Int).toNat*5+1,none⟩=false:=ay 1;have bH:bn.frozen? ⟨au,(0:Int).toNat*5+2,none⟩=false:=ay 2;have bI:bn.frozen? ⟨au,(0:Int).toNat*5+3,none⟩=false:=ay 3;have bJ:bn.frozen? ⟨au,(0:Int).toNat*5+4,none⟩=false:=ay 4;clear dA ax ay dB;(try rw [show ((0:Int)).toNat=0 from rfl] at bA);(try simp only [Nat.reduceMul,Nat.zero_mul,Nat.zero_add,Nat.reduceAdd] at bA);(try rw [show ((0:Int)).toNat=0 from rfl] at bF);(try simp only [Nat.reduceMul,Nat.zero_mul,Nat.zero_add,Nat.reduceAdd] at bF);(try rw [show ((0:Int)).toNat=0 from rfl] at bB);(try simp only [Nat.reduceMul,Nat.zero_mul,Nat.zero_add,Nat.reduceAdd] at bB);(try rw [show ((0:Int)).toNat=0 from rfl] at bG);(try simp only [Nat.reduceMul,Nat.zero_mul,Nat.zero_add,Nat.reduceAdd] at bG);(try rw [show ((0:Int)).toNat=0 from rfl] at bC);(try simp only [Nat.reduceMul,Nat.zero_mul,Nat.zero_add,Nat.reduceAdd] at bC);(try rw [show ((0:Int)).toNat=0 from rfl] at bH);(try simp only [Nat.reduceMul,Nat.zero_mul,Nat.zero_add,Nat.reduceAdd] at bH);(try rw [show ((0:Int)).toNat=0 from rfl] at bD);(try simp only [Nat.reduceMul,Nat.zero_mul,Nat.zero_add,Nat.reduceAdd] at bD);(try rw [show ((0:Int)).toNat=0 from rfl] at bI);(try simp only [Nat.reduceMul,Nat.zero_mul,Nat.zero_add,Nat.reduceAdd] at bI);(try rw [show ((0:Int)).toNat=0 from rfl] at bE);(try simp only [Nat.reduceMul,Nat.zero_mul,Nat.zero_add,Nat.reduceAdd] at bE);(try rw [show ((0:Int)).toNat=0 from rfl] at bJ);(try simp only [Nat.reduceMul,Nat.zero_mul,Nat.zero_add,Nat.reduceAdd] at bJ);replace dN:=eq_true dN;replace dO:=eq_true dO;have dC:=aM (show Kd.R k31 31 bn w.heap.size (fun _=>True) (.slice (some ⟨au,0,none⟩) ae.length dn) ae from (qR aa));obtain⟨fo,bU,dD,av,az⟩:=R_elem dC.out z31 (0:Int) (by omega) (by have h_:(0:Int) < ((ae.length:Int):Int):=qD;first|exact h_|(have e_:=(R_reads' aa.out).1;omega)|simpa using h_);obtain rfl:=acR dD;have bX:=R_seg dC.out (0:Int) (by omega) (by have h_:(0:Int) < ((ae.length:Int):Int):=qD;first|exact h_|(have e_:=(R_reads' aa.out).1;omega)|simpa using h_) (seg:=[iV 4,iV 0,iV 0,iV 0,iV (ae.length:Int)]) (j:=0) bU av (show 5<=5 from by decide) (x':=(⟨4,0,0,0,(ae.length:Int)⟩:S31)) (aaV _ _ _ (⟨4,0,0,0,(ae.length:Int)⟩:S31) ) (fun _ hk=>hk);have aK:=av 0 _ rfl;(try simp only [show (k31).sz=5 from rfl,Nat.mul_one,Nat.add_zero] at aK);(try rw [show ((0:Int)).toNat=0 from rfl] at aK);(try simp only [Nat.reduceMul,Nat.zero_mul,Nat.zero_add,Nat.reduceAdd] at aK);have aN:=az 0;(try simp only [show (k31).sz=5 from rfl,Nat.mul_one,Nat.add_zero] at aN);(try rw [show ((0:Int)).toNat=0 from rfl] at aN);(try simp only [Nat.reduceMul,Nat.zero_mul,Nat.zero_add,Nat.reduceAdd] at aN);have aQ:=av 1 _ rfl;(try simp only [show (k31).sz=5 from rfl,Nat.mul_one,Nat.add_zero] at aQ);(try rw [show ((0:Int)).toNat=0 from rfl] at aQ);(try simp only [Nat.reduceMul,Nat.zero_mul,Nat.zero_add,Nat.reduceAdd] at aQ);have aR:=az 1;(try simp only [show (k31).sz=5 from rfl,Nat.mul_one,Nat.add_zero] at aR);(try rw [show ((0:Int)).toNat=0 from rfl] at aR);(try simp only [Nat.reduceMul,Nat.zero_mul,Nat.zero_add,Nat.reduceAdd] at aR);have aT:=av 2 _ rfl;(try simp only [show (k31).sz=5 from rfl,Nat.mul_one,Nat.add_zero] at aT);(try rw [show ((0:Int)).toNat=0 from rfl] at aT);(try simp only [Nat.reduceMul,Nat.zero_mul,Nat.zero_add,Nat.reduceAdd] at aT);have aU:=az 2;(try simp only [show (k31).sz=5 from rfl,Nat.mul_one,Nat.add_zero] at aU);(try rw [show ((0:Int)).toNat=0 from rfl] at aU);(try simp only [Nat.reduceMul,Nat.zero_mul,Nat.zero_add,Nat.reduceAdd] at aU);have aV:=av 3 _ rfl;(try simp only [show (k31).sz=5 from rfl,Nat.mul_one,Nat.add_zero] at aV);(try rw [show ((0:Int)).toNat=0 from rfl] at aV);(try simp only [Nat.reduceMul,Nat.zero_mul,Nat.zero_add,Nat.reduceAdd] at aV);have aW:=az 3;(try simp only [show (k31).sz=5 from rfl,Nat.mul_one,Nat.add_zero] at aW);(try rw [show ((0:Int)).toNat=0 from rfl] at aW);(try simp only [Nat.reduceMul,Nat.zero_mul,Nat.zero_add,Nat.reduceAdd] at aW);have aX:=av 4 _ rfl;(try simp only [show (k31).sz=5 from rfl,Nat.mul_one,Nat.add_zero] at aX);(try rw [show ((0:Int)).toNat=0 from rfl] at aX);(try simp only [Nat.reduceMul,Nat.zero_mul,Nat.zero_add,Nat.reduceAdd] at aX);have aY:=az 4;(try simp only [show (k31).sz=5 from rfl,Nat.mul_one,Nat.add_zero] at aY);(try rw [show ((0:Int)).toNat=0 from rfl] at aY);(try simp only [Nat.reduceMul,Nat.zero_mul,Nat.zero_add,Nat.reduceAdd] at aY);clear bU av az dD)|((with_reducible refine aaI (t:=31) (p:=25) rfl ?_);refine aat (t:=31) (p:=25) (v:=?dQ) (w1:=(((((bn.setCell ⟨au,0,none⟩ (iV 4)).setCell ⟨au,1,none⟩ (iV 0)).setCell ⟨au,2,none⟩ (iV 0)).setCell ⟨au,3,none⟩ (iV 0)).setCell ⟨au,4,none⟩ (iV (ae.length:Int)))) ?hg ?ho ?hn ?hr ?_;(case ho=>rfl);(case hg=>rfl);(case hn=>rfl);(case hr=>first|(go_simp;done)|(go_simp;rfl));intro dR hw;have hg:bn.grownBy dR (some au):=(by rw [hw];exact bX.2);have hp_:Kd.R k31 31 dR w.heap.size (fun _=>True) (.slice (some ⟨au,0,none⟩) ae.length dn) di:=(by rw [hw,aJ.out];exact bX.1);clear bX;replace HI0:=aM (Sab.grown (qI HI0) hg (aci HI0.out aa.out (by decide)));replace HB:=aM ((by rw [hw];exact aad (aad (aad (aad (aad (HB.out) (Nat.le_trans HL.out bz.out)) (Nat.le_trans HL.out bz.out)) (Nat.le_trans HL.out bz.out)) (Nat.le_trans HL.out bz.out)) (Nat.le_trans HL.out bz.out):Below w0.heap.size w0 dR));replace HK:=aM (aa7.trans qH (aaU hg g) (R_base2 aa.out));replace aa:=aM hp_;clear hg hw hp_));go_ret;exact⟨_,qW,qR aa,qI HI0,qB,qH⟩
 replace H:=jE H;rcases H with ⟨dE,dF,H⟩ | ⟨c24,dE,dF,H⟩
 ·obtain⟨eD,aB⟩:=ky ([]:List S31);replace H:=kv aB H;obtain⟨rfl,rfl⟩:=oJ2 H;go_enter func39,ntmps39;go_wp2_with (first|((with_reducible refine jc 71 5 ?_);refine jM func71 (adC k g aj aA ae ai w0 _ (qI HI0) qB A2.out) ?_;rintro aG fG ⟨ho0,hi,hb,hk⟩;have aa:=aM (R_lower ho0 kU);replace HK:=kI hk;replace HB:=aM hb;replace HI0:=aM hi;clear hb hk hi;(try clear ho0))|((with_reducible refine jc 55 7 ?_);refine jK func55 (aab k g aj ai 36 aC aD w0 _ (qI HI0) qB A3.out) ?_;rintro fH ⟨hi,hb,hk⟩;replace aa:=aM (R_mono (R_keep (Sab.apart (show Sab w0 _ g aj ai from qI HI0) (qR aa) (by decide)) hk (fun _ h=>h.2)) (fun _ h=>h.1));replace HK:=kI hk;replace HB:=aM hb;replace HI0:=aM hi;clear hb hk hi)|((with_reducible refine jd 28 ?_);refine jV k31 31 ([]:List S31) [] (aa8 _ _) ?_;intro eF fI bq hb;replace bq:=kr aB bq;have bY:=aM (R_lower (R_new' bq (R_lt (qR aa))) kU);replace aa:=kO aa bq hb;replace HI0:=aM (Sab.below (qI HI0) hb);replace HK:=kY hb;replace HB:=kH hb;clear hb bq));go_ret;exact⟨_,qW,by (with_reducible repeat (first|apply R_alloc|apply R_drewN|apply R_drew));exact R_mono bY.out (fun _ hk=>trivial),qI HI0,qB,qH⟩
 obtain⟨rfl,rfl⟩:=oJ2 H;go_enter func39,ntmps39;go_wp2_with (first|((with_reducible refine jc 71 5 ?_);refine jM func71 (adC k g aj aA ae ai w0 _ (qI HI0) qB A2.out) ?_;rintro aG fJ ⟨ho0,hi,hb,hk⟩;have aa:=aM (R_lower ho0 kU);replace HK:=kI hk;replace HB:=aM hb;replace HI0:=aM hi;clear hb hk hi;(try clear ho0))|((with_reducible refine jc 55 7 ?_);refine jK func55 (aab k g aj ai 36 aC aD w0 _ (qI HI0) qB A3.out) ?_;rintro fK ⟨hi,hb,hk⟩;replace aa:=aM (R_mono (R_keep (Sab.apart (show Sab w0 _ g aj ai from qI HI0) (qR aa) (by decide)) hk (fun _ h=>h.2)) (fun _ h=>h.1));replace HK:=kI hk;replace HB:=aM hb;replace HI0:=aM hi;clear hb hk hi));go_ret;exact⟨_,qW,qR aa,qI HI0,qB,qH⟩
end Go.Proofs.YtdkkdiiceaomaaaGreat.M
namespace Go.Proofs.YtdkkdiiceaomaaaGreat.M
open Go.Proofs.Tryz Go.RowKit Go.Proofs.YtdkkdiiceaomaaaGreatW.PrintWords Go.Proofs.YtdkkdiiceaomaaaGreatW.PrintLast Go.Proofs.YtdkkdiiceaomaaaGreatW.PrintMore
attribute [local go_sem] aas aaq aaH aaG aaj aai aar aap
def alX (l0:List Int):Option (List Int × Int):=if (l0.length:Int) > 2000 then (if 2000<=(l0.length:Int) then (some (l0.take 2000,0)) else (none)) else (some (l0,0))
theorem alY (A0:Option Addr) (c0:Nat) (l0 r1:List Int) (r2:Int) (w0 w:World) (hB:Below w0.heap.size w0 w) (hr0:Kd.C (Kd.int .u8) w0 A0 l0.length l0) (hc0:l0.length<=c0) (h:alX l0=some (r1,r2)) :
  Calls prog 40 #[.slice A0 l0.length c0] w fun e w'=>∃ g_:Nat,e = .returned (.pointer (some ⟨g_,0,none⟩))/\Sab w0 w' g_ r1 r2/\Below w0.heap.size w0 w'/\Below w.heap.size w w':=by
 have aG:=underlying88;have aB:=aM hr0;have aH:=aM hc0;clear hr0 hc0;have HBW:=jb_ w;have HW0:=aM hB.size;have HB:=aM hB;clear hB;have H:=h;unfold alX at H;clear h;by_cases c2:(l0.length:Int) > 2000
 ·rw [if_pos c2] at H;have ay:=decide_eq_true c2;have az:decide (2000 < l0.length)=true:=decide_eq_true (by omega);clear c2;replace H:=jJ H;obtain⟨aI,aJ,H⟩:=H;obtain⟨rfl,rfl⟩:=oJ2 H;obtain⟨i04,av,_,ax,_⟩:=info_parts arv;obtain⟨aC,aD,aF⟩:=ahs (P:=prog) (Value.int .u8) 0 22 5 .i64 underlying22 av ax A0 c0 l0 2000 (by omega) (qD) aH.out;have af:=aM (Kd.C_of_reads (h1:=fun _=>rfl) (aD _ (Kd.reads_of_C aB.out)));have aA:=aM aF;clear aD aF av ax;go_enter func40,ntmps40;go_wp2_with (first|((with_reducible refine jd 10 ?_);refine aer ?hg (N:=10) ?hd (cs:=#[.slice A0 (l0.take 2000).length c0,iV 0]) (t:=88) ?hr ?_;(case hd=>rfl);(case hg=>rfl);(case hr=>first|(go_simp;done)|(go_simp;rfl));intro aa hg w5 hbox hb;have ag:=aM hbox;have ah:=aM ((by rw [hg];exact (aa4 (by repeat (first|(with_reducible first|exact HBW.out|apply aax|apply aan|apply aah)|exact HBW.out))):w.heap.size<=aa));have ai:=aM ((Nat.le_trans HW0.out (by rw [hg];exact (aa4 (by repeat (first|(with_reducible first|exact HBW.out|apply aax|apply aan|apply aah)|exact HBW.out))):w.heap.size<=aa):w0.heap.size<=aa));replace HBW:=aM (aaL HBW.out hb);replace HB:=kH hb;clear hb hbox hg));go_ret;exact⟨_,rfl,(show Sab w0 _ aa (l0.take 2000) 0 from ⟨_,_,qK ag,ai.out,af.out⟩),qB,by repeat (first|(with_reducible first|exact HBW.out|apply aax|apply aan|apply aah|refine aad ?_ ah.out)|exact HBW.out)⟩
 rw [if_neg c2] at H;have ay:=decide_eq_false c2;have az:decide (2000 < l0.length)=false:=decide_eq_false (by omega);clear c2;obtain⟨rfl,rfl⟩:=oJ2 H;go_enter func40,ntmps40;go_wp2_with (first|((with_reducible refine jd 10 ?_);refine jY _ 88 ?_;intro ae hg w6 aj hb;have ak:=aM ((by rw [hg];exact (aa4 (by repeat (first|(with_reducible first|exact HBW.out|apply aax|apply aan|apply aah)|exact HBW.out))):w.heap.size<=ae));have au:=aM ((Nat.le_trans HW0.out (by rw [hg];exact (aa4 (by repeat (first|(with_reducible first|exact HBW.out|apply aax|apply aan|apply aah)|exact HBW.out))):w.heap.size<=ae):w0.heap.size<=ae));replace HBW:=aM (aaL HBW.out hb);replace HB:=kH hb;clear hb hg));go_ret;exact⟨_,rfl,(show Sab w0 _ ae l0 0 from ⟨_,_,qK aj,au.out,aB.out⟩),qB,by repeat (first|(with_reducible first|exact HBW.out|apply aax|apply aan|apply aah|refine aad ?_ ak.out)|exact HBW.out)⟩
def amz (k:Nat) (l0:List Int):Option ((List S31)):=(alX l0).bind fun aa=>((am9 k aa.1 aa.2).bind fun ak=>(some ak.1))
theorem agh (k:Nat) (A0:Option Addr) (c0:Nat) (l0:List Int) (r:List S31) (w:World) (hr0:Kd.C (Kd.int .u8) w A0 l0.length l0) (hc0:l0.length<=c0) (h:amz k l0=some r) :
  Calls prog 21 #[.slice A0 l0.length c0] w fun e w'=>∃ az:Value,e = .returned (az)/\Kd.R k31 31 w' w.heap.size (fun _=>True) az r/\Below w.heap.size w w':=by
 have aB:=aM hr0;have aC:=aM hc0;clear hr0 hc0;have HB:=jb_ w;have H:=h;unfold amz at H;clear h;obtain⟨⟨ah,ai⟩,A2,H⟩:=qE H;try dsimp only at H
 obtain⟨⟨av,ax⟩,A3,H⟩:=qE H;try dsimp only at H
 obtain rfl:=oJ H;go_enter func21,ntmps21;go_wp2_with (first|((with_reducible refine jc 40 4 ?_);refine jM func40 (alY _ _ l0 ah ai w _ qB aB.out aC.out A2.out) ?_;rintro aj w4 ⟨hi,hb,hb2⟩;have ag:=aM hi;replace HB:=aM hb;(try clear hb);(try clear hb2);(try clear hi))|((with_reducible refine jc 39 5 ?_);refine jM func39 (ama k aj ah ai av ax w _ (qI ag) qB A3.out) ?_;rintro aA w5 ⟨ho0,hi,hb,hk⟩;have au:=kL ho0;replace HB:=aM hb;replace ag:=aM hi;(try clear hb);(try clear hk);(try clear hi);(try clear ho0)));go_ret;exact⟨_,qW,qR au,qB⟩
end Go.Proofs.YtdkkdiiceaomaaaGreat.M
namespace Go.Proofs.YtdkkdiiceaomaaaGreat.M
open Go.Proofs.Tryz Go.RowKit Go.Proofs.YtdkkdiiceaomaaaGreatW.PrintWords Go.Proofs.YtdkkdiiceaomaaaGreatW.PrintLast Go.Proofs.YtdkkdiiceaomaaaGreatW.PrintMore Kd
attribute [local go_sem] aas aaq aaH aaG aaj aai aar aap
mutual
def afc:Nat->List S31->List S31->Bool->List S31->Bool->Bool->Option (Bool)
 | 0,_,_,_,_,_,_=>none
 | k+1,x3,x4,x5,x6,x7,fA=>if fA=true then (if (x5 == x7)=true then ((SbH.f k x4 x6).bind fun bC=>(some bC)) else (some false)) else (afb k x3 x4 0)
def afb:Nat->List S31->List S31->Int->Option (Bool)
 | 0,_,_,_=>none
 | k+1,x3,x4,x8=>if x8 < (x3.length:Int) then (if 0<=x8 then (if x8 < (x4.length:Int) then (if ((aa0 x4 x8).f0)=((aa0 x3 x8).f0) then (if ((aa0 x4 x8).f1)=((aa0 x3 x8).f1) then (if ((aa0 x4 x8).f4)=((aa0 x3 x8).f4) then (afb k x3 x4 (wrap64 (x8+1))) else (some false)) else (some false)) else (some false)) else (none)) else (none)) else ((Sa0.f k x4).bind fun dA=>(if dA=true then (some ((x4.length:Int) == (x3.length:Int))) else (some false)))
end
def SbG.f (k:Nat) (l0:List Int):Option (Bool):=if (l0.length:Int) > 1048576 then (some true) else ((amz k l0).bind fun aj=>((akv k aj).bind fun aH=>((Saj.f k aj).bind fun aI=>(if (aH.2 != aI.2)=true then (afc k aj aH.1 aH.2 aI.1 aI.2 true) else ((SbH.f k aH.1 aI.1).bind fun dB=>(if dB=true then (afc k aj aH.1 aH.2 aI.1 aI.2 (!aH.2)) else (afc k aj aH.1 aH.2 aI.1 aI.2 true)))))))
theorem SbG.calls (k:Nat) (A0:Option Addr) (c0:Nat) (l0:List Int) (r:Bool) (w:World) (hr0:Kd.C (Kd.int .u8) w A0 l0.length l0) (hc0:l0.length<=c0) (h:SbG.f k l0=some r) :
  Calls prog 5 #[.slice A0 l0.length c0] w fun e w'=>e = .returned (.bool r)/\Below w.heap.size w w':=by
 have dY:=aM hr0;have dZ:=aM hc0;clear hr0 hc0;have HB:=jb_ w;have H:=h;unfold SbG.f at H;clear h;by_cases c2:(l0.length:Int) > 1048576
 ·rw [if_pos c2] at H;have dD:=decide_eq_true c2;have dE:decide (1048576 < l0.length)=true:=decide_eq_true (by omega);clear c2;obtain rfl:=oJ H;go_enter func5,ntmps5;go_wp2;repeat (go_quiet (fail);try go_wp2)
  go_ret;exact⟨qW,qB⟩
 rw [if_neg c2] at H;have dD:=decide_eq_false c2;have dE:decide (1048576 < l0.length)=false:=decide_eq_false (by omega);clear c2;obtain⟨aj,A3,H⟩:=qE H;try dsimp only at H
 obtain⟨⟨ak,av⟩,A4,H⟩:=qE H;try dsimp only at H
 obtain⟨⟨aG,ax⟩,A5,H⟩:=qE H;try dsimp only at H
 have d9:=aM H;clear H;go_enter func5,ntmps5;go_upto_region 6 with (first|(go_at_call 21;(with_reducible refine (agh k _ _ l0 aj _ ?ae ?af A3.out).mono ?_);(case ae=>exact kC dY.out);(case af=>exact dZ.out);rintro e w7 ⟨dC,rfl,ho0,hb⟩;have aa:=kL ho0;replace HB:=kH hb;clear hb;(try clear ho0);obtain⟨dF,dG,dJ⟩:=R_slice aa.out;subst dJ)|(go_at_call 22;(with_reducible refine (agm k _ _ aj ak av _ ?ae ?af A4.out).mono ?_);(case ae=>exact kJ aa);(case af=>exact (kp aa));rintro e w9 ⟨aQ,rfl,ho0,hb⟩;have ag:=aM (R_lower (R_new' ho0 (R_lt (qR aa))) (aa4 qB));replace aa:=kO aa ho0 hb;replace HB:=kH hb;clear hb;(try clear ho0))|(go_at_call 23;(with_reducible refine (Saj.calls k _ _ aj aG ax _ ?ae ?af A5.out).mono ?_);(case ae=>exact kJ aa);(case af=>exact (kp aa));rintro e eX ⟨bD,rfl,ho0,hb⟩;have au:=aM (R_lower (R_new' (R_new' ho0 (R_lt (qR aa))) (R_lt (qR ag))) (aa4 qB));replace aa:=kO aa ho0 hb;replace ag:=kO ag ho0 hb;replace HB:=kH hb;clear hb;(try clear ho0)));repeat (go_quiet (first|(go_at_call 21;(with_reducible refine (agh k _ _ l0 aj _ ?ae ?af A3.out).mono ?_);(case ae=>exact kC dY.out);(case af=>exact dZ.out);rintro e w7 ⟨dC,rfl,ho0,hb⟩;have bU:=aM (R_lower ho0 (aa4 qB));have bV:=aM (aaL qB hb);clear HB;have aa:=bU;have HB:=bV;clear bU bV;(try clear hb);(try clear hb2);(try clear hk);(try clear hi);(try clear ho0);obtain⟨dF,dG,dJ⟩:=R_slice aa.out;subst dJ)|(go_at_call 22;(with_reducible refine (agm k _ _ aj ak av _ ?ae ?af A4.out).mono ?_);(case ae=>exact kJ aa);(case af=>exact (kp aa));rintro e w9 ⟨aQ,rfl,ho0,hb⟩;have bU:=aM (R_elder' (qR aa) (R_base ho0) hb);have bV:=aM (R_lower (R_new' ho0 (R_lt (qR aa))) (aa4 qB));have bW:=aM (aaL qB hb);clear aa;clear HB;have aa:=bU;have ag:=bV;have HB:=bW;clear bU bV bW;(try clear hb);(try clear hb2);(try clear hk);(try clear hi);(try clear ho0))|(go_at_call 23;(with_reducible refine (Saj.calls k _ _ aj aG ax _ ?ae ?af A5.out).mono ?_);(case ae=>exact kJ aa);(case af=>exact (kp aa));rintro e eX ⟨bD,rfl,ho0,hb⟩;have bU:=aM (R_elder' (qR aa) (R_base ho0) hb);have bV:=aM (R_elder' (qR ag) (R_base ho0) hb);have bW:=aM (R_lower (R_new' (R_new' ho0 (R_lt (qR aa))) (R_lt (qR ag))) (aa4 qB));have eY:=aM (aaL qB hb);clear aa;clear ag;clear HB;have aa:=bU;have ag:=bV;have au:=bW;have HB:=eY;clear bU bV bW eY;(try clear hb);(try clear hb2);(try clear hk);(try clear hi);(try clear ho0)));go_upto_region 6 with (first|(go_at_call 21;(with_reducible refine (agh k _ _ l0 aj _ ?ae ?af A3.out).mono ?_);(case ae=>exact kC dY.out);(case af=>exact dZ.out);rintro e w7 ⟨dC,rfl,ho0,hb⟩;have aa:=kL ho0;replace HB:=kH hb;clear hb;(try clear ho0);obtain⟨dF,dG,dJ⟩:=R_slice aa.out;subst dJ)|(go_at_call 22;(with_reducible refine (agm k _ _ aj ak av _ ?ae ?af A4.out).mono ?_);(case ae=>exact kJ aa);(case af=>exact (kp aa));rintro e w9 ⟨aQ,rfl,ho0,hb⟩;have ag:=aM (R_lower (R_new' ho0 (R_lt (qR aa))) (aa4 qB));replace aa:=kO aa ho0 hb;replace HB:=kH hb;clear hb;(try clear ho0))|(go_at_call 23;(with_reducible refine (Saj.calls k _ _ aj aG ax _ ?ae ?af A5.out).mono ?_);(case ae=>exact kJ aa);(case af=>exact (kp aa));rintro e eX ⟨bD,rfl,ho0,hb⟩;have au:=aM (R_lower (R_new' (R_new' ho0 (R_lt (qR aa))) (R_lt (qR ag))) (aa4 qB));replace aa:=kO aa ho0 hb;replace ag:=kO ag ho0 hb;replace HB:=kH hb;clear hb;(try clear ho0))))
 (try simp only [Act.put,List.setIfInBounds_toArray,List.set_cons_zero,List.set_cons_succ]);go_cut [36] (fun v36 wc=>∃ (kq:Nat) (bX:Bool),v36 = .bool bX/\aa1 (afc kq aj ak av aG ax bX=some r)/\aa1 (kq<=k)/\aa1 (Kd.R k31 31 wc w.heap.size (fun k_=>some k_≠(aQ:Value).ownBlock/\some k_≠(bD:Value).ownBlock) (.slice dF aj.length dG) aj)/\aa1 (Kd.R k31 31 wc w.heap.size (fun k_=>some k_≠((.slice dF aj.length dG):Value).ownBlock/\some k_≠(bD:Value).ownBlock) aQ ak)/\aa1 (Kd.R k31 31 wc w.heap.size (fun k_=>some k_≠((.slice dF aj.length dG):Value).ownBlock/\some k_≠(aQ:Value).ownBlock) bD aG)/\aa1 (Below w.heap.size w wc))
 case first =>
  have H:=d9.out;clear d9;by_cases c11:(av != ax)=true
  ·rw [if_pos c11] at H;have bE:(av != ax)=true:=c11;(try (have dK:decide (av=ax)=false:=by simpa using c11));(try (have dL:(av == ax)=false:=by simpa using c11));(try (have eZ:¬ (av=ax):=by simpa using c11));clear c11;(first|rw [bE]|(simp only [aaw,aaA];rw [bE])|skip);have H':=aM H;clear H;go_wp2;repeat (go_quiet (fail);try go_wp2)
   go_meet;exact⟨_,(true),qZ,H',⟨by first|omega|exact Nat.le_refl _⟩,⟨by (with_reducible repeat (first|apply R_alloc|apply R_drewN|apply R_drew));exact R_mono aa.out (fun _ hk=>⟨hk.1.2,hk.2⟩)⟩,⟨by (with_reducible repeat (first|apply R_alloc|apply R_drewN|apply R_drew));exact R_mono ag.out (fun _ hk=>⟨hk.1.2,hk.2⟩)⟩,⟨by (with_reducible repeat (first|apply R_alloc|apply R_drewN|apply R_drew));exact R_mono au.out (fun _ hk=>⟨hk.1.2,hk.2⟩)⟩,⟨qB⟩⟩
  rw [if_neg c11] at H;have bE:(av != ax)=false:=by simpa using c11
  (try (have dK:decide (av=ax)=true:=by simpa using c11));(try (have dL:(av == ax)=true:=by simpa using c11));clear c11;(first|rw [bE]|(simp only [aaw,aaA];rw [bE])|skip);obtain⟨dB,dH,H⟩:=qE H;try dsimp only at H
  replace H:=jB H;rcases H with ⟨rfl,H⟩ | ⟨rfl,H⟩
  ·have H':=aM H;clear H;obtain⟨fC,fD,ed⟩:=R_slice ag.out;subst ed;obtain⟨fE,fF,ek⟩:=R_slice au.out;subst ek;go_wp2_with (first|(go_at_call 16;(with_reducible refine (SbH.calls k _ _ ak _ _ aG true _ ?ae ?af ?ay ?az dH.out).mono ?_);(case ae=>exact kJ ag);(case af=>exact (kp ag));(case ay=>exact kJ au);(case az=>exact (kp au));rintro e w' ⟨rfl,⟨nd,rfl⟩⟩;(try first|exact⟨rfl,_,World.drewN_drewN _ _ _⟩|exact⟨rfl,_,Eq.trans (World.drewN_drewN _ _ _) (congrArg (World.drewN _) (Nat.add_assoc _ _ _))⟩)));repeat (go_quiet (first|(go_at_call 16;(with_reducible refine (SbH.calls k _ _ ak _ _ aG true _ ?ae ?af ?ay ?az dH.out).mono ?_);(case ae=>exact kJ ag);(case af=>exact (kp ag));(case ay=>exact kJ au);(case az=>exact (kp au));rintro e w' ⟨rfl,⟨nd,rfl⟩⟩;(try first|exact⟨rfl,_,World.drewN_drewN _ _ _⟩|exact⟨rfl,_,Eq.trans (World.drewN_drewN _ _ _) (congrArg (World.drewN _) (Nat.add_assoc _ _ _))⟩)));try go_wp2_with (first|(go_at_call 16;(with_reducible refine (SbH.calls k _ _ ak _ _ aG true _ ?ae ?af ?ay ?az dH.out).mono ?_);(case ae=>exact kJ ag);(case af=>exact (kp ag));(case ay=>exact kJ au);(case az=>exact (kp au));rintro e w' ⟨rfl,⟨nd,rfl⟩⟩;(try first|exact⟨rfl,_,World.drewN_drewN _ _ _⟩|exact⟨rfl,_,Eq.trans (World.drewN_drewN _ _ _) (congrArg (World.drewN _) (Nat.add_assoc _ _ _))⟩))))
   go_meet;exact⟨_,_,qZ,H',⟨by first|omega|exact Nat.le_refl _⟩,⟨by (with_reducible repeat (first|apply R_alloc|apply R_drewN|apply R_drew));exact R_mono aa.out (fun _ hk=>⟨hk.1.2,hk.2⟩)⟩,⟨by (with_reducible repeat (first|apply R_alloc|apply R_drewN|apply R_drew));exact R_mono ag.out (fun _ hk=>⟨hk.1.2,hk.2⟩)⟩,⟨by (with_reducible repeat (first|apply R_alloc|apply R_drewN|apply R_drew));exact R_mono au.out (fun _ hk=>⟨hk.1.2,hk.2⟩)⟩,⟨qB⟩⟩
  have H':=aM H;clear H;obtain⟨fG,fH,eu⟩:=R_slice ag.out;subst eu;obtain⟨fI,fJ,eB⟩:=R_slice au.out;subst eB;go_wp2_with (first|(go_at_call 16;(with_reducible refine (SbH.calls k _ _ ak _ _ aG false _ ?ae ?af ?ay ?az dH.out).mono ?_);(case ae=>exact kJ ag);(case af=>exact (kp ag));(case ay=>exact kJ au);(case az=>exact (kp au));rintro e w' ⟨rfl,⟨nd,rfl⟩⟩;(try first|exact⟨rfl,_,World.drewN_drewN _ _ _⟩|exact⟨rfl,_,Eq.trans (World.drewN_drewN _ _ _) (congrArg (World.drewN _) (Nat.add_assoc _ _ _))⟩)));repeat (go_quiet (first|(go_at_call 16;(with_reducible refine (SbH.calls k _ _ ak _ _ aG false _ ?ae ?af ?ay ?az dH.out).mono ?_);(case ae=>exact kJ ag);(case af=>exact (kp ag));(case ay=>exact kJ au);(case az=>exact (kp au));rintro e w' ⟨rfl,⟨nd,rfl⟩⟩;(try first|exact⟨rfl,_,World.drewN_drewN _ _ _⟩|exact⟨rfl,_,Eq.trans (World.drewN_drewN _ _ _) (congrArg (World.drewN _) (Nat.add_assoc _ _ _))⟩)));try go_wp2_with (first|(go_at_call 16;(with_reducible refine (SbH.calls k _ _ ak _ _ aG false _ ?ae ?af ?ay ?az dH.out).mono ?_);(case ae=>exact kJ ag);(case af=>exact (kp ag));(case ay=>exact kJ au);(case az=>exact (kp au));rintro e w' ⟨rfl,⟨nd,rfl⟩⟩;(try first|exact⟨rfl,_,World.drewN_drewN _ _ _⟩|exact⟨rfl,_,Eq.trans (World.drewN_drewN _ _ _) (congrArg (World.drewN _) (Nat.add_assoc _ _ _))⟩))))
  go_meet;exact⟨_,_,qZ,H',⟨by first|omega|exact Nat.le_refl _⟩,⟨by (with_reducible repeat (first|apply R_alloc|apply R_drewN|apply R_drew));exact R_mono aa.out (fun _ hk=>⟨hk.1.2,hk.2⟩)⟩,⟨by (with_reducible repeat (first|apply R_alloc|apply R_drewN|apply R_drew));exact R_mono ag.out (fun _ hk=>⟨hk.1.2,hk.2⟩)⟩,⟨by (with_reducible repeat (first|apply R_alloc|apply R_drewN|apply R_drew));exact R_mono au.out (fun _ hk=>⟨hk.1.2,hk.2⟩)⟩,⟨qB⟩⟩
 clear d9;try clear c2;try clear dD;try clear dE
 obtain⟨kq,bX,rfl,HA,fe,aA,ai,bR,HB⟩:=hcut
 cases kq with
 | zero=>exact absurd HA.out (by simp [afc])
 | succ dM =>
  have H:=HA.out;clear HA;simp only [afc] at H;replace H:=jB H;rcases H with ⟨rfl,H⟩ | ⟨rfl,H⟩
  ·by_cases c19:(av == ax)=true
   ·rw [if_pos c19] at H;have dN:(av == ax)=true:=c19;(try (have dO:decide (av=ax)=true:=by simpa using c19));(try (have dP:(av == ax)=true:=by simpa using c19));clear c19;obtain⟨bC,eD,H⟩:=qE H;try dsimp only at H
    obtain rfl:=oJ H;obtain⟨fK,fM,eF⟩:=R_slice ai.out;subst eF;obtain⟨fO,fP,eG⟩:=R_slice bR.out;subst eG;go_wp2_with (first|(go_at_call 16;(with_reducible refine (SbH.calls dM _ _ ak _ _ aG bC _ ?ae ?af ?ay ?az eD.out).mono ?_);(case ae=>exact kJ ai);(case af=>exact (kp ai));(case ay=>exact kJ bR);(case az=>exact (kp bR));rintro e w' ⟨rfl,⟨nd,rfl⟩⟩;(try first|exact⟨rfl,_,World.drewN_drewN _ _ _⟩|exact⟨rfl,_,Eq.trans (World.drewN_drewN _ _ _) (congrArg (World.drewN _) (Nat.add_assoc _ _ _))⟩)));repeat (go_quiet (first|(go_at_call 16;(with_reducible refine (SbH.calls dM _ _ ak _ _ aG bC _ ?ae ?af ?ay ?az eD.out).mono ?_);(case ae=>exact kJ ai);(case af=>exact (kp ai));(case ay=>exact kJ bR);(case az=>exact (kp bR));rintro e w' ⟨rfl,⟨nd,rfl⟩⟩;(try first|exact⟨rfl,_,World.drewN_drewN _ _ _⟩|exact⟨rfl,_,Eq.trans (World.drewN_drewN _ _ _) (congrArg (World.drewN _) (Nat.add_assoc _ _ _))⟩)));try go_wp2_with (first|(go_at_call 16;(with_reducible refine (SbH.calls dM _ _ ak _ _ aG bC _ ?ae ?af ?ay ?az eD.out).mono ?_);(case ae=>exact kJ ai);(case af=>exact (kp ai));(case ay=>exact kJ bR);(case az=>exact (kp bR));rintro e w' ⟨rfl,⟨nd,rfl⟩⟩;(try first|exact⟨rfl,_,World.drewN_drewN _ _ _⟩|exact⟨rfl,_,Eq.trans (World.drewN_drewN _ _ _) (congrArg (World.drewN _) (Nat.add_assoc _ _ _))⟩))))
    go_ret;exact⟨qW,qB⟩
   rw [if_neg c19] at H;have dN:(av == ax)=false:=by simpa using c19
   (try (have dO:decide (av=ax)=false:=by simpa using c19));(try (have dP:(av == ax)=false:=by simpa using c19));(try (have fo:¬ (av=ax):=by simpa using c19));clear c19;obtain rfl:=oJ H;go_wp2;repeat (go_quiet (fail);try go_wp2)
   go_ret;exact⟨qW,qB⟩
  have H':=aM H;clear H;go_wp2;repeat (go_quiet (fail);try go_wp2)
  go_loopg [8] dM (fun kq v8 w'=>∃ (ah:Int),v8 = iV ah/\aa1 (afb kq aj ak ah=some r)/\aa1 (kq<=dM)/\aa1 (Kd.R k31 31 w' w.heap.size (fun k_=>some k_≠(aQ:Value).ownBlock) (.slice dF aj.length dG) aj)/\aa1 (Kd.R k31 31 w' w.heap.size (fun k_=>some k_≠((.slice dF aj.length dG):Value).ownBlock) aQ ak)/\aa1 (Below w.heap.size w w'));case atStart=>exact⟨(0),qZ,H',⟨Nat.le_refl _⟩,⟨by (with_reducible repeat (first|apply R_alloc|apply R_drewN|apply R_drew));exact R_mono aA.out (fun _ hk=>hk.1)⟩,⟨by (with_reducible repeat (first|apply R_alloc|apply R_drewN|apply R_drew));exact R_mono ai.out (fun _ hk=>hk.1)⟩,⟨qB⟩⟩
  clear H';try clear c2;try clear dD;try clear dE
  obtain⟨ah,rfl,HA,fq,aA,ai,HB⟩:=hrel;rcases gk with _|k2
  ·exact absurd HA.out (by simp [afb])
  have H:=HA.out;clear HA;simp only [afb] at H;replace H:=jD H;rcases H with ⟨dQ,H⟩ | ⟨dQ,H⟩
  ·replace H:=jI H;obtain⟨fu,H⟩:=H;replace H:=jI H;obtain⟨fw,H⟩:=H;replace H:=jE H;rcases H with ⟨dR,dS,H⟩ | ⟨gD,dR,dS,H⟩
   ·replace H:=jE H;rcases H with ⟨dU,dV,H⟩ | ⟨gF,dU,dV,H⟩
    ·replace H:=jE H;rcases H with ⟨dW,dX,H⟩ | ⟨c28,dW,dX,H⟩
     ·have H':=aM H;clear H;obtain⟨fQ,fT,eH⟩:=R_slice ai.out;subst eH;have aB:0<=(ah:Int):=qD;have aC:ah < (ak.length:Int):=qD;obtain⟨aJ,aR,aS,aT,aU,aV,aW⟩:=aaQ (R_reads' ai.out).2.2 ah aB aC;cases aR;replace aB:=eq_true aB;replace aC:=eq_true aC;have aD:0<=(ah:Int):=qD;have aF:ah < (aj.length:Int):=qD;obtain⟨aK,aX,aY,aZ,bg,bi,bn⟩:=aaQ (R_reads' aA.out).2.2 ah aD aF;cases aX;replace aD:=eq_true aD;replace aF:=eq_true aF;have aL:0<=(ah:Int):=qD;have aN:ah < (ak.length:Int):=qD;obtain⟨bq,bF,bG,bH,bI,bJ,bK⟩:=aaQ (R_reads' ai.out).2.2 ah aL aN;obtain rfl:aJ=bq:=(by injection bF);replace aL:=eq_true aL;replace aN:=eq_true aN;have aO:0<=(ah:Int):=qD;have aP:ah < (aj.length:Int):=qD;obtain⟨bu,bL,bM,bN,bO,bP,bQ⟩:=aaQ (R_reads' aA.out).2.2 ah aO aP;obtain rfl:aK=bu:=(by injection bL);replace aO:=eq_true aO;replace aP:=eq_true aP;have bv:0<=(ah:Int):=qD;have bz:ah < (ak.length:Int):=qD;obtain⟨bS,bY,bZ,cu,cz,cB,cK⟩:=aaQ (R_reads' ai.out).2.2 ah bv bz;obtain rfl:aJ=bS:=(by injection bY);replace bv:=eq_true bv;replace bz:=eq_true bz;have bA:0<=(ah:Int):=qD;have bB:ah < (aj.length:Int):=qD;obtain⟨bT,cO,df,dh,di,dn,dw⟩:=aaQ (R_reads' aA.out).2.2 ah bA bB;obtain rfl:aK=bT:=(by injection cO);replace bA:=eq_true bA;replace bB:=eq_true bB;go_wp2;repeat (go_quiet (fail);try go_wp2)
      go_roundg k2;case measure=>have:=fe.out;have:=fq.out;omega
      exact⟨(wrap64 (ah+1)),qZ,H',⟨by have:=fe.out;have:=fq.out;omega⟩,⟨qR aA⟩,⟨qR ai⟩,⟨qB⟩⟩
     obtain rfl:=oJ H;obtain⟨fU,fV,eO⟩:=R_slice ai.out;subst eO;have aB:0<=(ah:Int):=qD;have aC:ah < (ak.length:Int):=qD;obtain⟨aJ,aR,aS,aT,aU,aV,aW⟩:=aaQ (R_reads' ai.out).2.2 ah aB aC;cases aR;replace aB:=eq_true aB;replace aC:=eq_true aC;have aD:0<=(ah:Int):=qD;have aF:ah < (aj.length:Int):=qD;obtain⟨aK,aX,aY,aZ,bg,bi,bn⟩:=aaQ (R_reads' aA.out).2.2 ah aD aF;cases aX;replace aD:=eq_true aD;replace aF:=eq_true aF;have aL:0<=(ah:Int):=qD;have aN:ah < (ak.length:Int):=qD;obtain⟨bq,bF,bG,bH,bI,bJ,bK⟩:=aaQ (R_reads' ai.out).2.2 ah aL aN;obtain rfl:aJ=bq:=(by injection bF);replace aL:=eq_true aL;replace aN:=eq_true aN;have aO:0<=(ah:Int):=qD;have aP:ah < (aj.length:Int):=qD;obtain⟨bu,bL,bM,bN,bO,bP,bQ⟩:=aaQ (R_reads' aA.out).2.2 ah aO aP;obtain rfl:aK=bu:=(by injection bL);replace aO:=eq_true aO;replace aP:=eq_true aP;have bv:0<=(ah:Int):=qD;have bz:ah < (ak.length:Int):=qD;obtain⟨bS,bY,bZ,cu,cz,cB,cK⟩:=aaQ (R_reads' ai.out).2.2 ah bv bz;obtain rfl:aJ=bS:=(by injection bY);replace bv:=eq_true bv;replace bz:=eq_true bz;have bA:0<=(ah:Int):=qD;have bB:ah < (aj.length:Int):=qD;obtain⟨bT,cO,df,dh,di,dn,dw⟩:=aaQ (R_reads' aA.out).2.2 ah bA bB;obtain rfl:aK=bT:=(by injection cO);replace bA:=eq_true bA;replace bB:=eq_true bB;go_wp2;repeat (go_quiet (fail);try go_wp2)
     go_ret;exact⟨qW,qB⟩
    obtain rfl:=oJ H;obtain⟨fZ,gm,eP⟩:=R_slice ai.out;subst eP;have aB:0<=(ah:Int):=qD;have aC:ah < (ak.length:Int):=qD;obtain⟨aJ,aR,aS,aT,aU,aV,aW⟩:=aaQ (R_reads' ai.out).2.2 ah aB aC;cases aR;replace aB:=eq_true aB;replace aC:=eq_true aC;have aD:0<=(ah:Int):=qD;have aF:ah < (aj.length:Int):=qD;obtain⟨aK,aX,aY,aZ,bg,bi,bn⟩:=aaQ (R_reads' aA.out).2.2 ah aD aF;cases aX;replace aD:=eq_true aD;replace aF:=eq_true aF;have aL:0<=(ah:Int):=qD;have aN:ah < (ak.length:Int):=qD;obtain⟨bq,bF,bG,bH,bI,bJ,bK⟩:=aaQ (R_reads' ai.out).2.2 ah aL aN;obtain rfl:aJ=bq:=(by injection bF);replace aL:=eq_true aL;replace aN:=eq_true aN;have aO:0<=(ah:Int):=qD;have aP:ah < (aj.length:Int):=qD;obtain⟨bu,bL,bM,bN,bO,bP,bQ⟩:=aaQ (R_reads' aA.out).2.2 ah aO aP;obtain rfl:aK=bu:=(by injection bL);replace aO:=eq_true aO;replace aP:=eq_true aP;go_wp2;repeat (go_quiet (fail);try go_wp2)
    go_ret;exact⟨qW,qB⟩
   obtain rfl:=oJ H;obtain⟨gp,gq,eQ⟩:=R_slice ai.out;subst eQ;have aB:0<=(ah:Int):=qD;have aC:ah < (ak.length:Int):=qD;obtain⟨aJ,aR,aS,aT,aU,aV,aW⟩:=aaQ (R_reads' ai.out).2.2 ah aB aC;cases aR;replace aB:=eq_true aB;replace aC:=eq_true aC;have aD:0<=(ah:Int):=qD;have aF:ah < (aj.length:Int):=qD;obtain⟨aK,aX,aY,aZ,bg,bi,bn⟩:=aaQ (R_reads' aA.out).2.2 ah aD aF;cases aX;replace aD:=eq_true aD;replace aF:=eq_true aF;go_wp2;repeat (go_quiet (fail);try go_wp2)
   go_ret;exact⟨qW,qB⟩
  obtain⟨dA,dI,H⟩:=qE H;try dsimp only at H
  replace H:=jB H;rcases H with ⟨rfl,H⟩ | ⟨rfl,H⟩
  ·obtain rfl:=oJ H;obtain⟨gu,gy,eT⟩:=R_slice ai.out;subst eT;go_wp2_with (first|(go_at_call 20;(with_reducible refine (Sa0.calls k2 _ _ ak true _ ?ae ?af dI.out).mono ?_);(case ae=>exact kJ ai);(case af=>exact (kp ai));rintro e dx ⟨rfl,hb⟩;replace aA:=kR aA hb;replace ai:=kR ai hb;replace HB:=kH hb;clear hb));repeat (go_quiet (first|(go_at_call 20;(with_reducible refine (Sa0.calls k2 _ _ ak true _ ?ae ?af dI.out).mono ?_);(case ae=>exact kJ ai);(case af=>exact (kp ai));rintro e dx ⟨rfl,hb⟩;have bU:=aM (R_below (qR aA) hb);have bV:=aM (R_below (qR ai) hb);have bW:=aM (aaL qB hb);clear aA;clear ai;clear HB;have aA:=bU;have ai:=bV;have HB:=bW;clear bU bV bW;(try clear hb);(try clear hb2);(try clear hk);(try clear hi)));try go_wp2_with (first|(go_at_call 20;(with_reducible refine (Sa0.calls k2 _ _ ak true _ ?ae ?af dI.out).mono ?_);(case ae=>exact kJ ai);(case af=>exact (kp ai));rintro e dx ⟨rfl,hb⟩;replace aA:=kR aA hb;replace ai:=kR ai hb;replace HB:=kH hb;clear hb)))
   go_ret;exact⟨qW,qB⟩
  obtain rfl:=oJ H;obtain⟨gz,gB,eU⟩:=R_slice ai.out;subst eU;go_wp2_with (first|(go_at_call 20;(with_reducible refine (Sa0.calls k2 _ _ ak false _ ?ae ?af dI.out).mono ?_);(case ae=>exact kJ ai);(case af=>exact (kp ai));rintro e dx ⟨rfl,hb⟩;replace aA:=kR aA hb;replace ai:=kR ai hb;replace HB:=kH hb;clear hb));repeat (go_quiet (first|(go_at_call 20;(with_reducible refine (Sa0.calls k2 _ _ ak false _ ?ae ?af dI.out).mono ?_);(case ae=>exact kJ ai);(case af=>exact (kp ai));rintro e dx ⟨rfl,hb⟩;have bU:=aM (R_below (qR aA) hb);have bV:=aM (R_below (qR ai) hb);have bW:=aM (aaL qB hb);clear aA;clear ai;clear HB;have aA:=bU;have ai:=bV;have HB:=bW;clear bU bV bW;(try clear hb);(try clear hb2);(try clear hk);(try clear hi)));try go_wp2_with (first|(go_at_call 20;(with_reducible refine (Sa0.calls k2 _ _ ak false _ ?ae ?af dI.out).mono ?_);(case ae=>exact kJ ai);(case af=>exact (kp ai));rintro e dx ⟨rfl,hb⟩;replace aA:=kR aA hb;replace ai:=kR ai hb;replace HB:=kH hb;clear hb)))
  go_ret;exact⟨qW,qB⟩
/-- THE ONE PURE STATEMENT of SbG: yours. -/
def SbG.Pure:Prop:=∀ (l0:List Int),l0.length<=maxLen->l0.length*1<=140737488351232->(∀ x∈l0,(Lit.int .u8 x).wf=true)->∃ k,SbG.f k l0=some true
theorem SbG.walk (P:SbG.Pure) (a0:Option Addr) (dz cap0:Nat) (z0:List Int) (w:World) (w0:(a0=none/\dz=0/\cap0=0/\z0=[])\/∃ x,a0=some x/\dz<=cap0/\cap0<=maxLen/\z0.length=cap0/\(∀ i,i < z0.length->w.cell? (x.add i)=some (.int .u8 (z0.getD i 0)))/\∀ n∈z0,(Lit.int .u8 n).wf=true) (y0:dz*1<=140737488351232) :
  Calls prog 5 #[.slice a0 dz cap0] w fun e w'=>e = .returned (.bool true)/\Below w.heap.size w w':=by
 obtain⟨l0,rfl,hr0,hm0,hw0,hc0⟩:=agn w0;obtain⟨k,h⟩:=P l0 hm0 y0 hw0;refine (SbG.calls k _ _ l0 true w (C_of_reads (d:=(0:Int)) (h1:=fun _=>rfl) hr0) hc0 h).mono ?_;rintro e w' ⟨rfl,hd⟩;exact⟨rfl,hd⟩
end Go.Proofs.YtdkkdiiceaomaaaGreat.M
namespace Go.Proofs.YtdkkdiiceaomaaaGreat.M
open Go.Proofs.Tryz Go.RowKit Go.Proofs.YtdkkdiiceaomaaaGreatW.PrintWords Go.Proofs.YtdkkdiiceaomaaaGreatW.PrintLast Go.Proofs.YtdkkdiiceaomaaaGreatW.PrintMore
attribute [local go_sem] aas aaq aaH aaG aaj aai aar aap
end Go.Proofs.YtdkkdiiceaomaaaGreat.M
namespace Go.Proofs.YtdkkdiiceaomaaaGreat.M
open Go.Proofs.Tryz Go.RowKit Go.Proofs.YtdkkdiiceaomaaaGreatW.PrintWords Go.Proofs.YtdkkdiiceaomaaaGreatW.PrintLast Go.Proofs.YtdkkdiiceaomaaaGreatW.PrintMore PM
abbrev SE:=aaN
/-- With fuel enough,F answers what P says. -/
def An {α:Type} (F:Nat->Option α) (P:α->Prop):Prop:=∃ v,Ev F v/\P v
theorem an7 {α:Type} {F:Nat->Option α} {P:α->Prop} {v:α} (e:Ev F v) (p:P v):An F P:=⟨v,e,p⟩
theorem aae {α:Type} {P:α->Prop} {v:α} (p:P v):An (fun _=>Option.some v) P:=⟨v,Ev.pure,p⟩
theorem An.bind {α β:Type} {F:Nat->Option α} {G:Nat->α->Option β} {P:α->Prop} {Q:β->Prop} (h:An F P) (g:∀ a,P a->An (fun k=>G k a) Q):An (fun k=>(F k).bind (G k)) Q:=by
 obtain⟨a,e,p⟩:=h;obtain⟨b,e',q⟩:=g a p;exact⟨b,Ev.bind e e',q⟩
theorem abd {α β:Type} {a:α} {G:Nat->α->Option β} {Q:β->Prop} (g:An (fun k=>G k a) Q):An (fun k=>(Option.some a).bind (G k)) Q:=g
theorem aaR {α:Type} {F:Nat->Option α} {P:α->Prop} (h:An (fun k=>F (k+1)) P):An F P:=by
 obtain⟨v,e,p⟩:=h;exact⟨v,Ev.succ e,p⟩
theorem aaD {α:Type} {c:Prop} [Decidable c] {A B:Nat->Option α} {P:α->Prop} (g:An A P) (h:c:=by first|assumption|omega|(simp;done)|(simp;omega)):An (fun k=>if c then A k else B k) P:=by
 simp only [if_pos h];exact g
theorem ab6 {α:Type} {c:Prop} [Decidable c] {A B:Nat->Option α} {P:α->Prop} (g:An B P) (h:¬ c:=by first|assumption|omega|(simp;done)|(simp;omega)):An (fun k=>if c then A k else B k) P:=by
 simp only [if_neg h];exact g
theorem aaM {α:Type} {c:Prop} [Decidable c] {A B:Nat->Option α} {P:α->Prop} (g:c->An A P) (g':¬ c->An B P):An (fun k=>if c then A k else B k) P:=by
 by_cases h:c
 ·exact aaD (g h) h
 exact ab6 (g' h) h
theorem An.mono {α:Type} {F:Nat->Option α} {P Q:α->Prop} (h:An F P) (g:∀ v,P v->Q v):An F Q:=by
 obtain⟨v,e,p⟩:=h;exact⟨v,e,g v p⟩
def Bt (b:List Int):Prop:=b.length<=2000/\∀ x∈b,0<=x/\x < 256
theorem Bt.at_ {b:List Int} (h:Bt b) {i:Int} (h0:0<=i) (h1:i < b.length):0<=rd b i/\rd b i < 256:=by
 unfold rd;have hi:i.toNat < b.length:=by omega
 have e:b.getD i.toNat 0=b[i.toNat]:=by simp [hi]
 rw [e];exact h.2 _ (List.getElem_mem _)
theorem ak5 {x n:Int} (hx:0<=x) (hn:1<=n):0<=x.tmod n/\x.tmod n < n:=by
 rw [Int.tmod_eq_emod_of_nonneg hx];exact⟨Int.emod_nonneg _ (by omega),Int.emod_lt_of_pos _ (by omega)⟩
theorem aoP (x y:Int) (h0:0<=x) (h1:x < 2 ^ 62) (h2:0<=y) (h3:y < 2 ^ 62):0<=Go.bits .xor .i64 x y:=by
 obtain⟨a,rfl⟩:=Int.eq_ofNat_of_zero_le h0;obtain⟨b,rfl⟩:=Int.eq_ofNat_of_zero_le h2;have ha:a < 2 ^ 62:=by exact_mod_cast h1
 have hb:b < 2 ^ 62:=by exact_mod_cast h3
 have hp:(2:Nat) ^ 62<=2 ^ IntKind.i64.bits:=by decide
 have ha':a % 2 ^ IntKind.i64.bits=a:=Nat.mod_eq_of_lt (Nat.lt_of_lt_of_le ha hp);have hb':b % 2 ^ IntKind.i64.bits=b:=Nat.mod_eq_of_lt (Nat.lt_of_lt_of_le hb hp);have hx:a ^^^ b < 2 ^ 62:=Nat.xor_lt_two_pow ha hb;simp only [Go.bits,BitVec.ofInt_natCast,BitVec.toNat_xor,BitVec.toNat_ofNat,ha',hb'];rw [IntKind.wrap_i64];omega
theorem apb (y z q d:Int) (hy:0<=y) (hy1:y < 256) (hz:0<=z) (hz1:z < 256) (hq:0<=q) (hq1:q<=1000000) (hd:0<=d) (hd1:d<=q) :
  0<=Go.bits .xor .i64 (wrap64 ((wrap64 ((wrap64 ((wrap64 ((wrap64 y)*131))+(wrap64 ((wrap64 z)*1117))))+(wrap64 (q*29))))+(wrap64 ((wrap64 d)*53)))) (wrap64 (Int.tdiv (wrap64 ((wrap64 ((wrap64 ((wrap64 ((wrap64 y)*131))+(wrap64 ((wrap64 z)*1117))))+(wrap64 (q*29))))+(wrap64 ((wrap64 d)*53)))) 64)):=by
 have e:wrap64 ((wrap64 ((wrap64 ((wrap64 ((wrap64 y)*131))+(wrap64 ((wrap64 z)*1117))))+(wrap64 (q*29))))+(wrap64 ((wrap64 d)*53)))=y*131+z*1117+q*29+d*53:=by unfold wrap64;omega
 rw [e];have h0:0<=y*131+z*1117+q*29+d*53:=by omega
 have h1:y*131+z*1117+q*29+d*53 < 1000000000000:=by omega
 generalize y*131+z*1117+q*29+d*53=X at h0 h1;have h2:wrap64 (X.tdiv 64)=X / 64:=by rw [Int.tdiv_eq_ediv_of_nonneg h0];unfold wrap64;omega
 rw [h2];exact aoP X (X / 64) h0 (by omega) (by omega) (by omega)
theorem ap8 {b:List Int} (hb:Bt b) {p n:Int} (h:0<=p/\p+1<=1000000):An (fun k=>ab4 k b p n) (fun v=>0<=v.1/\(1<=n->v.1 < n)/\v.2=p+1):=by
 obtain⟨h0,h1⟩:=h;have e1:wrap64 (p+1)=p+1:=aaJ (by omega) (by omega);have e2:wrap64 (p+1 - 1)=p:=by rw [aaJ (by omega) (by omega)];omega
 have t:An (fun k=>af9 k n true b (p+1)) (fun v=>0<=v.1/\(1<=n->v.1 < n)/\v.2=p+1)\/1<=n:=by
  by_cases c:1<=n
  ·exact Or.inr c
  refine Or.inl (aaR ?_);simp only [af9];exact aaD (aae ⟨by simp,fun h=>absurd h c,rfl⟩)
 simp only [ab4,e1];refine aaM (fun c=>t.resolve_right (by omega)) (fun c=>?_);refine aaR ?_;simp only [af9,e2];refine aaM (fun c'=>aae ⟨by simp,fun h=>by simp only;omega,rfl⟩) (fun c'=>?_)
 have hl:1<=(b.length:Int):=by
  have:(b.length:Int)≠0:=by simpa using c'
  omega
 have hl2:=hb.1;refine aaM (fun d=>?_) (fun d=>?_)
 ·refine aaD (ab6 (aae ?_));obtain⟨r0,r1⟩:=hb.at_ h0 d;rw [aaJ (by omega) (by omega)];exact⟨(ak5 r0 (by omega)).1,fun h=>(ak5 r0 h).2,rfl⟩
 obtain⟨i0,i1⟩:=ak5 (x:=p) h0 hl;have e3:wrap64 (wrap64 (p*7)+3)=p*7+3:=by unfold wrap64;omega
 obtain⟨j0,j1⟩:=ak5 (x:=p*7+3) (by omega) hl;obtain⟨y0,y1⟩:=hb.at_ i0 i1;obtain⟨z0,z1⟩:=hb.at_ j0 j1;simp only [e3];refine ab6 (aaD (aaD (aaD (aaD (ab6 (aae ?_))))));have d0:0<=p.tdiv b.length:=Int.tdiv_nonneg h0 (by omega);have d1:p.tdiv b.length<=p:=by rw [Int.tdiv_eq_ediv_of_nonneg h0];exact Int.ediv_le_self _ h0
 have m:=apb _ _ p _ y0 y1 z0 z1 h0 (by omega) d0 d1;exact⟨(ak5 m (by omega)).1,fun h=>(ak5 m h).2,rfl⟩
theorem aao {b:List Int} (hb:Bt b) {p:Int} (n:Int) (h:0<=p/\p+1<=1000000) (hn:1<=n:=by omega):An (fun k=>ab4 k b p n) (fun v=>0<=v.1/\v.1 < n/\v.2=p+1) :=
 (ap8 hb h).mono fun v h=>⟨h.1,h.2.1 hn,h.2.2⟩
theorem abD {b:List Int} (hb:Bt b) {p:Int} (h:0<=p/\p+1<=1000000):An (fun k=>aew k b p) (fun v=>v.2=p+1):=by
 simp only [aew];exact An.bind (aao hb 6 h) fun v h=>aae h.2.2
theorem ajO {b:List Int} (hb:Bt b) {p:Int} (h:0<=p/\p+1<=1000000):An (fun k=>akn k b p) (fun v=>1<=v.1/\v.1<=12/\v.2=p+1):=by
 simp only [akn];refine An.bind (aao hb 12 h) fun v h=>aae ?_
 rw [aaJ (by omega) (by omega)];simp only;omega
theorem akz (n:Int):∃ v,af0 n=some v:=by
 unfold af0;split
 ·exact⟨_,rfl⟩
 split <;> exact⟨_,rfl⟩
theorem ake {b:List Int} (hb:Bt b) {p:Int} (h:0<=p/\p+5<=1000000):An (fun k=>alS k b p) (fun v=>p<=v.2/\v.2<=p+5):=by
 simp only [alS];refine An.bind (aao hb 6 (by omega)) fun v h1=>?_
 refine aaM (fun c=>abd (An.bind (aao hb 8 (by omega)) fun u h2=>aaD (aaD (aae (by simp only;omega)) (by simp only [List.length_cons,List.length_nil];omega)))) (fun c=>aaM (fun c=>?_) (fun c=>aaM (fun c=>An.bind (aao hb 200 (by omega)) fun u h2=>aae (by simp only;omega)) (fun c=>An.bind (aao hb 20 (by omega)) fun u h2=>aae (by simp only;omega))));refine An.bind (aao hb 256 (by omega)) fun v1 h1=>An.bind (aao hb 256 (by omega)) fun v2 h2=>An.bind (aao hb 256 (by omega)) fun v3 h3=>An.bind (aao hb 200 (by omega)) fun v4 h4=>?_
 obtain⟨x,hx⟩:=akz (wrap64 ((wrap64 ((wrap64 ((wrap64 (v1.1*65536))+(wrap64 (v2.1*256))))+v3.1))*(wrap64 (1+v4.1))));simp only [hx];exact abd (aae (by simp only;omega))
def okE:Nat->SE->Prop
 | 0,_=>False
 | d+1,e=>(e.f0=0/\0<=e.f1/\e.f1<=99999/\e.f2=[])\/(e.f0=13/\0<=e.f1/\e.f1<=3/\e.f2=[])\/(1<=e.f0/\e.f0<=12/\e.f1=0/\∃ a b,e.f2=[a,b]/\okE d a/\okE d b)
theorem al3:∀ {d:Nat} {e:SE},okE d e->okE (d+1) e
 | 0,_,h=>h.elim
 | d+1,e,h=>by
  rcases h with h|h | ⟨h1,h2,h3,a,b,h4,h5,h6⟩
  ·exact Or.inl h
  ·exact Or.inr (Or.inl h)
  exact Or.inr (Or.inr ⟨h1,h2,h3,a,b,h4,al3 h5,al3 h6⟩)
theorem ai3 {d d':Nat} {e:SE} (h:okE d e) (hd:d<=d'):okE d' e:=by
 induction hd with
 | refl=>exact h
 | step _ ih=>exact al3 ih
theorem agP {b:List Int} (hb:Bt b) {p:Int} (h:0<=p/\p+2<=1000000):An (fun k=>alU k b p) (fun v=>okE 1 ⟨v.1,v.2.1,v.2.2.1⟩/\p<=v.2.2.2/\v.2.2.2<=p+2):=by
 simp only [alU,afu];refine An.bind (aao hb 4 (by omega)) fun v h1=>?_
 refine aaM (fun c=>An.bind (aao hb 4 (by omega)) fun u h2=>abd (aae ⟨Or.inl ⟨rfl,h2.1,by simp only;omega,rfl⟩,by simp only;omega⟩)) (fun c=>aaM (fun c=>?_) (fun c=>An.bind (aao hb 4 (by omega)) fun u h2=>abd (aae ⟨Or.inr (Or.inl ⟨rfl,h2.1,by simp only;omega,rfl⟩),by simp only;omega⟩)));refine abd (An.bind (aao hb 8 (by omega)) fun u h2=>aaD (aaD (abd (aae ⟨Or.inl ⟨rfl,?_⟩,by simp only;omega⟩)) (by simp only [List.length_cons,List.length_nil];omega)));obtain⟨u1,u2⟩:=u;obtain⟨m,rfl⟩:=Int.eq_ofNat_of_zero_le h2.1;have hm:m < 8:=by have:=h2.2.1;simp only at this;omega
 simp only [ajE]
 match m,hm with
 | 0,_=>simp
 | 1,_=>simp
 | 2,_=>simp
 | 3,_=>simp
 | 4,_=>simp
 | 5,_=>simp
 | 6,_=>simp
 | 7,_=>simp
def cE:Nat->Int
 | 0=>2
 | d+1=>2+2*cE d
theorem aoi:∀ d,2<=cE d
 | 0=>by simp [cE]
 | d+1=>by have:=aoi d;simp only [cE];omega
theorem aeS {b:List Int} (hb:Bt b):∀ (d:Nat) (p:Int),d<=100->0<=p/\p+cE d<=1000000->An (fun k=>adA k b p ((d+1:Nat):Int)) (fun v=>okE (d+1) ⟨v.1,v.2.1,v.2.2.1⟩/\p<=v.2.2.2/\v.2.2.2<=p+cE d)
 | 0,p,_,h=>by
  refine aaR ?_;simp only [adA];refine aaD (aaR ?_);simp only [ag8];exact aaD (An.bind (agP hb h) fun v h=>aae h)
 | d+1,p,hd,h=>by
  have c2:=aoi d;simp only [cE] at h ⊢;refine aaR ?_;simp only [adA];refine ab6 (An.bind (aao hb 3 (by omega)) fun v h1=>aaR ?_);simp only [ag8];refine aaM (fun c=>An.bind (agP hb (by omega)) fun u h2=>aae ⟨ai3 h2.1 (by omega),by simp only;omega⟩) (fun c=>?_);have e:wrap64 (((d+1+1:Nat):Int) - 1)=((d+1:Nat):Int):=by rw [aaJ (by omega) (by omega)];omega
  refine An.bind (ajO hb (by omega)) fun o h3=>?_
  simp only [e];refine An.bind (aeS hb d o.2 (by omega) (by omega)) fun x h4=>?_
  refine An.bind (aeS hb d x.2.2.2 (by omega) (by omega)) fun y h5=>?_
  simp only [aip];exact abd (aae ⟨Or.inr (Or.inr ⟨h3.1,h3.2.1,rfl,_,_,rfl,h4.1,h5.1⟩),by simp only;omega⟩)
/-- One more than what was picked is a depth. -/
theorem adI {b:List Int} (hb:Bt b) {p x:Int} (hx:0<=x/\x < 3) (h:0<=p/\p+14<=1000000):An (fun k=>adA k b p (wrap64 (1+x))) (fun v=>okE 3 ⟨v.1,v.2.1,v.2.2.1⟩/\p<=v.2.2.2/\v.2.2.2<=p+14):=by
 obtain⟨m,rfl⟩:=Int.eq_ofNat_of_zero_le hx.1;rw [aaJ (by omega) (by omega),show (1:Int)+(m:Int)=((m+1:Nat):Int) by omega]
 have hc:cE m<=14:=by
  match m,hx with
  | 0,_=>decide
  | 1,_=>decide
  | 2,_=>decide
  | m+3,h=>omega
 exact (aeS hb m p (by omega) (by omega)).mono fun v h=>⟨ai3 h.1 (by omega),by omega⟩
abbrev ST:=aam
def ao8 (x:ST):Prop:=x.f4=[]/\x.f5=[]/\((x.f0=1/\0<=x.f1/\x.f1<=3/\x.f2=0/\okE 3 x.f3)\/(x.f0=4/\x.f1=0/\0<=x.f2/\x.f2<=2/\okE 3 x.f3)\/(x.f0=5/\0<=x.f1/\x.f1<=3/\0<=x.f2/\x.f2<=2/\x.f3=⟨0,0,[]⟩)\/(x.f0=6/\x.f1=0/\x.f2=0/\x.f3=⟨0,0,[]⟩)\/(x.f0=7/\x.f1=0/\x.f2=0/\okE 3 x.f3))
def okS:Nat->ST->Prop
 | 0,x=>ao8 x
 | n+1,x=>ao8 x\/((x.f0=2\/x.f0=3/\x.f5=[])/\x.f1=0/\x.f2=0/\okE 3 x.f3/\x.f4.length<=5/\x.f5.length<=5/\(∀ y∈x.f4,okS n y)/\(∀ y∈x.f5,okS n y))
theorem adv {n:Nat} {x:ST} (h:ao8 x):okS n x:=by
 cases n with
 | zero=>exact h
 | succ n=>exact Or.inl h
/-- What a draw of a statement answers,as a statement;the reader behind it. -/
def tS (v:Int × Int × Int × Int × Int × List SE × List ST × List ST × Int):ST:=⟨v.1,v.2.1,v.2.2.1,⟨v.2.2.2.1,v.2.2.2.2.1,v.2.2.2.2.2.1⟩,v.2.2.2.2.2.2.1,v.2.2.2.2.2.2.2.1⟩
theorem afQ {b:List Int} (hb:Bt b) {p:Int} (h:0<=p/\p+16<=1000000):An (fun k=>akk k b p) (fun v=>ao8 (tS v)/\p<=v.2.2.2.2.2.2.2.2/\v.2.2.2.2.2.2.2.2<=p+16):=by
 simp only [akk];refine An.bind (aao hb 3 (by omega)) fun v h1=>An.bind (aao hb 3 (by omega)) fun u h2=>An.bind (adI hb (by omega) (by omega)) fun e h3=>aae ?_
 exact⟨⟨rfl,rfl,Or.inl ⟨rfl,h1.1,by simp only [tS];omega,rfl,h3.1⟩⟩,by simp only;omega⟩
theorem agO {b:List Int} (hb:Bt b) {p x:Int} (hx:x<=3) (h:0<=p/\p+18<=1000000):An (fun k=>alM k b p x) (fun v=>ao8 (tS v)/\p<=v.2.2.2.2.2.2.2.2/\v.2.2.2.2.2.2.2.2<=p+18):=by
 simp only [alM];refine aaM (fun c=>An.bind (afQ hb (by omega)) fun v h1=>aae ⟨h1.1,by simp only;omega⟩) (fun c=>?_);refine An.bind (aao hb x (by omega)) fun v h1=>An.bind (aao hb 2 (by omega)) fun u h2=>aaM (fun c=>?_) (fun c=>?_)
 ·refine An.bind (aao hb 3 (by omega)) fun y h3=>An.bind (adI hb (by omega) (by omega)) fun e h4=>aae ?_
  exact⟨⟨rfl,rfl,Or.inr (Or.inl ⟨rfl,rfl,h1.1,by simp only [tS];omega,h4.1⟩)⟩,by simp only;omega⟩
 refine An.bind (aao hb 3 (by omega)) fun y h3=>aae ?_
 exact⟨⟨rfl,rfl,Or.inr (Or.inr (Or.inl ⟨rfl,h3.1,by simp only [tS];omega,h1.1,by simp only [tS];omega,rfl⟩))⟩,by simp only;omega⟩
def cS:Nat->Int
 | 0=>19
 | n+1=>18+4*cS n
theorem agW:∀ n,19<=cS n
 | 0=>by simp [cS]
 | n+1=>by have:=agW n;simp only [cS];omega
/-- What is drawn for one statement of a nest n. -/
def agZ (b:List Int) (n:Nat):Prop:=∀ (x:Int),x<=3->∀ (l:Bool) (p:Int),0<=p/\p+cS n<=1000000->An (fun k=>akj k b p x (n:Int) l) (fun v=>v.1.length<=2/\(∀ y∈v.1,okS n y)/\p<=v.2/\v.2<=p+cS n)
theorem aii {b:List Int} {n:Nat} (hs:agZ b n) {x:Int} (hx:x<=3) (l:Bool) {m:Nat} (hm:m<=10):∀ (d i:Nat),i+d=m->∀ (o:List ST) (p:Int),o.length<=2*i->(∀ y∈o,okS n y)->0<=p/\p+(d:Int)*cS n<=1000000->An (fun k=>aet k x (n:Int) (m:Int) l o (i:Int) b p) (fun v=>v.1.length<=2*m/\(∀ y∈v.1,okS n y)/\p<=v.2/\v.2<=p+(d:Int)*cS n)
 | 0,i,hi,o,p,ho,hy,h=>by
  refine aaR ?_;simp only [aet];exact ab6 (aae ⟨by simp only;omega,hy,by simp only;omega⟩)
 | d+1,i,hi,o,p,ho,hy,h=>by
  have c2:=agW n;have e:((d+1:Nat):Int)*cS n=(d:Int)*cS n+cS n:=by rw [show ((d+1:Nat):Int)=(d:Int)+1 from rfl,Int.add_mul,Int.one_mul]
  have e0:0<=(d:Int)*cS n:=Int.mul_nonneg (by omega) (by omega);rw [e] at h ⊢;refine aaR ?_;simp only [aet,aay (show i < 9223372036854775807 by omega)];refine aaD (An.bind (hs x hx l p (by omega)) fun v h1=>?_);refine aaD ?_
  refine (aii hs hx l hm d (i+1) (by omega) (o ++ v.1) v.2 (by simp;omega) (by
   intro y hy';rcases List.mem_append.1 hy' with q|q
   ·exact hy y q
   exact h1.2.1 y q) (by omega)).mono fun u h2=>⟨h2.1,h2.2.1,by omega⟩
theorem ajV {b:List Int} {n:Nat} (hs:agZ b n) {x:Int} (hx:x<=3) (l:Bool) {m:Int} (hm:0<=m/\m<=10) (p:Int) (h:0<=p/\p+m*cS n<=1000000):An (fun k=>afs k b p x (n:Int) m l) (fun v=>(v.1.length:Int)<=2*m/\(∀ y∈v.1,okS n y)/\p<=v.2/\v.2<=p+m*cS n):=by
 obtain⟨m,rfl⟩:=Int.eq_ofNat_of_zero_le hm.1;refine aaR ?_;simp only [afs];exact (aii hs hx l (by omega) m 0 (Nat.zero_add _) [] p (by simp) (by simp) h).mono fun u h2=>⟨by omega,h2.2⟩
/-- A block of at most two. -/
theorem ag5 {b:List Int} {n:Nat} (hs:agZ b n) {x:Int} (hx:x<=3) (l:Bool) {m:Int} (hm:0<=m/\m < 3) (p:Int) (h:0<=p/\p+2*cS n<=1000000):An (fun k=>afs k b p x (n:Int) m l) (fun v=>v.1.length<=4/\(∀ y∈v.1,okS n y)/\p<=v.2/\v.2<=p+2*cS n):=by
 have e:m*cS n<=2*cS n:=Int.mul_le_mul_of_nonneg_right (by omega) (by have:=agW n;omega);exact (ajV hs hx l (by omega) p (by omega)).mono fun u h2=>⟨by omega,h2.2.1,by omega⟩
theorem arw {b:List Int} (hb:Bt b) {n:Nat} (hn:n<=1000) (hs:agZ b n) {x:Int} (hx:x<=3) (l:Bool) (p:Int) (h:0<=p/\p+17+4*cS n<=1000000):An (fun k=>akm k b p x ((n+1:Nat):Int) l) (fun v=>okS (n+1) (tS v)/\p<=v.2.2.2.2.2.2.2.2/\v.2.2.2.2.2.2.2.2<=p+17+4*cS n):=by
 have c2:=agW n;have e:wrap64 (((n+1:Nat):Int) - 1)=(n:Int):=by rw [aaJ (by omega) (by omega)];omega
 refine aaR ?_;simp only [akm,e];refine An.bind (aao hb 2 (by omega)) fun v h1=>An.bind (adI hb (by omega) (by omega)) fun q h2=>An.bind (aao hb 3 (by omega)) fun u h3=>An.bind (ag5 hs hx l (by omega) _ (by omega)) fun c h4=>An.bind (aao hb 3 (by omega)) fun u' h5=>An.bind (ag5 hs hx l (by omega) _ (by omega)) fun c' h6=>aae ?_
 exact⟨Or.inr ⟨Or.inl rfl,rfl,rfl,h2.1,Nat.le_trans h4.1 (by omega),Nat.le_trans h6.1 (by omega),h4.2.1,h6.2.1⟩,by simp only;omega⟩
theorem aiS {x:Int} (h:0<=x/\x<=99999):okE 1 ⟨0,x,[]⟩:=Or.inl ⟨rfl,h.1,h.2,rfl⟩
theorem al2:okE 1 ⟨13,3,[]⟩:=Or.inr (Or.inl ⟨rfl,by decide,by decide,rfl⟩)
theorem apc {b:List Int} (hb:Bt b) {n:Nat} (hn:n<=1000) (hs:agZ b n) {x:Int} (hx:x<=3) (p:Int) (h:0<=p/\p+17+4*cS n<=1000000):An (fun k=>akl k b p x ((n+1:Nat):Int)) (fun v=>v.1.length<=2/\(∀ y∈v.1,okS (n+1) y)/\p<=v.2/\v.2<=p+17+4*cS n):=by
 have c2:=agW n;have e:wrap64 (((n+1:Nat):Int) - 1)=(n:Int):=by rw [aaJ (by omega) (by omega)];omega
 refine aaR ?_;simp only [akl,afu,aip,e];refine An.bind (aao hb 3 (by omega)) fun v h1=>An.bind (ag5 hs hx false (by omega) _ (by omega)) fun c h2=>?_
 refine abd (abd (abd (abd (An.bind (aao hb 3 (by omega)) fun u h3=>abd (abd (abd ?_))))));refine aaD (abd (aae ⟨by simp,?_,by simp only;omega⟩)) (by simp only [List.length_cons,List.length_nil];omega);have hw:wrap64 (1+u.1)=1+u.1:=aaJ (by omega) (by omega);intro y hy;rcases List.mem_cons.1 hy with rfl|hy
 ·exact Or.inl ⟨rfl,rfl,Or.inl ⟨rfl,by simp,by simp,rfl,ai3 (aiS (x:=0) (by decide)) (by omega)⟩⟩
 rcases List.mem_cons.1 hy with rfl|hy
 ·refine Or.inr ⟨Or.inr ⟨rfl,rfl⟩,rfl,rfl,?_,?_,by simp,?_,by simp⟩
  ·exact ai3 (d:=2) (Or.inr (Or.inr ⟨by simp only;omega,by simp only;omega,rfl,_,_,rfl,al2,by rw [hw];exact aiS (x:=1+u.1) (by omega)⟩)) (by omega)
  ·simp only [List.length_append,List.length_cons,List.length_nil];omega
  intro z hz;rcases List.mem_append.1 hz with q|q
  ·exact h2.2.1 z q
  obtain rfl:=List.mem_singleton.1 q;exact adv ⟨rfl,rfl,Or.inl ⟨rfl,by simp,by simp,rfl,ai3 (d:=2) (Or.inr (Or.inr ⟨by simp only;omega,by simp only;omega,rfl,_,_,rfl,al2,aiS (x:=1) (by decide)⟩)) (by omega)⟩⟩
 cases hy
theorem adu {n:Nat} {x:ST} (h:okS n x):∀ y∈[x],okS n y:=fun y hy=>by rw [List.mem_singleton.1 hy];exact h
theorem aee {b:List Int} (hb:Bt b) {n:Nat} {p:Int} (h:0<=p/\p+15<=1000000):An (fun k=>(ab4 k b p 3).bind fun t=>(adA k b t.2 (wrap64 (1+t.1))).bind fun e=>some ([(⟨7,0,0,⟨e.1,e.2.1,e.2.2.1⟩,[],[]⟩:ST)],e.2.2.2)) (fun v=>v.1.length<=2/\(∀ y∈v.1,okS n y)/\p<=v.2/\v.2<=p+15):=by
 refine An.bind (aao hb 3 (by omega)) fun v h1=>An.bind (adI hb (by omega) (by omega)) fun e h2=>aae ?_
 exact⟨by simp,adu (adv ⟨rfl,rfl,Or.inr (Or.inr (Or.inr (Or.inr ⟨rfl,rfl,rfl,h2.1⟩)))⟩),by simp only;omega⟩
theorem aoX {b:List Int} (hb:Bt b):∀ n,n<=1000->agZ b n:=by
 intro n hn
 induction n with
 | zero=>?_
 | succ n ih=>?_
 all_goals
  intro x hx l p h;refine aaR ?_;simp only [akj];simp only [cS] at h ⊢
 ·refine An.bind (aao hb 10 (by omega)) fun v h1=>?_
  have j2:∀ c,An (fun k=>adS k x v.1 c b v.2) (fun u=>u.1.length<=2/\(∀ y∈u.1,okS 0 y)/\p<=u.2/\u.2<=p+19):=by
   intro c;refine aaR ?_;simp only [adS];refine aaM (fun c=>An.bind (agO hb hx (by omega)) fun t h2=>aae ⟨by simp,adu (adv h2.1),by simp only;omega⟩) (fun c=>aaM (fun c=>aae ⟨by simp,adu (adv ⟨rfl,rfl,Or.inr (Or.inr (Or.inr (Or.inl ⟨rfl,rfl,rfl,rfl⟩)))⟩),by simp only;omega⟩) (fun c=>?_));exact (aee hb (n:=0) (by omega)).mono fun u h=>⟨h.1,h.2.1,by omega⟩
  have j1:An (fun k=>aes k x ((0:Nat):Int) false b v.2) (fun u=>u.1.length<=2/\(∀ y∈u.1,okS 0 y)/\p<=u.2/\u.2<=p+19):=by
   refine aaR ?_;simp only [aes];exact ab6 ((aee hb (n:=0) (by omega)).mono fun u h=>⟨h.1,h.2.1,by omega⟩)
  have j0:∀ c,An (fun k=>adz k x ((0:Nat):Int) l v.1 c b v.2) (fun u=>u.1.length<=2/\(∀ y∈u.1,okS 0 y)/\p<=u.2/\u.2<=p+19):=by
   intro c;refine aaR ?_;simp only [adz];refine aaM (fun c=>An.bind (afQ hb (by omega)) fun t h2=>aae ⟨by simp,adu (adv h2.1),by simp only;omega⟩) (fun c=>aaM (fun c=>ab6 ((aee hb (n:=0) (by omega)).mono fun u h=>⟨h.1,h.2.1,by omega⟩)) (fun c=>aaM (fun c=>ab6 j1) (fun c=>aaM (fun c=>j2 _) (fun c=>aaM (fun c=>j2 _) (fun c=>j2 _)))))
  exact aaM (fun c=>j0 _) (fun c=>j0 _)
 have ih:=ih (by omega);have c2:=agW n;refine An.bind (aao hb 10 (by omega)) fun v h1=>?_
 have j2:∀ c,An (fun k=>adS k x v.1 c b v.2) (fun u=>u.1.length<=2/\(∀ y∈u.1,okS (n+1) y)/\p<=u.2/\u.2<=p+(18+4*cS n)):=by
  intro c;refine aaR ?_;simp only [adS];refine aaM (fun c=>An.bind (agO hb hx (by omega)) fun t h2=>aae ⟨by simp,adu (adv h2.1),by simp only;omega⟩) (fun c=>aaM (fun c=>aae ⟨by simp,adu (adv ⟨rfl,rfl,Or.inr (Or.inr (Or.inr (Or.inl ⟨rfl,rfl,rfl,rfl⟩)))⟩),by simp only;omega⟩) (fun c=>?_));exact (aee hb (n:=n+1) (by omega)).mono fun u h=>⟨h.1,h.2.1,by omega⟩
 have j1:∀ c,An (fun k=>aes k x ((n+1:Nat):Int) c b v.2) (fun u=>u.1.length<=2/\(∀ y∈u.1,okS (n+1) y)/\p<=u.2/\u.2<=p+(18+4*cS n)):=by
  intro c;refine aaR ?_;simp only [aes];refine aaM (fun c=>An.bind (apc hb (by omega) ih hx _ (by omega)) fun u h=>aae ⟨h.1,h.2.1,by simp only;omega⟩) (fun c=>?_);exact (aee hb (n:=n+1) (by omega)).mono fun u h=>⟨h.1,h.2.1,by omega⟩
 have j0:∀ c,An (fun k=>adz k x ((n+1:Nat):Int) l v.1 c b v.2) (fun u=>u.1.length<=2/\(∀ y∈u.1,okS (n+1) y)/\p<=u.2/\u.2<=p+(18+4*cS n)):=by
  intro c;refine aaR ?_;simp only [adz];refine aaM (fun c=>An.bind (afQ hb (by omega)) fun t h2=>aae ⟨by simp,adu (adv h2.1),by simp only;omega⟩) (fun c=>aaM (fun c=>aaD (An.bind (arw hb (by omega) ih hx l _ (by omega)) fun t h2=>aae ⟨by simp,adu h2.1,by simp only;omega⟩)) (fun c=>aaM (fun c=>aaD (j1 _)) (fun c=>aaM (fun c=>j2 _) (fun c=>aaM (fun c=>j2 _) (fun c=>j2 _)))))
 exact aaM (fun c=>j0 _) (fun c=>j0 _)
set_option maxRecDepth 100000
theorem ap3 (l:List ST) (i:Nat):aac l (i:Int)=l.getD i apH:=by simp [aac]
theorem akN {l:List ST} {i:Nat} (h:i < l.length):l.getD i apH∈l:=by
 rw [show l.getD i apH=l[i] by simp [h]];exact List.getElem_mem _
def cW:Nat->Int
 | 0=>1
 | n+1=>1+10*cW n
theorem aoh:∀ n,1<=cW n
 | 0=>by simp [cW]
 | n+1=>by have:=aoh n;simp only [cW];omega
theorem arC {n:Nat} (h:n<=3):cW n<=1111:=by
 match n,h with
 | 0,_=>decide
 | 1,_=>decide
 | 2,_=>decide
 | 3,_=>decide
theorem aih {l:List ST} (hl:l.length<=12) {B:Int} (hB:0<=B/\B<=6000) (hc:∀ x∈l,An (fun k=>SaC.f k x.f4) (fun c=>0<=c/\c<=B)/\An (fun k=>SaC.f k x.f5) (fun c=>0<=c/\c<=B)) :
  ∀ (d i:Nat),i+d=l.length->∀ t:Int,0<=t->t<=(i:Int)*12001->An (fun k=>aeJ k l t (i:Int)) (fun c=>t<=c/\c<=t+(d:Int)*(1+2*B))
 | 0,i,hi,t,h0,h1=>by
  refine aaR ?_;simp only [aeJ];exact ab6 (aae ⟨by omega,by omega⟩)
 | d+1,i,hi,t,h0,h1=>by
  have e:((d+1:Nat):Int)*(1+2*B)=(d:Int)*(1+2*B)+(1+2*B):=by rw [show ((d+1:Nat):Int)=(d:Int)+1 from rfl,Int.add_mul,Int.one_mul]
  rw [e];obtain⟨h4,h5⟩:=hc _ (akN (show i < l.length by omega));refine aaR ?_;simp only [aeJ,ap3,aay (show i < 9223372036854775807 by omega)];refine aaD (aaD (An.bind h4 fun c k4=>An.bind h5 fun c' k5=>?_));have e1:wrap64 (wrap64 (wrap64 (t+1)+c)+c')=t+1+c+c':=by unfold wrap64;omega
  rw [e1];exact (aih hl hB hc d (i+1) (by omega) (t+1+c+c') (by omega) (by omega)).mono fun u h=>⟨by omega,by omega⟩
theorem ag3 {l:List ST} (hl:l.length<=12) {B:Int} (hB:0<=B/\B<=6000) (hc:∀ x∈l,An (fun k=>SaC.f k x.f4) (fun c=>0<=c/\c<=B)/\An (fun k=>SaC.f k x.f5) (fun c=>0<=c/\c<=B)):An (fun k=>SaC.f k l) (fun c=>0<=c/\c<=(l.length:Int)*(1+2*B)):=by
 refine aaR ?_;simp only [SaC.f];exact (aih hl hB hc l.length 0 (Nat.zero_add _) 0 (by omega) (by omega)).mono fun u h=>⟨h.1,by omega⟩
theorem aen {B:Int} (h:0<=B):An (fun k=>SaC.f k []) (fun c=>0<=c/\c<=B) :=
 (ag3 (l:=[]) (by simp) (B:=0) (by omega) (by simp)).mono fun u h'=>⟨h'.1,by simp at h';omega⟩
theorem ahH:∀ n,n<=3->∀ l:List ST,(∀ x∈l,okS n x)->l.length<=12->An (fun k=>SaC.f k l) (fun c=>0<=c/\c<=(l.length:Int)*cW n)
 | 0,_,l,h,hl=>by
  refine (ag3 hl (B:=0) (by omega) fun x hx=>?_).mono fun u h'=>⟨h'.1,by simp only [cW];omega⟩
  obtain⟨e4,e5,_⟩:ao8 x:=h x hx;rw [e4,e5];exact⟨aen (by omega),aen (by omega)⟩
 | n+1,hn,l,h,hl=>by
  have w0:=aoh n;have w1:=arC (n:=n) (by omega);refine (ag3 hl (B:=5*cW n) (by omega) fun x hx=>?_).mono fun u h'=>⟨h'.1,by rw [show cW (n+1)=1+2*(5*cW n) by simp only [cW];omega];exact h'.2⟩
  rcases h x hx with ⟨e4,e5,_⟩ | ⟨_,_,_,_,l4,l5,h4,h5⟩
  ·rw [e4,e5];exact⟨aen (by omega),aen (by omega)⟩
  have m4:(x.f4.length:Int)*cW n<=5*cW n:=Int.mul_le_mul_of_nonneg_right (by omega) (by omega);have m5:(x.f5.length:Int)*cW n<=5*cW n:=Int.mul_le_mul_of_nonneg_right (by omega) (by omega);exact⟨(ahH n (by omega) x.f4 h4 (by omega)).mono fun u k=>⟨k.1,by omega⟩,(ahH n (by omega) x.f5 h5 (by omega)).mono fun u k=>⟨k.1,by omega⟩⟩
/-- What aa answers. -/
def okL (l:List ST):Prop:=l.length<=12/\(∀ x∈l,okS 3 x)/\∃ c:Int,c<=16/\Ev (fun k=>SaC.f k l) c
theorem apX {b:List Int} (p:Int):∀ (d:Nat) (o:List ST),o.length=d->d<=12->(∀ x∈o,okS 3 x)->An (fun k=>af8 k o b p) (fun v=>okL v.1/\v.2=p):=by
 intro d
 induction d with
 | zero=>?_
 | succ d ih=>?_
 all_goals
  intro o ho hd h;obtain⟨c,e,c0,c1⟩:=ahH 3 (by omega) o h (by omega);refine aaR ?_;simp only [af8];refine An.bind (an7 (P:=fun u=>u=c) e rfl) fun u hu=>?_
  subst hu;refine aaM (fun g=>?_) (fun g=>aae ⟨⟨by show o.length<=12;omega,h,u,by omega,e⟩,rfl⟩)
 ·rw [ho] at c1;simp at c1
  omega
 have e1:wrap64 ((o.length:Int) - 1)=(d:Int):=by rw [ho,aaJ (by omega) (by omega)];omega
 rw [e1];refine aaD (aaD ?_);rw [Int.toNat_natCast];exact ih (o.take d) (by rw [List.length_take];omega) (by omega) fun x hx=>h x (List.mem_of_mem_take hx)
theorem aiY {b:List Int} (hb:Bt b) {x p:Int} (hx:x<=3) (h:0<=p/\p+9600<=1000000):An (fun k=>alO k b p x) (fun v=>okL v.1/\p<=v.2/\v.2<=p+9600):=by
 have e3:cS 3=1594:=by decide
 simp only [alO];refine An.bind (aao hb 6 (by omega)) fun v h1=>?_
 have e1:wrap64 (1+v.1)=1+v.1:=aaJ (by omega) (by omega);have e2:(1+v.1)*cS 3<=6*cS 3:=Int.mul_le_mul_of_nonneg_right (by omega) (by omega);rw [e1];refine An.bind (ajV (n:=3) (aoX hb 3 (by omega)) hx true (m:=1+v.1) (by omega) v.2 (by omega)) fun c h2=>?_
 exact (apX c.2 c.1.length c.1 rfl (by omega) h2.2.1).mono fun u h3=>⟨h3.1,by omega,by omega⟩
theorem aiZ:∀ (d:Nat) (e:SE),okE d e->∀ a:Int,d<=a->a<=5->Ev (fun k=>ahM k e.f0 e.f1 e.f2 a) true
 | 0,_,h,_,_,_=>h.elim
 | d+1,⟨f0,f1,f2⟩,h,a,ha,ha'=>by
  refine Ev.succ ?_;simp only [ahM,aio,ajm];refine aa5 ?_;rcases h with ⟨q0,q1,q2,q3⟩ | ⟨q0,q1,q2,q3⟩ | ⟨q0,q1,q2,x,y,q3,q4,q5⟩
  ·simp only at q0 q1 q2 q3;subst q0;subst q3;exact aa2 (aaP (aa2 (Ev.pure.eq rfl) (by simp;omega)))
  ·simp only at q0 q1 q2 q3;subst q0;subst q3;exact aa5 (aa2 (aaP (aa2 (Ev.pure.eq rfl) (by simp;omega))))
  simp only at q0 q1 q2 q3;subst q2;subst q3;have ew:wrap64 (a - 1)=a - 1:=aaJ (by omega) (by omega);have i1:=aiZ d x q4 (a - 1) (by omega) (by omega);have i2:=aiZ d y q5 (a - 1) (by omega) (by omega);rw [ew];refine aa5 (aa5 (aaP (aa2 (aa2 (aa2 (aa2 (Ev.bind i1 (aa2 (aa2 (Ev.bind i2 Ev.pure) (by simp)) rfl)) (by simp)) (by simp)) rfl) (by simp;omega))))
theorem afw {d:Nat} {e:SE} (h:okE d e) (hd:d<=5):Ev (fun k=>ajn k e.f0 e.f1 e.f2) true:=by
 simp only [ajn];exact Ev.bind (aiZ d e h 5 (by omega) (by omega)) Ev.pure
theorem ahX {x:ST} (h:ao8 x) (k0:Int):Ev (fun k=>agE k x.f0 x.f1 x.f2 x.f3.f0 x.f3.f1 x.f3.f2 x.f4 x.f5 k0) true:=by
 obtain⟨f0,f1,f2,f3,f4,f5⟩:=x;obtain⟨e4,e5,h⟩:=h;simp only at e4 e5 h;subst e4;subst e5;have h2:f0≠2:=by omega
 have h3:f0≠3:=by omega
 refine Ev.succ ?_;simp only [agE];refine aa5 (Ev.succ ?_);simp only [adX];refine aa2 (Ev.bind ?_ Ev.pure) (by simp [h3]);simp only [ao0];refine aa5 (Ev.succ ?_);simp only [ahi,agD,agF,aio,amX];refine aa5 ?_;rcases h with ⟨rfl,q1,q2,q3,q4⟩ | ⟨rfl,q1,q2,q3,q4⟩ | ⟨rfl,q1,q2,q3,q4,q5⟩ | ⟨rfl,q1,q2,q3⟩ | ⟨rfl,q1,q2,q3⟩
 ·refine aa2 (Ev.bind (a:=true) (aa2 (aaP (Ev.pure.eq (by simp;omega)))) (aa2 (Ev.bind (a:=true) (aa5 (Ev.pure.eq (by simp;omega))) (aa2 (Ev.bind (afw q4 (by omega)) Ev.pure) rfl)) rfl))
 ·refine aa5 (aa2 (Ev.bind (a:=true) (aa5 (Ev.pure.eq (by simp;omega))) (aa2 (Ev.bind (a:=true) (aa2 (aaP (Ev.pure.eq (by simp;omega)))) (aa2 (Ev.bind (afw q4 (by omega)) Ev.pure) rfl)) rfl)))
 ·subst q5;exact aa5 (aa5 (aa2 (Ev.bind (a:=true) (aa2 (aaP (Ev.pure.eq (by simp;omega)))) (aa2 (Ev.bind (a:=true) (aa2 (aaP (Ev.pure.eq (by simp;omega)))) (aa2 (Ev.bind (a:=true) (aa2 (aa2 (Ev.pure.eq rfl) rfl) rfl) Ev.pure) rfl)) rfl))))
 ·subst q3;exact aa5 (aa5 (aa5 (aa2 (Ev.bind (a:=true) (aa5 (Ev.pure.eq (by simp;omega))) (aa2 (Ev.bind (a:=true) (aa5 (Ev.pure.eq (by simp;omega))) (aa2 (Ev.bind (a:=true) (aa2 (aa2 (Ev.pure.eq rfl) rfl) rfl) Ev.pure) rfl)) rfl)))))
 exact aa5 (aa5 (aa5 (aa5 (aa2 (Ev.bind (a:=true) (aa5 (Ev.pure.eq (by simp;omega))) (aa2 (Ev.bind (a:=true) (aa5 (Ev.pure.eq (by simp;omega))) (aa2 (Ev.bind (afw q3 (by omega)) Ev.pure) rfl)) rfl))))))
theorem agX {l:List ST} (hl:l.length<=12) {a:Int} (hx:∀ x∈l,Ev (fun k=>agE k x.f0 x.f1 x.f2 x.f3.f0 x.f3.f1 x.f3.f2 x.f4 x.f5 a) true):∀ (d i:Nat),i+d=l.length->Ev (fun k=>aeK k l a (i:Int)) true
 | 0,i,hi=>by
  refine Ev.succ ?_;simp only [aeK];exact aa5 Ev.pure
 | d+1,i,hi=>by
  refine Ev.succ ?_;simp only [aeK,ap3,aay (show i < 9223372036854775807 by omega)];exact aa2 (aa2 (Ev.bind (hx _ (akN (by omega))) (aa2 (agX hl hx d (i+1) (by omega)) rfl)))
theorem aeW {l:List ST} (hl:l.length<=12) {a:Int} (hx:∀ x∈l,Ev (fun k=>agE k x.f0 x.f1 x.f2 x.f3.f0 x.f3.f1 x.f3.f2 x.f4 x.f5 a) true):Ev (fun k=>SaA.f k l a) true:=by
 refine Ev.succ ?_;simp only [SaA.f];exact agX hl hx l.length 0 (Nat.zero_add _)
theorem apa:∀ (n:Nat),n<=3->∀ x:ST,okS n x->Ev (fun k=>agE k x.f0 x.f1 x.f2 x.f3.f0 x.f3.f1 x.f3.f2 x.f4 x.f5 (n:Int)) true
 | 0,_,x,h=>ahX h _
 | n+1,hn,x,h=>by
  rcases h with h | ⟨q0,q1,q2,q3,l4,l5,h4,h5⟩
  ·exact ahX h _
  have b4:=aeW (l:=x.f4) (by omega) fun y hy=>apa n (by omega) y (h4 y hy)
  have b5:=aeW (l:=x.f5) (by omega) fun y hy=>apa n (by omega) y (h5 y hy)
  have e:wrap64 (((n+1:Nat):Int) - 1)=(n:Int):=by rw [aaJ (by omega) (by omega)];omega
  have j1:Ev (fun k=>afl k ((n+1:Nat):Int) false x.f0 x.f1 x.f2 x.f3.f0 x.f3.f1 x.f3.f2 x.f4 x.f5) true:=by
   refine Ev.succ ?_;simp only [afl,agD,agF,aio,q1,q2,e];exact aa5 (Ev.bind (a:=true) (aa5 (Ev.pure.eq rfl)) (aa2 (Ev.bind (a:=true) (aa5 (Ev.pure.eq rfl)) (aa2 (Ev.bind (afw q3 (by omega)) (aa2 (Ev.bind b4 (aa2 (Ev.bind b5 Ev.pure) rfl)) rfl)) rfl)) rfl))
  refine Ev.succ ?_;simp only [agE];rcases q0 with q0 | ⟨q0,q5⟩
  ·refine aa2 (Ev.succ ?_) q0;simp only [adX];exact aa5 (aa5 (aa5 j1))
  refine aa5 (Ev.succ ?_);simp only [adX];refine aa5 (aa5 (aa2 ?_ q0)) (by simp [q0]);rw [q5] at j1 ⊢;exact j1
theorem ahn {l:List ST} (h:okL l):Ev (fun k=>amt k l) true:=by
 obtain⟨h1,h2,c,h3,h4⟩:=h;simp only [amt];exact Ev.bind (aeW h1 fun x hx=>apa 3 (by omega) x (h2 x hx)) (aa2 (Ev.bind h4 (Ev.pure.eq (by simpa using h3))) rfl)
/-- Valid quads whose targets are t at most. -/
def upQ (t:Int) (c:List SQ):Prop:=∀ q∈c,∀ m:Int,t < m->QV (q_ q) m
theorem r4:rg 4:=by decide
theorem upQ.le {t u:Int} {c:List SQ} (h:upQ t c) (hu:t<=u):upQ u c:=fun q hq m hm=>h q hq m (by omega)
theorem upQ.app {t:Int} {c d:List SQ} (h:upQ t c) (h':upQ t d):upQ t (c ++ d):=fun q hq=>(List.mem_append.1 hq).elim (h q) (h' q)
theorem upQ.one {t:Int} {q:SQ} (h:∀ m:Int,t < m->QV (q_ q) m):upQ t [q]:=fun x hx=>by rw [List.mem_singleton.1 hx];exact h
theorem apU (x y:SE):aaB [x,y] 0=x:=rfl
theorem apT (x y:SE):aaB [x,y] 1=y:=rfl
def cX:Nat->Nat
 | 0=>0
 | d+1=>2*cX d+1
theorem arB {d:Nat} (h:d<=3):cX d<=7:=by
 match d,h with
 | 0,_=>decide
 | 1,_=>decide
 | 2,_=>decide
 | 3,_=>decide
theorem apV {c:List SQ} {i:Nat} (h:i < c.length):qa c i∈c:=by
 unfold qa;rw [show c.getD i z31=c[i] by simp [h]];exact List.getElem_mem _
theorem aeT:∀ (d:Nat),d<=3->∀ (e:SE),okE d e->∀ a:Int,0<=a->a+d<=12->An (fun k=>ae5 k e.f0 e.f1 e.f2 a) (fun c=>1<=c.length/\c.length<=cX d/\upQ (-1) c)
 | 0,_,_,h,_,_,_=>h.elim
 | d+1,hd,⟨f0,f1,f2⟩,h,a,ha,ha'=>by
  have c7:=arB (d:=d) (by omega);refine aaR ?_;simp only [ae5];rcases h with ⟨q0,q1,q2,q3⟩ | ⟨q0,q1,q2,q3⟩ | ⟨q0,q1,q2,x,y,q3,q4,q5⟩
  ·simp only at q0 q1 q2;exact aaD (aae ⟨by simp,by simp [cX],upQ.one fun m hm=>Or.inl ⟨rfl,⟨ha,by simp only [q_];omega⟩,rfl,rfl,by simp only [q_];omega,by simp only [q_];omega⟩⟩)
  ·simp only at q0 q1 q2;exact ab6 (aaD (aae ⟨by simp,by simp [cX],upQ.one fun m hm=>Or.inr (Or.inl ⟨rfl,⟨ha,by simp only [q_];omega⟩,⟨q1,by simp only [q_];omega⟩,rfl,rfl⟩)⟩))
  simp only at q0 q1 q2 q3;subst q3
  have hd0:1<=d:=by
   cases d with
   | zero=>exact q4.elim
   | succ d=>omega
  have ew:wrap64 (a+1)=a+1:=aaJ (by omega) (by omega);simp only [ew,apU,apT];refine ab6 (ab6 (aaD (An.bind (aeT d (by omega) x q4 a ha (by omega)) fun c h1=>aaD (An.bind (aeT d (by omega) y q5 (a+1) (by omega) (by omega)) fun c' h2=>aaD (abd (aaD (aae ?_) ?_))) (by simp)) (by simp)))
  ·refine⟨by simp;omega,by simp [cX];omega,upQ.app (upQ.app h1.2.2 h2.2.2) (upQ.one fun m hm=>Or.inr (Or.inr (Or.inl ⟨rfl,⟨ha,by simp only [q_];omega⟩,⟨ha,by simp only [q_];omega⟩,⟨by simp only [q_];omega,by simp only [q_];omega⟩,q0,q1⟩)))⟩
  simp only [List.length_append];omega
theorem ae2 {e:SE} (h:okE 3 e):An (fun k=>ae5 k e.f0 e.f1 e.f2 4) (fun c=>1<=c.length/\c.length<=7/\upQ (-1) c):=aeT 3 (by omega) e h 4 (by omega) (by omega)
theorem aie:An (fun k=>ae5 k 0 0 [] 4) (fun c=>1<=c.length/\c.length<=7/\upQ (-1) c):=ae2 (e:=⟨0,0,[]⟩) (Or.inl ⟨rfl,by simp,by simp,rfl⟩)
def cZ:Nat->Nat
 | 0=>8
 | n+1=>9+10*cZ n
theorem arA {n:Nat} (h:n<=3):cZ n<=8999/\8<=cZ n:=by
 match n,h with
 | 0,_=>decide
 | 1,_=>decide
 | 2,_=>decide
 | 3,_=>decide
/-- The code of a statement that begins at a. -/
def ak4 (Z:Nat) (A:Int) (x:ST):Prop:=∀ a:Int,0<=a->a<=A->An (fun k=>ajr k x.f0 x.f1 x.f2 x.f3.f0 x.f3.f1 x.f3.f2 x.f4 x.f5 a) (fun c=>c.length<=Z/\upQ (a+c.length) c)
theorem ajL {l:List ST} (hl:l.length<=12) {Z:Nat} (hZ:Z<=9000) {A:Int} (hA:A<=1000000) (hx:∀ x∈l,ak4 Z A x) {a:Int} (ha:0<=a) (ha':a+108000<=A):∀ (d i:Nat),i+d=l.length->∀ o:List SQ,o.length<=i*Z->upQ (a+o.length) o->An (fun k=>aeH k l a o (i:Int)) (fun c=>c.length<=l.length*Z/\upQ (a+c.length) c)
 | 0,i,hi,o,ho,hu=>by
  refine aaR ?_;simp only [aeH];exact ab6 (aae ⟨by rw [show l.length=i by omega];exact ho,hu⟩)
 | d+1,i,hi,o,ho,hu=>by
  have m1:i*Z<=12*9000:=Nat.mul_le_mul (by omega) hZ;refine aaR ?_;simp only [aeH,ap3,aay (show i < 9223372036854775807 by omega)];have ew:wrap64 (a+(o.length:Int))=a+o.length:=aaJ (by omega) (by omega);rw [ew];refine aaD (aaD (An.bind (hx _ (akN (by omega)) (a+o.length) (by omega) (by omega)) fun c h1=>aaD (ajL hl hZ hA hx ha ha' d (i+1) (by omega) (o ++ c) ?_ ?_)))
  ·rw [List.length_append,Nat.add_mul,Nat.one_mul];omega
  rw [List.length_append];exact upQ.app (hu.le (by omega)) (h1.2.le (by omega))
theorem aiX {l:List ST} (hl:l.length<=12) {Z:Nat} (hZ:Z<=9000) {A:Int} (hA:A<=1000000) (hx:∀ x∈l,ak4 Z A x) {a:Int} (ha:0<=a) (ha':a+108000<=A):An (fun k=>SaL.f k l a) (fun c=>c.length<=l.length*Z/\upQ (a+c.length) c):=by
 refine aaR ?_;simp only [SaL.f];exact ajL hl hZ hA hx ha ha' l.length 0 (Nat.zero_add _) [] (by simp) (fun q hq=>by cases hq)
theorem ajU {x:ST} (h:ao8 x) (A:Int):ak4 8 A x:=by
 intro a ha ha';obtain⟨f0,f1,f2,f3,f4,f5⟩:=x;obtain⟨_,_,h⟩:=h;simp only at h ⊢;refine aaR ?_;simp only [ajr];rcases h with ⟨rfl,q1,q2,q3,q4⟩ | ⟨rfl,q1,q2,q3,q4⟩ | ⟨rfl,q1,q2,q3,q4,rfl⟩ | ⟨rfl,q1,q2,rfl⟩ | ⟨rfl,q1,q2,q3⟩
 ·refine An.bind (ae2 q4) fun c h1=>ab6 (ab6 (aaD (aaD (aae ⟨by simp;omega,upQ.app (h1.2.2.le (by omega)) (upQ.one fun m hm=>Or.inr (Or.inl ⟨rfl,⟨q1,by simp only [q_];omega⟩,r4,rfl,rfl⟩))⟩))))
 ·refine An.bind (ae2 q4) fun c h1=>ab6 (ab6 (ab6 (aaD (aaD (aae ⟨by simp;omega,upQ.app (h1.2.2.le (by omega)) (upQ.one fun m hm=>Or.inr (Or.inr (Or.inr (Or.inr (Or.inr (Or.inl ⟨rfl,rfl,r4,rfl,q2,q3⟩))))))⟩)))))
 ·refine An.bind aie fun c h1=>ab6 (ab6 (ab6 (ab6 (ab6 (aaD (aae ⟨by simp,upQ.one fun m hm=>Or.inr (Or.inr (Or.inr (Or.inr (Or.inr (Or.inr (Or.inl ⟨rfl,⟨q1,by simp only [q_];omega⟩,rfl,rfl,q3,q4⟩))))))⟩))))))
 ·refine An.bind aie fun c h1=>ab6 (ab6 (ab6 (ab6 (ab6 (ab6 (aae ⟨by simp,upQ.one fun m hm=>Or.inr (Or.inr (Or.inr (Or.inr (Or.inr (Or.inr (Or.inr (Or.inr ⟨Or.inl rfl,rfl,rfl,rfl,rfl⟩)))))))⟩))))))
 refine An.bind (ae2 q3) fun c h1=>ab6 (ab6 (ab6 (ab6 (aaD (aaD (aae ⟨by simp;omega,upQ.app (h1.2.2.le (by omega)) (upQ.one fun m hm=>Or.inr (Or.inr (Or.inr (Or.inr (Or.inr (Or.inr (Or.inr (Or.inl ⟨rfl,rfl,r4,rfl,rfl⟩))))))))⟩))))))
theorem akU {n m:Int} (h:0<=n) (h':n < m):QV (q_ ⟨4,0,0,0,n⟩) m:=Or.inr (Or.inr (Or.inr (Or.inl ⟨rfl,rfl,rfl,rfl,h,h'⟩)))
theorem aiR {n m:Int} (h:0<=n) (h':n < m):QV (q_ ⟨5,0,4,0,n⟩) m:=Or.inr (Or.inr (Or.inr (Or.inr (Or.inl ⟨rfl,rfl,r4,rfl,h,h'⟩))))
theorem aje:∀ n,n<=3->∀ x:ST,okS n x->ak4 (cZ n) (1000000 - 200000*n) x
 | 0,_,x,h=>ajU h _
 | n+1,hn,x,h=>by
  obtain⟨z1,z0⟩:=arA (n:=n) (by omega);rcases h with h | ⟨q0,q1,q2,q3,l4,l5,h4,h5⟩
  ·intro a ha ha';exact (ajU h _ a ha ha').mono fun c hc=>⟨by simp only [cZ];omega,hc.2⟩
  intro a ha ha';have m4:x.f4.length*cZ n<=5*cZ n:=Nat.mul_le_mul_right _ l4;have m5:x.f5.length*cZ n<=5*cZ n:=Nat.mul_le_mul_right _ l5;have c4:∀ u:Int,0<=u->u<=a+10->An (fun k=>SaL.f k x.f4 u) (fun c=>c.length<=x.f4.length*cZ n/\upQ (u+c.length) c):=fun u hu hu'=>aiX (by omega) (by omega) (A:=1000000 - 200000*n) (by omega) (fun y hy=>aje n (by omega) y (h4 y hy)) hu (by omega)
  have c5:∀ u:Int,0<=u->u<=a+50000->An (fun k=>SaL.f k x.f5 u) (fun c=>c.length<=x.f5.length*cZ n/\upQ (u+c.length) c):=fun u hu hu'=>aiX (by omega) (by omega) (A:=1000000 - 200000*n) (by omega) (fun y hy=>aje n (by omega) y (h5 y hy)) hu (by omega)
  refine aaR ?_;simp only [ajr];refine An.bind (ae2 q3) fun _ _=>?_
  rcases q0 with q0 | ⟨q0,q5⟩
  ·refine aaD (An.bind (aaR ?_) fun c hc=>aae hc) q0;simp only [aku];refine An.bind (ae2 q3) fun e h1=>?_
   have w1:wrap64 (wrap64 (a+(e.length:Int))+1)=a+e.length+1:=by unfold wrap64;omega
   simp only [w1];refine An.bind (c4 _ (by omega) (by omega)) fun b h2=>?_
   have w2:wrap64 (a+(e.length:Int)+1+(b.length:Int))=a+e.length+1+b.length:=by unfold wrap64;omega
   have w3:wrap64 (a+(e.length:Int)+1+(b.length:Int)+1)=a+e.length+1+b.length+1:=by unfold wrap64;omega
   simp only [w2,w3];refine aaM (fun z=>?_) (fun z=>?_)
   ·refine aaD (abd (aaD (aae ⟨?_,?_⟩) ?_))
    ·simp only [List.length_append,List.length_cons,List.length_nil,cZ];omega
    ·simp only [List.length_append,List.length_cons,List.length_nil];exact upQ.app (upQ.app (h1.2.2.le (by omega)) (upQ.one fun m hm=>aiR (by omega) (by omega))) (h2.2.le (by omega))
    simp only [List.length_append,List.length_cons,List.length_nil];omega
   refine An.bind (c5 _ (by omega) (by omega)) fun d h3=>?_
   have w4:wrap64 (a+(e.length:Int)+1+(b.length:Int)+1+(d.length:Int))=a+e.length+1+b.length+1+d.length:=by unfold wrap64;omega
   simp only [w4];refine aaD (abd (aaD (abd (aaD (abd (aaD (aae ⟨?_,?_⟩) ?_)) ?_)) ?_))
   ·simp only [List.length_append,List.length_cons,List.length_nil,cZ];omega
   ·simp only [List.length_append,List.length_cons,List.length_nil];exact upQ.app (upQ.app (upQ.app (upQ.app (h1.2.2.le (by omega)) (upQ.one fun m hm=>aiR (by omega) (by omega))) (h2.2.le (by omega))) (upQ.one fun m hm=>akU (by omega) (by omega))) (h3.2.le (by omega))
   all_goals
    simp only [List.length_append,List.length_cons,List.length_nil];omega
  refine ab6 (aaD (An.bind (aaR ?_) fun c hc=>aae hc) q0);simp only [akt];refine An.bind (ae2 q3) fun e h1=>?_
  have w1:wrap64 (wrap64 (a+(e.length:Int))+1)=a+e.length+1:=by unfold wrap64;omega
  simp only [w1];refine An.bind (c4 _ (by omega) (by omega)) fun b h2=>?_
  have w2:wrap64 (wrap64 (a+(e.length:Int)+1+(b.length:Int))+1)=a+e.length+1+b.length+1:=by unfold wrap64;omega
  simp only [w2];refine aaD (abd (aaD (abd (aaD (aae ⟨?_,?_⟩) ?_)) ?_))
  ·simp only [List.length_append,List.length_cons,List.length_nil,cZ];omega
  ·simp only [List.length_append,List.length_cons,List.length_nil];exact upQ.app (upQ.app (upQ.app (h1.2.2.le (by omega)) (upQ.one fun m hm=>aiR (by omega) (by omega))) (h2.2.le (by omega))) (upQ.one fun m hm=>akU (by omega) (by omega))
  all_goals
   simp only [List.length_append,List.length_cons,List.length_nil];omega
theorem agB {l:List ST} (h:okL l):An (fun k=>amC k l) (fun v=>v.1.length<=600->CV (qs v.1)):=by
 have m1:l.length*cZ 3<=12*9000:=Nat.mul_le_mul h.1 (by decide);simp only [amC];refine An.bind (an7 (P:=fun u=>u=true) (ahn h) rfl) fun u hu=>aaD (An.bind (aiX (Z:=cZ 3) (A:=1000000 - 200000*(3:Nat)) (by have:=h.1;omega) (by decide) (by decide) (fun y hy=>aje 3 (by omega) y (h.2.1 y hy)) (a:=0) (by omega) (by decide)) fun c h1=>aaD (aae ?_)) hu
 intro h6;refine⟨by simp [qs],by simpa [qs] using h6,?_,?_⟩
 ·rw [ab5];intro i hi;rw [acC];have hm:qa (c ++ [(⟨10,0,0,0,0⟩:SQ)]) i∈c ++ [(⟨10,0,0,0,0⟩:SQ)]:=apV hi;rcases List.mem_append.1 hm with q|q
  ·exact h1.2 _ q _ (by simp;omega)
  rw [List.mem_singleton.1 q];exact Or.inr (Or.inr (Or.inr (Or.inr (Or.inr (Or.inr (Or.inr (Or.inr ⟨Or.inr rfl,rfl,rfl,rfl,rfl⟩)))))))
 refine Or.inl ?_;rw [ab5,acC];simp [qa,q_]
end Go.Proofs.YtdkkdiiceaomaaaGreat.M
namespace Go.Proofs.YtdkkdiiceaomaaaGreat.M
open Go.Proofs.Tryz Go.RowKit Go.Proofs.YtdkkdiiceaomaaaGreatW.PrintWords Go.Proofs.YtdkkdiiceaomaaaGreatW.PrintLast Go.Proofs.YtdkkdiiceaomaaaGreatW.PrintMore
attribute [local go_sem] aas aaq aaH aaG aaj aai aar aap
end Go.Proofs.YtdkkdiiceaomaaaGreat.M
namespace Go.Proofs.YtdkkdiiceaomaaaGreat.M
open Go.Proofs.Tryz Go.RowKit Go.Proofs.YtdkkdiiceaomaaaGreatW.PrintWords Go.Proofs.YtdkkdiiceaomaaaGreatW.PrintLast Go.Proofs.YtdkkdiiceaomaaaGreatW.PrintMore PM
theorem aka {a b:Nat} (h:∀ r,a.testBit r=true->b.testBit r=true):a<=b:=by
 have e:a ||| b=b:=by
  apply Nat.eq_of_testBit_eq
  intro r;rw [Nat.testBit_or];cases h1:a.testBit r
  ·rfl
  rw [h r h1];rfl
 rw [<- e];exact Nat.left_le_or
theorem sum_set:∀ (L:List Nat) (i x:Nat),i < L.length->(L.set i x).sum+L.getD i 0=L.sum+x
 | a :: L,0,x,h=>by simp;omega
 | a :: L,i+1,x,h=>by
  have:=sum_set L i x (by simpa using h)
  simp only [List.set_cons_succ,List.sum_cons,List.getD_cons_succ];omega
theorem ao6:∀ (L:List Nat),(∀ x∈L,x < 4096)->L.sum<=4096*L.length
 | [],h=>by simp
 | a :: L,h=>by
  have:=ao6 L (fun x hx=>h x (List.mem_cons_of_mem _ hx))
  have:=h a List.mem_cons_self
  simp only [List.sum_cons,List.length_cons];omega
theorem aoV {n:Nat} {L:List Nat} (h:Tab n L):L.sum<=4096*n:=by
 rw [<- h.1];refine ao6 L fun x hx=>?_
 obtain⟨i,hi,e⟩:=List.getElem_of_mem hx
 have:=h.2 i
 rw [List.getD_eq_getElem?_getD,List.getElem?_eq_getElem hi] at this;rw [<- e];exact this
theorem aij {c:List SQ} (h:CV (qs c)) {L:List Nat} (hL:Tab c.length L) {i:Nat} (hi:i < c.length) (r:Nat):(bf c L i).testBit r=true↔((∃ j∈nx (q_ (qa c i)) i,(L.getD j 0).testBit r=true)/\sets (q_ (qa c i))≠r)\/uses (q_ (qa c i)) r:=by
 unfold bf;rw [apr (abT h hi) (ajX hL _ _)];unfold aft;rw [ai9]
 simp
/-- Below the next round,and within what is live. -/
structure Good (c:List SQ) (L:List Nat):Prop where
 tab:Tab c.length L
 up:∀ i,i < c.length->∀ r,(L.getD i 0).testBit r=true->(bf c L i).testBit r=true
 sound:∀ i,i < c.length->∀ r,(L.getD i 0).testBit r=true->Live (qs c) i r
theorem Good.step {c:List SQ} (h:CV (qs c)) {L:List Nat} (g:Good c L) {i:Nat} (hi:i < c.length):Good c (L.set i (bf c L i)):=by
 have hT:=g.tab.set i (bf c L i) (anE h g.tab hi);have hget:∀ j,(L.set i (bf c L i)).getD j 0=if j=i then bf c L i else L.getD j 0:=fun j=>adb L i j _ 0 (by rw [g.tab.1];exact hi)
 have hmono:∀ j r,j < c.length->(L.getD j 0).testBit r=true->((L.set i (bf c L i)).getD j 0).testBit r=true:=by
  intro j r hj hb;rw [hget];split
  ·rename_i e
   subst e;exact g.up j hi r hb
  exact hb
 have hbf:∀ j r,j < c.length->(bf c L j).testBit r=true->(bf c (L.set i (bf c L i)) j).testBit r=true:=by
  intro j r hj hb;rw [aij h g.tab hj] at hb;rw [aij h hT hj];rcases hb with ⟨⟨t,ht,hb⟩,hs⟩|hb
  ·exact .inl ⟨⟨t,ht,hmono t r (al4 h hj t ht) hb⟩,hs⟩
  exact .inr hb
 refine⟨hT,fun j hj r hb=>?_,fun j hj r hb=>?_⟩
 ·rw [hget] at hb;split at hb
  ·rename_i e
   subst e;exact hbf j r hj hb
  exact hbf j r hj (g.up j hj r hb)
 rw [hget] at hb;split at hb
 ·rename_i e
  subst e;rw [aij h g.tab hj] at hb;rcases hb with ⟨⟨t,ht,hb⟩,hs⟩|hb
  ·exact Live.flow (by rw [ab5];exact hj) (by rw [acC];exact hs) (by rw [acC];exact ht) (g.sound t (al4 h hj t ht) r hb)
  exact Live.use (by rw [ab5];exact hj) (by rw [acC];exact hb)
 exact g.sound j hj r hb
theorem ajA {c:List SQ} (h:CV (qs c)):∀ (i:Nat),i<=c.length->∀ (L:List Nat) (b:Bool),Good c L->Good c (rnd c i L b).1
 | 0,hi,L,b,g=>g
 | i+1,hi,L,b,g=>ajA h i (by omega) _ _ (g.step h (by omega))
theorem ahZ {c:List SQ}:∀ (i:Nat),i<=c.length->∀ (L:List Nat) (b:Bool),L.length=c.length->(rnd c i L b).2=false->b=false/\(rnd c i L b).1=L/\∀ j,j < i->bf c L j=L.getD j 0
 | 0,hi,L,b,hl,e=>⟨e,rfl,fun j hj=>by omega⟩
 | i+1,hi,L,b,hl,e=>by
  obtain⟨e1,e2,e3⟩:=ahZ i (by omega) (L.set i (bf c L i)) _ (by rw [List.length_set];exact hl) e;have f:=Bool.or_eq_false_iff.1 e1;have f2:bf c L i=L.getD i 0:=by simpa using f.2
  have f3:L.set i (bf c L i)=L:=by rw [f2];exact afy (by omega)
  rw [f3] at e3;refine⟨f.1,e2.trans f3,fun j hj=>?_⟩;by_cases hji:j=i
  ·rw [hji];exact f2
  exact e3 j (by omega)
theorem akR {c:List SQ} (h:CV (qs c)):∀ (i:Nat),i<=c.length->∀ (L:List Nat) (b:Bool),Good c L->L.sum<=(rnd c i L b).1.sum/\((rnd c i L b).2=true->b=true\/L.sum < (rnd c i L b).1.sum)
 | 0,hi,L,b,g=>⟨Nat.le_refl _,fun e=>.inl e⟩
 | i+1,hi,L,b,g=>by
  obtain⟨h1,h2⟩:=akR h i (by omega) (L.set i (bf c L i)) (b || !decide (bf c L i=L.getD i 0)) (g.step h (i:=i) (by omega));have hs:=sum_set L i (bf c L i) (by rw [g.tab.1];omega);have hle:=aka (g.up i (by omega));simp only [rnd];refine⟨by omega,fun e=>?_⟩;rcases h2 e with e2|e2
  ·rcases Bool.or_eq_true_iff.1 e2 with e3|e3
   ·exact .inl e3
   have:bf c L i≠L.getD i 0:=by simpa using e3
   exact .inr (by omega)
  exact .inr (by omega)
/-- The table of what is live before each quad. -/
structure LT (c:List SQ) (L:List Nat):Prop where
 tab:Tab c.length L
 iff:∀ i,i < c.length->∀ r,(L.getD i 0).testBit r=true↔Live (qs c) i r
theorem ai6 {c:List SQ} (h:CV (qs c)):∀ (m:Nat) (L:List Nat),Good c L->4096*c.length < m+L.sum->∃ T,LT c T/\Ev (fun k=>aez k c (rows L)) (rows T)/\Ev (fun k=>afm k c (ints L) true) (ints T)
 | 0,L,g,hm=>by
  have:=aoV g.tab
  omega
 | m+1,L,g,hm=>by
  have h6:=abf h;have hw:wrap64 ((c.length:Int) - 1)=(c.length:Int) - 1:=aaJ (by omega) (by omega);have hr:=SaX.out h c.length (Nat.le_refl _) L false g.tab;have hi:∀ v,Ev (fun k=>afm k c (ints (rnd c c.length L false).1) (rnd c c.length L false).2) v->Ev (fun k=>adF k c (ints L) false ((c.length:Int) - 1)) v:=fun v=>Sa6.out h c.length (Nat.le_refl _) L false g.tab
  cases e:(rnd c c.length L false).2 with
  | false =>
   obtain⟨_,e2,e3⟩:=ahZ c.length (Nat.le_refl _) L false g.tab.1 e;refine⟨L,⟨g.tab,fun i hi r=>?_⟩,?_,?_⟩
   ·refine live_of_closed (c:=qs c) (T:=fun i r=>i < c.length->(L.getD i 0).testBit r=true) (fun i r hi' ht=>g.sound i (by rwa [ab5] at hi') r (ht (by rwa [ab5] at hi'))) ?_ ?_ i r (by rw [ab5];exact hi) |>.symm.trans ⟨fun x=>x hi,fun x _=>x⟩ |>.symm
    ·intro i r _ hu hi;rw [<- e3 i hi,aij h g.tab hi];rw [acC] at hu;exact .inr hu
    intro i j r _ hs hj ht hi;rw [<- e3 i hi,aij h g.tab hi];rw [acC] at hs hj;exact .inl ⟨⟨j,hj,ht (al4 h hi j hj)⟩,hs⟩
   ·refine Ev.succ ?_;simp only [aez,SaX.f,hw];refine Ev.bind hr ?_;refine aa5 (Ev.eq Ev.pure ?_) ?_
    ·rw [e2]
    simp [e]
   refine Ev.succ ?_;simp only [afm,hw];refine aa2 (hi _ ?_);rw [e,e2];refine Ev.succ ?_;simp only [afm];exact aa5 Ev.pure
  | true =>
   have hs:=(akR h c.length (Nat.le_refl _) L false g).2 e
   have hs':L.sum < (rnd c c.length L false).1.sum:=by
    rcases hs with x|x
    ·cases x
    exact x
   obtain⟨T,t1,t2,t3⟩:=ai6 h m (rnd c c.length L false).1 (ajA h c.length (Nat.le_refl _) L false g) (by omega);refine⟨T,t1,?_,?_⟩
   ·refine Ev.succ ?_;simp only [aez,SaX.f,hw];refine Ev.bind hr (aa2 t2 ?_);exact e
   refine Ev.succ ?_;simp only [afm,hw];refine aa2 (hi _ ?_);rw [e];exact t3
theorem alj {c:List SQ}:Good c (List.replicate c.length 0):=by
 have z:∀ i,(List.replicate c.length 0).getD i 0=0:=by
  intro i;rw [List.getD_eq_getElem?_getD,List.getElem?_replicate];split <;> rfl
 refine⟨⟨by simp,fun i=>by rw [z];decide⟩,fun i hi r hb=>?_,fun i hi r hb=>?_⟩ <;>
 ·rw [z] at hb;simp at hb
theorem aiz {c:List SQ} (h6:c.length<=600) {v:List (List Bool)} (g:Ev (fun k=>aez k c (rows (List.replicate c.length 0))) v):∀ (d p:Nat),p+d=c.length->Ev (fun k=>afg k c (rows (List.replicate p 0)) (p:Int)) v
 | 0,p,hp=>by
  refine Ev.succ ?_;simp only [afg];refine aa5 ?_;rw [show p=c.length from by omega];exact g
 | d+1,p,hp=>by
  refine Ev.succ ?_;simp only [afg,ahr,List.length_replicate,aay (show p < 9223372036854775807 by omega)];refine aa2 (aa2 (aa2 ?_))
  have:=aiz h6 g d (p+1) (by omega)
  rw [List.replicate_succ',show rows (List.replicate p 0 ++ [0])=rows (List.replicate p 0) ++ [List.replicate 12 false] from by simp [rows,row_zero]] at this;exact this
/-- Both answer one table: what is live. -/
theorem apd {c:List SQ} (h:CV (qs c)):∃ T,LT c T/\Ev (fun k=>Saq.f k c) (rows T)/\Ev (fun k=>Sa6.f k c) (ints T):=by
 have h6:=abf h;obtain⟨T,t1,t2,t3⟩:=ai6 h (4096*c.length+1) (List.replicate c.length 0) alj (by omega);refine⟨T,t1,?_,?_⟩
 ·simp only [Saq.f];refine aaP (Ev.bind (acZ c) (aa2 ?_ (decide_eq_true h)));exact aiz h6.2 t2 c.length 0 (by omega)
 simp only [Sa6.f,Int.toNat_natCast];refine aa2 (aa2 ?_);rw [show List.replicate c.length (0:Int)=ints (List.replicate c.length 0) from by simp [ints]];exact t3
/-- A quad is dead. -/
def dd (c:List SQ) (L:List Nat) (i:Nat):Bool:=((qa c i).f0 == 1 || (qa c i).f0 == 2 || (qa c i).f0 == 3) && !(aft (q_ (qa c i)) i L).testBit (qa c i).f1.toNat
def ajb (c:List SQ) (L:List Nat) (i:Nat):SQ:=if dd c L i=true then ⟨4,0,0,0,((i+1:Nat):Int)⟩ else qa c i
def ag2 (L:List Nat) (c:List SQ):List SQ:=(List.range c.length).map (ajb c L)
theorem ac3 (L:List Nat) (c:List SQ):(ag2 L c).length=c.length:=by simp [ag2]
theorem ag1 (L:List Nat) {c:List SQ} {i:Nat} (h:i < c.length):qa (ag2 L c) i=ajb c L i:=by simp [ag2,qa,List.getD_eq_getElem?_getD,h]
theorem ang {s:Nat} {r:Int} (h0:0<=r) (h1:r < 12):acj false (row s) r=s.testBit r.toNat:=by
 have:=abZ false (row s) r.toNat
 rw [Int.toNat_of_nonneg h0] at this;rw [this];exact ae0 _ _ (by omega)
theorem arE {c:List SQ} (h:CV (qs c)) {i:Nat} (hi:i < c.length) (L:List Nat):am3 (qa c i).f0 (qa c i).f1 (qa c i).f2 (qa c i).f3 (qa c i).f4 (row (aft (q_ (qa c i)) i L))=some (dd c L i):=by
 obtain⟨⟨d0,d1⟩,_⟩:=abL (abT h hi);simp only [q_] at d0 d1;unfold am3 dd;rw [ang d0 d1,abK];by_cases c1:(qa c i).f0=1
 ·rw [if_pos c1,if_pos d0,if_pos (show (qa c i).f1 < ((12:Nat):Int) by omega)];simp [c1]
 rw [if_neg c1];by_cases c2:(qa c i).f0=2
 ·rw [if_pos c2,if_pos d0,if_pos (show (qa c i).f1 < ((12:Nat):Int) by omega)];simp [c2]
 rw [if_neg c2];by_cases c3:(qa c i).f0=3
 ·rw [if_pos c3,if_pos d0,if_pos (show (qa c i).f1 < ((12:Nat):Int) by omega)];simp [c3]
 rw [if_neg c3];simp [c1,c2,c3]
theorem Sak.out {c:List SQ} (h:CV (qs c)) {L:List Nat} (hL:Tab c.length L):∀ (d p:Nat),p+d=c.length->Ev (fun k=>aeA k c ((ag2 L c).take p) (rows L) (p:Int)) (ag2 L c,true)
 | 0,p,hp=>by
  refine Ev.succ ?_;simp only [aeA];refine aa5 (Ev.eq Ev.pure ?_);rw [List.take_of_length_le (by rw [ac3];omega)]
 | d+1,p,hp=>by
  have h6:=abf h;have hi:p < c.length:=by omega
  refine Ev.succ ?_;have lt:((ag2 L c).take p).length < 3518437208883:=by rw [List.length_take,ac3];omega
  have ih:=Sak.out h hL d (p+1) (by omega)
  have e:(ag2 L c).take p ++ [ajb c L p]=(ag2 L c).take (p+1):=by
   rw [<- ag1 L hi];exact ac1 _ (by rw [ac3];exact hi)
  rw [<- e] at ih;simp only [aeA,ac5,aay (show p < 9223372036854775807 by omega)];refine aa2 (aa2 (Ev.bind (aoH h hL hi) ?_));rw [arE h hi];refine aaP ?_;by_cases g:dd c L p=true
  ·rw [ajb,if_pos g] at ih;exact aa2 (aa2 ih lt)
  rw [ajb,if_neg g] at ih;exact aa5 (aa2 ih lt)
theorem ajc {c:List SQ} (h:CV (qs c)) (L:List Nat):CV (qs (ag2 L c)):=by
 have h6:=abf h;refine alz (by rw [ac3];exact h6.1) (by rw [ac3];exact h6.2) (fun i hi=>?_) ?_
 ·rw [ac3] at hi ⊢;rw [ag1 L hi,ajb];split
  ·rename_i g
   have lt:i+1 < c.length:=by
    have hl:=ae3 h
    have:i≠c.length - 1:=by
     intro e;rw [<- e] at hl;unfold dd at g;rcases hl with hl|hl <;> simp [hl] at g
    omega
   exact .inr (.inr (.inr (.inl ⟨rfl,rfl,rfl,rfl,by show (0:Int)<=((i+1:Nat):Int);omega,by show ((i+1:Nat):Int) < (c.length:Int);omega⟩)))
  exact abT h hi
 rw [ac3,ag1 L (by omega),ajb];split
 ·exact .inr rfl
 exact ae3 h
theorem aly {c:List SQ} (h:CV (qs c)):∃ v,v.length=c.length/\CV (qs v)/\Ev (fun k=>Sak.f k c) (v,true):=by
 obtain⟨L,hL,e1,_⟩:=apd h;refine⟨ag2 L c,ac3 L c,ajc h L,?_⟩;simp only [Sak.f];exact aaP (Ev.bind (acZ c) (aa2 (Ev.bind e1 (Sak.out h hL.1 c.length 0 (Nat.zero_add _))) (decide_eq_true h)))
/-- One pass of the five answers v for c. -/
def Step:Nat->List SQ->List SQ->Prop
 | 0,c,v=>Ev (fun k=>Sao.f k c) (v,true)
 | 1,c,v=>Ev (fun k=>Saj.f k c) (v,true)
 | 2,c,v=>Ev (fun k=>Sap.f k c) (v,true)
 | 3,c,v=>Ev (fun k=>Sak.f k c) (v,true)
 | _,c,v=>Ev (fun k=>Saw.f k c) (v,true)
theorem step0 {c:List SQ} (h:CV (qs c)):∃ v,CV (qs v)/\Step 0 c v:=by
 obtain⟨U,hU,e⟩:=aqN h;exact⟨_,aj6 h hU.1.1,e⟩
theorem step1 {c:List SQ} (h:CV (qs c)):∃ v,CV (qs v)/\Step 1 c v:=by
 obtain⟨U,hU,e⟩:=amA h;exact⟨_,ag4 h hU.1.1,e⟩
theorem step2 {c:List SQ} (h:CV (qs c)):∃ v,CV (qs v)/\Step 2 c v:=⟨_,aj1 h,aqM h⟩
theorem ark {c:List SQ} (h:CV (qs c)):∃ v,CV (qs v)/\Step 3 c v:=by
 obtain⟨v,_,hv,e⟩:=aly h;exact⟨v,hv,e⟩
theorem arj {c:List SQ} (h:CV (qs c)):∃ v,CV (qs v)/\Step 4 c v:=by
 obtain⟨U,hU,e⟩:=aoA h;exact⟨_,akO h hU,e⟩
/-- The first j passes lead from c to y. -/
def arN:Nat->List SQ->List SQ->Prop
 | 0,c,y=>y=c
 | j+1,c,y=>∃ x,arN j c x/\Step j x y
theorem ala {c y:List SQ} (h:arN 5 c y):Ev (fun k=>ajh k c) y:=by
 obtain⟨x4,⟨x3,⟨x2,⟨x1,⟨x0,rfl,s0⟩,s1⟩,s2⟩,s3⟩,s4⟩:=h;simp only [ajh];exact Ev.bind s0 (Ev.bind s1 (Ev.bind s2 (Ev.bind s3 (Ev.bind s4 Ev.pure))))
theorem aqk {c:List SQ} (h:CV (qs c)):∃ v,CV (qs v)/\Ev (fun k=>ajh k c) v:=by
 obtain⟨x1,h1,s1⟩:=step0 h;obtain⟨x2,h2,s2⟩:=step1 h1;obtain⟨x3,h3,s3⟩:=step2 h2;obtain⟨x4,h4,s4⟩:=ark h3;obtain⟨x5,h5,s5⟩:=arj h4;exact⟨x5,h5,ala ⟨_,⟨_,⟨_,⟨_,⟨_,rfl,s1⟩,s2⟩,s3⟩,s4⟩,s5⟩⟩
theorem anS (t:Int) (x:List SQ):Ev (fun k=>adj k t x t) (x,true):=by
 refine Ev.succ ?_;simp only [adj];exact aa5 Ev.pure
theorem anR {t:Int} (ht:t<=4) {r:Nat} (hr:(r:Int) < t) {x y:List SQ} (h:Ev (fun k=>ajh k x) y) {z:List SQ × Bool} (hz:Ev (fun k=>adj k t y ((r+1:Nat):Int)) z):Ev (fun k=>adj k t x (r:Int)) z:=by
 refine Ev.succ ?_;simp only [adj,aay (show r < 9223372036854775807 by omega)];exact aa2 (Ev.bind h hz)
theorem Sas.out {t:Nat} (ht:t<=4):∀ (d r:Nat),r+d=t->∀ {x:List SQ},CV (qs x)->∃ v,CV (qs v)/\Ev (fun k=>adj k (t:Int) x (r:Int)) (v,true)
 | 0,r,hr,x,h=>⟨x,h,by rw [show r=t from by omega];exact anS _ _⟩
 | d+1,r,hr,x,h=>by
  obtain⟨y,hy,e⟩:=aqk h;obtain⟨v,hv,e2⟩:=Sas.out ht d (r+1) (by omega) hy;exact⟨v,hv,anR (by omega) (by omega) e e2⟩
/-- A code and how often: what is asked of both. -/
def okT (c:List SQ) (t:Int):Prop:=CV (qs c)/\0<=t/\t<=4
theorem amx {c:List SQ} {t:Int} (h:okT c t) {z:List SQ × Bool} (hz:Ev (fun k=>adj k t c 0) z):Ev (fun k=>Sas.f k c t) z:=by
 have h6:=abf h.1;simp only [Sas.f,aio];refine Ev.bind (acZ c) (aa2 (aaP ?_) (decide_eq_true h.1));rw [decide_eq_true h.2];refine Ev.succ ?_;simp only [ah8];refine aa5 (aaP (aa2 hz ?_)) (by simp);simp only [List.length_nil];omega
theorem aqL {c:List SQ} {t:Int} (h:okT c t):∃ v,CV (qs v)/\Ev (fun k=>Sas.f k c t) (v,true):=by
 obtain⟨v,hv,e⟩:=Sas.out (t:=t.toNat) (by have:=h.2;omega) t.toNat 0 (Nat.zero_add _) h.1;rw [Int.toNat_of_nonneg h.2.1] at e;exact⟨v,hv,amx h e⟩
theorem akb {b:List Int} (hb:Bt b) {p n:Int} (hn:1<=n) (h:0<=p/\p+8<=1000000):An (fun k=>am6 k b p n) (fun v=>p<=v.2.2.2.2.2/\v.2.2.2.2.2<=p+8):=by
 have j2:∀ x c q,p<=q->q<=p+1->An (fun k=>afe k n x c b q) (fun v=>p<=v.2.2.2.2.2/\v.2.2.2.2.2<=p+8):=by
  intro x c q hq hq';refine aaR ?_;simp only [afe];refine aaM (fun _=>An.bind (abD hb (by omega)) fun v h1=>An.bind (abD hb (by omega)) fun v h2=>An.bind (abD hb (by omega)) fun v h3=>An.bind (ajO hb (by omega)) fun v h4=>aae (by simp only;omega)) (fun _=>?_);refine aaM (fun _=>An.bind (aao hb n (by omega)) fun v h1=>aae (by simp only;omega)) (fun _=>?_);refine aaM (fun _=>An.bind (abD hb (by omega)) fun v h1=>An.bind (aao hb n (by omega)) fun v h2=>aae (by simp only;omega)) (fun _=>?_);refine aaM (fun _=>An.bind (abD hb (by omega)) fun v h1=>An.bind (aao hb 2 (by omega)) fun v h2=>aae (by simp only;omega)) (fun _=>?_);refine aaM (fun _=>An.bind (abD hb (by omega)) fun v h1=>An.bind (aao hb 2 (by omega)) fun v h2=>aae (by simp only;omega)) (fun _=>?_);exact An.bind (aao hb 4 (by omega)) fun v h1=>aaM (fun _=>aae (by simp only;omega)) (fun _=>An.bind (abD hb (by omega)) fun v h2=>aae (by simp only;omega))
 have j1:∀ x c q,p<=q->q<=p+1->An (fun k=>ag9 k n x c b q) (fun v=>p<=v.2.2.2.2.2/\v.2.2.2.2.2<=p+8):=by
  intro x c q hq hq';refine aaR ?_;simp only [ag9];refine aaM (fun _=>An.bind (abD hb (by omega)) fun v h1=>An.bind (abD hb (by omega)) fun v h2=>aae (by simp only;omega)) (fun _=>aaM (fun _=>j2 _ _ _ hq hq') (fun _=>aaM (fun _=>j2 _ _ _ hq hq') (fun _=>j2 _ _ _ hq hq')))
 have j0:∀ x c q,p<=q->q<=p+1->An (fun k=>aga k n x c b q) (fun v=>p<=v.2.2.2.2.2/\v.2.2.2.2.2<=p+8):=by
  intro x c q hq hq';refine aaR ?_;simp only [aga];refine aaM (fun _=>An.bind (abD hb (by omega)) fun v h1=>An.bind (ake hb (by omega)) fun v h2=>abd (An.bind (aao hb 4 (by omega)) fun v h3=>aaD (aaD (aae (by simp only;omega)) (by simp only [List.length_cons,List.length_nil];omega)))) (fun _=>aaM (fun _=>j1 _ _ _ hq hq') (fun _=>j1 _ _ _ hq hq'))
 simp only [am6];exact An.bind (aao hb 12 (by omega)) fun v h1=>aaM (fun _=>j0 _ _ _ (by omega) (by omega)) (fun _=>j0 _ _ _ (by omega) (by omega))
theorem agN {b:List Int} (hb:Bt b) {m:Nat} (hm:m<=14):∀ (d i:Nat),i+1+d=m->∀ (o:List SQ) (p:Int),o.length=i->0<=p/\p+8*(d:Int)+2<=1000000->An (fun k=>afd k (m:Int) o (i:Int) b p) (fun v=>1<=v.1.length/\v.1.length<=14/\p<=v.2/\v.2<=p+8*(d:Int)+2)
 | 0,i,hi,o,p,ho,h=>by
  refine aaR ?_;simp only [afd,aay (show i < 9223372036854775807 by omega)];refine ab6 (An.bind (aao hb 3 (by omega)) fun v h1=>aaM (fun _=>An.bind (aao hb (m:Int) (by omega)) fun u h2=>aaD (aae ?_)) (fun _=>aaD (aae ?_)))
  ·simp only [List.length_append,List.length_cons,List.length_nil];omega
  simp only [List.length_append,List.length_cons,List.length_nil];omega
 | d+1,i,hi,o,p,ho,h=>by
  refine aaR ?_;simp only [afd,aay (show i < 9223372036854775807 by omega)];refine aaD (An.bind (akb hb (by omega) (by omega)) fun v h1=>aaD ?_);exact (agN hb hm d (i+1) (by omega) _ v.2.2.2.2.2 (by simp [ho]) (by omega)).mono fun u h2=>⟨h2.1,h2.2.1,by omega,by omega⟩
theorem af6 {b:List Int} (hb:Bt b) {p:Int} (h:0<=p/\p+120<=1000000):An (fun k=>ako k b p) (fun v=>1<=v.1.length/\v.1.length<=14/\p<=v.2/\v.2<=p+120):=by
 simp only [ako];refine An.bind (aao hb 14 (by omega)) fun v h1=>?_
 obtain⟨v1,v2⟩:=v;obtain⟨m,rfl⟩:=Int.eq_ofNat_of_zero_le h1.1;have hm:(m:Int) < 14:=h1.2.1;have hp:v2=p+1:=h1.2.2;have e:wrap64 (1+(m:Int))=((m+1:Nat):Int):=by rw [aaJ (by omega) (by omega)];omega
 simp only [e];exact (agN hb (m:=m+1) (by omega) m 0 (by omega) [] v2 rfl (by omega)).mono fun u h2=>⟨h2.1,h2.2.1,by omega,by omega⟩
theorem akc {b:List Int} (hb:Bt b) {p:Int} (h:0<=p/\p+9800<=1000000):An (fun k=>am8 k b p) (fun v=>1<=v.1.length/\v.1.length<=600/\p<=v.2/\v.2<=p+9800):=by
 simp only [am8];refine An.bind (aao hb 2 (by omega)) fun v h1=>aaM (fun _=>An.bind (af6 hb (by omega)) fun u h2=>aae ⟨h2.1,by show u.1.length<=600;omega,by simp only;omega⟩) (fun _=>?_)
 refine An.bind (aiY hb (by omega) (by omega)) fun s h2=>An.bind (agB h2.1) fun c h3=>aaM (fun _=>An.bind (af6 hb (by omega)) fun u h4=>aae ⟨h4.1,by show u.1.length<=600;omega,by simp only;omega⟩) (fun g=>?_)
 refine An.bind (aao hb 3 (by omega)) fun t h4=>?_
 have e1:Int.tdiv t.1 2=t.1 / 2:=Int.tdiv_eq_ediv_of_nonneg h4.1;have e2:wrap64 (Int.tdiv t.1 2)=t.1 / 2:=by rw [e1,aaJ (by omega) (by omega)]
 rw [e2];obtain⟨r,hr,er⟩:=aqL (c:=c.1) (t:=t.1 / 2) ⟨h3 (by omega),by omega,by omega⟩;have h6:=abf hr;exact An.bind (an7 (P:=fun u=>u=(r,true)) er rfl) fun u hu=>aae (by subst hu;exact⟨h6.1,h6.2,by simp only;omega,by simp only;omega⟩)
theorem akd {b:List Int} (hb:Bt b) {p:Int} (h:0<=p/\p+9900<=1000000):An (fun k=>am9 k b p) (fun v=>v.1.length<=601/\p<=v.2/\v.2<=p+9900):=by
 simp only [am9];refine An.bind (akc hb (by omega)) fun c h1=>An.bind (aao hb 36 (by omega)) fun v h2=>?_
 refine aaM (fun _=>aaD (aae ?_)) (fun _=>aaM (fun _=>aaD (aae ?_)) (fun _=>aaM (fun _=>aaD (aae ?_)) (fun _=>aaM (fun _=>aae ?_) (fun _=>aae ?_))))
 all_goals
  simp only [List.length_set,List.length_append,List.length_cons,List.length_nil];omega
theorem alG {x:Int} (h:(Lit.int .u8 x).wf=true):0<=x/\x < 256:=by
 simp [Lit.wf,IntKind.min,IntKind.max,IntKind.bits,IntKind.signed] at h
 omega
theorem alf {l:List Int} (h:∀ x∈l,(Lit.int .u8 x).wf=true):An (fun _=>alX l) (fun v=>Bt v.1/\v.2=0):=by
 simp only [alX];refine aaM (fun c=>aaD (aae ⟨⟨by simp;omega,fun x hx=>alG (h x (List.mem_of_mem_take hx))⟩,rfl⟩)) (fun c=>aae ⟨⟨by show l.length<=2000;omega,fun x hx=>alG (h x hx)⟩,rfl⟩)
theorem ag0 {l:List Int} (h:∀ x∈l,(Lit.int .u8 x).wf=true):An (fun k=>amz k l) (fun v=>v.length<=601):=by
 simp only [amz];exact An.bind (alf h) fun v h1=>An.bind (akd h1.1 (by omega)) fun c h2=>aae h2.1
theorem af5 (v:List SQ) (h:v.length<=1000):∀ (d p:Nat),p+d=v.length->Ev (fun k=>afa k v v (p:Int)) true
 | 0,p,hp=>by
  refine Ev.succ ?_;simp only [afa];exact aa5 Ev.pure
 | d+1,p,hp=>by
  refine Ev.succ ?_;simp only [afa,aay (show p < 9223372036854775807 by omega)];exact aa2 (aa2 (aa2 (aa5 (af5 v h d (p+1) (by omega)))))
theorem ad5 (v:List SQ) (h:v.length<=1000):Ev (fun k=>SbH.f k v v) true:=by
 simp only [SbH.f];exact aa2 (af5 v h v.length 0 (Nat.zero_add _))
theorem anB {c:List SQ} (h:CV (qs c)):∃ U,(CS c).Lfp U/\Ev (fun k=>Saj.f k c) (acB U c,true)/\Ev (fun k=>akv k c) (acB U c,true):=by
 obtain⟨U,hU,e⟩:=amA h;exact⟨U,hU,e,e⟩
theorem alE {c:List SQ} (h:¬ CV (qs c)):Ev (fun k=>Saj.f k c) ([],false)/\Ev (fun k=>akv k c) ([],false):=⟨ajo h,ajo h⟩
theorem ajC (q:SQ) (x:List Int):(ac2 q x).f1=q.f1/\(ac2 q x).f4=q.f4:=by
 unfold ac2;split
 ·exact⟨rfl,rfl⟩
 split <;> exact⟨rfl,rfl⟩
theorem adR {c:List SQ} (h:CV (qs c)) {U:List (List Int)} (hv:CV (qs (acB U c))):∀ (d p:Nat),p+d=c.length->Ev (fun k=>afb k c (acB U c) (p:Int)) true
 | 0,p,hp=>by
  have hl:=aaX U c;refine Ev.succ ?_;simp only [afb];exact aa5 (Ev.bind (aoM _) (aa2 (Ev.pure.eq (by simp;omega)) (decide_eq_true hv)))
 | d+1,p,hp=>by
  have hp':p < c.length:=by omega
  have h6:=(abf h).2;have hl:=aaX U c;have ih:=adR h hv d (p+1) (by omega);refine Ev.succ ?_;simp only [afb,ac5,adx U hp',aay (show p < 9223372036854775807 by omega)];exact aa2 (aa2 (aa2 (aa2 (aa2 (aa2 ih (ajC _ _).2) (ajC _ _).1) (ajB _ _))))
theorem ahE {l:List Int} (hw:∀ x∈l,(Lit.int .u8 x).wf=true):An (fun k=>SbG.f k l) (fun v=>v=true):=by
 simp only [SbG.f];refine aaM (fun _=>aae rfl) (fun _=>An.bind (ag0 hw) fun c hc=>?_);by_cases h:CV (qs c)
 ·obtain⟨U,hU,e1,e2⟩:=anB h;have h6:=(abf h).2;have hl:=aaX U c;refine an7 (Ev.bind e2 (Ev.bind e1 (aa5 (Ev.bind (ad5 (acB U c) (by omega)) (aa2 (Ev.succ ?_) rfl)) (by simp)))) rfl;simp only [afc];exact aa5 (adR h (ag4 h hU.1.1) c.length 0 (Nat.zero_add _)) (by simp)
 obtain⟨e1,e2⟩:=alE h;refine an7 (Ev.bind e2 (Ev.bind e1 (aa5 (Ev.bind (ad5 _ (by simp)) (aa2 (Ev.succ ?_) rfl)) (by simp)))) rfl;simp only [afc];exact aa2 (aa2 (Ev.bind (ad5 _ (by simp)) Ev.pure) (by simp)) (by simp)
end Go.Proofs.YtdkkdiiceaomaaaGreat.M
namespace Go.Proofs.YtdkkdiiceaomaaaGreat.Pure
open Go.Proofs.YtdkkdiiceaomaaaGreat.M
theorem FnCopyCode:SbG.Pure:=by
 intro l _ _ hw;obtain⟨v,e,h⟩:=ahE hw;subst h;exact e.get
end Go.Proofs.YtdkkdiiceaomaaaGreat.Pure
namespace Go.Proofs.YtdkkdiiceaomaaaGreat.fnCopyCode
open Go.ChangeShapes Go.WideShapes Go.ChangeAt Go.RowKit
open Go.ChangeMaps (open_string shut_string)
theorem own : ownKnob Tryz.prog.godebug = none := by kernel_rfl
theorem laidOut : laidOutB Tryz.prog = true := by kernel_rfl
def IsRow (k : IntKind) (w : World) (a : Option Addr) (len cap : Nat) (zs : List Int) : Prop :=
  (a = none ∧ len = 0 ∧ cap = 0 ∧ zs = []) ∨
  ∃ x, a = some x ∧ len ≤ cap ∧ cap ≤ maxLen ∧ zs.length = cap ∧ (∀ i, i < zs.length → w.cell? (x.add i) = some (.int k (zs.getD i 0))) ∧ ∀ n ∈ zs, (Lit.int k n).wf = true
theorem lifted (os : Os) (started : os.Started) (H : Type) (enc : TypeId × Value → H) :
    ReturnsInHanded {} Tryz.checked os 5 .any (Rows.fnCopyCodeSpec.pre6 enc Tryz.prog Tryz.f5 Rows.fnCopyCodeRow.domain false) (Rows.fnCopyCodeSpec.post enc Tryz.prog Tryz.f5 false true false false) := by
  refine returnsInHanded_of_change_sized (C := Tryz.checked) own started (by kernel_rfl) Tryz.func5
    (ChangeSpec.witness6 (enc := enc) (C := Tryz.checked) false ⟨#[], #[.slice none 0 0], []⟩ 8 (by kernel_rfl) (by kernel_rfl) (by kernel_rfl) (by kernel_rfl)) ?_
  intro W base args ds gs before hval0 hW hcnd hsz0 _
  have hsz : (DataW.weightsEach Tryz.prog (Tryz.f5.params.toList ++ Rows.fnCopyCodeSpec.plain.varTypes Tryz.prog) (ds ++ gs)).all (· ≤ reachBytes) = true := hsz0
  have hval : ∀ (j : Nat) t v, Tryz.f5.params[j]? = some t → args[j]? = some v → Value.okWide Tryz.prog W .any base t v := hval0
  have hW' := hW
  obtain ⟨p, q, hA0, hV, rfl, hfz, hnd⟩ := hW
  have hA : DataW.TrodAll enc Tryz.prog W 0 (fun _ => true) true Tryz.f5.params.toList args.toList ds p := hA0
  rw [Tryz.params5] at hA hval hsz
  obtain ⟨v0, vs0, d0, ds0, p0, q0, hargs, rfl, rfl, h0, r0⟩ := trodAll_cons hA
  obtain ⟨rfl, rfl, rfl⟩ := trodAll_nil r0
  obtain rfl : args = #[v0] := by cases args; simp_all
  obtain ⟨rfl, rfl⟩ := trodVars_none hV
  obtain ⟨a0, len0, cap0, rfl⟩ := okWide_slice Tryz.underlying22 (hval 0 22 v0 rfl rfl)
  have k0 := h0
  have lt0 : ∀ x ∈ p0, x.block < W.heap.size := by obtain ⟨m, hm⟩ := k0; exact DataW.trod_lt m _ _ _ hm
  obtain ⟨z0, w0⟩ : ∃ zs, IsRow .u8 W a0 len0 cap0 zs := by
    obtain ⟨fuel, hf⟩ := h0
    rcases open_ints Tryz.underlying22 Tryz.underlying5 (by kernel_rfl) hf with ⟨hcs, _⟩ | ⟨x, l, c, zs, hcs, _, hl, hm, hz, _, hcell, hwz⟩
    · simp [Value.cells] at hcs
      obtain ⟨rfl, rfl, rfl⟩ := hcs
      exact ⟨[], .inl ⟨rfl, rfl, rfl, rfl⟩⟩
    · simp [Value.cells] at hcs
      obtain ⟨rfl, rfl, rfl⟩ := hcs
      exact ⟨zs, .inr ⟨_, rfl, hl, hm, by simpa using hz, hcell, hwz⟩⟩
  have y0 : len0 * 1 ≤ 140737488351232 := Go.Proofs.YtdkkdiiceaomaaaGreatW.PrintWords.sized_ints hsz (j := 0) (t := 22) rfl rfl Tryz.underlying22 Tryz.underlying5 (by kernel_rfl) (by kernel_rfl) h0
  clear hA0 hval0 hsz0 hsz
  refine (M.SbG.walk Pure.FnCopyCode a0 len0 cap0 z0 W w0 y0).mono fun e W' ⟨he, bel⟩ => ?_
  subst he
  exact ⟨_, rfl, _, _, _, [], _, [], hW', trodAll_mk1 (shut_bool Tryz.underlying4 _), (trodAll_cons_mk (Below.trod laidOut (by kernel_rfl) (of_decide_eq_true (by kernel_rfl)) k0 bel lt0) trodAll_mk0), rfl, bel.frame _, fun h => by cases h⟩
theorem over : Rows.fnCopyCodeRow.holds Tryz.pinned (OpenSpec.ofChange Rows.fnCopyCodeSpec) :=
  OpenClaim.holds_of_wide 5 Tryz.f5 rfl rfl rfl rfl rfl rfl rfl ⟨rfl, rfl, rfl, rfl, rfl⟩ rfl rfl rfl rfl rfl (by kernel_rfl) Tryz.func5 (by kernel_rfl)
    (of_decide_eq_true (by kernel_rfl)) (by unfold Func.isWrapper; first | (rw [if_pos (by decide +kernel)]; kernel_rfl) | (rw [if_neg (by decide +kernel)]; exact ⟨rfl, rfl⟩))
    (fun os started H enc _ => lifted os started H enc)
theorem proved : Rows.FnCopyCodeSaid := over
#print axioms proved
end Go.Proofs.YtdkkdiiceaomaaaGreat.fnCopyCode
namespace Go.Proofs.YtdkkdiiceaomaaaGreat
/-- The row, under a short name, for the claim. -/
theorem fnCopyCode_holds : Rows.FnCopyCodeSaid := fnCopyCode.proved
end Go.Proofs.YtdkkdiiceaomaaaGreat
