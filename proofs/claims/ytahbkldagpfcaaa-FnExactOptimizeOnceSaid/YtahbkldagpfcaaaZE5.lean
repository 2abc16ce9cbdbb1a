/- FnExactOptimizeOnce holds, for every input. -/
import Derived.Test.YtahbkldagpfcaaaZE4
import Derived.Test.YtahbkldagpfcaaaRows
import Derived.WalkKit
import Derived.ProofKit
import Derived.OpenShut
import Derived.ChangeOld
import Derived.Below
import Derived.SizedLaws
import Derived.Lib.SmallJoins
import Derived.Deep.Slices
import Derived.Deep.Fields
import Derived.ChangeSame
import Derived.DataReads
set_option linter.unusedVariables false
set_option linter.unusedSimpArgs false
set_option maxHeartbeats 8000000
set_option maxRecDepth 100000
namespace Go.Proofs.Ytahbkldagpfcaaa.M
open Go.RowKit Go.Proofs.YtahbkldagpfcaaaW.PrintWords Go.Proofs.YtahbkldagpfcaaaW.PrintLast Go.Proofs.YtahbkldagpfcaaaW.PrintMore PM
def ICopyCode.f (k:Nat) (l0:List SQ):Option (List SQ × Bool):=SCopyCode.f k l0
theorem ICopyCode.mono:∀ a0 k,LeO (ICopyCode.f k a0) (ICopyCode.f (k+1) a0):=SCopyCode.mono
theorem getD_here {α:Type} {l:List α} {i:Nat} (h:i < l.length) (v d:α):(l.set i v).getD i d=v:=by
 rw [List.getD_eq_getElem?_getD,List.getElem?_set_self h]
 rfl
/-- A register put into a quad of a row. -/
theorem putA {W:World} {base g n cap:Nat} {ok:Nat->Prop} {xs:List SQ} (h:Kd.R k46 TQ W base ok (.slice (some ⟨g,0,none⟩) n cap) xs) {i:Int} (h0:0<=i) (h1:i < n) (v:Int) {q:SQ} (hq:xs.getD i.toNat z46=q) :
  Kd.R k46 TQ (W.setCell ⟨g,i.toNat*5+2,none⟩ (.int .i64 v)) base ok (.slice (some ⟨g,0,none⟩) n cap) (xs.set i.toNat ⟨q.f0,q.f1,v,q.f3,q.f4⟩)/\W.cell? ⟨g,i.toNat*5+2,none⟩=some (.int .i64 q.f2)/\W.frozen? ⟨g,i.toNat*5+2,none⟩=false:=by
 obtain⟨ce,hcl,hM,hcc,hfr⟩:=Kd.R_elem h z46 i h0 h1
 rw [hq] at hM
 obtain rfl:=k46_openM hM
 have HP:=Kd.R_seg h i h0 h1 (seg:=[.int .i64 v]) (j:=2) hcl hcc (by show 2+1<=5;omega) (x':=⟨q.f0,q.f1,v,q.f3,q.f4⟩) (k46_mkM _ _ _ (⟨q.f0,q.f1,v,q.f3,q.f4⟩:SQ)) (fun _ hk=>hk)
 exact⟨HP.1,hcc 2 _ rfl,hfr 2⟩
theorem putB {W:World} {base g n cap:Nat} {ok:Nat->Prop} {xs:List SQ} (h:Kd.R k46 TQ W base ok (.slice (some ⟨g,0,none⟩) n cap) xs) {i:Int} (h0:0<=i) (h1:i < n) (v:Int) {q:SQ} (hq:xs.getD i.toNat z46=q) :
  Kd.R k46 TQ (W.setCell ⟨g,i.toNat*5+3,none⟩ (.int .i64 v)) base ok (.slice (some ⟨g,0,none⟩) n cap) (xs.set i.toNat ⟨q.f0,q.f1,q.f2,v,q.f4⟩)/\W.cell? ⟨g,i.toNat*5+3,none⟩=some (.int .i64 q.f3)/\W.frozen? ⟨g,i.toNat*5+3,none⟩=false:=by
 obtain⟨ce,hcl,hM,hcc,hfr⟩:=Kd.R_elem h z46 i h0 h1
 rw [hq] at hM
 obtain rfl:=k46_openM hM
 have HP:=Kd.R_seg h i h0 h1 (seg:=[.int .i64 v]) (j:=3) hcl hcc (by show 3+1<=5;omega) (x':=⟨q.f0,q.f1,q.f2,v,q.f4⟩) (k46_mkM _ _ _ (⟨q.f0,q.f1,q.f2,v,q.f4⟩:SQ)) (fun _ hk=>hk)
 exact⟨HP.1,hcc 3 _ rfl,hfr 3⟩
theorem storeI {ops:Array Oper} {rest:List Oper} {op:Oper} {a:Act} {Q:Exit->Act->World->Prop} {w:World} {p:Tmp} {v:Operand} (ho:op.op = .store 3 (.tmp p) v) (hgd:op.guard=none) (hN:op.dst=none) {g o:Nat} (hx:a.eval (.tmp p) = .pointer (some ⟨g,o,none⟩)) {y:Int} (hy:a.eval v = .int .i64 y) {u:Value} (hc:w.cell? ⟨g,o,none⟩=some u) (hf:w.frozen? ⟨g,o,none⟩=false)
  (h:∀ w',w'=w.setCell ⟨g,o,none⟩ (.int .i64 y)->wpList Try.prog ops Q rest a w'):wpList Try.prog ops Q (op :: rest) a w:=by
 refine store_event (P:=Try.prog) hgd ho hN (w1:=w.setCell ⟨g,o,none⟩ (.int .i64 y)) ?_ (fun w' hw=>h w' hw)
 unfold execOp
 simp only [ho,hx,hy]
 first|(go_simp;done)|(go_simp;rfl)
theorem uses_pos {q:Q} (h:q.op=2\/q.op=3\/q.op=5\/q.op=6\/q.op=9):((usesN q:Int) == 0)=false:=by
 have k:=fun n:Nat=>Nat.two_pow_pos n
 have:usesN q≠0:=by
  unfold usesN
  split
  ·have:=k q.a.toNat;omega
  rw [if_pos (by omega)]
  intro z
  have:=Nat.left_le_or (n:=2 ^ q.a.toNat) (m:=2 ^ q.b.toNat)
  have:=k q.a.toNat
  omega
 simp only [beq_eq_false_iff_ne]
 omega
theorem uses_none {q:Q} (h:¬ (q.op=2\/q.op=3\/q.op=5\/q.op=6\/q.op=9)):((usesN q:Int) == 0)=true:=by
 have:usesN q=0:=by
  unfold usesN
  rw [if_neg (by omega),if_neg (by omega)]
 rw [this]
 rfl
theorem CopyCode.bad {c:List SQ} (h:¬ CV (qs c)) (A0:Option Addr) (c0:Nat) (w:World) (hr0:Kd.C k46 w A0 c.length c) (hc0:c.length<=c0) :
  Calls Try.prog 50 #[.slice A0 c.length c0] w fun e w'=>∃ v0_:Value,e = .returned (.tuple #[v0_,.bool false])/\Kd.R k46 TQ w' w.heap.size (fun _=>True) v0_ ([]:List SQ)/\Below w.heap.size w w':=by
 have HR0:=aM hr0
 have HC0:=aM hc0
 clear hr0 hc0
 have hv:cvB c=false:=decide_eq_false h
 have HV:=aM hv
 clear h hv
 have HB:=aM (Below.refl w.heap.size w)
 go_enter Try.func50,Try.ntmps50
 go_wp2_with (first|(go_at_call 34;(with_reducible refine (CV.go HV.out A0 c0 _ ?s1 HC0.out).mono ?_);(case s1=>exact Kd.C_below HR0.out HB.out);rintro e w5 ⟨rfl,hb⟩;replace HB:=kH hb;clear hb))
 go_ret2
 exact⟨_,rfl,Kd.R_nil _ _ _ _ _,HB.out⟩
theorem CopyCode.good {c:List SQ} (h:CV (qs c)) (A0:Option Addr) (c0:Nat) (w:World) (hr0:Kd.C k46 w A0 c.length c) (hc0:c.length<=c0) :
  Calls Try.prog 50 #[.slice A0 c.length c0] w fun e w'=>∃ (v0_:Value) (U:List (List Int)),(CS c).Lfp U/\e = .returned (.tuple #[v0_,.bool true])/\Kd.R k46 TQ w' w.heap.size (fun _=>True) v0_ (copyC U c)/\Below w.heap.size w w':=by
 have HR0:=aM hr0
 have HC0:=aM hc0
 clear hr0 hc0
 have h6:=cv600 h
 have hcl:IQuad.f c=some c:=if_pos (by omega)
 have HCL:=aM hcl
 have HV:=aM (show cvB c=true from decide_eq_true h)
 clear hcl
 have HB:=aM (Below.refl w.heap.size w)
 go_enter Try.func50,Try.ntmps50
 go_wp2_with (first|(go_at_call 34;(with_reducible refine (CV.go HV.out A0 c0 _ ?s1 HC0.out).mono ?_);(case s1=>exact Kd.C_below HR0.out HB.out);rintro e w5 ⟨rfl,hb⟩;replace HB:=kH hb;clear hb)|(go_at_call 47;(with_reducible refine (IQuad.calls A0 c0 c c _ ?s2 HC0.out HCL.out).mono ?_);(case s2=>exact Kd.C_below HR0.out HB.out);rintro e w6 ⟨v4,rfl,ho,hb⟩;have HO:=aM (Kd.R_lower ho HB.out.size);replace HB:=kH hb;clear hb ho)|(go_at_call 70;(with_reducible refine (IcopiesBefore.calls h A0 c0 _ ?s3 HC0.out).mono ?_);(case s3=>exact Kd.C_below HR0.out HB.out);rintro e w7 ⟨g,U,hU,rfl,hg,hbk,hb⟩;have HU:=aM hU;have GG:=aM (Nat.le_trans HB.out.size hg);have BG:=aM hbk;replace HO:=kR HO hb;replace HB:=kH hb;clear hb hU hg hbk))
 obtain⟨go4,co4,rfl,gb4,gl4,cl4,HG4⟩:=Kd.R_form HO.out (by omega)
 have GB4:=aM gb4
 have N4:Aside0 (g≠go4):=⟨fun z=>by
  subst z
  have x:=HG4.symm.trans BG.out
  simp only [Option.some.injEq,Obj.cells.injEq] at x
  exact absurd x.2.1 (by decide)⟩
 clear gb4 gl4 HG4
 have hst:=HU.out.1.1
 go_loopg [16] c.length (fun kq v16 w'=>∃ (pi:Int) (p:Nat),v16 = .int .i64 pi/\Aside0 (pi=(p:Int)/\p+kq=c.length)/\Aside0 (w'.heap[g]?=some (.cells (ics (tabC U)) TC (0,0)))/\Aside0 (Kd.R k46 TQ w' w.heap.size (fun _=>True) (.slice (some ⟨go4,0,none⟩) c.length co4) ((copyC U c).take p ++ c.drop p))/\Aside0 (Below w.heap.size w w'))
 case atStart=>exact⟨0,0,rfl,⟨rfl,Nat.zero_add _⟩,BG,⟨by rw [List.take_zero,List.nil_append,List.drop_zero];exact HO.out⟩,HB⟩
 clear BG HO HB
 obtain⟨pi,p,rfl,HP,BG,HO,HB⟩:=hrel
 rcases gk with _|k1
 ·have ep:p=c.length:=by have:=HP.out.2;omega
  subst ep
  have hpi:pi=(c.length:Int):=HP.out.1
  subst hpi
  go_wp2
  go_ret2
  exact⟨_,U,HU.out,rfl,by have:=HO.out;rwa [List.take_of_length_le (by rw [copyC_len];exact Nat.le_refl _),List.drop_eq_nil_of_le (Nat.le_refl _),List.append_nil] at this,HB.out⟩
 have hp:p < c.length:=by have:=HP.out.2;omega
 have hpi:pi=(p:Int):=HP.out.1
 obtain⟨x,hx⟩:∃ x,x=fin1 ((CS c).at' U p):=⟨_,rfl⟩
 have okx:=fin1_ok (hst.2 p hp)
 rw [<- hx] at okx
 have x12:=okx.1
 have hrg:wr.rangeAt g (pi.toNat*12) (encs (Value.int .i64) x):=by
  have:=tabC_range BG.out hst hp
  rw [<- hx] at this
  rw [hpi,Int.toNat_natCast]
  exact this
 have p0:0<=pi:=by omega
 have p1:pi < (c.length:Int):=by omega
 obtain⟨aq,e2,x0,x1,x2,x3,x4⟩:=at_T46 HR0.out pi p0 p1
 cases e2
 have rq:rd_T46 c pi=qa c p:=by rw [hpi];exact rd_qa c p
 rw [rq] at x0 x1 x2 x3 x4
 have hq:=cv_at h hp
 obtain⟨_,⟨ra0,ra1⟩,rb0,rb1⟩:=regs_of hq
 have ra0:0<=(qa c p).f2:=ra0
 have ra1:(qa c p).f2 < 12:=ra1
 have rb0:0<=(qa c p).f3:=rb0
 have rb1:(qa c p).f3 < 12:=rb1
 obtain⟨KU,hKU⟩:=(IusesOf.ev hq).get
 obtain⟨un,hun⟩:∃ un:Int,un=(usesN (q_ (qa c p)):Int):=⟨_,rfl⟩
 rw [<- hun] at hKU
 have A2:=aM (show IusesOf.f KU (qa c p).f0 (qa c p).f1 (qa c p).f2 (qa c p).f3 (qa c p).f4=some un from hKU)
 have hget:(copyC U c).getD p z46=readQ (qa c p) x:=by rw [hx];exact copyC_get U hp
 have hnext:=mix_next z46 (copyC_len U c) (p:=p) (by rw [copyC_len];exact hp)
 rw [hget] at hnext
 have hat:((copyC U c).take p ++ c.drop p).getD pi.toNat z46=qa c p:=by rw [hpi,Int.toNat_natCast,mix_get z46 (copyC_len U c) (by rw [copyC_len];omega)];rfl
 obtain⟨M,hM⟩:∃ M,M=(copyC U c).take p ++ c.drop p:=⟨_,rfl⟩
 rw [<- hM] at hnext hat HO
 have hMl:M.length=c.length:=by rw [hM,mix_len (copyC_len U c) (by rw [copyC_len];omega),copyC_len]
 have HML:=aM hMl
 have HN:=aM hnext
 have HAT:=aM hat
 have HPI:=aM hpi
 have HMM:=aM hM
 have HG:=aM hget
 have p0t:=eq_true p0
 have p1t:=eq_true p1
 have p0b:=decide_eq_true p0
 have p1b:=decide_eq_true p1
 have P01:=aM (And.intro p0 p1)
 have a0t:=eq_true ra0
 have a1t:=eq_true ra1
 have a0b:=decide_eq_true ra0
 have a1b:=decide_eq_true ra1
 have b0t:=eq_true rb0
 have b1t:=eq_true rb1
 have b0b:=decide_eq_true rb0
 have b1b:=decide_eq_true rb1
 have RA:=aM (show (qa c p).f2.toNat < 12 by omega)
 have RB:=aM (show (qa c p).f3.toNat < 12 by omega)
 have X0:=aM x0
 have X1:=aM x1
 have X2:=aM x2
 have X3:=aM x3
 have X4:=aM x4
 clear x0 x1 x2 x3 x4 hnext hat hM hMl hpi rq p0 p1 ra0 ra1 rb0 rb1 hget hKU hx
 by_cases o1:(qa c p).f0=3
 ·have unb:(un == 0)=false:=by rw [hun];exact uses_pos (show (qa c p).f0=2\/(qa c p).f0=3\/(qa c p).f0=5\/(qa c p).f0=6\/(qa c p).f0=9 by omega)
  have o1b:((qa c p).f0 == 3)=true:=by simp [o1]
  have er:readQ (qa c p) x=⟨(qa c p).f0,(qa c p).f1,ca x (qa c p).f2.toNat,ca x (qa c p).f3.toNat,(qa c p).f4⟩:=by unfold readQ;rw [if_neg (by omega),if_pos o1]
  rw [er] at HN
  clear er o1 hun
  go_wp2_with (first|((with_reducible refine loadC (N:=20) rfl rfl rfl rfl x12 hrg ?_))|((with_reducible refine jd 6 rfl ?_);refine jX (ics z12) TC ?_;intro g6 hg w20 hbox hb;have N6:=aM (show g≠g6 by rw [hg];exact Nat.ne_of_lt (blk_lt BG.out));have O6:=aM (show g6≠go4 by rw [hg];exact Nat.ne_of_gt (Kd.R_lt HO.out go4 rfl));have G6:=kG hg;replace BG:=kB BG hb;replace HO:=kR HO hb;replace HB:=kH hb;clear hrg;have B6:=aM hbox;clear hg hbox hb)|((with_reducible refine storeC (p:=6) (v:=20) rfl rfl rfl rfl x12 B6.out (by decide) ?_);intro w21 hw hb6;rw [over_all (by rw [x12];rfl)] at hb6;replace BG:=aM (far_ hw N6.out BG.out);replace HO:=aM (Kd.R_mono (R_set_ hw (fun _ hk=>hk.2) (Kd.R_types HO.out B6.out (by decide))) (fun _ hk=>hk.1));replace HB:=aM (below_ hw G6.out HB.out);clear B6 hw;have B6:=aM hb6;clear hb6;have y0:=kx HB X0.out;have y1:=kx HB X1.out;have y2:=kx HB X2.out;have y3:=kx HB X3.out;have y4:=kx HB X4.out)|(go_at_call 42;(with_reducible refine (IusesOf.calls _ _ _ _ _ _ _ _ A2.out).mono ?_);rintro e w22 ⟨rfl,hb⟩;replace BG:=kB BG hb;replace HO:=kR HO hb;replace B6:=kB B6 hb;replace HB:=kH hb;clear y0 y1 y2 y3 y4;clear hb;have y0:=kx HB X0.out;have y1:=kx HB X1.out;have y2:=kx HB X2.out;have y3:=kx HB X3.out;have y4:=kx HB X4.out;have z0:=at_ca B6.out x12 RA.out)|((with_reducible refine storeI (p:=38) (v:=.tmp 36) rfl rfl rfl rfl rfl (putA HO.out P01.out.1 P01.out.2 (ca x (qa c p).f2.toNat) HAT.out).2.1 (putA HO.out P01.out.1 P01.out.2 (ca x (qa c p).f2.toNat) HAT.out).2.2 ?_);intro w23 hw;have nHO:=aM (putA HO.out P01.out.1 P01.out.2 (ca x (qa c p).f2.toNat) HAT.out).1;rw [<- hw] at nHO;have nB6:=aM (farP hw O6.out B6.out);replace BG:=aM (farP hw N4.out BG.out);replace HB:=aM (belowP hw GB4.out HB.out);clear HO B6 y0 y1 y2 y3 y4 z0 hw;have HO:=nHO;have B6:=nB6;clear nHO nB6;have y0:=kx HB X0.out;have y1:=kx HB X1.out;have y2:=kx HB X2.out;have y3:=kx HB X3.out;have y4:=kx HB X4.out;have z0:=at_ca B6.out x12 RB.out;have HAT2:=aM (show (M.set pi.toNat ⟨(qa c p).f0,(qa c p).f1,ca x (qa c p).f2.toNat,(qa c p).f3,(qa c p).f4⟩).getD pi.toNat z46=⟨(qa c p).f0,(qa c p).f1,ca x (qa c p).f2.toNat,(qa c p).f3,(qa c p).f4⟩ from getD_here (by have:=P01.out;have:=HML.out;omega) _ _))|((with_reducible refine storeI (p:=55) (v:=.tmp 53) rfl rfl rfl rfl rfl (putB HO.out P01.out.1 P01.out.2 (ca x (qa c p).f3.toNat) HAT2.out).2.1 (putB HO.out P01.out.1 P01.out.2 (ca x (qa c p).f3.toNat) HAT2.out).2.2 ?_);intro w23 hw;have nHO:=aM (putB HO.out P01.out.1 P01.out.2 (ca x (qa c p).f3.toNat) HAT2.out).1;rw [<- hw] at nHO;have nB6:=aM (farP hw O6.out B6.out);replace BG:=aM (farP hw N4.out BG.out);replace HB:=aM (belowP hw GB4.out HB.out);clear HO B6 y0 y1 y2 y3 y4 z0 hw;have HO:=nHO;have B6:=nB6;clear nHO nB6;have y0:=kx HB X0.out;have y1:=kx HB X1.out;have y2:=kx HB X2.out;have y3:=kx HB X3.out;have y4:=kx HB X4.out))
  go_roundg k1
  case measure=>omega
  exact⟨_,p+1,rfl,⟨by have:=HPI.out;(first|omega|(rw [wrap_id (by omega) (by omega)];omega)),by have:=HP.out.2;omega⟩,BG,⟨by have:=HO.out;rwa [List.set_set,show pi.toNat=p by rw [HPI.out,Int.toNat_natCast],HN.out] at this⟩,HB⟩
 have o1b:((qa c p).f0 == 3)=false:=by simp [o1]
 by_cases o2:(qa c p).f0=2\/(qa c p).f0=5\/(qa c p).f0=6\/(qa c p).f0=9
 ·have unb:(un == 0)=false:=by rw [hun];exact uses_pos (show (qa c p).f0=2\/(qa c p).f0=3\/(qa c p).f0=5\/(qa c p).f0=6\/(qa c p).f0=9 by omega)
  have er:readQ (qa c p) x=⟨(qa c p).f0,(qa c p).f1,ca x (qa c p).f2.toNat,(qa c p).f3,(qa c p).f4⟩:=by unfold readQ;rw [if_pos o2]
  rw [er] at HN
  clear er o1 o2 hun
  go_wp2_with (first|((with_reducible refine loadC (N:=20) rfl rfl rfl rfl x12 hrg ?_))|((with_reducible refine jd 6 rfl ?_);refine jX (ics z12) TC ?_;intro g6 hg w20 hbox hb;have N6:=aM (show g≠g6 by rw [hg];exact Nat.ne_of_lt (blk_lt BG.out));have O6:=aM (show g6≠go4 by rw [hg];exact Nat.ne_of_gt (Kd.R_lt HO.out go4 rfl));have G6:=kG hg;replace BG:=kB BG hb;replace HO:=kR HO hb;replace HB:=kH hb;clear hrg;have B6:=aM hbox;clear hg hbox hb)|((with_reducible refine storeC (p:=6) (v:=20) rfl rfl rfl rfl x12 B6.out (by decide) ?_);intro w21 hw hb6;rw [over_all (by rw [x12];rfl)] at hb6;replace BG:=aM (far_ hw N6.out BG.out);replace HO:=aM (Kd.R_mono (R_set_ hw (fun _ hk=>hk.2) (Kd.R_types HO.out B6.out (by decide))) (fun _ hk=>hk.1));replace HB:=aM (below_ hw G6.out HB.out);clear B6 hw;have B6:=aM hb6;clear hb6;have y0:=kx HB X0.out;have y1:=kx HB X1.out;have y2:=kx HB X2.out;have y3:=kx HB X3.out;have y4:=kx HB X4.out)|(go_at_call 42;(with_reducible refine (IusesOf.calls _ _ _ _ _ _ _ _ A2.out).mono ?_);rintro e w22 ⟨rfl,hb⟩;replace BG:=kB BG hb;replace HO:=kR HO hb;replace B6:=kB B6 hb;replace HB:=kH hb;clear y0 y1 y2 y3 y4;clear hb;have y0:=kx HB X0.out;have y1:=kx HB X1.out;have y2:=kx HB X2.out;have y3:=kx HB X3.out;have y4:=kx HB X4.out;have z0:=at_ca B6.out x12 RA.out)|((with_reducible refine storeI (p:=38) (v:=.tmp 36) rfl rfl rfl rfl rfl (putA HO.out P01.out.1 P01.out.2 (ca x (qa c p).f2.toNat) HAT.out).2.1 (putA HO.out P01.out.1 P01.out.2 (ca x (qa c p).f2.toNat) HAT.out).2.2 ?_);intro w23 hw;have nHO:=aM (putA HO.out P01.out.1 P01.out.2 (ca x (qa c p).f2.toNat) HAT.out).1;rw [<- hw] at nHO;have nB6:=aM (farP hw O6.out B6.out);replace BG:=aM (farP hw N4.out BG.out);replace HB:=aM (belowP hw GB4.out HB.out);clear HO B6 y0 y1 y2 y3 y4 z0 hw;have HO:=nHO;have B6:=nB6;clear nHO nB6;have y0:=kx HB X0.out;have y1:=kx HB X1.out;have y2:=kx HB X2.out;have y3:=kx HB X3.out;have y4:=kx HB X4.out;have z0:=at_ca B6.out x12 RB.out;have HAT2:=aM (show (M.set pi.toNat ⟨(qa c p).f0,(qa c p).f1,ca x (qa c p).f2.toNat,(qa c p).f3,(qa c p).f4⟩).getD pi.toNat z46=⟨(qa c p).f0,(qa c p).f1,ca x (qa c p).f2.toNat,(qa c p).f3,(qa c p).f4⟩ from getD_here (by have:=P01.out;have:=HML.out;omega) _ _)))
  go_roundg k1
  case measure=>omega
  exact⟨_,p+1,rfl,⟨by have:=HPI.out;(first|omega|(rw [wrap_id (by omega) (by omega)];omega)),by have:=HP.out.2;omega⟩,BG,⟨by have:=HO.out;rwa [show pi.toNat=p by rw [HPI.out,Int.toNat_natCast],HN.out] at this⟩,HB⟩
 have unb:(un == 0)=true:=by rw [hun];exact uses_none (show ¬ ((qa c p).f0=2\/(qa c p).f0=3\/(qa c p).f0=5\/(qa c p).f0=6\/(qa c p).f0=9) by omega)
 have er:readQ (qa c p) x=qa c p:=by unfold readQ;rw [if_neg o2,if_neg o1]
 have hs:(copyC U c).take p ++ c.drop p=(copyC U c).take (p+1) ++ c.drop (p+1):=mix_same z46 (copyC_len U c) (by rw [copyC_len];exact hp) (by rw [HG.out,er];rfl)
 have HS:=aM hs
 clear er o1 o2 hun hs
 go_wp2_with (first|((with_reducible refine loadC (N:=20) rfl rfl rfl rfl x12 hrg ?_))|((with_reducible refine jd 6 rfl ?_);refine jX (ics z12) TC ?_;intro g6 hg w20 hbox hb;have N6:=aM (show g≠g6 by rw [hg];exact Nat.ne_of_lt (blk_lt BG.out));have O6:=aM (show g6≠go4 by rw [hg];exact Nat.ne_of_gt (Kd.R_lt HO.out go4 rfl));have G6:=kG hg;replace BG:=kB BG hb;replace HO:=kR HO hb;replace HB:=kH hb;clear hrg;have B6:=aM hbox;clear hg hbox hb)|((with_reducible refine storeC (p:=6) (v:=20) rfl rfl rfl rfl x12 B6.out (by decide) ?_);intro w21 hw hb6;rw [over_all (by rw [x12];rfl)] at hb6;replace BG:=aM (far_ hw N6.out BG.out);replace HO:=aM (Kd.R_mono (R_set_ hw (fun _ hk=>hk.2) (Kd.R_types HO.out B6.out (by decide))) (fun _ hk=>hk.1));replace HB:=aM (below_ hw G6.out HB.out);clear B6 hw;have B6:=aM hb6;clear hb6;have y0:=kx HB X0.out;have y1:=kx HB X1.out;have y2:=kx HB X2.out;have y3:=kx HB X3.out;have y4:=kx HB X4.out)|(go_at_call 42;(with_reducible refine (IusesOf.calls _ _ _ _ _ _ _ _ A2.out).mono ?_);rintro e w22 ⟨rfl,hb⟩;replace BG:=kB BG hb;replace HO:=kR HO hb;replace B6:=kB B6 hb;replace HB:=kH hb;clear y0 y1 y2 y3 y4;clear hb;have y0:=kx HB X0.out;have y1:=kx HB X1.out;have y2:=kx HB X2.out;have y3:=kx HB X3.out;have y4:=kx HB X4.out;have z0:=at_ca B6.out x12 RA.out))
 go_roundg k1
 case measure=>omega
 exact⟨_,p+1,rfl,⟨by have:=HPI.out;(first|omega|(rw [wrap_id (by omega) (by omega)];omega)),by have:=HP.out.2;omega⟩,BG,⟨by rw [<- HS.out,<- HMM.out];exact HO.out⟩,HB⟩
theorem ICopyCode.calls (k:Nat) (A0:Option Addr) (c0:Nat) (l0:List SQ) (r1:List SQ) (r2:Bool) (w:World) (hr0:Kd.C k46 w A0 l0.length l0) (hc0:l0.length<=c0) (h:ICopyCode.f k l0=some (r1,r2)) :
  Calls Try.prog 50 #[.slice A0 l0.length c0] w fun e w'=>∃ v0_:Value,e = .returned (.tuple #[v0_,.bool r2])/\Kd.R k46 TQ w' w.heap.size (fun _=>True) v0_ r1/\Below w.heap.size w w':=by
 by_cases hv:CV (qs l0)
 ·obtain⟨U,hU,hE⟩:=SCopyCode.ev hv
  have e:=ev_val (fun k=>ICopyCode.mono l0 k) hE h
  obtain⟨rfl,rfl⟩:=Prod.mk.inj e
  refine (CopyCode.good hv A0 c0 w hr0 hc0).mono ?_
  rintro e w' ⟨v,V,hV,rfl,hR,hb⟩
  rw [Sys.lfp_unique (CS_laws hv) hV hU] at hR
  exact⟨v,rfl,hR,hb⟩
 have e:=ev_val (fun k=>ICopyCode.mono l0 k) (SCopyCode.bad hv) h
 obtain⟨rfl,rfl⟩:=Prod.mk.inj e
 exact CopyCode.bad hv A0 c0 w hr0 hc0
theorem SSqueezeCode.bad {c:List SQ} (h:¬ CV (qs c)):Ev (fun k=>SSqueezeCode.f k c) ([],false):=by
 simp only [SSqueezeCode.f]
 exact Ev.some (Ev.bind (SCodeValid.ev c) (Ev.neg Ev.pure (by unfold cvB;simp [h])))
theorem CV.goS {c:List SQ} {b:Bool} (hb:cvB c=b) (A0:Option Addr) (c0:Nat) (w:World) (hr0:Kd.C k46 w A0 c.length c) (hc0:c.length<=c0):Calls Try.prog 29 #[.slice A0 c.length c0] w fun e w'=>e = .returned (.bool b)/\Below w.heap.size w w':=by
 obtain⟨k,hk⟩:=(SCodeValid.ev c).get
 rw [hb] at hk
 exact SCodeValid.calls k A0 c0 c b w hr0 hc0 hk
theorem CV.reachS {c:List SQ} (h:CV (qs c)):∃ U,(RS c).Lfp U/\∀ (A0:Option Addr) (c0:Nat) (w:World),Kd.C k46 w A0 c.length c->c.length<=c0->Calls Try.prog 90 #[.slice A0 c.length c0] w fun e w'=>∃ v,e = .returned v/\Kd.R Kd.bool 4 w' w.heap.size (fun _=>True) v U/\Below w.heap.size w w':=by
 obtain⟨U,hU,hE⟩:=SCodeReach.ev h
 obtain⟨k,hk⟩:=hE.get
 exact⟨U,hU,fun A0 c0 w hr hc=>SCodeReach.calls k A0 c0 c U w hr hc hk⟩
theorem l36Idle_go (q:SQ) {i:Nat} (hi:i < 9223372036854775807) {b:Bool} (hb:idle q i=b) (w:World):Calls Try.prog 91 #[.agg #[.int .i64 q.f0,.int .i64 q.f1,.int .i64 q.f2,.int .i64 q.f3,.int .i64 q.f4],.int .i64 (i:Int)] w fun e w'=>e = .returned (.bool b)/\Below w.heap.size w w':=by
 obtain⟨k,hk⟩:=(Sl36Idle.ev q hi).get
 rw [hb] at hk
 exact Sl36Idle.calls k _ _ _ _ _ _ b w hk
theorem l36Place_go {c:List SQ} {U:List Bool} (h9:c.length < 9223372036854775807) {n:Int} (h0:0<=n) (hn:n<=c.length) (A0:Option Addr) (c0:Nat) (w:World) (hr0:Kd.C Kd.bool w A0 (kps c U).length (kps c U)) (hc0:(kps c U).length<=c0):Calls Try.prog 92 #[.slice A0 (kps c U).length c0,.int .i64 n] w fun e w'=>e = .returned (.int .i64 (plc c U n.toNat:Int))/\Below w.heap.size w w':=by
 obtain⟨k,hk⟩:=(Sl36Place.ev (U:=U) h9 h0 hn).get
 refine (Sl36Place.calls k A0 c0 _ _ _ w hr0 hc0 hk).mono ?_
 rintro e w' ⟨rfl,nd,rfl⟩
 exact⟨rfl,pw_below_drewN (Below.refl _ _) _⟩
theorem storeB1 {ops:Array Oper} {rest:List Oper} {op:Oper} {a:Act} {Q:Exit->Act->World->Prop} {w:World} {p:Tmp} {v:Operand} (ho:op.op = .store 4 (.tmp p) v) (hgd:op.guard=none) (hN:op.dst=none) {g o:Nat} (hx:a.eval (.tmp p) = .pointer (some ⟨g,o,none⟩)) {y:Bool} (hy:a.eval v = .bool y) {u:Value} (hc:w.cell? ⟨g,o,none⟩=some u) (hf:w.frozen? ⟨g,o,none⟩=false)
  (h:∀ w',w'=w.setCell ⟨g,o,none⟩ (.bool y)->wpList Try.prog ops Q rest a w'):wpList Try.prog ops Q (op :: rest) a w:=by
 refine store_event (P:=Try.prog) hgd ho hN (w1:=w.setCell ⟨g,o,none⟩ (.bool y)) ?_ (fun w' hw=>h w' hw)
 unfold execOp
 simp only [ho,hx,hy]
 first|(go_simp;done)|(go_simp;rfl)
theorem SqueezeCodeS.bad {c:List SQ} (h:¬ CV (qs c)) (A0:Option Addr) (c0:Nat) (w:World) (hr0:Kd.C k46 w A0 c.length c) (hc0:c.length<=c0) :
  Calls Try.prog 67 #[.slice A0 c.length c0] w fun e w'=>∃ v0_:Value,e = .returned (.tuple #[v0_,.bool false])/\Kd.R k46 TQ w' w.heap.size (fun _=>True) v0_ ([]:List SQ)/\Below w.heap.size w w':=by
 have HR0:=aM hr0
 have HC0:=aM hc0
 clear hr0 hc0
 have hv:cvB c=false:=decide_eq_false h
 have HV:=aM hv
 clear h hv
 have HB:=aM (Below.refl w.heap.size w)
 go_enter Try.func67,Try.ntmps67
 go_wp2_with (first|((with_reducible refine jd 9 rfl ?_);refine Kd.R_lit k46 _ 46 ?hg (N:=9) ?hd (xs:=([]:List SQ)) (inner:=[]) (ok:=fun _=>True) (okp:=fun _=>True) ?hr ?hp (fun _ hk=>hk) trivial (Below.refl _ _) (Nat.le_refl _) (by simp) ?_;(case hd=>rfl);(case hg=>rfl);(case hr=>first|(go_simp;done)|(go_simp;rfl));(case hp=>exact (Reps.none _ _));intro v9 w5 ho hb hg_ hnew_;clear hg_ hnew_;have HO:=aM (Kd.R_lower ho HB.out.size);replace HB:=kH hb;clear ho hb)|((with_reducible refine gate_callee (f:=29) rfl ?_);skip;refine goesL_ (some 11) rfl rfl Try.func29 (by kernel_rfl) rfl #[.slice A0 c.length c0] rfl qM ?_;(with_reducible refine (CV.goS HV.out A0 c0 _ ?s1 HC0.out).mono ?_);(case s1=>exact Kd.C_below HR0.out HB.out);rintro e w5b ⟨rfl,hb⟩;refine⟨_,rfl,?_⟩;replace HO:=kR HO hb;replace HB:=kH hb;clear hb))
 go_ret2
 exact⟨_,rfl,HO.out,HB.out⟩
theorem SqueezeCodeS_good_s0 {G:Prop} (h:G:=by
  go_wp2_with (first|((with_reducible refine jd 8 rfl ?_);refine jX (ics [0,0,0,0,0]) TQ ?_;intro g8 hg w20 hbox hb;have G8:=kG hg;replace HO:=aM (Kd.R_below (Kd.R_elderB HO.out g8 (Nat.le_of_eq hg.symm)) hb);replace HU:=kR HU hb;replace HB:=kH hb;clear x0 x1 x2 x3 x4;have B8:=aM hbox;clear hg hbox hb)|((with_reducible refine storeQ (p:=8) (v:=47) rfl rfl rfl rfl B8.out ?_);intro w21 hw hb8;replace HO:=aM (R_set_ hw (fun _ hk=>hk.2) HO.out);replace HU:=aM (Kd.R_mono (R_set_ hw (fun _ hk=>hk.2) (Kd.R_types HU.out B8.out (by decide))) (fun _ hk=>hk.1));replace HB:=aM (below_ hw G8.out HB.out);clear B8 hw;have B8:=aM hb8;clear hb8;obtain⟨d0,d1,d2,d3,d4⟩:=cells5' B8.out;obtain⟨ak,e9,z0⟩:=Kd.at_bool (Kd.R_reads' HU.out).2.2 ji J01.out.1 J01.out.2;rw [RZ.out] at z0;(first|cases e9|(injection e9 with e9;subst e9)))|((with_reducible refine gate_callee (f:=92) rfl ?_);skip;refine goesL_ (some 64) rfl rfl Try.func92 (by kernel_rfl) rfl #[.slice (some ak) (kps c U).length cr,.int .i64 q.f4] rfl qM ?_;(with_reducible refine (PL.out (some ak) cr _ ?s3 ?s4).mono ?_);(case s3=>exact (Kd.R_reads' HU.out).2.2);(case s4=>exact (Kd.R_reads' HU.out).2.1);rintro e w22 ⟨rfl,hb⟩;refine⟨_,rfl,?_⟩;replace HO:=kR HO hb;replace HU:=kR HU hb;replace B8:=kB B8 hb;replace HB:=kH hb;clear hb d0 d1 d2 d3 d4 z0;obtain⟨d0,d1,d2,d3,d4⟩:=cells5' B8.out)|((with_reducible refine store1 (p:=65) rfl rfl rfl rfl rfl B8.out (by simp only [List.length_cons,List.length_nil];omega) ?_);intro w23 hw hb8;replace HO:=aM (R_put hw (fun _ hk=>hk.2) HO.out);replace HU:=aM (Kd.R_mono (R_put hw (fun _ hk=>hk.2) (Kd.R_types HU.out B8.out (by decide))) (fun _ hk=>hk.1));replace HB:=aM (belowP hw G8.out HB.out);clear B8 hw d0 d1 d2 d3 d4;have B8:Aside0 (w23.heap[g8]?=some (.cells (ics [q.f0,q.f1,q.f2,q.f3,(plc c U q.f4.toNat:Int)]) TQ (0,0))):=⟨hb8⟩;clear hb8;obtain⟨d0,d1,d2,d3,d4⟩:=cells5' B8.out)|((with_reducible refine gate_builtin (b:=.append) (xs:=#[.tmp 66,.tmp 68]) rfl ?_);at_builtin;refine Kd.R_append k46 (w0:=w) w.heap.size rfl (.tmp 66) (.tmp 68) 25 46 (.agg #[(.int .i64 0),(.int .i64 0),(.int .i64 0),(.int .i64 0),(.int .i64 0)]) 40 rfl Try.underlying25 info46 rfl (by decide) (by omega) (.slice Ao (sqU c U j).length co) (sqU c U j) (⟨q.f0,q.f1,q.f2,q.f3,(plc c U q.f4.toNat:Int)⟩:SQ) [.int .i64 q.f0,.int .i64 q.f1,.int .i64 q.f2,.int .i64 q.f3,.int .i64 (plc c U q.f4.toNat:Int)] (fun k_=>True/\k_≠g8) (fun _=>False) rfl rfl ?aP (fun _ hk=>hk.elim) ?aF ?aO ?aB ?aS ?aL ?_;(case aP=>exact k46_mkM _ _ _ (⟨q.f0,q.f1,q.f2,q.f3,(plc c U q.f4.toNat:Int)⟩:SQ));(case aB=>exact HB.out);(case aF=>exact (fun k_ hk=>⟨trivial,Kd.freshB B8.out k_ hk⟩));(case aO=>exact HO.out);(case aS=>exact HB.out.size);(case aL=>have:=hlel.out;omega);intro v44 w25 ho hb hg hat;have nHU:=aM (Kd.R_over' HU.out (Kd.R_typed HO.out) (by decide) hg);rw [<- HN.out] at ho;replace HO:=aM (Kd.R_mono (ok':=fun _=>True) ho (fun _ _=>trivial));replace HB:=aM hb;clear HU B8 ho hb hg hat d0 d1 d2 d3 d4;have HU:=nHU;clear nHU))
  go_roundg k1
  case measure=>omega
  exact⟨_,j+1,rfl,⟨by have:=HJI.out;(first|omega|(rw [wrap_id (by omega) (by omega)];omega)),by have:=HJ.out.2;omega⟩,HO,HU,HB⟩):G:=h
theorem SqueezeCodeS_good_s1 {G:Prop} (h:G:=by
  go_wp2_with (first|((with_reducible refine jc 91 34 rfl rfl ?_);(try (refine gate_guard (by rfl) ?_;dsimp only));refine jG Try.func91 #[.agg #[.int .i64 (qa c p).f0,.int .i64 (qa c p).f1,.int .i64 (qa c p).f2,.int .i64 (qa c p).f3,.int .i64 (qa c p).f4],.int .i64 pi] ?_;(with_reducible refine (A3.out _).mono ?_);skip;rintro e w8 ⟨rfl,hb⟩;refine⟨_,rfl,?_⟩;replace HO:=kR HO hb;replace HU:=kR HU hb;replace HB:=kH hb;clear y0 y1 y2 y3 y4 hz;clear hb)|((with_reducible refine gate_store (t:=4) (p:=37) rfl ?_);obtain⟨hx9,hf9⟩:=Kd.R_celln false HU.out pi P01.out.1 P01.out.2;(with_reducible refine storeB1 (p:=37) (y:=false) rfl rfl rfl rfl rfl hx9 hf9 ?_);clear hx9 hf9;intro w9 hw;have pg:=Kd.R_putg HU.out pi false;rw [HS.out] at pg;have nHO:=aM (Kd.R_over' (v:=.slice (some ⟨go,0,none⟩) U.length cr) HO.out (Kd.R_typed HU.out) (by decide) pg.2);have nHU:=aM pg.1;have nHB:=aM (belowP hw GO.out HB.out);change Aside0 (Kd.R _ _ (World.setCell _ _ (.bool false)) _ _ _ _) at nHO nHU;rw [<- hw] at nHO nHU;clear HB HO HU hw pg;have HB:=nHB;have HO:=nHO;have HU:=nHU;clear nHB nHO nHU))
  go_roundg k1
  case measure=>omega
  exact⟨_,p+1,rfl,⟨by have:=HPI.out;(first|omega|(rw [wrap_id (by omega) (by omega)];omega)),by have:=HP.out.2;omega⟩,HO,HU,HB⟩):G:=h
theorem SqueezeCodeS.good {c:List SQ} (h:CV (qs c)) (A0:Option Addr) (c0:Nat) (w:World) (hr0:Kd.C k46 w A0 c.length c) (hc0:c.length<=c0) :
  Calls Try.prog 67 #[.slice A0 c.length c0] w fun e w'=>∃ (v0_:Value) (U:List Bool),(RS c).Lfp U/\e = .returned (.tuple #[v0_,.bool true])/\Kd.R k46 TQ w' w.heap.size (fun _=>True) v0_ (sqC c U)/\Below w.heap.size w w':=by
 have HR0:=aM hr0
 have HC0:=aM hc0
 clear hr0 hc0
 have h6:=cv600 h
 have h6':c.length<=600:=h6.2
 have HV:=aM (show cvB c=true from decide_eq_true h)
 have HB:=aM (Below.refl w.heap.size w)
 obtain⟨U,hU,hgo⟩:=CV.reachS h
 have hUl:U.length=c.length:=hU.1.1.1
 have HUL:=aM hUl
 clear hUl
 have HU0:=aM hU
 have HGO:=aM hgo
 clear hU hgo
 go_enter Try.func67,Try.ntmps67
 go_wp2_with (first|((with_reducible refine jd 9 rfl ?_);refine Kd.R_lit k46 _ 46 ?hg (N:=9) ?hd (xs:=([]:List SQ)) (inner:=[]) (ok:=fun _=>True) (okp:=fun _=>True) ?hr ?hp (fun _ hk=>hk) trivial (Below.refl _ _) (Nat.le_refl _) (by simp) ?_;(case hd=>rfl);(case hg=>rfl);(case hr=>first|(go_simp;done)|(go_simp;rfl));(case hp=>exact (Reps.none _ _));intro v9 w5 ho hb hg_ hnew_;clear hg_ hnew_;have HO:=aM (Kd.R_lower ho HB.out.size);replace HB:=kH hb;clear ho hb)|((with_reducible refine gate_callee (f:=29) rfl ?_);skip;refine goesL_ (some 11) rfl rfl Try.func29 (by kernel_rfl) rfl #[.slice A0 c.length c0] rfl qM ?_;(with_reducible refine (CV.goS HV.out A0 c0 _ ?s1 HC0.out).mono ?_);(case s1=>exact Kd.C_below HR0.out HB.out);rintro e w5b ⟨rfl,hb⟩;refine⟨_,rfl,?_⟩;replace HO:=kR HO hb;replace HB:=kH hb;clear hb)|((with_reducible refine gate_callee (f:=90) rfl ?_);skip;refine goesL_ (some 15) rfl rfl Try.func90 (by kernel_rfl) rfl #[.slice A0 c.length c0] rfl qM ?_;(with_reducible refine (HGO.out A0 c0 _ ?s2 HC0.out).mono ?_);(case s2=>exact Kd.C_below HR0.out HB.out);rintro e w6 ⟨v17,rfl,ho,hb⟩;refine⟨_,rfl,?_⟩;obtain⟨Ar,cr,rfl⟩:=Kd.R_slice ho;have HU:=aM (Kd.R_lower ho HB.out.size);replace HO:=kR HO hb;replace HB:=kH hb;clear hb ho))
 have HM:Aside0 (∃ M:List Bool,M=(kps c U).take 0 ++ U.drop 0/\Kd.R Kd.bool 4 w6 w.heap.size (fun _=>True) (.slice Ar M.length cr) M):=⟨_,rfl,HU.out⟩
 go_loopg [6] c.length (fun kq v6 w'=>∃ (pi:Int) (p:Nat),v6 = .int .i64 pi/\Aside0 (pi=(p:Int)/\p+kq=c.length)/\Aside0 (Kd.R k46 TQ w' w.heap.size (fun _=>True) v9 ([]:List SQ))/\Aside0 (Kd.R Kd.bool 4 w' w.heap.size (fun _=>True) (.slice Ar U.length cr) ((kps c U).take p ++ U.drop p))/\Aside0 (Below w.heap.size w w'))
 case atStart=>exact⟨0,0,rfl,⟨rfl,Nat.zero_add _⟩,HO,⟨by rw [List.take_zero,List.nil_append,List.drop_zero];exact HU.out⟩,HB⟩
 clear HO HU HB HM
 obtain⟨pi,p,rfl,HP,HO,HU,HB⟩:=hrel
 rcases gk with _|k1
 ·have ep:p=c.length:=by have:=HP.out.2;omega
  subst ep
  have hpi:pi=(c.length:Int):=HP.out.1
  subst hpi
  have hfull:(kps c U).take c.length ++ U.drop c.length=kps c U:=by rw [List.take_of_length_le (by rw [kps_len];exact Nat.le_refl _),List.drop_eq_nil_of_le (by rw [HUL.out];exact Nat.le_refl _),List.append_nil]
  rw [hfull] at HU
  have hKU:U.length=(kps c U).length:=by rw [kps_len,HUL.out]
  have nHU:Aside0 (Kd.R Kd.bool 4 wr w.heap.size (fun _=>True) (.slice Ar (kps c U).length cr) (kps c U)):=⟨by rw [<- hKU];exact HU.out⟩
  have HKU:=aM hKU
  clear hfull HU
  have HU:=nHU
  clear nHU
  rw [hKU]
  clear hKU
  go_wp2
  go_loopg [4,7] c.length (fun kq v4 v7 w'=>∃ (ji:Int) (j:Nat),v7 = .int .i64 ji/\Aside0 (ji=(j:Int)/\j+kq=c.length)/\Aside0 (Kd.R k46 TQ w' w.heap.size (fun _=>True) v4 (sqU c U j))/\Aside0 (Kd.R Kd.bool 4 w' w.heap.size (fun _=>True) (.slice Ar (kps c U).length cr) (kps c U))/\Aside0 (Below w.heap.size w w'))
  case atStart=>exact⟨0,0,rfl,⟨rfl,Nat.zero_add _⟩,HO,HU,HB⟩
  clear HO HU HB
  obtain⟨ji,j,rfl,HJ,HO,HU,HB⟩:=hrel
  obtain⟨Ao,co,rfl⟩:=Kd.R_slice HO.out
  rcases gk with _|k1
  ·have ej:j=c.length:=by have:=HJ.out.2;omega
   subst ej
   have hji:ji=(c.length:Int):=HJ.out.1
   subst hji
   go_wp2
   go_ret2
   exact⟨_,U,HU0.out,rfl,HO.out,HB.out⟩
  have hj:j < c.length:=by have:=HJ.out.2;omega
  have hji:ji=(j:Int):=HJ.out.1
  have j0:0<=ji:=by omega
  have j1:ji < (c.length:Int):=by omega
  have ju:ji < ((kps c U).length:Int):=by rw [kps_len];exact j1
  obtain⟨aq,e2,x0,x1,x2,x3,x4⟩:=at_T46 HR0.out ji j0 j1
  cases e2
  have rq:rd_T46 c ji=qa c j:=by rw [hji];exact rd_qa c j
  rw [rq] at x0 x1 x2 x3 x4
  replace x0:=kx HB x0
  replace x1:=kx HB x1
  replace x2:=kx HB x2
  replace x3:=kx HB x3
  replace x4:=kx HB x4
  have rz:rdOf false (kps c U) ji=kp c U j:=by rw [hji,rdOf_nat,kps_get hj]
  have hle:(sqU c U j).length<=600:=by rw [sqU_len];have:=plc_le c U j;omega
  have hlel:=aM hle
  have HN:=aM (sqU_next c U j)
  have HJI:=aM hji
  have hnr:(qa c j).f0=4\/(qa c j).f0=5->0<=(qa c j).f4/\(qa c j).f4 < c.length:=fun g=>n_of h hj g
  obtain⟨q,hq⟩:∃ q,q=qa c j:=⟨_,rfl⟩
  rw [<- hq] at x0 x1 x2 x3 x4 HN hnr
  have J01:=aM (And.intro j0 ju)
  have j0t:=eq_true j0
  have j1t:=eq_true j1
  have jut:=eq_true ju
  have j0b:=decide_eq_true j0
  have j1b:=decide_eq_true j1
  have jub:=decide_eq_true ju
  clear hji rq j0 j1 ju hle hq
  by_cases g:kp c U j=true
  ·rw [g] at rz
   have RZ:=aM rz
   rw [if_pos g] at HN
   clear rz g
   by_cases g4:q.f0=4
   ·obtain⟨n0,n1⟩:=hnr (.inl g4)
    have es:sqQ c U q=⟨q.f0,q.f1,q.f2,q.f3,(plc c U q.f4.toNat:Int)⟩:=if_pos (.inl g4)
    rw [es] at HN
    have PL:=aM (fun (A0:Option Addr) (c0:Nat) (W:World)=>l36Place_go (c:=c) (U:=U) (n:=q.f4) (by omega) n0 (by omega) A0 c0 W)
    have g4b:(q.f0 == 4)=true:=beq_iff_eq.mpr g4
    clear hnr g4 n0 n1 es
    exact SqueezeCodeS_good_s0
   have g4b:(q.f0 == 4)=false:=beq_eq_false_iff_ne.mpr g4
   by_cases g5:q.f0=5
   ·obtain⟨n0,n1⟩:=hnr (.inr g5)
    have es:sqQ c U q=⟨q.f0,q.f1,q.f2,q.f3,(plc c U q.f4.toNat:Int)⟩:=if_pos (.inr g5)
    rw [es] at HN
    have PL:=aM (fun (A0:Option Addr) (c0:Nat) (W:World)=>l36Place_go (c:=c) (U:=U) (n:=q.f4) (by omega) n0 (by omega) A0 c0 W)
    have g5b:(q.f0 == 5)=true:=beq_iff_eq.mpr g5
    clear hnr g4 g5 n0 n1 es
    exact SqueezeCodeS_good_s0
   have g5b:(q.f0 == 5)=false:=beq_eq_false_iff_ne.mpr g5
   have es:sqQ c U q=q:=if_neg (by omega)
   rw [es] at HN
   clear hnr g4 g5 es
   go_wp2_with (first|((with_reducible refine jd 8 rfl ?_);refine jX (ics [0,0,0,0,0]) TQ ?_;intro g8 hg w20 hbox hb;have G8:=kG hg;replace HO:=aM (Kd.R_below (Kd.R_elderB HO.out g8 (Nat.le_of_eq hg.symm)) hb);replace HU:=kR HU hb;replace HB:=kH hb;clear x0 x1 x2 x3 x4;have B8:=aM hbox;clear hg hbox hb)|((with_reducible refine storeQ (p:=8) (v:=47) rfl rfl rfl rfl B8.out ?_);intro w21 hw hb8;replace HO:=aM (R_set_ hw (fun _ hk=>hk.2) HO.out);replace HU:=aM (Kd.R_mono (R_set_ hw (fun _ hk=>hk.2) (Kd.R_types HU.out B8.out (by decide))) (fun _ hk=>hk.1));replace HB:=aM (below_ hw G8.out HB.out);clear B8 hw;have B8:=aM hb8;clear hb8;obtain⟨d0,d1,d2,d3,d4⟩:=cells5' B8.out;obtain⟨ak,e9,z0⟩:=Kd.at_bool (Kd.R_reads' HU.out).2.2 ji J01.out.1 J01.out.2;rw [RZ.out] at z0;(first|cases e9|(injection e9 with e9;subst e9)))|((with_reducible refine gate_builtin (b:=.append) (xs:=#[.tmp 66,.tmp 68]) rfl ?_);at_builtin;refine Kd.R_append k46 (w0:=w) w.heap.size rfl (.tmp 66) (.tmp 68) 25 46 (.agg #[(.int .i64 0),(.int .i64 0),(.int .i64 0),(.int .i64 0),(.int .i64 0)]) 40 rfl Try.underlying25 info46 rfl (by decide) (by omega) (.slice Ao (sqU c U j).length co) (sqU c U j) (⟨q.f0,q.f1,q.f2,q.f3,q.f4⟩:SQ) [.int .i64 q.f0,.int .i64 q.f1,.int .i64 q.f2,.int .i64 q.f3,.int .i64 q.f4] (fun k_=>True/\k_≠g8) (fun _=>False) rfl rfl ?aP (fun _ hk=>hk.elim) ?aF ?aO ?aB ?aS ?aL ?_;(case aP=>exact k46_mkM _ _ _ (⟨q.f0,q.f1,q.f2,q.f3,q.f4⟩:SQ));(case aB=>exact HB.out);(case aF=>exact (fun k_ hk=>⟨trivial,Kd.freshB B8.out k_ hk⟩));(case aO=>exact HO.out);(case aS=>exact HB.out.size);(case aL=>have:=hlel.out;omega);intro v44 w25 ho hb hg hat;have nHU:=aM (Kd.R_over' HU.out (Kd.R_typed HO.out) (by decide) hg);rw [<- HN.out] at ho;replace HO:=aM (Kd.R_mono (ok':=fun _=>True) ho (fun _ _=>trivial));replace HB:=aM hb;clear HU B8 ho hb hg hat d0 d1 d2 d3 d4;have HU:=nHU;clear nHU))
   go_roundg k1
   case measure=>omega
   exact⟨_,j+1,rfl,⟨by have:=HJI.out;(first|omega|(rw [wrap_id (by omega) (by omega)];omega)),by have:=HJ.out.2;omega⟩,HO,HU,HB⟩
  have g:=Bool.eq_false_iff.mpr g
  rw [g] at rz
  have RZ:=aM rz
  rw [if_neg (by rw [g];simp),List.append_nil] at HN
  clear rz g hnr
  go_wp2_with (first|((with_reducible refine jd 8 rfl ?_);refine jX (ics [0,0,0,0,0]) TQ ?_;intro g8 hg w20 hbox hb;have G8:=kG hg;replace HO:=aM (Kd.R_below (Kd.R_elderB HO.out g8 (Nat.le_of_eq hg.symm)) hb);replace HU:=kR HU hb;replace HB:=kH hb;clear x0 x1 x2 x3 x4;have B8:=aM hbox;clear hg hbox hb)|((with_reducible refine storeQ (p:=8) (v:=47) rfl rfl rfl rfl B8.out ?_);intro w21 hw hb8;replace HO:=aM (R_set_ hw (fun _ hk=>hk.2) HO.out);replace HU:=aM (Kd.R_mono (R_set_ hw (fun _ hk=>hk.2) (Kd.R_types HU.out B8.out (by decide))) (fun _ hk=>hk.1));replace HB:=aM (below_ hw G8.out HB.out);clear B8 hw;have B8:=aM hb8;clear hb8;obtain⟨d0,d1,d2,d3,d4⟩:=cells5' B8.out;obtain⟨ak,e9,z0⟩:=Kd.at_bool (Kd.R_reads' HU.out).2.2 ji J01.out.1 J01.out.2;rw [RZ.out] at z0;(first|cases e9|(injection e9 with e9;subst e9))))
  have nHO:=aM (Kd.R_mono (ok':=fun _=>True) HO.out (fun _ _=>trivial))
  clear HO
  have HO:=nHO
  clear nHO
  go_roundg k1
  case measure=>omega
  exact⟨_,j+1,rfl,⟨by have:=HJI.out;(first|omega|(rw [wrap_id (by omega) (by omega)];omega)),by have:=HJ.out.2;omega⟩,⟨by rw [HN.out];exact HO.out⟩,HU,HB⟩
 have hp:p < c.length:=by have:=HP.out.2;omega
 have hpi:pi=(p:Int):=HP.out.1
 have p0:0<=pi:=by omega
 have p1:pi < (c.length:Int):=by omega
 have pu:pi < (U.length:Int):=by rw [HUL.out];exact p1
 obtain⟨aq,e2,x0,x1,x2,x3,x4⟩:=at_T46 HR0.out pi p0 p1
 cases e2
 have rq:rd_T46 c pi=qa c p:=by rw [hpi];exact rd_qa c p
 rw [rq] at x0 x1 x2 x3 x4
 have kl:=kps_len c U
 have cl:=HUL.out
 have hl:=mix_len (A:=kps c U) (B:=U) (by omega) (show p<=(kps c U).length by omega)
 have hgt:=mix_get false (A:=kps c U) (B:=U) (by omega) (show p<=(kps c U).length by omega)
 have hn:=mix_next false (A:=kps c U) (B:=U) (by omega) (show p < (kps c U).length by omega)
 rw [kps_get hp] at hn
 obtain⟨M,hM⟩:∃ M,M=(kps c U).take p ++ U.drop p:=⟨_,rfl⟩
 rw [<- hM] at hl hgt hn HU
 obtain⟨go,cp,he,gb,gl,cells,HG⟩:=Kd.R_form HU.out (by omega)
 simp only [Value.slice.injEq] at he
 obtain⟨rfl,hbm,rfl⟩:=he
 have GO:=aM gb
 clear hbm gb gl HG
 have hz:=(Kd.R_celln false HU.out pi p0 pu).1
 have rz:rdOf false M pi=U.getD p false:=by rw [hpi,rdOf_nat,hgt]
 rw [rz] at hz
 have hset:∀ b,kp c U p=b->M.set pi.toNat b=(kps c U).take (p+1) ++ U.drop (p+1):=fun b e=>by rw [hpi,Int.toNat_natCast,<- e];exact hn
 have HSET:=aM hset
 have HPI:=aM hpi
 have X0:=aM x0
 have X1:=aM x1
 have X2:=aM x2
 have X3:=aM x3
 have X4:=aM x4
 have y0:=kx HB x0
 have y1:=kx HB x1
 have y2:=kx HB x2
 have y3:=kx HB x3
 have y4:=kx HB x4
 have P01:=aM (And.intro p0 pu)
 have A2:=aM (show ∀ b,idle (qa c p) p=b->∀ W,Calls Try.prog 91 #[.agg #[.int .i64 (qa c p).f0,.int .i64 (qa c p).f1,.int .i64 (qa c p).f2,.int .i64 (qa c p).f3,.int .i64 (qa c p).f4],.int .i64 pi] W fun e w'=>e = .returned (.bool b)/\Below W.heap.size W w' from fun b e W=>by rw [hpi];exact l36Idle_go _ (by omega) e W)
 have p0t:=eq_true p0
 have p1t:=eq_true p1
 have put_:=eq_true pu
 have p0b:=decide_eq_true p0
 have p1b:=decide_eq_true p1
 have pub:=decide_eq_true pu
 clear x0 x1 x2 x3 x4 hset hpi rq rz p0 p1 pu hn hgt hl kl cl hM
 by_cases cu:U.getD p false=true
 ·rw [cu] at hz
  by_cases ci:idle (qa c p) p=true
  ·have HS:=aM (HSET.out false (by unfold kp;rw [cu,ci];rfl))
   have A3:=aM (A2.out true ci)
   clear cu ci A2 HSET
   exact SqueezeCodeS_good_s1
  have ci:=Bool.eq_false_iff.mpr ci
  have HS:=aM (HSET.out true (by unfold kp;rw [cu,ci];rfl))
  have A3:=aM (A2.out false ci)
  clear cu ci A2 HSET
  go_wp2_with (first|((with_reducible refine jc 91 34 rfl rfl ?_);(try (refine gate_guard (by rfl) ?_;dsimp only));refine jG Try.func91 #[.agg #[.int .i64 (qa c p).f0,.int .i64 (qa c p).f1,.int .i64 (qa c p).f2,.int .i64 (qa c p).f3,.int .i64 (qa c p).f4],.int .i64 pi] ?_;(with_reducible refine (A3.out _).mono ?_);skip;rintro e w8 ⟨rfl,hb⟩;refine⟨_,rfl,?_⟩;replace HO:=kR HO hb;replace HU:=kR HU hb;replace HB:=kH hb;clear y0 y1 y2 y3 y4 hz;clear hb)|((with_reducible refine gate_store (t:=4) (p:=37) rfl ?_);obtain⟨hx9,hf9⟩:=Kd.R_celln false HU.out pi P01.out.1 P01.out.2;(with_reducible refine storeB1 (p:=37) (y:=true) rfl rfl rfl rfl rfl hx9 hf9 ?_);clear hx9 hf9;intro w9 hw;have pg:=Kd.R_putg HU.out pi true;rw [HS.out] at pg;have nHO:=aM (Kd.R_over' (v:=.slice (some ⟨go,0,none⟩) U.length cr) HO.out (Kd.R_typed HU.out) (by decide) pg.2);have nHU:=aM pg.1;have nHB:=aM (belowP hw GO.out HB.out);change Aside0 (Kd.R _ _ (World.setCell _ _ (.bool true)) _ _ _ _) at nHO nHU;rw [<- hw] at nHO nHU;clear HB HO HU hw pg;have HB:=nHB;have HO:=nHO;have HU:=nHU;clear nHB nHO nHU))
  go_roundg k1
  case measure=>omega
  exact⟨_,p+1,rfl,⟨by have:=HPI.out;(first|omega|(rw [wrap_id (by omega) (by omega)];omega)),by have:=HP.out.2;omega⟩,HO,HU,HB⟩
 have cu:=Bool.eq_false_iff.mpr cu
 rw [cu] at hz
 have HS:=aM (HSET.out false (by unfold kp;rw [cu];rfl))
 clear cu A2 HSET
 exact SqueezeCodeS_good_s1
theorem SSqueezeCode.calls (k:Nat) (A0:Option Addr) (c0:Nat) (l0:List SQ) (r1:List SQ) (r2:Bool) (w:World) (hr0:Kd.C k46 w A0 l0.length l0) (hc0:l0.length<=c0) (h:SSqueezeCode.f k l0=some (r1,r2)) :
  Calls Try.prog 67 #[.slice A0 l0.length c0] w fun e w'=>∃ v0_:Value,e = .returned (.tuple #[v0_,.bool r2])/\Kd.R k46 TQ w' w.heap.size (fun _=>True) v0_ r1/\Below w.heap.size w w':=by
 by_cases hv:CV (qs l0)
 ·obtain⟨U,hU,hE⟩:=SSqueezeCode.ev hv
  have e:=ev_val (fun k=>SSqueezeCode.mono l0 k) hE h
  obtain⟨rfl,rfl⟩:=Prod.mk.inj e
  refine (SqueezeCodeS.good hv A0 c0 w hr0 hc0).mono ?_
  rintro e w' ⟨v,V,hV,rfl,hR,hb⟩
  rw [Sys.lfp_unique (RS_laws hv) hV hU] at hR
  exact⟨v,rfl,hR,hb⟩
 have e:=ev_val (fun k=>SSqueezeCode.mono l0 k) (SSqueezeCode.bad hv) h
 obtain⟨rfl,rfl⟩:=Prod.mk.inj e
 exact SqueezeCodeS.bad hv A0 c0 w hr0 hc0
end Go.Proofs.Ytahbkldagpfcaaa.M
namespace Go.Proofs.Ytahbkldagpfcaaa.M
open Go.RowKit Go.Proofs.YtahbkldagpfcaaaW.PrintWords Go.Proofs.YtahbkldagpfcaaaW.PrintLast Go.Proofs.YtahbkldagpfcaaaW.PrintMore
attribute [local go_sem] max2_int min2_int max_two min_two max_three min_three max_four min_four
def Sl37Once.f (k:Nat) (l0:List (S46)):Option ((List (S46))):=(SFoldCode.f k l0).bind fun bt851=>((SCopyCode.f k bt851.1).bind fun bt855=>((SJumpCode.f k bt855.1).bind fun bt859=>((SDeadCode.f k bt859.1).bind fun bt863=>((SSqueezeCode.f k bt863.1).bind fun bt867=>(some bt867.1)))))
theorem Sl37Once.mono:∀ a0 k,LeO (Sl37Once.f k a0) (Sl37Once.f (k+1) a0):=by
 intro a0 k;unfold Sl37Once.f;have m0:=@SCopyCode.mono;have m1:=@SDeadCode.mono;have m2:=@SFoldCode.mono;have m3:=@SJumpCode.mono;have m4:=@SSqueezeCode.mono;exact mM
theorem Sl37Once.calls (k:Nat) (A0:Option Addr) (c0:Nat) (l0:List (S46)) (r:List (S46)) (w:World) (hr0:Kd.C k46 w A0 l0.length l0) (hc0:l0.length<=c0) (h:Sl37Once.f k l0=some r) :
  Calls Try.prog 48 #[.slice A0 l0.length c0] w fun e w'=>∃ v0_:Value,e = .returned (v0_)/\Kd.R k46 46 w' w.heap.size (fun _=>True) v0_ r/\Below w.heap.size w w':=by
 have HR0:=aM hr0
 have HC0:=aM hc0
 clear hr0 hc0
 have HB:=aM (Below.refl w.heap.size w)
 have H:=h;unfold Sl37Once.f at H
 clear h
 obtain⟨⟨t851,t852⟩,A2,H⟩:=qE H
 try dsimp only at H
 obtain⟨⟨t855,t856⟩,A3,H⟩:=qE H
 try dsimp only at H
 obtain⟨⟨t859,t860⟩,A4,H⟩:=qE H
 try dsimp only at H
 obtain⟨⟨t863,t864⟩,A5,H⟩:=qE H
 try dsimp only at H
 obtain⟨⟨t867,t868⟩,A6,H⟩:=qE H
 try dsimp only at H
 obtain rfl:=Option.some.inj H
 go_enter Try.func48,Try.ntmps48
 go_wp2_with (first|((with_reducible refine jc 63 15 rfl rfl ?_);refine jG Try.func63 #[.slice A0 l0.length c0] ?_;(with_reducible refine (SFoldCode.calls k _ _ l0 t851 t852 _ ?side1 ?side2 A2.out).mono ?_);(case side1=>exact kC HR0.out);(case side2=>exact HC0.out);rintro e w7 ⟨v853,rfl,ho0,hb⟩;refine⟨_,rfl,?_⟩;have HO854:=kL ho0;replace HB:=kH hb;clear hb;(try clear ho0);obtain⟨Ao8,co8,eo8⟩:=Kd.R_slice HO854.out;subst eo8)|((with_reducible refine jc 64 20 rfl rfl ?_);refine jG Try.func64 #[.slice Ao8 t851.length co8] ?_;(with_reducible refine (SCopyCode.calls k _ _ t851 t855 t856 _ ?side1 ?side2 A3.out).mono ?_);(case side1=>exact kC (Kd.R_reads' HO854.out).2.2);(case side2=>exact (Kd.R_reads' HO854.out).2.1);rintro e w9 ⟨v857,rfl,ho0,hb⟩;refine⟨_,rfl,?_⟩;have HO858:=aM (Kd.R_lower (Kd.R_new' ho0 (Kd.R_lt (qR HO854))) (below_size qB));replace HO854:=kO HO854 ho0 hb;replace HB:=kH hb;clear hb;(try clear ho0);obtain⟨Ao10,co10,eo10⟩:=Kd.R_slice HO858.out;subst eo10)|((with_reducible refine jc 65 25 rfl rfl ?_);refine jG Try.func65 #[.slice Ao10 t855.length co10] ?_;(with_reducible refine (SJumpCode.calls k _ _ t855 t859 t860 _ ?side1 ?side2 A4.out).mono ?_);(case side1=>exact kC (Kd.R_reads' HO858.out).2.2);(case side2=>exact (Kd.R_reads' HO858.out).2.1);rintro e w11 ⟨v861,rfl,ho0,hb⟩;refine⟨_,rfl,?_⟩;have HO862:=aM (Kd.R_lower (Kd.R_new' (Kd.R_new' ho0 (Kd.R_lt (qR HO854))) (Kd.R_lt (qR HO858))) (below_size qB));replace HO854:=kO HO854 ho0 hb;replace HO858:=kO HO858 ho0 hb;replace HB:=kH hb;clear hb;(try clear ho0);obtain⟨Ao12,co12,eo12⟩:=Kd.R_slice HO862.out;subst eo12)|((with_reducible refine jc 66 30 rfl rfl ?_);refine jG Try.func66 #[.slice Ao12 t859.length co12] ?_;(with_reducible refine (SDeadCode.calls k _ _ t859 t863 t864 _ ?side1 ?side2 A5.out).mono ?_);(case side1=>exact kC (Kd.R_reads' HO862.out).2.2);(case side2=>exact (Kd.R_reads' HO862.out).2.1);rintro e w13 ⟨v865,rfl,ho0,hb⟩;refine⟨_,rfl,?_⟩;have HO866:=aM (Kd.R_lower (Kd.R_new' (Kd.R_new' (Kd.R_new' ho0 (Kd.R_lt (qR HO854))) (Kd.R_lt (qR HO858))) (Kd.R_lt (qR HO862))) (below_size qB));replace HO854:=kO HO854 ho0 hb;replace HO858:=kO HO858 ho0 hb;replace HO862:=kO HO862 ho0 hb;replace HB:=kH hb;clear hb;(try clear ho0);obtain⟨Ao14,co14,eo14⟩:=Kd.R_slice HO866.out;subst eo14)|((with_reducible refine jc 67 35 rfl rfl ?_);refine jG Try.func67 #[.slice Ao14 t863.length co14] ?_;(with_reducible refine (SSqueezeCode.calls k _ _ t863 t867 t868 _ ?side1 ?side2 A6.out).mono ?_);(case side1=>exact kC (Kd.R_reads' HO866.out).2.2);(case side2=>exact (Kd.R_reads' HO866.out).2.1);rintro e w15 ⟨v869,rfl,ho0,hb⟩;refine⟨_,rfl,?_⟩;have HO870:=aM (Kd.R_lower (Kd.R_new' (Kd.R_new' (Kd.R_new' (Kd.R_new' ho0 (Kd.R_lt (qR HO854))) (Kd.R_lt (qR HO858))) (Kd.R_lt (qR HO862))) (Kd.R_lt (qR HO866))) (below_size qB));replace HO854:=kO HO854 ho0 hb;replace HO858:=kO HO858 ho0 hb;replace HO862:=kO HO862 ho0 hb;replace HO866:=kO HO866 ho0 hb;replace HB:=kH hb;clear hb;(try clear ho0)))
 go_ret
 exact⟨_,by first|rfl|(simp [errW_none,errW_some] <;> rfl)|(simp [*,errW_none,errW_some] <;> rfl),by (with_reducible repeat (first|apply Kd.R_alloc|apply Kd.R_drewN|apply Kd.R_drew));exact Kd.R_mono HO870.out (fun _ hk=>trivial),qB⟩
def SOptimizeOnce.f (k:Nat) (l0:List (S46)):Option ((List (S46)) × Bool):=(SCodeValid.f k l0).bind fun t871=>(if t871=true then ((Sl37Once.f k l0).bind fun t872=>(some (t872,true))) else (some ((([]:List (S46))),false)))
theorem SOptimizeOnce.mono:∀ a0 k,LeO (SOptimizeOnce.f k a0) (SOptimizeOnce.f (k+1) a0):=by
 intro a0 k;unfold SOptimizeOnce.f;have m0:=@SCodeValid.mono;have m1:=@Sl37Once.mono;exact mM
theorem SOptimizeOnce.calls (k:Nat) (A0:Option Addr) (c0:Nat) (l0:List (S46)) (r1:List (S46)) (r2:Bool) (w:World) (hr0:Kd.C k46 w A0 l0.length l0) (hc0:l0.length<=c0) (h:SOptimizeOnce.f k l0=some (r1,r2)) :
  Calls Try.prog 25 #[.slice A0 l0.length c0] w fun e w'=>∃ v0_:Value,e = .returned (.tuple #[v0_,.bool r2])/\Kd.R k46 46 w' w.heap.size (fun _=>True) v0_ r1/\Below w.heap.size w w':=by
 have HR0:=aM hr0
 have HC0:=aM hc0
 clear hr0 hc0
 have HB:=aM (Below.refl w.heap.size w)
 have H:=h;unfold SOptimizeOnce.f at H
 clear h
 obtain⟨t871,A2,H⟩:=qE H
 try dsimp only at H
 replace H:=jB H;rcases H with ⟨rfl,H⟩ | ⟨rfl,H⟩
 ·obtain⟨t872,A4,H⟩:=qE H
  try dsimp only at H
  simp only [Option.some.injEq,Prod.mk.injEq] at H
  obtain⟨rfl,rfl⟩:=H
  go_enter Try.func25,Try.ntmps25
  go_wp2_with (first|((with_reducible refine jc 29 5 rfl rfl ?_);refine jG Try.func29 #[.slice A0 l0.length c0] ?_;(with_reducible refine (SCodeValid.calls k _ _ l0 true _ ?side1 ?side2 A2.out).mono ?_);(case side1=>exact kC HR0.out);(case side2=>exact HC0.out);rintro e w5 ⟨rfl,hb⟩;refine⟨_,rfl,?_⟩;replace HB:=kH hb;clear hb)|((with_reducible refine jc 48 9 rfl rfl ?_);refine jG Try.func48 #[.slice A0 l0.length c0] ?_;(with_reducible refine (Sl37Once.calls k _ _ l0 t872 _ ?side1 ?side2 A4.out).mono ?_);(case side1=>exact kC (Kd.C_below HR0.out HB.out));(case side2=>exact HC0.out);rintro e w6 ⟨v873,rfl,ho0,hb⟩;refine⟨_,rfl,?_⟩;have HO874:=kL ho0;replace HB:=kH hb;clear hb;(try clear ho0)))
  go_ret2
  exact⟨_,by first|rfl|(simp [errW_none,errW_some] <;> rfl)|(simp [*,errW_none,errW_some] <;> rfl),qR HO874,qB⟩
 obtain⟨y875,Ny875⟩:=ky ((([]:List (S46))):List (S46))
 first|replace H:=kz Ny875 H|rw [<- Ny875.out] at H
 simp only [Option.some.injEq,Prod.mk.injEq] at H
 obtain⟨rfl,rfl⟩:=H
 go_enter Try.func25,Try.ntmps25
 go_wp2_with (first|((with_reducible refine jc 29 5 rfl rfl ?_);refine jG Try.func29 #[.slice A0 l0.length c0] ?_;(with_reducible refine (SCodeValid.calls k _ _ l0 false _ ?side1 ?side2 A2.out).mono ?_);(case side1=>exact kC HR0.out);(case side2=>exact HC0.out);rintro e w7 ⟨rfl,hb⟩;refine⟨_,rfl,?_⟩;replace HB:=kH hb;clear hb)|((with_reducible refine jd 7 rfl ?_);refine jV k46 46 ([]:List (S46)) [] (Reps.none _ _) ?_;intro v876 w8 ho9 hb;(first|rw [<- Ny875.out] at ho9|(simp only [Int.reduceToNat] at ho9;rw [<- Ny875.out] at ho9));have HO877:=kL ho9;replace HB:=kH hb;clear hb ho9))
 go_ret2
 exact⟨_,by first|rfl|(simp [errW_none,errW_some] <;> rfl)|(simp [*,errW_none,errW_some] <;> rfl),qR HO877,qB⟩
mutual
def SOptimizeCode.j0:Nat->List (S46)->Int->Bool->Option ((List (S46)) × Bool)
 | 0,_,_,_=>none
 | k+1,x0,x1,x15=>if x15=true then (some ((([]:List (S46))),false)) else ((some (([]:List (S46)):List (S46))).bind fun y993=>(if y993.length+x0.length < 3518437208883 then (SOptimizeCode.l0 k x1 (y993 ++ x0) 0) else (none)))
def SOptimizeCode.l0:Nat->Int->List (S46)->Int->Option ((List (S46)) × Bool)
 | 0,_,_,_=>none
 | k+1,x1,x6,x7=>if x7 < x1 then ((Sl37Once.f k x6).bind fun t999=>(SOptimizeCode.l0 k x1 t999 (wrap64 (x7+1)))) else (some (x6,true))
end
def SOptimizeCode.f (k:Nat) (l0:List (S46)) (a1:Int):Option ((List (S46)) × Bool):=(SCodeValid.f k l0).bind fun t988=>(if t988=true then ((Sl6In.f a1 0 4).bind fun t989=>(SOptimizeCode.j0 k l0 a1 (!t989))) else (SOptimizeCode.j0 k l0 a1 true))
theorem SOptimizeCode.mono_l:∀ k,(∀ y0 y1 y2,LeO (SOptimizeCode.j0 k y0 y1 y2) (SOptimizeCode.j0 (k+1) y0 y1 y2))/\(∀ y0 y1 y2,LeO (SOptimizeCode.l0 k y0 y1 y2) (SOptimizeCode.l0 (k+1) y0 y1 y2))
 | 0=>⟨fun _ _ _ r h=>by simp [SOptimizeCode.j0] at h,fun _ _ _ r h=>by simp [SOptimizeCode.l0] at h⟩
 | k+1=>by
  obtain⟨ih0,ih1⟩:=SOptimizeCode.mono_l k;have m0:=@SCodeValid.mono;have m1:=@Sl37Once.mono
  exact⟨by intros;unfold SOptimizeCode.j0;exact mM,by intros;unfold SOptimizeCode.l0;exact mM⟩
theorem SOptimizeCode.mono:∀ a0 a1 k,LeO (SOptimizeCode.f k a0 a1) (SOptimizeCode.f (k+1) a0 a1):=by
 intro a0 a1 k;obtain⟨ih0,ih1⟩:=SOptimizeCode.mono_l k;unfold SOptimizeCode.f;have m0:=@SCodeValid.mono;have m1:=@Sl37Once.mono;exact mM
theorem SOptimizeCode.calls (k:Nat) (A0:Option Addr) (c0:Nat) (l0:List (S46)) (a1:Int) (r1:List (S46)) (r2:Bool) (w:World) (hr0:Kd.C k46 w A0 l0.length l0) (hc0:l0.length<=c0) (h:SOptimizeCode.f k l0 a1=some (r1,r2)) :
  Calls Try.prog 27 #[.slice A0 l0.length c0,.int .i64 a1] w fun e w'=>∃ v0_:Value,e = .returned (.tuple #[v0_,.bool r2])/\Kd.R k46 46 w' w.heap.size (fun _=>True) v0_ r1/\Below w.heap.size w w':=by
 have HR0:=aM hr0
 have HC0:=aM hc0
 clear hr0 hc0
 have HB:=aM (Below.refl w.heap.size w)
 have H:=h;unfold SOptimizeCode.f at H
 clear h
 have HC3:=aM H
 clear H
 go_enter Try.func27,Try.ntmps27
 go_upto_region 1 with (fail)
 go_cut [15] (fun v15 wc=>∃ (kq:Nat) (x15_2:Bool),v15 = .bool x15_2/\Aside0 (SOptimizeCode.j0 kq l0 a1 x15_2=some (r1,r2))/\Aside0 (kq<=k)/\Aside0 (Below w.heap.size w wc))
 case first =>
  have H:=HC3.out
  clear HC3
  obtain⟨t988,A4,H⟩:=qE H
  try dsimp only at H
  replace H:=jB H;rcases H with ⟨rfl,H⟩ | ⟨rfl,H⟩
  ·obtain⟨t989,A6,H⟩:=qE H
   try dsimp only at H
   have H':=aM H
   clear H
   go_wp2_with (first|((with_reducible refine jc 29 9 rfl rfl ?_);refine jG Try.func29 #[.slice A0 l0.length c0] ?_;(with_reducible refine (SCodeValid.calls k _ _ l0 true _ ?side1 ?side2 A4.out).mono ?_);(case side1=>exact kC (Kd.C_below HR0.out HB.out));(case side2=>exact HC0.out);rintro e w_0a ⟨rfl,hb⟩;refine⟨_,rfl,?_⟩;replace HB:=kH hb;clear hb)|(go_at_call 30;(with_reducible refine (Sl6In.calls _ _ _ _ _ (Aside0.out (by assumption))).mono ?_);rintro e w' ⟨rfl,⟨nd,rfl⟩⟩))
   go_meet
   exact⟨_,_,qZ,H',⟨by first|omega|exact Nat.le_refl _⟩,⟨qB⟩⟩
  have H':=aM H
  clear H
  go_wp2_with (first|((with_reducible refine jc 29 9 rfl rfl ?_);refine jG Try.func29 #[.slice A0 l0.length c0] ?_;(with_reducible refine (SCodeValid.calls k _ _ l0 false _ ?side1 ?side2 A4.out).mono ?_);(case side1=>exact kC (Kd.C_below HR0.out HB.out));(case side2=>exact HC0.out);rintro e w_0a ⟨rfl,hb⟩;refine⟨_,rfl,?_⟩;replace HB:=kH hb;clear hb))
  go_meet
  exact⟨_,_,qZ,H',⟨by first|omega|exact Nat.le_refl _⟩,⟨qB⟩⟩
 clear HC3
 obtain⟨kq,x15_2,rfl,HA,HJ2,HB⟩:=hcut
 cases kq with
 | zero=>exact absurd HA.out (by simp [SOptimizeCode.j0])
 | succ kj2 =>
  have H:=HA.out
  clear HA
  simp only [SOptimizeCode.j0] at H
  replace H:=jB H;rcases H with ⟨rfl,H⟩ | ⟨rfl,H⟩
  ·obtain⟨y990,Ny990⟩:=ky ((([]:List (S46))):List (S46))
   first|replace H:=kz Ny990 H|rw [<- Ny990.out] at H
   simp only [Option.some.injEq,Prod.mk.injEq] at H
   obtain⟨rfl,rfl⟩:=H
   go_wp2_with (first|((with_reducible refine jd 16 rfl ?_);refine jV k46 46 ([]:List (S46)) [] (Reps.none _ _) ?_;intro v991 w_1a h_1b hb;(first|rw [<- Ny990.out] at h_1b|(simp only [Int.reduceToNat] at h_1b;rw [<- Ny990.out] at h_1b));have HO992:=kL h_1b;replace HB:=kH hb;clear hb h_1b))
   go_ret2
   exact⟨_,by first|rfl|(simp [errW_none,errW_some] <;> rfl)|(simp [*,errW_none,errW_some] <;> rfl),qR HO992,qB⟩
  obtain⟨y993,Ny993⟩:=ky ((([]:List (S46))):List (S46))
  first|replace H:=kz Ny993 H|rw [<- Ny993.out] at H
  replace H:=jL H;obtain⟨LMc12,H⟩:=H
  obtain⟨y996,Ny996⟩:=ky ((y993 ++ l0):List (S46))
  first|replace H:=kz Ny996 H|rw [<- Ny996.out] at H
  have H':=aM H
  clear H
  go_wp2_with (first|((with_reducible refine jd 17 rfl ?_);refine jV k46 46 ([]:List (S46)) [] (Reps.none _ _) ?_;intro v994 w13 ho14 hb;(first|rw [<- Ny993.out] at ho14|(simp only [Int.reduceToNat] at ho14;rw [<- Ny993.out] at ho14));have HO995:=kL ho14;replace HB:=kH hb;clear hb ho14)|((with_reducible refine gate_builtin (b:=.append) (xs:=#[.tmp 17,.tmp 18]) rfl ?_);at_builtin;refine Kd.R_append_rows k46 (w0:=w) w.heap.size rfl (.tmp 17) (.tmp 18) 25 46 (.agg #[(.int .i64 0),(.int .i64 0),(.int .i64 0),(.int .i64 0),(.int .i64 0)]) 40 rfl Try.underlying25 info46 rfl (by decide) (by omega) v994 y993 l0 _ _ _ (fun _=>True) (fun _=>False) rfl rfl ?aO ?aR (fun _ _ h=>h) (fun _ h=>h.elim) ?aF ?aB ?aS ?aL ?_;(case aR=>exact kC (Kd.C_below HR0.out HB.out));(case aB=>exact qB);(case aF=>exact (fun _ _=>trivial));(case aO=>exact (qR HO995));(case aS=>exact (below_size qB));(case aL=>have:=LMc12.out;omega);intro v997 w15 ho hb hg hat;rw [<- Ny996.out] at ho;have HO998:=aM ho;replace HB:=aM hb;clear HO995;clear ho hb hg hat))
  go_loopg [6,7] kj2 (fun kq v6 v7 w'=>∃ (x6_2:List (S46)) (x7_2:Int),v7 = .int .i64 x7_2/\Aside0 (SOptimizeCode.l0 kq a1 x6_2 x7_2=some (r1,r2))/\Aside0 (kq<=kj2)/\Aside0 (Kd.R k46 46 w' w.heap.size (fun _=>True) v6 x6_2)/\Aside0 (Below w.heap.size w w'))
  case atStart=>exact⟨(y996),(0),qZ,H',⟨Nat.le_refl _⟩,⟨qR HO998⟩,⟨qB⟩⟩
  clear H'
  obtain⟨x6_2,x7_2,rfl,HA,HK2,HO_6,HB⟩:=hrel
  rcases gk with _|k2
  ·exact absurd HA.out (by simp [SOptimizeCode.l0])
  have H:=HA.out
  clear HA
  simp only [SOptimizeCode.l0] at H
  replace H:=jD H;rcases H with ⟨c16b0,H⟩ | ⟨c16b0,H⟩
  ·obtain⟨t999,A17,H⟩:=qE H
   try dsimp only at H
   have H':=aM H
   clear H
   obtain⟨Ao18,co18,eo18⟩:=Kd.R_slice HO_6.out
   subst eo18
   go_wp2_with (first|((with_reducible refine jc 48 26 rfl rfl ?_);refine jG Try.func48 #[.slice Ao18 x6_2.length co18] ?_;(with_reducible refine (Sl37Once.calls k2 _ _ x6_2 t999 _ ?side1 ?side2 A17.out).mono ?_);(case side1=>exact kC (Kd.R_reads' HO_6.out).2.2);(case side2=>exact (Kd.R_reads' HO_6.out).2.1);rintro e w_2a ⟨v1000,rfl,h_2b,hb⟩;refine⟨_,rfl,?_⟩;have HO1001:=aM (Kd.R_lower (Kd.R_new' h_2b (Kd.R_lt (qR HO_6))) (below_size qB));replace HO_6:=kO HO_6 h_2b hb;replace HB:=kH hb;clear hb;(try clear h_2b)))
   go_roundg k2
   case measure=>have:=HJ2.out;have:=HK2.out;omega
   exact⟨_,_,qZ,H',⟨by have:=HJ2.out;have:=HK2.out;omega⟩,⟨by (with_reducible repeat (first|apply Kd.R_alloc|apply Kd.R_drewN|apply Kd.R_drew));exact Kd.R_mono HO1001.out (fun _ hk=>trivial)⟩,⟨qB⟩⟩
  simp only [Option.some.injEq,Prod.mk.injEq] at H
  obtain⟨rfl,rfl⟩:=H
  go_wp2
  go_ret2
  exact⟨_,by first|rfl|(simp [errW_none,errW_some] <;> rfl)|(simp [*,errW_none,errW_some] <;> rfl),qR HO_6,qB⟩
def IregSet_has.f (a0:Int) (a1:Int):Option (Bool):=if 0<=a1 then (some ((Go.bits .and .u16 (shr .u16 a0 a1) 1) == 1)) else (none)
theorem IregSet_has.calls (a0:Int) (a1:Int) (r:Bool) (w:World) (h:IregSet_has.f a0 a1=some r) :
  Calls Try.prog 37 #[.int .u16 a0,.int .i64 a1] w fun e w'=>e = .returned (.bool r)/\Drawn0 w w':=by
 have H:=h;unfold IregSet_has.f at H
 clear h
 replace H:=jJ H;obtain⟨c3b0,c3b1,H⟩:=H
 obtain⟨ji4,hji4⟩:∃ j_:Int,(shr .u16 a0 a1)=j_:=⟨_,rfl⟩
 replace H:(some ((Go.bits .and .u16 (ji4) 1) == 1))=some r:=by first|(rw [hji4] at H;exact H)|(simp only [hji4] at H ⊢;exact H)
 have hji4_:(a0 / 2 ^ min a1.toNat 16)=ji4:=hji4
 have hji4z:a1<=16->(a0 / 2 ^ a1.toNat)=ji4:=shr_small hji4
 obtain rfl:=Option.some.inj H
 go_enter Try.func37,Try.ntmps37
 go_wp2
 go_ret
 exact⟨by first|rfl|(simp;done)|(simp only [<- hji4] <;> (first|rfl|simp))|(simp [*];done),by repeat (first|exact Drawn0.refl _|apply Drawn0.step)⟩
def IdeadQuads.l0:Nat->List (S46)->List Int->List Int->List (S46)->Int->Int->Option (List Int)
 | 0,_,_,_,_,_,_=>none
 | k+1,x0,x3,x4,x10,x11,x12=>if x12 < x11 then (if 0<=x12 then (if x12 < (x10.length:Int) then ((IsetsOf.f ((rd_T46 x10 x12).f0) ((rd_T46 x10 x12).f1) ((rd_T46 x10 x12).f2) ((rd_T46 x10 x12).f3) ((rd_T46 x10 x12).f4)).bind fun t910=>(if t910>=0 then (if ((rd_T46 x10 x12).f0)=7 then (IdeadQuads.l0 k x0 x3 x4 x10 x11 (wrap64 (x12+1))) else ((IliveBehind.f k x0 x4 x12).bind fun t911=>((IregSet_has.f t911 t910).bind fun t912=>(if t912=true then (IdeadQuads.l0 k x0 x3 x4 x10 x11 (wrap64 (x12+1))) else (if x3.length < 17592186044416 then (IdeadQuads.l0 k x0 (x3 ++ [x12]) x4 x10 x11 (wrap64 (x12+1))) else (none)))))) else (IdeadQuads.l0 k x0 x3 x4 x10 x11 (wrap64 (x12+1))))) else (none)) else (none)) else (some x3)
def IdeadQuads.f (k:Nat) (l0:List (S46)):Option (List Int):=(IliveBefore.f k l0).bind fun t905=>(IdeadQuads.l0 k l0 ([]:List Int) t905 l0 (l0.length:Int) 0)
theorem IdeadQuads.mono_l:∀ k,(∀ y0 y1 y2 y3 y4 y5,LeO (IdeadQuads.l0 k y0 y1 y2 y3 y4 y5) (IdeadQuads.l0 (k+1) y0 y1 y2 y3 y4 y5))
 | 0=>fun _ _ _ _ _ _ r h=>by simp [IdeadQuads.l0] at h
 | k+1=>by
  have ih0:=IdeadQuads.mono_l k;have m0:=@IliveBefore.mono;have m1:=@IliveBehind.mono
  intros;unfold IdeadQuads.l0;exact mM
theorem IdeadQuads.mono:∀ a0 k,LeO (IdeadQuads.f k a0) (IdeadQuads.f (k+1) a0):=by
 intro a0 k;have ih0:=IdeadQuads.mono_l k;unfold IdeadQuads.f;have m0:=@IliveBefore.mono;have m1:=@IliveBehind.mono;exact mM
theorem IdeadQuads_calls_s0 {G:Prop} (h:G:=by
  go_wp2_with (first|((with_reducible refine jd 6 rfl ?_);refine jX _ 46 ?_;intro gb909 hg w_0a hbox hb;have BK909:=aM hbox;have GW909:=kG hg;replace HO_3:=kR HO_3 hb;replace HO_4:=kR HO_4 hb;replace HB:=kH hb;clear hb hbox hg;have c_0b:=jz5 BK909)|((with_reducible refine jc 43 18 rfl rfl ?_);refine jG Try.func43 #[.agg #[.int .i64 ((rd_T46 l0 x12_1).f0),.int .i64 ((rd_T46 l0 x12_1).f1),.int .i64 ((rd_T46 l0 x12_1).f2),.int .i64 ((rd_T46 l0 x12_1).f3),.int .i64 ((rd_T46 l0 x12_1).f4)]] ?_;(with_reducible refine (IsetsOf.calls _ _ _ _ _ _ _ (Aside0.out (by assumption))).mono ?_);rintro e w_1a ⟨rfl,hb⟩;refine⟨_,rfl,?_⟩;replace HO_3:=aM (Kd.R_below (by (with_reducible repeat (first|apply Kd.R_alloc|apply Kd.R_drewN|apply Kd.R_drew));exact (Kd.R_mono (Kd.R_far (p:=⟨gb909,4,none⟩) (Kd.R_far (p:=⟨gb909,3,none⟩) (Kd.R_far (p:=⟨gb909,2,none⟩) (Kd.R_far (p:=⟨gb909,1,none⟩) (Kd.R_far (p:=⟨gb909,0,none⟩) (Kd.R_types HO_3.out BK909.out (by decide)) (fun _ hk=>hk.2) (.int .i64 ((rd_T46 l0 x12_1).f0))) (fun _ hk=>hk.2) (.int .i64 ((rd_T46 l0 x12_1).f1))) (fun _ hk=>hk.2) (.int .i64 ((rd_T46 l0 x12_1).f2))) (fun _ hk=>hk.2) (.int .i64 ((rd_T46 l0 x12_1).f3))) (fun _ hk=>hk.2) (.int .i64 ((rd_T46 l0 x12_1).f4))) (fun _ h_=>h_.1))) hb);replace HO_4:=aM (Kd.R_below (by (with_reducible repeat (first|apply Kd.R_alloc|apply Kd.R_drewN|apply Kd.R_drew));exact (Kd.R_mono (Kd.R_far (p:=⟨gb909,4,none⟩) (Kd.R_far (p:=⟨gb909,3,none⟩) (Kd.R_far (p:=⟨gb909,2,none⟩) (Kd.R_far (p:=⟨gb909,1,none⟩) (Kd.R_far (p:=⟨gb909,0,none⟩) (Kd.R_types HO_4.out BK909.out (by decide)) (fun _ hk=>hk.2) (.int .i64 ((rd_T46 l0 x12_1).f0))) (fun _ hk=>hk.2) (.int .i64 ((rd_T46 l0 x12_1).f1))) (fun _ hk=>hk.2) (.int .i64 ((rd_T46 l0 x12_1).f2))) (fun _ hk=>hk.2) (.int .i64 ((rd_T46 l0 x12_1).f3))) (fun _ hk=>hk.2) (.int .i64 ((rd_T46 l0 x12_1).f4))) (fun _ h_=>h_.1))) hb);replace BK909:=aM (blk_below (g:=gb909) (o:=.cells #[.int .i64 ((rd_T46 l0 x12_1).f0),.int .i64 ((rd_T46 l0 x12_1).f1),.int .i64 ((rd_T46 l0 x12_1).f2),.int .i64 ((rd_T46 l0 x12_1).f3),.int .i64 ((rd_T46 l0 x12_1).f4)] 46 (0,0)) (qF BK909) hb);replace HB:=kH hb;clear hb;(try clear hk);have c_1b:=jz5 BK909;obtain⟨A_1c,c_1d,e_1e⟩:=Kd.R_slice HO_4.out;subst e_1e)|(go_at_call 60;(with_reducible refine (IliveBehind.calls k1 _ _ l0 _ _ t905 x12_1 t911 _ ?side1 ?side2 ?side3 ?side4 A14.out).mono ?_);(case side1=>exact kC (Kd.C_below HR0.out HB.out));(case side2=>exact HC0.out);(case side3=>exact kC (Kd.R_reads' HO_4.out).2.2);(case side4=>exact (Kd.R_reads' HO_4.out).2.1);rintro e w_2a ⟨rfl,hb⟩;replace HO_3:=kR HO_3 hb;replace HO_4:=kR HO_4 hb;replace BK909:=kB BK909 hb;replace HB:=kH hb;clear hb)|(go_at_call 37;(with_reducible refine (IregSet_has.calls _ _ _ _ (Aside0.out (by assumption))).mono ?_);rintro e w' ⟨rfl,⟨nd,rfl⟩⟩))
  go_roundg k1
  case measure=>have:=HK1.out;omega
  exact⟨_,_,qZ,H',⟨by have:=HK1.out;omega⟩,⟨qR HO_3⟩,⟨qR HO_4⟩,⟨qB⟩⟩):G:=h
theorem IdeadQuads.calls (k:Nat) (A0:Option Addr) (c0:Nat) (l0:List (S46)) (r:List Int) (w:World) (hr0:Kd.C k46 w A0 l0.length l0) (hc0:l0.length<=c0) (h:IdeadQuads.f k l0=some r) :
  Calls Try.prog 73 #[.slice A0 l0.length c0] w fun e w'=>∃ v0_:Value,e = .returned (v0_)/\Kd.R (Kd.int .i64) 3 w' w.heap.size (fun _=>True) v0_ r/\Below w.heap.size w w':=by
 have hu46:=Try.underlying46
 have HR0:=aM hr0
 have HC0:=aM hc0
 clear hr0 hc0
 have HB:=aM (Below.refl w.heap.size w)
 have H:=h;unfold IdeadQuads.f at H
 clear h
 obtain⟨t905,A2,H⟩:=qE H
 try dsimp only at H
 have H':=aM H
 clear H
 go_enter Try.func73,Try.ntmps73
 go_wp2_with (first|((with_reducible refine jc 59 9 rfl rfl ?_);refine jG Try.func59 #[.slice A0 l0.length c0] ?_;(with_reducible refine (IliveBefore.calls k _ _ l0 t905 _ ?side1 ?side2 A2.out).mono ?_);(case side1=>exact kC HR0.out);(case side2=>exact HC0.out);rintro e w3 ⟨v906,rfl,ho0,hb⟩;refine⟨_,rfl,?_⟩;have HO907:=kL ho0;replace HB:=kH hb;clear hb;(try clear ho0)))
 go_loopg [3,12] k (fun kq v3 v12 w'=>∃ (x3_1:List Int) (x12_1:Int),v12 = .int .i64 x12_1/\Aside0 (IdeadQuads.l0 kq l0 x3_1 t905 l0 (l0.length:Int) x12_1=some r)/\Aside0 (kq<=k)/\Aside0 (Kd.R (Kd.int .i64) 3 w' w.heap.size (fun _=>True) v3 x3_1)/\Aside0 (Kd.R (Kd.int .u16) 51 w' w.heap.size (fun _=>True) v906 t905)/\Aside0 (Below w.heap.size w w'))
 case atStart=>exact⟨(([]:List Int)),(0),qZ,H',⟨Nat.le_refl _⟩,⟨by first|exact Kd.R_nil _ _ _ _ _|exact Kd.N_nil _ _ _ _ _|exact Kd.V_nil _ _ _ _ _|exact Kd.Q_nil _ _ _ _ _|exact Kd.S_nil _ _ _ _ _⟩,⟨qR HO907⟩,⟨qB⟩⟩
 clear H'
 obtain⟨x3_1,x12_1,rfl,HA,HK1,HO_3,HO_4,HB⟩:=hrel
 rcases gk with _|k1
 ·exact absurd HA.out (by simp [IdeadQuads.l0])
 have H:=HA.out
 clear HA
 simp only [IdeadQuads.l0] at H
 replace H:=jD H;rcases H with ⟨c4b0,H⟩ | ⟨c4b0,H⟩
 ·replace H:=jI H;obtain⟨c5b0,H⟩:=H
  replace H:=jI H;obtain⟨c6b0,H⟩:=H
  obtain⟨t910,A7,H⟩:=qE H
  try dsimp only at H
  replace H:=jD H;rcases H with ⟨c8b0,H⟩ | ⟨c8b0,H⟩
  ·replace H:=jE H;rcases H with ⟨c9b0,c9b1,H⟩ | ⟨c9,c9b0,c9b1,H⟩
   ·have H':=aM H
    clear H
    have p908:0<=(x12_1:Int):=qD
    have q908:x12_1 < (l0.length:Int):=qD
    obtain⟨ad908,e908,hx908_0,hx908_1,hx908_2,hx908_3,hx908_4⟩:=at_T46 HR0.out x12_1 p908 q908
    cases e908
    replace hx908_0:=kx HB hx908_0
    replace hx908_1:=kx HB hx908_1
    replace hx908_2:=kx HB hx908_2
    replace hx908_3:=kx HB hx908_3
    replace hx908_4:=kx HB hx908_4
    replace p908:=eq_true p908
    replace q908:=eq_true q908
    exact IdeadQuads_calls_s0
   obtain⟨t911,A14,H⟩:=qE H
   try dsimp only at H
   obtain⟨t912,A15,H⟩:=qE H
   try dsimp only at H
   replace H:=jB H;rcases H with ⟨rfl,H⟩ | ⟨rfl,H⟩
   ·have H':=aM H
    clear H
    have p908:0<=(x12_1:Int):=qD
    have q908:x12_1 < (l0.length:Int):=qD
    obtain⟨ad908,e908,hx908_0,hx908_1,hx908_2,hx908_3,hx908_4⟩:=at_T46 HR0.out x12_1 p908 q908
    cases e908
    replace hx908_0:=kx HB hx908_0
    replace hx908_1:=kx HB hx908_1
    replace hx908_2:=kx HB hx908_2
    replace hx908_3:=kx HB hx908_3
    replace hx908_4:=kx HB hx908_4
    replace p908:=eq_true p908
    replace q908:=eq_true q908
    exact IdeadQuads_calls_s0
   replace H:=jL H;obtain⟨LMc23,H⟩:=H
   obtain⟨y913,Ny913⟩:=ky ((x3_1 ++ [x12_1]):List Int)
   first|replace H:=kz Ny913 H|rw [<- Ny913.out] at H
   have H':=aM H
   clear H
   have p908:0<=(x12_1:Int):=qD
   have q908:x12_1 < (l0.length:Int):=qD
   obtain⟨ad908,e908,hx908_0,hx908_1,hx908_2,hx908_3,hx908_4⟩:=at_T46 HR0.out x12_1 p908 q908
   cases e908
   replace hx908_0:=kx HB hx908_0
   replace hx908_1:=kx HB hx908_1
   replace hx908_2:=kx HB hx908_2
   replace hx908_3:=kx HB hx908_3
   replace hx908_4:=kx HB hx908_4
   replace p908:=eq_true p908
   replace q908:=eq_true q908
   go_wp2_with (first|((with_reducible refine jd 6 rfl ?_);refine jX _ 46 ?_;intro gb909 hg w_0a hbox hb;have BK909:=aM hbox;have GW909:=kG hg;replace HO_3:=kR HO_3 hb;replace HO_4:=kR HO_4 hb;replace HB:=kH hb;clear hb hbox hg;have c_0b:=jz5 BK909)|((with_reducible refine jc 43 18 rfl rfl ?_);refine jG Try.func43 #[.agg #[.int .i64 ((rd_T46 l0 x12_1).f0),.int .i64 ((rd_T46 l0 x12_1).f1),.int .i64 ((rd_T46 l0 x12_1).f2),.int .i64 ((rd_T46 l0 x12_1).f3),.int .i64 ((rd_T46 l0 x12_1).f4)]] ?_;(with_reducible refine (IsetsOf.calls _ _ _ _ _ _ _ (Aside0.out (by assumption))).mono ?_);rintro e w_1a ⟨rfl,hb⟩;refine⟨_,rfl,?_⟩;replace HO_3:=aM (Kd.R_below (by (with_reducible repeat (first|apply Kd.R_alloc|apply Kd.R_drewN|apply Kd.R_drew));exact (Kd.R_mono (Kd.R_far (p:=⟨gb909,4,none⟩) (Kd.R_far (p:=⟨gb909,3,none⟩) (Kd.R_far (p:=⟨gb909,2,none⟩) (Kd.R_far (p:=⟨gb909,1,none⟩) (Kd.R_far (p:=⟨gb909,0,none⟩) (Kd.R_types HO_3.out BK909.out (by decide)) (fun _ hk=>hk.2) (.int .i64 ((rd_T46 l0 x12_1).f0))) (fun _ hk=>hk.2) (.int .i64 ((rd_T46 l0 x12_1).f1))) (fun _ hk=>hk.2) (.int .i64 ((rd_T46 l0 x12_1).f2))) (fun _ hk=>hk.2) (.int .i64 ((rd_T46 l0 x12_1).f3))) (fun _ hk=>hk.2) (.int .i64 ((rd_T46 l0 x12_1).f4))) (fun _ h_=>h_.1))) hb);replace HO_4:=aM (Kd.R_below (by (with_reducible repeat (first|apply Kd.R_alloc|apply Kd.R_drewN|apply Kd.R_drew));exact (Kd.R_mono (Kd.R_far (p:=⟨gb909,4,none⟩) (Kd.R_far (p:=⟨gb909,3,none⟩) (Kd.R_far (p:=⟨gb909,2,none⟩) (Kd.R_far (p:=⟨gb909,1,none⟩) (Kd.R_far (p:=⟨gb909,0,none⟩) (Kd.R_types HO_4.out BK909.out (by decide)) (fun _ hk=>hk.2) (.int .i64 ((rd_T46 l0 x12_1).f0))) (fun _ hk=>hk.2) (.int .i64 ((rd_T46 l0 x12_1).f1))) (fun _ hk=>hk.2) (.int .i64 ((rd_T46 l0 x12_1).f2))) (fun _ hk=>hk.2) (.int .i64 ((rd_T46 l0 x12_1).f3))) (fun _ hk=>hk.2) (.int .i64 ((rd_T46 l0 x12_1).f4))) (fun _ h_=>h_.1))) hb);replace BK909:=aM (blk_below (g:=gb909) (o:=.cells #[.int .i64 ((rd_T46 l0 x12_1).f0),.int .i64 ((rd_T46 l0 x12_1).f1),.int .i64 ((rd_T46 l0 x12_1).f2),.int .i64 ((rd_T46 l0 x12_1).f3),.int .i64 ((rd_T46 l0 x12_1).f4)] 46 (0,0)) (qF BK909) hb);replace HB:=kH hb;clear hb;(try clear hk);have c_1b:=jz5 BK909;obtain⟨A_1c,c_1d,e_1e⟩:=Kd.R_slice HO_4.out;subst e_1e)|(go_at_call 60;(with_reducible refine (IliveBehind.calls k1 _ _ l0 _ _ t905 x12_1 t911 _ ?side1 ?side2 ?side3 ?side4 A14.out).mono ?_);(case side1=>exact kC (Kd.C_below HR0.out HB.out));(case side2=>exact HC0.out);(case side3=>exact kC (Kd.R_reads' HO_4.out).2.2);(case side4=>exact (Kd.R_reads' HO_4.out).2.1);rintro e w_2a ⟨rfl,hb⟩;replace HO_3:=kR HO_3 hb;replace HO_4:=kR HO_4 hb;replace BK909:=kB BK909 hb;replace HB:=kH hb;clear hb)|(go_at_call 37;(with_reducible refine (IregSet_has.calls _ _ _ _ (Aside0.out (by assumption))).mono ?_);rintro e w' ⟨rfl,⟨nd,rfl⟩⟩)|((with_reducible refine gate_builtin (b:=.append) (xs:=#[.tmp 35,.tmp 37]) rfl ?_);at_builtin;refine Kd.R_append (Kd.int .i64) (w0:=w) w.heap.size rfl (.tmp 35) (.tmp 37) 31 3 (.int .i64 0) 8 rfl Try.underlying31 info3 rfl (by decide) (by omega) u3 x3_1 x12_1 [.int .i64 x12_1] (fun _=>True) (fun _=>False) rfl rfl ?aP (fun _ hk=>hk.elim) ?aF ?aO ?aB ?aS ?aL ?_;(case aP=>exact rfl);(case aB=>exact qB);(case aF=>exact (fun _ _=>trivial));(case aO=>exact (qR HO_3));(case aS=>exact (below_size qB));(case aL=>have:=LMc23.out;omega);intro v914 w_3a ho hb hg hat;rw [<- Ny913.out] at ho;have HO915:=aM ho;replace HO_4:=aM (Kd.R_over' (qR HO_4) (Kd.R_typed (qR HO_3)) (by decide) hg);replace BK909:=aM (blk_grown (g:=gb909) (o:=.cells #[.int .i64 ((rd_T46 l0 x12_1).f0),.int .i64 ((rd_T46 l0 x12_1).f1),.int .i64 ((rd_T46 l0 x12_1).f2),.int .i64 ((rd_T46 l0 x12_1).f3),.int .i64 ((rd_T46 l0 x12_1).f4)] 46 (0,0)) (qK BK909) hg (Kd.R_ne HO_3.out BK909.out (by decide)));replace HB:=aM hb;clear HO_3;clear ho hb hg hat))
   go_roundg k1
   case measure=>have:=HK1.out;omega
   exact⟨_,_,qZ,H',⟨by have:=HK1.out;omega⟩,⟨qR HO915⟩,⟨qR HO_4⟩,⟨qB⟩⟩
  have H':=aM H
  clear H
  have p908:0<=(x12_1:Int):=qD
  have q908:x12_1 < (l0.length:Int):=qD
  obtain⟨ad908,e908,hx908_0,hx908_1,hx908_2,hx908_3,hx908_4⟩:=at_T46 HR0.out x12_1 p908 q908
  cases e908
  replace hx908_0:=kx HB hx908_0
  replace hx908_1:=kx HB hx908_1
  replace hx908_2:=kx HB hx908_2
  replace hx908_3:=kx HB hx908_3
  replace hx908_4:=kx HB hx908_4
  replace p908:=eq_true p908
  replace q908:=eq_true q908
  exact IdeadQuads_calls_s0
 obtain rfl:=Option.some.inj H
 go_wp2
 go_ret
 exact⟨_,by first|rfl|(simp [errW_none,errW_some] <;> rfl)|(simp [*,errW_none,errW_some] <;> rfl),qR HO_3,qB⟩
def IDeadCode.l0:Nat->List (S46)->List Int->Int->Int->Option ((List (S46)) × Bool)
 | 0,_,_,_,_=>none
 | k+1,x4,x13,x14,x15=>if x15 < x14 then (if 0<=x15 then (if x15 < (x13.length:Int) then (if 0<=(rd x13 x15) then (if (rd x13 x15) < (x4.length:Int) then (IDeadCode.l0 k (x4.set ((rd x13 x15):Int).toNat (⟨4,0,0,0,wrap64 ((rd x13 x15)+1)⟩:S46)) x13 x14 (wrap64 (x15+1))) else (none)) else (none)) else (none)) else (none)) else (some (x4,true))
def IDeadCode.f (k:Nat) (l0:List (S46)):Option ((List (S46)) × Bool):=(ICodeValid.f k l0).bind fun t916=>(if t916=true then ((IQuad.f l0).bind fun t917=>((IdeadQuads.f k l0).bind fun t920=>(IDeadCode.l0 k t917 t920 (t920.length:Int) 0))) else (some (([]:List (S46)),false)))
theorem IDeadCode.mono_l:∀ k,(∀ y0 y1 y2 y3,LeO (IDeadCode.l0 k y0 y1 y2 y3) (IDeadCode.l0 (k+1) y0 y1 y2 y3))
 | 0=>fun _ _ _ _ r h=>by simp [IDeadCode.l0] at h
 | k+1=>by
  have ih0:=IDeadCode.mono_l k;have m0:=@ICodeValid.mono;have m1:=@IdeadQuads.mono
  intros;unfold IDeadCode.l0;exact mM
theorem IDeadCode.mono:∀ a0 k,LeO (IDeadCode.f k a0) (IDeadCode.f (k+1) a0):=by
 intro a0 k;have ih0:=IDeadCode.mono_l k;unfold IDeadCode.f;have m0:=@ICodeValid.mono;have m1:=@IdeadQuads.mono;exact mM
theorem IDeadCode.calls (k:Nat) (A0:Option Addr) (c0:Nat) (l0:List (S46)) (r1:List (S46)) (r2:Bool) (w:World) (hr0:Kd.C k46 w A0 l0.length l0) (hc0:l0.length<=c0) (h:IDeadCode.f k l0=some (r1,r2)) :
  Calls Try.prog 52 #[.slice A0 l0.length c0] w fun e w'=>∃ v0_:Value,e = .returned (.tuple #[v0_,.bool r2])/\Kd.R k46 46 w' w.heap.size (fun _=>True) v0_ r1/\Below w.heap.size w w':=by
 have hu46:=Try.underlying46
 have HR0:=aM hr0
 have HC0:=aM hc0
 clear hr0 hc0
 have HB:=aM (Below.refl w.heap.size w)
 have H:=h;unfold IDeadCode.f at H
 clear h
 obtain⟨t916,A2,H⟩:=qE H
 try dsimp only at H
 replace H:=jB H;rcases H with ⟨rfl,H⟩ | ⟨rfl,H⟩
 ·obtain⟨t917,A4,H⟩:=qE H
  try dsimp only at H
  obtain⟨t920,A5,H⟩:=qE H
  try dsimp only at H
  have H':=aM H
  clear H
  go_enter Try.func52,Try.ntmps52
  go_wp2_with (first|((with_reducible refine jc 34 8 rfl rfl ?_);refine jG Try.func34 #[.slice A0 l0.length c0] ?_;(with_reducible refine (ICodeValid.calls k _ _ l0 true _ ?side1 ?side2 A2.out).mono ?_);(case side1=>exact kC HR0.out);(case side2=>exact HC0.out);rintro e w6 ⟨rfl,hb⟩;refine⟨_,rfl,?_⟩;replace HB:=kH hb;clear hb)|((with_reducible refine jc 47 11 rfl rfl ?_);refine jG Try.func47 #[.slice A0 l0.length c0] ?_;(with_reducible refine (IQuad.calls _ _ l0 t917 _ ?side1 ?side2 A4.out).mono ?_);(case side1=>exact kC (Kd.C_below HR0.out HB.out));(case side2=>exact HC0.out);rintro e w7 ⟨v918,rfl,ho0,hb⟩;refine⟨_,rfl,?_⟩;have HO919:=kL ho0;replace HB:=kH hb;clear hb;(try clear ho0))|((with_reducible refine jc 73 13 rfl rfl ?_);refine jG Try.func73 #[.slice A0 l0.length c0] ?_;(with_reducible refine (IdeadQuads.calls k _ _ l0 t920 _ ?side1 ?side2 A5.out).mono ?_);(case side1=>exact kC (Kd.C_below HR0.out HB.out));(case side2=>exact HC0.out);rintro e w8 ⟨v921,rfl,ho0,hb⟩;refine⟨_,rfl,?_⟩;have HO922:=kL ho0;replace HO919:=kR HO919 hb;replace HB:=kH hb;clear hb;(try clear ho0);obtain⟨Ao9,co9,eo9⟩:=Kd.R_slice HO922.out;subst eo9))
  go_loopg [15] k (fun kq v15 w'=>∃ (x4_1:List (S46)) (x15_1:Int),v15 = .int .i64 x15_1/\Aside0 (IDeadCode.l0 kq x4_1 t920 (t920.length:Int) x15_1=some (r1,r2))/\Aside0 (kq<=k)/\Aside0 (Kd.R k46 46 w' w.heap.size (fun _=>True) v918 x4_1)/\Aside0 (Kd.R (Kd.int .i64) 3 w' w.heap.size (fun _=>True) (.slice Ao9 t920.length co9) t920)/\Aside0 (Below w.heap.size w w'))
  case atStart=>exact⟨(t917),(0),qZ,H',⟨Nat.le_refl _⟩,⟨qR HO919⟩,⟨qR HO922⟩,⟨qB⟩⟩
  clear H'
  obtain⟨x4_1,x15_1,rfl,HA,HK1,HO_4,HO_13,HB⟩:=hrel
  rcases gk with _|k1
  ·exact absurd HA.out (by simp [IDeadCode.l0])
  have H:=HA.out
  clear HA
  simp only [IDeadCode.l0] at H
  replace H:=jD H;rcases H with ⟨c10b0,H⟩ | ⟨c10b0,H⟩
  ·replace H:=jI H;obtain⟨c11b0,H⟩:=H
   replace H:=jI H;obtain⟨c12b0,H⟩:=H
   replace H:=jI H;obtain⟨c13b0,H⟩:=H
   replace H:=jI H;obtain⟨c14b0,H⟩:=H
   obtain⟨y924,Ny924⟩:=ky ((x4_1.set ((rd t920 x15_1):Int).toNat (⟨4,0,0,0,wrap64 ((rd t920 x15_1)+1)⟩:S46)):List (S46))
   first|replace H:=kz Ny924 H|rw [<- Ny924.out] at H
   have H':=aM H
   clear H
   have p923:0<=(x15_1:Int):=qD
   have q923:x15_1 < (t920.length:Int):=qD
   obtain⟨ad923,e923,hx923_0⟩:=Kd.at_int (Kd.R_reads' HO_13.out).2.2 x15_1 p923 q923
   cases e923
   replace p923:=eq_true p923
   replace q923:=eq_true q923
   have p15:0<=((rd t920 x15_1):Int):=qD
   have q15:((rd t920 x15_1):Int) < ((x4_1.length:Int):Int):=qD
   obtain⟨go15,co15,eo15,gb15,gl15,cl15,HG15⟩:=Kd.R_form HO_4.out (by omega)
   (first|cases eo15|(injection eo15 with ea_ en_ ec_;(first|subst ea_|(injection ea_ with ea_;subst ea_));subst ec_;clear en_))
   have GB15:=aM gb15
   have GG15:=aM HG15
   clear gb15 gl15 HG15
   obtain⟨ce15,hcl15,hM15,hcc15,hfr15⟩:=Kd.R_elem HO_4.out z46 ((rd t920 x15_1):Int) p15 q15
   obtain rfl:=k46_openM hM15
   have hx15_0:wr.cell? ⟨go15,((rd t920 x15_1):Int).toNat*5,none⟩=some (.int .i64 ((rd_T46 x4_1 (rd t920 x15_1)).f0)):=hcc15 0 _ rfl
   have hx15_1:wr.cell? ⟨go15,((rd t920 x15_1):Int).toNat*5+1,none⟩=some (.int .i64 ((rd_T46 x4_1 (rd t920 x15_1)).f1)):=hcc15 1 _ rfl
   have hx15_2:wr.cell? ⟨go15,((rd t920 x15_1):Int).toNat*5+2,none⟩=some (.int .i64 ((rd_T46 x4_1 (rd t920 x15_1)).f2)):=hcc15 2 _ rfl
   have hx15_3:wr.cell? ⟨go15,((rd t920 x15_1):Int).toNat*5+3,none⟩=some (.int .i64 ((rd_T46 x4_1 (rd t920 x15_1)).f3)):=hcc15 3 _ rfl
   have hx15_4:wr.cell? ⟨go15,((rd t920 x15_1):Int).toNat*5+4,none⟩=some (.int .i64 ((rd_T46 x4_1 (rd t920 x15_1)).f4)):=hcc15 4 _ rfl
   have hf15_0:wr.frozen? ⟨go15,((rd t920 x15_1):Int).toNat*5,none⟩=false:=hfr15 0
   have hf15_1:wr.frozen? ⟨go15,((rd t920 x15_1):Int).toNat*5+1,none⟩=false:=hfr15 1
   have hf15_2:wr.frozen? ⟨go15,((rd t920 x15_1):Int).toNat*5+2,none⟩=false:=hfr15 2
   have hf15_3:wr.frozen? ⟨go15,((rd t920 x15_1):Int).toNat*5+3,none⟩=false:=hfr15 3
   have hf15_4:wr.frozen? ⟨go15,((rd t920 x15_1):Int).toNat*5+4,none⟩=false:=hfr15 4
   clear hcl15 hcc15 hfr15 hM15
   replace p15:=eq_true p15
   replace q15:=eq_true q15
   have HX16:=aM (show Kd.R k46 46 wr w.heap.size (fun _=>True) (.slice (some ⟨go15,0,none⟩) x4_1.length co15) x4_1 from (qR HO_4))
   obtain⟨ce16,hcl16,hM16,hcc16,hfr16⟩:=Kd.R_elem HX16.out z46 ((rd t920 x15_1):Int) (qD) (by have h_:((rd t920 x15_1):Int) < ((x4_1.length:Int):Int):=qD;first|exact h_|(have e_:=(Kd.R_reads' HO_4.out).1;omega)|simpa using h_)
   obtain rfl:=k46_openM hM16
   have HP16:=Kd.R_seg HX16.out ((rd t920 x15_1):Int) (qD) (by have h_:((rd t920 x15_1):Int) < ((x4_1.length:Int):Int):=qD;first|exact h_|(have e_:=(Kd.R_reads' HO_4.out).1;omega)|simpa using h_) (seg:=[.int .i64 4,.int .i64 0,.int .i64 0,.int .i64 0,.int .i64 (wrap64 ((rd t920 x15_1)+1))]) (j:=0) hcl16 hcc16 (show 5<=5 from by decide) (x':=(⟨4,0,0,0,wrap64 ((rd t920 x15_1)+1)⟩:S46)) (k46_mkM _ _ _ (⟨4,0,0,0,wrap64 ((rd t920 x15_1)+1)⟩:S46) ) (fun _ hk=>hk)
   have hx16_0:=hcc16 0 _ rfl
   (try simp only [show (k46).sz=5 from rfl,Nat.mul_one,Nat.add_zero] at hx16_0)
   have hf16_0:=hfr16 0
   (try simp only [show (k46).sz=5 from rfl,Nat.mul_one,Nat.add_zero] at hf16_0)
   have hx16_1:=hcc16 1 _ rfl
   (try simp only [show (k46).sz=5 from rfl,Nat.mul_one,Nat.add_zero] at hx16_1)
   have hf16_1:=hfr16 1
   (try simp only [show (k46).sz=5 from rfl,Nat.mul_one,Nat.add_zero] at hf16_1)
   have hx16_2:=hcc16 2 _ rfl
   (try simp only [show (k46).sz=5 from rfl,Nat.mul_one,Nat.add_zero] at hx16_2)
   have hf16_2:=hfr16 2
   (try simp only [show (k46).sz=5 from rfl,Nat.mul_one,Nat.add_zero] at hf16_2)
   have hx16_3:=hcc16 3 _ rfl
   (try simp only [show (k46).sz=5 from rfl,Nat.mul_one,Nat.add_zero] at hx16_3)
   have hf16_3:=hfr16 3
   (try simp only [show (k46).sz=5 from rfl,Nat.mul_one,Nat.add_zero] at hf16_3)
   have hx16_4:=hcc16 4 _ rfl
   (try simp only [show (k46).sz=5 from rfl,Nat.mul_one,Nat.add_zero] at hx16_4)
   have hf16_4:=hfr16 4
   (try simp only [show (k46).sz=5 from rfl,Nat.mul_one,Nat.add_zero] at hf16_4)
   clear hcl16 hcc16 hfr16 hM16
   go_wp2_with (first|((with_reducible refine gate_store (t:=46) (p:=24) rfl ?_);refine store_event (t:=46) (p:=24) (v:=?vo_w17) (w1:=(((((wr.setCell ⟨go15,((rd t920 x15_1):Int).toNat*5,none⟩ (.int .i64 4)).setCell ⟨go15,((rd t920 x15_1):Int).toNat*5+1,none⟩ (.int .i64 0)).setCell ⟨go15,((rd t920 x15_1):Int).toNat*5+2,none⟩ (.int .i64 0)).setCell ⟨go15,((rd t920 x15_1):Int).toNat*5+3,none⟩ (.int .i64 0)).setCell ⟨go15,((rd t920 x15_1):Int).toNat*5+4,none⟩ (.int .i64 (wrap64 ((rd t920 x15_1)+1))))) ?hg ?ho ?hn ?hr ?_;(case ho=>rfl);(case hg=>rfl);(case hn=>rfl);(case hr=>first|(go_simp;done)|(go_simp;rfl));intro w_0a hw;have hg:wr.grownBy w_0a (some go15):=(by rw [hw];exact HP16.2);have hp_:Kd.R k46 46 w_0a w.heap.size (fun _=>True) (.slice (some ⟨go15,0,none⟩) x4_1.length co15) y924:=(by rw [hw,Ny924.out];exact HP16.1);clear HP16;replace HO_13:=aM (Kd.R_over' (v:=(.slice (some ⟨go15,0,none⟩) x4_1.length co15)) (qR HO_13) (Kd.R_typed HO_4.out) (by decide) hg);replace HO_4:=aM hp_;replace HB:=aM ((by rw [hw];exact below_set (below_set (below_set (below_set (below_set (HB.out) GB15.out) GB15.out) GB15.out) GB15.out) GB15.out:Below w.heap.size w w_0a));clear hg hw hp_))
   go_roundg k1
   case measure=>have:=HK1.out;omega
   exact⟨_,_,qZ,H',⟨by have:=HK1.out;omega⟩,⟨qR HO_4⟩,⟨qR HO_13⟩,⟨qB⟩⟩
  simp only [Option.some.injEq,Prod.mk.injEq] at H
  obtain⟨rfl,rfl⟩:=H
  go_wp2
  go_ret2
  exact⟨_,by first|rfl|(simp [errW_none,errW_some] <;> rfl)|(simp [*,errW_none,errW_some] <;> rfl),qR HO_4,qB⟩
 simp only [Option.some.injEq,Prod.mk.injEq] at H
 obtain⟨rfl,rfl⟩:=H
 go_enter Try.func52,Try.ntmps52
 go_wp2_with (first|((with_reducible refine jc 34 8 rfl rfl ?_);refine jG Try.func34 #[.slice A0 l0.length c0] ?_;(with_reducible refine (ICodeValid.calls k _ _ l0 false _ ?side1 ?side2 A2.out).mono ?_);(case side1=>exact kC HR0.out);(case side2=>exact HC0.out);rintro e w_1a ⟨rfl,hb⟩;refine⟨_,rfl,?_⟩;replace HB:=kH hb;clear hb))
 go_ret2
 exact⟨_,by first|rfl|(simp [errW_none,errW_some] <;> rfl)|(simp [*,errW_none,errW_some] <;> rfl),by first|exact Kd.R_nil _ _ _ _ _|exact Kd.N_nil _ _ _ _ _|exact Kd.V_nil _ _ _ _ _|exact Kd.Q_nil _ _ _ _ _|exact Kd.S_nil _ _ _ _ _,qB⟩
end Go.Proofs.Ytahbkldagpfcaaa.M
namespace Go.Proofs.Ytahbkldagpfcaaa.M
open Go.RowKit Go.Proofs.YtahbkldagpfcaaaW.PrintWords Go.Proofs.YtahbkldagpfcaaaW.PrintLast Go.Proofs.YtahbkldagpfcaaaW.PrintMore PM
theorem le_of_bits {a b:Nat} (h:∀ r,a.testBit r=true->b.testBit r=true):a<=b:=by
 have e:a ||| b=b:=by
  apply Nat.eq_of_testBit_eq
  intro r
  rw [Nat.testBit_or]
  cases h1:a.testBit r
  ·rfl
  rw [h r h1]
  rfl
 rw [<- e]
 exact Nat.left_le_or
theorem sum_set:∀ (L:List Nat) (i x:Nat),i < L.length->(L.set i x).sum+L.getD i 0=L.sum+x
 | a :: L,0,x,h=>by simp;omega
 | a :: L,i+1,x,h=>by
  have:=sum_set L i x (by simpa using h)
  simp only [List.set_cons_succ,List.sum_cons,List.getD_cons_succ]
  omega
theorem sum_le:∀ (L:List Nat),(∀ x∈L,x < 4096)->L.sum<=4096*L.length
 | [],h=>by simp
 | a :: L,h=>by
  have:=sum_le L (fun x hx=>h x (List.mem_cons_of_mem _ hx))
  have:=h a List.mem_cons_self
  simp only [List.sum_cons,List.length_cons]
  omega
theorem tab_sum {n:Nat} {L:List Nat} (h:Tab n L):L.sum<=4096*n:=by
 rw [<- h.1]
 refine sum_le L fun x hx=>?_
 obtain⟨i,hi,e⟩:=List.getElem_of_mem hx
 have:=h.2 i
 rw [List.getD_eq_getElem?_getD,List.getElem?_eq_getElem hi] at this
 rw [<- e]
 exact this
theorem bf_bit {c:List SQ} (h:CV (qs c)) {L:List Nat} (hL:Tab c.length L) {i:Nat} (hi:i < c.length) (r:Nat):(bf c L i).testBit r=true↔((∃ j∈nx (q_ (qa c i)) i,(L.getD j 0).testBit r=true)/\sets (q_ (qa c i))≠r)\/uses (q_ (qa c i)) r:=by
 unfold bf
 rw [bef_bit (cv_at h hi) (aft_lt hL _ _)]
 unfold aft
 rw [joinL_bit]
 simp
/-- Below the next round,and within what is live. -/
structure Good (c:List SQ) (L:List Nat):Prop where
 tab:Tab c.length L
 up:∀ i,i < c.length->∀ r,(L.getD i 0).testBit r=true->(bf c L i).testBit r=true
 sound:∀ i,i < c.length->∀ r,(L.getD i 0).testBit r=true->Live (qs c) i r
theorem Good.step {c:List SQ} (h:CV (qs c)) {L:List Nat} (g:Good c L) {i:Nat} (hi:i < c.length):Good c (L.set i (bf c L i)):=by
 have hT:=g.tab.set i (bf c L i) (bf_lt h g.tab hi)
 have hget:∀ j,(L.set i (bf c L i)).getD j 0=if j=i then bf c L i else L.getD j 0:=fun j=>getD_set L i j _ 0 (by rw [g.tab.1];exact hi)
 have hmono:∀ j r,j < c.length->(L.getD j 0).testBit r=true->((L.set i (bf c L i)).getD j 0).testBit r=true:=by
  intro j r hj hb
  rw [hget]
  split
  ·rename_i e
   subst e
   exact g.up j hi r hb
  exact hb
 have hbf:∀ j r,j < c.length->(bf c L j).testBit r=true->(bf c (L.set i (bf c L i)) j).testBit r=true:=by
  intro j r hj hb
  rw [bf_bit h g.tab hj] at hb
  rw [bf_bit h hT hj]
  rcases hb with ⟨⟨t,ht,hb⟩,hs⟩|hb
  ·exact .inl ⟨⟨t,ht,hmono t r (nx_in h hj t ht) hb⟩,hs⟩
  exact .inr hb
 refine⟨hT,fun j hj r hb=>?_,fun j hj r hb=>?_⟩
 ·rw [hget] at hb
  split at hb
  ·rename_i e
   subst e
   exact hbf j r hj hb
  exact hbf j r hj (g.up j hj r hb)
 rw [hget] at hb
 split at hb
 ·rename_i e
  subst e
  rw [bf_bit h g.tab hj] at hb
  rcases hb with ⟨⟨t,ht,hb⟩,hs⟩|hb
  ·exact Live.flow (by rw [qs_len];exact hj) (by rw [at_qs];exact hs) (by rw [at_qs];exact ht) (g.sound t (nx_in h hj t ht) r hb)
  exact Live.use (by rw [qs_len];exact hj) (by rw [at_qs];exact hb)
 exact g.sound j hj r hb
theorem rnd_good {c:List SQ} (h:CV (qs c)):∀ (i:Nat),i<=c.length->∀ (L:List Nat) (b:Bool),Good c L->Good c (rnd c i L b).1
 | 0,hi,L,b,g=>g
 | i+1,hi,L,b,g=>rnd_good h i (by omega) _ _ (g.step h (by omega))
theorem rnd_quiet {c:List SQ}:∀ (i:Nat),i<=c.length->∀ (L:List Nat) (b:Bool),L.length=c.length->(rnd c i L b).2=false->b=false/\(rnd c i L b).1=L/\∀ j,j < i->bf c L j=L.getD j 0
 | 0,hi,L,b,hl,e=>⟨e,rfl,fun j hj=>by omega⟩
 | i+1,hi,L,b,hl,e=>by
  obtain⟨e1,e2,e3⟩:=rnd_quiet i (by omega) (L.set i (bf c L i)) _ (by rw [List.length_set];exact hl) e
  have f:=Bool.or_eq_false_iff.1 e1
  have f2:bf c L i=L.getD i 0:=by simpa using f.2
  have f3:L.set i (bf c L i)=L:=by rw [f2];exact set_same (by omega)
  rw [f3] at e3
  refine⟨f.1,e2.trans f3,fun j hj=>?_⟩
  by_cases hji:j=i
  ·rw [hji]
   exact f2
  exact e3 j (by omega)
theorem rnd_sum {c:List SQ} (h:CV (qs c)):∀ (i:Nat),i<=c.length->∀ (L:List Nat) (b:Bool),Good c L->L.sum<=(rnd c i L b).1.sum/\((rnd c i L b).2=true->b=true\/L.sum < (rnd c i L b).1.sum)
 | 0,hi,L,b,g=>⟨Nat.le_refl _,fun e=>.inl e⟩
 | i+1,hi,L,b,g=>by
  obtain⟨h1,h2⟩:=rnd_sum h i (by omega) (L.set i (bf c L i)) (b || !decide (bf c L i=L.getD i 0)) (g.step h (i:=i) (by omega))
  have hs:=sum_set L i (bf c L i) (by rw [g.tab.1];omega)
  have hle:=le_of_bits (g.up i (by omega))
  simp only [rnd]
  refine⟨by omega,fun e=>?_⟩
  rcases h2 e with e2|e2
  ·rcases Bool.or_eq_true_iff.1 e2 with e3|e3
   ·exact .inl e3
   have:bf c L i≠L.getD i 0:=by simpa using e3
   exact .inr (by omega)
  exact .inr (by omega)
/-- The table of what is live before each quad. -/
structure LT (c:List SQ) (L:List Nat):Prop where
 tab:Tab c.length L
 iff:∀ i,i < c.length->∀ r,(L.getD i 0).testBit r=true↔Live (qs c) i r
theorem live_loop {c:List SQ} (h:CV (qs c)):∀ (m:Nat) (L:List Nat),Good c L->4096*c.length < m+L.sum->∃ T,LT c T/\Ev (fun k=>SLiveOf.l1 k c (rows L)) (rows T)/\Ev (fun k=>IliveBefore.l0 k c (ints L) true) (ints T)
 | 0,L,g,hm=>by
  have:=tab_sum g.tab
  omega
 | m+1,L,g,hm=>by
  have h6:=cv600 h
  have hw:wrap64 ((c.length:Int) - 1)=(c.length:Int) - 1:=wrap_id (by omega) (by omega)
  have hr:=Sl32Round.out h c.length (Nat.le_refl _) L false g.tab
  have hi:∀ v,Ev (fun k=>IliveBefore.l0 k c (ints (rnd c c.length L false).1) (rnd c c.length L false).2) v->Ev (fun k=>IliveBefore.l1 k c (ints L) false ((c.length:Int) - 1)) v:=fun v=>IliveBefore.out h c.length (Nat.le_refl _) L false g.tab
  cases e:(rnd c c.length L false).2 with
  | false =>
   obtain⟨_,e2,e3⟩:=rnd_quiet c.length (Nat.le_refl _) L false g.tab.1 e
   refine⟨L,⟨g.tab,fun i hi r=>?_⟩,?_,?_⟩
   ·refine live_of_closed (c:=qs c) (T:=fun i r=>i < c.length->(L.getD i 0).testBit r=true) (fun i r hi' ht=>g.sound i (by rwa [qs_len] at hi') r (ht (by rwa [qs_len] at hi'))) ?_ ?_ i r (by rw [qs_len];exact hi) |>.symm.trans ⟨fun x=>x hi,fun x _=>x⟩ |>.symm
    ·intro i r _ hu hi
     rw [<- e3 i hi,bf_bit h g.tab hi]
     rw [at_qs] at hu
     exact .inr hu
    intro i j r _ hs hj ht hi
    rw [<- e3 i hi,bf_bit h g.tab hi]
    rw [at_qs] at hs hj
    exact .inl ⟨⟨j,hj,ht (nx_in h hi j hj)⟩,hs⟩
   ·refine Ev.succ ?_
    simp only [SLiveOf.l1,Sl32Round.f,hw]
    refine Ev.bind hr ?_
    refine Ev.neg (Ev.eq Ev.pure ?_) ?_
    ·rw [e2]
    simp [e]
   refine Ev.succ ?_
   simp only [IliveBefore.l0,hw]
   refine Ev.pos (hi _ ?_)
   rw [e,e2]
   refine Ev.succ ?_
   simp only [IliveBefore.l0]
   exact Ev.neg Ev.pure
  | true =>
   have hs:=(rnd_sum h c.length (Nat.le_refl _) L false g).2 e
   have hs':L.sum < (rnd c c.length L false).1.sum:=by
    rcases hs with x|x
    ·cases x
    exact x
   obtain⟨T,t1,t2,t3⟩:=live_loop h m (rnd c c.length L false).1 (rnd_good h c.length (Nat.le_refl _) L false g) (by omega)
   refine⟨T,t1,?_,?_⟩
   ·refine Ev.succ ?_
    simp only [SLiveOf.l1,Sl32Round.f,hw]
    refine Ev.bind hr (Ev.pos t2 ?_)
    exact e
   refine Ev.succ ?_
   simp only [IliveBefore.l0,hw]
   refine Ev.pos (hi _ ?_)
   rw [e]
   exact t3
theorem good_zero {c:List SQ}:Good c (List.replicate c.length 0):=by
 have z:∀ i,(List.replicate c.length 0).getD i 0=0:=by
  intro i
  rw [List.getD_eq_getElem?_getD,List.getElem?_replicate]
  split <;> rfl
 refine⟨⟨by simp,fun i=>by rw [z];decide⟩,fun i hi r hb=>?_,fun i hi r hb=>?_⟩ <;>
 ·rw [z] at hb
  simp at hb
theorem SLiveOf.start {c:List SQ} (h6:c.length<=600) {v:List (List Bool)} (g:Ev (fun k=>SLiveOf.l1 k c (rows (List.replicate c.length 0))) v):∀ (d p:Nat),p+d=c.length->Ev (fun k=>SLiveOf.l0 k c (rows (List.replicate p 0)) (p:Int)) v
 | 0,p,hp=>by
  refine Ev.succ ?_
  simp only [SLiveOf.l0]
  refine Ev.neg ?_
  rw [show p=c.length from by omega]
  exact g
 | d+1,p,hp=>by
  refine Ev.succ ?_
  simp only [SLiveOf.l0,rows_len,List.length_replicate,wrap_up (show p < 9223372036854775807 by omega)]
  refine Ev.pos (Ev.pos (Ev.pos ?_))
  have:=SLiveOf.start h6 g d (p+1) (by omega)
  rw [List.replicate_succ',show rows (List.replicate p 0 ++ [0])=rows (List.replicate p 0) ++ [List.replicate 12 false] from by simp [rows,row_zero]] at this
  exact this
/-- Both answer one table: what is live. -/
theorem live_ev {c:List SQ} (h:CV (qs c)):∃ T,LT c T/\Ev (fun k=>SLiveOf.f k c) (rows T)/\Ev (fun k=>IliveBefore.f k c) (ints T):=by
 have h6:=cv600 h
 obtain⟨T,t1,t2,t3⟩:=live_loop h (4096*c.length+1) (List.replicate c.length 0) good_zero (by omega)
 refine⟨T,t1,?_,?_⟩
 ·simp only [SLiveOf.f]
  refine Ev.some (Ev.bind (SCodeValid.ev c) (Ev.pos ?_ (decide_eq_true h)))
  exact SLiveOf.start h6.2 t2 c.length 0 (by omega)
 simp only [IliveBefore.f,Int.toNat_natCast]
 refine Ev.pos (Ev.pos ?_)
 rw [show List.replicate c.length (0:Int)=ints (List.replicate c.length 0) from by simp [ints]]
 exact t3
theorem has_bit' {s r:Nat} (hs:s < 65536) (hr:r < 16):IregSet_has.f (s:Int) (r:Int)=some (s.testBit r):=by
 unfold IregSet_has.f
 rw [if_pos (by omega),has_bit hs hr]
/-- A quad is dead. -/
def dd (c:List SQ) (L:List Nat) (i:Nat):Bool:=((qa c i).f0 == 1 || (qa c i).f0 == 2 || (qa c i).f0 == 3) && !(aft (q_ (qa c i)) i L).testBit (qa c i).f1.toNat
def deadQ (c:List SQ) (L:List Nat) (i:Nat):SQ:=if dd c L i=true then ⟨4,0,0,0,((i+1:Nat):Int)⟩ else qa c i
def deadC (L:List Nat) (c:List SQ):List SQ:=(List.range c.length).map (deadQ c L)
theorem deadC_len (L:List Nat) (c:List SQ):(deadC L c).length=c.length:=by simp [deadC]
theorem deadC_get (L:List Nat) {c:List SQ} {i:Nat} (h:i < c.length):qa (deadC L c) i=deadQ c L i:=by simp [deadC,qa,List.getD_eq_getElem?_getD,h]
theorem rdOf_row {s:Nat} {r:Int} (h0:0<=r) (h1:r < 12):rdOf false (row s) r=s.testBit r.toNat:=by
 have:=rdOf_nat false (row s) r.toNat
 rw [Int.toNat_of_nonneg h0] at this
 rw [this]
 exact row_get _ _ (by omega)
theorem Sl35Dead.e {c:List SQ} (h:CV (qs c)) {i:Nat} (hi:i < c.length) (L:List Nat):Sl35Dead.f (qa c i).f0 (qa c i).f1 (qa c i).f2 (qa c i).f3 (qa c i).f4 (row (aft (q_ (qa c i)) i L))=some (dd c L i):=by
 obtain⟨⟨d0,d1⟩,_⟩:=regs_of (cv_at h hi)
 simp only [q_] at d0 d1
 unfold Sl35Dead.f dd
 rw [rdOf_row d0 d1,row_len]
 by_cases c1:(qa c i).f0=1
 ·rw [if_pos c1,if_pos d0,if_pos (show (qa c i).f1 < ((12:Nat):Int) by omega)]
  simp [c1]
 rw [if_neg c1]
 by_cases c2:(qa c i).f0=2
 ·rw [if_pos c2,if_pos d0,if_pos (show (qa c i).f1 < ((12:Nat):Int) by omega)]
  simp [c2]
 rw [if_neg c2]
 by_cases c3:(qa c i).f0=3
 ·rw [if_pos c3,if_pos d0,if_pos (show (qa c i).f1 < ((12:Nat):Int) by omega)]
  simp [c3]
 rw [if_neg c3]
 simp [c1,c2,c3]
theorem SDeadCode.out {c:List SQ} (h:CV (qs c)) {L:List Nat} (hL:Tab c.length L):∀ (d p:Nat),p+d=c.length->Ev (fun k=>SDeadCode.l0 k c ((deadC L c).take p) (rows L) (p:Int)) (deadC L c,true)
 | 0,p,hp=>by
  refine Ev.succ ?_
  simp only [SDeadCode.l0]
  refine Ev.neg (Ev.eq Ev.pure ?_)
  rw [List.take_of_length_le (by rw [deadC_len];omega)]
 | d+1,p,hp=>by
  have h6:=cv600 h
  have hi:p < c.length:=by omega
  refine Ev.succ ?_
  have lt:((deadC L c).take p).length < 3518437208883:=by rw [List.length_take,deadC_len];omega
  have ih:=SDeadCode.out h hL d (p+1) (by omega)
  have e:(deadC L c).take p ++ [deadQ c L p]=(deadC L c).take (p+1):=by
   rw [<- deadC_get L hi]
   exact take_next _ (by rw [deadC_len];exact hi)
  rw [<- e] at ih
  simp only [SDeadCode.l0,rd_qa,wrap_up (show p < 9223372036854775807 by omega)]
  refine Ev.pos (Ev.pos (Ev.bind (Sl32After.ev h hL hi) ?_))
  rw [Sl35Dead.e h hi]
  refine Ev.some ?_
  by_cases g:dd c L p=true
  ·rw [deadQ,if_pos g] at ih
   exact Ev.pos (Ev.pos ih lt)
  rw [deadQ,if_neg g] at ih
  exact Ev.neg (Ev.pos ih lt)
/-- The dead quads from p on. -/
def deads (c:List SQ) (L:List Nat):List Nat:=(List.range c.length).filter (dd c L)
def upto (c:List SQ) (L:List Nat) (p:Nat):List Nat:=(List.range p).filter (dd c L)
theorem upto_next (c:List SQ) (L:List Nat) (p:Nat):upto c L (p+1)=upto c L p ++ (if dd c L p=true then [p] else []):=by
 unfold upto
 rw [List.range_succ,List.filter_append]
 congr 1
 by_cases h:dd c L p=true <;> simp [h]
theorem upto_len (c:List SQ) (L:List Nat) (p:Nat):(upto c L p).length<=p:=by
 have:=List.length_filter_le (dd c L) (List.range p)
 rwa [List.length_range] at this
theorem IdeadQuads.out {c:List SQ} (h:CV (qs c)) {L:List Nat} (hL:Tab c.length L):∀ (d p:Nat),p+d=c.length->Ev (fun k=>IdeadQuads.l0 k c (ints (upto c L p)) (ints L) c (c.length:Int) (p:Int)) (ints (deads c L))
 | 0,p,hp=>by
  refine Ev.succ ?_
  simp only [IdeadQuads.l0]
  refine Ev.neg (Ev.eq Ev.pure ?_)
  rw [show p=c.length from by omega]
  rfl
 | d+1,p,hp=>by
  have h6:=cv600 h
  have hi:p < c.length:=by omega
  have hs:IsetsOf.f (qa c p).f0 (qa c p).f1 (qa c p).f2 (qa c p).f3 (qa c p).f4=some (sets (q_ (qa c p))):=IsetsOf.e (q_ (qa c p))
  have ih:=IdeadQuads.out h hL d (p+1) (by omega)
  rw [upto_next] at ih
  have ha:=aft_lt hL (q_ (qa c p)) p
  obtain⟨⟨d0,d1⟩,_⟩:=regs_of (cv_at h hi)
  simp only [q_] at d0 d1
  refine Ev.succ ?_
  simp only [IdeadQuads.l0,rd_qa,hs,wrap_up (show p < 9223372036854775807 by omega)]
  refine Ev.pos (Ev.pos (Ev.pos (Ev.some ?_)))
  by_cases g:(qa c p).f0=1\/(qa c p).f0=2\/(qa c p).f0=3
  ·have es:sets (q_ (qa c p))=(qa c p).f1:=by
    unfold sets
    exact if_pos (by show (qa c p).f0=1\/(qa c p).f0=2\/(qa c p).f0=3\/(qa c p).f0=7;omega)
   have gd:dd c L p = !(aft (q_ (qa c p)) p L).testBit (qa c p).f1.toNat:=by
    unfold dd
    rcases g with g|g|g <;> simp [g]
   rw [es]
   refine Ev.pos (Ev.neg (Ev.bind (IliveBehind.ev h hL hi) ?_))
   have hb:=has_bit' (s:=aft (q_ (qa c p)) p L) (r:=(qa c p).f1.toNat) (by omega) (by omega)
   rw [Int.toNat_of_nonneg d0] at hb
   rw [hb]
   refine Ev.some ?_
   cases t:(aft (q_ (qa c p)) p L).testBit (qa c p).f1.toNat with
   | true =>
    refine Ev.pos ?_ rfl
    rw [gd,t] at ih
    simpa using ih
   | false =>
    refine Ev.neg (Ev.pos ?_ (by rw [ints_len];have:=upto_len c L p;omega)) (by simp)
    rw [gd,t] at ih
    have e:ints (upto c L p) ++ [(p:Int)]=ints (upto c L p ++ [p]):=by simp [ints]
    rw [e]
    simpa using ih
  have gd:dd c L p=false:=by
   unfold dd
   have g1:(qa c p).f0≠1:=by omega
   have g2:(qa c p).f0≠2:=by omega
   have g3:(qa c p).f0≠3:=by omega
   simp [g1,g2,g3]
  rw [gd] at ih
  simp only [Bool.false_eq_true,if_false,List.append_nil] at ih
  by_cases g7:(qa c p).f0=7
  ·have es:sets (q_ (qa c p))=(qa c p).f1:=by
    unfold sets
    exact if_pos (.inr (.inr (.inr g7)))
   rw [es]
   exact Ev.pos (Ev.pos ih)
  have es:sets (q_ (qa c p)) = -1:=by
   unfold sets
   exact if_neg (by show ¬ ((qa c p).f0=1\/(qa c p).f0=2\/(qa c p).f0=3\/(qa c p).f0=7);omega)
  rw [es]
  exact Ev.neg ih
theorem IDeadCode.out {c:List SQ} (h:CV (qs c)) {L:List Nat}:∀ (d p:Nat),p+d=(deads c L).length->∀ x:List SQ,x.length=c.length->(∀ i,i < c.length->qa x i=if i∈(deads c L).take p then ⟨4,0,0,0,((i+1:Nat):Int)⟩ else qa c i)->Ev (fun k=>IDeadCode.l0 k x (ints (deads c L)) ((deads c L).length:Int) (p:Int)) (deadC L c,true)
 | 0,p,hp,x,hx,hq=>by
  refine Ev.succ ?_
  simp only [IDeadCode.l0]
  refine Ev.neg (Ev.eq Ev.pure ?_)
  have:x=deadC L c:=by
   apply List.ext_getElem (by rw [hx,deadC_len])
   intro i h1 h2
   have e:=hq i (by omega)
   have e2:=deadC_get L (c:=c) (i:=i) (by omega)
   rw [List.take_of_length_le (by omega)] at e
   have e3:qa x i=qa (deadC L c) i:=by
    rw [e,e2,deadQ]
    unfold deads
    by_cases g:dd c L i=true
    ·rw [if_pos (by simp [g];omega),if_pos g]
    rw [if_neg (by simp [g]),if_neg g]
   unfold qa at e3
   rwa [List.getD_eq_getElem?_getD,List.getD_eq_getElem?_getD,List.getElem?_eq_getElem h1,List.getElem?_eq_getElem h2] at e3
  rw [this]
 | d+1,p,hp,x,hx,hq=>by
  have h6:=cv600 h
  have hm:(deads c L).getD p 0∈deads c L:=getD_mem (by omega)
  have hlt:(deads c L).getD p 0 < c.length:=by
   unfold deads at hm ⊢
   exact List.mem_range.1 (List.mem_filter.1 hm).1
  have hdl:(deads c L).length<=c.length:=upto_len c L c.length
  refine Ev.succ ?_
  simp only [IDeadCode.l0,ints_len,rd_ints,hx,Int.toNat_natCast,wrap_up (show p < 9223372036854775807 by omega),wrap_up (show (deads c L).getD p 0 < 9223372036854775807 by omega)]
  refine Ev.pos (Ev.pos (Ev.pos (Ev.pos (Ev.pos ?_))))
  refine IDeadCode.out h d (p+1) (by omega) _ (by rw [List.length_set];exact hx) fun i hi=>?_
  unfold qa
  rw [getD_set x _ i _ _ (by omega),<- take_next 0 (show p < (deads c L).length by omega)]
  by_cases e:i=(deads c L).getD p 0
  ·rw [if_pos e,if_pos (by simp [e]),e]
  rw [if_neg e]
  have:=hq i hi
  unfold qa at this
  rw [this]
  by_cases g:i∈(deads c L).take p
  ·rw [if_pos g,if_pos (by simp [g])]
  rw [if_neg g,if_neg]
  rw [List.mem_append,List.mem_singleton]
  exact fun y=>y.elim g e
theorem deadC_valid {c:List SQ} (h:CV (qs c)) (L:List Nat):CV (qs (deadC L c)):=by
 have h6:=cv600 h
 refine cv_of (by rw [deadC_len];exact h6.1) (by rw [deadC_len];exact h6.2) (fun i hi=>?_) ?_
 ·rw [deadC_len] at hi ⊢
  rw [deadC_get L hi,deadQ]
  split
  ·rename_i g
   have lt:i+1 < c.length:=by
    have hl:=cv_last h
    have:i≠c.length - 1:=by
     intro e
     rw [<- e] at hl
     unfold dd at g
     rcases hl with hl|hl <;> simp [hl] at g
    omega
   exact .inr (.inr (.inr (.inl ⟨rfl,rfl,rfl,rfl,by show (0:Int)<=((i+1:Nat):Int);omega,by show ((i+1:Nat):Int) < (c.length:Int);omega⟩)))
  exact cv_at h hi
 rw [deadC_len,deadC_get L (by omega),deadQ]
 split
 ·exact .inr rfl
 exact cv_last h
/-- Both answer one code,and it is valid. -/
theorem dead_ev {c:List SQ} (h:CV (qs c)):∃ v,v.length=c.length/\CV (qs v)/\Ev (fun k=>SDeadCode.f k c) (v,true)/\Ev (fun k=>IDeadCode.f k c) (v,true):=by
 have h6:=cv600 h
 obtain⟨L,hL,e1,e2⟩:=live_ev h
 refine⟨deadC L c,deadC_len L c,deadC_valid h L,?_,?_⟩
 ·simp only [SDeadCode.f]
  exact Ev.some (Ev.bind (SCodeValid.ev c) (Ev.pos (Ev.bind e1 (SDeadCode.out h hL.1 c.length 0 (Nat.zero_add _))) (decide_eq_true h)))
 simp only [IDeadCode.f,IQuad.f]
 refine Ev.bind (ICodeValid.ev c) (Ev.pos (Ev.bind (Ev.const (if_pos (by omega))) (Ev.bind (F:=fun k=>IdeadQuads.f k c) (a:=ints (deads c L)) ?_ ?_)) (decide_eq_true h))
 ·simp only [IdeadQuads.f]
  exact Ev.bind e2 (IdeadQuads.out h hL.1 c.length 0 (Nat.zero_add _))
 rw [ints_len]
 exact IDeadCode.out h (deads c L).length 0 (Nat.zero_add _) c rfl fun i hi=>by simp
/-- One pass of the five answers v for c. -/
def Step:Nat->List SQ->List SQ->Prop
 | 0,c,v=>Ev (fun k=>SFoldCode.f k c) (v,true)
 | 1,c,v=>Ev (fun k=>SCopyCode.f k c) (v,true)
 | 2,c,v=>Ev (fun k=>SJumpCode.f k c) (v,true)
 | 3,c,v=>Ev (fun k=>SDeadCode.f k c) (v,true)
 | _,c,v=>Ev (fun k=>SSqueezeCode.f k c) (v,true)
theorem step0 {c:List SQ} (h:CV (qs c)):∃ v,CV (qs v)/\Step 0 c v:=by
 obtain⟨U,hU,e⟩:=SFoldCode.ev h
 exact⟨_,foldC_valid h hU.1.1,e⟩
theorem step1 {c:List SQ} (h:CV (qs c)):∃ v,CV (qs v)/\Step 1 c v:=by
 obtain⟨U,hU,e⟩:=SCopyCode.ev h
 exact⟨_,copyC_valid h hU.1.1,e⟩
theorem step2 {c:List SQ} (h:CV (qs c)):∃ v,CV (qs v)/\Step 2 c v:=⟨_,jumpC_valid h,SJumpCode.ev h⟩
theorem step3 {c:List SQ} (h:CV (qs c)):∃ v,CV (qs v)/\Step 3 c v:=by
 obtain⟨v,_,hv,e,_⟩:=dead_ev h
 exact⟨v,hv,e⟩
theorem step4 {c:List SQ} (h:CV (qs c)):∃ v,CV (qs v)/\Step 4 c v:=by
 obtain⟨U,hU,e⟩:=SSqueezeCode.ev h
 exact⟨_,sqC_valid h hU,e⟩
/-- The first j passes lead from c to y. -/
def Lead:Nat->List SQ->List SQ->Prop
 | 0,c,y=>y=c
 | j+1,c,y=>∃ x,Lead j c x/\Step j x y
theorem lead_once {c y:List SQ} (h:Lead 5 c y):Ev (fun k=>Sl37Once.f k c) y:=by
 obtain⟨x4,⟨x3,⟨x2,⟨x1,⟨x0,rfl,s0⟩,s1⟩,s2⟩,s3⟩,s4⟩:=h
 simp only [Sl37Once.f]
 exact Ev.bind s0 (Ev.bind s1 (Ev.bind s2 (Ev.bind s3 (Ev.bind s4 Ev.pure))))
theorem Sl37Once.ev {c:List SQ} (h:CV (qs c)):∃ v,CV (qs v)/\Ev (fun k=>Sl37Once.f k c) v:=by
 obtain⟨x1,h1,s1⟩:=step0 h
 obtain⟨x2,h2,s2⟩:=step1 h1
 obtain⟨x3,h3,s3⟩:=step2 h2
 obtain⟨x4,h4,s4⟩:=step3 h3
 obtain⟨x5,h5,s5⟩:=step4 h4
 exact⟨x5,h5,lead_once ⟨_,⟨_,⟨_,⟨_,⟨_,rfl,s1⟩,s2⟩,s3⟩,s4⟩,s5⟩⟩
theorem SOptimizeCode.last (t:Int) (x:List SQ):Ev (fun k=>SOptimizeCode.l0 k t x t) (x,true):=by
 refine Ev.succ ?_
 simp only [SOptimizeCode.l0]
 exact Ev.neg Ev.pure
theorem SOptimizeCode.next {t:Int} (ht:t<=4) {r:Nat} (hr:(r:Int) < t) {x y:List SQ} (h:Ev (fun k=>Sl37Once.f k x) y) {z:List SQ × Bool} (hz:Ev (fun k=>SOptimizeCode.l0 k t y ((r+1:Nat):Int)) z):Ev (fun k=>SOptimizeCode.l0 k t x (r:Int)) z:=by
 refine Ev.succ ?_
 simp only [SOptimizeCode.l0,wrap_up (show r < 9223372036854775807 by omega)]
 exact Ev.pos (Ev.bind h hz)
theorem SOptimizeCode.out {t:Nat} (ht:t<=4):∀ (d r:Nat),r+d=t->∀ {x:List SQ},CV (qs x)->∃ v,CV (qs v)/\Ev (fun k=>SOptimizeCode.l0 k (t:Int) x (r:Int)) (v,true)
 | 0,r,hr,x,h=>⟨x,h,by rw [show r=t from by omega];exact SOptimizeCode.last _ _⟩
 | d+1,r,hr,x,h=>by
  obtain⟨y,hy,e⟩:=Sl37Once.ev h
  obtain⟨v,hv,e2⟩:=SOptimizeCode.out ht d (r+1) (by omega) hy
  exact⟨v,hv,SOptimizeCode.next (by omega) (by omega) e e2⟩
/-- A code and how often: what is asked of both. -/
def okT (c:List SQ) (t:Int):Prop:=CV (qs c)/\0<=t/\t<=4
theorem SOptimizeCode.start {c:List SQ} {t:Int} (h:okT c t) {z:List SQ × Bool} (hz:Ev (fun k=>SOptimizeCode.l0 k t c 0) z):Ev (fun k=>SOptimizeCode.f k c t) z:=by
 have h6:=cv600 h.1
 simp only [SOptimizeCode.f,Sl6In.e]
 refine Ev.bind (SCodeValid.ev c) (Ev.pos (Ev.some ?_) (decide_eq_true h.1))
 rw [decide_eq_true h.2]
 refine Ev.succ ?_
 simp only [SOptimizeCode.j0]
 refine Ev.neg (Ev.some (Ev.pos hz ?_)) (by simp)
 simp only [List.length_nil]
 omega
theorem SOptimizeCode.ev {c:List SQ} {t:Int} (h:okT c t):∃ v,CV (qs v)/\Ev (fun k=>SOptimizeCode.f k c t) (v,true):=by
 obtain⟨v,hv,e⟩:=SOptimizeCode.out (t:=t.toNat) (by have:=h.2;omega) t.toNat 0 (Nat.zero_add _) h.1
 rw [Int.toNat_of_nonneg h.2.1] at e
 exact⟨v,hv,SOptimizeCode.start h e⟩
theorem SOptimizeCode.bad {c:List SQ} {t:Int} (h:¬ okT c t):Ev (fun k=>SOptimizeCode.f k c t) ([],false):=by
 have j:Ev (fun k=>SOptimizeCode.j0 k c t true) ([],false):=by
  refine Ev.succ ?_
  simp only [SOptimizeCode.j0]
  exact Ev.pos Ev.pure
 simp only [SOptimizeCode.f,Sl6In.e]
 refine Ev.bind (SCodeValid.ev c) ?_
 by_cases hv:CV (qs c)
 ·refine Ev.pos (Ev.some ?_) (decide_eq_true hv)
  have ht:¬ (0<=t/\t<=4):=fun x=>h ⟨hv,x⟩
  rw [decide_eq_false ht]
  exact j
 exact Ev.neg j (by unfold cvB;simp [hv])
theorem SOptimizeOnce.good {c:List SQ} (h:CV (qs c)) {v:List SQ} (e:Ev (fun k=>Sl37Once.f k c) v):Ev (fun k=>SOptimizeOnce.f k c) (v,true):=by
 simp only [SOptimizeOnce.f]
 exact Ev.bind (SCodeValid.ev c) (Ev.pos (Ev.bind e Ev.pure) (decide_eq_true h))
theorem SOptimizeOnce.bad {c:List SQ} (h:¬ CV (qs c)):Ev (fun k=>SOptimizeOnce.f k c) ([],false):=by
 simp only [SOptimizeOnce.f]
 exact Ev.bind (SCodeValid.ev c) (Ev.neg Ev.pure (by unfold cvB;simp [h]))
/-- Once by the one function,and one time by the other. -/
theorem once_same {c:List SQ} {v:List SQ} (h:CV (qs c)) (e:Ev (fun k=>Sl37Once.f k c) v):Ev (fun k=>SOptimizeCode.f k c 1) (v,true) :=
 SOptimizeCode.start ⟨h,by omega,by omega⟩ (SOptimizeCode.next (t:=1) (r:=0) (by omega) (by omega) e (SOptimizeCode.last _ _))
def ISqueezeCode.f (k:Nat) (l0:List SQ):Option (List SQ × Bool):=SSqueezeCode.f k l0
theorem ISqueezeCode.mono:∀ a0 k,LeO (ISqueezeCode.f k a0) (ISqueezeCode.f (k+1) a0):=SSqueezeCode.mono
theorem hasTarget_e (q:SQ):IhasTarget.f q.f0 q.f1 q.f2 q.f3 q.f4=some (decide (q.f0=4\/q.f0=5)):=by
 unfold IhasTarget.f
 by_cases h:q.f0=4 <;> by_cases g:q.f0=5 <;> simp [h,g]
theorem hasEffect_e (q:SQ) {i:Nat} (hi:i < 9223372036854775807):IhasEffect.f q.f0 q.f1 q.f2 q.f3 q.f4 (i:Int)=some (!idle q i):=by
 unfold IhasEffect.f idle
 rw [hasTarget_e,wrap_up hi]
 simp only [Option.bind_some]
 by_cases h:q.f0=4\/q.f0=5
 ·have h2:¬ q.f0=2:=by omega
  rw [decide_eq_true h,if_pos rfl,if_pos h]
  by_cases g:q.f4=((i+1:Nat):Int)
  ·rw [if_pos g]
   simp [g]
  rw [if_neg g,if_neg h2]
  have:(q.f4 == ((i+1:Nat):Int))=false:=beq_eq_false_iff_ne.2 g
  rw [this]
 rw [decide_eq_false h,if_neg (by simp),if_neg h]
 by_cases g:q.f0=2
 ·rw [if_pos g]
  simp [g]
 rw [if_neg g]
 simp [g]
/-- The quads that are kept,not yet led anew. -/
def sqK (c:List SQ) (U:List Bool) (p:Nat):List SQ:=((List.range p).filter (kp c U)).map fun i=>qa c i
theorem sqK_next (c:List SQ) (U:List Bool) (p:Nat):sqK c U (p+1)=sqK c U p ++ (if kp c U p=true then [qa c p] else []):=by
 unfold sqK
 rw [List.range_succ,List.filter_append,List.map_append]
 congr 1
 by_cases h:kp c U p=true <;> simp [h]
theorem sqK_len (c:List SQ) (U:List Bool) (p:Nat):(sqK c U p).length=plc c U p:=by simp [sqK,plc]
theorem sqC_map (c:List SQ) (U:List Bool):sqC c U=(sqK c U c.length).map (sqQ c U):=by
 unfold sqC sqU sqK
 rw [List.map_map]
 rfl
theorem sqC_at {c:List SQ} {U:List Bool} {j:Nat} (h:j < (sqK c U c.length).length):(sqC c U).getD j z46=sqQ c U (qa (sqK c U c.length) j):=by
 rw [sqC_map]
 simp [qa,List.getD_eq_getElem?_getD,List.getElem?_eq_getElem h]
def nums (c:List SQ) (U:List Bool) (p:Nat):List Int:=(List.range c.length).map fun i=>if i < p then (plc c U i:Int) else 0
theorem nums_len (c:List SQ) (U:List Bool) (p:Nat):(nums c U p).length=c.length:=by simp [nums]
theorem nums_get {c:List SQ} {U:List Bool} {p i:Nat} (h:i < c.length):(nums c U p).getD i 0=if i < p then (plc c U i:Int) else 0:=by simp [nums,List.getD_eq_getElem?_getD,h]
theorem sqK_src {c:List SQ} {U:List Bool} {j:Nat} (h:j < (sqK c U c.length).length):∃ i,i < c.length/\qa (sqK c U c.length) j=qa c i:=by
 have h':j < ((List.range c.length).filter (kp c U)).length:=by
  unfold sqK at h
  rwa [List.length_map] at h
 obtain⟨i,h1,h2,h3,h4⟩:=get_filter _ h'
 refine⟨i,h1,?_⟩
 unfold sqK
 rw [qa,List.getD_eq_getElem?_getD,List.getElem?_map,h3]
 rfl
theorem nums_zero (c:List SQ) (U:List Bool):nums c U 0=List.replicate c.length 0:=by
 apply List.ext_getElem (by simp [nums])
 intro i h1 h2
 simp [nums]
theorem nums_set {c:List SQ} {U:List Bool} {p:Nat} (h:p < c.length):(nums c U p).set p (plc c U p:Int)=nums c U (p+1):=by
 apply List.ext_getElem (by simp [nums])
 intro i h1 h2
 simp only [nums,List.getElem_set,List.getElem_map,List.getElem_range]
 by_cases e:p=i
 ·subst e
  rw [if_pos rfl,if_pos (by omega)]
 rw [if_neg e]
 by_cases l:i < p
 ·rw [if_pos l,if_pos (by omega)]
 rw [if_neg l,if_neg (by omega)]
theorem putN {W:World} {base g n cap:Nat} {ok:Nat->Prop} {xs:List SQ} (h:Kd.R k46 TQ W base ok (.slice (some ⟨g,0,none⟩) n cap) xs) {i:Int} (h0:0<=i) (h1:i < n) (v:Int) {q:SQ} (hq:xs.getD i.toNat z46=q) :
  Kd.R k46 TQ (W.setCell ⟨g,i.toNat*5+4,none⟩ (.int .i64 v)) base ok (.slice (some ⟨g,0,none⟩) n cap) (xs.set i.toNat ⟨q.f0,q.f1,q.f2,q.f3,v⟩)/\W.cell? ⟨g,i.toNat*5+4,none⟩=some (.int .i64 q.f4)/\W.frozen? ⟨g,i.toNat*5+4,none⟩=false:=by
 obtain⟨ce,hcl,hM,hcc,hfr⟩:=Kd.R_elem h z46 i h0 h1
 rw [hq] at hM
 obtain rfl:=k46_openM hM
 have HP:=Kd.R_seg h i h0 h1 (seg:=[.int .i64 v]) (j:=4) hcl hcc (by show 4+1<=5;omega) (x':=⟨q.f0,q.f1,q.f2,q.f3,v⟩) (k46_mkM _ _ _ (⟨q.f0,q.f1,q.f2,q.f3,v⟩:SQ)) (fun _ hk=>hk)
 exact⟨HP.1,hcc 4 _ rfl,hfr 4⟩
theorem make_ints {ops:Array Oper} {rest:List Oper} {op:Oper} {a:Act} {Q:Exit->Act->World->Prop} {W:World} (hgd:op.guard=none) {N:Tmp} (hd:op.dst=some N) {x y:Operand} (ho:op.op = .makeSlice 31 x y) {n:Nat} (hn:n<=600) (hx:a.eval x = .int .i64 (n:Int)) (hy:a.eval y = .int .i64 (n:Int))
  (h:∀ g,g=W.heap.size->∀ w1,w1.heap[g]?=some (.cells (ics (List.replicate n 0)) 3 (0,0))->Below W.heap.size W w1->wpList Try.prog ops Q rest (a.put op.dst (.slice (some ⟨g,0,none⟩) n n)) w1):wpList Try.prog ops Q (op :: rest) a W:=by
 have hinfo:(Try.prog.info? 3).map (fun i=>(i.zero,i.size,i.bytes))=some (some (.int .i64 0),1,8):=by kernel_rfl
 obtain⟨i0,hi,hzz⟩:=Option.map_eq_some_iff.1 hinfo
 simp only [Prod.mk.injEq] at hzz
 obtain⟨hz0,hz1,hz2⟩:=hzz
 have hr:=run_make (P:=Try.prog) W 31 3 i0 (.int .i64 0) Try.underlying31 hi hz0 .i64 .i64 (n:Int) (n:Int) (by omega) (Int.le_refl _) (by rw [hz2];omega) (by omega)
 rw [hz1] at hr
 simp only [Int.toNat_natCast,Nat.mul_one] at hr
 have hm:madeCells (Value.int .i64 0).cells n=ics (List.replicate n 0):=by
  have hz:(Value.int .i64 0).cells = #[.int .i64 0]:=rfl
  rw [hz]
  apply Array.ext
  ·simp [madeCells,encs]
  intro j h1 h2
  simp [madeCells,encs,Nat.mod_one]
 rw [hm] at hr
 refine Kd.event_run hgd (v:=.slice (some ⟨W.heap.size,0,none⟩) n n) (w1:=W.alloc (.cells (ics (List.replicate n 0)) 3 (0,0))) ?_ (h _ rfl _ (blk_new W _) (below_alloc (Below.refl _ _) _))
 simp [execOp,ho,hx,hy,hr]
theorem CV.reach {c:List SQ} (h:CV (qs c)):∃ U,(RS c).Lfp U/\∀ (A0:Option Addr) (c0:Nat) (w:World),Kd.C k46 w A0 c.length c->c.length<=c0->Calls Try.prog 74 #[.slice A0 c.length c0] w fun e w'=>∃ v,e = .returned v/\Kd.R Kd.bool 4 w' w.heap.size (fun _=>True) v U/\Below w.heap.size w w':=by
 obtain⟨U,hU,_,hE⟩:=reach_ev h
 obtain⟨k,hk⟩:=hE.get
 exact⟨U,hU,fun A0 c0 w hr hc=>ICodeReach.calls k A0 c0 c U w hr hc hk⟩
theorem SqueezeCode.bad {c:List SQ} (h:¬ CV (qs c)) (A0:Option Addr) (c0:Nat) (w:World) (hr0:Kd.C k46 w A0 c.length c) (hc0:c.length<=c0) :
  Calls Try.prog 53 #[.slice A0 c.length c0] w fun e w'=>∃ v0_:Value,e = .returned (.tuple #[v0_,.bool false])/\Kd.R k46 TQ w' w.heap.size (fun _=>True) v0_ ([]:List SQ)/\Below w.heap.size w w':=by
 have HR0:=aM hr0
 have HC0:=aM hc0
 clear hr0 hc0
 have hv:cvB c=false:=decide_eq_false h
 have HV:=aM hv
 clear h hv
 have HB:=aM (Below.refl w.heap.size w)
 go_enter Try.func53,Try.ntmps53
 go_wp2_with (first|(go_at_call 34;(with_reducible refine (CV.go HV.out A0 c0 _ ?s1 HC0.out).mono ?_);(case s1=>exact Kd.C_below HR0.out HB.out);rintro e w5 ⟨rfl,hb⟩;replace HB:=kH hb;clear hb))
 go_ret2
 exact⟨_,rfl,Kd.R_nil _ _ _ _ _,HB.out⟩
theorem SqueezeCode_good_s0 {G:Prop} (h:G:=by
  go_wp2_with (first|((with_reducible refine store1 (p:=28) rfl rfl rfl rfl rfl BN.out hm ?_);intro w7 hw hbn;rw [HSET.out] at hbn;have nHO:=aM (Kd.R_mono (R_put hw (fun _ hk=>hk.2) (Kd.R_types HO.out BN.out (by decide))) (fun _ hk=>hk.1));have nHU:=aM (Kd.R_mono (R_put hw (fun _ hk=>hk.2) (Kd.R_types HU.out BN.out (by decide))) (fun _ hk=>hk.1));replace HB:=aM (belowP hw GN.out HB.out);clear BN HO HU hw z0;have BN:=aM hbn;have HO:=nHO;have HU:=nHU;clear nHO nHU hbn;have y0:=kx HB X0.out;have y1:=kx HB X1.out;have y2:=kx HB X2.out;have y3:=kx HB X3.out;have y4:=kx HB X4.out)|((with_reducible refine jc 75 36 rfl rfl ?_);(try (refine gate_guard (by rfl) ?_;dsimp only));refine jG Try.func75 #[.agg #[.int .i64 (qa c p).f0,.int .i64 (qa c p).f1,.int .i64 (qa c p).f2,.int .i64 (qa c p).f3,.int .i64 (qa c p).f4],.int .i64 pi] ?_;(with_reducible refine (IhasEffect.calls _ _ _ _ _ _ _ _ A2.out).mono ?_);rintro e w8 ⟨rfl,hb⟩;refine⟨_,rfl,?_⟩;replace BN:=kB BN hb;replace HO:=kR HO hb;replace HU:=kR HU hb;replace HB:=kH hb;clear hb y0 y1 y2 y3 y4;have y0:=kx HB X0.out;have y1:=kx HB X1.out;have y2:=kx HB X2.out;have y3:=kx HB X3.out;have y4:=kx HB X4.out))
  go_roundg k1
  case measure=>omega
  exact⟨_,p+1,rfl,⟨by have:=HPI.out;(first|omega|(rw [wrap_id (by omega) (by omega)];omega)),by have:=HP.out.2;omega⟩,BN,⟨by rw [HE.out];exact HO.out⟩,HU,HB⟩):G:=h
theorem SqueezeCode.good {c:List SQ} (h:CV (qs c)) (A0:Option Addr) (c0:Nat) (w:World) (hr0:Kd.C k46 w A0 c.length c) (hc0:c.length<=c0) :
  Calls Try.prog 53 #[.slice A0 c.length c0] w fun e w'=>∃ (v0_:Value) (U:List Bool),(RS c).Lfp U/\e = .returned (.tuple #[v0_,.bool true])/\Kd.R k46 TQ w' w.heap.size (fun _=>True) v0_ (sqC c U)/\Below w.heap.size w w':=by
 have HR0:=aM hr0
 have HC0:=aM hc0
 clear hr0 hc0
 have h6:=cv600 h
 have h6':c.length<=600:=h6.2
 have HV:=aM (show cvB c=true from decide_eq_true h)
 have HB:=aM (Below.refl w.heap.size w)
 obtain⟨U,hU,hgo⟩:=CV.reach h
 have hUl:U.length=c.length:=hU.1.1.1
 have HUL:=aM hUl
 clear hUl
 have HU0:=aM hU
 have HGO:=aM hgo
 clear hU hgo
 go_enter Try.func53,Try.ntmps53
 go_wp2_with (first|(go_at_call 34;(with_reducible refine (CV.go HV.out A0 c0 _ ?s1 HC0.out).mono ?_);(case s1=>exact Kd.C_below HR0.out HB.out);rintro e w5 ⟨rfl,hb⟩;replace HB:=kH hb;clear hb)|((with_reducible refine jd 15 rfl ?_);refine make_ints rfl (N:=15) rfl rfl h6' rfl rfl ?_;intro gn hg w1 hbox hb;have BN:=aM (show w1.heap[gn]?=some (.cells (ics (nums c U 0)) 3 (0,0)) by rw [nums_zero];exact hbox);have GN:=kG hg;replace HB:=kH hb;clear hg hbox hb)|(go_at_call 74;(with_reducible refine (HGO.out A0 c0 _ ?s2 HC0.out).mono ?_);(case s2=>exact Kd.C_below HR0.out HB.out);rintro e w6 ⟨v17,rfl,ho,hb⟩;obtain⟨Ar,cr,rfl⟩:=Kd.R_slice ho;have HU:=aM (Kd.R_mono (ok':=fun k=>True/\some k≠(.slice none 0 0:Value).ownBlock) (Kd.R_lower ho HB.out.size) (fun _ _=>⟨trivial,by simp [Value.ownBlock]⟩));replace BN:=kB BN hb;replace HB:=kH hb;clear hb ho))
 have HO:Aside0 (Kd.R k46 TQ w6 w.heap.size (fun k=>some k≠(.slice Ar U.length cr:Value).ownBlock) (.slice none 0 0) (sqK c U 0)):=⟨Kd.R_nil _ _ _ _ _⟩
 go_loopg [5,19] c.length (fun kq v5 v19 w'=>∃ (pi:Int) (p:Nat),v19 = .int .i64 pi/\Aside0 (pi=(p:Int)/\p+kq=c.length)/\Aside0 (w'.heap[gn]?=some (.cells (ics (nums c U p)) 3 (0,0)))/\Aside0 (Kd.R k46 TQ w' w.heap.size (fun k=>some k≠(.slice Ar U.length cr:Value).ownBlock) v5 (sqK c U p))/\Aside0 (Kd.R Kd.bool 4 w' w.heap.size (fun k=>True/\some k≠v5.ownBlock) (.slice Ar U.length cr) U)/\Aside0 (Below w.heap.size w w'))
 case atStart=>exact⟨0,0,rfl,⟨rfl,Nat.zero_add _⟩,BN,HO,HU,HB⟩
 clear BN HO HU HB
 obtain⟨pi,p,rfl,HP,BN,HO,HU,HB⟩:=hrel
 obtain⟨Ao,co,rfl⟩:=Kd.R_slice HO.out
 rcases gk with _|k1
 ·have ep:p=c.length:=by have:=HP.out.2;omega
  subst ep
  have hpi:pi=(U.length:Int):=by rw [HUL.out];exact HP.out.1
  subst hpi
  have cl0:(sqC c U).length=(sqK c U c.length).length:=by rw [sqC_map,List.length_map]
  have hle:(sqK c U c.length).length<=600:=by rw [sqK_len];have:=plc_le c U c.length;omega
  generalize hB:sqK c U c.length=B at cl0 HO hle ⊢
  have HBB:=aM hB.symm
  clear hB
  go_wp2
  go_loopg [48] B.length (fun kq v48 w'=>∃ (ji:Int) (j:Nat),v48 = .int .i64 ji/\Aside0 (ji=(j:Int)/\j+kq=B.length)/\Aside0 (w'.heap[gn]?=some (.cells (ics (nums c U c.length)) 3 (0,0)))/\Aside0 (Kd.R k46 TQ w' w.heap.size (fun k=>some k≠(.slice Ar U.length cr:Value).ownBlock) (.slice Ao B.length co) ((sqC c U).take j ++ B.drop j))/\Aside0 (Below w.heap.size w w'))
  case atStart=>exact⟨0,0,rfl,⟨rfl,Nat.zero_add _⟩,BN,⟨by rw [List.take_zero,List.nil_append,List.drop_zero];exact HO.out⟩,HB⟩
  clear BN HO HU HB
  obtain⟨ji,j,rfl,HJ,BN,HO,HB⟩:=hrel
  rcases gk with _|k1
  ·have ej:j=B.length:=by have:=HJ.out.2;omega
   subst ej
   have hji:ji=(B.length:Int):=HJ.out.1
   subst hji
   go_wp2
   go_ret2
   have hfin:=HO.out
   rw [List.take_of_length_le (by rw [cl0];exact Nat.le_refl _),List.drop_eq_nil_of_le (Nat.le_refl _),List.append_nil] at hfin
   exact⟨_,U,HU0.out,rfl,Kd.R_mono hfin (fun _ _=>trivial),HB.out⟩
  have hj:j < B.length:=by have:=HJ.out.2;omega
  have hji:ji=(j:Int):=HJ.out.1
  have j0:0<=ji:=by omega
  have j1:ji < (B.length:Int):=by omega
  obtain⟨i,hi,eqi⟩:=sqK_src (c:=c) (U:=U) (j:=j) (by rw [<- HBB.out];exact hj)
  rw [<- HBB.out] at eqi
  have hML:((sqC c U).take j ++ B.drop j).length=B.length:=by rw [mix_len cl0 (by omega),cl0]
  have hat:((sqC c U).take j ++ B.drop j).getD ji.toNat z46=qa B j:=by rw [hji,Int.toNat_natCast,mix_get z46 cl0 (by omega)];rfl
  have hget:(sqC c U).getD j z46=sqQ c U (qa B j):=by rw [HBB.out];exact sqC_at (by rw [<- HBB.out];exact hj)
  have hnext:=mix_next z46 cl0 (p:=j) (by omega)
  rw [hget] at hnext
  have hsame:sqQ c U (qa B j)=qa B j->(sqC c U).take j ++ B.drop j=(sqC c U).take (j+1) ++ B.drop (j+1):=fun e=>mix_same z46 cl0 (by omega) (by rw [hget,e];rfl)
  obtain⟨M,hM⟩:∃ M,M=(sqC c U).take j ++ B.drop j:=⟨_,rfl⟩
  rw [<- hM] at hML hat hnext HO hsame
  obtain⟨go,cp,he,gb,gl,cells,HG⟩:=Kd.R_form HO.out (by omega)
  simp only [Value.slice.injEq] at he
  obtain⟨rfl,hbm,rfl⟩:=he
  clear hbm
  have NG:Aside0 (gn≠go):=⟨fun z=>by
   subst z
   have x:=HG.symm.trans BN.out
   simp only [Option.some.injEq,Obj.cells.injEq] at x
   exact absurd x.2.1 (by decide)⟩
  have GO:=aM gb
  clear gb gl HG
  obtain⟨ce,hcl,hMM,hcc,hfr⟩:=Kd.R_elem HO.out z46 ji j0 j1
  rw [hat] at hMM
  obtain rfl:=k46_openM hMM
  have x0:wr.cell? ⟨go,ji.toNat*5,none⟩=some (.int .i64 (qa B j).f0):=hcc 0 _ rfl
  have x1:wr.cell? ⟨go,ji.toNat*5+1,none⟩=some (.int .i64 (qa B j).f1):=hcc 1 _ rfl
  have x2:wr.cell? ⟨go,ji.toNat*5+2,none⟩=some (.int .i64 (qa B j).f2):=hcc 2 _ rfl
  have x3:wr.cell? ⟨go,ji.toNat*5+3,none⟩=some (.int .i64 (qa B j).f3):=hcc 3 _ rfl
  have x4:wr.cell? ⟨go,ji.toNat*5+4,none⟩=some (.int .i64 (qa B j).f4):=hcc 4 _ rfl
  clear hcl hMM hcc hfr
  obtain⟨q,hq⟩:∃ q,q=qa B j:=⟨_,rfl⟩
  rw [<- hq] at x0 x1 x2 x3 x4 hat hnext hsame eqi
  have HN:=aM hnext
  have HAT:=aM hat
  have HJI:=aM hji
  have HS:=aM hsame
  have J01:=aM (And.intro j0 j1)
  have j0t:=eq_true j0
  have j1t:=eq_true j1
  have j0b:=decide_eq_true j0
  have j1b:=decide_eq_true j1
  have hT:=hasTarget_e q
  have hnr:q.f0=4\/q.f0=5->0<=q.f4/\q.f4 < c.length:=fun g=>by rw [eqi];exact n_of h hi (by rw [<- eqi];exact g)
  clear hnext hat hji hsame j0 j1 hq eqi hget hML hM
  by_cases g:q.f0=4\/q.f0=5
  ·rw [decide_eq_true g] at hT
   have A3:=aM hT
   obtain⟨n0,n1⟩:=hnr g
   have es:sqQ c U q=⟨q.f0,q.f1,q.f2,q.f3,(plc c U q.f4.toNat:Int)⟩:=if_pos g
   rw [es] at HN
   have hnl:q.f4.toNat < (nums c U c.length).length:=by rw [nums_len];omega
   have hnv:(nums c U c.length).getD q.f4.toNat 0=(plc c U q.f4.toNat:Int):=by rw [nums_get (by omega),if_pos (by omega)]
   have HNV:=aM hnv
   have n0t:=eq_true n0
   have n1t:=eq_true n1
   have n0b:=decide_eq_true n0
   have n1b:=decide_eq_true n1
   clear hT hnr g n0 n1 es hnv
   go_wp2_with (first|((with_reducible refine jd 9 rfl ?_);refine jX (ics [0,0,0,0,0]) TQ ?_;intro g9 hg w20 hbox hb;have G9:=kG hg;have N9:=aM (show gn≠g9 by rw [hg];exact Nat.ne_of_lt (blk_lt BN.out));replace HO:=aM (Kd.R_below (Kd.R_elderB HO.out g9 (Nat.le_of_eq hg.symm)) hb);replace BN:=kB BN hb;replace HB:=kH hb;clear x0 x1 x2 x3 x4;have B9:=aM hbox;clear hg hbox hb)|((with_reducible refine storeQ (p:=9) (v:=52) rfl rfl rfl rfl B9.out ?_);intro w21 hw hb9;replace HO:=aM (R_set_ hw (fun _ hk=>hk.2) HO.out);replace BN:=aM (far_ hw N9.out BN.out);replace HB:=aM (below_ hw G9.out HB.out);clear B9 hw;have B9:=aM hb9;clear hb9;obtain⟨d0,d1,d2,d3,d4⟩:=cells5' B9.out)|(go_at_call 71;(with_reducible refine (IhasTarget.calls _ _ _ _ _ _ _ A3.out).mono ?_);rintro e w22 ⟨rfl,hb⟩;replace HO:=kR HO hb;replace BN:=kB BN hb;replace B9:=kB B9 hb;replace HB:=kH hb;clear hb d0 d1 d2 d3 d4;obtain⟨d0,d1,d2,d3,d4⟩:=cells5' B9.out;have z0:=blk_ints BN.out hnl;rw [HNV.out] at z0)|((with_reducible refine storeI (p:=63) (v:=.tmp 61) rfl rfl rfl rfl rfl (putN HO.out J01.out.1 J01.out.2 (plc c U q.f4.toNat:Int) HAT.out).2.1 (putN HO.out J01.out.1 J01.out.2 (plc c U q.f4.toNat:Int) HAT.out).2.2 ?_);intro w23 hw;have nHO:=aM (putN HO.out J01.out.1 J01.out.2 (plc c U q.f4.toNat:Int) HAT.out).1;rw [<- hw] at nHO;replace BN:=aM (farP hw NG.out BN.out);replace HB:=aM (belowP hw GO.out HB.out);clear HO B9 d0 d1 d2 d3 d4 z0 hw;have HO:=nHO;clear nHO))
   go_roundg k1
   case measure=>omega
   exact⟨_,j+1,rfl,⟨by have:=HJI.out;(first|omega|(rw [wrap_id (by omega) (by omega)];omega)),by have:=HJ.out.2;omega⟩,BN,⟨by have:=Kd.R_mono HO.out (ok':=fun k=>some k≠(.slice Ar U.length cr:Value).ownBlock) (fun _ hk=>hk.1);rwa [show ji.toNat=j by rw [HJI.out,Int.toNat_natCast],HN.out] at this⟩,HB⟩
  rw [decide_eq_false g] at hT
  have A3:=aM hT
  have es:sqQ c U q=q:=if_neg g
  have HS2:=aM (HS.out es)
  clear hT hnr g es
  go_wp2_with (first|((with_reducible refine jd 9 rfl ?_);refine jX (ics [0,0,0,0,0]) TQ ?_;intro g9 hg w20 hbox hb;have G9:=kG hg;have N9:=aM (show gn≠g9 by rw [hg];exact Nat.ne_of_lt (blk_lt BN.out));replace HO:=aM (Kd.R_below (Kd.R_elderB HO.out g9 (Nat.le_of_eq hg.symm)) hb);replace BN:=kB BN hb;replace HB:=kH hb;clear x0 x1 x2 x3 x4;have B9:=aM hbox;clear hg hbox hb)|((with_reducible refine storeQ (p:=9) (v:=52) rfl rfl rfl rfl B9.out ?_);intro w21 hw hb9;replace HO:=aM (R_set_ hw (fun _ hk=>hk.2) HO.out);replace BN:=aM (far_ hw N9.out BN.out);replace HB:=aM (below_ hw G9.out HB.out);clear B9 hw;have B9:=aM hb9;clear hb9;obtain⟨d0,d1,d2,d3,d4⟩:=cells5' B9.out)|(go_at_call 71;(with_reducible refine (IhasTarget.calls _ _ _ _ _ _ _ A3.out).mono ?_);rintro e w22 ⟨rfl,hb⟩;replace HO:=kR HO hb;replace BN:=kB BN hb;replace B9:=kB B9 hb;replace HB:=kH hb;clear hb d0 d1 d2 d3 d4))
  go_roundg k1
  case measure=>omega
  exact⟨_,j+1,rfl,⟨by have:=HJI.out;(first|omega|(rw [wrap_id (by omega) (by omega)];omega)),by have:=HJ.out.2;omega⟩,BN,⟨by have:=Kd.R_mono HO.out (ok':=fun k=>some k≠(.slice Ar U.length cr:Value).ownBlock) (fun _ hk=>hk.1);rwa [HS2.out] at this⟩,HB⟩
 have hp:p < c.length:=by have:=HP.out.2;omega
 have hpi:pi=(p:Int):=HP.out.1
 have p0:0<=pi:=by omega
 have p1:pi < (c.length:Int):=by omega
 have pu:pi < (U.length:Int):=by rw [HUL.out];exact p1
 obtain⟨aq,e2,x0,x1,x2,x3,x4⟩:=at_T46 HR0.out pi p0 p1
 cases e2
 have rq:rd_T46 c pi=qa c p:=by rw [hpi];exact rd_qa c p
 rw [rq] at x0 x1 x2 x3 x4
 obtain⟨ar,e3,z0⟩:=Kd.at_bool (Kd.R_reads' HU.out).2.2 pi p0 pu
 cases e3
 have rz:rdOf false U pi=U.getD p false:=by rw [hpi];exact rdOf_nat _ _ _
 rw [rz] at z0
 have hm:pi.toNat < (nums c U p).length:=by rw [nums_len,hpi,Int.toNat_natCast];exact hp
 have hset:(nums c U p).set pi.toNat ((sqK c U p).length:Int)=nums c U (p+1):=by rw [sqK_len,hpi,Int.toNat_natCast];exact nums_set hp
 have hle:(sqK c U p).length<=600:=by rw [sqK_len];have:=plc_le c U p;omega
 have A2:=aM (show IhasEffect.f (qa c p).f0 (qa c p).f1 (qa c p).f2 (qa c p).f3 (qa c p).f4 pi=some (!idle (qa c p) p) by rw [hpi];exact hasEffect_e _ (by omega))
 have hnext:=sqK_next c U p
 have HN:=aM hnext
 have HSET:=aM hset
 have HPI:=aM hpi
 have X0:=aM x0
 have X1:=aM x1
 have X2:=aM x2
 have X3:=aM x3
 have X4:=aM x4
 have p0t:=eq_true p0
 have p1t:=eq_true p1
 have put_:=eq_true pu
 have p0b:=decide_eq_true p0
 have p1b:=decide_eq_true p1
 have pub:=decide_eq_true pu
 have hlel:=aM hle
 clear x0 x1 x2 x3 x4 hnext hset hpi rq rz p0 p1 pu hle
 by_cases cu:U.getD p false=true
 ·rw [cu] at z0
  by_cases ci:idle (qa c p) p=true
  ·have hk:kp c U p=false:=by unfold kp;rw [cu,ci];rfl
   have HE:Aside0 (sqK c U (p+1)=sqK c U p):=⟨by rw [HN.out,hk];simp⟩
   rw [ci,Bool.not_true] at A2
   clear cu ci hk
   exact SqueezeCode_good_s0
  have ci:=Bool.eq_false_iff.mpr ci
  have hk:kp c U p=true:=by unfold kp;rw [cu,ci];rfl
  have HE:Aside0 (sqK c U p ++ [⟨(qa c p).f0,(qa c p).f1,(qa c p).f2,(qa c p).f3,(qa c p).f4⟩]=sqK c U (p+1)):=⟨by rw [HN.out,hk];rfl⟩
  rw [ci,Bool.not_false] at A2
  clear cu ci hk
  go_wp2_with (first|((with_reducible refine store1 (p:=28) rfl rfl rfl rfl rfl BN.out hm ?_);intro w7 hw hbn;rw [HSET.out] at hbn;have nHO:=aM (Kd.R_mono (R_put hw (fun _ hk=>hk.2) (Kd.R_types HO.out BN.out (by decide))) (fun _ hk=>hk.1));have nHU:=aM (Kd.R_mono (R_put hw (fun _ hk=>hk.2) (Kd.R_types HU.out BN.out (by decide))) (fun _ hk=>hk.1));replace HB:=aM (belowP hw GN.out HB.out);clear BN HO HU hw z0;have BN:=aM hbn;have HO:=nHO;have HU:=nHU;clear nHO nHU hbn;have y0:=kx HB X0.out;have y1:=kx HB X1.out;have y2:=kx HB X2.out;have y3:=kx HB X3.out;have y4:=kx HB X4.out)|((with_reducible refine jc 75 36 rfl rfl ?_);(try (refine gate_guard (by rfl) ?_;dsimp only));refine jG Try.func75 #[.agg #[.int .i64 (qa c p).f0,.int .i64 (qa c p).f1,.int .i64 (qa c p).f2,.int .i64 (qa c p).f3,.int .i64 (qa c p).f4],.int .i64 pi] ?_;(with_reducible refine (IhasEffect.calls _ _ _ _ _ _ _ _ A2.out).mono ?_);rintro e w8 ⟨rfl,hb⟩;refine⟨_,rfl,?_⟩;replace BN:=kB BN hb;replace HO:=kR HO hb;replace HU:=kR HU hb;replace HB:=kH hb;clear hb y0 y1 y2 y3 y4;have y0:=kx HB X0.out;have y1:=kx HB X1.out;have y2:=kx HB X2.out;have y3:=kx HB X3.out;have y4:=kx HB X4.out)|((with_reducible refine gate_builtin (b:=.append) (xs:=#[.tmp 38,.tmp 43]) rfl ?_);at_builtin;refine Kd.R_append k46 (w0:=w) w.heap.size rfl (.tmp 38) (.tmp 43) 25 46 (.agg #[(.int .i64 0),(.int .i64 0),(.int .i64 0),(.int .i64 0),(.int .i64 0)]) 40 rfl Try.underlying25 info46 rfl (by decide) (by omega) (.slice Ao (sqK c U p).length co) (sqK c U p) (⟨(qa c p).f0,(qa c p).f1,(qa c p).f2,(qa c p).f3,(qa c p).f4⟩:SQ) [.int .i64 (qa c p).f0,.int .i64 (qa c p).f1,.int .i64 (qa c p).f2,.int .i64 (qa c p).f3,.int .i64 (qa c p).f4] (fun k_=>some k_≠(.slice (some ar) U.length cr:Value).ownBlock) (fun _=>False) rfl rfl ?aP (fun _ hk=>hk.elim) ?aF ?aO ?aB ?aS ?aL ?_;(case aP=>exact k46_mkM _ _ _ (⟨(qa c p).f0,(qa c p).f1,(qa c p).f2,(qa c p).f3,(qa c p).f4⟩:SQ));(case aB=>exact HB.out);(case aF=>exact (fun k_ hk=>Kd.fresh' (Kd.R_lt HU.out) k_ hk));(case aO=>exact HO.out);(case aS=>exact HB.out.size);(case aL=>have:=hlel.out;omega);intro v44 w25 ho hb hg hat;have nBN:=aM (blk_grown BN.out hg (Kd.R_away (Kd.R_types HO.out BN.out (by decide)) (fun _ hk=>hk.2)));have nHU:=aM (Kd.R_after (ok:=fun _=>True) HU.out hg hat);rw [HE.out] at ho;have nHO:=aM ho;replace HB:=aM hb;clear BN HO HU ho hb hg hat y0 y1 y2 y3 y4;have BN:=nBN;have HO:=nHO;have HU:=nHU;clear nBN nHO nHU))
  go_roundg k1
  case measure=>omega
  exact⟨_,p+1,rfl,⟨by have:=HPI.out;(first|omega|(rw [wrap_id (by omega) (by omega)];omega)),by have:=HP.out.2;omega⟩,BN,HO,HU,HB⟩
 have cu:=Bool.eq_false_iff.mpr cu
 rw [cu] at z0
 have hk:kp c U p=false:=by unfold kp;rw [cu];rfl
 have HE:Aside0 (sqK c U (p+1)=sqK c U p):=⟨by rw [HN.out,hk];simp⟩
 clear cu hk
 exact SqueezeCode_good_s0
theorem ISqueezeCode.calls (k:Nat) (A0:Option Addr) (c0:Nat) (l0:List SQ) (r1:List SQ) (r2:Bool) (w:World) (hr0:Kd.C k46 w A0 l0.length l0) (hc0:l0.length<=c0) (h:ISqueezeCode.f k l0=some (r1,r2)) :
  Calls Try.prog 53 #[.slice A0 l0.length c0] w fun e w'=>∃ v0_:Value,e = .returned (.tuple #[v0_,.bool r2])/\Kd.R k46 TQ w' w.heap.size (fun _=>True) v0_ r1/\Below w.heap.size w w':=by
 by_cases hv:CV (qs l0)
 ·obtain⟨U,hU,hE⟩:=SSqueezeCode.ev hv
  have e:=ev_val (fun k=>ISqueezeCode.mono l0 k) hE h
  obtain⟨rfl,rfl⟩:=Prod.mk.inj e
  refine (SqueezeCode.good hv A0 c0 w hr0 hc0).mono ?_
  rintro e w' ⟨v,V,hV,rfl,hR,hb⟩
  rw [Sys.lfp_unique (RS_laws hv) hV hU] at hR
  exact⟨v,rfl,hR,hb⟩
 have e:=ev_val (fun k=>ISqueezeCode.mono l0 k) (SSqueezeCode.bad hv) h
 obtain⟨rfl,rfl⟩:=Prod.mk.inj e
 exact SqueezeCode.bad hv A0 c0 w hr0 hc0
def IOptimizeCode.f (k:Nat) (l0:List SQ) (a1:Int):Option (List SQ × Bool):=SOptimizeCode.f k l0 a1
theorem IOptimizeCode.mono:∀ a0 a1 k,LeO (IOptimizeCode.f k a0 a1) (IOptimizeCode.f (k+1) a0 a1):=SOptimizeCode.mono
theorem pass0 {c:List SQ} (h:CV (qs c)):∃ v,CV (qs v)/\Step 0 c v/\∀ (A0:Option Addr) (c0:Nat) (w:World),Kd.C k46 w A0 c.length c->c.length<=c0->Calls Try.prog 49 #[.slice A0 c.length c0] w fun e w'=>∃ v0_:Value,e = .returned (.tuple #[v0_,.bool true])/\Kd.R k46 TQ w' w.heap.size (fun _=>True) v0_ v/\Below w.heap.size w w':=by
 obtain⟨v,hv,s⟩:=step0 h
 obtain⟨k,hk⟩:=s.get
 exact⟨v,hv,s,fun A0 c0 w hr hc=>IFoldCode.calls k A0 c0 c v true w hr hc hk⟩
theorem pass1 {c:List SQ} (h:CV (qs c)):∃ v,CV (qs v)/\Step 1 c v/\∀ (A0:Option Addr) (c0:Nat) (w:World),Kd.C k46 w A0 c.length c->c.length<=c0->Calls Try.prog 50 #[.slice A0 c.length c0] w fun e w'=>∃ v0_:Value,e = .returned (.tuple #[v0_,.bool true])/\Kd.R k46 TQ w' w.heap.size (fun _=>True) v0_ v/\Below w.heap.size w w':=by
 obtain⟨v,hv,s⟩:=step1 h
 obtain⟨k,hk⟩:=s.get
 exact⟨v,hv,s,fun A0 c0 w hr hc=>ICopyCode.calls k A0 c0 c v true w hr hc hk⟩
theorem pass2 {c:List SQ} (h:CV (qs c)):∃ v,CV (qs v)/\Step 2 c v/\∀ (A0:Option Addr) (c0:Nat) (w:World),Kd.C k46 w A0 c.length c->c.length<=c0->Calls Try.prog 51 #[.slice A0 c.length c0] w fun e w'=>∃ v0_:Value,e = .returned (.tuple #[v0_,.bool true])/\Kd.R k46 TQ w' w.heap.size (fun _=>True) v0_ v/\Below w.heap.size w w':=by
 obtain⟨k,hk⟩:=(IJumpCode.ev h).get
 exact⟨_,jumpC_valid h,SJumpCode.ev h,fun A0 c0 w hr hc=>IJumpCode.calls k A0 c0 c _ true w hr hc hk⟩
theorem pass3 {c:List SQ} (h:CV (qs c)):∃ v,CV (qs v)/\Step 3 c v/\∀ (A0:Option Addr) (c0:Nat) (w:World),Kd.C k46 w A0 c.length c->c.length<=c0->Calls Try.prog 52 #[.slice A0 c.length c0] w fun e w'=>∃ v0_:Value,e = .returned (.tuple #[v0_,.bool true])/\Kd.R k46 TQ w' w.heap.size (fun _=>True) v0_ v/\Below w.heap.size w w':=by
 obtain⟨v,_,hv,s,e⟩:=dead_ev h
 obtain⟨k,hk⟩:=e.get
 exact⟨v,hv,s,fun A0 c0 w hr hc=>IDeadCode.calls k A0 c0 c v true w hr hc hk⟩
theorem pass4 {c:List SQ} (h:CV (qs c)):∃ v,CV (qs v)/\Step 4 c v/\∀ (A0:Option Addr) (c0:Nat) (w:World),Kd.C k46 w A0 c.length c->c.length<=c0->Calls Try.prog 53 #[.slice A0 c.length c0] w fun e w'=>∃ v0_:Value,e = .returned (.tuple #[v0_,.bool true])/\Kd.R k46 TQ w' w.heap.size (fun _=>True) v0_ v/\Below w.heap.size w w':=by
 obtain⟨v,hv,s⟩:=step4 h
 obtain⟨k,hk⟩:=s.get
 exact⟨v,hv,s,fun A0 c0 w hr hc=>ISqueezeCode.calls k A0 c0 c v true w hr hc hk⟩
/-- The five passes as values. -/
def FS5:Array Value:=#[.func (.func 49) #[] #[],.func (.func 50) #[] #[],.func (.func 51) #[] #[],.func (.func 52) #[] #[],.func (.func 53) #[] #[]]
theorem OptimizeCode_bad_s0 {G:Prop} (h:G:=by
  go_enter Try.func28,Try.ntmps28
  go_wp2_with (first|(go_at_call 34;(with_reducible refine (CV.go HV.out A0 c0 _ ?s1 HC0.out).mono ?_);(case s1=>exact Kd.C_below HR0.out HB.out);rintro e w5 ⟨rfl,hb⟩;replace HB:=kH hb;clear hb))
  go_ret2
  exact⟨_,rfl,Kd.R_nil _ _ _ _ _,HB.out⟩):G:=h
theorem OptimizeCode.bad {c:List SQ} {t:Int} (h:¬ okT c t) (A0:Option Addr) (c0:Nat) (w:World) (hr0:Kd.C k46 w A0 c.length c) (hc0:c.length<=c0) :
  Calls Try.prog 28 #[.slice A0 c.length c0,.int .i64 t] w fun e w'=>∃ v0_:Value,e = .returned (.tuple #[v0_,.bool false])/\Kd.R k46 TQ w' w.heap.size (fun _=>True) v0_ ([]:List SQ)/\Below w.heap.size w w':=by
 have HR0:=aM hr0
 have HC0:=aM hc0
 clear hr0 hc0
 have HB:=aM (Below.refl w.heap.size w)
 by_cases hv:CV (qs c)
 ·have HV:=aM (show cvB c=true from decide_eq_true hv)
  by_cases h0:t < 0
  ·have h0b:=decide_eq_true h0
   clear h hv
   exact OptimizeCode_bad_s0
  have h4:4 < t:=by
   apply Classical.byContradiction
   intro x
   exact h ⟨hv,by omega,by omega⟩
  have h0b:=decide_eq_false h0
  have h4b:=decide_eq_true h4
  clear h hv
  exact OptimizeCode_bad_s0
 have HV:=aM (show cvB c=false from decide_eq_false hv)
 clear h hv
 exact OptimizeCode_bad_s0
theorem OptimizeCode.good {c:List SQ} {t:Int} (h:okT c t) (A0:Option Addr) (c0:Nat) (w:World) (hr0:Kd.C k46 w A0 c.length c) (hc0:c.length<=c0) :
  Calls Try.prog 28 #[.slice A0 c.length c0,.int .i64 t] w fun e w'=>∃ (v0_:Value) (v:List SQ),Ev (fun k=>SOptimizeCode.f k c t) (v,true)/\e = .returned (.tuple #[v0_,.bool true])/\Kd.R k46 TQ w' w.heap.size (fun _=>True) v0_ v/\Below w.heap.size w w':=by
 have HR0:=aM hr0
 have HC0:=aM hc0
 clear hr0 hc0
 obtain⟨hv,t0,t4⟩:=h
 have h6:=cv600 hv
 have hcl:IQuad.f c=some c:=if_pos (by omega)
 have HCL:=aM hcl
 have HV:=aM (show cvB c=true from decide_eq_true hv)
 have HT:=aM (And.intro t0 t4)
 have HVV:=aM hv
 have t0b:decide (t < 0)=false:=decide_eq_false (by omega)
 have t4b:decide (4 < t)=false:=decide_eq_false (by omega)
 obtain⟨T,hT⟩:∃ T:Nat,(T:Int)=t:=⟨t.toNat,Int.toNat_of_nonneg t0⟩
 have HTT:=aM hT
 clear hcl t0 t4 h6 hv hT
 have HB:=aM (Below.refl w.heap.size w)
 go_enter Try.func28,Try.ntmps28
 go_wp2_with (first|(go_at_call 34;(with_reducible refine (CV.go HV.out A0 c0 _ ?s1 HC0.out).mono ?_);(case s1=>exact Kd.C_below HR0.out HB.out);rintro e w5 ⟨rfl,hb⟩;replace HB:=kH hb;clear hb)|(go_at_call 47;(with_reducible refine (IQuad.calls A0 c0 c c _ ?s2 HC0.out HCL.out).mono ?_);(case s2=>exact Kd.C_below HR0.out HB.out);rintro e w6 ⟨v6,rfl,ho,hb⟩;have HO:=aM (Kd.R_lower ho HB.out.size);replace HB:=kH hb;clear hb ho))
 go_loopg [6,25] T (fun kq v6 v25 w'=>∃ (ri:Int) (r:Nat) (x:List SQ),v25 = .int .i64 ri/\Aside0 (ri=(r:Int)/\r+kq=T)/\Aside0 (CV (qs x)/\∀ z,Ev (fun k=>SOptimizeCode.l0 k t x (r:Int)) z->Ev (fun k=>SOptimizeCode.l0 k t c 0) z)/\Aside0 (Kd.R k46 TQ w' w.heap.size (fun _=>True) v6 x)/\Aside0 (Below w.heap.size w w'))
 case atStart=>exact⟨0,0,c,rfl,⟨rfl,Nat.zero_add _⟩,⟨HVV.out,fun z hz=>hz⟩,HO,HB⟩
 clear HO HB
 obtain⟨ri,r,x,rfl,HP,HX,HO,HB⟩:=hrel
 rcases gk with _|k1
 ·have er:r=T:=by have:=HP.out.2;omega
  subst er
  have hri:ri=t:=HP.out.1.trans HTT.out
  subst hri
  go_wp2
  go_ret2
  have HE:=HX.out.2 (x,true) (by rw [HTT.out];exact SOptimizeCode.last _ _)
  exact⟨_,x,SOptimizeCode.start ⟨HVV.out,HT.out⟩ HE,rfl,HO.out,HB.out⟩
 have hr:r < T:=by have:=HP.out.2;omega
 have hri:ri=(r:Int):=HP.out.1
 have rt:ri < t:=by have:=HTT.out;omega
 have rtb:=decide_eq_true rt
 have HRI:=aM hri
 have HRT:=aM (And.intro hr rt)
 clear hri rt hr
 go_wp2_with (first|((with_reducible refine jd 27 rfl ?_);refine Kd.event_run rfl (v:=.slice (some ⟨wr.heap.size,0,none⟩) 5 5) (w1:=wr.alloc (.cells FS5 37 (0,0))) ?hr ?_;(case hr=>first|(go_simp;done)|(go_simp;rfl));have hf:=blk_new wr (.cells FS5 37 (0,0));have hb:=below_alloc (Below.refl wr.heap.size wr) (.cells FS5 37 (0,0));generalize wr.alloc (.cells FS5 37 (0,0))=w7 at hf hb ⊢;have n2:=kR HO hb;have n1:=kH hb;obtain⟨gf,hgf⟩:∃ g,g=wr.heap.size:=⟨_,rfl⟩;rw [<- hgf] at hf ⊢;have HF:=aM hf;clear HO HB;have HO:=n2;have HB:=n1;clear n1 n2 hf hb hgf))
 go_loopg [6,29] 5 (fun kq v6 v29 w'=>∃ (ji:Int) (j:Nat) (y:List SQ),v29 = .int .i64 ji/\Aside0 (ji=(j:Int)/\j+kq=5)/\Aside0 (CV (qs y)/\Lead j x y)/\Aside0 (Kd.R k46 TQ w' w.heap.size (fun _=>True) v6 y)/\Aside0 (w'.heap[gf]?=some (.cells FS5 37 (0,0)))/\Aside0 (Below w.heap.size w w'))
 case atStart=>exact⟨0,0,x,rfl,⟨rfl,Nat.zero_add _⟩,⟨HX.out.1,rfl⟩,HO,HF,HB⟩
 clear HO HB HF
 obtain⟨ji,j,y,rfl,HJ,HY,HO,HF,HB⟩:=hrel
 obtain⟨Ao,co,rfl⟩:=Kd.R_slice HO.out
 rcases gk with _|k2
 ·have ej:j=5:=by have:=HJ.out.2;omega
  subst ej
  have hji:ji=5:=HJ.out.1
  subst hji
  go_wp2
  go_roundg k1
  case measure=>omega
  exact⟨_,r+1,y,rfl,⟨by have:=HRI.out;have:=HTT.out;have:=HT.out;have:=HRT.out;(first|omega|(rw [wrap_id (by omega) (by omega)];omega)),by have:=HP.out.2;omega⟩,⟨HY.out.1,fun z hz=>HX.out.2 z (SOptimizeCode.next HT.out.2 (by have:=HTT.out;have:=HRT.out;omega) (lead_once HY.out.2) hz)⟩,HO,HB⟩
 have hj:j < 5:=by have:=HJ.out.2;omega
 rcases j with _|_|_|_|_|j
 ·obtain⟨v,hv,hs,hgo⟩:=pass0 HY.out.1
  have HV2:=aM hv
  have HS:=aM hs
  have HG:=aM hgo
  clear hv hs hgo hj
  have hji:ji=0:=HJ.out.1
  subst hji
  have z0:=(blk_cell HF.out 0).trans (show FS5[0]?=some (.func (.func 49) #[] #[]) from rfl)
  go_wp2_with (first|(go_at_call 49;(with_reducible refine (HG.out _ _ _ ?s1 ?s2).mono ?_);(case s1=>exact (Kd.R_reads' HO.out).2.2);(case s2=>exact (Kd.R_reads' HO.out).2.1);rintro e w8 ⟨v9,rfl,ho,hb⟩;replace HO:=aM (Kd.R_lower ho HB.out.size);replace HF:=kB HF hb;replace HB:=kH hb;clear ho hb z0))
  go_roundg k2
  case measure=>omega
  exact⟨_,1,v,rfl,⟨rfl,by have:=HJ.out.2;omega⟩,⟨HV2.out,⟨y,HY.out.2,HS.out⟩⟩,HO,HF,HB⟩
 ·obtain⟨v,hv,hs,hgo⟩:=pass1 HY.out.1
  have HV2:=aM hv
  have HS:=aM hs
  have HG:=aM hgo
  clear hv hs hgo hj
  have hji:ji=1:=HJ.out.1
  subst hji
  have z0:=(blk_cell HF.out 1).trans (show FS5[1]?=some (.func (.func 50) #[] #[]) from rfl)
  go_wp2_with (first|(go_at_call 50;(with_reducible refine (HG.out _ _ _ ?s1 ?s2).mono ?_);(case s1=>exact (Kd.R_reads' HO.out).2.2);(case s2=>exact (Kd.R_reads' HO.out).2.1);rintro e w8 ⟨v9,rfl,ho,hb⟩;replace HO:=aM (Kd.R_lower ho HB.out.size);replace HF:=kB HF hb;replace HB:=kH hb;clear ho hb z0))
  go_roundg k2
  case measure=>omega
  exact⟨_,2,v,rfl,⟨rfl,by have:=HJ.out.2;omega⟩,⟨HV2.out,⟨y,HY.out.2,HS.out⟩⟩,HO,HF,HB⟩
 ·obtain⟨v,hv,hs,hgo⟩:=pass2 HY.out.1
  have HV2:=aM hv
  have HS:=aM hs
  have HG:=aM hgo
  clear hv hs hgo hj
  have hji:ji=2:=HJ.out.1
  subst hji
  have z0:=(blk_cell HF.out 2).trans (show FS5[2]?=some (.func (.func 51) #[] #[]) from rfl)
  go_wp2_with (first|(go_at_call 51;(with_reducible refine (HG.out _ _ _ ?s1 ?s2).mono ?_);(case s1=>exact (Kd.R_reads' HO.out).2.2);(case s2=>exact (Kd.R_reads' HO.out).2.1);rintro e w8 ⟨v9,rfl,ho,hb⟩;replace HO:=aM (Kd.R_lower ho HB.out.size);replace HF:=kB HF hb;replace HB:=kH hb;clear ho hb z0))
  go_roundg k2
  case measure=>omega
  exact⟨_,3,v,rfl,⟨rfl,by have:=HJ.out.2;omega⟩,⟨HV2.out,⟨y,HY.out.2,HS.out⟩⟩,HO,HF,HB⟩
 ·obtain⟨v,hv,hs,hgo⟩:=pass3 HY.out.1
  have HV2:=aM hv
  have HS:=aM hs
  have HG:=aM hgo
  clear hv hs hgo hj
  have hji:ji=3:=HJ.out.1
  subst hji
  have z0:=(blk_cell HF.out 3).trans (show FS5[3]?=some (.func (.func 52) #[] #[]) from rfl)
  go_wp2_with (first|(go_at_call 52;(with_reducible refine (HG.out _ _ _ ?s1 ?s2).mono ?_);(case s1=>exact (Kd.R_reads' HO.out).2.2);(case s2=>exact (Kd.R_reads' HO.out).2.1);rintro e w8 ⟨v9,rfl,ho,hb⟩;replace HO:=aM (Kd.R_lower ho HB.out.size);replace HF:=kB HF hb;replace HB:=kH hb;clear ho hb z0))
  go_roundg k2
  case measure=>omega
  exact⟨_,4,v,rfl,⟨rfl,by have:=HJ.out.2;omega⟩,⟨HV2.out,⟨y,HY.out.2,HS.out⟩⟩,HO,HF,HB⟩
 ·obtain⟨v,hv,hs,hgo⟩:=pass4 HY.out.1
  have HV2:=aM hv
  have HS:=aM hs
  have HG:=aM hgo
  clear hv hs hgo hj
  have hji:ji=4:=HJ.out.1
  subst hji
  have z0:=(blk_cell HF.out 4).trans (show FS5[4]?=some (.func (.func 53) #[] #[]) from rfl)
  go_wp2_with (first|(go_at_call 53;(with_reducible refine (HG.out _ _ _ ?s1 ?s2).mono ?_);(case s1=>exact (Kd.R_reads' HO.out).2.2);(case s2=>exact (Kd.R_reads' HO.out).2.1);rintro e w8 ⟨v9,rfl,ho,hb⟩;replace HO:=aM (Kd.R_lower ho HB.out.size);replace HF:=kB HF hb;replace HB:=kH hb;clear ho hb z0))
  go_roundg k2
  case measure=>omega
  exact⟨_,5,v,rfl,⟨rfl,by have:=HJ.out.2;omega⟩,⟨HV2.out,⟨y,HY.out.2,HS.out⟩⟩,HO,HF,HB⟩
 omega
theorem IOptimizeCode.calls (k:Nat) (A0:Option Addr) (c0:Nat) (l0:List SQ) (a1:Int) (r1:List SQ) (r2:Bool) (w:World) (hr0:Kd.C k46 w A0 l0.length l0) (hc0:l0.length<=c0) (h:IOptimizeCode.f k l0 a1=some (r1,r2)) :
  Calls Try.prog 28 #[.slice A0 l0.length c0,.int .i64 a1] w fun e w'=>∃ v0_:Value,e = .returned (.tuple #[v0_,.bool r2])/\Kd.R k46 TQ w' w.heap.size (fun _=>True) v0_ r1/\Below w.heap.size w w':=by
 by_cases hv:okT l0 a1
 ·refine (OptimizeCode.good hv A0 c0 w hr0 hc0).mono ?_
  rintro e w' ⟨v0,v,hE,rfl,hR,hb⟩
  have e:=ev_val (fun k=>IOptimizeCode.mono l0 a1 k) hE h
  obtain⟨rfl,rfl⟩:=Prod.mk.inj e
  exact⟨v0,rfl,hR,hb⟩
 have e:=ev_val (fun k=>IOptimizeCode.mono l0 a1 k) (SOptimizeCode.bad hv) h
 obtain⟨rfl,rfl⟩:=Prod.mk.inj e
 exact OptimizeCode.bad hv A0 c0 w hr0 hc0
end Go.Proofs.Ytahbkldagpfcaaa.M
namespace Go.Proofs.Ytahbkldagpfcaaa.M
open Go.RowKit Go.Proofs.YtahbkldagpfcaaaW.PrintWords Go.Proofs.YtahbkldagpfcaaaW.PrintLast Go.Proofs.YtahbkldagpfcaaaW.PrintMore
attribute [local go_sem] max2_int min2_int max_two min_two max_three min_three max_four min_four
def WszQuadS.f (l0:List (S48)) (a1:Int):Option (Int):=if (wrap64 (a1 - (l0.length:Int))) < 0 then (some (-1)) else (some (wrap64 (a1 - (l0.length:Int))))
theorem WszQuadS.calls (A0:Option Addr) (c0:Nat) (l0:List (S48)) (a1:Int) (r:Int) (w:World) (hr0:Kd.C k48 w A0 l0.length l0) (hc0:l0.length<=c0) (h:WszQuadS.f l0 a1=some r) :
  Calls Try.prog 9 #[.slice A0 l0.length c0,.int .i64 a1] w fun e w'=>e = .returned (.int .i64 r)/\Drawn0 w w':=by
 have HR0:=aM hr0
 have HC0:=aM hc0
 clear hr0 hc0
 have H:=h;unfold WszQuadS.f at H
 clear h
 replace H:=jD H;rcases H with ⟨c3b0,H⟩ | ⟨c3b0,H⟩
 ·obtain rfl:=Option.some.inj H
  go_enter Try.func9,Try.ntmps9
  go_wp2
  go_ret
  exact⟨qZ,qU⟩
 obtain rfl:=Option.some.inj H
 go_enter Try.func9,Try.ntmps9
 go_wp2
 go_ret
 exact⟨qZ,qU⟩
def WtoQuad.f (a0_0:Int) (a0_1:Int) (a0_2:Int) (a0_3:Int) (a0_4:Int):Option (Int × Int × Int × Int × Int):=some (a0_0,a0_1,a0_2,a0_3,a0_4)
theorem WtoQuad.calls (a0_0:Int) (a0_1:Int) (a0_2:Int) (a0_3:Int) (a0_4:Int) (r1:Int) (r2:Int) (r3:Int) (r4:Int) (r5:Int) (w:World) (h:WtoQuad.f a0_0 a0_1 a0_2 a0_3 a0_4=some (r1,r2,r3,r4,r5)) :
  Calls Try.prog 33 #[.agg #[.int .i64 a0_0,.int .i64 a0_1,.int .i64 a0_2,.int .i64 a0_3,.int .i64 a0_4]] w fun e w'=>e = .returned (.agg #[.int .i64 r1,.int .i64 r2,.int .i64 r3,.int .i64 r4,.int .i64 r5])/\Below w.heap.size w w':=by
 have hu48:=Try.underlying48
 have hu46:=Try.underlying46
 have HB:=aM (Below.refl w.heap.size w)
 have H:(some (a0_0,a0_1,a0_2,a0_3,a0_4))=some (r1,r2,r3,r4,r5):=h
 clear h
 simp only [Option.some.injEq,Prod.mk.injEq] at H
 obtain⟨rfl,rfl,rfl,rfl,rfl⟩:=H
 go_enter Try.func33,Try.ntmps33
 go_wp2_with (first|((with_reducible refine jd 1 rfl ?_);refine jX _ 48 ?_;intro gb246 hg w2 hbox hb;have BK246:=aM hbox;have GW246:=kG hg;replace HB:=kH hb;clear hb hbox hg)|((with_reducible refine jd 2 rfl ?_);refine jX _ 46 ?_;intro gb247 hg w3 hbox hb;have BK247:=aM hbox;have GW247:=kG hg;have NB246_247:=kN hg BK246;have NB247_246:=kM hg BK246;replace BK246:=kB BK246 hb;replace HB:=kH hb;clear hb hbox hg)|((with_reducible refine jd 3 rfl ?_);refine jX _ 46 ?_;intro gb248 hg w4 hbox hb;have BK248:=aM hbox;have GW248:=kG hg;have NB246_248:=kN hg BK246;have NB248_246:=kM hg BK246;have NB247_248:=kN hg BK247;have NB248_247:=kM hg BK247;replace BK246:=kB BK246 hb;replace BK247:=kB BK247 hb;replace HB:=kH hb;clear hb hbox hg;have hnb5:=NB246_247.out;have hnc5:=NB247_246.out;have hnb6:=NB246_248.out;have hnc6:=NB248_246.out;have cz7:=jz5 BK246;have hnb8:=NB248_247.out;have hnc8:=NB247_248.out;have cz9:=jz5 BK248;have cz10:=jz5 BK247))
 refine bodyPost_ret (results_cell_row rfl _ _ gb247 46 #[.int .i64 a0_0,.int .i64 a0_1,.int .i64 a0_2,.int .i64 a0_3,.int .i64 a0_4] (0,0) _ rfl (qF BK247) Try.underlying46 rfl (by kernel_rfl)) rfl ?_
 exact⟨qW,qB⟩
def WtoQuadS.l0:Nat->List (S48)->List (S46)->Int->Option ((List (S46)))
 | 0,_,_,_=>none
 | k+1,x0,x3,x4=>if x4 < (x0.length:Int) then (if 0<=x4 then ((WtoQuad.f ((rd_T48 x0 x4).f0) ((rd_T48 x0 x4).f1) ((rd_T48 x0 x4).f2) ((rd_T48 x0 x4).f3) ((rd_T48 x0 x4).f4)).bind fun bt253=>(if x4 < (x3.length:Int) then (WtoQuadS.l0 k x0 (x3.set (x4:Int).toNat (⟨bt253.1,bt253.2.1,bt253.2.2.1,bt253.2.2.2.1,bt253.2.2.2.2⟩:S46)) (wrap64 (x4+1))) else (none))) else (none)) else (some x3)
def WtoQuadS.f (k:Nat) (l0:List (S48)):Option ((List (S46))):=if 0<=(l0.length:Int) then (if ((l0.length:Int):Int).toNat<=7036874417766 then (WtoQuadS.l0 k l0 (List.replicate ((l0.length:Int):Int).toNat z46) 0) else (none)) else (none)
theorem WtoQuadS.mono_l:∀ k,(∀ y0 y1 y2,LeO (WtoQuadS.l0 k y0 y1 y2) (WtoQuadS.l0 (k+1) y0 y1 y2))
 | 0=>fun _ _ _ r h=>by simp [WtoQuadS.l0] at h
 | k+1=>by
  have ih0:=WtoQuadS.mono_l k
  intros;unfold WtoQuadS.l0;exact mM
theorem WtoQuadS.mono:∀ a0 k,LeO (WtoQuadS.f k a0) (WtoQuadS.f (k+1) a0):=by
 intro a0 k;have ih0:=WtoQuadS.mono_l k;unfold WtoQuadS.f;exact mM
theorem WtoQuadS.calls (k:Nat) (A0:Option Addr) (c0:Nat) (l0:List (S48)) (r:List (S46)) (w:World) (hr0:Kd.C k48 w A0 l0.length l0) (hc0:l0.length<=c0) (h:WtoQuadS.f k l0=some r) :
  Calls Try.prog 11 #[.slice A0 l0.length c0] w fun e w'=>∃ v0_:Value,e = .returned (v0_)/\Kd.R k46 46 w' w.heap.size (fun _=>True) v0_ r/\Below w.heap.size w w':=by
 have hu48:=Try.underlying48
 have hu46:=Try.underlying46
 have HR0:=aM hr0
 have HC0:=aM hc0
 clear hr0 hc0
 have HB:=aM (Below.refl w.heap.size w)
 have H:=h;unfold WtoQuadS.f at H
 clear h
 replace H:=jJ H;obtain⟨c2b0,c2b1,H⟩:=H
 replace H:=jJ H;obtain⟨c3b0,c3b1,H⟩:=H
 obtain⟨y249,Ny249⟩:=ky ((List.replicate ((l0.length:Int):Int).toNat z46):List (S46))
 first|replace H:=kz Ny249 H|rw [<- Ny249.out] at H
 have H':=aM H
 clear H
 go_enter Try.func11,Try.ntmps11
 go_wp2_with (first|((with_reducible refine jd 7 rfl ?_);refine Kd.R_make k46 _ 46 rfl (N:=7) rfl 25 _ _ rfl (l0.length:Int) rfl rfl Try.underlying25 (.agg #[(.int .i64 0),(.int .i64 0),(.int .i64 0),(.int .i64 0),(.int .i64 0)]) 40 info46 rfl (by decide) (by omega) z46 (ok:=fun _=>True) (okp:=fun _=>True) (k46_mkM _ _ _ z46 ) (fun _ hk=>hk) trivial (qD) (Nat.le_trans (Nat.mul_le_mul_right _ (qD:(l0.length:Int).toNat<=7036874417766)) (by omega)) (Below.refl _ _) (Nat.le_refl _) ?_;intro v250 w4 ho5 hb hg_ hnew_;clear hg_ hnew_;(first|rw [<- Ny249.out] at ho5|(simp only [Int.reduceToNat] at ho5;rw [<- Ny249.out] at ho5));have HO251:=kL ho5;replace HB:=kH hb;clear hb ho5))
 go_loopg [4] k (fun kq v4 w'=>∃ (x3_1:List (S46)) (x4_1:Int),v4 = .int .i64 x4_1/\Aside0 (WtoQuadS.l0 kq l0 x3_1 x4_1=some r)/\Aside0 (kq<=k)/\Aside0 (Kd.R k46 46 w' w.heap.size (fun _=>True) v250 x3_1)/\Aside0 (Below w.heap.size w w'))
 case atStart=>exact⟨(y249),(0),qZ,H',⟨Nat.le_refl _⟩,⟨qR HO251⟩,⟨qB⟩⟩
 clear H'
 try clear c2b0;try clear c2b1;try clear c3b0;try clear c3b1
 obtain⟨x3_1,x4_1,rfl,HA,HK1,HO_3,HB⟩:=hrel
 rcases gk with _|k1
 ·exact absurd HA.out (by simp [WtoQuadS.l0])
 have H:=HA.out
 clear HA
 simp only [WtoQuadS.l0] at H
 replace H:=jD H;rcases H with ⟨c6b0,H⟩ | ⟨c6b0,H⟩
 ·replace H:=jI H;obtain⟨c7b0,H⟩:=H
  obtain⟨⟨t253,t254,t255,t256,t257⟩,A8,H⟩:=qE H
  try dsimp only at H
  replace H:=jI H;obtain⟨c9b0,H⟩:=H
  obtain⟨y258,Ny258⟩:=ky ((x3_1.set (x4_1:Int).toNat (⟨t253,t254,t255,t256,t257⟩:S46)):List (S46))
  first|replace H:=kz Ny258 H|rw [<- Ny258.out] at H
  have H':=aM H
  clear H
  have p252:0<=(x4_1:Int):=qD
  have q252:x4_1 < (l0.length:Int):=qD
  obtain⟨ad252,e252,hx252_0,hx252_1,hx252_2,hx252_3,hx252_4⟩:=at_T48 HR0.out x4_1 p252 q252
  cases e252
  replace hx252_0:=kx HB hx252_0
  replace hx252_1:=kx HB hx252_1
  replace hx252_2:=kx HB hx252_2
  replace hx252_3:=kx HB hx252_3
  replace hx252_4:=kx HB hx252_4
  replace p252:=eq_true p252
  replace q252:=eq_true q252
  go_wp2_with (first|((with_reducible refine jc 33 20 rfl rfl ?_);refine jG Try.func33 #[.agg #[.int .i64 ((rd_T48 l0 x4_1).f0),.int .i64 ((rd_T48 l0 x4_1).f1),.int .i64 ((rd_T48 l0 x4_1).f2),.int .i64 ((rd_T48 l0 x4_1).f3),.int .i64 ((rd_T48 l0 x4_1).f4)]] ?_;(with_reducible refine (WtoQuad.calls _ _ _ _ _ _ _ _ _ _ _ (Aside0.out (by assumption))).mono ?_);rintro e w_0a ⟨rfl,hb⟩;refine⟨_,rfl,?_⟩;replace HO_3:=kR HO_3 hb;replace HB:=kH hb;clear hb;(try clear hk);have p10:0<=(x4_1:Int):=qD;have q10:(x4_1:Int) < ((x3_1.length:Int):Int):=qD;obtain⟨go10,c_0b,e_0c,gb10,gl10,cl10,HG10⟩:=Kd.R_form HO_3.out (by omega);(first|cases e_0c|(injection e_0c with ea_ en_ ec_;(first|subst ea_|(injection ea_ with ea_;subst ea_));subst ec_;clear en_));have GB10:=aM gb10;have GG10:=aM HG10;clear gb10 gl10 HG10;obtain⟨ce10,hcl10,hM10,hcc10,hfr10⟩:=Kd.R_elem HO_3.out z46 (x4_1:Int) p10 q10;obtain rfl:=k46_openM hM10;have hx10_0:w_0a.cell? ⟨go10,(x4_1:Int).toNat*5,none⟩=some (.int .i64 ((rd_T46 x3_1 x4_1).f0)):=hcc10 0 _ rfl;have hx10_1:w_0a.cell? ⟨go10,(x4_1:Int).toNat*5+1,none⟩=some (.int .i64 ((rd_T46 x3_1 x4_1).f1)):=hcc10 1 _ rfl;have hx10_2:w_0a.cell? ⟨go10,(x4_1:Int).toNat*5+2,none⟩=some (.int .i64 ((rd_T46 x3_1 x4_1).f2)):=hcc10 2 _ rfl;have hx10_3:w_0a.cell? ⟨go10,(x4_1:Int).toNat*5+3,none⟩=some (.int .i64 ((rd_T46 x3_1 x4_1).f3)):=hcc10 3 _ rfl;have hx10_4:w_0a.cell? ⟨go10,(x4_1:Int).toNat*5+4,none⟩=some (.int .i64 ((rd_T46 x3_1 x4_1).f4)):=hcc10 4 _ rfl;have hf10_0:w_0a.frozen? ⟨go10,(x4_1:Int).toNat*5,none⟩=false:=hfr10 0;have hf10_1:w_0a.frozen? ⟨go10,(x4_1:Int).toNat*5+1,none⟩=false:=hfr10 1;have hf10_2:w_0a.frozen? ⟨go10,(x4_1:Int).toNat*5+2,none⟩=false:=hfr10 2;have hf10_3:w_0a.frozen? ⟨go10,(x4_1:Int).toNat*5+3,none⟩=false:=hfr10 3;have hf10_4:w_0a.frozen? ⟨go10,(x4_1:Int).toNat*5+4,none⟩=false:=hfr10 4;clear hcl10 hcc10 hfr10 hM10;replace p10:=eq_true p10;replace q10:=eq_true q10;have HX12:=aM (show Kd.R k46 46 w_0a w.heap.size (fun _=>True) (.slice (some ⟨go10,0,none⟩) x3_1.length c_0b) x3_1 from (qR HO_3));obtain⟨ce12,hcl12,hM12,hcc12,hfr12⟩:=Kd.R_elem HX12.out z46 (x4_1:Int) (qD) (by have h_:(x4_1:Int) < ((x3_1.length:Int):Int):=qD;first|exact h_|(have e_:=(Kd.R_reads' HO_3.out).1;omega)|simpa using h_);obtain rfl:=k46_openM hM12;have HP12:=Kd.R_seg HX12.out (x4_1:Int) (qD) (by have h_:(x4_1:Int) < ((x3_1.length:Int):Int):=qD;first|exact h_|(have e_:=(Kd.R_reads' HO_3.out).1;omega)|simpa using h_) (seg:=[.int .i64 t253,.int .i64 t254,.int .i64 t255,.int .i64 t256,.int .i64 t257]) (j:=0) hcl12 hcc12 (show 5<=5 from by decide) (x':=(⟨t253,t254,t255,t256,t257⟩:S46)) (k46_mkM _ _ _ (⟨t253,t254,t255,t256,t257⟩:S46) ) (fun _ hk=>hk);have hx12_0:=hcc12 0 _ rfl;(try simp only [show (k46).sz=5 from rfl,Nat.mul_one,Nat.add_zero] at hx12_0);have hf12_0:=hfr12 0;(try simp only [show (k46).sz=5 from rfl,Nat.mul_one,Nat.add_zero] at hf12_0);have hx12_1:=hcc12 1 _ rfl;(try simp only [show (k46).sz=5 from rfl,Nat.mul_one,Nat.add_zero] at hx12_1);have hf12_1:=hfr12 1;(try simp only [show (k46).sz=5 from rfl,Nat.mul_one,Nat.add_zero] at hf12_1);have hx12_2:=hcc12 2 _ rfl;(try simp only [show (k46).sz=5 from rfl,Nat.mul_one,Nat.add_zero] at hx12_2);have hf12_2:=hfr12 2;(try simp only [show (k46).sz=5 from rfl,Nat.mul_one,Nat.add_zero] at hf12_2);have hx12_3:=hcc12 3 _ rfl;(try simp only [show (k46).sz=5 from rfl,Nat.mul_one,Nat.add_zero] at hx12_3);have hf12_3:=hfr12 3;(try simp only [show (k46).sz=5 from rfl,Nat.mul_one,Nat.add_zero] at hf12_3);have hx12_4:=hcc12 4 _ rfl;(try simp only [show (k46).sz=5 from rfl,Nat.mul_one,Nat.add_zero] at hx12_4);have hf12_4:=hfr12 4;(try simp only [show (k46).sz=5 from rfl,Nat.mul_one,Nat.add_zero] at hf12_4);clear hcl12 hcc12 hfr12 hM12)|((with_reducible refine gate_store (t:=46) (p:=21) rfl ?_);refine store_event (t:=46) (p:=21) (v:=?vo_w13) (w1:=(((((w_0a.setCell ⟨go10,(x4_1:Int).toNat*5,none⟩ (.int .i64 t253)).setCell ⟨go10,(x4_1:Int).toNat*5+1,none⟩ (.int .i64 t254)).setCell ⟨go10,(x4_1:Int).toNat*5+2,none⟩ (.int .i64 t255)).setCell ⟨go10,(x4_1:Int).toNat*5+3,none⟩ (.int .i64 t256)).setCell ⟨go10,(x4_1:Int).toNat*5+4,none⟩ (.int .i64 t257))) ?hg ?ho ?hn ?hr ?_;(case ho=>rfl);(case hg=>rfl);(case hn=>rfl);(case hr=>first|(go_simp;done)|(go_simp;rfl));intro w_1a hw;have hg:w_0a.grownBy w_1a (some go10):=(by rw [hw];exact HP12.2);have hp_:Kd.R k46 46 w_1a w.heap.size (fun _=>True) (.slice (some ⟨go10,0,none⟩) x3_1.length c_0b) y258:=(by rw [hw,Ny258.out];exact HP12.1);clear HP12;replace HO_3:=aM hp_;replace HB:=aM ((by rw [hw];exact below_set (below_set (below_set (below_set (below_set (HB.out) GB10.out) GB10.out) GB10.out) GB10.out) GB10.out:Below w.heap.size w w_1a));clear hg hw hp_))
  go_roundg k1
  case measure=>have:=HK1.out;omega
  exact⟨_,_,qZ,H',⟨by have:=HK1.out;omega⟩,⟨qR HO_3⟩,⟨qB⟩⟩
 obtain rfl:=Option.some.inj H
 go_wp2
 go_ret
 exact⟨_,by first|rfl|(simp [errW_none,errW_some] <;> rfl)|(simp [*,errW_none,errW_some] <;> rfl),qR HO_3,qB⟩
def WeqQuad.f (a0_0:Int) (a0_1:Int) (a0_2:Int) (a0_3:Int) (a0_4:Int) (a1_0:Int) (a1_1:Int) (a1_2:Int) (a1_3:Int) (a1_4:Int):Option (Bool):=if a0_0=a1_0 then (if a0_1=a1_1 then (if a0_2=a1_2 then (if a0_3=a1_3 then (if a0_4=a1_4 then (some true) else (some false)) else (some false)) else (some false)) else (some false)) else (some false)
theorem WeqQuad_calls_s0 {G:Prop} (h:G:=by
  go_enter Try.func38,Try.ntmps38
  go_wp2_with (first|((with_reducible refine jd 2 rfl ?_);refine jX _ 46 ?_;intro gb305 hg w_0a hbox hb;have BK305:=aM hbox;have GW305:=kG hg;replace HB:=kH hb;clear hb hbox hg)|((with_reducible refine jd 3 rfl ?_);refine jX _ 46 ?_;intro gb306 hg w_1a hbox hb;have BK306:=aM hbox;have GW306:=kG hg;have NB305_306:=kN hg BK305;have NB306_305:=kM hg BK305;replace BK305:=kB BK305 hb;replace HB:=kH hb;clear hb hbox hg;have h_1b:=NB305_306.out;have h_1c:=NB306_305.out;have c_1d:=jz5 BK305;have c_1e:=jz5 BK306))
  go_ret
  exact⟨qW,qB⟩):G:=h
theorem WeqQuad.calls (a0_0:Int) (a0_1:Int) (a0_2:Int) (a0_3:Int) (a0_4:Int) (a1_0:Int) (a1_1:Int) (a1_2:Int) (a1_3:Int) (a1_4:Int) (r:Bool) (w:World) (h:WeqQuad.f a0_0 a0_1 a0_2 a0_3 a0_4 a1_0 a1_1 a1_2 a1_3 a1_4=some r) :
  Calls Try.prog 38 #[.agg #[.int .i64 a0_0,.int .i64 a0_1,.int .i64 a0_2,.int .i64 a0_3,.int .i64 a0_4],.agg #[.int .i64 a1_0,.int .i64 a1_1,.int .i64 a1_2,.int .i64 a1_3,.int .i64 a1_4]] w fun e w'=>e = .returned (.bool r)/\Below w.heap.size w w':=by
 have hu46:=Try.underlying46
 have HB:=aM (Below.refl w.heap.size w)
 have H:=h;unfold WeqQuad.f at H
 clear h
 replace H:=jE H;rcases H with ⟨c3b0,c3b1,H⟩ | ⟨c3,c3b0,c3b1,H⟩
 ·replace H:=jE H;rcases H with ⟨c4b0,c4b1,H⟩ | ⟨c4,c4b0,c4b1,H⟩
  ·replace H:=jE H;rcases H with ⟨c5b0,c5b1,H⟩ | ⟨c5,c5b0,c5b1,H⟩
   ·replace H:=jE H;rcases H with ⟨c6b0,c6b1,H⟩ | ⟨c6,c6b0,c6b1,H⟩
    ·replace H:=jE H;rcases H with ⟨c7b0,c7b1,H⟩ | ⟨c7,c7b0,c7b1,H⟩
     ·obtain rfl:=Option.some.inj H
      exact WeqQuad_calls_s0
     obtain rfl:=Option.some.inj H
     exact WeqQuad_calls_s0
    obtain rfl:=Option.some.inj H
    exact WeqQuad_calls_s0
   obtain rfl:=Option.some.inj H
   exact WeqQuad_calls_s0
  obtain rfl:=Option.some.inj H
  exact WeqQuad_calls_s0
 obtain rfl:=Option.some.inj H
 exact WeqQuad_calls_s0
def WeqQuadS.l0:Nat->List (S46)->List (S46)->Int->Option (Bool)
 | 0,_,_,_=>none
 | k+1,x0,x1,x5=>if x5 < (x0.length:Int) then (if 0<=x5 then (if x5 < (x1.length:Int) then ((WeqQuad.f ((rd_T46 x0 x5).f0) ((rd_T46 x0 x5).f1) ((rd_T46 x0 x5).f2) ((rd_T46 x0 x5).f3) ((rd_T46 x0 x5).f4) ((rd_T46 x1 x5).f0) ((rd_T46 x1 x5).f1) ((rd_T46 x1 x5).f2) ((rd_T46 x1 x5).f3) ((rd_T46 x1 x5).f4)).bind fun t309=>(if t309=true then (WeqQuadS.l0 k x0 x1 (wrap64 (x5+1))) else (some false))) else (none)) else (none)) else (some true)
def WeqQuadS.f (k:Nat) (l0:List (S46)) (l1:List (S46)):Option (Bool):=if (l0.length:Int)=(l1.length:Int) then (WeqQuadS.l0 k l0 l1 0) else (some false)
theorem WeqQuadS.mono_l:∀ k,(∀ y0 y1 y2,LeO (WeqQuadS.l0 k y0 y1 y2) (WeqQuadS.l0 (k+1) y0 y1 y2))
 | 0=>fun _ _ _ r h=>by simp [WeqQuadS.l0] at h
 | k+1=>by
  have ih0:=WeqQuadS.mono_l k
  intros;unfold WeqQuadS.l0;exact mM
theorem WeqQuadS.mono:∀ a0 a1 k,LeO (WeqQuadS.f k a0 a1) (WeqQuadS.f (k+1) a0 a1):=by
 intro a0 a1 k;have ih0:=WeqQuadS.mono_l k;unfold WeqQuadS.f;exact mM
def WeqQuadS.T6:Bool × List (List Nat × List Nat):=(true,[([],[]),([],[]),([0,1],[0,1]),([2],[2]),([],[]),([],[]),([4,5],[4,5]),([6],[6]),([3,7],[3,7]),([8],[8])])
def WeqQuadS.B6:List Nat:=[0,0,3,7,0,0,48,112,255,511]
theorem WeqQuadS.tab6:rtab .any (opsOf Try.f13 6)=WeqQuadS.T6:=by kernel_rfl
theorem WeqQuadS.bits6:waitsOk WeqQuadS.T6.2 WeqQuadS.B6=true:=by kernel_rfl
theorem WeqQuadS.calls (k:Nat) (A0:Option Addr) (c0:Nat) (l0:List (S46)) (A1:Option Addr) (c1:Nat) (l1:List (S46)) (r:Bool) (w:World) (hr0:Kd.C k46 w A0 l0.length l0) (hc0:l0.length<=c0) (hr1:Kd.C k46 w A1 l1.length l1) (hc1:l1.length<=c1) (h:WeqQuadS.f k l0 l1=some r) :
  Calls Try.prog 13 #[.slice A0 l0.length c0,.slice A1 l1.length c1] w fun e w'=>e = .returned (.bool r)/\Below w.heap.size w w':=by
 have hu46:=Try.underlying46
 have HR0:=aM hr0
 have HC0:=aM hc0
 clear hr0 hc0
 have HR1:=aM hr1
 have HC1:=aM hc1
 clear hr1 hc1
 have HB:=aM (Below.refl w.heap.size w)
 have H:=h;unfold WeqQuadS.f at H
 clear h
 by_cases c3:(l0.length:Int)=(l1.length:Int)
 ·rw [if_pos c3] at H
  have c3b0:((l0.length:Int) == (l1.length:Int))=true:=beq_iff_eq.mpr c3
  have c3b1:((l0.length:Int) != (l1.length:Int))=false:=bne_eq_false_iff_eq.mpr c3
  have c3b2:(l0.length == l1.length)=true:=by first|simpa using c3|(simp at c3 ⊢;omega)
  clear c3
  have H':=aM H
  clear H
  go_enter Try.func13,Try.ntmps13
  go_wp2
  go_loopg [5] k (fun kq v5 w'=>∃ (x5_1:Int),v5 = .int .i64 x5_1/\Aside0 (WeqQuadS.l0 kq l0 l1 x5_1=some r)/\Aside0 (kq<=k)/\Aside0 (Below w.heap.size w w'))
  case atStart=>exact⟨(0),qZ,H',⟨Nat.le_refl _⟩,⟨qB⟩⟩
  clear H'
  try clear c1;try clear c3;try clear c3b0;try clear c3b1;try clear c3b2
  obtain⟨x5_1,rfl,HA,HK1,HB⟩:=hrel
  rcases gk with _|k1
  ·exact absurd HA.out (by simp [WeqQuadS.l0])
  have H:=HA.out
  clear HA
  simp only [WeqQuadS.l0] at H
  replace H:=jD H;rcases H with ⟨c4b0,H⟩ | ⟨c4b0,H⟩
  ·replace H:=jI H;obtain⟨c5b0,H⟩:=H
   replace H:=jI H;obtain⟨c6b0,H⟩:=H
   obtain⟨t309,A7,H⟩:=qE H
   try dsimp only at H
   replace H:=jB H;rcases H with ⟨rfl,H⟩ | ⟨rfl,H⟩
   ·have H':=aM H
    clear H
    try go_wp2
    replace HB:=aM (below_drew1 HB.out)
    have p307:0<=(x5_1:Int):=qD
    have q307:x5_1 < (l0.length:Int):=qD
    obtain⟨ad307,e307,hx307_0,hx307_1,hx307_2,hx307_3,hx307_4⟩:=at_T46 HR0.out x5_1 p307 q307
    have hw307_4:=hx307_4
    have hw307_3:=hx307_3
    have hw307_2:=hx307_2
    have hw307_1:=hx307_1
    have hw307_0:=hx307_0
    cases e307
    replace hx307_0:=kx HB hx307_0
    replace hx307_1:=kx HB hx307_1
    replace hx307_2:=kx HB hx307_2
    replace hx307_3:=kx HB hx307_3
    replace hx307_4:=kx HB hx307_4
    replace p307:=eq_true p307
    replace q307:=eq_true q307
    have p308:0<=(x5_1:Int):=qD
    have q308:x5_1 < (l1.length:Int):=qD
    obtain⟨ad308,e308,hx308_0,hx308_1,hx308_2,hx308_3,hx308_4⟩:=at_T46 HR1.out x5_1 p308 q308
    have hw308_4:=hx308_4
    have hw308_3:=hx308_3
    have hw308_2:=hx308_2
    have hw308_1:=hx308_1
    have hw308_0:=hx308_0
    cases e308
    replace hx308_0:=kx HB hx308_0
    replace hx308_1:=kx HB hx308_1
    replace hx308_2:=kx HB hx308_2
    replace hx308_3:=kx HB hx308_3
    replace hx308_4:=kx HB hx308_4
    replace p308:=eq_true p308
    replace q308:=eq_true q308
    refine start_ (n:=10) (S:=fun w'=>w'.cell? (ad307.add ((x5_1).toNat*5))=some (.int .i64 ((rd_T46 l0 x5_1).f0))/\w'.cell? ⟨(ad307.add ((x5_1).toNat*5)).block,(ad307.add ((x5_1).toNat*5)).off+1,none⟩=some (.int .i64 ((rd_T46 l0 x5_1).f1))/\w'.cell? ⟨(ad307.add ((x5_1).toNat*5)).block,(ad307.add ((x5_1).toNat*5)).off+2,none⟩=some (.int .i64 ((rd_T46 l0 x5_1).f2))/\w'.cell? ⟨(ad307.add ((x5_1).toNat*5)).block,(ad307.add ((x5_1).toNat*5)).off+3,none⟩=some (.int .i64 ((rd_T46 l0 x5_1).f3))/\w'.cell? ⟨(ad307.add ((x5_1).toNat*5)).block,(ad307.add ((x5_1).toNat*5)).off+4,none⟩=some (.int .i64 ((rd_T46 l0 x5_1).f4))/\w'.cell? (ad308.add ((x5_1).toNat*5))=some (.int .i64 ((rd_T46 l1 x5_1).f0))/\w'.cell? ⟨(ad308.add ((x5_1).toNat*5)).block,(ad308.add ((x5_1).toNat*5)).off+1,none⟩=some (.int .i64 ((rd_T46 l1 x5_1).f1))/\w'.cell? ⟨(ad308.add ((x5_1).toNat*5)).block,(ad308.add ((x5_1).toNat*5)).off+2,none⟩=some (.int .i64 ((rd_T46 l1 x5_1).f2))/\w'.cell? ⟨(ad308.add ((x5_1).toNat*5)).block,(ad308.add ((x5_1).toNat*5)).off+3,none⟩=some (.int .i64 ((rd_T46 l1 x5_1).f3))/\w'.cell? ⟨(ad308.add ((x5_1).toNat*5)).block,(ad308.add ((x5_1).toNat*5)).off+4,none⟩=some (.int .i64 ((rd_T46 l1 x5_1).f4))) (ds:=[]) (jb 10 0) (by kernel_rfl) rfl rfl ⟨(kx HB hw307_0),(kx HB hw307_1),(kx HB hw307_2),(kx HB hw307_3),(kx HB hw307_4),(kx HB hw308_0),(kx HB hw308_1),(kx HB hw308_2),(kx HB hw308_3),(kx HB hw308_4)⟩ (fun hHeld=>?_);refine with_tabW WeqQuadS.tab6 WeqQuadS.bits6 (fun HT_ HW_=>?_)
    generalize wr.drew=w9 at HB hx307_0 hx307_1 hx307_2 hx307_3 hx307_4 hx308_0 hx308_1 hx308_2 hx308_3 hx308_4 hHeld ⊢
    refine jp 0 17 (jb 10 1) ?_
    refine jp 1 18 (jb 10 3) ?_
    refine jp 2 19 (jb 10 7) ?_
    refine jp 4 21 (jb 10 23) ?_
    refine jp 5 22 (jb 10 55) ?_
    refine jp 6 23 (jb 10 119) ?_
    refine jt 3 20 (jb 10 127) ?_
    refine jt 7 24 (jb 10 255) ?_
    refine one_ (i:=8) (N:=some 25) (jb 10 511) rfl rfl (one_of HT_.out (by kernel_rfl)) (by decide) (fun K hK=>?_)
    refine goes_ Try.func38 (by kernel_rfl) rfl #[.agg #[.int .i64 ((rd_T46 l0 x5_1).f0),.int .i64 ((rd_T46 l0 x5_1).f1),.int .i64 ((rd_T46 l0 x5_1).f2),.int .i64 ((rd_T46 l0 x5_1).f3),.int .i64 ((rd_T46 l0 x5_1).f4)],.agg #[.int .i64 ((rd_T46 l1 x5_1).f0),.int .i64 ((rd_T46 l1 x5_1).f1),.int .i64 ((rd_T46 l1 x5_1).f2),.int .i64 ((rd_T46 l1 x5_1).f3),.int .i64 ((rd_T46 l1 x5_1).f4)]] (by rfl) rfl rfl qM ?_
    with_reducible refine (WeqQuad.calls ((rd_T46 l0 x5_1).f0) ((rd_T46 l0 x5_1).f1) ((rd_T46 l0 x5_1).f2) ((rd_T46 l0 x5_1).f3) ((rd_T46 l0 x5_1).f4) ((rd_T46 l1 x5_1).f0) ((rd_T46 l1 x5_1).f1) ((rd_T46 l1 x5_1).f2) ((rd_T46 l1 x5_1).f3) ((rd_T46 l1 x5_1).f4) true _ A7.out).mono ?_
    rintro e w10 ⟨rfl,hb⟩
    refine⟨_,rfl,?_⟩
    replace HB:=kH hb
    (try clear hb)
    (try clear hb2)
    (try clear hk)
    (try clear hi)
    refine hK.out _ _ ⟨(kx HB hw307_0),(kx HB hw307_1),(kx HB hw307_2),(kx HB hw307_3),(kx HB hw307_4),(kx HB hw308_0),(kx HB hw308_1),(kx HB hw308_2),(kx HB hw308_3),(kx HB hw308_4)⟩ (fun hHeld=>?_)
    clear hK K
    refine norm_ (a':=?_) ?_ ?_
    rotate_left
    ·show Act.put _ (some 25) _=_
     simp only [Act.put,List.setIfInBounds_toArray,List.set_cons_zero,List.set_cons_succ,i64_w,i32_w]
     rfl
    refine jp 9 26 (jb 10 1023) ?_
    refine done_ (done_of HT_.out (by kernel_rfl)) ?_
    try go_wp2
    go_roundg k1
    case measure=>have:=HK1.out;omega
    exact⟨(wrap64 (x5_1+1)),qZ,H',⟨by have:=HK1.out;omega⟩,⟨qB⟩⟩
   obtain rfl:=Option.some.inj H
   try go_wp2
   replace HB:=aM (below_drew1 HB.out)
   have p307:0<=(x5_1:Int):=qD
   have q307:x5_1 < (l0.length:Int):=qD
   obtain⟨ad307,e307,hx307_0,hx307_1,hx307_2,hx307_3,hx307_4⟩:=at_T46 HR0.out x5_1 p307 q307
   have hw307_4:=hx307_4
   have hw307_3:=hx307_3
   have hw307_2:=hx307_2
   have hw307_1:=hx307_1
   have hw307_0:=hx307_0
   cases e307
   replace hx307_0:=kx HB hx307_0
   replace hx307_1:=kx HB hx307_1
   replace hx307_2:=kx HB hx307_2
   replace hx307_3:=kx HB hx307_3
   replace hx307_4:=kx HB hx307_4
   replace p307:=eq_true p307
   replace q307:=eq_true q307
   have p308:0<=(x5_1:Int):=qD
   have q308:x5_1 < (l1.length:Int):=qD
   obtain⟨ad308,e308,hx308_0,hx308_1,hx308_2,hx308_3,hx308_4⟩:=at_T46 HR1.out x5_1 p308 q308
   have hw308_4:=hx308_4
   have hw308_3:=hx308_3
   have hw308_2:=hx308_2
   have hw308_1:=hx308_1
   have hw308_0:=hx308_0
   cases e308
   replace hx308_0:=kx HB hx308_0
   replace hx308_1:=kx HB hx308_1
   replace hx308_2:=kx HB hx308_2
   replace hx308_3:=kx HB hx308_3
   replace hx308_4:=kx HB hx308_4
   replace p308:=eq_true p308
   replace q308:=eq_true q308
   refine start_ (n:=10) (S:=fun w'=>w'.cell? (ad307.add ((x5_1).toNat*5))=some (.int .i64 ((rd_T46 l0 x5_1).f0))/\w'.cell? ⟨(ad307.add ((x5_1).toNat*5)).block,(ad307.add ((x5_1).toNat*5)).off+1,none⟩=some (.int .i64 ((rd_T46 l0 x5_1).f1))/\w'.cell? ⟨(ad307.add ((x5_1).toNat*5)).block,(ad307.add ((x5_1).toNat*5)).off+2,none⟩=some (.int .i64 ((rd_T46 l0 x5_1).f2))/\w'.cell? ⟨(ad307.add ((x5_1).toNat*5)).block,(ad307.add ((x5_1).toNat*5)).off+3,none⟩=some (.int .i64 ((rd_T46 l0 x5_1).f3))/\w'.cell? ⟨(ad307.add ((x5_1).toNat*5)).block,(ad307.add ((x5_1).toNat*5)).off+4,none⟩=some (.int .i64 ((rd_T46 l0 x5_1).f4))/\w'.cell? (ad308.add ((x5_1).toNat*5))=some (.int .i64 ((rd_T46 l1 x5_1).f0))/\w'.cell? ⟨(ad308.add ((x5_1).toNat*5)).block,(ad308.add ((x5_1).toNat*5)).off+1,none⟩=some (.int .i64 ((rd_T46 l1 x5_1).f1))/\w'.cell? ⟨(ad308.add ((x5_1).toNat*5)).block,(ad308.add ((x5_1).toNat*5)).off+2,none⟩=some (.int .i64 ((rd_T46 l1 x5_1).f2))/\w'.cell? ⟨(ad308.add ((x5_1).toNat*5)).block,(ad308.add ((x5_1).toNat*5)).off+3,none⟩=some (.int .i64 ((rd_T46 l1 x5_1).f3))/\w'.cell? ⟨(ad308.add ((x5_1).toNat*5)).block,(ad308.add ((x5_1).toNat*5)).off+4,none⟩=some (.int .i64 ((rd_T46 l1 x5_1).f4))) (ds:=[]) (jb 10 0) (by kernel_rfl) rfl rfl ⟨(kx HB hw307_0),(kx HB hw307_1),(kx HB hw307_2),(kx HB hw307_3),(kx HB hw307_4),(kx HB hw308_0),(kx HB hw308_1),(kx HB hw308_2),(kx HB hw308_3),(kx HB hw308_4)⟩ (fun hHeld=>?_);refine with_tabW WeqQuadS.tab6 WeqQuadS.bits6 (fun HT_ HW_=>?_)
   generalize wr.drew=w11 at HB hx307_0 hx307_1 hx307_2 hx307_3 hx307_4 hx308_0 hx308_1 hx308_2 hx308_3 hx308_4 hHeld ⊢
   refine jp 0 17 (jb 10 1) ?_
   refine jp 1 18 (jb 10 3) ?_
   refine jp 2 19 (jb 10 7) ?_
   refine jp 4 21 (jb 10 23) ?_
   refine jp 5 22 (jb 10 55) ?_
   refine jp 6 23 (jb 10 119) ?_
   refine jt 3 20 (jb 10 127) ?_
   refine jt 7 24 (jb 10 255) ?_
   refine one_ (i:=8) (N:=some 25) (jb 10 511) rfl rfl (one_of HT_.out (by kernel_rfl)) (by decide) (fun K hK=>?_)
   refine goes_ Try.func38 (by kernel_rfl) rfl #[.agg #[.int .i64 ((rd_T46 l0 x5_1).f0),.int .i64 ((rd_T46 l0 x5_1).f1),.int .i64 ((rd_T46 l0 x5_1).f2),.int .i64 ((rd_T46 l0 x5_1).f3),.int .i64 ((rd_T46 l0 x5_1).f4)],.agg #[.int .i64 ((rd_T46 l1 x5_1).f0),.int .i64 ((rd_T46 l1 x5_1).f1),.int .i64 ((rd_T46 l1 x5_1).f2),.int .i64 ((rd_T46 l1 x5_1).f3),.int .i64 ((rd_T46 l1 x5_1).f4)]] (by rfl) rfl rfl qM ?_
   with_reducible refine (WeqQuad.calls ((rd_T46 l0 x5_1).f0) ((rd_T46 l0 x5_1).f1) ((rd_T46 l0 x5_1).f2) ((rd_T46 l0 x5_1).f3) ((rd_T46 l0 x5_1).f4) ((rd_T46 l1 x5_1).f0) ((rd_T46 l1 x5_1).f1) ((rd_T46 l1 x5_1).f2) ((rd_T46 l1 x5_1).f3) ((rd_T46 l1 x5_1).f4) false _ A7.out).mono ?_
   rintro e w12 ⟨rfl,hb⟩
   refine⟨_,rfl,?_⟩
   replace HB:=kH hb
   (try clear hb)
   (try clear hb2)
   (try clear hk)
   (try clear hi)
   refine hK.out _ _ ⟨(kx HB hw307_0),(kx HB hw307_1),(kx HB hw307_2),(kx HB hw307_3),(kx HB hw307_4),(kx HB hw308_0),(kx HB hw308_1),(kx HB hw308_2),(kx HB hw308_3),(kx HB hw308_4)⟩ (fun hHeld=>?_)
   clear hK K
   refine norm_ (a':=?_) ?_ ?_
   rotate_left
   ·show Act.put _ (some 25) _=_
    simp only [Act.put,List.setIfInBounds_toArray,List.set_cons_zero,List.set_cons_succ,i64_w,i32_w]
    rfl
   refine jp 9 26 (jb 10 1023) ?_
   refine done_ (done_of HT_.out (by kernel_rfl)) ?_
   try go_wp2
   go_ret
   exact⟨qW,qB⟩
  obtain rfl:=Option.some.inj H
  go_wp2
  go_ret
  exact⟨qW,qB⟩
 rw [if_neg c3] at H
 have c3b0:((l0.length:Int) == (l1.length:Int))=false:=beq_eq_false_iff_ne.mpr c3
 have c3b1:((l0.length:Int) != (l1.length:Int))=true:=bne_iff_ne.mpr c3
 have c3b2:(l0.length == l1.length)=false:=by first|simpa using c3|(simp at c3 ⊢;omega)
 obtain rfl:=Option.some.inj H
 go_enter Try.func13,Try.ntmps13
 go_wp2
 go_ret
 exact⟨qW,qB⟩
def WmarkQuadS.l0:Nat->List (S46)->Int->Int->Option (Int × (List (S46)))
 | 0,_,_,_=>none
 | k+1,x0,x1,x5=>if x5 < (x0.length:Int) then (if 0<=x5 then ((some (x0.set (x5:Int).toNat (⟨x1,(rd_T46 x0 x5).f1,(rd_T46 x0 x5).f2,(rd_T46 x0 x5).f3,(rd_T46 x0 x5).f4⟩:S46):List (S46))).bind fun y393=>((some (y393.set (x5:Int).toNat (⟨(rd_T46 y393 x5).f0,wrap64 (x1+1),(rd_T46 y393 x5).f2,(rd_T46 y393 x5).f3,(rd_T46 y393 x5).f4⟩:S46):List (S46))).bind fun y394=>((some (y394.set (x5:Int).toNat (⟨(rd_T46 y394 x5).f0,(rd_T46 y394 x5).f1,wrap64 ((wrap64 (x1+1))+1),(rd_T46 y394 x5).f3,(rd_T46 y394 x5).f4⟩:S46):List (S46))).bind fun y395=>((some (y395.set (x5:Int).toNat (⟨(rd_T46 y395 x5).f0,(rd_T46 y395 x5).f1,(rd_T46 y395 x5).f2,wrap64 ((wrap64 ((wrap64 (x1+1))+1))+1),(rd_T46 y395 x5).f4⟩:S46):List (S46))).bind fun y396=>(WmarkQuadS.l0 k (y396.set (x5:Int).toNat (⟨(rd_T46 y396 x5).f0,(rd_T46 y396 x5).f1,(rd_T46 y396 x5).f2,(rd_T46 y396 x5).f3,wrap64 ((wrap64 ((wrap64 ((wrap64 (x1+1))+1))+1))+1)⟩:S46)) (wrap64 ((wrap64 ((wrap64 ((wrap64 ((wrap64 (x1+1))+1))+1))+1))+1)) (wrap64 (x5+1))))))) else (none)) else (some (x1,x0))
def WmarkQuadS.f (k:Nat) (l0:List (S46)) (a1:Int):Option (Int × (List (S46))):=WmarkQuadS.l0 k l0 a1 0
theorem WmarkQuadS.mono_l:∀ k,(∀ y0 y1 y2,LeO (WmarkQuadS.l0 k y0 y1 y2) (WmarkQuadS.l0 (k+1) y0 y1 y2))
 | 0=>fun _ _ _ r h=>by simp [WmarkQuadS.l0] at h
 | k+1=>by
  have ih0:=WmarkQuadS.mono_l k
  intros;unfold WmarkQuadS.l0;exact mM
theorem WmarkQuadS.mono:∀ a0 a1 k,LeO (WmarkQuadS.f k a0 a1) (WmarkQuadS.f (k+1) a0 a1):=by
 intro a0 a1 k;have ih0:=WmarkQuadS.mono_l k;unfold WmarkQuadS.f;exact mM
theorem WmarkQuadS.calls (k:Nat) (P0_:Nat->Prop) (u9000_:Value) (l0:List (S46)) (a1:Int) (r1:Int) (r2:List (S46)) (w0 w:World) (hB:Below w0.heap.size w0 w) (ho0:Kd.R k46 46 w w0.heap.size P0_ u9000_ l0) (h:WmarkQuadS.f k l0 a1=some (r1,r2)) :
  Calls Try.prog 19 #[u9000_,.int .i64 a1] w fun e w'=>e = .returned (.int .i64 r1)/\Kd.R k46 46 w' w0.heap.size (fun k_=>(P0_ k_\/w.heap.size<=k_)) u9000_ r2/\Below w0.heap.size w0 w'/\Kept w w' (fun k_=>P0_ k_):=by
 have HO0:=aM (show Kd.R k46 46 w w0.heap.size (fun k_=>(P0_ k_\/w.heap.size<=k_)) u9000_ l0 from Kd.R_mono ho0 (fun k_ hk=>(.inl hk)))
 have HK:=aM (Kept.refl w (fun k_=>P0_ k_))
 have HW0:=aM hB.size
 have HB:=aM hB
 clear hB
 have H:(WmarkQuadS.l0 k l0 a1 0)=some (r1,r2):=h
 clear h
 have H':=aM H
 clear H
 go_enter Try.func19,Try.ntmps19
 go_wp2
 go_loopg [1,5] k (fun kq v1 v5 w'=>∃ (x0_1:List (S46)) (x1_1:Int) (x5_1:Int),v1 = .int .i64 x1_1/\v5 = .int .i64 x5_1/\Aside0 (WmarkQuadS.l0 kq x0_1 x1_1 x5_1=some (r1,r2))/\Aside0 (kq<=k)/\Aside0 (Kd.R k46 46 w' w0.heap.size (fun k_=>(P0_ k_\/w.heap.size<=k_)) u9000_ x0_1)/\Aside0 (Kept w w' (fun k_=>P0_ k_))/\Aside0 (Below w0.heap.size w0 w'))
 case atStart=>exact⟨(l0),(a1),(0),qZ,qZ,H',⟨Nat.le_refl _⟩,⟨qR HO0⟩,⟨qT⟩,⟨qB⟩⟩
 clear H'
 obtain⟨x0_1,x1_1,x5_1,rfl,rfl,HA,HK1,HO_0,HK,HB⟩:=hrel
 rcases gk with _|k1
 ·exact absurd HA.out (by simp [WmarkQuadS.l0])
 have H:=HA.out
 clear HA
 simp only [WmarkQuadS.l0] at H
 replace H:=jD H;rcases H with ⟨c3b0,H⟩ | ⟨c3b0,H⟩
 ·replace H:=jI H;obtain⟨c4b0,H⟩:=H
  obtain⟨y393,Ny393⟩:=ky ((x0_1.set (x5_1:Int).toNat (⟨x1_1,(rd_T46 x0_1 x5_1).f1,(rd_T46 x0_1 x5_1).f2,(rd_T46 x0_1 x5_1).f3,(rd_T46 x0_1 x5_1).f4⟩:S46)):List (S46))
  first|replace H:=kz Ny393 H|rw [<- Ny393.out] at H
  obtain⟨y394,Ny394⟩:=ky ((y393.set (x5_1:Int).toNat (⟨(rd_T46 y393 x5_1).f0,wrap64 (x1_1+1),(rd_T46 y393 x5_1).f2,(rd_T46 y393 x5_1).f3,(rd_T46 y393 x5_1).f4⟩:S46)):List (S46))
  first|replace H:=kz Ny394 H|rw [<- Ny394.out] at H
  obtain⟨y395,Ny395⟩:=ky ((y394.set (x5_1:Int).toNat (⟨(rd_T46 y394 x5_1).f0,(rd_T46 y394 x5_1).f1,wrap64 ((wrap64 (x1_1+1))+1),(rd_T46 y394 x5_1).f3,(rd_T46 y394 x5_1).f4⟩:S46)):List (S46))
  first|replace H:=kz Ny395 H|rw [<- Ny395.out] at H
  obtain⟨y396,Ny396⟩:=ky ((y395.set (x5_1:Int).toNat (⟨(rd_T46 y395 x5_1).f0,(rd_T46 y395 x5_1).f1,(rd_T46 y395 x5_1).f2,wrap64 ((wrap64 ((wrap64 (x1_1+1))+1))+1),(rd_T46 y395 x5_1).f4⟩:S46)):List (S46))
  first|replace H:=kz Ny396 H|rw [<- Ny396.out] at H
  obtain⟨y397,Ny397⟩:=ky ((y396.set (x5_1:Int).toNat (⟨(rd_T46 y396 x5_1).f0,(rd_T46 y396 x5_1).f1,(rd_T46 y396 x5_1).f2,(rd_T46 y396 x5_1).f3,wrap64 ((wrap64 ((wrap64 ((wrap64 (x1_1+1))+1))+1))+1)⟩:S46)):List (S46))
  first|replace H:=kz Ny397 H|rw [<- Ny397.out] at H
  have H':=aM H
  clear H
  obtain⟨Ao10,co10,eo10⟩:=Kd.R_slice HO_0.out
  subst eo10
  have p5:0<=(x5_1:Int):=qD
  have q5:(x5_1:Int) < ((x0_1.length:Int):Int):=qD
  obtain⟨go5,co5,eo5,gb5,gl5,cl5,HG5⟩:=Kd.R_form HO_0.out (by omega)
  (first|cases eo5|(injection eo5 with ea_ en_ ec_;(first|subst ea_|(injection ea_ with ea_;subst ea_));subst ec_;clear en_))
  have GB5:=aM gb5
  have GG5:=aM HG5
  clear gb5 gl5 HG5
  have HMgo5:=aM (show (P0_ go5\/w.heap.size<=go5) from (HO_0.out.1 _ rfl))
  obtain⟨ce5,hcl5,hM5,hcc5,hfr5⟩:=Kd.R_elem HO_0.out z46 (x5_1:Int) p5 q5
  obtain rfl:=k46_openM hM5
  have hx5_0:wr.cell? ⟨go5,(x5_1:Int).toNat*5,none⟩=some (.int .i64 ((rd_T46 x0_1 x5_1).f0)):=hcc5 0 _ rfl
  have hx5_1:wr.cell? ⟨go5,(x5_1:Int).toNat*5+1,none⟩=some (.int .i64 ((rd_T46 x0_1 x5_1).f1)):=hcc5 1 _ rfl
  have hx5_2:wr.cell? ⟨go5,(x5_1:Int).toNat*5+2,none⟩=some (.int .i64 ((rd_T46 x0_1 x5_1).f2)):=hcc5 2 _ rfl
  have hx5_3:wr.cell? ⟨go5,(x5_1:Int).toNat*5+3,none⟩=some (.int .i64 ((rd_T46 x0_1 x5_1).f3)):=hcc5 3 _ rfl
  have hx5_4:wr.cell? ⟨go5,(x5_1:Int).toNat*5+4,none⟩=some (.int .i64 ((rd_T46 x0_1 x5_1).f4)):=hcc5 4 _ rfl
  have hf5_0:wr.frozen? ⟨go5,(x5_1:Int).toNat*5,none⟩=false:=hfr5 0
  have hf5_1:wr.frozen? ⟨go5,(x5_1:Int).toNat*5+1,none⟩=false:=hfr5 1
  have hf5_2:wr.frozen? ⟨go5,(x5_1:Int).toNat*5+2,none⟩=false:=hfr5 2
  have hf5_3:wr.frozen? ⟨go5,(x5_1:Int).toNat*5+3,none⟩=false:=hfr5 3
  have hf5_4:wr.frozen? ⟨go5,(x5_1:Int).toNat*5+4,none⟩=false:=hfr5 4
  clear hcl5 hcc5 hfr5 hM5
  replace p5:=eq_true p5
  replace q5:=eq_true q5
  have HX11:=aM (show Kd.R k46 46 wr w0.heap.size (fun k_=>(P0_ k_\/w.heap.size<=k_)) (.slice (some ⟨go5,0,none⟩) x0_1.length co10) x0_1 from (qR HO_0))
  obtain⟨ce11,hcl11,hM11,hcc11,hfr11⟩:=Kd.R_elem HX11.out z46 (x5_1:Int) (qD) (by have h_:(x5_1:Int) < ((x0_1.length:Int):Int):=qD;first|exact h_|(have e_:=(Kd.R_reads' HO_0.out).1;omega)|simpa using h_)
  obtain rfl:=k46_openM hM11
  have HP11:=Kd.R_seg HX11.out (x5_1:Int) (qD) (by have h_:(x5_1:Int) < ((x0_1.length:Int):Int):=qD;first|exact h_|(have e_:=(Kd.R_reads' HO_0.out).1;omega)|simpa using h_) (seg:=[.int .i64 x1_1]) (j:=0) hcl11 hcc11 (show 1<=5 from by decide) (x':=(⟨x1_1,(rd_T46 x0_1 x5_1).f1,(rd_T46 x0_1 x5_1).f2,(rd_T46 x0_1 x5_1).f3,(rd_T46 x0_1 x5_1).f4⟩:S46)) (k46_mkM _ _ _ (⟨x1_1,(rd_T46 x0_1 x5_1).f1,(rd_T46 x0_1 x5_1).f2,(rd_T46 x0_1 x5_1).f3,(rd_T46 x0_1 x5_1).f4⟩:S46) ) (fun _ hk=>hk)
  have hx11_0:=hcc11 0 _ rfl
  (try simp only [show (k46).sz=5 from rfl,Nat.mul_one,Nat.add_zero] at hx11_0)
  have hf11_0:=hfr11 0
  (try simp only [show (k46).sz=5 from rfl,Nat.mul_one,Nat.add_zero] at hf11_0)
  clear hcl11 hcc11 hfr11 hM11
  go_wp2_with (first|((with_reducible refine gate_store (t:=3) (p:=16) rfl ?_);refine store_event (t:=3) (p:=16) (v:=?vo_w12) (w1:=(wr.setCell ⟨go5,(x5_1:Int).toNat*5,none⟩ (.int .i64 x1_1))) ?hg ?ho ?hn ?hr ?_;(case ho=>rfl);(case hg=>rfl);(case hn=>rfl);(case hr=>first|(go_simp;done)|(go_simp;rfl));intro w_0a hw;have hg:wr.grownBy w_0a (some go5):=(by rw [hw];exact HP11.2);have hp_:Kd.R k46 46 w_0a w0.heap.size (fun k_=>(P0_ k_\/w.heap.size<=k_)) (.slice (some ⟨go5,0,none⟩) x0_1.length co10) y393:=(by rw [hw,Ny393.out];exact HP11.1);clear HP11;replace HB:=aM ((by rw [hw];exact below_set (HB.out) GB5.out:Below w0.heap.size w0 w_0a));replace HK:=aM (Kept.of_grown (S:=(fun k_=>P0_ k_)) hg qT (fun k_ e_=>(HO_0.out.1 k_ e_)));replace HO_0:=aM hp_;clear hg hw hp_;have p6:0<=(x5_1:Int):=qD;have q6:(x5_1:Int) < ((x0_1.length:Int):Int):=qD;obtain⟨ce6,hcl6,hM6,hcc6,hfr6⟩:=Kd.R_elem HO_0.out z46 (x5_1:Int) p6 q6;obtain rfl:=k46_openM hM6;have hx6_0:w_0a.cell? ⟨go5,(x5_1:Int).toNat*5,none⟩=some (.int .i64 ((rd_T46 y393 x5_1).f0)):=hcc6 0 _ rfl;have hx6_1:w_0a.cell? ⟨go5,(x5_1:Int).toNat*5+1,none⟩=some (.int .i64 ((rd_T46 y393 x5_1).f1)):=hcc6 1 _ rfl;have hx6_2:w_0a.cell? ⟨go5,(x5_1:Int).toNat*5+2,none⟩=some (.int .i64 ((rd_T46 y393 x5_1).f2)):=hcc6 2 _ rfl;have hx6_3:w_0a.cell? ⟨go5,(x5_1:Int).toNat*5+3,none⟩=some (.int .i64 ((rd_T46 y393 x5_1).f3)):=hcc6 3 _ rfl;have hx6_4:w_0a.cell? ⟨go5,(x5_1:Int).toNat*5+4,none⟩=some (.int .i64 ((rd_T46 y393 x5_1).f4)):=hcc6 4 _ rfl;have hf6_0:w_0a.frozen? ⟨go5,(x5_1:Int).toNat*5,none⟩=false:=hfr6 0;have hf6_1:w_0a.frozen? ⟨go5,(x5_1:Int).toNat*5+1,none⟩=false:=hfr6 1;have hf6_2:w_0a.frozen? ⟨go5,(x5_1:Int).toNat*5+2,none⟩=false:=hfr6 2;have hf6_3:w_0a.frozen? ⟨go5,(x5_1:Int).toNat*5+3,none⟩=false:=hfr6 3;have hf6_4:w_0a.frozen? ⟨go5,(x5_1:Int).toNat*5+4,none⟩=false:=hfr6 4;clear hcl6 hcc6 hfr6 hM6;replace p6:=eq_true p6;replace q6:=eq_true q6;have HX13:=aM (show Kd.R k46 46 w_0a w0.heap.size (fun k_=>(P0_ k_\/w.heap.size<=k_)) (.slice (some ⟨go5,0,none⟩) x0_1.length co10) y393 from (qR HO_0));obtain⟨ce13,hcl13,hM13,hcc13,hfr13⟩:=Kd.R_elem HX13.out z46 (x5_1:Int) (qD) (by have h_:(x5_1:Int) < ((x0_1.length:Int):Int):=qD;first|exact h_|(have e_:=(Kd.R_reads' HO_0.out).1;omega)|simpa using h_);obtain rfl:=k46_openM hM13;have HP13:=Kd.R_seg HX13.out (x5_1:Int) (qD) (by have h_:(x5_1:Int) < ((x0_1.length:Int):Int):=qD;first|exact h_|(have e_:=(Kd.R_reads' HO_0.out).1;omega)|simpa using h_) (seg:=[.int .i64 (wrap64 (x1_1+1))]) (j:=1) hcl13 hcc13 (show 2<=5 from by decide) (x':=(⟨(rd_T46 y393 x5_1).f0,wrap64 (x1_1+1),(rd_T46 y393 x5_1).f2,(rd_T46 y393 x5_1).f3,(rd_T46 y393 x5_1).f4⟩:S46)) (k46_mkM _ _ _ (⟨(rd_T46 y393 x5_1).f0,wrap64 (x1_1+1),(rd_T46 y393 x5_1).f2,(rd_T46 y393 x5_1).f3,(rd_T46 y393 x5_1).f4⟩:S46) ) (fun _ hk=>hk);have hx13_1:=hcc13 1 _ rfl;(try simp only [show (k46).sz=5 from rfl,Nat.mul_one,Nat.add_zero] at hx13_1);have hf13_1:=hfr13 1;(try simp only [show (k46).sz=5 from rfl,Nat.mul_one,Nat.add_zero] at hf13_1);clear hcl13 hcc13 hfr13 hM13)|((with_reducible refine gate_store (t:=3) (p:=23) rfl ?_);refine store_event (t:=3) (p:=23) (v:=?vo_w14) (w1:=(w_0a.setCell ⟨go5,(x5_1:Int).toNat*5+1,none⟩ (.int .i64 (wrap64 (x1_1+1))))) ?hg ?ho ?hn ?hr ?_;(case ho=>rfl);(case hg=>rfl);(case hn=>rfl);(case hr=>first|(go_simp;done)|(go_simp;rfl));intro w_1a hw;have hg:w_0a.grownBy w_1a (some go5):=(by rw [hw];exact HP13.2);have hp_:Kd.R k46 46 w_1a w0.heap.size (fun k_=>(P0_ k_\/w.heap.size<=k_)) (.slice (some ⟨go5,0,none⟩) x0_1.length co10) y394:=(by rw [hw,Ny394.out];exact HP13.1);clear HP13;replace HB:=aM ((by rw [hw];exact below_set (HB.out) GB5.out:Below w0.heap.size w0 w_1a));replace HK:=aM (Kept.of_grown (S:=(fun k_=>P0_ k_)) hg qT (fun k_ e_=>(HO_0.out.1 k_ e_)));replace HO_0:=aM hp_;clear hg hw hp_;have p7:0<=(x5_1:Int):=qD;have q7:(x5_1:Int) < ((x0_1.length:Int):Int):=qD;obtain⟨ce7,hcl7,hM7,hcc7,hfr7⟩:=Kd.R_elem HO_0.out z46 (x5_1:Int) p7 q7;obtain rfl:=k46_openM hM7;have hx7_0:w_1a.cell? ⟨go5,(x5_1:Int).toNat*5,none⟩=some (.int .i64 ((rd_T46 y394 x5_1).f0)):=hcc7 0 _ rfl;have hx7_1:w_1a.cell? ⟨go5,(x5_1:Int).toNat*5+1,none⟩=some (.int .i64 ((rd_T46 y394 x5_1).f1)):=hcc7 1 _ rfl;have hx7_2:w_1a.cell? ⟨go5,(x5_1:Int).toNat*5+2,none⟩=some (.int .i64 ((rd_T46 y394 x5_1).f2)):=hcc7 2 _ rfl;have hx7_3:w_1a.cell? ⟨go5,(x5_1:Int).toNat*5+3,none⟩=some (.int .i64 ((rd_T46 y394 x5_1).f3)):=hcc7 3 _ rfl;have hx7_4:w_1a.cell? ⟨go5,(x5_1:Int).toNat*5+4,none⟩=some (.int .i64 ((rd_T46 y394 x5_1).f4)):=hcc7 4 _ rfl;have hf7_0:w_1a.frozen? ⟨go5,(x5_1:Int).toNat*5,none⟩=false:=hfr7 0;have hf7_1:w_1a.frozen? ⟨go5,(x5_1:Int).toNat*5+1,none⟩=false:=hfr7 1;have hf7_2:w_1a.frozen? ⟨go5,(x5_1:Int).toNat*5+2,none⟩=false:=hfr7 2;have hf7_3:w_1a.frozen? ⟨go5,(x5_1:Int).toNat*5+3,none⟩=false:=hfr7 3;have hf7_4:w_1a.frozen? ⟨go5,(x5_1:Int).toNat*5+4,none⟩=false:=hfr7 4;clear hcl7 hcc7 hfr7 hM7;replace p7:=eq_true p7;replace q7:=eq_true q7;have HX15:=aM (show Kd.R k46 46 w_1a w0.heap.size (fun k_=>(P0_ k_\/w.heap.size<=k_)) (.slice (some ⟨go5,0,none⟩) x0_1.length co10) y394 from (qR HO_0));obtain⟨ce15,hcl15,hM15,hcc15,hfr15⟩:=Kd.R_elem HX15.out z46 (x5_1:Int) (qD) (by have h_:(x5_1:Int) < ((x0_1.length:Int):Int):=qD;first|exact h_|(have e_:=(Kd.R_reads' HO_0.out).1;omega)|simpa using h_);obtain rfl:=k46_openM hM15;have HP15:=Kd.R_seg HX15.out (x5_1:Int) (qD) (by have h_:(x5_1:Int) < ((x0_1.length:Int):Int):=qD;first|exact h_|(have e_:=(Kd.R_reads' HO_0.out).1;omega)|simpa using h_) (seg:=[.int .i64 (wrap64 ((wrap64 (x1_1+1))+1))]) (j:=2) hcl15 hcc15 (show 3<=5 from by decide) (x':=(⟨(rd_T46 y394 x5_1).f0,(rd_T46 y394 x5_1).f1,wrap64 ((wrap64 (x1_1+1))+1),(rd_T46 y394 x5_1).f3,(rd_T46 y394 x5_1).f4⟩:S46)) (k46_mkM _ _ _ (⟨(rd_T46 y394 x5_1).f0,(rd_T46 y394 x5_1).f1,wrap64 ((wrap64 (x1_1+1))+1),(rd_T46 y394 x5_1).f3,(rd_T46 y394 x5_1).f4⟩:S46) ) (fun _ hk=>hk);have hx15_2:=hcc15 2 _ rfl;(try simp only [show (k46).sz=5 from rfl,Nat.mul_one,Nat.add_zero] at hx15_2);have hf15_2:=hfr15 2;(try simp only [show (k46).sz=5 from rfl,Nat.mul_one,Nat.add_zero] at hf15_2);clear hcl15 hcc15 hfr15 hM15)|((with_reducible refine gate_store (t:=3) (p:=30) rfl ?_);refine store_event (t:=3) (p:=30) (v:=?vo_w16) (w1:=(w_1a.setCell ⟨go5,(x5_1:Int).toNat*5+2,none⟩ (.int .i64 (wrap64 ((wrap64 (x1_1+1))+1))))) ?hg ?ho ?hn ?hr ?_;(case ho=>rfl);(case hg=>rfl);(case hn=>rfl);(case hr=>first|(go_simp;done)|(go_simp;rfl));intro w_2a hw;have hg:w_1a.grownBy w_2a (some go5):=(by rw [hw];exact HP15.2);have hp_:Kd.R k46 46 w_2a w0.heap.size (fun k_=>(P0_ k_\/w.heap.size<=k_)) (.slice (some ⟨go5,0,none⟩) x0_1.length co10) y395:=(by rw [hw,Ny395.out];exact HP15.1);clear HP15;replace HB:=aM ((by rw [hw];exact below_set (HB.out) GB5.out:Below w0.heap.size w0 w_2a));replace HK:=aM (Kept.of_grown (S:=(fun k_=>P0_ k_)) hg qT (fun k_ e_=>(HO_0.out.1 k_ e_)));replace HO_0:=aM hp_;clear hg hw hp_;have p8:0<=(x5_1:Int):=qD;have q8:(x5_1:Int) < ((x0_1.length:Int):Int):=qD;obtain⟨ce8,hcl8,hM8,hcc8,hfr8⟩:=Kd.R_elem HO_0.out z46 (x5_1:Int) p8 q8;obtain rfl:=k46_openM hM8;have hx8_0:w_2a.cell? ⟨go5,(x5_1:Int).toNat*5,none⟩=some (.int .i64 ((rd_T46 y395 x5_1).f0)):=hcc8 0 _ rfl;have hx8_1:w_2a.cell? ⟨go5,(x5_1:Int).toNat*5+1,none⟩=some (.int .i64 ((rd_T46 y395 x5_1).f1)):=hcc8 1 _ rfl;have hx8_2:w_2a.cell? ⟨go5,(x5_1:Int).toNat*5+2,none⟩=some (.int .i64 ((rd_T46 y395 x5_1).f2)):=hcc8 2 _ rfl;have hx8_3:w_2a.cell? ⟨go5,(x5_1:Int).toNat*5+3,none⟩=some (.int .i64 ((rd_T46 y395 x5_1).f3)):=hcc8 3 _ rfl;have hx8_4:w_2a.cell? ⟨go5,(x5_1:Int).toNat*5+4,none⟩=some (.int .i64 ((rd_T46 y395 x5_1).f4)):=hcc8 4 _ rfl;have hf8_0:w_2a.frozen? ⟨go5,(x5_1:Int).toNat*5,none⟩=false:=hfr8 0;have hf8_1:w_2a.frozen? ⟨go5,(x5_1:Int).toNat*5+1,none⟩=false:=hfr8 1;have hf8_2:w_2a.frozen? ⟨go5,(x5_1:Int).toNat*5+2,none⟩=false:=hfr8 2;have hf8_3:w_2a.frozen? ⟨go5,(x5_1:Int).toNat*5+3,none⟩=false:=hfr8 3;have hf8_4:w_2a.frozen? ⟨go5,(x5_1:Int).toNat*5+4,none⟩=false:=hfr8 4;clear hcl8 hcc8 hfr8 hM8;replace p8:=eq_true p8;replace q8:=eq_true q8;have HX17:=aM (show Kd.R k46 46 w_2a w0.heap.size (fun k_=>(P0_ k_\/w.heap.size<=k_)) (.slice (some ⟨go5,0,none⟩) x0_1.length co10) y395 from (qR HO_0));obtain⟨ce17,hcl17,hM17,hcc17,hfr17⟩:=Kd.R_elem HX17.out z46 (x5_1:Int) (qD) (by have h_:(x5_1:Int) < ((x0_1.length:Int):Int):=qD;first|exact h_|(have e_:=(Kd.R_reads' HO_0.out).1;omega)|simpa using h_);obtain rfl:=k46_openM hM17;have HP17:=Kd.R_seg HX17.out (x5_1:Int) (qD) (by have h_:(x5_1:Int) < ((x0_1.length:Int):Int):=qD;first|exact h_|(have e_:=(Kd.R_reads' HO_0.out).1;omega)|simpa using h_) (seg:=[.int .i64 (wrap64 ((wrap64 ((wrap64 (x1_1+1))+1))+1))]) (j:=3) hcl17 hcc17 (show 4<=5 from by decide) (x':=(⟨(rd_T46 y395 x5_1).f0,(rd_T46 y395 x5_1).f1,(rd_T46 y395 x5_1).f2,wrap64 ((wrap64 ((wrap64 (x1_1+1))+1))+1),(rd_T46 y395 x5_1).f4⟩:S46)) (k46_mkM _ _ _ (⟨(rd_T46 y395 x5_1).f0,(rd_T46 y395 x5_1).f1,(rd_T46 y395 x5_1).f2,wrap64 ((wrap64 ((wrap64 (x1_1+1))+1))+1),(rd_T46 y395 x5_1).f4⟩:S46) ) (fun _ hk=>hk);have hx17_3:=hcc17 3 _ rfl;(try simp only [show (k46).sz=5 from rfl,Nat.mul_one,Nat.add_zero] at hx17_3);have hf17_3:=hfr17 3;(try simp only [show (k46).sz=5 from rfl,Nat.mul_one,Nat.add_zero] at hf17_3);clear hcl17 hcc17 hfr17 hM17)|((with_reducible refine gate_store (t:=3) (p:=37) rfl ?_);refine store_event (t:=3) (p:=37) (v:=?vo_w18) (w1:=(w_2a.setCell ⟨go5,(x5_1:Int).toNat*5+3,none⟩ (.int .i64 (wrap64 ((wrap64 ((wrap64 (x1_1+1))+1))+1))))) ?hg ?ho ?hn ?hr ?_;(case ho=>rfl);(case hg=>rfl);(case hn=>rfl);(case hr=>first|(go_simp;done)|(go_simp;rfl));intro w_3a hw;have hg:w_2a.grownBy w_3a (some go5):=(by rw [hw];exact HP17.2);have hp_:Kd.R k46 46 w_3a w0.heap.size (fun k_=>(P0_ k_\/w.heap.size<=k_)) (.slice (some ⟨go5,0,none⟩) x0_1.length co10) y396:=(by rw [hw,Ny396.out];exact HP17.1);clear HP17;replace HB:=aM ((by rw [hw];exact below_set (HB.out) GB5.out:Below w0.heap.size w0 w_3a));replace HK:=aM (Kept.of_grown (S:=(fun k_=>P0_ k_)) hg qT (fun k_ e_=>(HO_0.out.1 k_ e_)));replace HO_0:=aM hp_;clear hg hw hp_;have p9:0<=(x5_1:Int):=qD;have q9:(x5_1:Int) < ((x0_1.length:Int):Int):=qD;obtain⟨ce9,hcl9,hM9,hcc9,hfr9⟩:=Kd.R_elem HO_0.out z46 (x5_1:Int) p9 q9;obtain rfl:=k46_openM hM9;have hx9_0:w_3a.cell? ⟨go5,(x5_1:Int).toNat*5,none⟩=some (.int .i64 ((rd_T46 y396 x5_1).f0)):=hcc9 0 _ rfl;have hx9_1:w_3a.cell? ⟨go5,(x5_1:Int).toNat*5+1,none⟩=some (.int .i64 ((rd_T46 y396 x5_1).f1)):=hcc9 1 _ rfl;have hx9_2:w_3a.cell? ⟨go5,(x5_1:Int).toNat*5+2,none⟩=some (.int .i64 ((rd_T46 y396 x5_1).f2)):=hcc9 2 _ rfl;have hx9_3:w_3a.cell? ⟨go5,(x5_1:Int).toNat*5+3,none⟩=some (.int .i64 ((rd_T46 y396 x5_1).f3)):=hcc9 3 _ rfl;have hx9_4:w_3a.cell? ⟨go5,(x5_1:Int).toNat*5+4,none⟩=some (.int .i64 ((rd_T46 y396 x5_1).f4)):=hcc9 4 _ rfl;have hf9_0:w_3a.frozen? ⟨go5,(x5_1:Int).toNat*5,none⟩=false:=hfr9 0;have hf9_1:w_3a.frozen? ⟨go5,(x5_1:Int).toNat*5+1,none⟩=false:=hfr9 1;have hf9_2:w_3a.frozen? ⟨go5,(x5_1:Int).toNat*5+2,none⟩=false:=hfr9 2;have hf9_3:w_3a.frozen? ⟨go5,(x5_1:Int).toNat*5+3,none⟩=false:=hfr9 3;have hf9_4:w_3a.frozen? ⟨go5,(x5_1:Int).toNat*5+4,none⟩=false:=hfr9 4;clear hcl9 hcc9 hfr9 hM9;replace p9:=eq_true p9;replace q9:=eq_true q9;have HX19:=aM (show Kd.R k46 46 w_3a w0.heap.size (fun k_=>(P0_ k_\/w.heap.size<=k_)) (.slice (some ⟨go5,0,none⟩) x0_1.length co10) y396 from (qR HO_0));obtain⟨ce19,hcl19,hM19,hcc19,hfr19⟩:=Kd.R_elem HX19.out z46 (x5_1:Int) (qD) (by have h_:(x5_1:Int) < ((x0_1.length:Int):Int):=qD;first|exact h_|(have e_:=(Kd.R_reads' HO_0.out).1;omega)|simpa using h_);obtain rfl:=k46_openM hM19;have HP19:=Kd.R_seg HX19.out (x5_1:Int) (qD) (by have h_:(x5_1:Int) < ((x0_1.length:Int):Int):=qD;first|exact h_|(have e_:=(Kd.R_reads' HO_0.out).1;omega)|simpa using h_) (seg:=[.int .i64 (wrap64 ((wrap64 ((wrap64 ((wrap64 (x1_1+1))+1))+1))+1))]) (j:=4) hcl19 hcc19 (show 5<=5 from by decide) (x':=(⟨(rd_T46 y396 x5_1).f0,(rd_T46 y396 x5_1).f1,(rd_T46 y396 x5_1).f2,(rd_T46 y396 x5_1).f3,wrap64 ((wrap64 ((wrap64 ((wrap64 (x1_1+1))+1))+1))+1)⟩:S46)) (k46_mkM _ _ _ (⟨(rd_T46 y396 x5_1).f0,(rd_T46 y396 x5_1).f1,(rd_T46 y396 x5_1).f2,(rd_T46 y396 x5_1).f3,wrap64 ((wrap64 ((wrap64 ((wrap64 (x1_1+1))+1))+1))+1)⟩:S46) ) (fun _ hk=>hk);have hx19_4:=hcc19 4 _ rfl;(try simp only [show (k46).sz=5 from rfl,Nat.mul_one,Nat.add_zero] at hx19_4);have hf19_4:=hfr19 4;(try simp only [show (k46).sz=5 from rfl,Nat.mul_one,Nat.add_zero] at hf19_4);clear hcl19 hcc19 hfr19 hM19)|((with_reducible refine gate_store (t:=3) (p:=44) rfl ?_);refine store_event (t:=3) (p:=44) (v:=?vo_w20) (w1:=(w_3a.setCell ⟨go5,(x5_1:Int).toNat*5+4,none⟩ (.int .i64 (wrap64 ((wrap64 ((wrap64 ((wrap64 (x1_1+1))+1))+1))+1))))) ?hg ?ho ?hn ?hr ?_;(case ho=>rfl);(case hg=>rfl);(case hn=>rfl);(case hr=>first|(go_simp;done)|(go_simp;rfl));intro w_4a hw;have hg:w_3a.grownBy w_4a (some go5):=(by rw [hw];exact HP19.2);have hp_:Kd.R k46 46 w_4a w0.heap.size (fun k_=>(P0_ k_\/w.heap.size<=k_)) (.slice (some ⟨go5,0,none⟩) x0_1.length co10) y397:=(by rw [hw,Ny397.out];exact HP19.1);clear HP19;replace HB:=aM ((by rw [hw];exact below_set (HB.out) GB5.out:Below w0.heap.size w0 w_4a));replace HK:=aM (Kept.of_grown (S:=(fun k_=>P0_ k_)) hg qT (fun k_ e_=>(HO_0.out.1 k_ e_)));replace HO_0:=aM hp_;clear hg hw hp_))
  go_roundg k1
  case measure=>have:=HK1.out;omega
  exact⟨_,_,_,qZ,qZ,H',⟨by have:=HK1.out;omega⟩,⟨qR HO_0⟩,⟨qT⟩,⟨qB⟩⟩
 simp only [Option.some.injEq,Prod.mk.injEq] at H
 obtain⟨rfl,rfl⟩:=H
 obtain⟨Ao21,co21,eo21⟩:=Kd.R_slice HO_0.out
 subst eo21
 go_wp2
 go_ret
 exact⟨qW,qR HO_0,qB,qT⟩
def WheldQuadS.l0:Nat->List (S46)->Int->Int->Option (Int)
 | 0,_,_,_=>none
 | k+1,x0,x1,x5=>if x5 < (x0.length:Int) then (if 0<=x5 then (if ((rd_T46 x0 x5).f0)=x1 then (if ((rd_T46 x0 x5).f1)=(wrap64 (x1+1)) then (if ((rd_T46 x0 x5).f2)=(wrap64 ((wrap64 (x1+1))+1)) then (if ((rd_T46 x0 x5).f3)=(wrap64 ((wrap64 ((wrap64 (x1+1))+1))+1)) then (if ((rd_T46 x0 x5).f4)=(wrap64 ((wrap64 ((wrap64 ((wrap64 (x1+1))+1))+1))+1)) then (WheldQuadS.l0 k x0 (wrap64 ((wrap64 ((wrap64 ((wrap64 ((wrap64 (x1+1))+1))+1))+1))+1)) (wrap64 (x5+1))) else (some (-1))) else (some (-1))) else (some (-1))) else (some (-1))) else (some (-1))) else (none)) else (some x1)
def WheldQuadS.f (k:Nat) (l0:List (S46)) (a1:Int):Option (Int):=WheldQuadS.l0 k l0 a1 0
theorem WheldQuadS.mono_l:∀ k,(∀ y0 y1 y2,LeO (WheldQuadS.l0 k y0 y1 y2) (WheldQuadS.l0 (k+1) y0 y1 y2))
 | 0=>fun _ _ _ r h=>by simp [WheldQuadS.l0] at h
 | k+1=>by
  have ih0:=WheldQuadS.mono_l k
  intros;unfold WheldQuadS.l0;exact mM
theorem WheldQuadS.mono:∀ a0 a1 k,LeO (WheldQuadS.f k a0 a1) (WheldQuadS.f (k+1) a0 a1):=by
 intro a0 a1 k;have ih0:=WheldQuadS.mono_l k;unfold WheldQuadS.f;exact mM
theorem WheldQuadS.calls (k:Nat) (A0:Option Addr) (c0:Nat) (l0:List (S46)) (a1:Int) (r:Int) (w:World) (hr0:Kd.C k46 w A0 l0.length l0) (hc0:l0.length<=c0) (h:WheldQuadS.f k l0 a1=some r) :
  Calls Try.prog 24 #[.slice A0 l0.length c0,.int .i64 a1] w fun e w'=>e = .returned (.int .i64 r)/\Drawn0 w w':=by
 have HR0:=aM hr0
 have HC0:=aM hc0
 clear hr0 hc0
 have H:(WheldQuadS.l0 k l0 a1 0)=some r:=h
 clear h
 have H':=aM H
 clear H
 go_enter Try.func24,Try.ntmps24
 go_wp2
 go_loopg [1,5] k (fun kq v1 v5 w'=>∃ (x1_1:Int) (x5_1:Int),v1 = .int .i64 x1_1/\v5 = .int .i64 x5_1/\Aside0 (WheldQuadS.l0 kq l0 x1_1 x5_1=some r)/\Aside0 (kq<=k)/\Drawn0 w w')
 case atStart=>exact⟨(a1),(0),qZ,qZ,H',⟨Nat.le_refl _⟩,by repeat (first|exact Drawn0.refl _|apply Drawn0.step)⟩
 clear H'
 obtain⟨x1_1,x5_1,rfl,rfl,HA,HK1,⟨m1,rfl⟩⟩:=hrel
 rcases gk with _|k1
 ·exact absurd HA.out (by simp [WheldQuadS.l0])
 have H:=HA.out
 clear HA
 simp only [WheldQuadS.l0] at H
 replace H:=jD H;rcases H with ⟨c3b0,H⟩ | ⟨c3b0,H⟩
 ·replace H:=jI H;obtain⟨c4b0,H⟩:=H
  replace H:=jE H;rcases H with ⟨c5b0,c5b1,H⟩ | ⟨c5,c5b0,c5b1,H⟩
  ·replace H:=jE H;rcases H with ⟨c6b0,c6b1,H⟩ | ⟨c6,c6b0,c6b1,H⟩
   ·replace H:=jE H;rcases H with ⟨c7b0,c7b1,H⟩ | ⟨c7,c7b0,c7b1,H⟩
    ·replace H:=jE H;rcases H with ⟨c8b0,c8b1,H⟩ | ⟨c8,c8b0,c8b1,H⟩
     ·replace H:=jE H;rcases H with ⟨c9b0,c9b1,H⟩ | ⟨c9,c9b0,c9b1,H⟩
      ·have H':=aM H
       clear H
       obtain⟨ad470,e470,hx470_0,hx470_1,hx470_2,hx470_3,hx470_4,p470,q470⟩:=jT46 HR0 x5_1
       cases e470
       have p471:0<=(x5_1:Int):=qD
       have q471:x5_1 < (l0.length:Int):=qD
       obtain⟨ad471,e471,hx471_0,hx471_1,hx471_2,hx471_3,hx471_4⟩:=at_T46 HR0.out x5_1 p471 q471
       obtain rfl:ad470=ad471:=(by injection e471)
       replace p471:=eq_true p471
       replace q471:=eq_true q471
       have p472:0<=(x5_1:Int):=qD
       have q472:x5_1 < (l0.length:Int):=qD
       obtain⟨ad472,e472,hx472_0,hx472_1,hx472_2,hx472_3,hx472_4⟩:=at_T46 HR0.out x5_1 p472 q472
       obtain rfl:ad470=ad472:=(by injection e472)
       replace p472:=eq_true p472
       replace q472:=eq_true q472
       have p473:0<=(x5_1:Int):=qD
       have q473:x5_1 < (l0.length:Int):=qD
       obtain⟨ad473,e473,hx473_0,hx473_1,hx473_2,hx473_3,hx473_4⟩:=at_T46 HR0.out x5_1 p473 q473
       obtain rfl:ad470=ad473:=(by injection e473)
       replace p473:=eq_true p473
       replace q473:=eq_true q473
       have p474:0<=(x5_1:Int):=qD
       have q474:x5_1 < (l0.length:Int):=qD
       obtain⟨ad474,e474,hx474_0,hx474_1,hx474_2,hx474_3,hx474_4⟩:=at_T46 HR0.out x5_1 p474 q474
       obtain rfl:ad470=ad474:=(by injection e474)
       replace p474:=eq_true p474
       replace q474:=eq_true q474
       go_wp2
       go_roundg k1
       case measure=>have:=HK1.out;omega
       exact⟨(wrap64 ((wrap64 ((wrap64 ((wrap64 ((wrap64 (x1_1+1))+1))+1))+1))+1)),(wrap64 (x5_1+1)),qZ,qZ,H',⟨by have:=HK1.out;omega⟩,by repeat (first|exact Drawn0.refl _|apply Drawn0.step)⟩
      obtain rfl:=Option.some.inj H
      obtain⟨ad470,e470,hx470_0,hx470_1,hx470_2,hx470_3,hx470_4,p470,q470⟩:=jT46 HR0 x5_1
      cases e470
      have p471:0<=(x5_1:Int):=qD
      have q471:x5_1 < (l0.length:Int):=qD
      obtain⟨ad471,e471,hx471_0,hx471_1,hx471_2,hx471_3,hx471_4⟩:=at_T46 HR0.out x5_1 p471 q471
      obtain rfl:ad470=ad471:=(by injection e471)
      replace p471:=eq_true p471
      replace q471:=eq_true q471
      have p472:0<=(x5_1:Int):=qD
      have q472:x5_1 < (l0.length:Int):=qD
      obtain⟨ad472,e472,hx472_0,hx472_1,hx472_2,hx472_3,hx472_4⟩:=at_T46 HR0.out x5_1 p472 q472
      obtain rfl:ad470=ad472:=(by injection e472)
      replace p472:=eq_true p472
      replace q472:=eq_true q472
      have p473:0<=(x5_1:Int):=qD
      have q473:x5_1 < (l0.length:Int):=qD
      obtain⟨ad473,e473,hx473_0,hx473_1,hx473_2,hx473_3,hx473_4⟩:=at_T46 HR0.out x5_1 p473 q473
      obtain rfl:ad470=ad473:=(by injection e473)
      replace p473:=eq_true p473
      replace q473:=eq_true q473
      have p474:0<=(x5_1:Int):=qD
      have q474:x5_1 < (l0.length:Int):=qD
      obtain⟨ad474,e474,hx474_0,hx474_1,hx474_2,hx474_3,hx474_4⟩:=at_T46 HR0.out x5_1 p474 q474
      obtain rfl:ad470=ad474:=(by injection e474)
      replace p474:=eq_true p474
      replace q474:=eq_true q474
      go_wp2
      go_ret
      exact⟨qZ,qU⟩
     obtain rfl:=Option.some.inj H
     obtain⟨ad470,e470,hx470_0,hx470_1,hx470_2,hx470_3,hx470_4,p470,q470⟩:=jT46 HR0 x5_1
     cases e470
     have p471:0<=(x5_1:Int):=qD
     have q471:x5_1 < (l0.length:Int):=qD
     obtain⟨ad471,e471,hx471_0,hx471_1,hx471_2,hx471_3,hx471_4⟩:=at_T46 HR0.out x5_1 p471 q471
     obtain rfl:ad470=ad471:=(by injection e471)
     replace p471:=eq_true p471
     replace q471:=eq_true q471
     have p472:0<=(x5_1:Int):=qD
     have q472:x5_1 < (l0.length:Int):=qD
     obtain⟨ad472,e472,hx472_0,hx472_1,hx472_2,hx472_3,hx472_4⟩:=at_T46 HR0.out x5_1 p472 q472
     obtain rfl:ad470=ad472:=(by injection e472)
     replace p472:=eq_true p472
     replace q472:=eq_true q472
     have p473:0<=(x5_1:Int):=qD
     have q473:x5_1 < (l0.length:Int):=qD
     obtain⟨ad473,e473,hx473_0,hx473_1,hx473_2,hx473_3,hx473_4⟩:=at_T46 HR0.out x5_1 p473 q473
     obtain rfl:ad470=ad473:=(by injection e473)
     replace p473:=eq_true p473
     replace q473:=eq_true q473
     go_wp2
     go_ret
     exact⟨qZ,qU⟩
    obtain rfl:=Option.some.inj H
    obtain⟨ad470,e470,hx470_0,hx470_1,hx470_2,hx470_3,hx470_4,p470,q470⟩:=jT46 HR0 x5_1
    cases e470
    have p471:0<=(x5_1:Int):=qD
    have q471:x5_1 < (l0.length:Int):=qD
    obtain⟨ad471,e471,hx471_0,hx471_1,hx471_2,hx471_3,hx471_4⟩:=at_T46 HR0.out x5_1 p471 q471
    obtain rfl:ad470=ad471:=(by injection e471)
    replace p471:=eq_true p471
    replace q471:=eq_true q471
    have p472:0<=(x5_1:Int):=qD
    have q472:x5_1 < (l0.length:Int):=qD
    obtain⟨ad472,e472,hx472_0,hx472_1,hx472_2,hx472_3,hx472_4⟩:=at_T46 HR0.out x5_1 p472 q472
    obtain rfl:ad470=ad472:=(by injection e472)
    replace p472:=eq_true p472
    replace q472:=eq_true q472
    go_wp2
    go_ret
    exact⟨qZ,qU⟩
   obtain rfl:=Option.some.inj H
   obtain⟨ad470,e470,hx470_0,hx470_1,hx470_2,hx470_3,hx470_4,p470,q470⟩:=jT46 HR0 x5_1
   cases e470
   have p471:0<=(x5_1:Int):=qD
   have q471:x5_1 < (l0.length:Int):=qD
   obtain⟨ad471,e471,hx471_0,hx471_1,hx471_2,hx471_3,hx471_4⟩:=at_T46 HR0.out x5_1 p471 q471
   obtain rfl:ad470=ad471:=(by injection e471)
   replace p471:=eq_true p471
   replace q471:=eq_true q471
   go_wp2
   go_ret
   exact⟨qZ,qU⟩
  obtain rfl:=Option.some.inj H
  obtain⟨ad470,e470,hx470_0,hx470_1,hx470_2,hx470_3,hx470_4,p470,q470⟩:=jT46 HR0 x5_1
  cases e470
  go_wp2
  go_ret
  exact⟨qZ,qU⟩
 obtain rfl:=Option.some.inj H
 go_wp2
 go_ret
 exact⟨qZ,qU⟩
end Go.Proofs.Ytahbkldagpfcaaa.M
namespace Go.Proofs.Ytahbkldagpfcaaa.M
open Go.RowKit Go.Proofs.YtahbkldagpfcaaaW.PrintWords Go.Proofs.YtahbkldagpfcaaaW.PrintLast Go.Proofs.YtahbkldagpfcaaaW.PrintMore PM
abbrev LQ:=S48
def toQ (x:LQ):SQ:=⟨x.f0,x.f1,x.f2,x.f3,x.f4⟩
theorem WszQuadS.e {l:List LQ} (h:l.length<=9223372036854775807):∃ t,WszQuadS.f l 1048576=some t/\(¬ t < 0->l.length<=1048576):=by
 have w:wrap64 (1048576 - (l.length:Int))=1048576 - (l.length:Int):=wrap_id (by omega) (by omega)
 unfold WszQuadS.f
 rw [w]
 split
 ·exact⟨_,rfl,fun x=>absurd (by decide) x⟩
 exact⟨_,rfl,fun x=>by omega⟩
theorem list_ext {α:Type} (d:α) {a b:List α} (hl:a.length=b.length) (h:∀ i,i < a.length->a.getD i d=b.getD i d):a=b:=by
 apply List.ext_getElem hl
 intro i h1 h2
 have:=h i h1
 rwa [List.getD_eq_getElem?_getD,List.getD_eq_getElem?_getD,List.getElem?_eq_getElem h1,List.getElem?_eq_getElem h2] at this
theorem toQ_get {l:List LQ} {i:Nat} (h:i < l.length):(l.map toQ).getD i z46=toQ (l.getD i z48):=by
 simp [List.getD_eq_getElem?_getD,List.getElem?_eq_getElem h]
theorem WtoQuadS.ev {l:List LQ} (h:l.length<=1048576):Ev (fun k=>WtoQuadS.f k l) (l.map toQ):=by
 have key:∀ (d p:Nat),p+d=l.length->∀ x:List SQ,x.length=l.length->(∀ i,i < p->x.getD i z46=toQ (l.getD i z48))->Ev (fun k=>WtoQuadS.l0 k l x (p:Int)) (l.map toQ):=by
  intro d
  induction d with
  | zero =>
   intro p hp x hx he
   refine Ev.succ ?_
   simp only [WtoQuadS.l0]
   refine Ev.neg (Ev.eq Ev.pure ?_)
   refine list_ext z46 (by simp [hx]) fun i hi=>?_
   rw [he i (by omega),toQ_get (by omega)]
  | succ d ih =>
   intro p hp x hx he
   refine Ev.succ ?_
   simp only [WtoQuadS.l0,WtoQuad.f,wrap_up (show p < 9223372036854775807 by omega),Int.toNat_natCast]
   refine Ev.pos (Ev.pos (Ev.some (Ev.pos ?_)))
   refine ih (p+1) (by omega) _ (by rw [List.length_set];exact hx) fun i hi=>?_
   rw [getD_set x p i _ _ (by omega)]
   by_cases e:i=p
   ·subst e
    rw [if_pos rfl]
    simp [toQ,rd_T48]
   rw [if_neg e]
   exact he i (by omega)
 simp only [WtoQuadS.f,Int.toNat_natCast]
 exact Ev.pos (Ev.pos (key l.length 0 (by omega) _ (by simp) (fun i hi=>by omega)))
theorem WeqQuadS.ev {l:List SQ} (h:l.length<=1048576):Ev (fun k=>WeqQuadS.f k l l) true:=by
 have key:∀ (d p:Nat),p+d=l.length->Ev (fun k=>WeqQuadS.l0 k l l (p:Int)) true:=by
  intro d
  induction d with
  | zero =>
   intro p hp
   refine Ev.succ ?_
   simp only [WeqQuadS.l0]
   exact Ev.neg Ev.pure
  | succ d ih =>
   intro p hp
   refine Ev.succ ?_
   simp only [WeqQuadS.l0,WeqQuad.f,wrap_up (show p < 9223372036854775807 by omega),if_true]
   exact Ev.pos (Ev.pos (Ev.pos (Ev.some (Ev.pos (ih (p+1) (by omega))))))
 simp only [WeqQuadS.f]
 exact Ev.pos (key l.length 0 (by omega))
def mQ (i:Nat):SQ:=⟨((5*i+1:Nat):Int),((5*i+2:Nat):Int),((5*i+3:Nat):Int),((5*i+4:Nat):Int),((5*i+5:Nat):Int)⟩
def mQs (n:Nat):List SQ:=(List.range n).map mQ
theorem mQs_get {n i:Nat} (h:i < n):(mQs n).getD i z46=mQ i:=by simp [mQs,List.getD_eq_getElem?_getD,h]
theorem mQs_len (n:Nat):(mQs n).length=n:=by simp [mQs]
theorem qa_set {x:List SQ} {p:Nat} {q:SQ} (h:p < x.length):qa (x.set p q) p=q:=by
 unfold qa
 rw [getD_set x p p q _ h,if_pos rfl]
theorem WmarkQuadS.ev {l:List SQ} (h:l.length<=1048576):Ev (fun k=>WmarkQuadS.f k l 1) (((5*l.length+1:Nat):Int),mQs l.length):=by
 have key:∀ (d p:Nat),p+d=l.length->∀ x:List SQ,x.length=l.length->(∀ i,i < p->x.getD i z46=mQ i)->Ev (fun k=>WmarkQuadS.l0 k x ((5*p+1:Nat):Int) (p:Int)) (((5*l.length+1:Nat):Int),mQs l.length):=by
  intro d
  induction d with
  | zero =>
   intro p hp x hx he
   refine Ev.succ ?_
   simp only [WmarkQuadS.l0]
   refine Ev.neg (Ev.eq Ev.pure ?_)
   have:x=mQs l.length:=list_ext z46 (by rw [hx,mQs_len]) fun i hi=>by rw [he i (by omega),mQs_get (by omega)]
   rw [this,show p=l.length from by omega]
  | succ d ih =>
   intro p hp x hx he
   refine Ev.succ ?_
   have w1:=wrap_up (show 5*p+1 < 9223372036854775807 by omega)
   have w2:=wrap_up (show 5*p+1+1 < 9223372036854775807 by omega)
   have w3:=wrap_up (show 5*p+1+1+1 < 9223372036854775807 by omega)
   have w4:=wrap_up (show 5*p+1+1+1+1 < 9223372036854775807 by omega)
   have w5:=wrap_up (show 5*p+1+1+1+1+1 < 9223372036854775807 by omega)
   simp only [WmarkQuadS.l0,rd_qa,Int.toNat_natCast,Option.bind_some,w1,w2,w3,w4,w5,wrap_up (show p < 9223372036854775807 by omega),qa_set (show p < x.length by omega),List.set_set]
   refine Ev.pos (Ev.pos ?_)
   have:=ih (p+1) (by omega) (x.set p (mQ p)) (by rw [List.length_set];exact hx) fun i hi=>by
    rw [getD_set x p i _ _ (by omega)]
    by_cases e:i=p
    ·rw [if_pos e,e]
    rw [if_neg e]
    exact he i (by omega)
   exact this
 simp only [WmarkQuadS.f]
 exact key l.length 0 (by omega) l rfl (fun i hi=>by omega)
theorem WheldQuadS.ev {n:Nat} (h:n<=1048576):Ev (fun k=>WheldQuadS.f k (mQs n) 1) ((5*n+1:Nat):Int):=by
 have key:∀ (d p:Nat),p+d=n->Ev (fun k=>WheldQuadS.l0 k (mQs n) ((5*p+1:Nat):Int) (p:Int)) ((5*n+1:Nat):Int):=by
  intro d
  induction d with
  | zero =>
   intro p hp
   refine Ev.succ ?_
   simp only [WheldQuadS.l0,mQs_len]
   rw [show n=p from by omega]
   exact Ev.neg Ev.pure
  | succ d ih =>
   intro p hp
   refine Ev.succ ?_
   have w1:=wrap_up (show 5*p+1 < 9223372036854775807 by omega)
   have w2:=wrap_up (show 5*p+1+1 < 9223372036854775807 by omega)
   have w3:=wrap_up (show 5*p+1+1+1 < 9223372036854775807 by omega)
   have w4:=wrap_up (show 5*p+1+1+1+1 < 9223372036854775807 by omega)
   have w5:=wrap_up (show 5*p+1+1+1+1+1 < 9223372036854775807 by omega)
   simp only [WheldQuadS.l0,mQs_len,rd_qa,show qa (mQs n) p=mQ p from mQs_get (by omega),mQ,w1,w2,w3,w4,w5,wrap_up (show p < 9223372036854775807 by omega),if_true]
   exact Ev.pos (Ev.pos (ih (p+1) (by omega)))
 simp only [WheldQuadS.f]
 exact key n 0 (by omega)
end Go.Proofs.Ytahbkldagpfcaaa.M
namespace Go.Proofs.Ytahbkldagpfcaaa.M
open Go.RowKit Go.Proofs.YtahbkldagpfcaaaW.PrintWords Go.Proofs.YtahbkldagpfcaaaW.PrintLast Go.Proofs.YtahbkldagpfcaaaW.PrintMore
attribute [local go_sem] max2_int min2_int max_two min_two max_three min_three max_four min_four
def IOptimizeOnce.f (k:Nat) (l0:List (S46)):Option ((List (S46)) × Bool):=(IOptimizeCode.f k l0 1).bind fun bt949=>(some (bt949.1,bt949.2))
theorem IOptimizeOnce.mono:∀ a0 k,LeO (IOptimizeOnce.f k a0) (IOptimizeOnce.f (k+1) a0):=by
 intro a0 k;unfold IOptimizeOnce.f;have m0:=@IOptimizeCode.mono;exact mM
theorem IOptimizeOnce.calls (k:Nat) (A0:Option Addr) (c0:Nat) (l0:List (S46)) (r1:List (S46)) (r2:Bool) (w:World) (hr0:Kd.C k46 w A0 l0.length l0) (hc0:l0.length<=c0) (h:IOptimizeOnce.f k l0=some (r1,r2)) :
  Calls Try.prog 26 #[.slice A0 l0.length c0] w fun e w'=>∃ v0_:Value,e = .returned (.tuple #[v0_,.bool r2])/\Kd.R k46 46 w' w.heap.size (fun _=>True) v0_ r1/\Below w.heap.size w w':=by
 have HR0:=aM hr0
 have HC0:=aM hc0
 clear hr0 hc0
 have HB:=aM (Below.refl w.heap.size w)
 have H:=h;unfold IOptimizeOnce.f at H
 clear h
 obtain⟨⟨t949,t950⟩,A2,H⟩:=qE H
 try dsimp only at H
 simp only [Option.some.injEq,Prod.mk.injEq] at H
 obtain⟨rfl,rfl⟩:=H
 go_enter Try.func26,Try.ntmps26
 go_wp2_with (first|((with_reducible refine jc 28 5 rfl rfl ?_);refine jG Try.func28 #[.slice A0 l0.length c0,.int .i64 1] ?_;(with_reducible refine (IOptimizeCode.calls k _ _ l0 1 t949 t950 _ ?side1 ?side2 A2.out).mono ?_);(case side1=>exact kC HR0.out);(case side2=>exact HC0.out);rintro e w3 ⟨v951,rfl,ho0,hb⟩;refine⟨_,rfl,?_⟩;have HO952:=kL ho0;replace HB:=kH hb;clear hb;(try clear ho0)))
 go_ret2
 exact⟨_,by first|rfl|(simp [errW_none,errW_some] <;> rfl)|(simp [*,errW_none,errW_some] <;> rfl),qR HO952,qB⟩
mutual
def WFnExactOptimizeOnce.j0:Nat->List (S48)->List (S46)->Bool->List (S46)->List (S46)->Bool->Bool->Option (Bool)
 | 0,_,_,_,_,_,_,_=>none
 | k+1,x0,x4,x5,x6,x7,x8,x40=>if x40=true then (some false) else ((WtoQuadS.f k x0).bind fun t969=>((WeqQuadS.f k x6 t969).bind fun t972=>(if t972=true then ((WmarkQuadS.f k x6 1).bind fun bt973=>(if bt973.1 < 0 then (WFnExactOptimizeOnce.j1 k x0 x4 x5 x7 true) else ((WeqQuadS.f k x7 x4).bind fun t975=>(if t975=true then (WFnExactOptimizeOnce.j1 k x0 x4 x5 x7 (x8 != x5)) else (WFnExactOptimizeOnce.j1 k x0 x4 x5 x7 true))))) else (some false))))
def WFnExactOptimizeOnce.j1:Nat->List (S48)->List (S46)->Bool->List (S46)->Bool->Option (Bool)
 | 0,_,_,_,_,_=>none
 | k+1,x0,x4,x5,x7,x61=>if x61=true then (some false) else ((WmarkQuadS.f k x7 1).bind fun bt976=>((WheldQuadS.f k bt976.2 1).bind fun t978=>(if t978 < 0 then (some false) else (if t978=bt976.1 then ((WtoQuadS.f k x0).bind fun t979=>((IOptimizeOnce.f k t979).bind fun bt982=>((WeqQuadS.f k bt982.1 x4).bind fun t986=>(if t986=true then (WFnExactOptimizeOnce.j2 k bt976.2 bt976.1 (bt982.2 != x5)) else (WFnExactOptimizeOnce.j2 k bt976.2 bt976.1 true))))) else (some false)))))
def WFnExactOptimizeOnce.j2:Nat->List (S46)->Int->Bool->Option (Bool)
 | 0,_,_,_=>none
 | k+1,x7,x10,x87=>if x87=true then (some false) else ((WheldQuadS.f k x7 1).bind fun t987=>(if t987 < 0 then (some false) else (if t987=x10 then (some true) else (some false))))
end
def WFnExactOptimizeOnce.f (k:Nat) (l0:List (S48)):Option (Bool):=(WszQuadS.f l0 1048576).bind fun t953=>(if t953 < 0 then (some true) else ((WtoQuadS.f k l0).bind fun t954=>((SOptimizeOnce.f k t954).bind fun bt957=>((WtoQuadS.f k l0).bind fun t961=>((IOptimizeOnce.f k t961).bind fun bt964=>((WeqQuadS.f k bt964.1 bt957.1).bind fun t968=>(if t968=true then (WFnExactOptimizeOnce.j0 k l0 bt957.1 bt957.2 t961 bt964.1 bt964.2 (bt964.2 != bt957.2)) else (WFnExactOptimizeOnce.j0 k l0 bt957.1 bt957.2 t961 bt964.1 bt964.2 true))))))))
theorem WFnExactOptimizeOnce.mono_l:∀ k,(∀ y0 y1 y2 y3 y4 y5 y6,LeO (WFnExactOptimizeOnce.j0 k y0 y1 y2 y3 y4 y5 y6) (WFnExactOptimizeOnce.j0 (k+1) y0 y1 y2 y3 y4 y5 y6))/\(∀ y0 y1 y2 y3 y4,LeO (WFnExactOptimizeOnce.j1 k y0 y1 y2 y3 y4) (WFnExactOptimizeOnce.j1 (k+1) y0 y1 y2 y3 y4))/\(∀ y0 y1 y2,LeO (WFnExactOptimizeOnce.j2 k y0 y1 y2) (WFnExactOptimizeOnce.j2 (k+1) y0 y1 y2))
 | 0=>⟨fun _ _ _ _ _ _ _ r h=>by simp [WFnExactOptimizeOnce.j0] at h,fun _ _ _ _ _ r h=>by simp [WFnExactOptimizeOnce.j1] at h,fun _ _ _ r h=>by simp [WFnExactOptimizeOnce.j2] at h⟩
 | k+1=>by
  obtain⟨ih0,ih1,ih2⟩:=WFnExactOptimizeOnce.mono_l k;have m0:=@IOptimizeOnce.mono;have m1:=@WeqQuadS.mono;have m2:=@WheldQuadS.mono;have m3:=@WmarkQuadS.mono;have m4:=@WtoQuadS.mono;have m5:=@SOptimizeOnce.mono
  exact⟨by intros;unfold WFnExactOptimizeOnce.j0;exact mM,by intros;unfold WFnExactOptimizeOnce.j1;exact mM,by intros;unfold WFnExactOptimizeOnce.j2;exact mM⟩
theorem WFnExactOptimizeOnce.mono:∀ a0 k,LeO (WFnExactOptimizeOnce.f k a0) (WFnExactOptimizeOnce.f (k+1) a0):=by
 intro a0 k;obtain⟨ih0,ih1,ih2⟩:=WFnExactOptimizeOnce.mono_l k;unfold WFnExactOptimizeOnce.f;have m0:=@IOptimizeOnce.mono;have m1:=@WeqQuadS.mono;have m2:=@WheldQuadS.mono;have m3:=@WmarkQuadS.mono;have m4:=@WtoQuadS.mono;have m5:=@SOptimizeOnce.mono;exact mM
theorem WFnExactOptimizeOnce_calls_s0 {G:Prop} (h:G:=by
  go_wp2_with (first|((with_reducible refine jc 19 64 rfl rfl ?_);refine jG Try.func19 #[.slice Ao46 t964.length co46,.int .i64 1] ?_;(with_reducible refine (WmarkQuadS.calls kj27 (fun k_=>some k_=(.slice Ao46 t964.length co46:Value).ownBlock) (.slice Ao46 t964.length co46) t964 1 t976 t977 w _ ?side1 ?side2 A43.out).mono ?_);(case side1=>exact qB);(case side2=>exact Kd.R_tight rfl HO_7.out);rintro e w_2a ⟨rfl,hy0,hb,hkp⟩;refine⟨_,rfl,?_⟩;replace HO_4:=aM (Kd.R_mono (ok':=fun k_=>some k_≠(.slice Ao46 t964.length co46:Value).ownBlock) (Kd.R_keptB (HO_4.out) hkp (fun k_ hk_ hs_=>(hk_) hs_)) (fun k_ hk_=>hk_.1));replace HO_7:=aM (Kd.R_reok rfl hy0 (fun k_ e_=>HO_7.out.1 k_ e_));replace HB:=aM hb;(try clear hb);(try clear hkp);(try clear hy0))|((with_reducible refine gate_callee (f:=24) rfl ?_);refine goesL_ (some 67) rfl rfl Try.func24 (by kernel_rfl) rfl #[.slice Ao46 t977.length co46,.int .i64 1] rfl (by (try simp only [List.map_toArray,List.map_cons,List.map_nil]);first|done|(rw [show t977.length=t964.length from (Kd.R_reads' HO_7.out).1.symm] <;> rfl)|rfl|(simp only [List.length_drop,List.length_take];rfl)) ?_;(with_reducible refine (WheldQuadS.calls kj27 _ _ t977 1 t978 _ ?side1 ?side2 A44.out).mono ?_);(case side1=>exact kC (Kd.R_reads' HO_7.out).2.2);(case side2=>rw [show t977.length=t964.length from (Kd.R_reads' HO_7.out).1.symm];exact (Kd.R_reads' HO_7.out).2.1);rintro e w' ⟨rfl,⟨nd,rfl⟩⟩;refine⟨_,rfl,?_⟩)|((with_reducible refine jc 24 90 rfl rfl ?_);refine jG Try.func24 #[.slice Ao52 t977.length co52,.int .i64 1] ?_;(with_reducible refine (WheldQuadS.calls kj50 _ _ t977 1 t987 _ ?side1 ?side2 A66.out).mono ?_);(case side1=>exact kC (Kd.R_reads' HO_7.out).2.2);(case side2=>exact (Kd.R_reads' HO_7.out).2.1);rintro e w' ⟨rfl,⟨nd,rfl⟩⟩;refine⟨_,rfl,?_⟩)|((with_reducible refine jc 11 43 rfl rfl ?_);refine jG Try.func11 #[.slice A0 l0.length c0] ?_;(with_reducible refine (WtoQuadS.calls kj7 _ _ l0 t969 _ ?side1 ?side2 A24.out).mono ?_);(case side1=>exact kC (Kd.C_below HR0.out HB.out));(case side2=>exact HC0.out);rintro e w_4a ⟨v970,rfl,ho0,hb⟩;refine⟨_,rfl,?_⟩;have HO971:=aM (Kd.R_lower (Kd.R_new' (Kd.R_new' (Kd.R_new' ho0 (Kd.R_lt (qR HO_4))) (Kd.R_lt (qR HO_6))) (Kd.R_lt (qR HO_7))) (below_size qB));replace HO_4:=kO HO_4 ho0 hb;replace HO_6:=kO HO_6 ho0 hb;replace HO_7:=kO HO_7 ho0 hb;replace HB:=kH hb;clear hb;(try clear ho0);obtain⟨A_4b,c_4c,e_4d⟩:=Kd.R_slice HO971.out;subst e_4d)|((with_reducible refine jc 13 44 rfl rfl ?_);refine jG Try.func13 #[.slice Ao13 t961.length co13,.slice A_4b t969.length c_4c] ?_;(with_reducible refine (WeqQuadS.calls kj7 _ _ t961 _ _ t969 false _ ?side1 ?side2 ?side3 ?side4 A25.out).mono ?_);(case side1=>exact kC (Kd.R_reads' HO_6.out).2.2);(case side2=>exact (Kd.R_reads' HO_6.out).2.1);(case side3=>exact kC (Kd.R_reads' HO971.out).2.2);(case side4=>exact (Kd.R_reads' HO971.out).2.1);rintro e w_5a ⟨rfl,hb⟩;refine⟨_,rfl,?_⟩;replace HO_4:=kR HO_4 hb;replace HO_6:=kR HO_6 hb;replace HO_7:=kR HO_7 hb;replace HO971:=kR HO971 hb;replace HB:=kH hb;clear hb))
  go_ret
  exact⟨qW,qB⟩):G:=h
theorem WFnExactOptimizeOnce.calls (k:Nat) (A0:Option Addr) (c0:Nat) (l0:List (S48)) (r:Bool) (w:World) (hr0:Kd.C k48 w A0 l0.length l0) (hc0:l0.length<=c0) (h:WFnExactOptimizeOnce.f k l0=some r) :
  Calls Try.prog 7 #[.slice A0 l0.length c0] w fun e w'=>e = .returned (.bool r)/\Below w.heap.size w w':=by
 have HR0:=aM hr0
 have HC0:=aM hc0
 clear hr0 hc0
 have HB:=aM (Below.refl w.heap.size w)
 have H:=h;unfold WFnExactOptimizeOnce.f at H
 clear h
 obtain⟨t953,A2,H⟩:=qE H
 try dsimp only at H
 replace H:=jD H;rcases H with ⟨c3b0,H⟩ | ⟨c3b0,H⟩
 ·obtain rfl:=Option.some.inj H
  go_enter Try.func7,Try.ntmps7
  go_wp2_with (first|((with_reducible refine jc 9 16 rfl rfl ?_);refine jG Try.func9 #[.slice A0 l0.length c0,.int .i64 1048576] ?_;(with_reducible refine (WszQuadS.calls _ _ l0 1048576 t953 _ ?side1 ?side2 A2.out).mono ?_);(case side1=>exact kC HR0.out);(case side2=>exact HC0.out);rintro e w' ⟨rfl,⟨nd,rfl⟩⟩;refine⟨_,rfl,?_⟩))
  go_ret
  exact⟨qW,qB⟩
 obtain⟨t954,A4,H⟩:=qE H
 try dsimp only at H
 obtain⟨⟨t957,t958⟩,A5,H⟩:=qE H
 try dsimp only at H
 obtain⟨t961,A6,H⟩:=qE H
 try dsimp only at H
 obtain⟨⟨t964,t965⟩,A7,H⟩:=qE H
 try dsimp only at H
 have HC8:=aM H
 clear H
 go_enter Try.func7,Try.ntmps7
 go_upto_region 8 with (first|((with_reducible refine jc 9 16 rfl rfl ?_);refine jG Try.func9 #[.slice A0 l0.length c0,.int .i64 1048576] ?_;(with_reducible refine (WszQuadS.calls _ _ l0 1048576 t953 _ ?side1 ?side2 A2.out).mono ?_);(case side1=>exact kC HR0.out);(case side2=>exact HC0.out);rintro e w' ⟨rfl,⟨nd,rfl⟩⟩;refine⟨_,rfl,?_⟩)|((with_reducible refine jc 11 21 rfl rfl ?_);refine jG Try.func11 #[.slice A0 l0.length c0] ?_;(with_reducible refine (WtoQuadS.calls k _ _ l0 t954 _ ?side1 ?side2 A4.out).mono ?_);(case side1=>exact kC HR0.out);(case side2=>exact HC0.out);rintro e w9 ⟨v955,rfl,ho0,hb⟩;refine⟨_,rfl,?_⟩;have HO956:=kL ho0;replace HB:=kH hb;clear hb;(try clear ho0);obtain⟨Ao10,co10,eo10⟩:=Kd.R_slice HO956.out;subst eo10)|((with_reducible refine jc 25 22 rfl rfl ?_);refine jG Try.func25 #[.slice Ao10 t954.length co10] ?_;(with_reducible refine (SOptimizeOnce.calls k _ _ t954 t957 t958 _ ?side1 ?side2 A5.out).mono ?_);(case side1=>exact kC (Kd.R_reads' HO956.out).2.2);(case side2=>exact (Kd.R_reads' HO956.out).2.1);rintro e w11 ⟨v959,rfl,ho0,hb⟩;refine⟨_,rfl,?_⟩;have HO960:=aM (Kd.R_lower (Kd.R_new' ho0 (Kd.R_lt (qR HO956))) (below_size qB));replace HO956:=kO HO956 ho0 hb;replace HB:=kH hb;clear hb;(try clear ho0))|((with_reducible refine jc 11 26 rfl rfl ?_);refine jG Try.func11 #[.slice A0 l0.length c0] ?_;(with_reducible refine (WtoQuadS.calls k _ _ l0 t961 _ ?side1 ?side2 A6.out).mono ?_);(case side1=>exact kC (Kd.C_below HR0.out HB.out));(case side2=>exact HC0.out);rintro e w12 ⟨v962,rfl,ho0,hb⟩;refine⟨_,rfl,?_⟩;have HO963:=aM (Kd.R_lower (Kd.R_new' (Kd.R_new' ho0 (Kd.R_lt (qR HO956))) (Kd.R_lt (qR HO960))) (below_size qB));replace HO956:=kO HO956 ho0 hb;replace HO960:=kO HO960 ho0 hb;replace HB:=kH hb;clear hb;(try clear ho0);obtain⟨Ao13,co13,eo13⟩:=Kd.R_slice HO963.out;subst eo13)|((with_reducible refine jc 26 29 rfl rfl ?_);refine jG Try.func26 #[.slice Ao13 t961.length co13] ?_;(with_reducible refine (IOptimizeOnce.calls k _ _ t961 t964 t965 _ ?side1 ?side2 A7.out).mono ?_);(case side1=>exact kC (Kd.R_reads' HO963.out).2.2);(case side2=>exact (Kd.R_reads' HO963.out).2.1);rintro e w14 ⟨v966,rfl,ho0,hb⟩;refine⟨_,rfl,?_⟩;have HO967:=aM (Kd.R_lower (Kd.R_new' (Kd.R_new' (Kd.R_new' ho0 (Kd.R_lt (qR HO956))) (Kd.R_lt (qR HO960))) (Kd.R_lt (qR HO963))) (below_size qB));replace HO956:=kO HO956 ho0 hb;replace HO960:=kO HO960 ho0 hb;replace HO963:=kO HO963 ho0 hb;replace HB:=kH hb;clear hb;(try clear ho0)))
 (try simp only [Act.put,List.setIfInBounds_toArray,List.set_cons_zero,List.set_cons_succ])
 go_cut [40] (fun v40 wc=>∃ (kq:Nat) (x40_7:Bool),v40 = .bool x40_7/\Aside0 (WFnExactOptimizeOnce.j0 kq l0 t957 t958 t961 t964 t965 x40_7=some r)/\Aside0 (kq<=k)/\Aside0 (Kd.R k46 46 wc w.heap.size (fun k_=>some k_≠((.slice Ao13 t961.length co13):Value).ownBlock/\some k_≠(v966:Value).ownBlock) v959 t957)/\Aside0 (Kd.R k46 46 wc w.heap.size (fun k_=>some k_≠(v959:Value).ownBlock/\some k_≠(v966:Value).ownBlock) (.slice Ao13 t961.length co13) t961)/\Aside0 (Kd.R k46 46 wc w.heap.size (fun k_=>some k_≠(v959:Value).ownBlock/\some k_≠((.slice Ao13 t961.length co13):Value).ownBlock) v966 t964)/\Aside0 (Below w.heap.size w wc))
 case first =>
  have H:=HC8.out
  clear HC8
  obtain⟨t968,A15,H⟩:=qE H
  try dsimp only at H
  replace H:=jB H;rcases H with ⟨rfl,H⟩ | ⟨rfl,H⟩
  ·have H':=aM H
   clear H
   obtain⟨Ao17,co17,eo17⟩:=Kd.R_slice HO967.out
   subst eo17
   obtain⟨Ao18,co18,eo18⟩:=Kd.R_slice HO960.out
   subst eo18
   go_wp2_with (first|((with_reducible refine jc 13 34 rfl rfl ?_);refine jG Try.func13 #[.slice Ao17 t964.length co17,.slice Ao18 t957.length co18] ?_;(with_reducible refine (WeqQuadS.calls k _ _ t964 _ _ t957 true _ ?side1 ?side2 ?side3 ?side4 A15.out).mono ?_);(case side1=>exact kC (Kd.R_reads' HO967.out).2.2);(case side2=>exact (Kd.R_reads' HO967.out).2.1);(case side3=>exact kC (Kd.R_reads' HO960.out).2.2);(case side4=>exact (Kd.R_reads' HO960.out).2.1);rintro e w_0a ⟨rfl,hb⟩;refine⟨_,rfl,?_⟩;replace HO956:=kR HO956 hb;replace HO960:=kR HO960 hb;replace HO963:=kR HO963 hb;replace HO967:=kR HO967 hb;replace HB:=kH hb;clear hb))
   go_meet
   exact⟨_,_,qZ,H',⟨by first|omega|exact Nat.le_refl _⟩,⟨by (with_reducible repeat (first|apply Kd.R_alloc|apply Kd.R_drewN|apply Kd.R_drew));exact Kd.R_mono HO960.out (fun _ hk=>⟨hk.1.2,hk.2⟩)⟩,⟨by (with_reducible repeat (first|apply Kd.R_alloc|apply Kd.R_drewN|apply Kd.R_drew));exact Kd.R_mono HO963.out (fun _ hk=>⟨hk.1.2,hk.2⟩)⟩,⟨by (with_reducible repeat (first|apply Kd.R_alloc|apply Kd.R_drewN|apply Kd.R_drew));exact Kd.R_mono HO967.out (fun _ hk=>⟨hk.1.2,hk.2⟩)⟩,⟨qB⟩⟩
  have H':=aM H
  clear H
  obtain⟨Ao20,co20,eo20⟩:=Kd.R_slice HO967.out
  subst eo20
  obtain⟨Ao21,co21,eo21⟩:=Kd.R_slice HO960.out
  subst eo21
  go_wp2_with (first|((with_reducible refine jc 13 34 rfl rfl ?_);refine jG Try.func13 #[.slice Ao20 t964.length co20,.slice Ao21 t957.length co21] ?_;(with_reducible refine (WeqQuadS.calls k _ _ t964 _ _ t957 false _ ?side1 ?side2 ?side3 ?side4 A15.out).mono ?_);(case side1=>exact kC (Kd.R_reads' HO967.out).2.2);(case side2=>exact (Kd.R_reads' HO967.out).2.1);(case side3=>exact kC (Kd.R_reads' HO960.out).2.2);(case side4=>exact (Kd.R_reads' HO960.out).2.1);rintro e w_0a ⟨rfl,hb⟩;refine⟨_,rfl,?_⟩;replace HO956:=kR HO956 hb;replace HO960:=kR HO960 hb;replace HO963:=kR HO963 hb;replace HO967:=kR HO967 hb;replace HB:=kH hb;clear hb))
  go_meet
  exact⟨_,_,qZ,H',⟨by first|omega|exact Nat.le_refl _⟩,⟨by (with_reducible repeat (first|apply Kd.R_alloc|apply Kd.R_drewN|apply Kd.R_drew));exact Kd.R_mono HO960.out (fun _ hk=>⟨hk.1.2,hk.2⟩)⟩,⟨by (with_reducible repeat (first|apply Kd.R_alloc|apply Kd.R_drewN|apply Kd.R_drew));exact Kd.R_mono HO963.out (fun _ hk=>⟨hk.1.2,hk.2⟩)⟩,⟨by (with_reducible repeat (first|apply Kd.R_alloc|apply Kd.R_drewN|apply Kd.R_drew));exact Kd.R_mono HO967.out (fun _ hk=>⟨hk.1.2,hk.2⟩)⟩,⟨qB⟩⟩
 clear HC8
 try clear c3b0
 obtain⟨kq,x40_7,rfl,HA,HJ7,HO_4,HO_6,HO_7,HB⟩:=hcut
 cases kq with
 | zero=>exact absurd HA.out (by simp [WFnExactOptimizeOnce.j0])
 | succ kj7 =>
  have H:=HA.out
  clear HA
  simp only [WFnExactOptimizeOnce.j0] at H
  replace H:=jB H;rcases H with ⟨rfl,H⟩ | ⟨rfl,H⟩
  ·obtain rfl:=Option.some.inj H
   go_wp2
   go_ret
   exact⟨qW,qB⟩
  obtain⟨t969,A24,H⟩:=qE H
  try dsimp only at H
  obtain⟨t972,A25,H⟩:=qE H
  try dsimp only at H
  replace H:=jB H;rcases H with ⟨rfl,H⟩ | ⟨rfl,H⟩
  ·obtain⟨⟨t973,t974⟩,A27,H⟩:=qE H
   try dsimp only at H
   have HC28:=aM H
   clear H
   go_upto_region 14 with (first|((with_reducible refine jc 11 43 rfl rfl ?_);refine jG Try.func11 #[.slice A0 l0.length c0] ?_;(with_reducible refine (WtoQuadS.calls kj7 _ _ l0 t969 _ ?side1 ?side2 A24.out).mono ?_);(case side1=>exact kC (Kd.C_below HR0.out HB.out));(case side2=>exact HC0.out);rintro e w29 ⟨v970,rfl,ho0,hb⟩;refine⟨_,rfl,?_⟩;have HO971:=aM (Kd.R_lower (Kd.R_new' (Kd.R_new' (Kd.R_new' ho0 (Kd.R_lt (qR HO_4))) (Kd.R_lt (qR HO_6))) (Kd.R_lt (qR HO_7))) (below_size qB));replace HO_4:=kO HO_4 ho0 hb;replace HO_6:=kO HO_6 ho0 hb;replace HO_7:=kO HO_7 ho0 hb;replace HB:=kH hb;clear hb;(try clear ho0);obtain⟨Ao30,co30,eo30⟩:=Kd.R_slice HO971.out;subst eo30)|((with_reducible refine jc 13 44 rfl rfl ?_);refine jG Try.func13 #[.slice Ao13 t961.length co13,.slice Ao30 t969.length co30] ?_;(with_reducible refine (WeqQuadS.calls kj7 _ _ t961 _ _ t969 true _ ?side1 ?side2 ?side3 ?side4 A25.out).mono ?_);(case side1=>exact kC (Kd.R_reads' HO_6.out).2.2);(case side2=>exact (Kd.R_reads' HO_6.out).2.1);(case side3=>exact kC (Kd.R_reads' HO971.out).2.2);(case side4=>exact (Kd.R_reads' HO971.out).2.1);rintro e w31 ⟨rfl,hb⟩;refine⟨_,rfl,?_⟩;replace HO_4:=kR HO_4 hb;replace HO_6:=kR HO_6 hb;replace HO_7:=kR HO_7 hb;replace HO971:=kR HO971 hb;replace HB:=kH hb;clear hb)|((with_reducible refine jc 19 48 rfl rfl ?_);refine jG Try.func19 #[.slice Ao13 t961.length co13,.int .i64 1] ?_;(with_reducible refine (WmarkQuadS.calls kj7 (fun k_=>some k_=(.slice Ao13 t961.length co13:Value).ownBlock) (.slice Ao13 t961.length co13) t961 1 t973 t974 w _ ?side1 ?side2 A27.out).mono ?_);(case side1=>exact qB);(case side2=>exact Kd.R_tight rfl HO_6.out);rintro e w32 ⟨rfl,hy0,hb,hkp⟩;refine⟨_,rfl,?_⟩;replace HO_4:=aM (Kd.R_mono (ok':=fun k_=>some k_≠(.slice Ao13 t961.length co13:Value).ownBlock/\some k_≠(v966:Value).ownBlock/\some k_≠(.slice Ao30 t969.length co30:Value).ownBlock) (Kd.R_keptB (HO_4.out) hkp (fun k_ hk_ hs_=>(hk_.1.1) hs_)) (fun k_ hk_=>⟨hk_.1.1.1,hk_.1.1.2,hk_.1.2⟩));replace HO_6:=aM (Kd.R_reok rfl hy0 (fun k_ e_=>HO_6.out.1 k_ e_));replace HO_7:=aM (Kd.R_mono (ok':=fun k_=>some k_≠(v959:Value).ownBlock/\some k_≠(.slice Ao13 t961.length co13:Value).ownBlock/\some k_≠(.slice Ao30 t969.length co30:Value).ownBlock) (Kd.R_keptB (HO_7.out) hkp (fun k_ hk_ hs_=>(hk_.1.2) hs_)) (fun k_ hk_=>⟨hk_.1.1.1,hk_.1.1.2,hk_.1.2⟩));replace HO971:=aM (Kd.R_mono (ok':=fun k_=>some k_≠(v959:Value).ownBlock/\some k_≠(.slice Ao13 t961.length co13:Value).ownBlock/\some k_≠(v966:Value).ownBlock) (Kd.R_keptB (HO971.out) hkp (fun k_ hk_ hs_=>(hk_.1.2) hs_)) (fun k_ hk_=>⟨hk_.1.1.1.2,hk_.1.1.2,hk_.1.2⟩));replace HB:=aM hb;(try clear hb);(try clear hkp);(try clear hy0)))
   (try simp only [Act.put,List.setIfInBounds_toArray,List.set_cons_zero,List.set_cons_succ])
   go_cut [61] (fun v61 wc=>∃ (kq:Nat) (x61_27:Bool),v61 = .bool x61_27/\Aside0 (WFnExactOptimizeOnce.j1 kq l0 t957 t958 t964 x61_27=some r)/\Aside0 (kq<=kj7)/\Aside0 (Kd.R k46 46 wc w.heap.size (fun k_=>some k_≠(v966:Value).ownBlock) v959 t957)/\Aside0 (Kd.R k46 46 wc w.heap.size (fun k_=>some k_≠(v959:Value).ownBlock) v966 t964)/\Aside0 (Below w.heap.size w wc))
   case first =>
    have H:=HC28.out
    clear HC28
    replace H:=jD H;rcases H with ⟨c33b0,H⟩ | ⟨c33b0,H⟩
    ·(first|rw [c33b0]|(simp only [i64_w,i32_w];rw [c33b0])|skip)
     have H':=aM H
     clear H
     go_wp2
     go_meet
     exact⟨_,(true),qZ,H',⟨by have:=HJ7.out;first|omega|exact Nat.le_refl _⟩,⟨by (with_reducible repeat (first|apply Kd.R_alloc|apply Kd.R_drewN|apply Kd.R_drew));exact Kd.R_mono HO_4.out (fun _ hk=>hk.2.1)⟩,⟨by (with_reducible repeat (first|apply Kd.R_alloc|apply Kd.R_drewN|apply Kd.R_drew));exact Kd.R_mono HO_7.out (fun _ hk=>hk.1)⟩,⟨qB⟩⟩
    (first|rw [c33b0]|(simp only [i64_w,i32_w];rw [c33b0])|skip)
    obtain⟨t975,A34,H⟩:=qE H
    try dsimp only at H
    replace H:=jB H;rcases H with ⟨rfl,H⟩ | ⟨rfl,H⟩
    ·have H':=aM H
     clear H
     obtain⟨Ao36,co36,eo36⟩:=Kd.R_slice HO_7.out
     subst eo36
     obtain⟨Ao37,co37,eo37⟩:=Kd.R_slice HO_4.out
     subst eo37
     go_wp2_with (first|(go_at_call 13;(with_reducible refine (WeqQuadS.calls kj7 _ _ t964 _ _ t957 true _ ?side1 ?side2 ?side3 ?side4 A34.out).mono ?_);(case side1=>exact kC (Kd.R_reads' HO_7.out).2.2);(case side2=>exact (Kd.R_reads' HO_7.out).2.1);(case side3=>exact kC (Kd.R_reads' HO_4.out).2.2);(case side4=>exact (Kd.R_reads' HO_4.out).2.1);rintro e w_1a ⟨rfl,hb⟩;replace HO_4:=kR HO_4 hb;replace HO_6:=kR HO_6 hb;replace HO_7:=kR HO_7 hb;replace HO971:=kR HO971 hb;replace HB:=kH hb;clear hb))
     go_meet
     exact⟨_,_,qZ,H',⟨by have:=HJ7.out;first|omega|exact Nat.le_refl _⟩,⟨by (with_reducible repeat (first|apply Kd.R_alloc|apply Kd.R_drewN|apply Kd.R_drew));exact Kd.R_mono HO_4.out (fun _ hk=>hk.2.1)⟩,⟨by (with_reducible repeat (first|apply Kd.R_alloc|apply Kd.R_drewN|apply Kd.R_drew));exact Kd.R_mono HO_7.out (fun _ hk=>hk.1)⟩,⟨qB⟩⟩
    have H':=aM H
    clear H
    obtain⟨Ao39,co39,eo39⟩:=Kd.R_slice HO_7.out
    subst eo39
    obtain⟨Ao40,co40,eo40⟩:=Kd.R_slice HO_4.out
    subst eo40
    go_wp2_with (first|(go_at_call 13;(with_reducible refine (WeqQuadS.calls kj7 _ _ t964 _ _ t957 false _ ?side1 ?side2 ?side3 ?side4 A34.out).mono ?_);(case side1=>exact kC (Kd.R_reads' HO_7.out).2.2);(case side2=>exact (Kd.R_reads' HO_7.out).2.1);(case side3=>exact kC (Kd.R_reads' HO_4.out).2.2);(case side4=>exact (Kd.R_reads' HO_4.out).2.1);rintro e w_1a ⟨rfl,hb⟩;replace HO_4:=kR HO_4 hb;replace HO_6:=kR HO_6 hb;replace HO_7:=kR HO_7 hb;replace HO971:=kR HO971 hb;replace HB:=kH hb;clear hb))
    go_meet
    exact⟨_,_,qZ,H',⟨by have:=HJ7.out;first|omega|exact Nat.le_refl _⟩,⟨by (with_reducible repeat (first|apply Kd.R_alloc|apply Kd.R_drewN|apply Kd.R_drew));exact Kd.R_mono HO_4.out (fun _ hk=>hk.2.1)⟩,⟨by (with_reducible repeat (first|apply Kd.R_alloc|apply Kd.R_drewN|apply Kd.R_drew));exact Kd.R_mono HO_7.out (fun _ hk=>hk.1)⟩,⟨qB⟩⟩
   clear HC28
   try clear c3b0
   obtain⟨kq,x61_27,rfl,HA,HJ27,HO_4,HO_7,HB⟩:=hcut
   cases kq with
   | zero=>exact absurd HA.out (by simp [WFnExactOptimizeOnce.j1])
   | succ kj27 =>
    have H:=HA.out
    clear HA
    simp only [WFnExactOptimizeOnce.j1] at H
    replace H:=jB H;rcases H with ⟨rfl,H⟩ | ⟨rfl,H⟩
    ·obtain rfl:=Option.some.inj H
     go_wp2
     go_ret
     exact⟨qW,qB⟩
    obtain⟨⟨t976,t977⟩,A43,H⟩:=qE H
    try dsimp only at H
    obtain⟨t978,A44,H⟩:=qE H
    try dsimp only at H
    replace H:=jD H;rcases H with ⟨c45b0,H⟩ | ⟨c45b0,H⟩
    ·obtain rfl:=Option.some.inj H
     obtain⟨Ao46,co46,eo46⟩:=Kd.R_slice HO_7.out
     subst eo46
     exact WFnExactOptimizeOnce_calls_s0
    replace H:=jE H;rcases H with ⟨c48b0,c48b1,H⟩ | ⟨c48,c48b0,c48b1,H⟩
    ·obtain⟨t979,A49,H⟩:=qE H
     try dsimp only at H
     obtain⟨⟨t982,t983⟩,A50,H⟩:=qE H
     try dsimp only at H
     have HC51:=aM H
     clear H
     obtain⟨Ao52,co52,eo52⟩:=Kd.R_slice HO_7.out
     subst eo52
     go_upto_region 25 with (first|((with_reducible refine jc 19 64 rfl rfl ?_);refine jG Try.func19 #[.slice Ao52 t964.length co52,.int .i64 1] ?_;(with_reducible refine (WmarkQuadS.calls kj27 (fun k_=>some k_=(.slice Ao52 t964.length co52:Value).ownBlock) (.slice Ao52 t964.length co52) t964 1 t976 t977 w _ ?side1 ?side2 A43.out).mono ?_);(case side1=>exact qB);(case side2=>exact Kd.R_tight rfl HO_7.out);rintro e w53 ⟨rfl,hy0,hb,hkp⟩;refine⟨_,rfl,?_⟩;replace HO_4:=aM (Kd.R_mono (ok':=fun k_=>some k_≠(.slice Ao52 t964.length co52:Value).ownBlock) (Kd.R_keptB (HO_4.out) hkp (fun k_ hk_ hs_=>(hk_) hs_)) (fun k_ hk_=>hk_.1));replace HO_7:=aM (Kd.R_reok rfl hy0 (fun k_ e_=>HO_7.out.1 k_ e_));replace HB:=aM hb;(try clear hb);(try clear hkp);(try clear hy0))|((with_reducible refine gate_callee (f:=24) rfl ?_);refine goesL_ (some 67) rfl rfl Try.func24 (by kernel_rfl) rfl #[.slice Ao52 t977.length co52,.int .i64 1] rfl (by (try simp only [List.map_toArray,List.map_cons,List.map_nil]);first|done|(rw [show t977.length=t964.length from (Kd.R_reads' HO_7.out).1.symm] <;> rfl)|rfl|(simp only [List.length_drop,List.length_take];rfl)) ?_;(with_reducible refine (WheldQuadS.calls kj27 _ _ t977 1 t978 _ ?side1 ?side2 A44.out).mono ?_);(case side1=>exact kC (Kd.R_reads' HO_7.out).2.2);(case side2=>rw [show t977.length=t964.length from (Kd.R_reads' HO_7.out).1.symm];exact (Kd.R_reads' HO_7.out).2.1);rintro e w' ⟨rfl,⟨nd,rfl⟩⟩;refine⟨_,rfl,?_⟩)|((with_reducible refine jc 11 75 rfl rfl ?_);refine jG Try.func11 #[.slice A0 l0.length c0] ?_;(with_reducible refine (WtoQuadS.calls kj27 _ _ l0 t979 _ ?side1 ?side2 A49.out).mono ?_);(case side1=>exact kC (Kd.C_below HR0.out qB));(case side2=>exact HC0.out);rintro e w54 ⟨v980,rfl,ho0,hb⟩;refine⟨_,rfl,?_⟩;have HO981:=aM (Kd.R_lower (Kd.R_new' (Kd.R_new' ho0 (Kd.R_lt (qR HO_4))) (Kd.R_lt (qR HO_7))) (below_size qB));replace HO_4:=kO HO_4 ho0 hb;replace HO_7:=kO HO_7 ho0 hb;replace HB:=kH hb;clear hb;(try clear ho0);obtain⟨Ao55,co55,eo55⟩:=Kd.R_slice HO981.out;subst eo55)|((with_reducible refine jc 26 76 rfl rfl ?_);refine jG Try.func26 #[.slice Ao55 t979.length co55] ?_;(with_reducible refine (IOptimizeOnce.calls kj27 _ _ t979 t982 t983 _ ?side1 ?side2 A50.out).mono ?_);(case side1=>exact kC (Kd.R_reads' HO981.out).2.2);(case side2=>exact (Kd.R_reads' HO981.out).2.1);rintro e w56 ⟨v984,rfl,ho0,hb⟩;refine⟨_,rfl,?_⟩;have HO985:=aM (Kd.R_lower (Kd.R_new' (Kd.R_new' (Kd.R_new' ho0 (Kd.R_lt (qR HO_4))) (Kd.R_lt (qR HO_7))) (Kd.R_lt (qR HO981))) (below_size qB));replace HO_4:=kO HO_4 ho0 hb;replace HO_7:=kO HO_7 ho0 hb;replace HO981:=kO HO981 ho0 hb;replace HB:=kH hb;clear hb;(try clear ho0)))
     (try simp only [Act.put,List.setIfInBounds_toArray,List.set_cons_zero,List.set_cons_succ])
     go_cut [87] (fun v87 wc=>∃ (kq:Nat) (x87_50:Bool),v87 = .bool x87_50/\Aside0 (WFnExactOptimizeOnce.j2 kq t977 t976 x87_50=some r)/\Aside0 (kq<=kj27)/\Aside0 (Kd.R k46 46 wc w.heap.size (fun _=>True) (.slice Ao52 t964.length co52) t977)/\Aside0 (Below w.heap.size w wc))
     case first =>
      have H:=HC51.out
      clear HC51
      obtain⟨t986,A57,H⟩:=qE H
      try dsimp only at H
      replace H:=jB H;rcases H with ⟨rfl,H⟩ | ⟨rfl,H⟩
      ·have H':=aM H
       clear H
       obtain⟨Ao59,co59,eo59⟩:=Kd.R_slice HO985.out
       subst eo59
       obtain⟨Ao60,co60,eo60⟩:=Kd.R_slice HO_4.out
       subst eo60
       go_wp2_with (first|((with_reducible refine jc 13 81 rfl rfl ?_);refine jG Try.func13 #[.slice Ao59 t982.length co59,.slice Ao60 t957.length co60] ?_;(with_reducible refine (WeqQuadS.calls kj27 _ _ t982 _ _ t957 true _ ?side1 ?side2 ?side3 ?side4 A57.out).mono ?_);(case side1=>exact kC (Kd.R_reads' HO985.out).2.2);(case side2=>exact (Kd.R_reads' HO985.out).2.1);(case side3=>exact kC (Kd.R_reads' HO_4.out).2.2);(case side4=>exact (Kd.R_reads' HO_4.out).2.1);rintro e w_3a ⟨rfl,hb⟩;refine⟨_,rfl,?_⟩;replace HO_4:=kR HO_4 hb;replace HO_7:=kR HO_7 hb;replace HO981:=kR HO981 hb;replace HO985:=kR HO985 hb;replace HB:=kH hb;clear hb))
       go_meet
       exact⟨_,_,qZ,H',⟨by have:=HJ7.out;have:=HJ27.out;first|omega|exact Nat.le_refl _⟩,⟨by (with_reducible repeat (first|apply Kd.R_alloc|apply Kd.R_drewN|apply Kd.R_drew));exact Kd.R_mono HO_7.out (fun _ hk=>trivial)⟩,⟨qB⟩⟩
      have H':=aM H
      clear H
      obtain⟨Ao62,co62,eo62⟩:=Kd.R_slice HO985.out
      subst eo62
      obtain⟨Ao63,co63,eo63⟩:=Kd.R_slice HO_4.out
      subst eo63
      go_wp2_with (first|((with_reducible refine jc 13 81 rfl rfl ?_);refine jG Try.func13 #[.slice Ao62 t982.length co62,.slice Ao63 t957.length co63] ?_;(with_reducible refine (WeqQuadS.calls kj27 _ _ t982 _ _ t957 false _ ?side1 ?side2 ?side3 ?side4 A57.out).mono ?_);(case side1=>exact kC (Kd.R_reads' HO985.out).2.2);(case side2=>exact (Kd.R_reads' HO985.out).2.1);(case side3=>exact kC (Kd.R_reads' HO_4.out).2.2);(case side4=>exact (Kd.R_reads' HO_4.out).2.1);rintro e w_3a ⟨rfl,hb⟩;refine⟨_,rfl,?_⟩;replace HO_4:=kR HO_4 hb;replace HO_7:=kR HO_7 hb;replace HO981:=kR HO981 hb;replace HO985:=kR HO985 hb;replace HB:=kH hb;clear hb))
      go_meet
      exact⟨_,_,qZ,H',⟨by have:=HJ7.out;have:=HJ27.out;first|omega|exact Nat.le_refl _⟩,⟨by (with_reducible repeat (first|apply Kd.R_alloc|apply Kd.R_drewN|apply Kd.R_drew));exact Kd.R_mono HO_7.out (fun _ hk=>trivial)⟩,⟨qB⟩⟩
     clear HC51
     try clear c3b0;try clear c45b0;try clear c48;try clear c48b0;try clear c48b1
     obtain⟨kq,x87_50,rfl,HA,HJ50,HO_7,HB⟩:=hcut
     have hl7_50:=(Kd.R_reads' HO_7.out).1
     rw [hl7_50] at HO_7
     (try simp only [hl7_50])
     cases kq with
     | zero=>exact absurd HA.out (by simp [WFnExactOptimizeOnce.j2])
     | succ kj50 =>
      have H:=HA.out
      clear HA
      simp only [WFnExactOptimizeOnce.j2] at H
      replace H:=jB H;rcases H with ⟨rfl,H⟩ | ⟨rfl,H⟩
      ·obtain rfl:=Option.some.inj H
       go_wp2
       go_ret
       exact⟨qW,qB⟩
      obtain⟨t987,A66,H⟩:=qE H
      try dsimp only at H
      replace H:=jD H;rcases H with ⟨c67b0,H⟩ | ⟨c67b0,H⟩
      ·obtain rfl:=Option.some.inj H
       exact WFnExactOptimizeOnce_calls_s0
      replace H:=jE H;rcases H with ⟨c68b0,c68b1,H⟩ | ⟨c68,c68b0,c68b1,H⟩
      ·obtain rfl:=Option.some.inj H
       exact WFnExactOptimizeOnce_calls_s0
      obtain rfl:=Option.some.inj H
      exact WFnExactOptimizeOnce_calls_s0
    obtain rfl:=Option.some.inj H
    obtain⟨Ao69,co69,eo69⟩:=Kd.R_slice HO_7.out
    subst eo69
    go_wp2_with (first|((with_reducible refine jc 19 64 rfl rfl ?_);refine jG Try.func19 #[.slice Ao69 t964.length co69,.int .i64 1] ?_;(with_reducible refine (WmarkQuadS.calls kj27 (fun k_=>some k_=(.slice Ao69 t964.length co69:Value).ownBlock) (.slice Ao69 t964.length co69) t964 1 t976 t977 w _ ?side1 ?side2 A43.out).mono ?_);(case side1=>exact qB);(case side2=>exact Kd.R_tight rfl HO_7.out);rintro e w_2a ⟨rfl,hy0,hb,hkp⟩;refine⟨_,rfl,?_⟩;replace HO_4:=aM (Kd.R_mono (ok':=fun k_=>some k_≠(.slice Ao69 t964.length co69:Value).ownBlock) (Kd.R_keptB (HO_4.out) hkp (fun k_ hk_ hs_=>(hk_) hs_)) (fun k_ hk_=>hk_.1));replace HO_7:=aM (Kd.R_reok rfl hy0 (fun k_ e_=>HO_7.out.1 k_ e_));replace HB:=aM hb;(try clear hb);(try clear hkp);(try clear hy0))|((with_reducible refine gate_callee (f:=24) rfl ?_);refine goesL_ (some 67) rfl rfl Try.func24 (by kernel_rfl) rfl #[.slice Ao69 t977.length co69,.int .i64 1] rfl (by (try simp only [List.map_toArray,List.map_cons,List.map_nil]);first|done|(rw [show t977.length=t964.length from (Kd.R_reads' HO_7.out).1.symm] <;> rfl)|rfl|(simp only [List.length_drop,List.length_take];rfl)) ?_;(with_reducible refine (WheldQuadS.calls kj27 _ _ t977 1 t978 _ ?side1 ?side2 A44.out).mono ?_);(case side1=>exact kC (Kd.R_reads' HO_7.out).2.2);(case side2=>rw [show t977.length=t964.length from (Kd.R_reads' HO_7.out).1.symm];exact (Kd.R_reads' HO_7.out).2.1);rintro e w' ⟨rfl,⟨nd,rfl⟩⟩;refine⟨_,rfl,?_⟩))
    go_ret
    exact⟨qW,qB⟩
  obtain rfl:=Option.some.inj H
  exact WFnExactOptimizeOnce_calls_s0
end Go.Proofs.Ytahbkldagpfcaaa.M
namespace Go.Proofs.Ytahbkldagpfcaaa.M
open Go.RowKit Go.Proofs.YtahbkldagpfcaaaW.PrintWords Go.Proofs.YtahbkldagpfcaaaW.PrintLast Go.Proofs.YtahbkldagpfcaaaW.PrintMore PM
theorem optimizeOnce_ev (c:List SQ):∃ p:List SQ × Bool,p.1.length<=600/\Ev (fun k=>SOptimizeOnce.f k c) p/\Ev (fun k=>IOptimizeOnce.f k c) p:=by
 by_cases h:CV (qs c)
 ·obtain⟨v,hv,e⟩:=Sl37Once.ev h
  refine⟨(v,true),(cv600 hv).2,SOptimizeOnce.good h e,?_⟩
  simp only [IOptimizeOnce.f]
  exact Ev.bind (once_same h e) Ev.pure
 refine⟨([],false),Nat.zero_le _,SOptimizeOnce.bad h,?_⟩
 simp only [IOptimizeOnce.f]
 exact Ev.bind (SOptimizeCode.bad (t:=1) (fun x=>h x.1)) Ev.pure
theorem law_OptimizeOnce {l:List LQ} (h:l.length<=9223372036854775807):Ev (fun k=>WFnExactOptimizeOnce.f k l) true:=by
 obtain⟨t,e,ht⟩:=WszQuadS.e h
 simp only [WFnExactOptimizeOnce.f,e]
 refine Ev.some ?_
 by_cases c:t < 0
 ·exact Ev.pos Ev.pure
 refine Ev.neg ?_
 have hl:=ht c
 obtain⟨⟨v,b⟩,hv,e1,e2⟩:=optimizeOnce_ev (l.map toQ)
 have hQ:=WtoQuadS.ev hl
 have hq:=WeqQuadS.ev (l:=v) (by simp only at hv;omega)
 have hq2:=WeqQuadS.ev (l:=l.map toQ) (by simpa using hl)
 have hm:=WmarkQuadS.ev (l:=l.map toQ) (by simpa using hl)
 have hm2:=WmarkQuadS.ev (l:=v) (by simp only at hv;omega)
 have hh:=WheldQuadS.ev (n:=v.length) (by simp only at hv;omega)
 refine Ev.bind hQ (Ev.bind e1 (Ev.bind hQ (Ev.bind e2 (Ev.bind hq (Ev.pos ?_)))))
 refine Ev.succ ?_
 simp only [WFnExactOptimizeOnce.j0]
 refine Ev.neg (Ev.bind hQ (Ev.bind hq2 (Ev.pos (Ev.bind hm (Ev.neg (Ev.bind hq (Ev.pos ?_)))))))
 refine Ev.succ ?_
 simp only [WFnExactOptimizeOnce.j1]
 refine Ev.neg (Ev.bind hm2 (Ev.bind hh (Ev.neg (Ev.pos (Ev.bind hQ (Ev.bind e2 (Ev.bind hq (Ev.pos ?_)))) rfl))))
 refine Ev.succ ?_
 simp only [WFnExactOptimizeOnce.j2]
 exact Ev.neg (Ev.bind hh (Ev.neg (Ev.pos Ev.pure rfl)))
end Go.Proofs.Ytahbkldagpfcaaa.M
namespace Go.Proofs.Ytahbkldagpfcaaa.M
open Go.ChangeShapes Go.WideShapes Go.ChangeAt Go.RowKit Go.Joins Go.Deep Go.Proofs.YtahbkldagpfcaaaW.PrintWords
theorem own:ownKnob Try.prog.godebug=none:=by kernel_rfl
theorem laidOut:laidOutB Try.prog=true:=by kernel_rfl
section
variable {H:Type} {enc:TypeId × Value->H} {P:Program} {w:World} {base:Nat} {spare:Nat->Bool} {held:Bool}
theorem open_cells5 {t:TypeId} {f0 f1 f2 f3 f4:Field} {fuel:Nat} {cs:List Value} {x:DataW H × List MemPlace} (hs:P.underlying t=some (.struct #[f0,f1,f2,f3,f4])) (hone:oneCellFields P #[f0,f1,f2,f3,f4]=true) (hC:P.cellsOf t=5)
  (h:DataW.trod enc P w base spare held fuel t cs=some x) :
  ∃ (v0 v1 v2 v3 v4:Value) (y0 y1 y2 y3 y4:DataW H × List MemPlace) (n:Nat),cs=[v0,v1,v2,v3,v4] /\
   DataW.trod enc P w base spare held n f0.type [v0]=some y0/\DataW.trod enc P w base spare held n f1.type [v1]=some y1/\DataW.trod enc P w base spare held n f2.type [v2]=some y2/\DataW.trod enc P w base spare held n f3.type [v3]=some y3/\DataW.trod enc P w base spare held n f4.type [v4]=some y4:=by
 obtain⟨xs,n,_,hx,hl,hlen,hg⟩:=DataW.trod_struct hs h
 obtain⟨o0,k0⟩:=hone_of hone 0 f0 rfl
 obtain⟨o1,k1⟩:=hone_of hone 1 f1 rfl
 obtain⟨o2,k2⟩:=hone_of hone 2 f2 rfl
 obtain⟨o3,k3⟩:=hone_of hone 3 f3 rfl
 obtain⟨o4,k4⟩:=hone_of hone 4 f4 rfl
 match cs,hl.trans hC,xs,hlen with
 | [c0,c1,c2,c3,c4],_,[y0,y1,y2,y3,y4],_ =>
  exact⟨c0,c1,c2,c3,c4,y0,y1,y2,y3,y4,n,rfl,by simpa [o0,k0] using hg 0 f0 rfl,by simpa [o1,k1] using hg 1 f1 rfl,by simpa [o2,k2] using hg 2 f2 rfl,by simpa [o3,k3] using hg 3 f3 rfl,by simpa [o4,k4] using hg 4 f4 rfl⟩
end
/-- A slice of quads is a row of quads. -/
theorem open_quads {H:Type} {enc:TypeId × Value->H} {w:World} {spare:Nat->Bool} {held:Bool} {a:Option Addr} {len cap:Nat} {d:DataW H} {p:List MemPlace} (h:DataW.Trod enc Try.prog w 0 spare held 22 (.slice a len cap) d p) :
  ∃ l:List S48,l.length=len/\len<=cap/\Kd.C k48 w a len l:=by
 obtain⟨fuel,hf⟩:=h
 rcases open_slice Try.underlying22 hf with ⟨hcs,_⟩ | ⟨ad,l,c,m,n,D,Pl,hcs,_,hl,hm,hmm,_,hel⟩
 ·simp [Value.cells] at hcs
  obtain⟨rfl,rfl,rfl⟩:=hcs
  exact⟨[],rfl,Nat.le_refl _,Kd.C_nil _ _⟩
 simp [Value.cells] at hcs
 obtain⟨rfl,rfl,rfl⟩:=hcs
 have hC:Try.prog.cellsOf 48=5:=by kernel_rfl
 have hle:len<=m:=by rw [hmm];split <;> omega
 have key:∀ i,i < len->∃ x:S48,∀ j u,[Value.int .i64 x.f0,.int .i64 x.f1,.int .i64 x.f2,.int .i64 x.f3,.int .i64 x.f4][j]?=some u->w.cell? (ad.add (i*5+j))=some u:=by
  intro i hi
  obtain⟨cs,h1,h2⟩:=hel i (by omega)
  rw [hC] at h1
  obtain⟨v0,v1,v2,v3,v4,y0,y1,y2,y3,y4,k,rfl,g0,g1,g2,g3,g4⟩:=open_cells5 Try.underlying48 (by kernel_rfl) hC h2
  obtain⟨x0,e0,_,_⟩:=DataW.trod_int Try.underlying3 g0
  obtain⟨x1,e1,_,_⟩:=DataW.trod_int Try.underlying3 g1
  obtain⟨x2,e2,_,_⟩:=DataW.trod_int Try.underlying3 g2
  obtain⟨x3,e3,_,_⟩:=DataW.trod_int Try.underlying3 g3
  obtain⟨x4,e4,_,_⟩:=DataW.trod_int Try.underlying3 g4
  simp at e0 e1 e2 e3 e4
  subst e0 e1 e2 e3 e4
  refine⟨⟨x0,x1,x2,x3,x4⟩,fun j u hu=>?_⟩
  have hc:=(World.cells?_some h1).2.2 j
  rw [<- Deep.add_add]
  have hj:j < 5:=by
   rcases Nat.lt_or_ge j 5 with h|h
   ·exact h
   rw [List.getElem?_eq_none (by simpa using h)] at hu
   cases hu
  rw [<- hu]
  exact hc hj
 refine⟨(List.range len).map fun i=>if h:i < len then Classical.choose (key i h) else z48,by simp,hl,by simp,by unfold maxLen at hm;omega,fun _=>⟨ad,rfl,fun j x hx=>?_⟩⟩
 obtain⟨hj,e⟩:=List.getElem?_eq_some_iff.1 hx
 have hj':j < len:=by simpa using hj
 simp only [List.getElem_map,List.getElem_range,dif_pos hj'] at e
 subst e
 exact⟨_,rfl,Kd.K_of_M _ (k48_mkM w 0 (fun _=>True) _),fun i u hu=>Classical.choose_spec (key j hj') i u hu⟩
theorem C_bound {w:World} {a:Option Addr} {n:Nat} {l:List S48} (h:Kd.C k48 w a n l):l.length<=9223372036854775807:=by
 rw [Kd.C_len h]
 exact Kd.C_max h
end Go.Proofs.Ytahbkldagpfcaaa.M
namespace Go.Proofs.Ytahbkldagpfcaaa
open Go.ChangeShapes Go.WideShapes Go.ChangeAt Go.RowKit
namespace fnExactOptimizeOnce
theorem lifted (os:Os) (started:os.Started) (H:Type) (enc:TypeId × Value->H) :
  ReturnsInHanded {} Try.checked os 7 .any (Rows.fnExactOptimizeOnceSpec.pre6 enc Try.prog Try.f7 Rows.fnExactOptimizeOnceRow.domain false) (Rows.fnExactOptimizeOnceSpec.post enc Try.prog Try.f7 false true false false):=by
 refine returnsInHanded_of_change_sized (C:=Try.checked) M.own started (by kernel_rfl) Try.func7
  (ChangeSpec.witness6 (enc:=enc) (C:=Try.checked) false ⟨#[],#[.slice none 0 0],[]⟩ 8 (by kernel_rfl) (by kernel_rfl) (by kernel_rfl) (by kernel_rfl)) ?_
 intro W base args ds gs before hval0 hW hcnd hsz0 _
 have hval:∀ (j:Nat) t v,Try.f7.params[j]?=some t->args[j]?=some v->Value.okWide Try.prog W .any base t v:=hval0
 have hW':=hW
 obtain⟨p,q,hA0,hV,rfl,hfz,hnd⟩:=hW
 have hA:DataW.TrodAll enc Try.prog W 0 (fun _=>true) true Try.f7.params.toList args.toList ds p:=hA0
 rw [Try.params7] at hA hval
 obtain⟨v0,vs0,d0,ds0,p0,q0,hargs,rfl,rfl,h0,r0⟩:=trodAll_cons hA
 obtain⟨rfl,rfl,rfl⟩:=trodAll_nil r0
 obtain rfl:args = #[v0]:=by cases args;simp_all
 obtain⟨rfl,rfl⟩:=trodVars_none hV
 have k0:=h0
 have lt0:∀ x∈p0,x.block < W.heap.size:=by obtain⟨m,hm⟩:=k0;exact DataW.trod_lt m _ _ _ hm
 obtain⟨a0,len0,cap0,rfl⟩:=okWide_slice Try.underlying22 (hval 0 22 v0 rfl rfl)
 obtain⟨l,rfl,hc0,hC⟩:=M.open_quads h0
 clear hA0 hval0 hsz0
 obtain⟨k,hk⟩:=(M.law_OptimizeOnce (l:=l) (M.C_bound hC)).get
 refine (M.WFnExactOptimizeOnce.calls k a0 cap0 l true W hC hc0 hk).mono fun e W' ⟨he,bel⟩=>?_
 subst he
 exact⟨_,rfl,_,_,_,[],_,[],hW',trodAll_mk1 (shut_bool Try.underlying4 _),(trodAll_cons_mk (Below.trod M.laidOut (by kernel_rfl) (of_decide_eq_true (by kernel_rfl)) k0 bel lt0) trodAll_mk0),rfl,bel.frame _,fun h=>by cases h⟩
theorem over:Rows.fnExactOptimizeOnceRow.holds Try.pinned (OpenSpec.ofChange Rows.fnExactOptimizeOnceSpec) :=
 OpenClaim.holds_of_wide 7 Try.f7 rfl rfl rfl rfl rfl rfl rfl ⟨rfl,rfl,rfl,rfl,rfl⟩ rfl rfl rfl rfl rfl (by kernel_rfl) Try.func7 (by kernel_rfl)
  (of_decide_eq_true (by kernel_rfl)) (by unfold Func.isWrapper;first|(rw [if_pos (by decide +kernel)];kernel_rfl)|(rw [if_neg (by decide +kernel)];exact⟨rfl,rfl⟩))
  (fun os started H enc _=>lifted os started H enc)
end fnExactOptimizeOnce
theorem fnExactOptimizeOnce_holds:Rows.FnExactOptimizeOnceSaid:=fnExactOptimizeOnce.over
end Go.Proofs.Ytahbkldagpfcaaa
