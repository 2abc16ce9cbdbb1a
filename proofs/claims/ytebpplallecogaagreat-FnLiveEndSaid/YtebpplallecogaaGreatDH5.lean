/- A function as plain Lean and its contract: written by a program of this session's, turned from the kit's print. -/
import Derived.Test.YtebpplallecogaaGreatDH4
import Derived.WalkSpells
import Derived.Test.YtebpplallecogaaGreatRows
import Derived.WalkKit
import Derived.ProofKit
import Derived.OpenShut
import Derived.ShutString
import Derived.ChangeOld
import Derived.Below
import Derived.SizedLaws
import Derived.Test.YtebpplallecogaaGreatDHWSized
set_option linter.unusedVariables false
set_option linter.unusedSimpArgs false
set_option maxHeartbeats 8000000
set_option maxRecDepth 100000
namespace Go.Proofs.YtebpplallecogaaGreat.M
open Go.Proofs.Tryz Go.RowKit Go.Proofs.YtebpplallecogaaGreatW.PrintWords Go.Proofs.YtebpplallecogaaGreatW.PrintLast Go.Proofs.YtebpplallecogaaGreatW.PrintMore Kd
attribute [local go_sem] aao aam aaA aaz aag aaf aan aal
def alm (k:Nat) (aj:List Int) (aA:Int):Option ((List S27) × Int):=(alk k aj aA).bind fun ah=>((ab3 k aj ah.2 36).bind fun ak=>(if ak.1=0 then (if 0 < (ah.1.length:Int) then (some ((ah.1.set (0:Int).toNat (⟨(aa0 ah.1 0).f0,12,(aa0 ah.1 0).f2,(aa0 ah.1 0).f3,(aa0 ah.1 0).f4⟩:S27)),ak.2)) else (none)) else (if ak.1=1 then (if ah.1.length < 3518437208883 then (some ((ah.1 ++ [(⟨9,0,0,0,0⟩:S27)]),ak.2)) else (none)) else (if ak.1=2 then (if 0 < (ah.1.length:Int) then (some ((ah.1.set (0:Int).toNat (⟨4,0,0,0,(ah.1.length:Int)⟩:S27)),ak.2)) else (none)) else (if ak.1=3 then (some ((([]:List S27)),ak.2)) else (some (ah.1,ak.2)))))))
theorem aln (k g:Nat) (aj:List Int) (aA:Int) (r1:List S27) (r2:Int) (w0 w:World) (hI:Sab w0 w g aj aA) (hB:Below w0.heap.size w0 w) (h:alm k aj aA=some (r1,r2)) :
  Calls prog 33 #[.pointer (some ⟨g,0,none⟩)] w fun e w'=>∃ dS:Value,e = .returned (dS)/\Kd.R k27 27 w' w.heap.size (fun _=>True) dS r1/\Sab w0 w' g aj r2/\Below w0.heap.size w0 w'/\aa6 w w' g none:=by
 have eG:=underlying27
 have HI0:=aM hI
 have HK:=aM (aaK w g none)
 have HL:=aM hB.size
 clear hI
 have HW0:=aM hB.size
 have HB:=aM hB
 clear hB
 have H:=h;unfold alm at H
 clear h
 obtain⟨⟨ae,ai⟩,A2,H⟩:=qE H
 try dsimp only at H
 obtain⟨⟨aC,aD⟩,A3,H⟩:=qE H
 try dsimp only at H
 replace H:=jE H;rcases H with ⟨dG,dH,H⟩ | ⟨c4,dG,dH,H⟩
 ·replace H:=jU H;obtain⟨c5,H⟩:=H
  have eH:=decide_eq_true c5
  have eO:decide (0 < ae.length)=true:=decide_eq_true (by omega)
  clear c5
  obtain⟨bZ,aH⟩:=ky ((ae.set (0:Int).toNat (⟨(aa0 ae 0).f0,12,(aa0 ae 0).f2,(aa0 ae 0).f3,(aa0 ae 0).f4⟩:S27)):List S27)
  replace H:=kv aH H
  obtain⟨rfl,rfl⟩:=oJ2 H
  go_enter func33,ntmps33
  go_wp2_with (first|((with_reducible refine jc 51 5 ?_);refine jM func51 (adl k g aj aA ae ai w0 _ (qI HI0) qB A2.out) ?_;rintro aG w7 ⟨ho0,hi,hb,hk⟩;have aa:=aM (R_lower ho0 kU);replace HK:=kI hk;replace HB:=aM hb;replace HI0:=aM hi;clear hb hk hi;(try clear ho0))|((with_reducible refine jc 52 7 ?_);refine jK func52 (aab k g aj ai 36 aC aD w0 _ (qI HI0) qB A3.out) ?_;rintro w8 ⟨hi,hb,hk⟩;replace aa:=aM (R_mono (R_keep (Sab.apart (show Sab w0 _ g aj ai from qI HI0) (qR aa) (by decide)) hk (fun _ h=>h.2)) (fun _ h=>h.1));replace HK:=kI hk;replace HB:=aM hb;replace HI0:=aM hi;clear hb hk hi;have p6:0<=(0:Int):=(by omega);have q6:(0:Int) < ((ae.length:Int):Int):=qD;have fq:(0 < ae.length)=True:=eq_true (by omega);obtain⟨aZ,dU,dV,dW,eP,fu,dX⟩:=R_form aa.out (by omega);(first|cases dV|(injection dV with ea_ en_ ec_;(first|subst ea_|(injection ea_ with ea_;subst ea_));subst ec_;clear en_));have eQ:=aM dW;have fw:=aM dX;clear dW eP dX;obtain⟨fA,dI,dY,bg,bi⟩:=R_elem aa.out z27 (0:Int) p6 q6;obtain rfl:=ae5 dY;have bK:w8.cell? ⟨aZ,(0:Int).toNat*5,none⟩=some (iV ((aa0 ae 0).f0)):=bg 0 _ rfl;have bL:w8.cell? ⟨aZ,(0:Int).toNat*5+1,none⟩=some (iV ((aa0 ae 0).f1)):=bg 1 _ rfl;have bM:w8.cell? ⟨aZ,(0:Int).toNat*5+2,none⟩=some (iV ((aa0 ae 0).f2)):=bg 2 _ rfl;have bN:w8.cell? ⟨aZ,(0:Int).toNat*5+3,none⟩=some (iV ((aa0 ae 0).f3)):=bg 3 _ rfl;have bO:w8.cell? ⟨aZ,(0:Int).toNat*5+4,none⟩=some (iV ((aa0 ae 0).f4)):=bg 4 _ rfl;have bP:w8.frozen? ⟨aZ,(0:Int).toNat*5,none⟩=false:=bi 0;have bQ:w8.frozen? ⟨aZ,(0:Int).toNat*5+1,none⟩=false:=bi 1;have bR:w8.frozen? ⟨aZ,(0:Int).toNat*5+2,none⟩=false:=bi 2;have bS:w8.frozen? ⟨aZ,(0:Int).toNat*5+3,none⟩=false:=bi 3;have bT:w8.frozen? ⟨aZ,(0:Int).toNat*5+4,none⟩=false:=bi 4;clear dI bg bi dY;(try rw [show ((0:Int)).toNat=0 from rfl] at bK);(try simp only [Nat.reduceMul,Nat.zero_mul,Nat.zero_add,Nat.reduceAdd] at bK);(try rw [show ((0:Int)).toNat=0 from rfl] at bP);(try simp only [Nat.reduceMul,Nat.zero_mul,Nat.zero_add,Nat.reduceAdd] at bP);(try rw [show ((0:Int)).toNat=0 from rfl] at bL);(try simp only [Nat.reduceMul,Nat.zero_mul,Nat.zero_add,Nat.reduceAdd] at bL);(try rw [show ((0:Int)).toNat=0 from rfl] at bQ);(try simp only [Nat.reduceMul,Nat.zero_mul,Nat.zero_add,Nat.reduceAdd] at bQ);(try rw [show ((0:Int)).toNat=0 from rfl] at bM);(try simp only [Nat.reduceMul,Nat.zero_mul,Nat.zero_add,Nat.reduceAdd] at bM);(try rw [show ((0:Int)).toNat=0 from rfl] at bR);(try simp only [Nat.reduceMul,Nat.zero_mul,Nat.zero_add,Nat.reduceAdd] at bR);(try rw [show ((0:Int)).toNat=0 from rfl] at bN);(try simp only [Nat.reduceMul,Nat.zero_mul,Nat.zero_add,Nat.reduceAdd] at bN);(try rw [show ((0:Int)).toNat=0 from rfl] at bS);(try simp only [Nat.reduceMul,Nat.zero_mul,Nat.zero_add,Nat.reduceAdd] at bS);(try rw [show ((0:Int)).toNat=0 from rfl] at bO);(try simp only [Nat.reduceMul,Nat.zero_mul,Nat.zero_add,Nat.reduceAdd] at bO);(try rw [show ((0:Int)).toNat=0 from rfl] at bT);(try simp only [Nat.reduceMul,Nat.zero_mul,Nat.zero_add,Nat.reduceAdd] at bT);replace p6:=eq_true p6;replace q6:=eq_true q6;have dZ:=aM (show Kd.R k27 27 w8 w.heap.size (fun _=>True) (.slice (some ⟨aZ,0,none⟩) ae.length dU) ae from (qR aa));obtain⟨fB,cu,d9,bV,cz⟩:=R_elem dZ.out z27 (0:Int) (by omega) (by have h_:(0:Int) < ((ae.length:Int):Int):=qD;first|exact h_|(have e_:=(R_reads' aa.out).1;omega)|simpa using h_);obtain rfl:=ae5 d9;have dJ:=R_seg dZ.out (0:Int) (by omega) (by have h_:(0:Int) < ((ae.length:Int):Int):=qD;first|exact h_|(have e_:=(R_reads' aa.out).1;omega)|simpa using h_) (seg:=[iV 12]) (j:=1) cu bV (show 2<=5 from by decide) (x':=(⟨(aa0 ae 0).f0,12,(aa0 ae 0).f2,(aa0 ae 0).f3,(aa0 ae 0).f4⟩:S27)) (aaZ _ _ _ (⟨(aa0 ae 0).f0,12,(aa0 ae 0).f2,(aa0 ae 0).f3,(aa0 ae 0).f4⟩:S27) ) (fun _ hk=>hk);have bu:=bV 1 _ rfl;(try simp only [show (k27).sz=5 from rfl,Nat.mul_one,Nat.add_zero] at bu);(try rw [show ((0:Int)).toNat=0 from rfl] at bu);(try simp only [Nat.reduceMul,Nat.zero_mul,Nat.zero_add,Nat.reduceAdd] at bu);have bv:=cz 1;(try simp only [show (k27).sz=5 from rfl,Nat.mul_one,Nat.add_zero] at bv);(try rw [show ((0:Int)).toNat=0 from rfl] at bv);(try simp only [Nat.reduceMul,Nat.zero_mul,Nat.zero_add,Nat.reduceAdd] at bv);clear cu bV cz d9)|((with_reducible refine aaB (t:=3) (p:=12) rfl ?_);refine aat (t:=3) (p:=12) (v:=?dK) (w1:=(w8.setCell ⟨aZ,1,none⟩ (iV 12))) ?hg ?ho ?hn ?hr ?_;(case ho=>rfl);(case hg=>rfl);(case hn=>rfl);(case hr=>first|(go_simp;done)|(go_simp;rfl));intro dL hw;have hg:w8.grownBy dL (some aZ):=(by rw [hw];exact dJ.2);have hp_:Kd.R k27 27 dL w.heap.size (fun _=>True) (.slice (some ⟨aZ,0,none⟩) ae.length dU) bZ:=(by rw [hw,aH.out];exact dJ.1);clear dJ;replace HI0:=aM (Sab.grown (qI HI0) hg (ac9 HI0.out aa.out (by decide)));replace HB:=aM ((by rw [hw];exact aah (HB.out) (Nat.le_trans HL.out eQ.out):Below w0.heap.size w0 dL));replace HK:=aM (aa6.trans qH (aaU hg g) (R_base2 aa.out));replace aa:=aM hp_;clear hg hw hp_))
  go_ret
  exact⟨_,qW,qR aa,qI HI0,qB,qH⟩
 replace H:=jE H;rcases H with ⟨cB,cK,H⟩ | ⟨c11,cB,cK,H⟩
 ·replace H:=jL H;obtain⟨cO,H⟩:=H
  obtain⟨ed,aI⟩:=ky ((ae ++ [(⟨9,0,0,0,0⟩:S27)]):List S27)
  replace H:=kv aI H
  obtain⟨rfl,rfl⟩:=oJ2 H
  go_enter func33,ntmps33
  go_wp2_with (first|((with_reducible refine jc 51 5 ?_);refine jM func51 (adl k g aj aA ae ai w0 _ (qI HI0) qB A2.out) ?_;rintro aG fC ⟨ho0,hi,hb,hk⟩;have aa:=aM (R_lower ho0 kU);replace HK:=kI hk;replace HB:=aM hb;replace HI0:=aM hi;clear hb hk hi;(try clear ho0))|((with_reducible refine jc 52 7 ?_);refine jK func52 (aab k g aj ai 36 aC aD w0 _ (qI HI0) qB A3.out) ?_;rintro fD ⟨hi,hb,hk⟩;replace aa:=aM (R_mono (R_keep (Sab.apart (show Sab w0 _ g aj ai from qI HI0) (qR aa) (by decide)) hk (fun _ h=>h.2)) (fun _ h=>h.1));replace HK:=kI hk;replace HB:=aM hb;replace HI0:=aM hi;clear hb hk hi)|((with_reducible refine aaa (b:=.append) (xs:=#[.tmp 15,.tmp 17]) rfl ?_);at_builtin;refine R_append k27 w.heap.size rfl (.tmp 15) (.tmp 17) 23 27 (.agg #[(iV 0),(iV 0),(iV 0),(iV 0),(iV 0)]) 40 rfl underlying23 abf rfl (by decide) (by omega) aG ae (⟨9,0,0,0,0⟩:S27) [iV 9,iV 0,iV 0,iV 0,iV 0] (fun _=>True) (fun _=>False) rfl rfl ?aP (fun _ hk=>hk.elim) ?aF ?aO (Below.refl _ _) ?aS ?aL ?_;(case aP=>exact aaZ _ _ _ (⟨9,0,0,0,0⟩:S27));(case aF=>exact (fun _ _=>trivial));(case aO=>exact (qR aa));(case aS=>exact kU);(case aL=>have:=cO.out;omega);intro ek fE ho hb hg hat;rw [<- aI.out] at ho;have bW:=aM ho;replace HI0:=aM (Sab.grown (qI HI0) hg (ac9 HI0.out aa.out (by decide)));replace HB:=aM (abH qB HL.out hb);replace HK:=aM (aa6.trans qH (aaU hg g) (R_base2 aa.out));clear aa;clear ho hb hg hat))
  go_ret
  exact⟨_,qW,qR bW,qI HI0,qB,qH⟩
 replace H:=jE H;rcases H with ⟨df,dh,H⟩ | ⟨c16,df,dh,H⟩
 ·replace H:=jU H;obtain⟨c17,H⟩:=H
  have eu:=decide_eq_true c17
  have eB:decide (0 < ae.length)=true:=decide_eq_true (by omega)
  clear c17
  obtain⟨di,aJ⟩:=ky ((ae.set (0:Int).toNat (⟨4,0,0,0,(ae.length:Int)⟩:S27)):List S27)
  replace H:=kv aJ H
  obtain⟨rfl,rfl⟩:=oJ2 H
  go_enter func33,ntmps33
  go_wp2_with (first|((with_reducible refine jc 51 5 ?_);refine jM func51 (adl k g aj aA ae ai w0 _ (qI HI0) qB A2.out) ?_;rintro aG fF ⟨ho0,hi,hb,hk⟩;have aa:=aM (R_lower ho0 kU);replace HK:=kI hk;replace HB:=aM hb;replace HI0:=aM hi;clear hb hk hi;(try clear ho0))|((with_reducible refine jc 52 7 ?_);refine jK func52 (aab k g aj ai 36 aC aD w0 _ (qI HI0) qB A3.out) ?_;rintro bn ⟨hi,hb,hk⟩;replace aa:=aM (R_mono (R_keep (Sab.apart (show Sab w0 _ g aj ai from qI HI0) (qR aa) (by decide)) hk (fun _ h=>h.2)) (fun _ h=>h.1));replace HK:=kI hk;replace HB:=aM hb;replace HI0:=aM hi;clear hb hk hi;obtain⟨eT,dn,dM⟩:=R_slice aa.out;subst dM;have dN:0<=(0:Int):=(by omega);have dO:(0:Int) < ((ae.length:Int):Int):=qD;have eU:(0 < ae.length)=True:=eq_true (by omega);obtain⟨au,eX,dw,dx,dP,eY,dz⟩:=R_form aa.out (by omega);(first|cases dw|(injection dw with ea_ en_ ec_;(first|subst ea_|(injection ea_ with ea_;subst ea_));subst ec_;clear en_));have bz:=aM dx;have eZ:=aM dz;clear dx dP dz;obtain⟨fe,dA,dB,ax,ay⟩:=R_elem aa.out z27 (0:Int) dN dO;obtain rfl:=ae5 dB;have bA:bn.cell? ⟨au,(0:Int).toNat*5,none⟩=some (iV ((aa0 ae 0).f0)):=ax 0 _ rfl;have bB:bn.cell? ⟨au,(0:Int).toNat*5+1,none⟩=some (iV ((aa0 ae 0).f1)):=ax 1 _ rfl;have bC:bn.cell? ⟨au,(0:Int).toNat*5+2,none⟩=some (iV ((aa0 ae 0).f2)):=ax 2 _ rfl;have bD:bn.cell? ⟨au,(0:Int).toNat*5+3,none⟩=some (iV ((aa0 ae 0).f3)):=ax 3 _ rfl;have bE:bn.cell? ⟨au,(0:Int).toNat*5+4,none⟩=some (iV ((aa0 ae 0).f4)):=ax 4 _ rfl;have bF:bn.frozen? ⟨au,(0:Int).toNat*5,none⟩=false:=ay 0;have bG:bn.frozen? ⟨au,(0:Int).toNat*5+1,none⟩=false:=ay 1;have bH:bn.frozen? ⟨au,(0:Int).toNat*5+2,none⟩=false:=ay 2;have bI:bn.frozen? ⟨au,(0:Int).toNat*5+3,none⟩=false:=ay 3;have bJ:bn.frozen? ⟨au,(0:Int).toNat*5+4,none⟩=false:=ay 4;clear dA ax ay dB;(try rw [show ((0:Int)).toNat=0 from rfl] at bA);(try simp only [Nat.reduceMul,Nat.zero_mul,Nat.zero_add,Nat.reduceAdd] at bA);(try rw [show ((0:Int)).toNat=0 from rfl] at bF);(try simp only [Nat.reduceMul,Nat.zero_mul,Nat.zero_add,Nat.reduceAdd] at bF);(try rw [show ((0:Int)).toNat=0 from rfl] at bB);(try simp only [Nat.reduceMul,Nat.zero_mul,Nat.zero_add,Nat.reduceAdd] at bB);(try rw [show ((0:Int)).toNat=0 from rfl] at bG);(try simp only [Nat.reduceMul,Nat.zero_mul,Nat.zero_add,Nat.reduceAdd] at bG);(try rw [show ((0:Int)).toNat=0 from rfl] at bC);(try simp only [Nat.reduceMul,Nat.zero_mul,Nat.zero_add,Nat.reduceAdd] at bC);(try rw [show ((0:Int)).toNat=0 from rfl] at bH);(try simp only [Nat.reduceMul,Nat.zero_mul,Nat.zero_add,Nat.reduceAdd] at bH);(try rw [show ((0:Int)).toNat=0 from rfl] at bD);(try simp only [Nat.reduceMul,Nat.zero_mul,Nat.zero_add,Nat.reduceAdd] at bD);(try rw [show ((0:Int)).toNat=0 from rfl] at bI);(try simp only [Nat.reduceMul,Nat.zero_mul,Nat.zero_add,Nat.reduceAdd] at bI);(try rw [show ((0:Int)).toNat=0 from rfl] at bE);(try simp only [Nat.reduceMul,Nat.zero_mul,Nat.zero_add,Nat.reduceAdd] at bE);(try rw [show ((0:Int)).toNat=0 from rfl] at bJ);(try simp only [Nat.reduceMul,Nat.zero_mul,Nat.zero_add,Nat.reduceAdd] at bJ);replace dN:=eq_true dN;replace dO:=eq_true dO;have dC:=aM (show Kd.R k27 27 bn w.heap.size (fun _=>True) (.slice (some ⟨au,0,none⟩) ae.length dn) ae from (qR aa));obtain⟨fo,bU,dD,av,az⟩:=R_elem dC.out z27 (0:Int) (by omega) (by have h_:(0:Int) < ((ae.length:Int):Int):=qD;first|exact h_|(have e_:=(R_reads' aa.out).1;omega)|simpa using h_);obtain rfl:=ae5 dD;have bX:=R_seg dC.out (0:Int) (by omega) (by have h_:(0:Int) < ((ae.length:Int):Int):=qD;first|exact h_|(have e_:=(R_reads' aa.out).1;omega)|simpa using h_) (seg:=[iV 4,iV 0,iV 0,iV 0,iV (ae.length:Int)]) (j:=0) bU av (show 5<=5 from by decide) (x':=(⟨4,0,0,0,(ae.length:Int)⟩:S27)) (aaZ _ _ _ (⟨4,0,0,0,(ae.length:Int)⟩:S27) ) (fun _ hk=>hk);have aK:=av 0 _ rfl;(try simp only [show (k27).sz=5 from rfl,Nat.mul_one,Nat.add_zero] at aK);(try rw [show ((0:Int)).toNat=0 from rfl] at aK);(try simp only [Nat.reduceMul,Nat.zero_mul,Nat.zero_add,Nat.reduceAdd] at aK);have aN:=az 0;(try simp only [show (k27).sz=5 from rfl,Nat.mul_one,Nat.add_zero] at aN);(try rw [show ((0:Int)).toNat=0 from rfl] at aN);(try simp only [Nat.reduceMul,Nat.zero_mul,Nat.zero_add,Nat.reduceAdd] at aN);have aQ:=av 1 _ rfl;(try simp only [show (k27).sz=5 from rfl,Nat.mul_one,Nat.add_zero] at aQ);(try rw [show ((0:Int)).toNat=0 from rfl] at aQ);(try simp only [Nat.reduceMul,Nat.zero_mul,Nat.zero_add,Nat.reduceAdd] at aQ);have aR:=az 1;(try simp only [show (k27).sz=5 from rfl,Nat.mul_one,Nat.add_zero] at aR);(try rw [show ((0:Int)).toNat=0 from rfl] at aR);(try simp only [Nat.reduceMul,Nat.zero_mul,Nat.zero_add,Nat.reduceAdd] at aR);have aT:=av 2 _ rfl;(try simp only [show (k27).sz=5 from rfl,Nat.mul_one,Nat.add_zero] at aT);(try rw [show ((0:Int)).toNat=0 from rfl] at aT);(try simp only [Nat.reduceMul,Nat.zero_mul,Nat.zero_add,Nat.reduceAdd] at aT);have aU:=az 2;(try simp only [show (k27).sz=5 from rfl,Nat.mul_one,Nat.add_zero] at aU);(try rw [show ((0:Int)).toNat=0 from rfl] at aU);(try simp only [Nat.reduceMul,Nat.zero_mul,Nat.zero_add,Nat.reduceAdd] at aU);have aV:=av 3 _ rfl;(try simp only [show (k27).sz=5 from rfl,Nat.mul_one,Nat.add_zero] at aV);(try rw [show ((0:Int)).toNat=0 from rfl] at aV);(try simp only [Nat.reduceMul,Nat.zero_mul,Nat.zero_add,Nat.reduceAdd] at aV);have aW:=az 3;(try simp only [show (k27).sz=5 from rfl,Nat.mul_one,Nat.add_zero] at aW);(try rw [show ((0:Int)).toNat=0 from rfl] at aW);(try simp only [Nat.reduceMul,Nat.zero_mul,Nat.zero_add,Nat.reduceAdd] at aW);have aX:=av 4 _ rfl;(try simp only [show (k27).sz=5 from rfl,Nat.mul_one,Nat.add_zero] at aX);(try rw [show ((0:Int)).toNat=0 from rfl] at aX);(try simp only [Nat.reduceMul,Nat.zero_mul,Nat.zero_add,Nat.reduceAdd] at aX);have aY:=az 4;(try simp only [show (k27).sz=5 from rfl,Nat.mul_one,Nat.add_zero] at aY);(try rw [show ((0:Int)).toNat=0 from rfl] at aY);(try simp only [Nat.reduceMul,Nat.zero_mul,Nat.zero_add,Nat.reduceAdd] at aY);clear bU av az dD)|((with_reducible refine aaB (t:=27) (p:=25) rfl ?_);refine aat (t:=27) (p:=25) (v:=?dQ) (w1:=(((((bn.setCell ⟨au,0,none⟩ (iV 4)).setCell ⟨au,1,none⟩ (iV 0)).setCell ⟨au,2,none⟩ (iV 0)).setCell ⟨au,3,none⟩ (iV 0)).setCell ⟨au,4,none⟩ (iV (ae.length:Int)))) ?hg ?ho ?hn ?hr ?_;(case ho=>rfl);(case hg=>rfl);(case hn=>rfl);(case hr=>first|(go_simp;done)|(go_simp;rfl));intro dR hw;have hg:bn.grownBy dR (some au):=(by rw [hw];exact bX.2);have hp_:Kd.R k27 27 dR w.heap.size (fun _=>True) (.slice (some ⟨au,0,none⟩) ae.length dn) di:=(by rw [hw,aJ.out];exact bX.1);clear bX;replace HI0:=aM (Sab.grown (qI HI0) hg (ac9 HI0.out aa.out (by decide)));replace HB:=aM ((by rw [hw];exact aah (aah (aah (aah (aah (HB.out) (Nat.le_trans HL.out bz.out)) (Nat.le_trans HL.out bz.out)) (Nat.le_trans HL.out bz.out)) (Nat.le_trans HL.out bz.out)) (Nat.le_trans HL.out bz.out):Below w0.heap.size w0 dR));replace HK:=aM (aa6.trans qH (aaU hg g) (R_base2 aa.out));replace aa:=aM hp_;clear hg hw hp_))
  go_ret
  exact⟨_,qW,qR aa,qI HI0,qB,qH⟩
 replace H:=jE H;rcases H with ⟨dE,dF,H⟩ | ⟨c24,dE,dF,H⟩
 ·obtain⟨eD,aB⟩:=ky ([]:List S27)
  replace H:=kv aB H
  obtain⟨rfl,rfl⟩:=oJ2 H
  go_enter func33,ntmps33
  go_wp2_with (first|((with_reducible refine jc 51 5 ?_);refine jM func51 (adl k g aj aA ae ai w0 _ (qI HI0) qB A2.out) ?_;rintro aG fG ⟨ho0,hi,hb,hk⟩;have aa:=aM (R_lower ho0 kU);replace HK:=kI hk;replace HB:=aM hb;replace HI0:=aM hi;clear hb hk hi;(try clear ho0))|((with_reducible refine jc 52 7 ?_);refine jK func52 (aab k g aj ai 36 aC aD w0 _ (qI HI0) qB A3.out) ?_;rintro fH ⟨hi,hb,hk⟩;replace aa:=aM (R_mono (R_keep (Sab.apart (show Sab w0 _ g aj ai from qI HI0) (qR aa) (by decide)) hk (fun _ h=>h.2)) (fun _ h=>h.1));replace HK:=kI hk;replace HB:=aM hb;replace HI0:=aM hi;clear hb hk hi)|((with_reducible refine jd 28 ?_);refine jV k27 27 ([]:List S27) [] (aa9 _ _) ?_;intro eF fI bq hb;replace bq:=kr aB bq;have bY:=aM (R_lower (R_new' bq (R_lt (qR aa))) kU);replace aa:=kO aa bq hb;replace HI0:=aM (Sab.below (qI HI0) hb);replace HK:=kY hb;replace HB:=kH hb;clear hb bq))
  go_ret
  exact⟨_,qW,by (with_reducible repeat (first|apply R_alloc|apply R_drewN|apply R_drew));exact R_mono bY.out (fun _ hk=>trivial),qI HI0,qB,qH⟩
 obtain⟨rfl,rfl⟩:=oJ2 H
 go_enter func33,ntmps33
 go_wp2_with (first|((with_reducible refine jc 51 5 ?_);refine jM func51 (adl k g aj aA ae ai w0 _ (qI HI0) qB A2.out) ?_;rintro aG fJ ⟨ho0,hi,hb,hk⟩;have aa:=aM (R_lower ho0 kU);replace HK:=kI hk;replace HB:=aM hb;replace HI0:=aM hi;clear hb hk hi;(try clear ho0))|((with_reducible refine jc 52 7 ?_);refine jK func52 (aab k g aj ai 36 aC aD w0 _ (qI HI0) qB A3.out) ?_;rintro fK ⟨hi,hb,hk⟩;replace aa:=aM (R_mono (R_keep (Sab.apart (show Sab w0 _ g aj ai from qI HI0) (qR aa) (by decide)) hk (fun _ h=>h.2)) (fun _ h=>h.1));replace HK:=kI hk;replace HB:=aM hb;replace HI0:=aM hi;clear hb hk hi))
 go_ret
 exact⟨_,qW,qR aa,qI HI0,qB,qH⟩
end Go.Proofs.YtebpplallecogaaGreat.M
namespace Go.Proofs.YtebpplallecogaaGreat.M
open Go.Proofs.Tryz Go.RowKit Go.Proofs.YtebpplallecogaaGreatW.PrintWords Go.Proofs.YtebpplallecogaaGreatW.PrintLast Go.Proofs.YtebpplallecogaaGreatW.PrintMore
attribute [local go_sem] aao aam aaA aaz aag aaf aan aal
def al7 (l0:List Int):Option (List Int × Int):=if (l0.length:Int) > 2000 then (if 2000<=(l0.length:Int) then (some (l0.take 2000,0)) else (none)) else (some (l0,0))
theorem al8 (A0:Option Addr) (c0:Nat) (l0 r1:List Int) (r2:Int) (w0 w:World) (hB:Below w0.heap.size w0 w) (hr0:Kd.C (Kd.int .u8) w0 A0 l0.length l0) (hc0:l0.length<=c0) (h:al7 l0=some (r1,r2)) :
  Calls prog 34 #[.slice A0 l0.length c0] w fun e w'=>∃ g_:Nat,e = .returned (.pointer (some ⟨g_,0,none⟩))/\Sab w0 w' g_ r1 r2/\Below w0.heap.size w0 w'/\Below w.heap.size w w':=by
 have aG:=underlying71
 have aB:=aM hr0
 have aH:=aM hc0
 clear hr0 hc0
 have HBW:=jb_ w
 have HW0:=aM hB.size
 have HB:=aM hB
 clear hB
 have H:=h;unfold al7 at H
 clear h
 by_cases c2:(l0.length:Int) > 2000
 ·rw [if_pos c2] at H
  have ay:=decide_eq_true c2
  have az:decide (2000 < l0.length)=true:=decide_eq_true (by omega)
  clear c2
  replace H:=jJ H;obtain⟨aI,aJ,H⟩:=H
  obtain⟨rfl,rfl⟩:=oJ2 H
  obtain⟨i04,av,_,ax,_⟩:=info_parts aqi
  obtain⟨aC,aD,aF⟩:=ah4 (P:=prog) (Value.int .u8) 0 22 5 .i64 underlying22 av ax A0 c0 l0 2000 (by omega) (qD) aH.out
  have af:=aM (Kd.C_of_reads (h1:=fun _=>rfl) (aD _ (Kd.reads_of_C aB.out)))
  have aA:=aM aF
  clear aD aF av ax
  go_enter func34,ntmps34
  go_wp2_with (first|((with_reducible refine jd 10 ?_);refine aed ?hg (N:=10) ?hd (cs:=#[.slice A0 (l0.take 2000).length c0,iV 0]) (t:=71) ?hr ?_;(case hd=>rfl);(case hg=>rfl);(case hr=>first|(go_simp;done)|(go_simp;rfl));intro aa hg w5 hbox hb;have ag:=aM hbox;have ah:=aM ((by rw [hg];exact (aa4 (by repeat (first|(with_reducible first|exact HBW.out|apply aaC|apply aau|apply aae)|exact HBW.out))):w.heap.size<=aa));have ai:=aM ((Nat.le_trans HW0.out (by rw [hg];exact (aa4 (by repeat (first|(with_reducible first|exact HBW.out|apply aaC|apply aau|apply aae)|exact HBW.out))):w.heap.size<=aa):w0.heap.size<=aa));replace HBW:=aM (abU HBW.out hb);replace HB:=kH hb;clear hb hbox hg))
  go_ret
  exact⟨_,rfl,(show Sab w0 _ aa (l0.take 2000) 0 from ⟨_,_,qK ag,ai.out,af.out⟩),qB,by repeat (first|(with_reducible first|exact HBW.out|apply aaC|apply aau|apply aae|refine aah ?_ ah.out)|exact HBW.out)⟩
 rw [if_neg c2] at H
 have ay:=decide_eq_false c2
 have az:decide (2000 < l0.length)=false:=decide_eq_false (by omega)
 clear c2
 obtain⟨rfl,rfl⟩:=oJ2 H
 go_enter func34,ntmps34
 go_wp2_with (first|((with_reducible refine jd 10 ?_);refine jY _ 71 ?_;intro ae hg w6 aj hb;have ak:=aM ((by rw [hg];exact (aa4 (by repeat (first|(with_reducible first|exact HBW.out|apply aaC|apply aau|apply aae)|exact HBW.out))):w.heap.size<=ae));have au:=aM ((Nat.le_trans HW0.out (by rw [hg];exact (aa4 (by repeat (first|(with_reducible first|exact HBW.out|apply aaC|apply aau|apply aae)|exact HBW.out))):w.heap.size<=ae):w0.heap.size<=ae));replace HBW:=aM (abU HBW.out hb);replace HB:=kH hb;clear hb hg))
 go_ret
 exact⟨_,rfl,(show Sab w0 _ ae l0 0 from ⟨_,_,qK aj,au.out,aB.out⟩),qB,by repeat (first|(with_reducible first|exact HBW.out|apply aaC|apply aau|apply aae|refine aah ?_ ak.out)|exact HBW.out)⟩
def alO (k:Nat) (l0:List Int):Option ((List S27)):=(al7 l0).bind fun aa=>((alm k aa.1 aa.2).bind fun ak=>(some ak.1))
theorem alP (k:Nat) (A0:Option Addr) (c0:Nat) (l0:List Int) (r:List S27) (w:World) (hr0:Kd.C (Kd.int .u8) w A0 l0.length l0) (hc0:l0.length<=c0) (h:alO k l0=some r) :
  Calls prog 19 #[.slice A0 l0.length c0] w fun e w'=>∃ az:Value,e = .returned (az)/\Kd.R k27 27 w' w.heap.size (fun _=>True) az r/\Below w.heap.size w w':=by
 have aB:=aM hr0
 have aC:=aM hc0
 clear hr0 hc0
 have HB:=jb_ w
 have H:=h;unfold alO at H
 clear h
 obtain⟨⟨ah,ai⟩,A2,H⟩:=qE H
 try dsimp only at H
 obtain⟨⟨av,ax⟩,A3,H⟩:=qE H
 try dsimp only at H
 obtain rfl:=oJ H
 go_enter func19,ntmps19
 go_wp2_with (first|((with_reducible refine jc 34 4 ?_);refine jM func34 (al8 _ _ l0 ah ai w _ qB aB.out aC.out A2.out) ?_;rintro aj w4 ⟨hi,hb,hb2⟩;have ag:=aM hi;replace HB:=aM hb;(try clear hb);(try clear hb2);(try clear hi))|((with_reducible refine jc 33 5 ?_);refine jM func33 (aln k aj ah ai av ax w _ (qI ag) qB A3.out) ?_;rintro aA w5 ⟨ho0,hi,hb,hk⟩;have au:=kL ho0;replace HB:=aM hb;replace ag:=aM hi;(try clear hb);(try clear hk);(try clear hi);(try clear ho0)))
 go_ret
 exact⟨_,qW,qR au,qB⟩
def ajK (a0 a1:Int):Option (Bool):=if 0<=a1 then (some ((Go.bits .and .u16 (shr .u16 a0 a1) 1) == 1)) else (none)
theorem alW (a0 a1:Int) (r:Bool) (w:World) (h:ajK a0 a1=some r) :
  Calls prog 53 #[.int .u16 a0,iV a1] w fun e w'=>e = .returned (.bool r)/\aar w w':=by
 have H:=h;unfold ajK at H
 clear h
 replace H:=jJ H;obtain⟨ah,ai,H⟩:=H
 obtain⟨ae,aa⟩:∃ j_:Int,(shr .u16 a0 a1)=j_:=⟨_,rfl⟩
 replace H:(some ((Go.bits .and .u16 (ae) 1) == 1))=some r:=by first|(rw [aa] at H;exact H)|(simp only [aa] at H ⊢;exact H)
 have af:(a0 / 2 ^ min a1.toNat 16)=ae:=aa
 have ag:a1<=16->(a0 / 2 ^ a1.toNat)=ae:=ahs aa
 obtain rfl:=oJ H
 go_enter func53,ntmps53
 go_wp2
 go_ret
 exact⟨by first|rfl|(simp;done)|(simp only [<- aa] <;> (first|rfl|simp))|(simp [*];done),by repeat (first|exact aaH _|apply aar.step)⟩
def afa:Nat->Int->List Bool->Int->Int->Option (List Bool)
 | 0,_,_,_,_=>none
 | k+1,x0,x3,x7,x8=>if x8 < x7 then ((ajK x0 x8).bind fun ai=>(if 0<=x8 then (if x8 < (x3.length:Int) then (afa k x0 (x3.set (x8:Int).toNat ai) x7 (wrap64 (x8+1))) else (none)) else (none))) else (some x3)
def amd (k:Nat) (a0:Int):Option (List Bool):=if 12<=281474976710656 then ((some (List.replicate 12 false:List Bool)).bind fun af=>(afa k a0 af (af.length:Int) 0)) else (none)
theorem ame (k:Nat) (a0:Int) (r:List Bool) (w:World) (h:amd k a0=some r) :
  Calls prog 42 #[.int .u16 a0] w fun e w'=>∃ aR:Value,e = .returned (aR)/\Kd.R Kd.bool 4 w' w.heap.size (fun _=>True) aR r/\Below w.heap.size w w':=by
 have HB:=jb_ w
 have H:=h;unfold amd at H
 clear h
 replace H:=jJ H;obtain⟨aG,aH,H⟩:=H
 obtain⟨af,ah⟩:=ky ((List.replicate 12 false):List Bool)
 replace H:=kv ah H
 have H':=aM H
 clear H
 go_enter func42,ntmps42
 go_wp2_with (first|((with_reducible refine jd 5 ?_);refine Kd.R_make Kd.bool _ 4 rfl (N:=5) rfl 37 _ _ rfl 12 rfl rfl underlying37 (.bool false) 1 akB rfl (by decide) (by omega) false (ok:=fun _=>True) (okp:=fun _=>True) rfl (fun _ hk=>hk) trivial (by omega) (by omega) (Below.refl _ _) (Nat.le_refl _) ?_;intro aS w3 aA hb hg_ hnew_;clear hg_ hnew_;replace aA:=kr ah aA;have au:=kL aA;replace HB:=kH hb;clear hb aA;obtain⟨aT,aI,bg⟩:=Kd.R_slice au.out;subst bg))
 go_loopg [8] k (fun kq v8 w'=>∃ (aj:List Bool) (aa:Int),v8 = iV aa/\aa1 (afa kq a0 aj (af.length:Int) aa=some r)/\aa1 (kq<=k)/\aa1 (Kd.R Kd.bool 4 w' w.heap.size (fun _=>True) (.slice aT af.length aI) aj)/\aa1 (Below w.heap.size w w'))
 case atStart=>exact⟨(af),(0),qZ,H',⟨Nat.le_refl _⟩,⟨qR au⟩,⟨qB⟩⟩
 clear H'
 try clear aG;try clear aH
 obtain⟨aj,aa,rfl,HA,aU,ae,HB⟩:=hrel
 have ag:=(Kd.R_reads' ae.out).1
 rw [ag] at ae
 (try simp only [ag])
 rcases gk with _|k1
 ·exact absurd HA.out (by simp [afa])
 have H:=HA.out
 clear HA
 simp only [afa] at H
 by_cases c6:aa < (af.length:Int)
 ·rw [if_pos c6] at H
  have av:=decide_eq_true c6
  (try simp only [ag] at av)
  clear c6
  obtain⟨ai,A7,H⟩:=qE H
  try dsimp only at H
  replace H:=jI H;obtain⟨bi,H⟩:=H
  replace H:=jI H;obtain⟨bn,H⟩:=H
  obtain⟨aB,ak⟩:=ky ((aj.set (aa:Int).toNat ai):List Bool)
  replace H:=kv ak H
  have H':=aM H
  clear H
  go_wp2_with (first|((with_reducible refine jc 53 15 ?_);refine jG func53 #[.int .u16 a0,iV aa] ?_;refine (alW _ _ _ _ (aa1.out (by assumption))).mono ?_;rintro e w' ⟨rfl,⟨nd,rfl⟩⟩;refine⟨_,rfl,?_⟩;(try (rw [abq wr];generalize hq_:World.drewN wr _=wr;have aV:aa1 (Kd.R Kd.bool 4 wr w.heap.size (fun _=>True) (.slice aT aj.length aI) aj):=⟨by rw [<- hq_];exact (qR ae)⟩;have aW:aa1 (Below w.heap.size w wr):=⟨by rw [<- hq_];exact qB⟩;clear ae HB hq_;have ae:=aV;have HB:=aW;clear aV aW));have aJ:0<=(aa:Int):=qD;have aK:(aa:Int) < ((aj.length:Int):Int):=qD;obtain⟨ax,bq,aC,aD,aL,bu,aF⟩:=Kd.R_form ae.out (by omega);(first|cases aC|(injection aC with ea_ en_ ec_;(first|subst ea_|(injection ea_ with ea_;subst ea_));subst ec_;clear en_));have aN:=aM aD;have bv:=aM aF;clear aD aL aF;obtain⟨aO,aP⟩:=Kd.R_celln false ae.out (aa:Int) aJ aK;replace aJ:=eq_true aJ;replace aK:=eq_true aK;obtain⟨aX,aY⟩:=Kd.R_celln false ae.out (aa:Int) (qD) (qD);have ay:=Kd.R_putg ae.out (aa:Int) ai)|((with_reducible refine aaB (t:=4) (p:=16) rfl ?_);refine aat (t:=4) (p:=16) (v:=?aQ) (w1:=(wr.setCell ⟨ax,(aa:Int).toNat,none⟩ (.bool ai))) ?hg ?ho ?hn ?hr ?_;(case ho=>rfl);(case hg=>rfl);(case hn=>rfl);(case hr=>first|(go_simp;done)|(go_simp;rfl));intro az hw;have hg:wr.grownBy az (some ax):=(by rw [hw];exact ay.2);have hp_:Kd.R Kd.bool 4 az w.heap.size (fun _=>True) (.slice (some ⟨ax,0,none⟩) aj.length aI) aB:=(by rw [hw,ak.out];exact ay.1);clear ay;replace ae:=aM hp_;replace HB:=aM ((by rw [hw];exact aah (HB.out) aN.out:Below w.heap.size w az));clear hg hw hp_))
  (try simp only [<- ag])
  go_roundg k1
  case measure=>have:=aU.out;omega
  exact⟨_,_,qZ,H',⟨by have:=aU.out;omega⟩,⟨by (try simp only [ag]);(with_reducible repeat (first|apply Kd.R_alloc|apply Kd.R_drewN|apply Kd.R_drew));exact ae.out⟩,⟨qB⟩⟩
 rw [if_neg c6] at H
 have av:=decide_eq_false c6
 (try simp only [ag] at av)
 clear c6
 obtain rfl:=oJ H
 go_wp2
 go_ret
 exact⟨_,qW,qR ae,qB⟩
end Go.Proofs.YtebpplallecogaaGreat.M
namespace Go.Proofs.YtebpplallecogaaGreat.M
open Go.Proofs.Tryz Go.RowKit Go.Proofs.YtebpplallecogaaGreatW.PrintWords Go.Proofs.YtebpplallecogaaGreatW.PrintLast Go.Proofs.YtebpplallecogaaGreatW.PrintMore Kd
attribute [local go_sem] aao aam aaA aaz aag aaf aan aal
def afd:Nat->List (List Bool)->List Int->Int->Int->Option ((List (List Bool)))
 | 0,_,_,_,_=>none
 | k+1,x3,aN,aW,aD=>if aD < aW then (if 0<=aD then (if aD < (aN.length:Int) then ((amd k (rd aN aD)).bind fun af=>(if x3.length < 5864062014805 then (afd k (x3 ++ [af]) aN aW (wrap64 (aD+1))) else (none))) else (none)) else (none)) else (some x3)
def Sa2.f (k:Nat) (l0:List S27):Option ((List (List Bool))):=(Sa0.f k l0).bind fun aA=>(if aA=true then ((Sa6.f k l0).bind fun aa=>(afd k ([]:List (List Bool)) aa (aa.length:Int) 0)) else (some ([]:List (List Bool))))
theorem Sa2.calls (k:Nat) (A0:Option Addr) (c0:Nat) (l0:List S27) (r:List (List Bool)) (w:World) (hr0:Kd.C k27 w A0 l0.length l0) (hc0:l0.length<=c0) (h:Sa2.f k l0=some r) :
  Calls prog 20 #[.slice A0 l0.length c0] w fun e w'=>∃ aX:Value,e = .returned (aX)/\Kd.S (Kd.slice 4 Kd.bool) 37 w' w.heap.size (fun _=>True) aX r/\Below w.heap.size w w':=by
 have aQ:=aM hr0
 have aR:=aM hc0
 clear hr0 hc0
 have HB:=jb_ w
 have H:=h;unfold Sa2.f at H
 clear h
 obtain⟨aA,A2,H⟩:=qE H
 try dsimp only at H
 replace H:=jB H;rcases H with ⟨rfl,H⟩ | ⟨rfl,H⟩
 ·obtain⟨aa,A4,H⟩:=qE H
  try dsimp only at H
  have H':=aM H
  clear H
  go_enter func20,ntmps20
  go_wp2_with (first|((with_reducible refine jc 18 7 ?_);refine jK func18 (Sa0.calls k _ _ l0 true _ (kC aQ.out) aR.out A2.out) ?_;intro w5 hb;replace HB:=kH hb;clear hb)|((with_reducible refine jc 41 10 ?_);refine jM func41 (Sa6.calls k _ _ l0 aa _ (kb aQ HB) aR.out A4.out) ?_;rintro aY w6 ⟨ho0,hb⟩;have av:=kL ho0;replace HB:=kH hb;clear hb;(try clear ho0);obtain⟨bv,bz,bA⟩:=R_slice av.out;subst bA))
  go_loopg [3,12] k (fun kq v3 v12 w'=>∃ (ax:List (List Bool)) (ae:Int),v12 = iV ae/\aa1 (afd kq ax aa (aa.length:Int) ae=some r)/\aa1 (kq<=k)/\aa1 (Kd.S (Kd.slice 4 Kd.bool) 37 w' w.heap.size (fun _=>True) v3 ax)/\aa1 (Kd.R (Kd.int .u16) 60 w' w.heap.size (fun _=>True) (.slice bv aa.length bz) aa)/\aa1 (Below w.heap.size w w'))
  case atStart=>exact⟨(([]:List (List Bool))),(0),qZ,H',⟨Nat.le_refl _⟩,⟨by first|exact S_nil _ _ _ _ _|exact N_nil _ _ _ _ _|exact V_nil _ _ _ _ _|exact Q_nil _ _ _ _ _|exact R_nil _ _ _ _ _⟩,⟨qR av⟩,⟨qB⟩⟩
  clear H'
  obtain⟨ax,ae,rfl,HA,aZ,ak,ag,HB⟩:=hrel
  rcases gk with _|k1
  ·exact absurd HA.out (by simp [afd])
  have H:=HA.out
  clear HA
  simp only [afd] at H
  replace H:=jD H;rcases H with ⟨aT,H⟩ | ⟨aT,H⟩
  ·replace H:=jI H;obtain⟨bB,H⟩:=H
   replace H:=jI H;obtain⟨bg,H⟩:=H
   obtain⟨af,bF,H⟩:=qE H
   try dsimp only at H
   replace H:=jL H;obtain⟨aG,H⟩:=H
   obtain⟨bi,au⟩:=ky ((ax ++ [af]):List (List Bool))
   replace H:=kv au H
   have H':=aM H
   clear H
   have ay:0<=(ae:Int):=qD
   have az:ae < (aa.length:Int):=qD
   obtain⟨aU,aH,aI⟩:=Kd.at_int (R_reads' ag.out).2.2 ae ay az
   cases aH
   replace ay:=eq_true ay
   replace az:=eq_true az
   go_wp2_with (first|((with_reducible refine jc 42 18 ?_);refine jG func42 #[.int .u16 (rd aa ae)] ?_;refine (ame _ _ _ _ (aa1.out (by assumption))).mono ?_;rintro e bC ⟨bn,rfl,ho0,hb⟩;refine⟨_,rfl,?_⟩;have ah:=kL ho0;replace ak:=aM (S_elder' (qS ak) (R_base ho0) hb);replace ag:=kR ag hb;replace HB:=kH hb;clear hb;(try clear ho0);obtain⟨aJ,aK,aV⟩:=R_slice ah.out;subst aV)|((with_reducible refine aaa (b:=.append) (xs:=#[.tmp 16,.tmp 19]) rfl ?_);at_builtin;refine S_append (Kd.slice 4 Kd.bool) (w0:=w) w.heap.size rfl (.tmp 16) (.tmp 19) 33 37 (.slice none 0 0) 24 rfl underlying33 ani rfl (by decide) (by omega) u3 ax af [.slice aJ af.length aK] (fun _=>True) (fun k_=>some k_=(.slice aJ af.length aK:Value).ownBlock) rfl rfl ?aP (fun k_ hk_=>((R_mono (ok':=fun k_=>((fun _=>True)) k_/\some k_≠(u3:Value).ownBlock) (R_apart' (ah.out) (S_typed ak.out) (by decide)) (fun k_ hk=>⟨trivial,hk.2⟩))).1 k_ hk_.symm) ?aF ?aO ?aB ?aS ?aL ?_;(case aP=>exact M_row (R_mono (R_tight rfl (R_mono (ok':=fun k_=>((fun _=>True)) k_/\some k_≠(u3:Value).ownBlock) (R_apart' (ah.out) (S_typed ak.out) (by decide)) (fun k_ hk=>⟨trivial,hk.2⟩))) (fun _ h_=>h_)));(case aB=>exact qB);(case aF=>exact (fun _ _=>trivial));(case aO=>exact (by (with_reducible repeat (first|apply S_alloc|apply S_drewN|apply S_drew));exact S_mono ak.out (by first|exact fun k_ hk=>⟨trivial,fun e_=>hk.2 e_⟩|exact fun k_ hk=>hk)));(case aS=>exact (aa4 qB));(case aL=>have:=aG.out;omega);intro bq bD ho hb hg hat;rw [<- au.out] at ho;have aC:=aM ho;replace ag:=aM (R_over' (qR ag) (S_typed (qS ak)) (by decide) hg);replace HB:=aM hb;clear ak ah;clear ho hb hg hat))
   go_roundg k1
   case measure=>have:=aZ.out;omega
   exact⟨_,_,qZ,H',⟨by have:=aZ.out;omega⟩,⟨qS aC⟩,⟨qR ag⟩,⟨qB⟩⟩
  obtain rfl:=oJ H
  go_wp2
  go_ret
  exact⟨_,qW,qS ak,qB⟩
 obtain rfl:=oJ H
 go_enter func20,ntmps20
 go_wp2_with (first|((with_reducible refine jc 18 7 ?_);refine jK func18 (Sa0.calls k _ _ l0 false _ (kC aQ.out) aR.out A2.out) ?_;intro bE hb;replace HB:=kH hb;clear hb))
 go_ret
 exact⟨_,qW,by first|exact S_nil _ _ _ _ _|exact N_nil _ _ _ _ _|exact V_nil _ _ _ _ _|exact Q_nil _ _ _ _ _|exact R_nil _ _ _ _ _,qB⟩
end Go.Proofs.YtebpplallecogaaGreat.M
namespace Go.Proofs.YtebpplallecogaaGreat.M
open Go.Proofs.Tryz Go.RowKit Go.Proofs.YtebpplallecogaaGreatW.PrintWords Go.Proofs.YtebpplallecogaaGreatW.PrintLast Go.Proofs.YtebpplallecogaaGreatW.PrintMore
attribute [local go_sem] aao aam aaA aaz aag aaf aan aal
def aeY:Nat->List Bool->List Bool->Int->Option (Bool)
 | 0,_,_,_=>none
 | k+1,x0,x1,x5=>if x5 < (x0.length:Int) then (if 0<=x5 then (if x5 < (x1.length:Int) then (if ((aby false x0 x5) != (aby false x1 x5))=true then (some false) else (aeY k x0 x1 (wrap64 (x5+1)))) else (none)) else (none)) else (some true)
def SbI.f (k:Nat) (l0 l1:List Bool):Option (Bool):=if (l0.length:Int)=(l1.length:Int) then (aeY k l0 l1 0) else (some false)
theorem SbI.calls (k:Nat) (A0:Option Addr) (c0:Nat) (l0:List Bool) (A1:Option Addr) (c1:Nat) (l1:List Bool) (r:Bool) (w:World) (hr0:Kd.C Kd.bool w A0 l0.length l0) (hc0:l0.length<=c0) (hr1:Kd.C Kd.bool w A1 l1.length l1) (hc1:l1.length<=c1) (h:SbI.f k l0 l1=some r) :
  Calls prog 27 #[.slice A0 l0.length c0,.slice A1 l1.length c1] w fun e w'=>e = .returned (.bool r)/\aar w w':=by
 have aG:=aM hr0
 have aN:=aM hc0
 clear hr0 hc0
 have HR1:=aM hr1
 have aO:=aM hc1
 clear hr1 hc1
 have H:=h;unfold SbI.f at H
 clear h
 by_cases c3:(l0.length:Int)=(l1.length:Int)
 ·rw [if_pos c3] at H
  have ay:((l0.length:Int) == (l1.length:Int))=true:=beq_iff_eq.mpr c3
  have az:((l0.length:Int) != (l1.length:Int))=false:=bne_eq_false_iff_eq.mpr c3
  have aA:(l0.length == l1.length)=true:=by first|simpa using c3|(simp at c3 ⊢;omega)
  clear c3
  have H':=aM H
  clear H
  go_enter func27,ntmps27
  go_wp2
  repeat (go_quiet (fail);try go_wp2)
  go_loopg [5] k (fun kq v5 w'=>∃ (aa:Int),v5 = iV aa/\aa1 (aeY kq l0 l1 aa=some r)/\aa1 (kq<=k)/\aar w w')
  case atStart=>exact⟨(0),qZ,H',⟨Nat.le_refl _⟩,by repeat (first|exact aaH _|apply aar.step)⟩
  clear H'
  try clear c1;try clear c3;try clear ay;try clear az;try clear aA
  obtain⟨aa,rfl,HA,aH,⟨m1,rfl⟩⟩:=hrel
  rcases gk with _|k1
  ·exact absurd HA.out (by simp [aeY])
  have H:=HA.out
  clear HA
  simp only [aeY] at H
  replace H:=jD H;rcases H with ⟨aB,H⟩ | ⟨aB,H⟩
  ·replace H:=jI H;obtain⟨aJ,H⟩:=H
   replace H:=jI H;obtain⟨aK,H⟩:=H
   by_cases c7:((aby false l0 aa) != (aby false l1 aa))=true
   ·rw [if_pos c7] at H
    have aC:((aby false l0 aa) != (aby false l1 aa))=true:=c7
    (try (have aD:decide ((aby false l0 aa)=(aby false l1 aa))=false:=by simpa using c7))
    (try (have aF:((aby false l0 aa) == (aby false l1 aa))=false:=by simpa using c7))
    (try (have aL:¬ ((aby false l0 aa)=(aby false l1 aa)):=by simpa using c7))
    clear c7
    obtain rfl:=oJ H
    have ae:0<=(aa:Int):=qD
    have af:aa < (l0.length:Int):=qD
    obtain⟨av,ai,aj⟩:=Kd.at_bool aG.out aa ae af
    cases ai
    replace ae:=eq_true ae
    replace af:=eq_true af
    have ag:0<=(aa:Int):=qD
    have ah:aa < (l1.length:Int):=qD
    obtain⟨ax,ak,au⟩:=Kd.at_bool HR1.out aa ag ah
    cases ak
    replace ag:=eq_true ag
    replace ah:=eq_true ah
    go_wp2
    repeat (go_quiet (fail);try go_wp2)
    go_ret
    exact⟨qZ,qU⟩
   rw [if_neg c7] at H
   have aC:((aby false l0 aa) != (aby false l1 aa))=false:=by simpa using c7
   (try (have aD:decide ((aby false l0 aa)=(aby false l1 aa))=true:=by simpa using c7))
   (try (have aF:((aby false l0 aa) == (aby false l1 aa))=true:=by simpa using c7))
   clear c7
   have H':=aM H
   clear H
   have ae:0<=(aa:Int):=qD
   have af:aa < (l0.length:Int):=qD
   obtain⟨av,ai,aj⟩:=Kd.at_bool aG.out aa ae af
   cases ai
   replace ae:=eq_true ae
   replace af:=eq_true af
   have ag:0<=(aa:Int):=qD
   have ah:aa < (l1.length:Int):=qD
   obtain⟨ax,ak,au⟩:=Kd.at_bool HR1.out aa ag ah
   cases ak
   replace ag:=eq_true ag
   replace ah:=eq_true ah
   go_wp2
   repeat (go_quiet (fail);try go_wp2)
   go_roundg k1
   case measure=>have:=aH.out;omega
   exact⟨(wrap64 (aa+1)),qZ,H',⟨by have:=aH.out;omega⟩,by repeat (first|exact aaH _|apply aar.step)⟩
  obtain rfl:=oJ H
  go_wp2
  repeat (go_quiet (fail);try go_wp2)
  go_ret
  exact⟨qZ,qU⟩
 rw [if_neg c3] at H
 have ay:((l0.length:Int) == (l1.length:Int))=false:=beq_eq_false_iff_ne.mpr c3
 have az:((l0.length:Int) != (l1.length:Int))=true:=bne_iff_ne.mpr c3
 have aA:(l0.length == l1.length)=false:=by first|simpa using c3|(simp at c3 ⊢;omega)
 obtain rfl:=oJ H
 go_enter func27,ntmps27
 go_wp2
 repeat (go_quiet (fail);try go_wp2)
 go_ret
 exact⟨qZ,qU⟩
def aeX:Nat->List (List Bool)->List (List Bool)->Int->Option (Bool)
 | 0,_,_,_=>none
 | k+1,x0,x1,x5=>if x5 < (x0.length:Int) then (if 0<=x5 then (if x5 < (x1.length:Int) then ((SbI.f k (aaQ x0 x5) (aaQ x1 x5)).bind fun aO=>(if aO=true then (aeX k x0 x1 (wrap64 (x5+1))) else (some false))) else (none)) else (none)) else (some true)
def SbJ.f (k:Nat) (l0:List (List Bool)) (l1:List (List Bool)):Option (Bool):=if (l0.length:Int)=(l1.length:Int) then (aeX k l0 l1 0) else (some false)
theorem SbJ.calls (k:Nat) (A0:Option Addr) (c0:Nat) (l0:List (List Bool)) (A1:Option Addr) (c1:Nat) (l1:List (List Bool)) (r:Bool) (w:World) (hr0:Kd.C (Kd.slice 4 Kd.bool) w A0 l0.length l0) (hc0:l0.length<=c0) (hr1:Kd.C (Kd.slice 4 Kd.bool) w A1 l1.length l1) (hc1:l1.length<=c1) (h:SbJ.f k l0 l1=some r) :
  Calls prog 22 #[.slice A0 l0.length c0,.slice A1 l1.length c1] w fun e w'=>e = .returned (.bool r)/\aar w w':=by
 have aV:=aM hr0
 have bg:=aM hc0
 clear hr0 hc0
 have HR1:=aM hr1
 have bi:=aM hc1
 clear hr1 hc1
 have H:=h;unfold SbJ.f at H
 clear h
 by_cases c3:(l0.length:Int)=(l1.length:Int)
 ·rw [if_pos c3] at H
  have aR:((l0.length:Int) == (l1.length:Int))=true:=beq_iff_eq.mpr c3
  have aS:((l0.length:Int) != (l1.length:Int))=false:=bne_eq_false_iff_eq.mpr c3
  have aT:(l0.length == l1.length)=true:=by first|simpa using c3|(simp at c3 ⊢;omega)
  clear c3
  have H':=aM H
  clear H
  go_enter func22,ntmps22
  go_wp2
  repeat (go_quiet (fail);try go_wp2)
  go_loopg [5] k (fun kq v5 w'=>∃ (aa:Int),v5 = iV aa/\aa1 (aeX kq l0 l1 aa=some r)/\aa1 (kq<=k)/\aar w w')
  case atStart=>exact⟨(0),qZ,H',⟨Nat.le_refl _⟩,by repeat (first|exact aaH _|apply aar.step)⟩
  clear H'
  try clear c1;try clear c3;try clear aR;try clear aS;try clear aT
  obtain⟨aa,rfl,HA,aW,⟨m1,rfl⟩⟩:=hrel
  rcases gk with _|k1
  ·exact absurd HA.out (by simp [aeX])
  have H:=HA.out
  clear HA
  simp only [aeX] at H
  replace H:=jD H;rcases H with ⟨aU,H⟩ | ⟨aU,H⟩
  ·replace H:=jI H;obtain⟨aY,H⟩:=H
   replace H:=jI H;obtain⟨aZ,H⟩:=H
   obtain⟨aO,A7,H⟩:=qE H
   try dsimp only at H
   replace H:=jB H;rcases H with ⟨rfl,H⟩ | ⟨rfl,H⟩
   ·have H':=aM H
    clear H
    have aA:0<=(aa:Int):=qD
    have aB:aa < (l0.length:Int):=qD
    obtain⟨aP,aJ,aK,aF,aG,ai,aj⟩:=aee aV.out aa aA aB
    cases aF
    have ae:=aM aj
    have af:=aM ai
    clear aj ai
    replace aA:=eq_true aA
    replace aB:=eq_true aB
    have aC:0<=(aa:Int):=qD
    have aD:aa < (l1.length:Int):=qD
    obtain⟨aQ,aL,aN,aH,aI,ak,au⟩:=aee HR1.out aa aC aD
    cases aH
    have ag:=aM au
    have ah:=aM ak
    clear au ak
    replace aC:=eq_true aC
    replace aD:=eq_true aD
    go_wp2_with (first|(go_at_call 27;(with_reducible refine (SbI.calls k1 _ _ (aaQ l0 aa) _ _ (aaQ l1 aa) true _ ?av ?ax ?ay ?az A7.out).mono ?_);(case av=>exact kC ae.out);(case ax=>exact af.out);(case ay=>exact kC ag.out);(case az=>exact ah.out);rintro e w' ⟨rfl,⟨nd,rfl⟩⟩;(try first|exact⟨rfl,_,World.drewN_drewN _ _ _⟩|exact⟨rfl,_,Eq.trans (World.drewN_drewN _ _ _) (congrArg (World.drewN _) (Nat.add_assoc _ _ _))⟩)))
    repeat (go_quiet (first|(go_at_call 27;(with_reducible refine (SbI.calls k1 _ _ (aaQ l0 aa) _ _ (aaQ l1 aa) true _ ?av ?ax ?ay ?az A7.out).mono ?_);(case av=>exact kC ae.out);(case ax=>exact af.out);(case ay=>exact kC ag.out);(case az=>exact ah.out);rintro e w' ⟨rfl,⟨nd,rfl⟩⟩;(try first|exact⟨rfl,_,World.drewN_drewN _ _ _⟩|exact⟨rfl,_,Eq.trans (World.drewN_drewN _ _ _) (congrArg (World.drewN _) (Nat.add_assoc _ _ _))⟩)));try go_wp2_with (first|(go_at_call 27;(with_reducible refine (SbI.calls k1 _ _ (aaQ l0 aa) _ _ (aaQ l1 aa) true _ ?av ?ax ?ay ?az A7.out).mono ?_);(case av=>exact kC ae.out);(case ax=>exact af.out);(case ay=>exact kC ag.out);(case az=>exact ah.out);rintro e w' ⟨rfl,⟨nd,rfl⟩⟩;(try first|exact⟨rfl,_,World.drewN_drewN _ _ _⟩|exact⟨rfl,_,Eq.trans (World.drewN_drewN _ _ _) (congrArg (World.drewN _) (Nat.add_assoc _ _ _))⟩))))
    go_roundg k1
    case measure=>have:=aW.out;omega
    exact⟨_,qZ,H',⟨by have:=aW.out;omega⟩,by repeat (first|exact aaH _|apply aar.step)⟩
   obtain rfl:=oJ H
   have aA:0<=(aa:Int):=qD
   have aB:aa < (l0.length:Int):=qD
   obtain⟨aP,aJ,aK,aF,aG,ai,aj⟩:=aee aV.out aa aA aB
   cases aF
   have ae:=aM aj
   have af:=aM ai
   clear aj ai
   replace aA:=eq_true aA
   replace aB:=eq_true aB
   have aC:0<=(aa:Int):=qD
   have aD:aa < (l1.length:Int):=qD
   obtain⟨aQ,aL,aN,aH,aI,ak,au⟩:=aee HR1.out aa aC aD
   cases aH
   have ag:=aM au
   have ah:=aM ak
   clear au ak
   replace aC:=eq_true aC
   replace aD:=eq_true aD
   go_wp2_with (first|(go_at_call 27;(with_reducible refine (SbI.calls k1 _ _ (aaQ l0 aa) _ _ (aaQ l1 aa) false _ ?av ?ax ?ay ?az A7.out).mono ?_);(case av=>exact kC ae.out);(case ax=>exact af.out);(case ay=>exact kC ag.out);(case az=>exact ah.out);rintro e w' ⟨rfl,⟨nd,rfl⟩⟩;(try first|exact⟨rfl,_,World.drewN_drewN _ _ _⟩|exact⟨rfl,_,Eq.trans (World.drewN_drewN _ _ _) (congrArg (World.drewN _) (Nat.add_assoc _ _ _))⟩)))
   repeat (go_quiet (first|(go_at_call 27;(with_reducible refine (SbI.calls k1 _ _ (aaQ l0 aa) _ _ (aaQ l1 aa) false _ ?av ?ax ?ay ?az A7.out).mono ?_);(case av=>exact kC ae.out);(case ax=>exact af.out);(case ay=>exact kC ag.out);(case az=>exact ah.out);rintro e w' ⟨rfl,⟨nd,rfl⟩⟩;(try first|exact⟨rfl,_,World.drewN_drewN _ _ _⟩|exact⟨rfl,_,Eq.trans (World.drewN_drewN _ _ _) (congrArg (World.drewN _) (Nat.add_assoc _ _ _))⟩)));try go_wp2_with (first|(go_at_call 27;(with_reducible refine (SbI.calls k1 _ _ (aaQ l0 aa) _ _ (aaQ l1 aa) false _ ?av ?ax ?ay ?az A7.out).mono ?_);(case av=>exact kC ae.out);(case ax=>exact af.out);(case ay=>exact kC ag.out);(case az=>exact ah.out);rintro e w' ⟨rfl,⟨nd,rfl⟩⟩;(try first|exact⟨rfl,_,World.drewN_drewN _ _ _⟩|exact⟨rfl,_,Eq.trans (World.drewN_drewN _ _ _) (congrArg (World.drewN _) (Nat.add_assoc _ _ _))⟩))))
   go_ret
   exact⟨qZ,qU⟩
  obtain rfl:=oJ H
  go_wp2
  repeat (go_quiet (fail);try go_wp2)
  go_ret
  exact⟨qZ,qU⟩
 rw [if_neg c3] at H
 have aR:((l0.length:Int) == (l1.length:Int))=false:=beq_eq_false_iff_ne.mpr c3
 have aS:((l0.length:Int) != (l1.length:Int))=true:=bne_iff_ne.mpr c3
 have aT:(l0.length == l1.length)=false:=by first|simpa using c3|(simp at c3 ⊢;omega)
 obtain rfl:=oJ H
 go_enter func22,ntmps22
 go_wp2
 repeat (go_quiet (fail);try go_wp2)
 go_ret
 exact⟨qZ,qU⟩
def adE:Nat->List Bool->Int->Option (Bool)
 | 0,_,_=>none
 | k+1,x0,x3=>if x3 < (x0.length:Int) then (if 0<=x3 then (if aby false x0 x3=true then (some true) else (adE k x0 (wrap64 (x3+1)))) else (none)) else (some false)
def SbH.f (k:Nat) (l0:List Bool):Option (Bool):=adE k l0 0
theorem SbH.calls (k:Nat) (A0:Option Addr) (c0:Nat) (l0:List Bool) (r:Bool) (w:World) (hr0:Kd.C Kd.bool w A0 l0.length l0) (hc0:l0.length<=c0) (h:SbH.f k l0=some r) :
  Calls prog 23 #[.slice A0 l0.length c0] w fun e w'=>e = .returned (.bool r)/\aar w w':=by
 have av:=aM hr0
 have aB:=aM hc0
 clear hr0 hc0
 have H:(adE k l0 0)=some r:=h
 clear h
 have H':=aM H
 clear H
 go_enter func23,ntmps23
 go_wp2
 go_loopg [3] k (fun kq v3 w'=>∃ (aa:Int),v3 = iV aa/\aa1 (adE kq l0 aa=some r)/\aa1 (kq<=k)/\aar w w')
 case atStart=>exact⟨(0),qZ,H',⟨Nat.le_refl _⟩,by repeat (first|exact aaH _|apply aar.step)⟩
 clear H'
 obtain⟨aa,rfl,HA,ax,⟨m1,rfl⟩⟩:=hrel
 rcases gk with _|k1
 ·exact absurd HA.out (by simp [adE])
 have H:=HA.out
 clear HA
 simp only [adE] at H
 replace H:=jD H;rcases H with ⟨au,H⟩ | ⟨au,H⟩
 ·replace H:=jI H;obtain⟨az,H⟩:=H
  obtain⟨aA,ai⟩:∃ b_:Bool,b_=(aby false l0 aa):=⟨_,rfl⟩
  replace H:(if aA=true then (some true) else (adE k1 l0 (wrap64 (aa+1))))=some r:=by rw [<- ai] at H;exact H
  have ak:=aM ai;clear ai
  replace H:=jB H;rcases H with ⟨rfl,H⟩ | ⟨rfl,H⟩
  ·obtain rfl:=oJ H
   have ae:0<=(aa:Int):=qD
   have af:aa < (l0.length:Int):=qD
   obtain⟨aj,ah,ag⟩:=Kd.at_bool av.out aa ae af
   (try rw [<- ak.out] at ag)
   cases ah
   replace ae:=eq_true ae
   replace af:=eq_true af
   go_wp2
   go_ret
   exact⟨qZ,qU⟩
  have H':=aM H
  clear H
  have ae:0<=(aa:Int):=qD
  have af:aa < (l0.length:Int):=qD
  obtain⟨aj,ah,ag⟩:=Kd.at_bool av.out aa ae af
  (try rw [<- ak.out] at ag)
  cases ah
  replace ae:=eq_true ae
  replace af:=eq_true af
  go_wp2
  go_roundg k1
  case measure=>have:=ax.out;omega
  exact⟨(wrap64 (aa+1)),qZ,H',⟨by have:=ax.out;omega⟩,by repeat (first|exact aaH _|apply aar.step)⟩
 obtain rfl:=oJ H
 go_wp2
 go_ret
 exact⟨qZ,qU⟩
end Go.Proofs.YtebpplallecogaaGreat.M
namespace Go.Proofs.YtebpplallecogaaGreat.M
open Go.Proofs.Tryz Go.RowKit Go.Proofs.YtebpplallecogaaGreatW.PrintWords Go.Proofs.YtebpplallecogaaGreatW.PrintLast Go.Proofs.YtebpplallecogaaGreatW.PrintMore Kd
attribute [local go_sem] aao aam aaA aaz aag aaf aan aal
mutual
def afU:Nat->List S27->List (List Bool)->List (List Bool)->Bool->Option (Bool)
 | 0,_,_,_,_=>none
 | k+1,x3,x4,x5,x24=>if x24=true then ((SbJ.f k x4 x5).bind fun eF=>(some eF)) else (acG k x3 x4 0)
def acG:Nat->List S27->List (List Bool)->Int->Option (Bool)
 | 0,_,_,_=>none
 | k+1,x3,x4,x6=>if x6 < (x3.length:Int) then (if 0<=x6 then (if ((aa0 x3 x6).f0)=10 then (if x6 < (x4.length:Int) then ((SbH.f k (aaQ x4 x6)).bind fun fF=>(if fF=true then (some false) else (if ((aa0 x3 x6).f0)=9 then (if 0<=((aa0 x3 x6).f2) then (if ((aa0 x3 x6).f2) < ((aaQ x4 x6).length:Int) then (if (aby false (aaQ x4 x6) ((aa0 x3 x6).f2)=true) then (acG k x3 x4 (wrap64 (x6+1))) else (some false)) else (none)) else (none)) else (acG k x3 x4 (wrap64 (x6+1)))))) else (none)) else (if ((aa0 x3 x6).f0)=9 then (if x6 < (x4.length:Int) then (if 0<=((aa0 x3 x6).f2) then (if ((aa0 x3 x6).f2) < ((aaQ x4 x6).length:Int) then (if (aby false (aaQ x4 x6) ((aa0 x3 x6).f2)=true) then (acG k x3 x4 (wrap64 (x6+1))) else (some false)) else (none)) else (none)) else (none)) else (acG k x3 x4 (wrap64 (x6+1))))) else (none)) else (some true)
end
def SbG.f (k:Nat) (l0:List Int):Option (Bool):=if (l0.length:Int) > 1048576 then (some true) else ((alO k l0).bind fun af=>((Sa2.f k af).bind fun ag=>((Saq.f k af).bind fun bF=>((SbJ.f k ag bF).bind fun fG=>(if fG=true then (afU k af ag bF ((ag.length:Int) == 0)) else (afU k af ag bF true))))))
def alh:Bool × List (List Nat × List Nat):=(true,[([],[]),([],[]),([0,1],[0,1]),([2],[2]),([3],[3]),([4],[4]),([5],[5]),([6],[6]),([6],[6]),([7,8,6],[6,7,8]),([9,6],[6,9]),([10,6,6],[6,10]),([6,11],[6,11]),([12,11],[12]),([13],[13]),([13],[13]),([14,15,13],[13,14,15]),([16,13],[13,16]),([17,13],[13,17]),([18,13],[13,18]),([19,13,13],[13,19]),([20],[20]),([20],[20]),([21,22,20],[20,21,22]),([23,20],[20,23]),([20],[20]),([20],[20]),([25,26,20],[20,25,26]),([27,20],[20,27]),([28,20],[20,28]),([24,29,20],[20,24,29]),([30,20],[20,30]),([31,20],[20,31]),([20,32,13],[13,20,32]),([13,33],[13,33])])
def aoy:List Nat:=[0,0,3,7,15,31,63,127,127,511,1023,2047,4095,8191,16383,16383,65535,131071,262143,524287,1048575,2097151,2097151,8388607,16777215,2097151,2097151,102760447,236978175,505413631,1073741823,2147483647,4294967295,8589934591,17179869183]
theorem aci:acK .any (opsOf f5 11)=alh:=by kernel_rfl
theorem abV:abg alh.2 aoy=true:=by kernel_rfl
theorem SbG.calls (k:Nat) (A0:Option Addr) (c0:Nat) (l0:List Int) (r:Bool) (w:World) (hr0:Kd.C (Kd.int .u8) w A0 l0.length l0) (hc0:l0.length<=c0) (h:SbG.f k l0=some r) :
  Calls prog 5 #[.slice A0 l0.length c0] w fun e w'=>e = .returned (.bool r)/\Below w.heap.size w w':=by
 have iM:=aM hr0
 have iN:=aM hc0
 clear hr0 hc0
 have HB:=jb_ w
 have H:=h;unfold SbG.f at H
 clear h
 by_cases c2:(l0.length:Int) > 1048576
 ·rw [if_pos c2] at H
  have fO:=decide_eq_true c2
  have fP:decide (1048576 < l0.length)=true:=decide_eq_true (by omega)
  clear c2
  obtain rfl:=oJ H
  go_enter func5,ntmps5
  go_wp2
  go_ret
  exact⟨qW,qB⟩
 rw [if_neg c2] at H
 have fO:=decide_eq_false c2
 have fP:decide (1048576 < l0.length)=false:=decide_eq_false (by omega)
 clear c2
 obtain⟨af,A3,H⟩:=qE H
 try dsimp only at H
 obtain⟨ag,A4,H⟩:=qE H
 try dsimp only at H
 obtain⟨bF,A5,H⟩:=qE H
 try dsimp only at H
 have gL:=aM H
 clear H
 go_enter func5,ntmps5
 go_upto_region 6 with (first|((with_reducible refine jc 19 11 ?_);refine jM func19 (alP k _ _ l0 af _ (kC iM.out) iN.out A3.out) ?_;rintro iC w7 ⟨ho0,hb⟩;have bn:=kL ho0;replace HB:=kH hb;clear hb;(try clear ho0);obtain⟨gI,gJ,iO⟩:=R_slice bn.out;subst iO)|((with_reducible refine jc 20 13 ?_);refine jM func20 (Sa2.calls k _ _ af ag _ (kJ bn) (kp bn) A4.out) ?_;rintro eG w9 ⟨ho0,hb⟩;have bq:=aM (S_lower ho0 (aa4 qB));replace bn:=kR bn hb;replace HB:=kH hb;clear hb;(try clear ho0))|((with_reducible refine jc 21 15 ?_);refine jM func21 (Saq.calls k _ _ af bF _ (kJ bn) (kp bn) A5.out) ?_;rintro fH jh ⟨ho0,hb⟩;have bJ:=aM (S_lower (S_new' ho0 (S_lt (qS bq))) (aa4 qB));replace bn:=kR bn hb;replace bq:=aM (S_elder' (qS bq) (by first|exact S_base ho0|exact R_base ho0) hb);replace HB:=kH hb;clear hb;(try clear ho0)))
 (try simp only [Act.put,List.setIfInBounds_toArray,List.set_cons_zero,List.set_cons_succ])
 go_cut [24] (fun v24 wc=>∃ (kq:Nat) (eH:Bool),v24 = .bool eH/\aa1 (afU kq af ag bF eH=some r)/\aa1 (kq<=k)/\aa1 (Kd.R k27 27 wc w.heap.size (fun _=>True) (.slice gI af.length gJ) af)/\aa1 (Kd.S (Kd.slice 4 Kd.bool) 37 wc w.heap.size (fun k_=>some k_≠(fH:Value).ownBlock) eG ag)/\aa1 (Kd.S (Kd.slice 4 Kd.bool) 37 wc w.heap.size (fun k_=>some k_≠(eG:Value).ownBlock) fH bF)/\aa1 (Below w.heap.size w wc))
 case first =>
  have H:=gL.out
  clear gL
  obtain⟨fG,iD,H⟩:=qE H
  try dsimp only at H
  replace H:=jB H;rcases H with ⟨rfl,H⟩ | ⟨rfl,H⟩
  ·have H':=aM H
   clear H
   obtain⟨gM,gN,gP⟩:=S_slice bq.out
   subst gP
   obtain⟨gQ,gT,gU⟩:=S_slice bJ.out
   subst gU
   go_wp2_with (first|((with_reducible refine jc 22 18 ?_);refine jK func22 (SbJ.calls k _ _ ag _ _ bF true _ (kC (S_reads' bq.out).2.2) (S_reads' bq.out).2.1 (kC (S_reads' bJ.out).2.2) (S_reads' bJ.out).2.1 iD.out) ?_;rintro w' ⟨nd,rfl⟩))
   go_meet
   exact⟨_,_,qZ,H',⟨by first|omega|exact Nat.le_refl _⟩,⟨qR bn⟩,⟨by (with_reducible repeat (first|apply S_alloc|apply S_drewN|apply S_drew));exact S_mono bq.out (fun _ hk=>hk.2)⟩,⟨by (with_reducible repeat (first|apply S_alloc|apply S_drewN|apply S_drew));exact S_mono bJ.out (fun _ hk=>hk.2)⟩,⟨qB⟩⟩
  have H':=aM H
  clear H
  obtain⟨gV,gW,gX⟩:=S_slice bq.out
  subst gX
  obtain⟨gY,gZ,ib⟩:=S_slice bJ.out
  subst ib
  go_wp2_with (first|((with_reducible refine jc 22 18 ?_);refine jK func22 (SbJ.calls k _ _ ag _ _ bF false _ (kC (S_reads' bq.out).2.2) (S_reads' bq.out).2.1 (kC (S_reads' bJ.out).2.2) (S_reads' bJ.out).2.1 iD.out) ?_;rintro w' ⟨nd,rfl⟩))
  go_meet
  exact⟨_,_,qZ,H',⟨by first|omega|exact Nat.le_refl _⟩,⟨qR bn⟩,⟨by (with_reducible repeat (first|apply S_alloc|apply S_drewN|apply S_drew));exact S_mono bq.out (fun _ hk=>hk.2)⟩,⟨by (with_reducible repeat (first|apply S_alloc|apply S_drewN|apply S_drew));exact S_mono bJ.out (fun _ hk=>hk.2)⟩,⟨qB⟩⟩
 clear gL
 try clear c2;try clear fO;try clear fP
 obtain⟨kq,eH,rfl,HA,fI,aA,ax,fQ,HB⟩:=hcut
 cases kq with
 | zero=>exact absurd HA.out (by simp [afU])
 | succ ic =>
  have H:=HA.out
  clear HA
  simp only [afU] at H
  replace H:=jB H;rcases H with ⟨rfl,H⟩ | ⟨rfl,H⟩
  ·obtain⟨eF,iP,H⟩:=qE H
   try dsimp only at H
   obtain rfl:=oJ H
   obtain⟨ig,ik,il⟩:=S_slice ax.out
   subst il
   obtain⟨iq,iw,iy⟩:=S_slice fQ.out
   subst iy
   go_wp2_with (first|((with_reducible refine jc 22 27 ?_);refine jK func22 (SbJ.calls ic _ _ ag _ _ bF eF _ (kC (S_reads' ax.out).2.2) (S_reads' ax.out).2.1 (kC (S_reads' fQ.out).2.2) (S_reads' fQ.out).2.1 iP.out) ?_;rintro w' ⟨nd,rfl⟩))
   go_ret
   exact⟨qW,qB⟩
  have H':=aM H
  clear H
  go_wp2
  go_loopg [6] ic (fun kq v6 w'=>∃ (aa:Int),v6 = iV aa/\aa1 (acG kq af ag aa=some r)/\aa1 (kq<=ic)/\aa1 (Kd.R k27 27 w' w.heap.size (fun _=>True) (.slice gI af.length gJ) af)/\aa1 (Kd.S (Kd.slice 4 Kd.bool) 37 w' w.heap.size (fun _=>True) eG ag)/\aa1 (Below w.heap.size w w'))
  case atStart=>exact⟨(0),qZ,H',⟨Nat.le_refl _⟩,⟨qR aA⟩,⟨by (with_reducible repeat (first|apply S_alloc|apply S_drewN|apply S_drew));exact S_mono ax.out (fun _ hk=>trivial)⟩,⟨qB⟩⟩
  clear H'
  try clear c2;try clear fO;try clear fP
  obtain⟨aa,rfl,HA,fJ,aA,ax,HB⟩:=hrel
  rcases gk with _|k2
  ·exact absurd HA.out (by simp [acG])
  have H:=HA.out
  clear HA
  simp only [acG] at H
  replace H:=jD H;rcases H with ⟨fV,H⟩ | ⟨fV,H⟩
  ·replace H:=jI H;obtain⟨iE,H⟩:=H
   replace H:=jE H;rcases H with ⟨fZ,gm,H⟩ | ⟨c23,fZ,gm,H⟩
   ·replace H:=jI H;obtain⟨iF,H⟩:=H
    obtain⟨fF,gK,H⟩:=qE H
    try dsimp only at H
    replace H:=jB H;rcases H with ⟨rfl,H⟩ | ⟨rfl,H⟩
    ·obtain rfl:=oJ H
     try go_wp2
     replace aA:=aM (R_drew aA.out)
     replace ax:=aM (S_drew ax.out)
     replace HB:=aM (aae HB.out)
     have aB:0<=(aa:Int):=qD
     have aC:aa < (af.length:Int):=qD
     obtain⟨ae,bG,ai,aj,ak,au,av⟩:=aaL (R_reads' aA.out).2.2 aa aB aC
     cases bG
     replace aB:=eq_true aB
     replace aC:=eq_true aC
     obtain⟨iQ,iR,gp⟩:=S_slice ax.out
     (first|subst gp|(injection gp with dW eO dX;have eP:=dW.symm;have eQ:=dX.symm;clear dW eO dX;subst eP;subst eQ))
     have aO:0<=(aa:Int):=qD
     have aP:aa < (ag.length:Int):=qD
     obtain⟨bu,aJ,aK,dz,ay,aD,aF⟩:=aee (S_reads' ax.out).2.2 aa aO aP
     cases dz
     obtain⟨d9,bH,bI,aQ⟩:=S_get ax.out [] aa aO (by first|exact aP|exact qD|(have e_:=(S_reads' ax.out).1;omega))
     obtain⟨dA,rfl,az⟩:=bI
     have ah:=aQ 0 _ rfl
     rw [Nat.add_zero,show ((Kd.slice 4 Kd.bool)).sz=1 from rfl,Nat.mul_one] at ah
     replace ah:=Option.some.inj (ah.symm.trans ay)
     rw [ah] at az
     have bv:=aM (show Kd.R Kd.bool 4 _ _ _ _ (aaQ ag aa) from az)
     clear ah az
     clear aQ bH
     have aG:=aM aF
     have bz:=aM aD
     clear aF aD
     replace aO:=eq_true aO
     replace aP:=eq_true aP
     refine abr (n:=35) (S:=fun w'=>w'.cell? (ae.add ((aa).toNat*5))=some (iV ((aa0 af aa).f0))/\w'.cell? ⟨(ae.add ((aa).toNat*5)).block,(ae.add ((aa).toNat*5)).off+1,none⟩=some (iV ((aa0 af aa).f1))/\w'.cell? ⟨(ae.add ((aa).toNat*5)).block,(ae.add ((aa).toNat*5)).off+2,none⟩=some (iV ((aa0 af aa).f2))/\w'.cell? ⟨(ae.add ((aa).toNat*5)).block,(ae.add ((aa).toNat*5)).off+3,none⟩=some (iV ((aa0 af aa).f3))/\w'.cell? ⟨(ae.add ((aa).toNat*5)).block,(ae.add ((aa).toNat*5)).off+4,none⟩=some (iV ((aa0 af aa).f4))/\w'.cell? (bu.add (aa).toNat)=some (.slice aJ (aaQ ag aa).length aK)) (ds:=[]) (jb 35 0) (by kernel_rfl) rfl rfl ⟨ai,aj,ak,au,av,ay⟩ (fun hHeld=>?_);refine aaN aci abV (fun HT_ HW_=>?_)
     generalize wr.drew=ji at aA ax HB bv aG ai aj ak au av ay hHeld ⊢
     refine jp 0 34 (jb 35 1) ?_
     refine jp 1 35 (jb 35 3) ?_
     refine jp 2 36 (jb 35 7) ?_
     refine jp 3 37 (jb 35 15) ?_
     refine jt 4 38 (jb 35 31) ?_
     refine jp 5 39 (jb 35 63) ?_
     refine jp 6 40 (jb 35 127) ?_
     refine jp 7 41 (jb 35 255) ?_
     refine jp 8 42 (jb 35 511) ?_
     refine jp 9 43 (jb 35 1023) ?_
     refine jt 10 44 (jb 35 2047) ?_
     refine acL (i:=11) (N:=some 45) (jb 35 4095) rfl rfl (aaS HT_.out (by kernel_rfl)) (by decide) (fun K hK=>?_)
     refine abp func23 (by kernel_rfl) rfl #[.slice aJ (aaQ ag aa).length aK] (by rfl) rfl rfl qM ?_
     with_reducible refine (SbH.calls k2 _ _ (aaQ ag aa) true _ ?aL ?aN gK.out).mono ?_
     (case aL=>repeat (first|exact (kC aG.out)|(with_reducible refine C_alloc ?_ _)|(with_reducible refine C_drewN ?_ _)|(with_reducible refine C_drew ?_)))
     (case aN=>exact bz.out)
     rintro e w' ⟨rfl,⟨nd,rfl⟩⟩
     refine⟨_,rfl,?_⟩
     refine hK.out _ _ ⟨hHeld.1,hHeld.2.1,hHeld.2.2.1,hHeld.2.2.2.1,hHeld.2.2.2.2.1,hHeld.2.2.2.2.2⟩ (fun hHeld=>?_)
     clear hK K
     refine aax (a':=?_) ?_ ?_
     rotate_left
     ·show Act.put _ (some 45) _=_
      simp only [Act.put,List.setIfInBounds_toArray,List.set_cons_zero,List.set_cons_succ,aac,aad]
      rfl
     refine jp 12 46 (jb 35 8191) ?_
     refine jp 13 47 (jb 35 16383) ?_
     refine aaR (i:=14) (N:=some 48) (v:=undef) (a':=?_) (jb 35 32767) rfl rfl (aaE HT_.out (by kernel_rfl)) (fun _ _ _ h=>h) (Or.inr ⟨by rfl,rfl⟩) ?_ ?_
     rotate_left
     ·simp only [Act.put,List.setIfInBounds_toArray,List.set_cons_zero,List.set_cons_succ,aac,aad]
      rfl
     refine aaR (i:=15) (N:=some 49) (v:=undef) (a':=?_) (jb 35 65535) rfl rfl (aaE HT_.out (by kernel_rfl)) (fun _ _ _ h=>h) (Or.inr ⟨by rfl,rfl⟩) ?_ ?_
     rotate_left
     ·simp only [Act.put,List.setIfInBounds_toArray,List.set_cons_zero,List.set_cons_succ,aac,aad]
      rfl
     refine aaR (i:=16) (N:=some 50) (v:=undef) (a':=?_) (jb 35 131071) rfl rfl (aaE HT_.out (by kernel_rfl)) (fun _ _ _ h=>h) (Or.inr ⟨by rfl,rfl⟩) ?_ ?_
     rotate_left
     ·simp only [Act.put,List.setIfInBounds_toArray,List.set_cons_zero,List.set_cons_succ,aac,aad]
      rfl
     refine aaR (i:=17) (N:=some 51) (v:=undef) (a':=?_) (jb 35 262143) rfl rfl (aaE HT_.out (by kernel_rfl)) (fun _ _ _ h=>h) (Or.inr ⟨by rfl,rfl⟩) ?_ ?_
     rotate_left
     ·simp only [Act.put,List.setIfInBounds_toArray,List.set_cons_zero,List.set_cons_succ,aac,aad]
      rfl
     refine aaR (i:=18) (N:=some 52) (v:=undef) (a':=?_) (jb 35 524287) rfl rfl (aaE HT_.out (by kernel_rfl)) (fun _ _ _ h=>h) (Or.inr ⟨by rfl,rfl⟩) ?_ ?_
     rotate_left
     ·simp only [Act.put,List.setIfInBounds_toArray,List.set_cons_zero,List.set_cons_succ,aac,aad]
      rfl
     refine aaR (i:=19) (N:=some 53) (v:=undef) (a':=?_) (jb 35 1048575) rfl rfl (aaE HT_.out (by kernel_rfl)) (fun _ _ _ h=>h) (Or.inr ⟨by rfl,rfl⟩) ?_ ?_
     rotate_left
     ·simp only [Act.put,List.setIfInBounds_toArray,List.set_cons_zero,List.set_cons_succ,aac,aad]
      rfl
     refine aaR (i:=20) (N:=some 54) (v:=undef) (a':=?_) (jb 35 2097151) rfl rfl (aaE HT_.out (by kernel_rfl)) (fun _ _ _ h=>h) (Or.inr ⟨by rfl,rfl⟩) ?_ ?_
     rotate_left
     ·simp only [Act.put,List.setIfInBounds_toArray,List.set_cons_zero,List.set_cons_succ,aac,aad]
      rfl
     refine aaR (i:=21) (N:=some 55) (v:=undef) (a':=?_) (jb 35 4194303) rfl rfl (aaE HT_.out (by kernel_rfl)) (fun _ _ _ h=>h) (Or.inr ⟨by rfl,rfl⟩) ?_ ?_
     rotate_left
     ·simp only [Act.put,List.setIfInBounds_toArray,List.set_cons_zero,List.set_cons_succ,aac,aad]
      rfl
     refine aaR (i:=22) (N:=some 56) (v:=undef) (a':=?_) (jb 35 8388607) rfl rfl (aaE HT_.out (by kernel_rfl)) (fun _ _ _ h=>h) (Or.inr ⟨by rfl,rfl⟩) ?_ ?_
     rotate_left
     ·simp only [Act.put,List.setIfInBounds_toArray,List.set_cons_zero,List.set_cons_succ,aac,aad]
      rfl
     refine aaR (i:=23) (N:=some 57) (v:=undef) (a':=?_) (jb 35 16777215) rfl rfl (aaE HT_.out (by kernel_rfl)) (fun _ _ _ h=>h) (Or.inr ⟨by rfl,rfl⟩) ?_ ?_
     rotate_left
     ·simp only [Act.put,List.setIfInBounds_toArray,List.set_cons_zero,List.set_cons_succ,aac,aad]
      rfl
     refine aaR (i:=24) (N:=some 58) (v:=undef) (a':=?_) (jb 35 33554431) rfl rfl (aaE HT_.out (by kernel_rfl)) (fun _ _ _ h=>h) (Or.inr ⟨by rfl,rfl⟩) ?_ ?_
     rotate_left
     ·simp only [Act.put,List.setIfInBounds_toArray,List.set_cons_zero,List.set_cons_succ,aac,aad]
      rfl
     refine aaR (i:=25) (N:=some 59) (v:=undef) (a':=?_) (jb 35 67108863) rfl rfl (aaE HT_.out (by kernel_rfl)) (fun _ _ _ h=>h) (Or.inr ⟨by rfl,rfl⟩) ?_ ?_
     rotate_left
     ·simp only [Act.put,List.setIfInBounds_toArray,List.set_cons_zero,List.set_cons_succ,aac,aad]
      rfl
     refine aaR (i:=26) (N:=some 60) (v:=undef) (a':=?_) (jb 35 134217727) rfl rfl (aaE HT_.out (by kernel_rfl)) (fun _ _ _ h=>h) (Or.inr ⟨by rfl,rfl⟩) ?_ ?_
     rotate_left
     ·simp only [Act.put,List.setIfInBounds_toArray,List.set_cons_zero,List.set_cons_succ,aac,aad]
      rfl
     refine aaR (i:=27) (N:=some 61) (v:=undef) (a':=?_) (jb 35 268435455) rfl rfl (aaE HT_.out (by kernel_rfl)) (fun _ _ _ h=>h) (Or.inr ⟨by rfl,rfl⟩) ?_ ?_
     rotate_left
     ·simp only [Act.put,List.setIfInBounds_toArray,List.set_cons_zero,List.set_cons_succ,aac,aad]
      rfl
     refine aaR (i:=28) (N:=some 62) (v:=undef) (a':=?_) (jb 35 536870911) rfl rfl (aaE HT_.out (by kernel_rfl)) (fun _ _ _ h=>h) (Or.inr ⟨by rfl,rfl⟩) ?_ ?_
     rotate_left
     ·simp only [Act.put,List.setIfInBounds_toArray,List.set_cons_zero,List.set_cons_succ,aac,aad]
      rfl
     refine aaR (i:=29) (N:=some 63) (v:=undef) (a':=?_) (jb 35 1073741823) rfl rfl (aaE HT_.out (by kernel_rfl)) (fun _ _ _ h=>h) (Or.inr ⟨by rfl,rfl⟩) ?_ ?_
     rotate_left
     ·simp only [Act.put,List.setIfInBounds_toArray,List.set_cons_zero,List.set_cons_succ,aac,aad]
      rfl
     refine aaR (i:=30) (N:=some 64) (v:=undef) (a':=?_) (jb 35 2147483647) rfl rfl (aaE HT_.out (by kernel_rfl)) (fun _ _ _ h=>h) (Or.inr ⟨by rfl,rfl⟩) ?_ ?_
     rotate_left
     ·simp only [Act.put,List.setIfInBounds_toArray,List.set_cons_zero,List.set_cons_succ,aac,aad]
      rfl
     refine aaR (i:=31) (N:=some 65) (v:=undef) (a':=?_) (jb 35 4294967295) rfl rfl (aaE HT_.out (by kernel_rfl)) (fun _ _ _ h=>h) (Or.inr ⟨by rfl,rfl⟩) ?_ ?_
     rotate_left
     ·simp only [Act.put,List.setIfInBounds_toArray,List.set_cons_zero,List.set_cons_succ,aac,aad]
      rfl
     refine aaR (i:=32) (N:=some 66) (v:=undef) (a':=?_) (jb 35 8589934591) rfl rfl (aaE HT_.out (by kernel_rfl)) (fun _ _ _ h=>h) (Or.inr ⟨by rfl,rfl⟩) ?_ ?_
     rotate_left
     ·simp only [Act.put,List.setIfInBounds_toArray,List.set_cons_zero,List.set_cons_succ,aac,aad]
      rfl
     refine aaR (i:=33) (N:=some 67) (v:=undef) (a':=?_) (jb 35 17179869183) rfl rfl (aaE HT_.out (by kernel_rfl)) (fun _ _ _ h=>h) (Or.inr ⟨by rfl,rfl⟩) ?_ ?_
     rotate_left
     ·simp only [Act.put,List.setIfInBounds_toArray,List.set_cons_zero,List.set_cons_succ,aac,aad]
      rfl
     refine jp 34 68 (jb 35 34359738367) ?_
     refine abL (aba HT_.out (by kernel_rfl)) ?_
     try go_wp2
     go_ret
     exact⟨qW,qB⟩
    replace H:=jE H;rcases H with ⟨gq,gu,H⟩ | ⟨jk,gq,gu,H⟩
    ·replace H:=jI H;obtain⟨iG,H⟩:=H
     replace H:=jI H;obtain⟨iH,H⟩:=H
     obtain⟨iA,eT⟩:∃ b_:Bool,b_=(aby false (aaQ ag aa) ((aa0 af aa).f2)):=⟨_,rfl⟩
     replace H:(if (iA=true) then (acG k2 af ag (wrap64 (aa+1))) else (some false))=some r:=by rw [<- eT] at H;exact H
     have fK:=aM eT;clear eT
     replace H:=jB H;rcases H with ⟨rfl,H⟩ | ⟨rfl,H⟩
     ·have H':=aM H
      clear H
      try go_wp2
      replace aA:=aM (R_drew aA.out)
      replace ax:=aM (S_drew ax.out)
      replace HB:=aM (aae HB.out)
      have aB:0<=(aa:Int):=qD
      have aC:aa < (af.length:Int):=qD
      obtain⟨ae,bG,ai,aj,ak,au,av⟩:=aaL (R_reads' aA.out).2.2 aa aB aC
      cases bG
      replace aB:=eq_true aB
      replace aC:=eq_true aC
      obtain⟨iT,iU,gy⟩:=S_slice ax.out
      (first|subst gy|(injection gy with dW eO dX;have eP:=dW.symm;have eQ:=dX.symm;clear dW eO dX;subst eP;subst eQ))
      have aO:0<=(aa:Int):=qD
      have aP:aa < (ag.length:Int):=qD
      obtain⟨bu,aJ,aK,dz,ay,aD,aF⟩:=aee (S_reads' ax.out).2.2 aa aO aP
      cases dz
      obtain⟨d9,bH,bI,aQ⟩:=S_get ax.out [] aa aO (by first|exact aP|exact qD|(have e_:=(S_reads' ax.out).1;omega))
      obtain⟨dA,rfl,az⟩:=bI
      have ah:=aQ 0 _ rfl
      rw [Nat.add_zero,show ((Kd.slice 4 Kd.bool)).sz=1 from rfl,Nat.mul_one] at ah
      replace ah:=Option.some.inj (ah.symm.trans ay)
      rw [ah] at az
      have bv:=aM (show Kd.R Kd.bool 4 _ _ _ _ (aaQ ag aa) from az)
      clear ah az
      clear aQ bH
      have aG:=aM aF
      have bz:=aM aD
      clear aF aD
      replace aO:=eq_true aO
      replace aP:=eq_true aP
      have bK:0<=(aa:Int):=qD
      have bL:aa < (af.length:Int):=qD
      obtain⟨dB,dY,aS,aT,aU,aV,aW⟩:=aaL (R_reads' aA.out).2.2 aa bK bL
      obtain rfl:ae=dB:=(by injection dY)
      replace bK:=eq_true bK
      replace bL:=eq_true bL
      have df:0<=(aa:Int):=qD
      have dh:aa < (ag.length:Int):=qD
      obtain⟨ed,fB,fC,eU,aR,bM,bN⟩:=aee (S_reads' ax.out).2.2 aa df dh
      obtain rfl:bu=ed:=(by injection eU)
      obtain⟨fT,dO,dP,di⟩:=S_get ax.out [] aa df (by first|exact dh|exact qD|(have e_:=(S_reads' ax.out).1;omega))
      obtain⟨eX,rfl,bA⟩:=dP
      have aH:=di 0 _ rfl
      rw [Nat.add_zero,show ((Kd.slice 4 Kd.bool)).sz=1 from rfl,Nat.mul_one] at aH
      replace aH:=Option.some.inj (aH.symm.trans aR)
      rw [aH] at bA
      have dC:=aM (show Kd.R Kd.bool 4 _ _ _ _ (aaQ ag aa) from bA)
      clear aH bA
      clear di dO
      have bO:=aM bN
      have eY:=aM bM
      clear bN bM
      replace df:=eq_true df
      replace dh:=eq_true dh
      have ea_:=Option.some.inj (ay.symm.trans aR)
      injection ea_ with ea_ en_ ec_
      subst ea_
      subst ec_
      clear en_
      have dD:0<=(aa:Int):=qD
      have dE:aa < (af.length:Int):=qD
      obtain⟨ek,eZ,bP,bQ,bR,bS,bT⟩:=aaL (R_reads' aA.out).2.2 aa dD dE
      obtain rfl:ae=ek:=(by injection eZ)
      replace dD:=eq_true dD
      replace dE:=eq_true dE
      have dF:0<=(((aa0 af aa).f2):Int):=qD
      have dG:((aa0 af aa).f2) < ((aaQ ag aa).length:Int):=qD
      obtain⟨eu,bU,bB⟩:=Kd.at_bool (kC bO.out) ((aa0 af aa).f2) dF dG
      replace bU:=aM bU
      (try rw [<- fK.out] at bB)
      replace dF:=eq_true dF
      replace dG:=eq_true dG
      refine abr (n:=35) (S:=fun w'=>w'.cell? (ae.add ((aa).toNat*5))=some (iV ((aa0 af aa).f0))/\w'.cell? ⟨(ae.add ((aa).toNat*5)).block,(ae.add ((aa).toNat*5)).off+1,none⟩=some (iV ((aa0 af aa).f1))/\w'.cell? ⟨(ae.add ((aa).toNat*5)).block,(ae.add ((aa).toNat*5)).off+2,none⟩=some (iV ((aa0 af aa).f2))/\w'.cell? ⟨(ae.add ((aa).toNat*5)).block,(ae.add ((aa).toNat*5)).off+3,none⟩=some (iV ((aa0 af aa).f3))/\w'.cell? ⟨(ae.add ((aa).toNat*5)).block,(ae.add ((aa).toNat*5)).off+4,none⟩=some (iV ((aa0 af aa).f4))/\w'.cell? (bu.add (aa).toNat)=some (.slice aJ (aaQ ag aa).length aK)/\w'.cell? (ae.add ((aa).toNat*5))=some (iV ((aa0 af aa).f0))/\w'.cell? ⟨(ae.add ((aa).toNat*5)).block,(ae.add ((aa).toNat*5)).off+1,none⟩=some (iV ((aa0 af aa).f1))/\w'.cell? ⟨(ae.add ((aa).toNat*5)).block,(ae.add ((aa).toNat*5)).off+2,none⟩=some (iV ((aa0 af aa).f2))/\w'.cell? ⟨(ae.add ((aa).toNat*5)).block,(ae.add ((aa).toNat*5)).off+3,none⟩=some (iV ((aa0 af aa).f3))/\w'.cell? ⟨(ae.add ((aa).toNat*5)).block,(ae.add ((aa).toNat*5)).off+4,none⟩=some (iV ((aa0 af aa).f4))/\w'.cell? (bu.add (aa).toNat)=some (.slice aJ (aaQ ag aa).length aK)/\w'.cell? (ae.add ((aa).toNat*5))=some (iV ((aa0 af aa).f0))/\w'.cell? ⟨(ae.add ((aa).toNat*5)).block,(ae.add ((aa).toNat*5)).off+1,none⟩=some (iV ((aa0 af aa).f1))/\w'.cell? ⟨(ae.add ((aa).toNat*5)).block,(ae.add ((aa).toNat*5)).off+2,none⟩=some (iV ((aa0 af aa).f2))/\w'.cell? ⟨(ae.add ((aa).toNat*5)).block,(ae.add ((aa).toNat*5)).off+3,none⟩=some (iV ((aa0 af aa).f3))/\w'.cell? ⟨(ae.add ((aa).toNat*5)).block,(ae.add ((aa).toNat*5)).off+4,none⟩=some (iV ((aa0 af aa).f4))/\w'.cell? (eu.add (((aa0 af aa).f2)).toNat)=some (.bool true)) (ds:=[]) (jb 35 0) (by kernel_rfl) rfl rfl ⟨ai,aj,ak,au,av,ay,aS,aT,aU,aV,aW,aR,bP,bQ,bR,bS,bT,bB⟩ (fun hHeld=>?_);refine aaN aci abV (fun HT_ HW_=>?_)
      generalize wr.drew=jl at aA ax HB bv dC aG bO ai aj ak au av ay aS aT aU aV aW aR bP bQ bR bS bT bB hHeld ⊢
      refine jp 0 34 (jb 35 1) ?_
      refine jp 1 35 (jb 35 3) ?_
      refine jp 2 36 (jb 35 7) ?_
      refine jp 3 37 (jb 35 15) ?_
      refine jt 4 38 (jb 35 31) ?_
      refine jp 5 39 (jb 35 63) ?_
      refine jp 6 40 (jb 35 127) ?_
      refine jp 7 41 (jb 35 255) ?_
      refine jp 8 42 (jb 35 511) ?_
      refine jp 9 43 (jb 35 1023) ?_
      refine jt 10 44 (jb 35 2047) ?_
      refine acL (i:=11) (N:=some 45) (jb 35 4095) rfl rfl (aaS HT_.out (by kernel_rfl)) (by decide) (fun K hK=>?_)
      refine abp func23 (by kernel_rfl) rfl #[.slice aJ (aaQ ag aa).length aK] (by rfl) rfl rfl qM ?_
      with_reducible refine (SbH.calls k2 _ _ (aaQ ag aa) false _ ?aL ?aN gK.out).mono ?_
      (case aL=>repeat (first|exact (kC aG.out)|(with_reducible refine C_alloc ?_ _)|(with_reducible refine C_drewN ?_ _)|(with_reducible refine C_drew ?_)))
      (case aN=>exact bz.out)
      rintro e w' ⟨rfl,⟨nd,rfl⟩⟩
      refine⟨_,rfl,?_⟩
      replace bU:=bU.out
      cases bU
      refine hK.out _ _ ⟨hHeld.1,hHeld.2.1,hHeld.2.2.1,hHeld.2.2.2.1,hHeld.2.2.2.2.1,hHeld.2.2.2.2.2.1,hHeld.2.2.2.2.2.2.1,hHeld.2.2.2.2.2.2.2.1,hHeld.2.2.2.2.2.2.2.2.1,hHeld.2.2.2.2.2.2.2.2.2.1,hHeld.2.2.2.2.2.2.2.2.2.2.1,hHeld.2.2.2.2.2.2.2.2.2.2.2.1,hHeld.2.2.2.2.2.2.2.2.2.2.2.2.1,hHeld.2.2.2.2.2.2.2.2.2.2.2.2.2.1,hHeld.2.2.2.2.2.2.2.2.2.2.2.2.2.2.1,hHeld.2.2.2.2.2.2.2.2.2.2.2.2.2.2.2.1,hHeld.2.2.2.2.2.2.2.2.2.2.2.2.2.2.2.2.1,hHeld.2.2.2.2.2.2.2.2.2.2.2.2.2.2.2.2.2⟩ (fun hHeld=>?_)
      clear hK K
      refine aax (a':=?_) ?_ ?_
      rotate_left
      ·show Act.put _ (some 45) _=_
       simp only [Act.put,List.setIfInBounds_toArray,List.set_cons_zero,List.set_cons_succ,aac,aad]
       rfl
      refine jp 12 46 (jb 35 8191) ?_
      refine jp 13 47 (jb 35 16383) ?_
      refine jp 14 48 (jb 35 32767) ?_
      refine jp 15 49 (jb 35 65535) ?_
      refine jp 16 50 (jb 35 131071) ?_
      refine jp 17 51 (jb 35 262143) ?_
      refine jt 18 52 (jb 35 524287) ?_
      refine jp 19 53 (jb 35 1048575) ?_
      refine jp 20 54 (jb 35 2097151) ?_
      refine jp 21 55 (jb 35 4194303) ?_
      refine jp 22 56 (jb 35 8388607) ?_
      refine jp 23 57 (jb 35 16777215) ?_
      refine jp 25 59 (jb 35 50331647) ?_
      refine jp 26 60 (jb 35 117440511) ?_
      refine jp 27 61 (jb 35 251658239) ?_
      refine jp 28 62 (jb 35 520093695) ?_
      refine jt 24 58 (jb 35 536870911) ?_
      refine jt 29 63 (jb 35 1073741823) ?_
      refine jp 30 64 (jb 35 2147483647) ?_
      refine jt 31 65 (jb 35 4294967295) ?_
      refine jp 32 66 (jb 35 8589934591) ?_
      refine jp 33 67 (jb 35 17179869183) ?_
      refine jp 34 68 (jb 35 34359738367) ?_
      refine abL (aba HT_.out (by kernel_rfl)) ?_
      try go_wp2
      go_roundg k2
      case measure=>have:=fI.out;have:=fJ.out;omega
      exact⟨(wrap64 (aa+1)),qZ,H',⟨by have:=fI.out;have:=fJ.out;omega⟩,⟨qR aA⟩,⟨qS ax⟩,⟨qB⟩⟩
     obtain rfl:=oJ H
     try go_wp2
     replace aA:=aM (R_drew aA.out)
     replace ax:=aM (S_drew ax.out)
     replace HB:=aM (aae HB.out)
     have aB:0<=(aa:Int):=qD
     have aC:aa < (af.length:Int):=qD
     obtain⟨ae,bG,ai,aj,ak,au,av⟩:=aaL (R_reads' aA.out).2.2 aa aB aC
     cases bG
     replace aB:=eq_true aB
     replace aC:=eq_true aC
     obtain⟨iW,iX,gz⟩:=S_slice ax.out
     (first|subst gz|(injection gz with dW eO dX;have eP:=dW.symm;have eQ:=dX.symm;clear dW eO dX;subst eP;subst eQ))
     have aO:0<=(aa:Int):=qD
     have aP:aa < (ag.length:Int):=qD
     obtain⟨bu,aJ,aK,dz,ay,aD,aF⟩:=aee (S_reads' ax.out).2.2 aa aO aP
     cases dz
     obtain⟨d9,bH,bI,aQ⟩:=S_get ax.out [] aa aO (by first|exact aP|exact qD|(have e_:=(S_reads' ax.out).1;omega))
     obtain⟨dA,rfl,az⟩:=bI
     have ah:=aQ 0 _ rfl
     rw [Nat.add_zero,show ((Kd.slice 4 Kd.bool)).sz=1 from rfl,Nat.mul_one] at ah
     replace ah:=Option.some.inj (ah.symm.trans ay)
     rw [ah] at az
     have bv:=aM (show Kd.R Kd.bool 4 _ _ _ _ (aaQ ag aa) from az)
     clear ah az
     clear aQ bH
     have aG:=aM aF
     have bz:=aM aD
     clear aF aD
     replace aO:=eq_true aO
     replace aP:=eq_true aP
     have bK:0<=(aa:Int):=qD
     have bL:aa < (af.length:Int):=qD
     obtain⟨dB,dY,aS,aT,aU,aV,aW⟩:=aaL (R_reads' aA.out).2.2 aa bK bL
     obtain rfl:ae=dB:=(by injection dY)
     replace bK:=eq_true bK
     replace bL:=eq_true bL
     have df:0<=(aa:Int):=qD
     have dh:aa < (ag.length:Int):=qD
     obtain⟨ed,fB,fC,eU,aR,bM,bN⟩:=aee (S_reads' ax.out).2.2 aa df dh
     obtain rfl:bu=ed:=(by injection eU)
     obtain⟨fT,dO,dP,di⟩:=S_get ax.out [] aa df (by first|exact dh|exact qD|(have e_:=(S_reads' ax.out).1;omega))
     obtain⟨eX,rfl,bA⟩:=dP
     have aH:=di 0 _ rfl
     rw [Nat.add_zero,show ((Kd.slice 4 Kd.bool)).sz=1 from rfl,Nat.mul_one] at aH
     replace aH:=Option.some.inj (aH.symm.trans aR)
     rw [aH] at bA
     have dC:=aM (show Kd.R Kd.bool 4 _ _ _ _ (aaQ ag aa) from bA)
     clear aH bA
     clear di dO
     have bO:=aM bN
     have eY:=aM bM
     clear bN bM
     replace df:=eq_true df
     replace dh:=eq_true dh
     have ea_:=Option.some.inj (ay.symm.trans aR)
     injection ea_ with ea_ en_ ec_
     subst ea_
     subst ec_
     clear en_
     have dD:0<=(aa:Int):=qD
     have dE:aa < (af.length:Int):=qD
     obtain⟨ek,eZ,bP,bQ,bR,bS,bT⟩:=aaL (R_reads' aA.out).2.2 aa dD dE
     obtain rfl:ae=ek:=(by injection eZ)
     replace dD:=eq_true dD
     replace dE:=eq_true dE
     have dF:0<=(((aa0 af aa).f2):Int):=qD
     have dG:((aa0 af aa).f2) < ((aaQ ag aa).length:Int):=qD
     obtain⟨eu,bU,bB⟩:=Kd.at_bool (kC bO.out) ((aa0 af aa).f2) dF dG
     replace bU:=aM bU
     (try rw [<- fK.out] at bB)
     replace dF:=eq_true dF
     replace dG:=eq_true dG
     refine abr (n:=35) (S:=fun w'=>w'.cell? (ae.add ((aa).toNat*5))=some (iV ((aa0 af aa).f0))/\w'.cell? ⟨(ae.add ((aa).toNat*5)).block,(ae.add ((aa).toNat*5)).off+1,none⟩=some (iV ((aa0 af aa).f1))/\w'.cell? ⟨(ae.add ((aa).toNat*5)).block,(ae.add ((aa).toNat*5)).off+2,none⟩=some (iV ((aa0 af aa).f2))/\w'.cell? ⟨(ae.add ((aa).toNat*5)).block,(ae.add ((aa).toNat*5)).off+3,none⟩=some (iV ((aa0 af aa).f3))/\w'.cell? ⟨(ae.add ((aa).toNat*5)).block,(ae.add ((aa).toNat*5)).off+4,none⟩=some (iV ((aa0 af aa).f4))/\w'.cell? (bu.add (aa).toNat)=some (.slice aJ (aaQ ag aa).length aK)/\w'.cell? (ae.add ((aa).toNat*5))=some (iV ((aa0 af aa).f0))/\w'.cell? ⟨(ae.add ((aa).toNat*5)).block,(ae.add ((aa).toNat*5)).off+1,none⟩=some (iV ((aa0 af aa).f1))/\w'.cell? ⟨(ae.add ((aa).toNat*5)).block,(ae.add ((aa).toNat*5)).off+2,none⟩=some (iV ((aa0 af aa).f2))/\w'.cell? ⟨(ae.add ((aa).toNat*5)).block,(ae.add ((aa).toNat*5)).off+3,none⟩=some (iV ((aa0 af aa).f3))/\w'.cell? ⟨(ae.add ((aa).toNat*5)).block,(ae.add ((aa).toNat*5)).off+4,none⟩=some (iV ((aa0 af aa).f4))/\w'.cell? (bu.add (aa).toNat)=some (.slice aJ (aaQ ag aa).length aK)/\w'.cell? (ae.add ((aa).toNat*5))=some (iV ((aa0 af aa).f0))/\w'.cell? ⟨(ae.add ((aa).toNat*5)).block,(ae.add ((aa).toNat*5)).off+1,none⟩=some (iV ((aa0 af aa).f1))/\w'.cell? ⟨(ae.add ((aa).toNat*5)).block,(ae.add ((aa).toNat*5)).off+2,none⟩=some (iV ((aa0 af aa).f2))/\w'.cell? ⟨(ae.add ((aa).toNat*5)).block,(ae.add ((aa).toNat*5)).off+3,none⟩=some (iV ((aa0 af aa).f3))/\w'.cell? ⟨(ae.add ((aa).toNat*5)).block,(ae.add ((aa).toNat*5)).off+4,none⟩=some (iV ((aa0 af aa).f4))/\w'.cell? (eu.add (((aa0 af aa).f2)).toNat)=some (.bool false)) (ds:=[]) (jb 35 0) (by kernel_rfl) rfl rfl ⟨ai,aj,ak,au,av,ay,aS,aT,aU,aV,aW,aR,bP,bQ,bR,bS,bT,bB⟩ (fun hHeld=>?_);refine aaN aci abV (fun HT_ HW_=>?_)
     generalize wr.drew=jm at aA ax HB bv dC aG bO ai aj ak au av ay aS aT aU aV aW aR bP bQ bR bS bT bB hHeld ⊢
     refine jp 0 34 (jb 35 1) ?_
     refine jp 1 35 (jb 35 3) ?_
     refine jp 2 36 (jb 35 7) ?_
     refine jp 3 37 (jb 35 15) ?_
     refine jt 4 38 (jb 35 31) ?_
     refine jp 5 39 (jb 35 63) ?_
     refine jp 6 40 (jb 35 127) ?_
     refine jp 7 41 (jb 35 255) ?_
     refine jp 8 42 (jb 35 511) ?_
     refine jp 9 43 (jb 35 1023) ?_
     refine jt 10 44 (jb 35 2047) ?_
     refine acL (i:=11) (N:=some 45) (jb 35 4095) rfl rfl (aaS HT_.out (by kernel_rfl)) (by decide) (fun K hK=>?_)
     refine abp func23 (by kernel_rfl) rfl #[.slice aJ (aaQ ag aa).length aK] (by rfl) rfl rfl qM ?_
     with_reducible refine (SbH.calls k2 _ _ (aaQ ag aa) false _ ?aL ?aN gK.out).mono ?_
     (case aL=>repeat (first|exact (kC aG.out)|(with_reducible refine C_alloc ?_ _)|(with_reducible refine C_drewN ?_ _)|(with_reducible refine C_drew ?_)))
     (case aN=>exact bz.out)
     rintro e w' ⟨rfl,⟨nd,rfl⟩⟩
     refine⟨_,rfl,?_⟩
     replace bU:=bU.out
     cases bU
     refine hK.out _ _ ⟨hHeld.1,hHeld.2.1,hHeld.2.2.1,hHeld.2.2.2.1,hHeld.2.2.2.2.1,hHeld.2.2.2.2.2.1,hHeld.2.2.2.2.2.2.1,hHeld.2.2.2.2.2.2.2.1,hHeld.2.2.2.2.2.2.2.2.1,hHeld.2.2.2.2.2.2.2.2.2.1,hHeld.2.2.2.2.2.2.2.2.2.2.1,hHeld.2.2.2.2.2.2.2.2.2.2.2.1,hHeld.2.2.2.2.2.2.2.2.2.2.2.2.1,hHeld.2.2.2.2.2.2.2.2.2.2.2.2.2.1,hHeld.2.2.2.2.2.2.2.2.2.2.2.2.2.2.1,hHeld.2.2.2.2.2.2.2.2.2.2.2.2.2.2.2.1,hHeld.2.2.2.2.2.2.2.2.2.2.2.2.2.2.2.2.1,hHeld.2.2.2.2.2.2.2.2.2.2.2.2.2.2.2.2.2⟩ (fun hHeld=>?_)
     clear hK K
     refine aax (a':=?_) ?_ ?_
     rotate_left
     ·show Act.put _ (some 45) _=_
      simp only [Act.put,List.setIfInBounds_toArray,List.set_cons_zero,List.set_cons_succ,aac,aad]
      rfl
     refine jp 12 46 (jb 35 8191) ?_
     refine jp 13 47 (jb 35 16383) ?_
     refine jp 14 48 (jb 35 32767) ?_
     refine jp 15 49 (jb 35 65535) ?_
     refine jp 16 50 (jb 35 131071) ?_
     refine jp 17 51 (jb 35 262143) ?_
     refine jt 18 52 (jb 35 524287) ?_
     refine jp 19 53 (jb 35 1048575) ?_
     refine jp 20 54 (jb 35 2097151) ?_
     refine jp 21 55 (jb 35 4194303) ?_
     refine jp 22 56 (jb 35 8388607) ?_
     refine jp 23 57 (jb 35 16777215) ?_
     refine jp 25 59 (jb 35 50331647) ?_
     refine jp 26 60 (jb 35 117440511) ?_
     refine jp 27 61 (jb 35 251658239) ?_
     refine jp 28 62 (jb 35 520093695) ?_
     refine jt 24 58 (jb 35 536870911) ?_
     refine jt 29 63 (jb 35 1073741823) ?_
     refine jp 30 64 (jb 35 2147483647) ?_
     refine jt 31 65 (jb 35 4294967295) ?_
     refine jp 32 66 (jb 35 8589934591) ?_
     refine jp 33 67 (jb 35 17179869183) ?_
     refine jp 34 68 (jb 35 34359738367) ?_
     refine abL (aba HT_.out (by kernel_rfl)) ?_
     try go_wp2
     go_ret
     exact⟨qW,qB⟩
    have H':=aM H
    clear H
    try go_wp2
    replace aA:=aM (R_drew aA.out)
    replace ax:=aM (S_drew ax.out)
    replace HB:=aM (aae HB.out)
    have aB:0<=(aa:Int):=qD
    have aC:aa < (af.length:Int):=qD
    obtain⟨ae,bG,ai,aj,ak,au,av⟩:=aaL (R_reads' aA.out).2.2 aa aB aC
    cases bG
    replace aB:=eq_true aB
    replace aC:=eq_true aC
    obtain⟨iY,iZ,gB⟩:=S_slice ax.out
    (first|subst gB|(injection gB with dW eO dX;have eP:=dW.symm;have eQ:=dX.symm;clear dW eO dX;subst eP;subst eQ))
    have aO:0<=(aa:Int):=qD
    have aP:aa < (ag.length:Int):=qD
    obtain⟨bu,aJ,aK,dz,ay,aD,aF⟩:=aee (S_reads' ax.out).2.2 aa aO aP
    cases dz
    obtain⟨d9,bH,bI,aQ⟩:=S_get ax.out [] aa aO (by first|exact aP|exact qD|(have e_:=(S_reads' ax.out).1;omega))
    obtain⟨dA,rfl,az⟩:=bI
    have ah:=aQ 0 _ rfl
    rw [Nat.add_zero,show ((Kd.slice 4 Kd.bool)).sz=1 from rfl,Nat.mul_one] at ah
    replace ah:=Option.some.inj (ah.symm.trans ay)
    rw [ah] at az
    have bv:=aM (show Kd.R Kd.bool 4 _ _ _ _ (aaQ ag aa) from az)
    clear ah az
    clear aQ bH
    have aG:=aM aF
    have bz:=aM aD
    clear aF aD
    replace aO:=eq_true aO
    replace aP:=eq_true aP
    have bK:0<=(aa:Int):=qD
    have bL:aa < (af.length:Int):=qD
    obtain⟨dB,dY,aS,aT,aU,aV,aW⟩:=aaL (R_reads' aA.out).2.2 aa bK bL
    obtain rfl:ae=dB:=(by injection dY)
    replace bK:=eq_true bK
    replace bL:=eq_true bL
    refine abr (n:=35) (S:=fun w'=>w'.cell? (ae.add ((aa).toNat*5))=some (iV ((aa0 af aa).f0))/\w'.cell? ⟨(ae.add ((aa).toNat*5)).block,(ae.add ((aa).toNat*5)).off+1,none⟩=some (iV ((aa0 af aa).f1))/\w'.cell? ⟨(ae.add ((aa).toNat*5)).block,(ae.add ((aa).toNat*5)).off+2,none⟩=some (iV ((aa0 af aa).f2))/\w'.cell? ⟨(ae.add ((aa).toNat*5)).block,(ae.add ((aa).toNat*5)).off+3,none⟩=some (iV ((aa0 af aa).f3))/\w'.cell? ⟨(ae.add ((aa).toNat*5)).block,(ae.add ((aa).toNat*5)).off+4,none⟩=some (iV ((aa0 af aa).f4))/\w'.cell? (bu.add (aa).toNat)=some (.slice aJ (aaQ ag aa).length aK)/\w'.cell? (ae.add ((aa).toNat*5))=some (iV ((aa0 af aa).f0))/\w'.cell? ⟨(ae.add ((aa).toNat*5)).block,(ae.add ((aa).toNat*5)).off+1,none⟩=some (iV ((aa0 af aa).f1))/\w'.cell? ⟨(ae.add ((aa).toNat*5)).block,(ae.add ((aa).toNat*5)).off+2,none⟩=some (iV ((aa0 af aa).f2))/\w'.cell? ⟨(ae.add ((aa).toNat*5)).block,(ae.add ((aa).toNat*5)).off+3,none⟩=some (iV ((aa0 af aa).f3))/\w'.cell? ⟨(ae.add ((aa).toNat*5)).block,(ae.add ((aa).toNat*5)).off+4,none⟩=some (iV ((aa0 af aa).f4))) (ds:=[]) (jb 35 0) (by kernel_rfl) rfl rfl ⟨ai,aj,ak,au,av,ay,aS,aT,aU,aV,aW⟩ (fun hHeld=>?_);refine aaN aci abV (fun HT_ HW_=>?_)
    generalize wr.drew=jo at aA ax HB bv aG ai aj ak au av ay aS aT aU aV aW hHeld ⊢
    refine jp 0 34 (jb 35 1) ?_
    refine jp 1 35 (jb 35 3) ?_
    refine jp 2 36 (jb 35 7) ?_
    refine jp 3 37 (jb 35 15) ?_
    refine jt 4 38 (jb 35 31) ?_
    refine jp 5 39 (jb 35 63) ?_
    refine jp 6 40 (jb 35 127) ?_
    refine jp 7 41 (jb 35 255) ?_
    refine jp 8 42 (jb 35 511) ?_
    refine jp 9 43 (jb 35 1023) ?_
    refine jt 10 44 (jb 35 2047) ?_
    refine acL (i:=11) (N:=some 45) (jb 35 4095) rfl rfl (aaS HT_.out (by kernel_rfl)) (by decide) (fun K hK=>?_)
    refine abp func23 (by kernel_rfl) rfl #[.slice aJ (aaQ ag aa).length aK] (by rfl) rfl rfl qM ?_
    with_reducible refine (SbH.calls k2 _ _ (aaQ ag aa) false _ ?aL ?aN gK.out).mono ?_
    (case aL=>repeat (first|exact (kC aG.out)|(with_reducible refine C_alloc ?_ _)|(with_reducible refine C_drewN ?_ _)|(with_reducible refine C_drew ?_)))
    (case aN=>exact bz.out)
    rintro e w' ⟨rfl,⟨nd,rfl⟩⟩
    refine⟨_,rfl,?_⟩
    refine hK.out _ _ ⟨hHeld.1,hHeld.2.1,hHeld.2.2.1,hHeld.2.2.2.1,hHeld.2.2.2.2.1,hHeld.2.2.2.2.2.1,hHeld.2.2.2.2.2.2.1,hHeld.2.2.2.2.2.2.2.1,hHeld.2.2.2.2.2.2.2.2.1,hHeld.2.2.2.2.2.2.2.2.2.1,hHeld.2.2.2.2.2.2.2.2.2.2⟩ (fun hHeld=>?_)
    clear hK K
    refine aax (a':=?_) ?_ ?_
    rotate_left
    ·show Act.put _ (some 45) _=_
     simp only [Act.put,List.setIfInBounds_toArray,List.set_cons_zero,List.set_cons_succ,aac,aad]
     rfl
    refine jp 12 46 (jb 35 8191) ?_
    refine jp 13 47 (jb 35 16383) ?_
    refine jp 14 48 (jb 35 32767) ?_
    refine jp 15 49 (jb 35 65535) ?_
    refine jp 16 50 (jb 35 131071) ?_
    refine jp 17 51 (jb 35 262143) ?_
    refine jt 18 52 (jb 35 524287) ?_
    refine jp 19 53 (jb 35 1048575) ?_
    refine jp 20 54 (jb 35 2097151) ?_
    refine aaR (i:=21) (N:=some 55) (v:=undef) (a':=?_) (jb 35 4194303) rfl rfl (aaE HT_.out (by kernel_rfl)) (fun _ _ _ h=>h) (Or.inr ⟨by rfl,rfl⟩) ?_ ?_
    rotate_left
    ·simp only [Act.put,List.setIfInBounds_toArray,List.set_cons_zero,List.set_cons_succ,aac,aad]
     rfl
    refine aaR (i:=22) (N:=some 56) (v:=undef) (a':=?_) (jb 35 8388607) rfl rfl (aaE HT_.out (by kernel_rfl)) (fun _ _ _ h=>h) (Or.inr ⟨by rfl,rfl⟩) ?_ ?_
    rotate_left
    ·simp only [Act.put,List.setIfInBounds_toArray,List.set_cons_zero,List.set_cons_succ,aac,aad]
     rfl
    refine aaR (i:=23) (N:=some 57) (v:=undef) (a':=?_) (jb 35 16777215) rfl rfl (aaE HT_.out (by kernel_rfl)) (fun _ _ _ h=>h) (Or.inr ⟨by rfl,rfl⟩) ?_ ?_
    rotate_left
    ·simp only [Act.put,List.setIfInBounds_toArray,List.set_cons_zero,List.set_cons_succ,aac,aad]
     rfl
    refine aaR (i:=24) (N:=some 58) (v:=undef) (a':=?_) (jb 35 33554431) rfl rfl (aaE HT_.out (by kernel_rfl)) (fun _ _ _ h=>h) (Or.inr ⟨by rfl,rfl⟩) ?_ ?_
    rotate_left
    ·simp only [Act.put,List.setIfInBounds_toArray,List.set_cons_zero,List.set_cons_succ,aac,aad]
     rfl
    refine aaR (i:=25) (N:=some 59) (v:=undef) (a':=?_) (jb 35 67108863) rfl rfl (aaE HT_.out (by kernel_rfl)) (fun _ _ _ h=>h) (Or.inr ⟨by rfl,rfl⟩) ?_ ?_
    rotate_left
    ·simp only [Act.put,List.setIfInBounds_toArray,List.set_cons_zero,List.set_cons_succ,aac,aad]
     rfl
    refine aaR (i:=26) (N:=some 60) (v:=undef) (a':=?_) (jb 35 134217727) rfl rfl (aaE HT_.out (by kernel_rfl)) (fun _ _ _ h=>h) (Or.inr ⟨by rfl,rfl⟩) ?_ ?_
    rotate_left
    ·simp only [Act.put,List.setIfInBounds_toArray,List.set_cons_zero,List.set_cons_succ,aac,aad]
     rfl
    refine aaR (i:=27) (N:=some 61) (v:=undef) (a':=?_) (jb 35 268435455) rfl rfl (aaE HT_.out (by kernel_rfl)) (fun _ _ _ h=>h) (Or.inr ⟨by rfl,rfl⟩) ?_ ?_
    rotate_left
    ·simp only [Act.put,List.setIfInBounds_toArray,List.set_cons_zero,List.set_cons_succ,aac,aad]
     rfl
    refine aaR (i:=28) (N:=some 62) (v:=undef) (a':=?_) (jb 35 536870911) rfl rfl (aaE HT_.out (by kernel_rfl)) (fun _ _ _ h=>h) (Or.inr ⟨by rfl,rfl⟩) ?_ ?_
    rotate_left
    ·simp only [Act.put,List.setIfInBounds_toArray,List.set_cons_zero,List.set_cons_succ,aac,aad]
     rfl
    refine aaR (i:=29) (N:=some 63) (v:=undef) (a':=?_) (jb 35 1073741823) rfl rfl (aaE HT_.out (by kernel_rfl)) (fun _ _ _ h=>h) (Or.inr ⟨by rfl,rfl⟩) ?_ ?_
    rotate_left
    ·simp only [Act.put,List.setIfInBounds_toArray,List.set_cons_zero,List.set_cons_succ,aac,aad]
     rfl
    refine aaR (i:=30) (N:=some 64) (v:=undef) (a':=?_) (jb 35 2147483647) rfl rfl (aaE HT_.out (by kernel_rfl)) (fun _ _ _ h=>h) (Or.inr ⟨by rfl,rfl⟩) ?_ ?_
    rotate_left
    ·simp only [Act.put,List.setIfInBounds_toArray,List.set_cons_zero,List.set_cons_succ,aac,aad]
     rfl
    refine aaR (i:=31) (N:=some 65) (v:=undef) (a':=?_) (jb 35 4294967295) rfl rfl (aaE HT_.out (by kernel_rfl)) (fun _ _ _ h=>h) (Or.inr ⟨by rfl,rfl⟩) ?_ ?_
    rotate_left
    ·simp only [Act.put,List.setIfInBounds_toArray,List.set_cons_zero,List.set_cons_succ,aac,aad]
     rfl
    refine aaR (i:=32) (N:=some 66) (v:=undef) (a':=?_) (jb 35 8589934591) rfl rfl (aaE HT_.out (by kernel_rfl)) (fun _ _ _ h=>h) (Or.inr ⟨by rfl,rfl⟩) ?_ ?_
    rotate_left
    ·simp only [Act.put,List.setIfInBounds_toArray,List.set_cons_zero,List.set_cons_succ,aac,aad]
     rfl
    refine jp 33 67 (jb 35 17179869183) ?_
    refine jp 34 68 (jb 35 34359738367) ?_
    refine abL (aba HT_.out (by kernel_rfl)) ?_
    try go_wp2
    go_roundg k2
    case measure=>have:=fI.out;have:=fJ.out;omega
    exact⟨(wrap64 (aa+1)),qZ,H',⟨by have:=fI.out;have:=fJ.out;omega⟩,⟨qR aA⟩,⟨qS ax⟩,⟨qB⟩⟩
   replace H:=jE H;rcases H with ⟨gD,gF,H⟩ | ⟨c40,gD,gF,H⟩
   ·replace H:=jI H;obtain⟨iI,H⟩:=H
    replace H:=jI H;obtain⟨iJ,H⟩:=H
    replace H:=jI H;obtain⟨iK,H⟩:=H
    obtain⟨iB,fe⟩:∃ b_:Bool,b_=(aby false (aaQ ag aa) ((aa0 af aa).f2)):=⟨_,rfl⟩
    replace H:(if (iB=true) then (acG k2 af ag (wrap64 (aa+1))) else (some false))=some r:=by rw [<- fe] at H;exact H
    have fM:=aM fe;clear fe
    replace H:=jB H;rcases H with ⟨rfl,H⟩ | ⟨rfl,H⟩
    ·have H':=aM H
     clear H
     try go_wp2
     replace aA:=aM (R_drew aA.out)
     replace ax:=aM (S_drew ax.out)
     replace HB:=aM (aae HB.out)
     have aB:0<=(aa:Int):=qD
     have aC:aa < (af.length:Int):=qD
     obtain⟨ae,bG,ai,aj,ak,au,av⟩:=aaL (R_reads' aA.out).2.2 aa aB aC
     cases bG
     replace aB:=eq_true aB
     replace aC:=eq_true aC
     have bV:0<=(aa:Int):=qD
     have bW:aa < (af.length:Int):=qD
     obtain⟨dH,dZ,aX,aY,aZ,bg,bi⟩:=aaL (R_reads' aA.out).2.2 aa bV bW
     obtain rfl:ae=dH:=(by injection dZ)
     replace bV:=eq_true bV
     replace bW:=eq_true bW
     obtain⟨ja,je,gG⟩:=S_slice ax.out
     (first|subst gG|(injection gG with dW eO dX;have eP:=dW.symm;have eQ:=dX.symm;clear dW eO dX;subst eP;subst eQ))
     have dn:0<=(aa:Int):=qD
     have dw:aa < (ag.length:Int):=qD
     obtain⟨eB,fD,dQ,fo,bC,bX,bY⟩:=aee (S_reads' ax.out).2.2 aa dn dw
     cases fo
     obtain⟨fU,dR,dS,dx⟩:=S_get ax.out [] aa dn (by first|exact dw|exact qD|(have e_:=(S_reads' ax.out).1;omega))
     obtain⟨fq,rfl,bD⟩:=dS
     have aI:=dx 0 _ rfl
     rw [Nat.add_zero,show ((Kd.slice 4 Kd.bool)).sz=1 from rfl,Nat.mul_one] at aI
     replace aI:=Option.some.inj (aI.symm.trans bC)
     rw [aI] at bD
     have dI:=aM (show Kd.R Kd.bool 4 _ _ _ _ (aaQ ag aa) from bD)
     clear aI bD
     clear dx dR
     have bZ:=aM bY
     have fu:=aM bX
     clear bY bX
     replace dn:=eq_true dn
     replace dw:=eq_true dw
     have dJ:0<=(aa:Int):=qD
     have dK:aa < (af.length:Int):=qD
     obtain⟨eD,fw,cu,cz,cB,cK,cO⟩:=aaL (R_reads' aA.out).2.2 aa dJ dK
     obtain rfl:ae=eD:=(by injection fw)
     replace dJ:=eq_true dJ
     replace dK:=eq_true dK
     have dL:0<=(((aa0 af aa).f2):Int):=qD
     have dM:((aa0 af aa).f2) < ((aaQ ag aa).length:Int):=qD
     obtain⟨dN,fA,bE⟩:=Kd.at_bool (kC bZ.out) ((aa0 af aa).f2) dL dM
     (try rw [<- fM.out] at bE)
     cases fA
     replace dL:=eq_true dL
     replace dM:=eq_true dM
     refine abr (n:=35) (S:=fun w'=>w'.cell? (ae.add ((aa).toNat*5))=some (iV ((aa0 af aa).f0))/\w'.cell? ⟨(ae.add ((aa).toNat*5)).block,(ae.add ((aa).toNat*5)).off+1,none⟩=some (iV ((aa0 af aa).f1))/\w'.cell? ⟨(ae.add ((aa).toNat*5)).block,(ae.add ((aa).toNat*5)).off+2,none⟩=some (iV ((aa0 af aa).f2))/\w'.cell? ⟨(ae.add ((aa).toNat*5)).block,(ae.add ((aa).toNat*5)).off+3,none⟩=some (iV ((aa0 af aa).f3))/\w'.cell? ⟨(ae.add ((aa).toNat*5)).block,(ae.add ((aa).toNat*5)).off+4,none⟩=some (iV ((aa0 af aa).f4))/\w'.cell? (ae.add ((aa).toNat*5))=some (iV ((aa0 af aa).f0))/\w'.cell? ⟨(ae.add ((aa).toNat*5)).block,(ae.add ((aa).toNat*5)).off+1,none⟩=some (iV ((aa0 af aa).f1))/\w'.cell? ⟨(ae.add ((aa).toNat*5)).block,(ae.add ((aa).toNat*5)).off+2,none⟩=some (iV ((aa0 af aa).f2))/\w'.cell? ⟨(ae.add ((aa).toNat*5)).block,(ae.add ((aa).toNat*5)).off+3,none⟩=some (iV ((aa0 af aa).f3))/\w'.cell? ⟨(ae.add ((aa).toNat*5)).block,(ae.add ((aa).toNat*5)).off+4,none⟩=some (iV ((aa0 af aa).f4))/\w'.cell? (eB.add (aa).toNat)=some (.slice (some dN) (aaQ ag aa).length dQ)/\w'.cell? (ae.add ((aa).toNat*5))=some (iV ((aa0 af aa).f0))/\w'.cell? ⟨(ae.add ((aa).toNat*5)).block,(ae.add ((aa).toNat*5)).off+1,none⟩=some (iV ((aa0 af aa).f1))/\w'.cell? ⟨(ae.add ((aa).toNat*5)).block,(ae.add ((aa).toNat*5)).off+2,none⟩=some (iV ((aa0 af aa).f2))/\w'.cell? ⟨(ae.add ((aa).toNat*5)).block,(ae.add ((aa).toNat*5)).off+3,none⟩=some (iV ((aa0 af aa).f3))/\w'.cell? ⟨(ae.add ((aa).toNat*5)).block,(ae.add ((aa).toNat*5)).off+4,none⟩=some (iV ((aa0 af aa).f4))/\w'.cell? (dN.add (((aa0 af aa).f2)).toNat)=some (.bool true)) (ds:=[]) (jb 35 0) (by kernel_rfl) rfl rfl ⟨ai,aj,ak,au,av,aX,aY,aZ,bg,bi,bC,cu,cz,cB,cK,cO,bE⟩ (fun hHeld=>?_);refine aaN aci abV (fun HT_ HW_=>?_)
     generalize wr.drew=jr at aA ax HB dI bZ ai aj ak au av aX aY aZ bg bi bC cu cz cB cK cO bE hHeld ⊢
     refine jp 0 34 (jb 35 1) ?_
     refine jp 1 35 (jb 35 3) ?_
     refine jp 2 36 (jb 35 7) ?_
     refine jp 3 37 (jb 35 15) ?_
     refine jt 4 38 (jb 35 31) ?_
     refine jp 5 39 (jb 35 63) ?_
     refine jp 6 40 (jb 35 127) ?_
     refine aaR (i:=7) (N:=some 41) (v:=undef) (a':=?_) (jb 35 255) rfl rfl (aaE HT_.out (by kernel_rfl)) (fun _ _ _ h=>h) (Or.inr ⟨by rfl,rfl⟩) ?_ ?_
     rotate_left
     ·simp only [Act.put,List.setIfInBounds_toArray,List.set_cons_zero,List.set_cons_succ,aac,aad]
      rfl
     refine aaR (i:=8) (N:=some 42) (v:=undef) (a':=?_) (jb 35 511) rfl rfl (aaE HT_.out (by kernel_rfl)) (fun _ _ _ h=>h) (Or.inr ⟨by rfl,rfl⟩) ?_ ?_
     rotate_left
     ·simp only [Act.put,List.setIfInBounds_toArray,List.set_cons_zero,List.set_cons_succ,aac,aad]
      rfl
     refine aaR (i:=9) (N:=some 43) (v:=undef) (a':=?_) (jb 35 1023) rfl rfl (aaE HT_.out (by kernel_rfl)) (fun _ _ _ h=>h) (Or.inr ⟨by rfl,rfl⟩) ?_ ?_
     rotate_left
     ·simp only [Act.put,List.setIfInBounds_toArray,List.set_cons_zero,List.set_cons_succ,aac,aad]
      rfl
     refine aaR (i:=10) (N:=some 44) (v:=undef) (a':=?_) (jb 35 2047) rfl rfl (aaE HT_.out (by kernel_rfl)) (fun _ _ _ h=>h) (Or.inr ⟨by rfl,rfl⟩) ?_ ?_
     rotate_left
     ·simp only [Act.put,List.setIfInBounds_toArray,List.set_cons_zero,List.set_cons_succ,aac,aad]
      rfl
     refine aaR (i:=11) (N:=some 45) (v:=undef) (a':=?_) (jb 35 4095) rfl rfl (aaE HT_.out (by kernel_rfl)) (fun _ _ _ h=>h) (Or.inr ⟨by rfl,rfl⟩) ?_ ?_
     rotate_left
     ·simp only [Act.put,List.setIfInBounds_toArray,List.set_cons_zero,List.set_cons_succ,aac,aad]
      rfl
     refine jp 12 46 (jb 35 8191) ?_
     refine jp 13 47 (jb 35 16383) ?_
     refine jp 14 48 (jb 35 32767) ?_
     refine jp 15 49 (jb 35 65535) ?_
     refine jp 16 50 (jb 35 131071) ?_
     refine jp 17 51 (jb 35 262143) ?_
     refine jt 18 52 (jb 35 524287) ?_
     refine jp 19 53 (jb 35 1048575) ?_
     refine jp 20 54 (jb 35 2097151) ?_
     refine jp 21 55 (jb 35 4194303) ?_
     refine jp 22 56 (jb 35 8388607) ?_
     refine jp 23 57 (jb 35 16777215) ?_
     refine jp 25 59 (jb 35 50331647) ?_
     refine jp 26 60 (jb 35 117440511) ?_
     refine jp 27 61 (jb 35 251658239) ?_
     refine jp 28 62 (jb 35 520093695) ?_
     refine jt 24 58 (jb 35 536870911) ?_
     refine jt 29 63 (jb 35 1073741823) ?_
     refine jp 30 64 (jb 35 2147483647) ?_
     refine jt 31 65 (jb 35 4294967295) ?_
     refine jp 32 66 (jb 35 8589934591) ?_
     refine jp 33 67 (jb 35 17179869183) ?_
     refine jp 34 68 (jb 35 34359738367) ?_
     refine abL (aba HT_.out (by kernel_rfl)) ?_
     try go_wp2
     go_roundg k2
     case measure=>have:=fI.out;have:=fJ.out;omega
     exact⟨(wrap64 (aa+1)),qZ,H',⟨by have:=fI.out;have:=fJ.out;omega⟩,⟨qR aA⟩,⟨qS ax⟩,⟨qB⟩⟩
    obtain rfl:=oJ H
    try go_wp2
    replace aA:=aM (R_drew aA.out)
    replace ax:=aM (S_drew ax.out)
    replace HB:=aM (aae HB.out)
    have aB:0<=(aa:Int):=qD
    have aC:aa < (af.length:Int):=qD
    obtain⟨ae,bG,ai,aj,ak,au,av⟩:=aaL (R_reads' aA.out).2.2 aa aB aC
    cases bG
    replace aB:=eq_true aB
    replace aC:=eq_true aC
    have bV:0<=(aa:Int):=qD
    have bW:aa < (af.length:Int):=qD
    obtain⟨dH,dZ,aX,aY,aZ,bg,bi⟩:=aaL (R_reads' aA.out).2.2 aa bV bW
    obtain rfl:ae=dH:=(by injection dZ)
    replace bV:=eq_true bV
    replace bW:=eq_true bW
    obtain⟨jf,jg,gH⟩:=S_slice ax.out
    (first|subst gH|(injection gH with dW eO dX;have eP:=dW.symm;have eQ:=dX.symm;clear dW eO dX;subst eP;subst eQ))
    have dn:0<=(aa:Int):=qD
    have dw:aa < (ag.length:Int):=qD
    obtain⟨eB,fD,dQ,fo,bC,bX,bY⟩:=aee (S_reads' ax.out).2.2 aa dn dw
    cases fo
    obtain⟨fU,dR,dS,dx⟩:=S_get ax.out [] aa dn (by first|exact dw|exact qD|(have e_:=(S_reads' ax.out).1;omega))
    obtain⟨fq,rfl,bD⟩:=dS
    have aI:=dx 0 _ rfl
    rw [Nat.add_zero,show ((Kd.slice 4 Kd.bool)).sz=1 from rfl,Nat.mul_one] at aI
    replace aI:=Option.some.inj (aI.symm.trans bC)
    rw [aI] at bD
    have dI:=aM (show Kd.R Kd.bool 4 _ _ _ _ (aaQ ag aa) from bD)
    clear aI bD
    clear dx dR
    have bZ:=aM bY
    have fu:=aM bX
    clear bY bX
    replace dn:=eq_true dn
    replace dw:=eq_true dw
    have dJ:0<=(aa:Int):=qD
    have dK:aa < (af.length:Int):=qD
    obtain⟨eD,fw,cu,cz,cB,cK,cO⟩:=aaL (R_reads' aA.out).2.2 aa dJ dK
    obtain rfl:ae=eD:=(by injection fw)
    replace dJ:=eq_true dJ
    replace dK:=eq_true dK
    have dL:0<=(((aa0 af aa).f2):Int):=qD
    have dM:((aa0 af aa).f2) < ((aaQ ag aa).length:Int):=qD
    obtain⟨dN,fA,bE⟩:=Kd.at_bool (kC bZ.out) ((aa0 af aa).f2) dL dM
    (try rw [<- fM.out] at bE)
    cases fA
    replace dL:=eq_true dL
    replace dM:=eq_true dM
    refine abr (n:=35) (S:=fun w'=>w'.cell? (ae.add ((aa).toNat*5))=some (iV ((aa0 af aa).f0))/\w'.cell? ⟨(ae.add ((aa).toNat*5)).block,(ae.add ((aa).toNat*5)).off+1,none⟩=some (iV ((aa0 af aa).f1))/\w'.cell? ⟨(ae.add ((aa).toNat*5)).block,(ae.add ((aa).toNat*5)).off+2,none⟩=some (iV ((aa0 af aa).f2))/\w'.cell? ⟨(ae.add ((aa).toNat*5)).block,(ae.add ((aa).toNat*5)).off+3,none⟩=some (iV ((aa0 af aa).f3))/\w'.cell? ⟨(ae.add ((aa).toNat*5)).block,(ae.add ((aa).toNat*5)).off+4,none⟩=some (iV ((aa0 af aa).f4))/\w'.cell? (ae.add ((aa).toNat*5))=some (iV ((aa0 af aa).f0))/\w'.cell? ⟨(ae.add ((aa).toNat*5)).block,(ae.add ((aa).toNat*5)).off+1,none⟩=some (iV ((aa0 af aa).f1))/\w'.cell? ⟨(ae.add ((aa).toNat*5)).block,(ae.add ((aa).toNat*5)).off+2,none⟩=some (iV ((aa0 af aa).f2))/\w'.cell? ⟨(ae.add ((aa).toNat*5)).block,(ae.add ((aa).toNat*5)).off+3,none⟩=some (iV ((aa0 af aa).f3))/\w'.cell? ⟨(ae.add ((aa).toNat*5)).block,(ae.add ((aa).toNat*5)).off+4,none⟩=some (iV ((aa0 af aa).f4))/\w'.cell? (eB.add (aa).toNat)=some (.slice (some dN) (aaQ ag aa).length dQ)/\w'.cell? (ae.add ((aa).toNat*5))=some (iV ((aa0 af aa).f0))/\w'.cell? ⟨(ae.add ((aa).toNat*5)).block,(ae.add ((aa).toNat*5)).off+1,none⟩=some (iV ((aa0 af aa).f1))/\w'.cell? ⟨(ae.add ((aa).toNat*5)).block,(ae.add ((aa).toNat*5)).off+2,none⟩=some (iV ((aa0 af aa).f2))/\w'.cell? ⟨(ae.add ((aa).toNat*5)).block,(ae.add ((aa).toNat*5)).off+3,none⟩=some (iV ((aa0 af aa).f3))/\w'.cell? ⟨(ae.add ((aa).toNat*5)).block,(ae.add ((aa).toNat*5)).off+4,none⟩=some (iV ((aa0 af aa).f4))/\w'.cell? (dN.add (((aa0 af aa).f2)).toNat)=some (.bool false)) (ds:=[]) (jb 35 0) (by kernel_rfl) rfl rfl ⟨ai,aj,ak,au,av,aX,aY,aZ,bg,bi,bC,cu,cz,cB,cK,cO,bE⟩ (fun hHeld=>?_);refine aaN aci abV (fun HT_ HW_=>?_)
    generalize wr.drew=jv at aA ax HB dI bZ ai aj ak au av aX aY aZ bg bi bC cu cz cB cK cO bE hHeld ⊢
    refine jp 0 34 (jb 35 1) ?_
    refine jp 1 35 (jb 35 3) ?_
    refine jp 2 36 (jb 35 7) ?_
    refine jp 3 37 (jb 35 15) ?_
    refine jt 4 38 (jb 35 31) ?_
    refine jp 5 39 (jb 35 63) ?_
    refine jp 6 40 (jb 35 127) ?_
    refine aaR (i:=7) (N:=some 41) (v:=undef) (a':=?_) (jb 35 255) rfl rfl (aaE HT_.out (by kernel_rfl)) (fun _ _ _ h=>h) (Or.inr ⟨by rfl,rfl⟩) ?_ ?_
    rotate_left
    ·simp only [Act.put,List.setIfInBounds_toArray,List.set_cons_zero,List.set_cons_succ,aac,aad]
     rfl
    refine aaR (i:=8) (N:=some 42) (v:=undef) (a':=?_) (jb 35 511) rfl rfl (aaE HT_.out (by kernel_rfl)) (fun _ _ _ h=>h) (Or.inr ⟨by rfl,rfl⟩) ?_ ?_
    rotate_left
    ·simp only [Act.put,List.setIfInBounds_toArray,List.set_cons_zero,List.set_cons_succ,aac,aad]
     rfl
    refine aaR (i:=9) (N:=some 43) (v:=undef) (a':=?_) (jb 35 1023) rfl rfl (aaE HT_.out (by kernel_rfl)) (fun _ _ _ h=>h) (Or.inr ⟨by rfl,rfl⟩) ?_ ?_
    rotate_left
    ·simp only [Act.put,List.setIfInBounds_toArray,List.set_cons_zero,List.set_cons_succ,aac,aad]
     rfl
    refine aaR (i:=10) (N:=some 44) (v:=undef) (a':=?_) (jb 35 2047) rfl rfl (aaE HT_.out (by kernel_rfl)) (fun _ _ _ h=>h) (Or.inr ⟨by rfl,rfl⟩) ?_ ?_
    rotate_left
    ·simp only [Act.put,List.setIfInBounds_toArray,List.set_cons_zero,List.set_cons_succ,aac,aad]
     rfl
    refine aaR (i:=11) (N:=some 45) (v:=undef) (a':=?_) (jb 35 4095) rfl rfl (aaE HT_.out (by kernel_rfl)) (fun _ _ _ h=>h) (Or.inr ⟨by rfl,rfl⟩) ?_ ?_
    rotate_left
    ·simp only [Act.put,List.setIfInBounds_toArray,List.set_cons_zero,List.set_cons_succ,aac,aad]
     rfl
    refine jp 12 46 (jb 35 8191) ?_
    refine jp 13 47 (jb 35 16383) ?_
    refine jp 14 48 (jb 35 32767) ?_
    refine jp 15 49 (jb 35 65535) ?_
    refine jp 16 50 (jb 35 131071) ?_
    refine jp 17 51 (jb 35 262143) ?_
    refine jt 18 52 (jb 35 524287) ?_
    refine jp 19 53 (jb 35 1048575) ?_
    refine jp 20 54 (jb 35 2097151) ?_
    refine jp 21 55 (jb 35 4194303) ?_
    refine jp 22 56 (jb 35 8388607) ?_
    refine jp 23 57 (jb 35 16777215) ?_
    refine jp 25 59 (jb 35 50331647) ?_
    refine jp 26 60 (jb 35 117440511) ?_
    refine jp 27 61 (jb 35 251658239) ?_
    refine jp 28 62 (jb 35 520093695) ?_
    refine jt 24 58 (jb 35 536870911) ?_
    refine jt 29 63 (jb 35 1073741823) ?_
    refine jp 30 64 (jb 35 2147483647) ?_
    refine jt 31 65 (jb 35 4294967295) ?_
    refine jp 32 66 (jb 35 8589934591) ?_
    refine jp 33 67 (jb 35 17179869183) ?_
    refine jp 34 68 (jb 35 34359738367) ?_
    refine abL (aba HT_.out (by kernel_rfl)) ?_
    try go_wp2
    go_ret
    exact⟨qW,qB⟩
   have H':=aM H
   clear H
   try go_wp2
   replace aA:=aM (R_drew aA.out)
   replace ax:=aM (S_drew ax.out)
   replace HB:=aM (aae HB.out)
   have aB:0<=(aa:Int):=qD
   have aC:aa < (af.length:Int):=qD
   obtain⟨ae,bG,ai,aj,ak,au,av⟩:=aaL (R_reads' aA.out).2.2 aa aB aC
   cases bG
   replace aB:=eq_true aB
   replace aC:=eq_true aC
   have bV:0<=(aa:Int):=qD
   have bW:aa < (af.length:Int):=qD
   obtain⟨dH,dZ,aX,aY,aZ,bg,bi⟩:=aaL (R_reads' aA.out).2.2 aa bV bW
   obtain rfl:ae=dH:=(by injection dZ)
   replace bV:=eq_true bV
   replace bW:=eq_true bW
   refine abr (n:=35) (S:=fun w'=>w'.cell? (ae.add ((aa).toNat*5))=some (iV ((aa0 af aa).f0))/\w'.cell? ⟨(ae.add ((aa).toNat*5)).block,(ae.add ((aa).toNat*5)).off+1,none⟩=some (iV ((aa0 af aa).f1))/\w'.cell? ⟨(ae.add ((aa).toNat*5)).block,(ae.add ((aa).toNat*5)).off+2,none⟩=some (iV ((aa0 af aa).f2))/\w'.cell? ⟨(ae.add ((aa).toNat*5)).block,(ae.add ((aa).toNat*5)).off+3,none⟩=some (iV ((aa0 af aa).f3))/\w'.cell? ⟨(ae.add ((aa).toNat*5)).block,(ae.add ((aa).toNat*5)).off+4,none⟩=some (iV ((aa0 af aa).f4))/\w'.cell? (ae.add ((aa).toNat*5))=some (iV ((aa0 af aa).f0))/\w'.cell? ⟨(ae.add ((aa).toNat*5)).block,(ae.add ((aa).toNat*5)).off+1,none⟩=some (iV ((aa0 af aa).f1))/\w'.cell? ⟨(ae.add ((aa).toNat*5)).block,(ae.add ((aa).toNat*5)).off+2,none⟩=some (iV ((aa0 af aa).f2))/\w'.cell? ⟨(ae.add ((aa).toNat*5)).block,(ae.add ((aa).toNat*5)).off+3,none⟩=some (iV ((aa0 af aa).f3))/\w'.cell? ⟨(ae.add ((aa).toNat*5)).block,(ae.add ((aa).toNat*5)).off+4,none⟩=some (iV ((aa0 af aa).f4))) (ds:=[]) (jb 35 0) (by kernel_rfl) rfl rfl ⟨ai,aj,ak,au,av,aX,aY,aZ,bg,bi⟩ (fun hHeld=>?_);refine aaN aci abV (fun HT_ HW_=>?_)
   generalize wr.drew=jw at aA ax HB ai aj ak au av aX aY aZ bg bi hHeld ⊢
   refine jp 0 34 (jb 35 1) ?_
   refine jp 1 35 (jb 35 3) ?_
   refine jp 2 36 (jb 35 7) ?_
   refine jp 3 37 (jb 35 15) ?_
   refine jt 4 38 (jb 35 31) ?_
   refine jp 5 39 (jb 35 63) ?_
   refine jp 6 40 (jb 35 127) ?_
   refine aaR (i:=7) (N:=some 41) (v:=undef) (a':=?_) (jb 35 255) rfl rfl (aaE HT_.out (by kernel_rfl)) (fun _ _ _ h=>h) (Or.inr ⟨by rfl,rfl⟩) ?_ ?_
   rotate_left
   ·simp only [Act.put,List.setIfInBounds_toArray,List.set_cons_zero,List.set_cons_succ,aac,aad]
    rfl
   refine aaR (i:=8) (N:=some 42) (v:=undef) (a':=?_) (jb 35 511) rfl rfl (aaE HT_.out (by kernel_rfl)) (fun _ _ _ h=>h) (Or.inr ⟨by rfl,rfl⟩) ?_ ?_
   rotate_left
   ·simp only [Act.put,List.setIfInBounds_toArray,List.set_cons_zero,List.set_cons_succ,aac,aad]
    rfl
   refine aaR (i:=9) (N:=some 43) (v:=undef) (a':=?_) (jb 35 1023) rfl rfl (aaE HT_.out (by kernel_rfl)) (fun _ _ _ h=>h) (Or.inr ⟨by rfl,rfl⟩) ?_ ?_
   rotate_left
   ·simp only [Act.put,List.setIfInBounds_toArray,List.set_cons_zero,List.set_cons_succ,aac,aad]
    rfl
   refine aaR (i:=10) (N:=some 44) (v:=undef) (a':=?_) (jb 35 2047) rfl rfl (aaE HT_.out (by kernel_rfl)) (fun _ _ _ h=>h) (Or.inr ⟨by rfl,rfl⟩) ?_ ?_
   rotate_left
   ·simp only [Act.put,List.setIfInBounds_toArray,List.set_cons_zero,List.set_cons_succ,aac,aad]
    rfl
   refine aaR (i:=11) (N:=some 45) (v:=undef) (a':=?_) (jb 35 4095) rfl rfl (aaE HT_.out (by kernel_rfl)) (fun _ _ _ h=>h) (Or.inr ⟨by rfl,rfl⟩) ?_ ?_
   rotate_left
   ·simp only [Act.put,List.setIfInBounds_toArray,List.set_cons_zero,List.set_cons_succ,aac,aad]
    rfl
   refine jp 12 46 (jb 35 8191) ?_
   refine jp 13 47 (jb 35 16383) ?_
   refine jp 14 48 (jb 35 32767) ?_
   refine jp 15 49 (jb 35 65535) ?_
   refine jp 16 50 (jb 35 131071) ?_
   refine jp 17 51 (jb 35 262143) ?_
   refine jt 18 52 (jb 35 524287) ?_
   refine jp 19 53 (jb 35 1048575) ?_
   refine jp 20 54 (jb 35 2097151) ?_
   refine aaR (i:=21) (N:=some 55) (v:=undef) (a':=?_) (jb 35 4194303) rfl rfl (aaE HT_.out (by kernel_rfl)) (fun _ _ _ h=>h) (Or.inr ⟨by rfl,rfl⟩) ?_ ?_
   rotate_left
   ·simp only [Act.put,List.setIfInBounds_toArray,List.set_cons_zero,List.set_cons_succ,aac,aad]
    rfl
   refine aaR (i:=22) (N:=some 56) (v:=undef) (a':=?_) (jb 35 8388607) rfl rfl (aaE HT_.out (by kernel_rfl)) (fun _ _ _ h=>h) (Or.inr ⟨by rfl,rfl⟩) ?_ ?_
   rotate_left
   ·simp only [Act.put,List.setIfInBounds_toArray,List.set_cons_zero,List.set_cons_succ,aac,aad]
    rfl
   refine aaR (i:=23) (N:=some 57) (v:=undef) (a':=?_) (jb 35 16777215) rfl rfl (aaE HT_.out (by kernel_rfl)) (fun _ _ _ h=>h) (Or.inr ⟨by rfl,rfl⟩) ?_ ?_
   rotate_left
   ·simp only [Act.put,List.setIfInBounds_toArray,List.set_cons_zero,List.set_cons_succ,aac,aad]
    rfl
   refine aaR (i:=24) (N:=some 58) (v:=undef) (a':=?_) (jb 35 33554431) rfl rfl (aaE HT_.out (by kernel_rfl)) (fun _ _ _ h=>h) (Or.inr ⟨by rfl,rfl⟩) ?_ ?_
   rotate_left
   ·simp only [Act.put,List.setIfInBounds_toArray,List.set_cons_zero,List.set_cons_succ,aac,aad]
    rfl
   refine aaR (i:=25) (N:=some 59) (v:=undef) (a':=?_) (jb 35 67108863) rfl rfl (aaE HT_.out (by kernel_rfl)) (fun _ _ _ h=>h) (Or.inr ⟨by rfl,rfl⟩) ?_ ?_
   rotate_left
   ·simp only [Act.put,List.setIfInBounds_toArray,List.set_cons_zero,List.set_cons_succ,aac,aad]
    rfl
   refine aaR (i:=26) (N:=some 60) (v:=undef) (a':=?_) (jb 35 134217727) rfl rfl (aaE HT_.out (by kernel_rfl)) (fun _ _ _ h=>h) (Or.inr ⟨by rfl,rfl⟩) ?_ ?_
   rotate_left
   ·simp only [Act.put,List.setIfInBounds_toArray,List.set_cons_zero,List.set_cons_succ,aac,aad]
    rfl
   refine aaR (i:=27) (N:=some 61) (v:=undef) (a':=?_) (jb 35 268435455) rfl rfl (aaE HT_.out (by kernel_rfl)) (fun _ _ _ h=>h) (Or.inr ⟨by rfl,rfl⟩) ?_ ?_
   rotate_left
   ·simp only [Act.put,List.setIfInBounds_toArray,List.set_cons_zero,List.set_cons_succ,aac,aad]
    rfl
   refine aaR (i:=28) (N:=some 62) (v:=undef) (a':=?_) (jb 35 536870911) rfl rfl (aaE HT_.out (by kernel_rfl)) (fun _ _ _ h=>h) (Or.inr ⟨by rfl,rfl⟩) ?_ ?_
   rotate_left
   ·simp only [Act.put,List.setIfInBounds_toArray,List.set_cons_zero,List.set_cons_succ,aac,aad]
    rfl
   refine aaR (i:=29) (N:=some 63) (v:=undef) (a':=?_) (jb 35 1073741823) rfl rfl (aaE HT_.out (by kernel_rfl)) (fun _ _ _ h=>h) (Or.inr ⟨by rfl,rfl⟩) ?_ ?_
   rotate_left
   ·simp only [Act.put,List.setIfInBounds_toArray,List.set_cons_zero,List.set_cons_succ,aac,aad]
    rfl
   refine aaR (i:=30) (N:=some 64) (v:=undef) (a':=?_) (jb 35 2147483647) rfl rfl (aaE HT_.out (by kernel_rfl)) (fun _ _ _ h=>h) (Or.inr ⟨by rfl,rfl⟩) ?_ ?_
   rotate_left
   ·simp only [Act.put,List.setIfInBounds_toArray,List.set_cons_zero,List.set_cons_succ,aac,aad]
    rfl
   refine aaR (i:=31) (N:=some 65) (v:=undef) (a':=?_) (jb 35 4294967295) rfl rfl (aaE HT_.out (by kernel_rfl)) (fun _ _ _ h=>h) (Or.inr ⟨by rfl,rfl⟩) ?_ ?_
   rotate_left
   ·simp only [Act.put,List.setIfInBounds_toArray,List.set_cons_zero,List.set_cons_succ,aac,aad]
    rfl
   refine aaR (i:=32) (N:=some 66) (v:=undef) (a':=?_) (jb 35 8589934591) rfl rfl (aaE HT_.out (by kernel_rfl)) (fun _ _ _ h=>h) (Or.inr ⟨by rfl,rfl⟩) ?_ ?_
   rotate_left
   ·simp only [Act.put,List.setIfInBounds_toArray,List.set_cons_zero,List.set_cons_succ,aac,aad]
    rfl
   refine jp 33 67 (jb 35 17179869183) ?_
   refine jp 34 68 (jb 35 34359738367) ?_
   refine abL (aba HT_.out (by kernel_rfl)) ?_
   try go_wp2
   go_roundg k2
   case measure=>have:=fI.out;have:=fJ.out;omega
   exact⟨(wrap64 (aa+1)),qZ,H',⟨by have:=fI.out;have:=fJ.out;omega⟩,⟨qR aA⟩,⟨qS ax⟩,⟨qB⟩⟩
  obtain rfl:=oJ H
  go_wp2
  go_ret
  exact⟨qW,qB⟩
/-- THE ONE PURE STATEMENT of SbG: yours. -/
def SbG.Pure:Prop:=∀ (l0:List Int),l0.length<=maxLen->l0.length*1<=140737488351232->(∀ x∈l0,(Lit.int .u8 x).wf=true)->∃ k,SbG.f k l0=some true
theorem SbG.walk (P:SbG.Pure) (a0:Option Addr) (fE cap0:Nat) (z0:List Int) (w:World) (w0:(a0=none/\fE=0/\cap0=0/\z0=[])\/∃ x,a0=some x/\fE<=cap0/\cap0<=maxLen/\z0.length=cap0/\(∀ i,i < z0.length->w.cell? (x.add i)=some (.int .u8 (z0.getD i 0)))/\∀ n∈z0,(Lit.int .u8 n).wf=true) (y0:fE*1<=140737488351232) :
  Calls prog 5 #[.slice a0 fE cap0] w fun e w'=>e = .returned (.bool true)/\Below w.heap.size w w':=by
 obtain⟨l0,rfl,hr0,hm0,hw0,hc0⟩:=ag6 w0
 obtain⟨k,h⟩:=P l0 hm0 y0 hw0
 refine (SbG.calls k _ _ l0 true w (C_of_reads (d:=(0:Int)) (h1:=fun _=>rfl) hr0) hc0 h).mono ?_
 rintro e w' ⟨rfl,hd⟩
 exact⟨rfl,hd⟩
def afc:Nat->List S27->List Int->List Int->List S27->Int->Int->Option (List Int)
 | 0,_,_,_,_,_,_=>none
 | k+1,x0,x3,x4,aK,bg,aG=>if aG < bg then (if 0<=aG then (if aG < (aK.length:Int) then ((aiG ((aa0 aK aG).f0) ((aa0 aK aG).f1) ((aa0 aK aG).f2) ((aa0 aK aG).f3) ((aa0 aK aG).f4)).bind fun aN=>(if aN>=0 then (if ((aa0 aK aG).f0)=7 then (afc k x0 x3 x4 aK bg (wrap64 (aG+1))) else ((Sa7.f k x0 x4 aG).bind fun aJ=>((ajK aJ aN).bind fun aU=>(if aU=true then (afc k x0 x3 x4 aK bg (wrap64 (aG+1))) else (if x3.length < 17592186044416 then (afc k x0 (x3 ++ [aG]) x4 aK bg (wrap64 (aG+1))) else (none)))))) else (afc k x0 x3 x4 aK bg (wrap64 (aG+1))))) else (none)) else (none)) else (some x3)
def Sa5.f (k:Nat) (l0:List S27):Option (List Int):=(Sa6.f k l0).bind fun az=>(afc k l0 ([]:List Int) az l0 (l0.length:Int) 0)
end Go.Proofs.YtebpplallecogaaGreat.M
namespace Go.Proofs.YtebpplallecogaaGreat.M
open Go.Proofs.Tryz Go.RowKit Go.Proofs.YtebpplallecogaaGreatW.PrintWords Go.Proofs.YtebpplallecogaaGreatW.PrintLast Go.Proofs.YtebpplallecogaaGreatW.PrintMore
def aq3 (l0:List S27):Option (List S27):=if l0.length < 3518437208883 then some l0 else none
end Go.Proofs.YtebpplallecogaaGreat.M
namespace Go.Proofs.YtebpplallecogaaGreat.M
open Go.Proofs.Tryz Go.RowKit Go.Proofs.YtebpplallecogaaGreatW.PrintWords Go.Proofs.YtebpplallecogaaGreatW.PrintLast Go.Proofs.YtebpplallecogaaGreatW.PrintMore Kd
attribute [local go_sem] aao aam aaA aaz aag aaf aan aal
def ai6:Nat->List S27->List Int->Int->Int->Option ((List S27) × Bool)
 | 0,_,_,_,_=>none
 | k+1,x4,aY,bV,aH=>if aH < bV then (if 0<=aH then (if aH < (aY.length:Int) then (if 0<=(rd aY aH) then (if (rd aY aH) < (x4.length:Int) then (ai6 k (x4.set ((rd aY aH):Int).toNat (⟨4,0,0,0,wrap64 ((rd aY aH)+1)⟩:S27)) aY bV (wrap64 (aH+1))) else (none)) else (none)) else (none)) else (none)) else (some (x4,true))
def Sa1.f (k:Nat) (l0:List S27):Option ((List S27) × Bool):=(Sa0.f k l0).bind fun aI=>(if aI=true then ((aq3 l0).bind fun aA=>((Sa5.f k l0).bind fun aa=>(ai6 k aA aa (aa.length:Int) 0))) else (some (([]:List S27),false)))
end Go.Proofs.YtebpplallecogaaGreat.M
namespace Go.Proofs.YtebpplallecogaaGreat.M
open Go.Proofs.Tryz Go.RowKit Go.Proofs.YtebpplallecogaaGreatW.PrintWords Go.Proofs.YtebpplallecogaaGreatW.PrintLast Go.Proofs.YtebpplallecogaaGreatW.PrintMore PM
theorem ajt {a b:Nat} (h:∀ r,a.testBit r=true->b.testBit r=true):a<=b:=by
 have e:a ||| b=b:=by
  apply Nat.eq_of_testBit_eq
  intro r
  rw [Nat.testBit_or]
  cases h1:a.testBit r
  ·rfl
  rw [h r h1]
  rfl
 rw [<- e]
 exact Nat.left_le_or
theorem sum_set:∀ (L:List Nat) (i x:Nat),i < L.length->(L.set i x).sum+L.getD i 0=L.sum+x
 | a :: L,0,x,h=>by simp;omega
 | a :: L,i+1,x,h=>by
  have:=sum_set L i x (by simpa using h)
  simp only [List.set_cons_succ,List.sum_cons,List.getD_cons_succ]
  omega
theorem anb:∀ (L:List Nat),(∀ x∈L,x < 4096)->L.sum<=4096*L.length
 | [],h=>by simp
 | a :: L,h=>by
  have:=anb L (fun x hx=>h x (List.mem_cons_of_mem _ hx))
  have:=h a List.mem_cons_self
  simp only [List.sum_cons,List.length_cons]
  omega
theorem ao2 {n:Nat} {L:List Nat} (h:Tab n L):L.sum<=4096*n:=by
 rw [<- h.1]
 refine anb L fun x hx=>?_
 obtain⟨i,hi,e⟩:=List.getElem_of_mem hx
 have:=h.2 i
 rw [List.getD_eq_getElem?_getD,List.getElem?_eq_getElem hi] at this
 rw [<- e]
 exact this
theorem ahK {c:List SQ} (h:CV (qs c)) {L:List Nat} (hL:Tab c.length L) {i:Nat} (hi:i < c.length) (r:Nat):(bf c L i).testBit r=true↔((∃ j∈nx (q_ (qa c i)) i,(L.getD j 0).testBit r=true)/\sets (q_ (qa c i))≠r)\/uses (q_ (qa c i)) r:=by
 unfold bf
 rw [aox (abM h hi) (ahN hL _ _)]
 unfold aft
 rw [ahB]
 simp
/-- Below the next round,and within what is live. -/
structure Good (c:List SQ) (L:List Nat):Prop where
 tab:Tab c.length L
 up:∀ i,i < c.length->∀ r,(L.getD i 0).testBit r=true->(bf c L i).testBit r=true
 sound:∀ i,i < c.length->∀ r,(L.getD i 0).testBit r=true->Live (qs c) i r
theorem Good.step {c:List SQ} (h:CV (qs c)) {L:List Nat} (g:Good c L) {i:Nat} (hi:i < c.length):Good c (L.set i (bf c L i)):=by
 have hT:=g.tab.set i (bf c L i) (amI h g.tab hi)
 have hget:∀ j,(L.set i (bf c L i)).getD j 0=if j=i then bf c L i else L.getD j 0:=fun j=>ac5 L i j _ 0 (by rw [g.tab.1];exact hi)
 have hmono:∀ j r,j < c.length->(L.getD j 0).testBit r=true->((L.set i (bf c L i)).getD j 0).testBit r=true:=by
  intro j r hj hb
  rw [hget]
  split
  ·rename_i e
   subst e
   exact g.up j hi r hb
  exact hb
 have hbf:∀ j r,j < c.length->(bf c L j).testBit r=true->(bf c (L.set i (bf c L i)) j).testBit r=true:=by
  intro j r hj hb
  rw [ahK h g.tab hj] at hb
  rw [ahK h hT hj]
  rcases hb with ⟨⟨t,ht,hb⟩,hs⟩|hb
  ·exact .inl ⟨⟨t,ht,hmono t r (akk h hj t ht) hb⟩,hs⟩
  exact .inr hb
 refine⟨hT,fun j hj r hb=>?_,fun j hj r hb=>?_⟩
 ·rw [hget] at hb
  split at hb
  ·rename_i e
   subst e
   exact hbf j r hj hb
  exact hbf j r hj (g.up j hj r hb)
 rw [hget] at hb
 split at hb
 ·rename_i e
  subst e
  rw [ahK h g.tab hj] at hb
  rcases hb with ⟨⟨t,ht,hb⟩,hs⟩|hb
  ·exact Live.flow (by rw [ab2];exact hj) (by rw [ac6];exact hs) (by rw [ac6];exact ht) (g.sound t (akk h hj t ht) r hb)
  exact Live.use (by rw [ab2];exact hj) (by rw [ac6];exact hb)
 exact g.sound j hj r hb
theorem aiQ {c:List SQ} (h:CV (qs c)):∀ (i:Nat),i<=c.length->∀ (L:List Nat) (b:Bool),Good c L->Good c (rnd c i L b).1
 | 0,hi,L,b,g=>g
 | i+1,hi,L,b,g=>aiQ h i (by omega) _ _ (g.step h (by omega))
theorem ahu {c:List SQ}:∀ (i:Nat),i<=c.length->∀ (L:List Nat) (b:Bool),L.length=c.length->(rnd c i L b).2=false->b=false/\(rnd c i L b).1=L/\∀ j,j < i->bf c L j=L.getD j 0
 | 0,hi,L,b,hl,e=>⟨e,rfl,fun j hj=>by omega⟩
 | i+1,hi,L,b,hl,e=>by
  obtain⟨e1,e2,e3⟩:=ahu i (by omega) (L.set i (bf c L i)) _ (by rw [List.length_set];exact hl) e
  have f:=Bool.or_eq_false_iff.1 e1
  have f2:bf c L i=L.getD i 0:=by simpa using f.2
  have f3:L.set i (bf c L i)=L:=by rw [f2];exact afn (by omega)
  rw [f3] at e3
  refine⟨f.1,e2.trans f3,fun j hj=>?_⟩
  by_cases hji:j=i
  ·rw [hji]
   exact f2
  exact e3 j (by omega)
theorem ak7 {c:List SQ} (h:CV (qs c)):∀ (i:Nat),i<=c.length->∀ (L:List Nat) (b:Bool),Good c L->L.sum<=(rnd c i L b).1.sum/\((rnd c i L b).2=true->b=true\/L.sum < (rnd c i L b).1.sum)
 | 0,hi,L,b,g=>⟨Nat.le_refl _,fun e=>.inl e⟩
 | i+1,hi,L,b,g=>by
  obtain⟨h1,h2⟩:=ak7 h i (by omega) (L.set i (bf c L i)) (b || !decide (bf c L i=L.getD i 0)) (g.step h (i:=i) (by omega))
  have hs:=sum_set L i (bf c L i) (by rw [g.tab.1];omega)
  have hle:=ajt (g.up i (by omega))
  simp only [rnd]
  refine⟨by omega,fun e=>?_⟩
  rcases h2 e with e2|e2
  ·rcases Bool.or_eq_true_iff.1 e2 with e3|e3
   ·exact .inl e3
   have:bf c L i≠L.getD i 0:=by simpa using e3
   exact .inr (by omega)
  exact .inr (by omega)
/-- The table of what is live before each quad. -/
structure LT (c:List SQ) (L:List Nat):Prop where
 tab:Tab c.length L
 iff:∀ i,i < c.length->∀ r,(L.getD i 0).testBit r=true↔Live (qs c) i r
theorem ahA {c:List SQ} (h:CV (qs c)):∀ (m:Nat) (L:List Nat),Good c L->4096*c.length < m+L.sum->∃ T,LT c T/\Ev (fun k=>aep k c (rows L)) (rows T)/\Ev (fun k=>ado k c (ints L) true) (ints T)
 | 0,L,g,hm=>by
  have:=ao2 g.tab
  omega
 | m+1,L,g,hm=>by
  have h6:=abb h
  have hw:wrap64 ((c.length:Int) - 1)=(c.length:Int) - 1:=aaX (by omega) (by omega)
  have hr:=SaX.out h c.length (Nat.le_refl _) L false g.tab
  have hi:∀ v,Ev (fun k=>ado k c (ints (rnd c c.length L false).1) (rnd c c.length L false).2) v->Ev (fun k=>ac3 k c (ints L) false ((c.length:Int) - 1)) v:=fun v=>Sa6.out h c.length (Nat.le_refl _) L false g.tab
  cases e:(rnd c c.length L false).2 with
  | false =>
   obtain⟨_,e2,e3⟩:=ahu c.length (Nat.le_refl _) L false g.tab.1 e
   refine⟨L,⟨g.tab,fun i hi r=>?_⟩,?_,?_⟩
   ·refine live_of_closed (c:=qs c) (T:=fun i r=>i < c.length->(L.getD i 0).testBit r=true) (fun i r hi' ht=>g.sound i (by rwa [ab2] at hi') r (ht (by rwa [ab2] at hi'))) ?_ ?_ i r (by rw [ab2];exact hi) |>.symm.trans ⟨fun x=>x hi,fun x _=>x⟩ |>.symm
    ·intro i r _ hu hi
     rw [<- e3 i hi,ahK h g.tab hi]
     rw [ac6] at hu
     exact .inr hu
    intro i j r _ hs hj ht hi
    rw [<- e3 i hi,ahK h g.tab hi]
    rw [ac6] at hs hj
    exact .inl ⟨⟨j,hj,ht (akk h hi j hj)⟩,hs⟩
   ·refine Ev.succ ?_
    simp only [aep,SaX.f,hw]
    refine Ev.bind hr ?_
    refine aa5 (ab0 Ev.pure ?_) ?_
    ·rw [e2]
    simp [e]
   refine Ev.succ ?_
   simp only [ado,hw]
   refine aa2 (hi _ ?_)
   rw [e,e2]
   refine Ev.succ ?_
   simp only [ado]
   exact aa5 Ev.pure
  | true =>
   have hs:=(ak7 h c.length (Nat.le_refl _) L false g).2 e
   have hs':L.sum < (rnd c c.length L false).1.sum:=by
    rcases hs with x|x
    ·cases x
    exact x
   obtain⟨T,t1,t2,t3⟩:=ahA h m (rnd c c.length L false).1 (aiQ h c.length (Nat.le_refl _) L false g) (by omega)
   refine⟨T,t1,?_,?_⟩
   ·refine Ev.succ ?_
    simp only [aep,SaX.f,hw]
    refine Ev.bind hr (aa2 t2 ?_)
    exact e
   refine Ev.succ ?_
   simp only [ado,hw]
   refine aa2 (hi _ ?_)
   rw [e]
   exact t3
theorem akC {c:List SQ}:Good c (List.replicate c.length 0):=by
 have z:∀ i,(List.replicate c.length 0).getD i 0=0:=by
  intro i
  rw [List.getD_eq_getElem?_getD,List.getElem?_replicate]
  split <;> rfl
 refine⟨⟨by simp,fun i=>by rw [z];decide⟩,fun i hi r hb=>?_,fun i hi r hb=>?_⟩ <;>
 ·rw [z] at hb
  simp at hb
theorem ai0 {c:List SQ} (h6:c.length<=600) {v:List (List Bool)} (g:Ev (fun k=>aep k c (rows (List.replicate c.length 0))) v):∀ (d p:Nat),p+d=c.length->Ev (fun k=>af2 k c (rows (List.replicate p 0)) (p:Int)) v
 | 0,p,hp=>by
  refine Ev.succ ?_
  simp only [af2]
  refine aa5 ?_
  rw [show p=c.length from by omega]
  exact g
 | d+1,p,hp=>by
  refine Ev.succ ?_
  simp only [af2,acr,List.length_replicate,aaq (show p < 9223372036854775807 by omega)]
  refine aa2 (aa2 (aa2 ?_))
  have:=ai0 h6 g d (p+1) (by omega)
  rw [List.replicate_succ',show rows (List.replicate p 0 ++ [0])=rows (List.replicate p 0) ++ [List.replicate 12 false] from by simp [rows,row_zero]] at this
  exact this
/-- Both answer one table: what is live. -/
theorem akr {c:List SQ} (h:CV (qs c)):∃ T,LT c T/\Ev (fun k=>Saq.f k c) (rows T)/\Ev (fun k=>Sa6.f k c) (ints T):=by
 have h6:=abb h
 obtain⟨T,t1,t2,t3⟩:=ahA h (4096*c.length+1) (List.replicate c.length 0) akC (by omega)
 refine⟨T,t1,?_,?_⟩
 ·simp only [Saq.f]
  refine aaJ (Ev.bind (acI c) (aa2 ?_ (decide_eq_true h)))
  exact ai0 h6.2 t2 c.length 0 (by omega)
 simp only [Sa6.f,Int.toNat_natCast]
 refine aa2 (aa2 ?_)
 rw [show List.replicate c.length (0:Int)=ints (List.replicate c.length 0) from by simp [ints]]
 exact t3
theorem aja {s r:Nat} (hs:s < 65536) (hr:r < 16):ajK (s:Int) (r:Int)=some (s.testBit r):=by
 unfold ajK
 rw [if_pos (by omega),aov hs hr]
/-- A quad is dead. -/
def dd (c:List SQ) (L:List Nat) (i:Nat):Bool:=((qa c i).f0 == 1 || (qa c i).f0 == 2 || (qa c i).f0 == 3) && !(aft (q_ (qa c i)) i L).testBit (qa c i).f1.toNat
def ahH (c:List SQ) (L:List Nat) (i:Nat):SQ:=if dd c L i=true then ⟨4,0,0,0,((i+1:Nat):Int)⟩ else qa c i
def ae9 (L:List Nat) (c:List SQ):List SQ:=(List.range c.length).map (ahH c L)
theorem abK (L:List Nat) (c:List SQ):(ae9 L c).length=c.length:=by simp [ae9]
theorem ae8 (L:List Nat) {c:List SQ} {i:Nat} (h:i < c.length):qa (ae9 L c) i=ahH c L i:=by simp [ae9,qa,List.getD_eq_getElem?_getD,h]
theorem aiU {s:Nat} {r:Int} (h0:0<=r) (h1:r < 12):aby false (row s) r=s.testBit r.toNat:=by
 have:=abJ false (row s) r.toNat
 rw [Int.toNat_of_nonneg h0] at this
 rw [this]
 exact acO _ _ (by omega)
theorem aqp {c:List SQ} (h:CV (qs c)) {i:Nat} (hi:i < c.length) (L:List Nat):ald (qa c i).f0 (qa c i).f1 (qa c i).f2 (qa c i).f3 (qa c i).f4 (row (aft (q_ (qa c i)) i L))=some (dd c L i):=by
 obtain⟨⟨d0,d1⟩,_⟩:=abC (abM h hi)
 simp only [q_] at d0 d1
 unfold ald dd
 rw [aiU d0 d1,abo]
 by_cases c1:(qa c i).f0=1
 ·rw [if_pos c1,if_pos d0,if_pos (show (qa c i).f1 < ((12:Nat):Int) by omega)]
  simp [c1]
 rw [if_neg c1]
 by_cases c2:(qa c i).f0=2
 ·rw [if_pos c2,if_pos d0,if_pos (show (qa c i).f1 < ((12:Nat):Int) by omega)]
  simp [c2]
 rw [if_neg c2]
 by_cases c3:(qa c i).f0=3
 ·rw [if_pos c3,if_pos d0,if_pos (show (qa c i).f1 < ((12:Nat):Int) by omega)]
  simp [c3]
 rw [if_neg c3]
 simp [c1,c2,c3]
theorem Sak.out {c:List SQ} (h:CV (qs c)) {L:List Nat} (hL:Tab c.length L):∀ (d p:Nat),p+d=c.length->Ev (fun k=>aeq k c ((ae9 L c).take p) (rows L) (p:Int)) (ae9 L c,true)
 | 0,p,hp=>by
  refine Ev.succ ?_
  simp only [aeq]
  refine aa5 (ab0 Ev.pure ?_)
  rw [List.take_of_length_le (by rw [abK];omega)]
 | d+1,p,hp=>by
  have h6:=abb h
  have hi:p < c.length:=by omega
  refine Ev.succ ?_
  have lt:((ae9 L c).take p).length < 3518437208883:=by rw [List.length_take,abK];omega
  have ih:=Sak.out h hL d (p+1) (by omega)
  have e:(ae9 L c).take p ++ [ahH c L p]=(ae9 L c).take (p+1):=by
   rw [<- ae8 L hi]
   exact abW _ (by rw [abK];exact hi)
  rw [<- e] at ih
  simp only [aeq,ac4,aaq (show p < 9223372036854775807 by omega)]
  refine aa2 (aa2 (Ev.bind (anP h hL hi) ?_))
  rw [aqp h hi]
  refine aaJ ?_
  by_cases g:dd c L p=true
  ·rw [ahH,if_pos g] at ih
   exact aa2 (aa2 ih lt)
  rw [ahH,if_neg g] at ih
  exact aa5 (aa2 ih lt)
/-- The dead quads from p on. -/
def adg (c:List SQ) (L:List Nat):List Nat:=(List.range c.length).filter (dd c L)
def upto (c:List SQ) (L:List Nat) (p:Nat):List Nat:=(List.range p).filter (dd c L)
theorem ajY (c:List SQ) (L:List Nat) (p:Nat):upto c L (p+1)=upto c L p ++ (if dd c L p=true then [p] else []):=by
 unfold upto
 rw [List.range_succ,List.filter_append]
 congr 1
 by_cases h:dd c L p=true <;> simp [h]
theorem aiM (c:List SQ) (L:List Nat) (p:Nat):(upto c L p).length<=p:=by
 have:=List.length_filter_le (dd c L) (List.range p)
 rwa [List.length_range] at this
theorem Sa5.out {c:List SQ} (h:CV (qs c)) {L:List Nat} (hL:Tab c.length L):∀ (d p:Nat),p+d=c.length->Ev (fun k=>afc k c (ints (upto c L p)) (ints L) c (c.length:Int) (p:Int)) (ints (adg c L))
 | 0,p,hp=>by
  refine Ev.succ ?_
  simp only [afc]
  refine aa5 (ab0 Ev.pure ?_)
  rw [show p=c.length from by omega]
  rfl
 | d+1,p,hp=>by
  have h6:=abb h
  have hi:p < c.length:=by omega
  have hs:aiG (qa c p).f0 (qa c p).f1 (qa c p).f2 (qa c p).f3 (qa c p).f4=some (sets (q_ (qa c p))):=apR (q_ (qa c p))
  have ih:=Sa5.out h hL d (p+1) (by omega)
  rw [ajY] at ih
  have ha:=ahN hL (q_ (qa c p)) p
  obtain⟨⟨d0,d1⟩,_⟩:=abC (abM h hi)
  simp only [q_] at d0 d1
  refine Ev.succ ?_
  simp only [afc,ac4,hs,aaq (show p < 9223372036854775807 by omega)]
  refine aa2 (aa2 (aa2 (aaJ ?_)))
  by_cases g:(qa c p).f0=1\/(qa c p).f0=2\/(qa c p).f0=3
  ·have es:sets (q_ (qa c p))=(qa c p).f1:=by
    unfold sets
    exact if_pos (by show (qa c p).f0=1\/(qa c p).f0=2\/(qa c p).f0=3\/(qa c p).f0=7;omega)
   have gd:dd c L p = !(aft (q_ (qa c p)) p L).testBit (qa c p).f1.toNat:=by
    unfold dd
    rcases g with g|g|g <;> simp [g]
   rw [es]
   refine aa2 (aa5 (Ev.bind (anT h hL hi) ?_))
   have hb:=aja (s:=aft (q_ (qa c p)) p L) (r:=(qa c p).f1.toNat) (by omega) (by omega)
   rw [Int.toNat_of_nonneg d0] at hb
   rw [hb]
   refine aaJ ?_
   cases t:(aft (q_ (qa c p)) p L).testBit (qa c p).f1.toNat with
   | true =>
    refine aa2 ?_ rfl
    rw [gd,t] at ih
    simpa using ih
   | false =>
    refine aa5 (aa2 ?_ (by rw [ab5];have:=aiM c L p;omega)) (by simp)
    rw [gd,t] at ih
    have e:ints (upto c L p) ++ [(p:Int)]=ints (upto c L p ++ [p]):=by simp [ints]
    rw [e]
    simpa using ih
  have gd:dd c L p=false:=by
   unfold dd
   have g1:(qa c p).f0≠1:=by omega
   have g2:(qa c p).f0≠2:=by omega
   have g3:(qa c p).f0≠3:=by omega
   simp [g1,g2,g3]
  rw [gd] at ih
  simp only [Bool.false_eq_true,if_false,List.append_nil] at ih
  by_cases g7:(qa c p).f0=7
  ·have es:sets (q_ (qa c p))=(qa c p).f1:=by
    unfold sets
    exact if_pos (.inr (.inr (.inr g7)))
   rw [es]
   exact aa2 (aa2 ih)
  have es:sets (q_ (qa c p)) = -1:=by
   unfold sets
   exact if_neg (by show ¬ ((qa c p).f0=1\/(qa c p).f0=2\/(qa c p).f0=3\/(qa c p).f0=7);omega)
  rw [es]
  exact aa5 ih
theorem Sa1.out {c:List SQ} (h:CV (qs c)) {L:List Nat}:∀ (d p:Nat),p+d=(adg c L).length->∀ x:List SQ,x.length=c.length->(∀ i,i < c.length->qa x i=if i∈(adg c L).take p then ⟨4,0,0,0,((i+1:Nat):Int)⟩ else qa c i)->Ev (fun k=>ai6 k x (ints (adg c L)) ((adg c L).length:Int) (p:Int)) (ae9 L c,true)
 | 0,p,hp,x,hx,hq=>by
  refine Ev.succ ?_
  simp only [ai6]
  refine aa5 (ab0 Ev.pure ?_)
  have:x=ae9 L c:=by
   apply List.ext_getElem (by rw [hx,abK])
   intro i h1 h2
   have e:=hq i (by omega)
   have e2:=ae8 L (c:=c) (i:=i) (by omega)
   rw [List.take_of_length_le (by omega)] at e
   have e3:qa x i=qa (ae9 L c) i:=by
    rw [e,e2,ahH]
    unfold adg
    by_cases g:dd c L i=true
    ·rw [if_pos (by simp [g];omega),if_pos g]
    rw [if_neg (by simp [g]),if_neg g]
   unfold qa at e3
   rwa [List.getD_eq_getElem?_getD,List.getD_eq_getElem?_getD,List.getElem?_eq_getElem h1,List.getElem?_eq_getElem h2] at e3
  rw [this]
 | d+1,p,hp,x,hx,hq=>by
  have h6:=abb h
  have hm:(adg c L).getD p 0∈adg c L:=acS (by omega)
  have hlt:(adg c L).getD p 0 < c.length:=by
   unfold adg at hm ⊢
   exact List.mem_range.1 (List.mem_filter.1 hm).1
  have hdl:(adg c L).length<=c.length:=aiM c L c.length
  refine Ev.succ ?_
  simp only [ai6,ab5,acP,hx,Int.toNat_natCast,aaq (show p < 9223372036854775807 by omega),aaq (show (adg c L).getD p 0 < 9223372036854775807 by omega)]
  refine aa2 (aa2 (aa2 (aa2 (aa2 ?_))))
  refine Sa1.out h d (p+1) (by omega) _ (by rw [List.length_set];exact hx) fun i hi=>?_
  unfold qa
  rw [ac5 x _ i _ _ (by omega),<- abW 0 (show p < (adg c L).length by omega)]
  by_cases e:i=(adg c L).getD p 0
  ·rw [if_pos e,if_pos (by simp [e]),e]
  rw [if_neg e]
  have:=hq i hi
  unfold qa at this
  rw [this]
  by_cases g:i∈(adg c L).take p
  ·rw [if_pos g,if_pos (by simp [g])]
  rw [if_neg g,if_neg]
  rw [List.mem_append,List.mem_singleton]
  exact fun y=>y.elim g e
theorem ait {c:List SQ} (h:CV (qs c)) (L:List Nat):CV (qs (ae9 L c)):=by
 have h6:=abb h
 refine akJ (by rw [abK];exact h6.1) (by rw [abK];exact h6.2) (fun i hi=>?_) ?_
 ·rw [abK] at hi ⊢
  rw [ae8 L hi,ahH]
  split
  ·rename_i g
   have lt:i+1 < c.length:=by
    have hl:=adO h
    have:i≠c.length - 1:=by
     intro e
     rw [<- e] at hl
     unfold dd at g
     rcases hl with hl|hl <;> simp [hl] at g
    omega
   exact .inr (.inr (.inr (.inl ⟨rfl,rfl,rfl,rfl,by show (0:Int)<=((i+1:Nat):Int);omega,by show ((i+1:Nat):Int) < (c.length:Int);omega⟩)))
  exact abM h hi
 rw [abK,ae8 L (by omega),ahH]
 split
 ·exact .inr rfl
 exact adO h
/-- Both answer one code,and it is valid. -/
theorem aow {c:List SQ} (h:CV (qs c)):∃ v,v.length=c.length/\CV (qs v)/\Ev (fun k=>Sak.f k c) (v,true)/\Ev (fun k=>Sa1.f k c) (v,true):=by
 have h6:=abb h
 obtain⟨L,hL,e1,e2⟩:=akr h
 refine⟨ae9 L c,abK L c,ait h L,?_,?_⟩
 ·simp only [Sak.f]
  exact aaJ (Ev.bind (acI c) (aa2 (Ev.bind e1 (Sak.out h hL.1 c.length 0 (Nat.zero_add _))) (decide_eq_true h)))
 simp only [Sa1.f,aq3]
 refine Ev.bind (amh c) (aa2 (Ev.bind (abe (if_pos (by omega))) (Ev.bind (F:=fun k=>Sa5.f k c) (a:=ints (adg c L)) ?_ ?_)) (decide_eq_true h))
 ·simp only [Sa5.f]
  exact Ev.bind e2 (Sa5.out h hL.1 c.length 0 (Nat.zero_add _))
 rw [ab5]
 exact Sa1.out h (adg c L).length 0 (Nat.zero_add _) c rfl fun i hi=>by simp
end Go.Proofs.YtebpplallecogaaGreat.M
namespace Go.Proofs.YtebpplallecogaaGreat.M
open Go.Proofs.Tryz Go.RowKit Go.Proofs.YtebpplallecogaaGreatW.PrintWords Go.Proofs.YtebpplallecogaaGreatW.PrintLast Go.Proofs.YtebpplallecogaaGreatW.PrintMore
attribute [local go_sem] aao aam aaA aaz aag aaf aan aal
end Go.Proofs.YtebpplallecogaaGreat.M
namespace Go.Proofs.YtebpplallecogaaGreat.M
open Go.Proofs.Tryz Go.RowKit Go.Proofs.YtebpplallecogaaGreatW.PrintWords Go.Proofs.YtebpplallecogaaGreatW.PrintLast Go.Proofs.YtebpplallecogaaGreatW.PrintMore PM
abbrev SE:=S90
/-- With fuel enough,F answers what P says. -/
def An {α:Type} (F:Nat->Option α) (P:α->Prop):Prop:=∃ v,Ev F v/\P v
theorem amk {α:Type} {F:Nat->Option α} {P:α->Prop} {v:α} (e:Ev F v) (p:P v):An F P:=⟨v,e,p⟩
theorem aai {α:Type} {P:α->Prop} {v:α} (p:P v):An (fun _=>Option.some v) P:=⟨v,Ev.pure,p⟩
theorem An.bind {α β:Type} {F:Nat->Option α} {G:Nat->α->Option β} {P:α->Prop} {Q:β->Prop} (h:An F P) (g:∀ a,P a->An (fun k=>G k a) Q):An (fun k=>(F k).bind (G k)) Q:=by
 obtain⟨a,e,p⟩:=h
 obtain⟨b,e',q⟩:=g a p
 exact⟨b,Ev.bind e e',q⟩
theorem abd {α β:Type} {a:α} {G:Nat->α->Option β} {Q:β->Prop} (g:An (fun k=>G k a) Q):An (fun k=>(Option.some a).bind (G k)) Q:=g
theorem aaP {α:Type} {F:Nat->Option α} {P:α->Prop} (h:An (fun k=>F (k+1)) P):An F P:=by
 obtain⟨v,e,p⟩:=h
 exact⟨v,Ev.succ e,p⟩
theorem aaD {α:Type} {c:Prop} [Decidable c] {A B:Nat->Option α} {P:α->Prop} (g:An A P) (h:c:=by first|assumption|omega|(simp;done)|(simp;omega)):An (fun k=>if c then A k else B k) P:=by
 simp only [if_pos h]
 exact g
theorem ab4 {α:Type} {c:Prop} [Decidable c] {A B:Nat->Option α} {P:α->Prop} (g:An B P) (h:¬ c:=by first|assumption|omega|(simp;done)|(simp;omega)):An (fun k=>if c then A k else B k) P:=by
 simp only [if_neg h]
 exact g
theorem aaM {α:Type} {c:Prop} [Decidable c] {A B:Nat->Option α} {P:α->Prop} (g:c->An A P) (g':¬ c->An B P):An (fun k=>if c then A k else B k) P:=by
 by_cases h:c
 ·exact aaD (g h) h
 exact ab4 (g' h) h
theorem An.mono {α:Type} {F:Nat->Option α} {P Q:α->Prop} (h:An F P) (g:∀ v,P v->Q v):An F Q:=by
 obtain⟨v,e,p⟩:=h
 exact⟨v,e,g v p⟩
def Bt (b:List Int):Prop:=b.length<=2000/\∀ x∈b,0<=x/\x < 256
theorem Bt.at_ {b:List Int} (h:Bt b) {i:Int} (h0:0<=i) (h1:i < b.length):0<=rd b i/\rd b i < 256:=by
 unfold rd
 have hi:i.toNat < b.length:=by omega
 have e:b.getD i.toNat 0=b[i.toNat]:=by simp [hi]
 rw [e]
 exact h.2 _ (List.getElem_mem _)
theorem ajn {x n:Int} (hx:0<=x) (hn:1<=n):0<=x.tmod n/\x.tmod n < n:=by
 rw [Int.tmod_eq_emod_of_nonneg hx]
 exact⟨Int.emod_nonneg _ (by omega),Int.emod_lt_of_pos _ (by omega)⟩
theorem anW (x y:Int) (h0:0<=x) (h1:x < 2 ^ 62) (h2:0<=y) (h3:y < 2 ^ 62):0<=Go.bits .xor .i64 x y:=by
 obtain⟨a,rfl⟩:=Int.eq_ofNat_of_zero_le h0
 obtain⟨b,rfl⟩:=Int.eq_ofNat_of_zero_le h2
 have ha:a < 2 ^ 62:=by exact_mod_cast h1
 have hb:b < 2 ^ 62:=by exact_mod_cast h3
 have hp:(2:Nat) ^ 62<=2 ^ IntKind.i64.bits:=by decide
 have ha':a % 2 ^ IntKind.i64.bits=a:=Nat.mod_eq_of_lt (Nat.lt_of_lt_of_le ha hp)
 have hb':b % 2 ^ IntKind.i64.bits=b:=Nat.mod_eq_of_lt (Nat.lt_of_lt_of_le hb hp)
 have hx:a ^^^ b < 2 ^ 62:=Nat.xor_lt_two_pow ha hb
 simp only [Go.bits,BitVec.ofInt_natCast,BitVec.toNat_xor,BitVec.toNat_ofNat,ha',hb']
 rw [IntKind.wrap_i64]
 omega
theorem aoi (y z q d:Int) (hy:0<=y) (hy1:y < 256) (hz:0<=z) (hz1:z < 256) (hq:0<=q) (hq1:q<=1000000) (hd:0<=d) (hd1:d<=q) :
  0<=Go.bits .xor .i64 (wrap64 ((wrap64 ((wrap64 ((wrap64 ((wrap64 y)*131))+(wrap64 ((wrap64 z)*1117))))+(wrap64 (q*29))))+(wrap64 ((wrap64 d)*53)))) (wrap64 (Int.tdiv (wrap64 ((wrap64 ((wrap64 ((wrap64 ((wrap64 y)*131))+(wrap64 ((wrap64 z)*1117))))+(wrap64 (q*29))))+(wrap64 ((wrap64 d)*53)))) 64)):=by
 have e:wrap64 ((wrap64 ((wrap64 ((wrap64 ((wrap64 y)*131))+(wrap64 ((wrap64 z)*1117))))+(wrap64 (q*29))))+(wrap64 ((wrap64 d)*53)))=y*131+z*1117+q*29+d*53:=by unfold wrap64;omega
 rw [e]
 have h0:0<=y*131+z*1117+q*29+d*53:=by omega
 have h1:y*131+z*1117+q*29+d*53 < 1000000000000:=by omega
 generalize y*131+z*1117+q*29+d*53=X at h0 h1
 have h2:wrap64 (X.tdiv 64)=X / 64:=by rw [Int.tdiv_eq_ediv_of_nonneg h0];unfold wrap64;omega
 rw [h2]
 exact anW X (X / 64) h0 (by omega) (by omega) (by omega)
theorem aoe {b:List Int} (hb:Bt b) {p n:Int} (h:0<=p/\p+1<=1000000):An (fun k=>ab3 k b p n) (fun v=>0<=v.1/\(1<=n->v.1 < n)/\v.2=p+1):=by
 obtain⟨h0,h1⟩:=h
 have e1:wrap64 (p+1)=p+1:=aaX (by omega) (by omega)
 have e2:wrap64 (p+1 - 1)=p:=by rw [aaX (by omega) (by omega)];omega
 have t:An (fun k=>aeW k n true b (p+1)) (fun v=>0<=v.1/\(1<=n->v.1 < n)/\v.2=p+1)\/1<=n:=by
  by_cases c:1<=n
  ·exact Or.inr c
  refine Or.inl (aaP ?_)
  simp only [aeW]
  exact aaD (aai ⟨by simp,fun h=>absurd h c,rfl⟩)
 simp only [ab3,e1]
 refine aaM (fun c=>t.resolve_right (by omega)) (fun c=>?_)
 refine aaP ?_
 simp only [aeW,e2]
 refine aaM (fun c'=>aai ⟨by simp,fun h=>by simp only;omega,rfl⟩) (fun c'=>?_)
 have hl:1<=(b.length:Int):=by
  have:(b.length:Int)≠0:=by simpa using c'
  omega
 have hl2:=hb.1
 refine aaM (fun d=>?_) (fun d=>?_)
 ·refine aaD (ab4 (aai ?_))
  obtain⟨r0,r1⟩:=hb.at_ h0 d
  rw [aaX (by omega) (by omega)]
  exact⟨(ajn r0 (by omega)).1,fun h=>(ajn r0 h).2,rfl⟩
 obtain⟨i0,i1⟩:=ajn (x:=p) h0 hl
 have e3:wrap64 (wrap64 (p*7)+3)=p*7+3:=by unfold wrap64;omega
 obtain⟨j0,j1⟩:=ajn (x:=p*7+3) (by omega) hl
 obtain⟨y0,y1⟩:=hb.at_ i0 i1
 obtain⟨z0,z1⟩:=hb.at_ j0 j1
 simp only [e3]
 refine ab4 (aaD (aaD (aaD (aaD (ab4 (aai ?_))))))
 have d0:0<=p.tdiv b.length:=Int.tdiv_nonneg h0 (by omega)
 have d1:p.tdiv b.length<=p:=by rw [Int.tdiv_eq_ediv_of_nonneg h0];exact Int.ediv_le_self _ h0
 have m:=aoi _ _ p _ y0 y1 z0 z1 h0 (by omega) d0 d1
 exact⟨(ajn m (by omega)).1,fun h=>(ajn m h).2,rfl⟩
theorem aav {b:List Int} (hb:Bt b) {p:Int} (n:Int) (h:0<=p/\p+1<=1000000) (hn:1<=n:=by omega):An (fun k=>ab3 k b p n) (fun v=>0<=v.1/\v.1 < n/\v.2=p+1) :=
 (aoe hb h).mono fun v h=>⟨h.1,h.2.1 hn,h.2.2⟩
theorem abD {b:List Int} (hb:Bt b) {p:Int} (h:0<=p/\p+1<=1000000):An (fun k=>ael k b p) (fun v=>v.2=p+1):=by
 simp only [ael]
 exact An.bind (aav hb 6 h) fun v h=>aai h.2.2
theorem aj5 {b:List Int} (hb:Bt b) {p:Int} (h:0<=p/\p+1<=1000000):An (fun k=>ajG k b p) (fun v=>1<=v.1/\v.1<=12/\v.2=p+1):=by
 simp only [ajG]
 refine An.bind (aav hb 12 h) fun v h=>aai ?_
 rw [aaX (by omega) (by omega)]
 simp only
 omega
theorem ajQ (n:Int):∃ v,aeQ n=some v:=by
 unfold aeQ
 split
 ·exact⟨_,rfl⟩
 split <;> exact⟨_,rfl⟩
theorem ajx {b:List Int} (hb:Bt b) {p:Int} (h:0<=p/\p+5<=1000000):An (fun k=>al2 k b p) (fun v=>p<=v.2/\v.2<=p+5):=by
 simp only [al2]
 refine An.bind (aav hb 6 (by omega)) fun v h1=>?_
 refine aaM (fun c=>abd (An.bind (aav hb 8 (by omega)) fun u h2=>aaD (aaD (aai (by simp only;omega)) (by simp only [List.length_cons,List.length_nil];omega)))) (fun c=>aaM (fun c=>?_) (fun c=>aaM (fun c=>An.bind (aav hb 200 (by omega)) fun u h2=>aai (by simp only;omega)) (fun c=>An.bind (aav hb 20 (by omega)) fun u h2=>aai (by simp only;omega))))
 refine An.bind (aav hb 256 (by omega)) fun v1 h1=>An.bind (aav hb 256 (by omega)) fun v2 h2=>An.bind (aav hb 256 (by omega)) fun v3 h3=>An.bind (aav hb 200 (by omega)) fun v4 h4=>?_
 obtain⟨x,hx⟩:=ajQ (wrap64 ((wrap64 ((wrap64 ((wrap64 (v1.1*65536))+(wrap64 (v2.1*256))))+v3.1))*(wrap64 (1+v4.1))))
 simp only [hx]
 exact abd (aai (by simp only;omega))
def okE:Nat->SE->Prop
 | 0,_=>False
 | d+1,e=>(e.f0=0/\0<=e.f1/\e.f1<=99999/\e.f2=[])\/(e.f0=13/\0<=e.f1/\e.f1<=3/\e.f2=[])\/(1<=e.f0/\e.f0<=12/\e.f1=0/\∃ a b,e.f2=[a,b]/\okE d a/\okE d b)
theorem aki:∀ {d:Nat} {e:SE},okE d e->okE (d+1) e
 | 0,_,h=>h.elim
 | d+1,e,h=>by
  rcases h with h|h | ⟨h1,h2,h3,a,b,h4,h5,h6⟩
  ·exact Or.inl h
  ·exact Or.inr (Or.inl h)
  exact Or.inr (Or.inr ⟨h1,h2,h3,a,b,h4,aki h5,aki h6⟩)
theorem ahy {d d':Nat} {e:SE} (h:okE d e) (hd:d<=d'):okE d' e:=by
 induction hd with
 | refl=>exact h
 | step _ ih=>exact aki ih
theorem agy {b:List Int} (hb:Bt b) {p:Int} (h:0<=p/\p+2<=1000000):An (fun k=>al4 k b p) (fun v=>okE 1 ⟨v.1,v.2.1,v.2.2.1⟩/\p<=v.2.2.2/\v.2.2.2<=p+2):=by
 simp only [al4,afj]
 refine An.bind (aav hb 4 (by omega)) fun v h1=>?_
 refine aaM (fun c=>An.bind (aav hb 4 (by omega)) fun u h2=>abd (aai ⟨Or.inl ⟨rfl,h2.1,by simp only;omega,rfl⟩,by simp only;omega⟩)) (fun c=>aaM (fun c=>?_) (fun c=>An.bind (aav hb 4 (by omega)) fun u h2=>abd (aai ⟨Or.inr (Or.inl ⟨rfl,h2.1,by simp only;omega,rfl⟩),by simp only;omega⟩)))
 refine abd (An.bind (aav hb 8 (by omega)) fun u h2=>aaD (aaD (abd (aai ⟨Or.inl ⟨rfl,?_⟩,by simp only;omega⟩)) (by simp only [List.length_cons,List.length_nil];omega)))
 obtain⟨u1,u2⟩:=u
 obtain⟨m,rfl⟩:=Int.eq_ofNat_of_zero_le h2.1
 have hm:m < 8:=by have:=h2.2.1;simp only at this;omega
 simp only [aiS]
 match m,hm with
 | 0,_=>simp
 | 1,_=>simp
 | 2,_=>simp
 | 3,_=>simp
 | 4,_=>simp
 | 5,_=>simp
 | 6,_=>simp
 | 7,_=>simp
def cE:Nat->Int
 | 0=>2
 | d+1=>2+2*cE d
theorem ann:∀ d,2<=cE d
 | 0=>by simp [cE]
 | d+1=>by have:=ann d;simp only [cE];omega
theorem aeL {b:List Int} (hb:Bt b):∀ (d:Nat) (p:Int),d<=100->0<=p/\p+cE d<=1000000->An (fun k=>adi k b p ((d+1:Nat):Int)) (fun v=>okE (d+1) ⟨v.1,v.2.1,v.2.2.1⟩/\p<=v.2.2.2/\v.2.2.2<=p+cE d)
 | 0,p,_,h=>by
  refine aaP ?_
  simp only [adi]
  refine aaD (aaP ?_)
  simp only [afT]
  exact aaD (An.bind (agy hb h) fun v h=>aai h)
 | d+1,p,hd,h=>by
  have c2:=ann d
  simp only [cE] at h ⊢
  refine aaP ?_
  simp only [adi]
  refine ab4 (An.bind (aav hb 3 (by omega)) fun v h1=>aaP ?_)
  simp only [afT]
  refine aaM (fun c=>An.bind (agy hb (by omega)) fun u h2=>aai ⟨ahy h2.1 (by omega),by simp only;omega⟩) (fun c=>?_)
  have e:wrap64 (((d+1+1:Nat):Int) - 1)=((d+1:Nat):Int):=by rw [aaX (by omega) (by omega)];omega
  refine An.bind (aj5 hb (by omega)) fun o h3=>?_
  simp only [e]
  refine An.bind (aeL hb d o.2 (by omega) (by omega)) fun x h4=>?_
  refine An.bind (aeL hb d x.2.2.2 (by omega) (by omega)) fun y h5=>?_
  simp only [ahS]
  exact abd (aai ⟨Or.inr (Or.inr ⟨h3.1,h3.2.1,rfl,_,_,rfl,h4.1,h5.1⟩),by simp only;omega⟩)
/-- One more than what was picked is a depth. -/
theorem adq {b:List Int} (hb:Bt b) {p x:Int} (hx:0<=x/\x < 3) (h:0<=p/\p+14<=1000000):An (fun k=>adi k b p (wrap64 (1+x))) (fun v=>okE 3 ⟨v.1,v.2.1,v.2.2.1⟩/\p<=v.2.2.2/\v.2.2.2<=p+14):=by
 obtain⟨m,rfl⟩:=Int.eq_ofNat_of_zero_le hx.1
 rw [aaX (by omega) (by omega),show (1:Int)+(m:Int)=((m+1:Nat):Int) by omega]
 have hc:cE m<=14:=by
  match m,hx with
  | 0,_=>decide
  | 1,_=>decide
  | 2,_=>decide
  | m+3,h=>omega
 exact (aeL hb m p (by omega) (by omega)).mono fun v h=>⟨ahy h.1 (by omega),by omega⟩
abbrev ST:=S92
def anc (x:ST):Prop:=x.f4=[]/\x.f5=[]/\((x.f0=1/\0<=x.f1/\x.f1<=3/\x.f2=0/\okE 3 x.f3)\/(x.f0=4/\x.f1=0/\0<=x.f2/\x.f2<=2/\okE 3 x.f3)\/(x.f0=5/\0<=x.f1/\x.f1<=3/\0<=x.f2/\x.f2<=2/\x.f3=⟨0,0,[]⟩)\/(x.f0=6/\x.f1=0/\x.f2=0/\x.f3=⟨0,0,[]⟩)\/(x.f0=7/\x.f1=0/\x.f2=0/\okE 3 x.f3))
def okS:Nat->ST->Prop
 | 0,x=>anc x
 | n+1,x=>anc x\/((x.f0=2\/x.f0=3/\x.f5=[])/\x.f1=0/\x.f2=0/\okE 3 x.f3/\x.f4.length<=5/\x.f5.length<=5/\(∀ y∈x.f4,okS n y)/\(∀ y∈x.f5,okS n y))
theorem adc {n:Nat} {x:ST} (h:anc x):okS n x:=by
 cases n with
 | zero=>exact h
 | succ n=>exact Or.inl h
/-- What a draw of a statement answers,as a statement;the reader behind it. -/
def tS (v:Int × Int × Int × Int × Int × List SE × List ST × List ST × Int):ST:=⟨v.1,v.2.1,v.2.2.1,⟨v.2.2.2.1,v.2.2.2.2.1,v.2.2.2.2.2.1⟩,v.2.2.2.2.2.2.1,v.2.2.2.2.2.2.2.1⟩
theorem afE {b:List Int} (hb:Bt b) {p:Int} (h:0<=p/\p+16<=1000000):An (fun k=>ajD k b p) (fun v=>anc (tS v)/\p<=v.2.2.2.2.2.2.2.2/\v.2.2.2.2.2.2.2.2<=p+16):=by
 simp only [ajD]
 refine An.bind (aav hb 3 (by omega)) fun v h1=>An.bind (aav hb 3 (by omega)) fun u h2=>An.bind (adq hb (by omega) (by omega)) fun e h3=>aai ?_
 exact⟨⟨rfl,rfl,Or.inl ⟨rfl,h1.1,by simp only [tS];omega,rfl,h3.1⟩⟩,by simp only;omega⟩
theorem agx {b:List Int} (hb:Bt b) {p x:Int} (hx:x<=3) (h:0<=p/\p+18<=1000000):An (fun k=>akW k b p x) (fun v=>anc (tS v)/\p<=v.2.2.2.2.2.2.2.2/\v.2.2.2.2.2.2.2.2<=p+18):=by
 simp only [akW]
 refine aaM (fun c=>An.bind (afE hb (by omega)) fun v h1=>aai ⟨h1.1,by simp only;omega⟩) (fun c=>?_)
 refine An.bind (aav hb x (by omega)) fun v h1=>An.bind (aav hb 2 (by omega)) fun u h2=>aaM (fun c=>?_) (fun c=>?_)
 ·refine An.bind (aav hb 3 (by omega)) fun y h3=>An.bind (adq hb (by omega) (by omega)) fun e h4=>aai ?_
  exact⟨⟨rfl,rfl,Or.inr (Or.inl ⟨rfl,rfl,h1.1,by simp only [tS];omega,h4.1⟩)⟩,by simp only;omega⟩
 refine An.bind (aav hb 3 (by omega)) fun y h3=>aai ?_
 exact⟨⟨rfl,rfl,Or.inr (Or.inr (Or.inl ⟨rfl,h3.1,by simp only [tS];omega,h1.1,by simp only [tS];omega,rfl⟩))⟩,by simp only;omega⟩
def cS:Nat->Int
 | 0=>19
 | n+1=>18+4*cS n
theorem agD:∀ n,19<=cS n
 | 0=>by simp [cS]
 | n+1=>by have:=agD n;simp only [cS];omega
/-- What is drawn for one statement of a nest n. -/
def agG (b:List Int) (n:Nat):Prop:=∀ (x:Int),x<=3->∀ (l:Bool) (p:Int),0<=p/\p+cS n<=1000000->An (fun k=>ajC k b p x (n:Int) l) (fun v=>v.1.length<=2/\(∀ y∈v.1,okS n y)/\p<=v.2/\v.2<=p+cS n)
theorem ahJ {b:List Int} {n:Nat} (hs:agG b n) {x:Int} (hx:x<=3) (l:Bool) {m:Nat} (hm:m<=10):∀ (d i:Nat),i+d=m->∀ (o:List ST) (p:Int),o.length<=2*i->(∀ y∈o,okS n y)->0<=p/\p+(d:Int)*cS n<=1000000->An (fun k=>aeg k x (n:Int) (m:Int) l o (i:Int) b p) (fun v=>v.1.length<=2*m/\(∀ y∈v.1,okS n y)/\p<=v.2/\v.2<=p+(d:Int)*cS n)
 | 0,i,hi,o,p,ho,hy,h=>by
  refine aaP ?_
  simp only [aeg]
  exact ab4 (aai ⟨by simp only;omega,hy,by simp only;omega⟩)
 | d+1,i,hi,o,p,ho,hy,h=>by
  have c2:=agD n
  have e:((d+1:Nat):Int)*cS n=(d:Int)*cS n+cS n:=by rw [show ((d+1:Nat):Int)=(d:Int)+1 from rfl,Int.add_mul,Int.one_mul]
  have e0:0<=(d:Int)*cS n:=Int.mul_nonneg (by omega) (by omega)
  rw [e] at h ⊢
  refine aaP ?_
  simp only [aeg,aaq (show i < 9223372036854775807 by omega)]
  refine aaD (An.bind (hs x hx l p (by omega)) fun v h1=>?_)
  refine aaD ?_
  refine (ahJ hs hx l hm d (i+1) (by omega) (o ++ v.1) v.2 (by simp;omega) (by
   intro y hy'
   rcases List.mem_append.1 hy' with q|q
   ·exact hy y q
   exact h1.2.1 y q) (by omega)).mono fun u h2=>⟨h2.1,h2.2.1,by omega⟩
theorem ajd {b:List Int} {n:Nat} (hs:agG b n) {x:Int} (hx:x<=3) (l:Bool) {m:Int} (hm:0<=m/\m<=10) (p:Int) (h:0<=p/\p+m*cS n<=1000000):An (fun k=>afi k b p x (n:Int) m l) (fun v=>(v.1.length:Int)<=2*m/\(∀ y∈v.1,okS n y)/\p<=v.2/\v.2<=p+m*cS n):=by
 obtain⟨m,rfl⟩:=Int.eq_ofNat_of_zero_le hm.1
 refine aaP ?_
 simp only [afi]
 exact (ahJ hs hx l (by omega) m 0 (Nat.zero_add _) [] p (by simp) (by simp) h).mono fun u h2=>⟨by omega,h2.2⟩
/-- A block of at most two. -/
theorem afR {b:List Int} {n:Nat} (hs:agG b n) {x:Int} (hx:x<=3) (l:Bool) {m:Int} (hm:0<=m/\m < 3) (p:Int) (h:0<=p/\p+2*cS n<=1000000):An (fun k=>afi k b p x (n:Int) m l) (fun v=>v.1.length<=4/\(∀ y∈v.1,okS n y)/\p<=v.2/\v.2<=p+2*cS n):=by
 have e:m*cS n<=2*cS n:=Int.mul_le_mul_of_nonneg_right (by omega) (by have:=agD n;omega)
 exact (ajd hs hx l (by omega) p (by omega)).mono fun u h2=>⟨by omega,h2.2.1,by omega⟩
theorem aqj {b:List Int} (hb:Bt b) {n:Nat} (hn:n<=1000) (hs:agG b n) {x:Int} (hx:x<=3) (l:Bool) (p:Int) (h:0<=p/\p+17+4*cS n<=1000000):An (fun k=>ajF k b p x ((n+1:Nat):Int) l) (fun v=>okS (n+1) (tS v)/\p<=v.2.2.2.2.2.2.2.2/\v.2.2.2.2.2.2.2.2<=p+17+4*cS n):=by
 have c2:=agD n
 have e:wrap64 (((n+1:Nat):Int) - 1)=(n:Int):=by rw [aaX (by omega) (by omega)];omega
 refine aaP ?_
 simp only [ajF,e]
 refine An.bind (aav hb 2 (by omega)) fun v h1=>An.bind (adq hb (by omega) (by omega)) fun q h2=>An.bind (aav hb 3 (by omega)) fun u h3=>An.bind (afR hs hx l (by omega) _ (by omega)) fun c h4=>An.bind (aav hb 3 (by omega)) fun u' h5=>An.bind (afR hs hx l (by omega) _ (by omega)) fun c' h6=>aai ?_
 exact⟨Or.inr ⟨Or.inl rfl,rfl,rfl,h2.1,Nat.le_trans h4.1 (by omega),Nat.le_trans h6.1 (by omega),h4.2.1,h6.2.1⟩,by simp only;omega⟩
theorem aii {x:Int} (h:0<=x/\x<=99999):okE 1 ⟨0,x,[]⟩:=Or.inl ⟨rfl,h.1,h.2,rfl⟩
theorem akh:okE 1 ⟨13,3,[]⟩:=Or.inr (Or.inl ⟨rfl,by decide,by decide,rfl⟩)
theorem aok {b:List Int} (hb:Bt b) {n:Nat} (hn:n<=1000) (hs:agG b n) {x:Int} (hx:x<=3) (p:Int) (h:0<=p/\p+17+4*cS n<=1000000):An (fun k=>ajE k b p x ((n+1:Nat):Int)) (fun v=>v.1.length<=2/\(∀ y∈v.1,okS (n+1) y)/\p<=v.2/\v.2<=p+17+4*cS n):=by
 have c2:=agD n
 have e:wrap64 (((n+1:Nat):Int) - 1)=(n:Int):=by rw [aaX (by omega) (by omega)];omega
 refine aaP ?_
 simp only [ajE,afj,ahS,e]
 refine An.bind (aav hb 3 (by omega)) fun v h1=>An.bind (afR hs hx false (by omega) _ (by omega)) fun c h2=>?_
 refine abd (abd (abd (abd (An.bind (aav hb 3 (by omega)) fun u h3=>abd (abd (abd ?_))))))
 refine aaD (abd (aai ⟨by simp,?_,by simp only;omega⟩)) (by simp only [List.length_cons,List.length_nil];omega)
 have hw:wrap64 (1+u.1)=1+u.1:=aaX (by omega) (by omega)
 intro y hy
 rcases List.mem_cons.1 hy with rfl|hy
 ·exact Or.inl ⟨rfl,rfl,Or.inl ⟨rfl,by simp,by simp,rfl,ahy (aii (x:=0) (by decide)) (by omega)⟩⟩
 rcases List.mem_cons.1 hy with rfl|hy
 ·refine Or.inr ⟨Or.inr ⟨rfl,rfl⟩,rfl,rfl,?_,?_,by simp,?_,by simp⟩
  ·exact ahy (d:=2) (Or.inr (Or.inr ⟨by simp only;omega,by simp only;omega,rfl,_,_,rfl,akh,by rw [hw];exact aii (x:=1+u.1) (by omega)⟩)) (by omega)
  ·simp only [List.length_append,List.length_cons,List.length_nil]
   omega
  intro z hz
  rcases List.mem_append.1 hz with q|q
  ·exact h2.2.1 z q
  obtain rfl:=List.mem_singleton.1 q
  exact adc ⟨rfl,rfl,Or.inl ⟨rfl,by simp,by simp,rfl,ahy (d:=2) (Or.inr (Or.inr ⟨by simp only;omega,by simp only;omega,rfl,_,_,rfl,akh,aii (x:=1) (by decide)⟩)) (by omega)⟩⟩
 cases hy
theorem adb {n:Nat} {x:ST} (h:okS n x):∀ y∈[x],okS n y:=fun y hy=>by rw [List.mem_singleton.1 hy];exact h
theorem ae0 {b:List Int} (hb:Bt b) {n:Nat} {p:Int} (h:0<=p/\p+15<=1000000):An (fun k=>(ab3 k b p 3).bind fun t=>(adi k b t.2 (wrap64 (1+t.1))).bind fun e=>some ([(⟨7,0,0,⟨e.1,e.2.1,e.2.2.1⟩,[],[]⟩:ST)],e.2.2.2)) (fun v=>v.1.length<=2/\(∀ y∈v.1,okS n y)/\p<=v.2/\v.2<=p+15):=by
 refine An.bind (aav hb 3 (by omega)) fun v h1=>An.bind (adq hb (by omega) (by omega)) fun e h2=>aai ?_
 exact⟨by simp,adb (adc ⟨rfl,rfl,Or.inr (Or.inr (Or.inr (Or.inr ⟨rfl,rfl,rfl,h2.1⟩)))⟩),by simp only;omega⟩
theorem ao3 {b:List Int} (hb:Bt b):∀ n,n<=1000->agG b n:=by
 intro n hn
 induction n with
 | zero=>?_
 | succ n ih=>?_
 all_goals
  intro x hx l p h
  refine aaP ?_
  simp only [ajC]
  simp only [cS] at h ⊢
 ·refine An.bind (aav hb 10 (by omega)) fun v h1=>?_
  have j2:∀ c,An (fun k=>adB k x v.1 c b v.2) (fun u=>u.1.length<=2/\(∀ y∈u.1,okS 0 y)/\p<=u.2/\u.2<=p+19):=by
   intro c
   refine aaP ?_
   simp only [adB]
   refine aaM (fun c=>An.bind (agx hb hx (by omega)) fun t h2=>aai ⟨by simp,adb (adc h2.1),by simp only;omega⟩) (fun c=>aaM (fun c=>aai ⟨by simp,adb (adc ⟨rfl,rfl,Or.inr (Or.inr (Or.inr (Or.inl ⟨rfl,rfl,rfl,rfl⟩)))⟩),by simp only;omega⟩) (fun c=>?_))
   exact (ae0 hb (n:=0) (by omega)).mono fun u h=>⟨h.1,h.2.1,by omega⟩
  have j1:An (fun k=>aef k x ((0:Nat):Int) false b v.2) (fun u=>u.1.length<=2/\(∀ y∈u.1,okS 0 y)/\p<=u.2/\u.2<=p+19):=by
   refine aaP ?_
   simp only [aef]
   exact ab4 ((ae0 hb (n:=0) (by omega)).mono fun u h=>⟨h.1,h.2.1,by omega⟩)
  have j0:∀ c,An (fun k=>adh k x ((0:Nat):Int) l v.1 c b v.2) (fun u=>u.1.length<=2/\(∀ y∈u.1,okS 0 y)/\p<=u.2/\u.2<=p+19):=by
   intro c
   refine aaP ?_
   simp only [adh]
   refine aaM (fun c=>An.bind (afE hb (by omega)) fun t h2=>aai ⟨by simp,adb (adc h2.1),by simp only;omega⟩) (fun c=>aaM (fun c=>ab4 ((ae0 hb (n:=0) (by omega)).mono fun u h=>⟨h.1,h.2.1,by omega⟩)) (fun c=>aaM (fun c=>ab4 j1) (fun c=>aaM (fun c=>j2 _) (fun c=>aaM (fun c=>j2 _) (fun c=>j2 _)))))
  exact aaM (fun c=>j0 _) (fun c=>j0 _)
 have ih:=ih (by omega)
 have c2:=agD n
 refine An.bind (aav hb 10 (by omega)) fun v h1=>?_
 have j2:∀ c,An (fun k=>adB k x v.1 c b v.2) (fun u=>u.1.length<=2/\(∀ y∈u.1,okS (n+1) y)/\p<=u.2/\u.2<=p+(18+4*cS n)):=by
  intro c
  refine aaP ?_
  simp only [adB]
  refine aaM (fun c=>An.bind (agx hb hx (by omega)) fun t h2=>aai ⟨by simp,adb (adc h2.1),by simp only;omega⟩) (fun c=>aaM (fun c=>aai ⟨by simp,adb (adc ⟨rfl,rfl,Or.inr (Or.inr (Or.inr (Or.inl ⟨rfl,rfl,rfl,rfl⟩)))⟩),by simp only;omega⟩) (fun c=>?_))
  exact (ae0 hb (n:=n+1) (by omega)).mono fun u h=>⟨h.1,h.2.1,by omega⟩
 have j1:∀ c,An (fun k=>aef k x ((n+1:Nat):Int) c b v.2) (fun u=>u.1.length<=2/\(∀ y∈u.1,okS (n+1) y)/\p<=u.2/\u.2<=p+(18+4*cS n)):=by
  intro c
  refine aaP ?_
  simp only [aef]
  refine aaM (fun c=>An.bind (aok hb (by omega) ih hx _ (by omega)) fun u h=>aai ⟨h.1,h.2.1,by simp only;omega⟩) (fun c=>?_)
  exact (ae0 hb (n:=n+1) (by omega)).mono fun u h=>⟨h.1,h.2.1,by omega⟩
 have j0:∀ c,An (fun k=>adh k x ((n+1:Nat):Int) l v.1 c b v.2) (fun u=>u.1.length<=2/\(∀ y∈u.1,okS (n+1) y)/\p<=u.2/\u.2<=p+(18+4*cS n)):=by
  intro c
  refine aaP ?_
  simp only [adh]
  refine aaM (fun c=>An.bind (afE hb (by omega)) fun t h2=>aai ⟨by simp,adb (adc h2.1),by simp only;omega⟩) (fun c=>aaM (fun c=>aaD (An.bind (aqj hb (by omega) ih hx l _ (by omega)) fun t h2=>aai ⟨by simp,adb h2.1,by simp only;omega⟩)) (fun c=>aaM (fun c=>aaD (j1 _)) (fun c=>aaM (fun c=>j2 _) (fun c=>aaM (fun c=>j2 _) (fun c=>j2 _)))))
 exact aaM (fun c=>j0 _) (fun c=>j0 _)
set_option maxRecDepth 100000
theorem ao9 (l:List ST) (i:Nat):aak l (i:Int)=l.getD i z92:=by simp [aak]
theorem ak3 {l:List ST} {i:Nat} (h:i < l.length):l.getD i z92∈l:=by
 rw [show l.getD i z92=l[i] by simp [h]]
 exact List.getElem_mem _
def cW:Nat->Int
 | 0=>1
 | n+1=>1+10*cW n
theorem anm:∀ n,1<=cW n
 | 0=>by simp [cW]
 | n+1=>by have:=anm n;simp only [cW];omega
theorem aqn {n:Nat} (h:n<=3):cW n<=1111:=by
 match n,h with
 | 0,_=>decide
 | 1,_=>decide
 | 2,_=>decide
 | 3,_=>decide
theorem ahI {l:List ST} (hl:l.length<=12) {B:Int} (hB:0<=B/\B<=6000) (hc:∀ x∈l,An (fun k=>SaC.f k x.f4) (fun c=>0<=c/\c<=B)/\An (fun k=>SaC.f k x.f5) (fun c=>0<=c/\c<=B)) :
  ∀ (d i:Nat),i+d=l.length->∀ t:Int,0<=t->t<=(i:Int)*12001->An (fun k=>aeC k l t (i:Int)) (fun c=>t<=c/\c<=t+(d:Int)*(1+2*B))
 | 0,i,hi,t,h0,h1=>by
  refine aaP ?_
  simp only [aeC]
  exact ab4 (aai ⟨by omega,by omega⟩)
 | d+1,i,hi,t,h0,h1=>by
  have e:((d+1:Nat):Int)*(1+2*B)=(d:Int)*(1+2*B)+(1+2*B):=by rw [show ((d+1:Nat):Int)=(d:Int)+1 from rfl,Int.add_mul,Int.one_mul]
  rw [e]
  obtain⟨h4,h5⟩:=hc _ (ak3 (show i < l.length by omega))
  refine aaP ?_
  simp only [aeC,ao9,aaq (show i < 9223372036854775807 by omega)]
  refine aaD (aaD (An.bind h4 fun c k4=>An.bind h5 fun c' k5=>?_))
  have e1:wrap64 (wrap64 (wrap64 (t+1)+c)+c')=t+1+c+c':=by unfold wrap64;omega
  rw [e1]
  exact (ahI hl hB hc d (i+1) (by omega) (t+1+c+c') (by omega) (by omega)).mono fun u h=>⟨by omega,by omega⟩
theorem afO {l:List ST} (hl:l.length<=12) {B:Int} (hB:0<=B/\B<=6000) (hc:∀ x∈l,An (fun k=>SaC.f k x.f4) (fun c=>0<=c/\c<=B)/\An (fun k=>SaC.f k x.f5) (fun c=>0<=c/\c<=B)):An (fun k=>SaC.f k l) (fun c=>0<=c/\c<=(l.length:Int)*(1+2*B)):=by
 refine aaP ?_
 simp only [SaC.f]
 exact (ahI hl hB hc l.length 0 (Nat.zero_add _) 0 (by omega) (by omega)).mono fun u h=>⟨h.1,by omega⟩
theorem aea {B:Int} (h:0<=B):An (fun k=>SaC.f k []) (fun c=>0<=c/\c<=B) :=
 (afO (l:=[]) (by simp) (B:=0) (by omega) (by simp)).mono fun u h'=>⟨h'.1,by simp at h';omega⟩
theorem ahd:∀ n,n<=3->∀ l:List ST,(∀ x∈l,okS n x)->l.length<=12->An (fun k=>SaC.f k l) (fun c=>0<=c/\c<=(l.length:Int)*cW n)
 | 0,_,l,h,hl=>by
  refine (afO hl (B:=0) (by omega) fun x hx=>?_).mono fun u h'=>⟨h'.1,by simp only [cW];omega⟩
  obtain⟨e4,e5,_⟩:anc x:=h x hx
  rw [e4,e5]
  exact⟨aea (by omega),aea (by omega)⟩
 | n+1,hn,l,h,hl=>by
  have w0:=anm n
  have w1:=aqn (n:=n) (by omega)
  refine (afO hl (B:=5*cW n) (by omega) fun x hx=>?_).mono fun u h'=>⟨h'.1,by rw [show cW (n+1)=1+2*(5*cW n) by simp only [cW];omega];exact h'.2⟩
  rcases h x hx with ⟨e4,e5,_⟩ | ⟨_,_,_,_,l4,l5,h4,h5⟩
  ·rw [e4,e5]
   exact⟨aea (by omega),aea (by omega)⟩
  have m4:(x.f4.length:Int)*cW n<=5*cW n:=Int.mul_le_mul_of_nonneg_right (by omega) (by omega)
  have m5:(x.f5.length:Int)*cW n<=5*cW n:=Int.mul_le_mul_of_nonneg_right (by omega) (by omega)
  exact⟨(ahd n (by omega) x.f4 h4 (by omega)).mono fun u k=>⟨k.1,by omega⟩,(ahd n (by omega) x.f5 h5 (by omega)).mono fun u k=>⟨k.1,by omega⟩⟩
/-- What aa answers. -/
def okL (l:List ST):Prop:=l.length<=12/\(∀ x∈l,okS 3 x)/\∃ c:Int,c<=16/\Ev (fun k=>SaC.f k l) c
theorem aoW {b:List Int} (p:Int):∀ (d:Nat) (o:List ST),o.length=d->d<=12->(∀ x∈o,okS 3 x)->An (fun k=>aeV k o b p) (fun v=>okL v.1/\v.2=p):=by
 intro d
 induction d with
 | zero=>?_
 | succ d ih=>?_
 all_goals
  intro o ho hd h
  obtain⟨c,e,c0,c1⟩:=ahd 3 (by omega) o h (by omega)
  refine aaP ?_
  simp only [aeV]
  refine An.bind (amk (P:=fun u=>u=c) e rfl) fun u hu=>?_
  subst hu
  refine aaM (fun g=>?_) (fun g=>aai ⟨⟨by show o.length<=12;omega,h,u,by omega,e⟩,rfl⟩)
 ·rw [ho] at c1
  simp at c1
  omega
 have e1:wrap64 ((o.length:Int) - 1)=(d:Int):=by rw [ho,aaX (by omega) (by omega)];omega
 rw [e1]
 refine aaD (aaD ?_)
 rw [Int.toNat_natCast]
 exact ih (o.take d) (by rw [List.length_take];omega) (by omega) fun x hx=>h x (List.mem_of_mem_take hx)
theorem ail {b:List Int} (hb:Bt b) {x p:Int} (hx:x<=3) (h:0<=p/\p+9600<=1000000):An (fun k=>akY k b p x) (fun v=>okL v.1/\p<=v.2/\v.2<=p+9600):=by
 have e3:cS 3=1594:=by decide
 simp only [akY]
 refine An.bind (aav hb 6 (by omega)) fun v h1=>?_
 have e1:wrap64 (1+v.1)=1+v.1:=aaX (by omega) (by omega)
 have e2:(1+v.1)*cS 3<=6*cS 3:=Int.mul_le_mul_of_nonneg_right (by omega) (by omega)
 rw [e1]
 refine An.bind (ajd (n:=3) (ao3 hb 3 (by omega)) hx true (m:=1+v.1) (by omega) v.2 (by omega)) fun c h2=>?_
 exact (aoW c.2 c.1.length c.1 rfl (by omega) h2.2.1).mono fun u h3=>⟨h3.1,by omega,by omega⟩
theorem aim:∀ (d:Nat) (e:SE),okE d e->∀ a:Int,d<=a->a<=5->Ev (fun k=>ahk k e.f0 e.f1 e.f2 a) true
 | 0,_,h,_,_,_=>h.elim
 | d+1,⟨f0,f1,f2⟩,h,a,ha,ha'=>by
  refine Ev.succ ?_
  simp only [ahk,ahR,aiD]
  refine aa5 ?_
  rcases h with ⟨q0,q1,q2,q3⟩ | ⟨q0,q1,q2,q3⟩ | ⟨q0,q1,q2,x,y,q3,q4,q5⟩
  ·simp only at q0 q1 q2 q3
   subst q0;subst q3
   exact aa2 (aaJ (aa2 (ab0 Ev.pure rfl) (by simp;omega)))
  ·simp only at q0 q1 q2 q3
   subst q0;subst q3
   exact aa5 (aa2 (aaJ (aa2 (ab0 Ev.pure rfl) (by simp;omega))))
  simp only at q0 q1 q2 q3
  subst q2;subst q3
  have ew:wrap64 (a - 1)=a - 1:=aaX (by omega) (by omega)
  have i1:=aim d x q4 (a - 1) (by omega) (by omega)
  have i2:=aim d y q5 (a - 1) (by omega) (by omega)
  rw [ew]
  refine aa5 (aa5 (aaJ (aa2 (aa2 (aa2 (aa2 (Ev.bind i1 (aa2 (aa2 (Ev.bind i2 Ev.pure) (by simp)) rfl)) (by simp)) (by simp)) rfl) (by simp;omega))))
theorem afl {d:Nat} {e:SE} (h:okE d e) (hd:d<=5):Ev (fun k=>aiE k e.f0 e.f1 e.f2) true:=by
 simp only [aiE]
 exact Ev.bind (aim d e h 5 (by omega) (by omega)) Ev.pure
theorem ahr {x:ST} (h:anc x) (k0:Int):Ev (fun k=>agp k x.f0 x.f1 x.f2 x.f3.f0 x.f3.f1 x.f3.f2 x.f4 x.f5 k0) true:=by
 obtain⟨f0,f1,f2,f3,f4,f5⟩:=x
 obtain⟨e4,e5,h⟩:=h
 simp only at e4 e5 h
 subst e4;subst e5
 have h2:f0≠2:=by omega
 have h3:f0≠3:=by omega
 refine Ev.succ ?_
 simp only [agp]
 refine aa5 (Ev.succ ?_)
 simp only [adJ]
 refine aa2 (Ev.bind ?_ Ev.pure) (by simp [h3])
 simp only [an5]
 refine aa5 (Ev.succ ?_)
 simp only [agS,agn,agq,ahR,amb]
 refine aa5 ?_
 rcases h with ⟨rfl,q1,q2,q3,q4⟩ | ⟨rfl,q1,q2,q3,q4⟩ | ⟨rfl,q1,q2,q3,q4,q5⟩ | ⟨rfl,q1,q2,q3⟩ | ⟨rfl,q1,q2,q3⟩
 ·refine aa2 (Ev.bind (a:=true) (aa2 (aaJ (ab0 Ev.pure (by simp;omega)))) (aa2 (Ev.bind (a:=true) (aa5 (ab0 Ev.pure (by simp;omega))) (aa2 (Ev.bind (afl q4 (by omega)) Ev.pure) rfl)) rfl))
 ·refine aa5 (aa2 (Ev.bind (a:=true) (aa5 (ab0 Ev.pure (by simp;omega))) (aa2 (Ev.bind (a:=true) (aa2 (aaJ (ab0 Ev.pure (by simp;omega)))) (aa2 (Ev.bind (afl q4 (by omega)) Ev.pure) rfl)) rfl)))
 ·subst q5
  exact aa5 (aa5 (aa2 (Ev.bind (a:=true) (aa2 (aaJ (ab0 Ev.pure (by simp;omega)))) (aa2 (Ev.bind (a:=true) (aa2 (aaJ (ab0 Ev.pure (by simp;omega)))) (aa2 (Ev.bind (a:=true) (aa2 (aa2 (ab0 Ev.pure rfl) rfl) rfl) Ev.pure) rfl)) rfl))))
 ·subst q3
  exact aa5 (aa5 (aa5 (aa2 (Ev.bind (a:=true) (aa5 (ab0 Ev.pure (by simp;omega))) (aa2 (Ev.bind (a:=true) (aa5 (ab0 Ev.pure (by simp;omega))) (aa2 (Ev.bind (a:=true) (aa2 (aa2 (ab0 Ev.pure rfl) rfl) rfl) Ev.pure) rfl)) rfl)))))
 exact aa5 (aa5 (aa5 (aa5 (aa2 (Ev.bind (a:=true) (aa5 (ab0 Ev.pure (by simp;omega))) (aa2 (Ev.bind (a:=true) (aa5 (ab0 Ev.pure (by simp;omega))) (aa2 (Ev.bind (afl q3 (by omega)) Ev.pure) rfl)) rfl))))))
theorem agE {l:List ST} (hl:l.length<=12) {a:Int} (hx:∀ x∈l,Ev (fun k=>agp k x.f0 x.f1 x.f2 x.f3.f0 x.f3.f1 x.f3.f2 x.f4 x.f5 a) true):∀ (d i:Nat),i+d=l.length->Ev (fun k=>aeD k l a (i:Int)) true
 | 0,i,hi=>by
  refine Ev.succ ?_
  simp only [aeD]
  exact aa5 Ev.pure
 | d+1,i,hi=>by
  refine Ev.succ ?_
  simp only [aeD,ao9,aaq (show i < 9223372036854775807 by omega)]
  exact aa2 (aa2 (Ev.bind (hx _ (ak3 (by omega))) (aa2 (agE hl hx d (i+1) (by omega)) rfl)))
theorem aeP {l:List ST} (hl:l.length<=12) {a:Int} (hx:∀ x∈l,Ev (fun k=>agp k x.f0 x.f1 x.f2 x.f3.f0 x.f3.f1 x.f3.f2 x.f4 x.f5 a) true):Ev (fun k=>SaA.f k l a) true:=by
 refine Ev.succ ?_
 simp only [SaA.f]
 exact agE hl hx l.length 0 (Nat.zero_add _)
theorem aog:∀ (n:Nat),n<=3->∀ x:ST,okS n x->Ev (fun k=>agp k x.f0 x.f1 x.f2 x.f3.f0 x.f3.f1 x.f3.f2 x.f4 x.f5 (n:Int)) true
 | 0,_,x,h=>ahr h _
 | n+1,hn,x,h=>by
  rcases h with h | ⟨q0,q1,q2,q3,l4,l5,h4,h5⟩
  ·exact ahr h _
  have b4:=aeP (l:=x.f4) (by omega) fun y hy=>aog n (by omega) y (h4 y hy)
  have b5:=aeP (l:=x.f5) (by omega) fun y hy=>aog n (by omega) y (h5 y hy)
  have e:wrap64 (((n+1:Nat):Int) - 1)=(n:Int):=by rw [aaX (by omega) (by omega)];omega
  have j1:Ev (fun k=>af9 k ((n+1:Nat):Int) false x.f0 x.f1 x.f2 x.f3.f0 x.f3.f1 x.f3.f2 x.f4 x.f5) true:=by
   refine Ev.succ ?_
   simp only [af9,agn,agq,ahR,q1,q2,e]
   exact aa5 (Ev.bind (a:=true) (aa5 (ab0 Ev.pure rfl)) (aa2 (Ev.bind (a:=true) (aa5 (ab0 Ev.pure rfl)) (aa2 (Ev.bind (afl q3 (by omega)) (aa2 (Ev.bind b4 (aa2 (Ev.bind b5 Ev.pure) rfl)) rfl)) rfl)) rfl))
  refine Ev.succ ?_
  simp only [agp]
  rcases q0 with q0 | ⟨q0,q5⟩
  ·refine aa2 (Ev.succ ?_) q0
   simp only [adJ]
   exact aa5 (aa5 (aa5 j1))
  refine aa5 (Ev.succ ?_)
  simp only [adJ]
  refine aa5 (aa5 (aa2 ?_ q0)) (by simp [q0])
  rw [q5] at j1 ⊢
  exact j1
theorem agZ {l:List ST} (h:okL l):Ev (fun k=>alI k l) true:=by
 obtain⟨h1,h2,c,h3,h4⟩:=h
 simp only [alI]
 exact Ev.bind (aeP h1 fun x hx=>aog 3 (by omega) x (h2 x hx)) (aa2 (Ev.bind h4 (ab0 Ev.pure (by simpa using h3))) rfl)
/-- Valid quads whose targets are t at most. -/
def upQ (t:Int) (c:List SQ):Prop:=∀ q∈c,∀ m:Int,t < m->QV (q_ q) m
theorem r4:rg 4:=by decide
theorem upQ.le {t u:Int} {c:List SQ} (h:upQ t c) (hu:t<=u):upQ u c:=fun q hq m hm=>h q hq m (by omega)
theorem upQ.app {t:Int} {c d:List SQ} (h:upQ t c) (h':upQ t d):upQ t (c ++ d):=fun q hq=>(List.mem_append.1 hq).elim (h q) (h' q)
theorem upQ.one {t:Int} {q:SQ} (h:∀ m:Int,t < m->QV (q_ q) m):upQ t [q]:=fun x hx=>by rw [List.mem_singleton.1 hx];exact h
theorem aoT (x y:SE):aaO [x,y] 0=x:=rfl
theorem aoS (x y:SE):aaO [x,y] 1=y:=rfl
def cX:Nat->Nat
 | 0=>0
 | d+1=>2*cX d+1
theorem aqm {d:Nat} (h:d<=3):cX d<=7:=by
 match d,h with
 | 0,_=>decide
 | 1,_=>decide
 | 2,_=>decide
 | 3,_=>decide
theorem aoU {c:List SQ} {i:Nat} (h:i < c.length):qa c i∈c:=by
 unfold qa
 rw [show c.getD i z27=c[i] by simp [h]]
 exact List.getElem_mem _
theorem aeM:∀ (d:Nat),d<=3->∀ (e:SE),okE d e->∀ a:Int,0<=a->a+d<=12->An (fun k=>adQ k e.f0 e.f1 e.f2 a) (fun c=>1<=c.length/\c.length<=cX d/\upQ (-1) c)
 | 0,_,_,h,_,_,_=>h.elim
 | d+1,hd,⟨f0,f1,f2⟩,h,a,ha,ha'=>by
  have c7:=aqm (d:=d) (by omega)
  refine aaP ?_
  simp only [adQ]
  rcases h with ⟨q0,q1,q2,q3⟩ | ⟨q0,q1,q2,q3⟩ | ⟨q0,q1,q2,x,y,q3,q4,q5⟩
  ·simp only at q0 q1 q2
   exact aaD (aai ⟨by simp,by simp [cX],upQ.one fun m hm=>Or.inl ⟨rfl,⟨ha,by simp only [q_];omega⟩,rfl,rfl,by simp only [q_];omega,by simp only [q_];omega⟩⟩)
  ·simp only at q0 q1 q2
   exact ab4 (aaD (aai ⟨by simp,by simp [cX],upQ.one fun m hm=>Or.inr (Or.inl ⟨rfl,⟨ha,by simp only [q_];omega⟩,⟨q1,by simp only [q_];omega⟩,rfl,rfl⟩)⟩))
  simp only at q0 q1 q2 q3
  subst q3
  have hd0:1<=d:=by
   cases d with
   | zero=>exact q4.elim
   | succ d=>omega
  have ew:wrap64 (a+1)=a+1:=aaX (by omega) (by omega)
  simp only [ew,aoT,aoS]
  refine ab4 (ab4 (aaD (An.bind (aeM d (by omega) x q4 a ha (by omega)) fun c h1=>aaD (An.bind (aeM d (by omega) y q5 (a+1) (by omega) (by omega)) fun c' h2=>aaD (abd (aaD (aai ?_) ?_))) (by simp)) (by simp)))
  ·refine⟨by simp;omega,by simp [cX];omega,upQ.app (upQ.app h1.2.2 h2.2.2) (upQ.one fun m hm=>Or.inr (Or.inr (Or.inl ⟨rfl,⟨ha,by simp only [q_];omega⟩,⟨ha,by simp only [q_];omega⟩,⟨by simp only [q_];omega,by simp only [q_];omega⟩,q0,q1⟩)))⟩
  simp only [List.length_append]
  omega
theorem adN {e:SE} (h:okE 3 e):An (fun k=>adQ k e.f0 e.f1 e.f2 4) (fun c=>1<=c.length/\c.length<=7/\upQ (-1) c):=aeM 3 (by omega) e h 4 (by omega) (by omega)
theorem ahG:An (fun k=>adQ k 0 0 [] 4) (fun c=>1<=c.length/\c.length<=7/\upQ (-1) c):=adN (e:=⟨0,0,[]⟩) (Or.inl ⟨rfl,by simp,by simp,rfl⟩)
def cZ:Nat->Nat
 | 0=>8
 | n+1=>9+10*cZ n
theorem aql {n:Nat} (h:n<=3):cZ n<=8999/\8<=cZ n:=by
 match n,h with
 | 0,_=>decide
 | 1,_=>decide
 | 2,_=>decide
 | 3,_=>decide
/-- The code of a statement that begins at a. -/
def ajm (Z:Nat) (A:Int) (x:ST):Prop:=∀ a:Int,0<=a->a<=A->An (fun k=>aiI k x.f0 x.f1 x.f2 x.f3.f0 x.f3.f1 x.f3.f2 x.f4 x.f5 a) (fun c=>c.length<=Z/\upQ (a+c.length) c)
theorem aj2 {l:List ST} (hl:l.length<=12) {Z:Nat} (hZ:Z<=9000) {A:Int} (hA:A<=1000000) (hx:∀ x∈l,ajm Z A x) {a:Int} (ha:0<=a) (ha':a+108000<=A):∀ (d i:Nat),i+d=l.length->∀ o:List SQ,o.length<=i*Z->upQ (a+o.length) o->An (fun k=>aeA k l a o (i:Int)) (fun c=>c.length<=l.length*Z/\upQ (a+c.length) c)
 | 0,i,hi,o,ho,hu=>by
  refine aaP ?_
  simp only [aeA]
  exact ab4 (aai ⟨by rw [show l.length=i by omega];exact ho,hu⟩)
 | d+1,i,hi,o,ho,hu=>by
  have m1:i*Z<=12*9000:=Nat.mul_le_mul (by omega) hZ
  refine aaP ?_
  simp only [aeA,ao9,aaq (show i < 9223372036854775807 by omega)]
  have ew:wrap64 (a+(o.length:Int))=a+o.length:=aaX (by omega) (by omega)
  rw [ew]
  refine aaD (aaD (An.bind (hx _ (ak3 (by omega)) (a+o.length) (by omega) (by omega)) fun c h1=>aaD (aj2 hl hZ hA hx ha ha' d (i+1) (by omega) (o ++ c) ?_ ?_)))
  ·rw [List.length_append,Nat.add_mul,Nat.one_mul]
   omega
  rw [List.length_append]
  exact upQ.app (hu.le (by omega)) (h1.2.le (by omega))
theorem aij {l:List ST} (hl:l.length<=12) {Z:Nat} (hZ:Z<=9000) {A:Int} (hA:A<=1000000) (hx:∀ x∈l,ajm Z A x) {a:Int} (ha:0<=a) (ha':a+108000<=A):An (fun k=>SaL.f k l a) (fun c=>c.length<=l.length*Z/\upQ (a+c.length) c):=by
 refine aaP ?_
 simp only [SaL.f]
 exact aj2 hl hZ hA hx ha ha' l.length 0 (Nat.zero_add _) [] (by simp) (fun q hq=>by cases hq)
theorem ajc {x:ST} (h:anc x) (A:Int):ajm 8 A x:=by
 intro a ha ha'
 obtain⟨f0,f1,f2,f3,f4,f5⟩:=x
 obtain⟨_,_,h⟩:=h
 simp only at h ⊢
 refine aaP ?_
 simp only [aiI]
 rcases h with ⟨rfl,q1,q2,q3,q4⟩ | ⟨rfl,q1,q2,q3,q4⟩ | ⟨rfl,q1,q2,q3,q4,rfl⟩ | ⟨rfl,q1,q2,rfl⟩ | ⟨rfl,q1,q2,q3⟩
 ·refine An.bind (adN q4) fun c h1=>ab4 (ab4 (aaD (aaD (aai ⟨by simp;omega,upQ.app (h1.2.2.le (by omega)) (upQ.one fun m hm=>Or.inr (Or.inl ⟨rfl,⟨q1,by simp only [q_];omega⟩,r4,rfl,rfl⟩))⟩))))
 ·refine An.bind (adN q4) fun c h1=>ab4 (ab4 (ab4 (aaD (aaD (aai ⟨by simp;omega,upQ.app (h1.2.2.le (by omega)) (upQ.one fun m hm=>Or.inr (Or.inr (Or.inr (Or.inr (Or.inr (Or.inl ⟨rfl,rfl,r4,rfl,q2,q3⟩))))))⟩)))))
 ·refine An.bind ahG fun c h1=>ab4 (ab4 (ab4 (ab4 (ab4 (aaD (aai ⟨by simp,upQ.one fun m hm=>Or.inr (Or.inr (Or.inr (Or.inr (Or.inr (Or.inr (Or.inl ⟨rfl,⟨q1,by simp only [q_];omega⟩,rfl,rfl,q3,q4⟩))))))⟩))))))
 ·refine An.bind ahG fun c h1=>ab4 (ab4 (ab4 (ab4 (ab4 (ab4 (aai ⟨by simp,upQ.one fun m hm=>Or.inr (Or.inr (Or.inr (Or.inr (Or.inr (Or.inr (Or.inr (Or.inr ⟨Or.inl rfl,rfl,rfl,rfl,rfl⟩)))))))⟩))))))
 refine An.bind (adN q3) fun c h1=>ab4 (ab4 (ab4 (ab4 (aaD (aaD (aai ⟨by simp;omega,upQ.app (h1.2.2.le (by omega)) (upQ.one fun m hm=>Or.inr (Or.inr (Or.inr (Or.inr (Or.inr (Or.inr (Or.inr (Or.inl ⟨rfl,rfl,r4,rfl,rfl⟩))))))))⟩))))))
theorem ak9 {n m:Int} (h:0<=n) (h':n < m):QV (q_ ⟨4,0,0,0,n⟩) m:=Or.inr (Or.inr (Or.inr (Or.inl ⟨rfl,rfl,rfl,rfl,h,h'⟩)))
theorem aih {n m:Int} (h:0<=n) (h':n < m):QV (q_ ⟨5,0,4,0,n⟩) m:=Or.inr (Or.inr (Or.inr (Or.inr (Or.inl ⟨rfl,rfl,r4,rfl,h,h'⟩))))
theorem aiw:∀ n,n<=3->∀ x:ST,okS n x->ajm (cZ n) (1000000 - 200000*n) x
 | 0,_,x,h=>ajc h _
 | n+1,hn,x,h=>by
  obtain⟨z1,z0⟩:=aql (n:=n) (by omega)
  rcases h with h | ⟨q0,q1,q2,q3,l4,l5,h4,h5⟩
  ·intro a ha ha'
   exact (ajc h _ a ha ha').mono fun c hc=>⟨by simp only [cZ];omega,hc.2⟩
  intro a ha ha'
  have m4:x.f4.length*cZ n<=5*cZ n:=Nat.mul_le_mul_right _ l4
  have m5:x.f5.length*cZ n<=5*cZ n:=Nat.mul_le_mul_right _ l5
  have c4:∀ u:Int,0<=u->u<=a+10->An (fun k=>SaL.f k x.f4 u) (fun c=>c.length<=x.f4.length*cZ n/\upQ (u+c.length) c):=fun u hu hu'=>aij (by omega) (by omega) (A:=1000000 - 200000*n) (by omega) (fun y hy=>aiw n (by omega) y (h4 y hy)) hu (by omega)
  have c5:∀ u:Int,0<=u->u<=a+50000->An (fun k=>SaL.f k x.f5 u) (fun c=>c.length<=x.f5.length*cZ n/\upQ (u+c.length) c):=fun u hu hu'=>aij (by omega) (by omega) (A:=1000000 - 200000*n) (by omega) (fun y hy=>aiw n (by omega) y (h5 y hy)) hu (by omega)
  refine aaP ?_
  simp only [aiI]
  refine An.bind (adN q3) fun _ _=>?_
  rcases q0 with q0 | ⟨q0,q5⟩
  ·refine aaD (An.bind (aaP ?_) fun c hc=>aai hc) q0
   simp only [ajN]
   refine An.bind (adN q3) fun e h1=>?_
   have w1:wrap64 (wrap64 (a+(e.length:Int))+1)=a+e.length+1:=by unfold wrap64;omega
   simp only [w1]
   refine An.bind (c4 _ (by omega) (by omega)) fun b h2=>?_
   have w2:wrap64 (a+(e.length:Int)+1+(b.length:Int))=a+e.length+1+b.length:=by unfold wrap64;omega
   have w3:wrap64 (a+(e.length:Int)+1+(b.length:Int)+1)=a+e.length+1+b.length+1:=by unfold wrap64;omega
   simp only [w2,w3]
   refine aaM (fun z=>?_) (fun z=>?_)
   ·refine aaD (abd (aaD (aai ⟨?_,?_⟩) ?_))
    ·simp only [List.length_append,List.length_cons,List.length_nil,cZ]
     omega
    ·simp only [List.length_append,List.length_cons,List.length_nil]
     exact upQ.app (upQ.app (h1.2.2.le (by omega)) (upQ.one fun m hm=>aih (by omega) (by omega))) (h2.2.le (by omega))
    simp only [List.length_append,List.length_cons,List.length_nil]
    omega
   refine An.bind (c5 _ (by omega) (by omega)) fun d h3=>?_
   have w4:wrap64 (a+(e.length:Int)+1+(b.length:Int)+1+(d.length:Int))=a+e.length+1+b.length+1+d.length:=by unfold wrap64;omega
   simp only [w4]
   refine aaD (abd (aaD (abd (aaD (abd (aaD (aai ⟨?_,?_⟩) ?_)) ?_)) ?_))
   ·simp only [List.length_append,List.length_cons,List.length_nil,cZ]
    omega
   ·simp only [List.length_append,List.length_cons,List.length_nil]
    exact upQ.app (upQ.app (upQ.app (upQ.app (h1.2.2.le (by omega)) (upQ.one fun m hm=>aih (by omega) (by omega))) (h2.2.le (by omega))) (upQ.one fun m hm=>ak9 (by omega) (by omega))) (h3.2.le (by omega))
   all_goals
    simp only [List.length_append,List.length_cons,List.length_nil]
    omega
  refine ab4 (aaD (An.bind (aaP ?_) fun c hc=>aai hc) q0)
  simp only [ajM]
  refine An.bind (adN q3) fun e h1=>?_
  have w1:wrap64 (wrap64 (a+(e.length:Int))+1)=a+e.length+1:=by unfold wrap64;omega
  simp only [w1]
  refine An.bind (c4 _ (by omega) (by omega)) fun b h2=>?_
  have w2:wrap64 (wrap64 (a+(e.length:Int)+1+(b.length:Int))+1)=a+e.length+1+b.length+1:=by unfold wrap64;omega
  simp only [w2]
  refine aaD (abd (aaD (abd (aaD (aai ⟨?_,?_⟩) ?_)) ?_))
  ·simp only [List.length_append,List.length_cons,List.length_nil,cZ]
   omega
  ·simp only [List.length_append,List.length_cons,List.length_nil]
   exact upQ.app (upQ.app (upQ.app (h1.2.2.le (by omega)) (upQ.one fun m hm=>aih (by omega) (by omega))) (h2.2.le (by omega))) (upQ.one fun m hm=>ak9 (by omega) (by omega))
  all_goals
   simp only [List.length_append,List.length_cons,List.length_nil]
   omega
theorem agl {l:List ST} (h:okL l):An (fun k=>alR k l) (fun v=>v.1.length<=600->CV (qs v.1)):=by
 have m1:l.length*cZ 3<=12*9000:=Nat.mul_le_mul h.1 (by decide)
 simp only [alR]
 refine An.bind (amk (P:=fun u=>u=true) (agZ h) rfl) fun u hu=>aaD (An.bind (aij (Z:=cZ 3) (A:=1000000 - 200000*(3:Nat)) (by have:=h.1;omega) (by decide) (by decide) (fun y hy=>aiw 3 (by omega) y (h.2.1 y hy)) (a:=0) (by omega) (by decide)) fun c h1=>aaD (aai ?_)) hu
 intro h6
 refine⟨by simp [qs],by simpa [qs] using h6,?_,?_⟩
 ·rw [ab2]
  intro i hi
  rw [ac6]
  have hm:qa (c ++ [(⟨10,0,0,0,0⟩:SQ)]) i∈c ++ [(⟨10,0,0,0,0⟩:SQ)]:=aoU hi
  rcases List.mem_append.1 hm with q|q
  ·exact h1.2 _ q _ (by simp;omega)
  rw [List.mem_singleton.1 q]
  exact Or.inr (Or.inr (Or.inr (Or.inr (Or.inr (Or.inr (Or.inr (Or.inr ⟨Or.inr rfl,rfl,rfl,rfl,rfl⟩)))))))
 refine Or.inl ?_
 rw [ab2,ac6]
 simp [qa,q_]
/-- One pass of the five answers v for c. -/
def Step:Nat->List SQ->List SQ->Prop
 | 0,c,v=>Ev (fun k=>Sao.f k c) (v,true)
 | 1,c,v=>Ev (fun k=>Saj.f k c) (v,true)
 | 2,c,v=>Ev (fun k=>Sap.f k c) (v,true)
 | 3,c,v=>Ev (fun k=>Sak.f k c) (v,true)
 | _,c,v=>Ev (fun k=>Saw.f k c) (v,true)
theorem step0 {c:List SQ} (h:CV (qs c)):∃ v,CV (qs v)/\Step 0 c v:=by
 obtain⟨U,hU,e⟩:=apK h
 exact⟨_,aip h hU.1.1,e⟩
theorem step1 {c:List SQ} (h:CV (qs c)):∃ v,CV (qs v)/\Step 1 c v:=by
 obtain⟨U,hU,e⟩:=apN h
 exact⟨_,aiv h hU.1.1,e⟩
theorem step2 {c:List SQ} (h:CV (qs c)):∃ v,CV (qs v)/\Step 2 c v:=⟨_,ain h,apJ h⟩
theorem aqd {c:List SQ} (h:CV (qs c)):∃ v,CV (qs v)/\Step 3 c v:=by
 obtain⟨v,_,hv,e,_⟩:=aow h
 exact⟨v,hv,e⟩
theorem aqc {c:List SQ} (h:CV (qs c)):∃ v,CV (qs v)/\Step 4 c v:=by
 obtain⟨U,hU,e⟩:=anH h
 exact⟨_,ak4 h hU,e⟩
/-- The first j passes lead from c to y. -/
def aqy:Nat->List SQ->List SQ->Prop
 | 0,c,y=>y=c
 | j+1,c,y=>∃ x,aqy j c x/\Step j x y
theorem akt {c y:List SQ} (h:aqy 5 c y):Ev (fun k=>aiz k c) y:=by
 obtain⟨x4,⟨x3,⟨x2,⟨x1,⟨x0,rfl,s0⟩,s1⟩,s2⟩,s3⟩,s4⟩:=h
 simp only [aiz]
 exact Ev.bind s0 (Ev.bind s1 (Ev.bind s2 (Ev.bind s3 (Ev.bind s4 Ev.pure))))
theorem aph {c:List SQ} (h:CV (qs c)):∃ v,CV (qs v)/\Ev (fun k=>aiz k c) v:=by
 obtain⟨x1,h1,s1⟩:=step0 h
 obtain⟨x2,h2,s2⟩:=step1 h1
 obtain⟨x3,h3,s3⟩:=step2 h2
 obtain⟨x4,h4,s4⟩:=aqd h3
 obtain⟨x5,h5,s5⟩:=aqc h4
 exact⟨x5,h5,akt ⟨_,⟨_,⟨_,⟨_,⟨_,rfl,s1⟩,s2⟩,s3⟩,s4⟩,s5⟩⟩
theorem amX (t:Int) (x:List SQ):Ev (fun k=>acY k t x t) (x,true):=by
 refine Ev.succ ?_
 simp only [acY]
 exact aa5 Ev.pure
theorem amW {t:Int} (ht:t<=4) {r:Nat} (hr:(r:Int) < t) {x y:List SQ} (h:Ev (fun k=>aiz k x) y) {z:List SQ × Bool} (hz:Ev (fun k=>acY k t y ((r+1:Nat):Int)) z):Ev (fun k=>acY k t x (r:Int)) z:=by
 refine Ev.succ ?_
 simp only [acY,aaq (show r < 9223372036854775807 by omega)]
 exact aa2 (Ev.bind h hz)
theorem Sas.out {t:Nat} (ht:t<=4):∀ (d r:Nat),r+d=t->∀ {x:List SQ},CV (qs x)->∃ v,CV (qs v)/\Ev (fun k=>acY k (t:Int) x (r:Int)) (v,true)
 | 0,r,hr,x,h=>⟨x,h,by rw [show r=t from by omega];exact amX _ _⟩
 | d+1,r,hr,x,h=>by
  obtain⟨y,hy,e⟩:=aph h
  obtain⟨v,hv,e2⟩:=Sas.out ht d (r+1) (by omega) hy
  exact⟨v,hv,amW (by omega) (by omega) e e2⟩
/-- A code and how often: what is asked of both. -/
def okT (c:List SQ) (t:Int):Prop:=CV (qs c)/\0<=t/\t<=4
theorem alM {c:List SQ} {t:Int} (h:okT c t) {z:List SQ × Bool} (hz:Ev (fun k=>acY k t c 0) z):Ev (fun k=>Sas.f k c t) z:=by
 have h6:=abb h.1
 simp only [Sas.f,ahR]
 refine Ev.bind (acI c) (aa2 (aaJ ?_) (decide_eq_true h.1))
 rw [decide_eq_true h.2]
 refine Ev.succ ?_
 simp only [agK]
 refine aa5 (aaJ (aa2 hz ?_)) (by simp)
 simp only [List.length_nil]
 omega
theorem apI {c:List SQ} {t:Int} (h:okT c t):∃ v,CV (qs v)/\Ev (fun k=>Sas.f k c t) (v,true):=by
 obtain⟨v,hv,e⟩:=Sas.out (t:=t.toNat) (by have:=h.2;omega) t.toNat 0 (Nat.zero_add _) h.1
 rw [Int.toNat_of_nonneg h.2.1] at e
 exact⟨v,hv,alM h e⟩
theorem aju {b:List Int} (hb:Bt b) {p n:Int} (hn:1<=n) (h:0<=p/\p+8<=1000000):An (fun k=>ali k b p n) (fun v=>p<=v.2.2.2.2.2/\v.2.2.2.2.2<=p+8):=by
 have j2:∀ x c q,p<=q->q<=p+1->An (fun k=>af0 k n x c b q) (fun v=>p<=v.2.2.2.2.2/\v.2.2.2.2.2<=p+8):=by
  intro x c q hq hq'
  refine aaP ?_
  simp only [af0]
  refine aaM (fun _=>An.bind (abD hb (by omega)) fun v h1=>An.bind (abD hb (by omega)) fun v h2=>An.bind (abD hb (by omega)) fun v h3=>An.bind (aj5 hb (by omega)) fun v h4=>aai (by simp only;omega)) (fun _=>?_)
  refine aaM (fun _=>An.bind (aav hb n (by omega)) fun v h1=>aai (by simp only;omega)) (fun _=>?_)
  refine aaM (fun _=>An.bind (abD hb (by omega)) fun v h1=>An.bind (aav hb n (by omega)) fun v h2=>aai (by simp only;omega)) (fun _=>?_)
  refine aaM (fun _=>An.bind (abD hb (by omega)) fun v h1=>An.bind (aav hb 2 (by omega)) fun v h2=>aai (by simp only;omega)) (fun _=>?_)
  refine aaM (fun _=>An.bind (abD hb (by omega)) fun v h1=>An.bind (aav hb 2 (by omega)) fun v h2=>aai (by simp only;omega)) (fun _=>?_)
  exact An.bind (aav hb 4 (by omega)) fun v h1=>aaM (fun _=>aai (by simp only;omega)) (fun _=>An.bind (abD hb (by omega)) fun v h2=>aai (by simp only;omega))
 have j1:∀ x c q,p<=q->q<=p+1->An (fun k=>afV k n x c b q) (fun v=>p<=v.2.2.2.2.2/\v.2.2.2.2.2<=p+8):=by
  intro x c q hq hq'
  refine aaP ?_
  simp only [afV]
  refine aaM (fun _=>An.bind (abD hb (by omega)) fun v h1=>An.bind (abD hb (by omega)) fun v h2=>aai (by simp only;omega)) (fun _=>aaM (fun _=>j2 _ _ _ hq hq') (fun _=>aaM (fun _=>j2 _ _ _ hq hq') (fun _=>j2 _ _ _ hq hq')))
 have j0:∀ x c q,p<=q->q<=p+1->An (fun k=>afW k n x c b q) (fun v=>p<=v.2.2.2.2.2/\v.2.2.2.2.2<=p+8):=by
  intro x c q hq hq'
  refine aaP ?_
  simp only [afW]
  refine aaM (fun _=>An.bind (abD hb (by omega)) fun v h1=>An.bind (ajx hb (by omega)) fun v h2=>abd (An.bind (aav hb 4 (by omega)) fun v h3=>aaD (aaD (aai (by simp only;omega)) (by simp only [List.length_cons,List.length_nil];omega)))) (fun _=>aaM (fun _=>j1 _ _ _ hq hq') (fun _=>j1 _ _ _ hq hq'))
 simp only [ali]
 exact An.bind (aav hb 12 (by omega)) fun v h1=>aaM (fun _=>j0 _ _ _ (by omega) (by omega)) (fun _=>j0 _ _ _ (by omega) (by omega))
theorem agv {b:List Int} (hb:Bt b) {m:Nat} (hm:m<=14):∀ (d i:Nat),i+1+d=m->∀ (o:List SQ) (p:Int),o.length=i->0<=p/\p+8*(d:Int)+2<=1000000->An (fun k=>aeZ k (m:Int) o (i:Int) b p) (fun v=>1<=v.1.length/\v.1.length<=14/\p<=v.2/\v.2<=p+8*(d:Int)+2)
 | 0,i,hi,o,p,ho,h=>by
  refine aaP ?_
  simp only [aeZ,aaq (show i < 9223372036854775807 by omega)]
  refine ab4 (An.bind (aav hb 3 (by omega)) fun v h1=>aaM (fun _=>An.bind (aav hb (m:Int) (by omega)) fun u h2=>aaD (aai ?_)) (fun _=>aaD (aai ?_)))
  ·simp only [List.length_append,List.length_cons,List.length_nil];omega
  simp only [List.length_append,List.length_cons,List.length_nil];omega
 | d+1,i,hi,o,p,ho,h=>by
  refine aaP ?_
  simp only [aeZ,aaq (show i < 9223372036854775807 by omega)]
  refine aaD (An.bind (aju hb (by omega) (by omega)) fun v h1=>aaD ?_)
  exact (agv hb hm d (i+1) (by omega) _ v.2.2.2.2.2 (by simp [ho]) (by omega)).mono fun u h2=>⟨h2.1,h2.2.1,by omega,by omega⟩
theorem aeU {b:List Int} (hb:Bt b) {p:Int} (h:0<=p/\p+120<=1000000):An (fun k=>ajH k b p) (fun v=>1<=v.1.length/\v.1.length<=14/\p<=v.2/\v.2<=p+120):=by
 simp only [ajH]
 refine An.bind (aav hb 14 (by omega)) fun v h1=>?_
 obtain⟨v1,v2⟩:=v
 obtain⟨m,rfl⟩:=Int.eq_ofNat_of_zero_le h1.1
 have hm:(m:Int) < 14:=h1.2.1
 have hp:v2=p+1:=h1.2.2
 have e:wrap64 (1+(m:Int))=((m+1:Nat):Int):=by rw [aaX (by omega) (by omega)];omega
 simp only [e]
 exact (agv hb (m:=m+1) (by omega) m 0 (by omega) [] v2 rfl (by omega)).mono fun u h2=>⟨h2.1,h2.2.1,by omega,by omega⟩
theorem ajv {b:List Int} (hb:Bt b) {p:Int} (h:0<=p/\p+9800<=1000000):An (fun k=>alk k b p) (fun v=>1<=v.1.length/\v.1.length<=600/\p<=v.2/\v.2<=p+9800):=by
 simp only [alk]
 refine An.bind (aav hb 2 (by omega)) fun v h1=>aaM (fun _=>An.bind (aeU hb (by omega)) fun u h2=>aai ⟨h2.1,by show u.1.length<=600;omega,by simp only;omega⟩) (fun _=>?_)
 refine An.bind (ail hb (by omega) (by omega)) fun s h2=>An.bind (agl h2.1) fun c h3=>aaM (fun _=>An.bind (aeU hb (by omega)) fun u h4=>aai ⟨h4.1,by show u.1.length<=600;omega,by simp only;omega⟩) (fun g=>?_)
 refine An.bind (aav hb 3 (by omega)) fun t h4=>?_
 have e1:Int.tdiv t.1 2=t.1 / 2:=Int.tdiv_eq_ediv_of_nonneg h4.1
 have e2:wrap64 (Int.tdiv t.1 2)=t.1 / 2:=by rw [e1,aaX (by omega) (by omega)]
 rw [e2]
 obtain⟨r,hr,er⟩:=apI (c:=c.1) (t:=t.1 / 2) ⟨h3 (by omega),by omega,by omega⟩
 have h6:=abb hr
 exact An.bind (amk (P:=fun u=>u=(r,true)) er rfl) fun u hu=>aai (by subst hu;exact⟨h6.1,h6.2,by simp only;omega,by simp only;omega⟩)
theorem ajw {b:List Int} (hb:Bt b) {p:Int} (h:0<=p/\p+9900<=1000000):An (fun k=>alm k b p) (fun v=>v.1.length<=601/\p<=v.2/\v.2<=p+9900):=by
 simp only [alm]
 refine An.bind (ajv hb (by omega)) fun c h1=>An.bind (aav hb 36 (by omega)) fun v h2=>?_
 refine aaM (fun _=>aaD (aai ?_)) (fun _=>aaM (fun _=>aaD (aai ?_)) (fun _=>aaM (fun _=>aaD (aai ?_)) (fun _=>aaM (fun _=>aai ?_) (fun _=>aai ?_))))
 all_goals
  simp only [List.length_set,List.length_append,List.length_cons,List.length_nil]
  omega
theorem akM {x:Int} (h:(Lit.int .u8 x).wf=true):0<=x/\x < 256:=by
 simp [Lit.wf,IntKind.min,IntKind.max,IntKind.bits,IntKind.signed] at h
 omega
theorem akv {l:List Int} (h:∀ x∈l,(Lit.int .u8 x).wf=true):An (fun _=>al7 l) (fun v=>Bt v.1/\v.2=0):=by
 simp only [al7]
 refine aaM (fun c=>aaD (aai ⟨⟨by simp;omega,fun x hx=>akM (h x (List.mem_of_mem_take hx))⟩,rfl⟩)) (fun c=>aai ⟨⟨by show l.length<=2000;omega,fun x hx=>akM (h x hx)⟩,rfl⟩)
theorem ahc {l:List Int} (h:∀ x∈l,(Lit.int .u8 x).wf=true):An (fun k=>alO k l) (fun v=>v.length<=601):=by
 simp only [alO]
 exact An.bind (akv h) fun v h1=>An.bind (ajw h1.1 (by omega)) fun c h2=>aai h2.1
theorem amn {T:List Bool} {s:Nat} (h:T.length=12) (hb:∀ r,r < 12->T.getD r false=s.testBit r):T=row s:=by
 apply List.ext_getElem (by rw [h,abo])
 intro i h1 h2
 have e1:=hb i (by omega)
 have e2:=acO s i (by omega)
 simp [h1] at e1
 simp [h2] at e2
 rw [e1,e2]
theorem ahD {s:Nat} (hs:s < 65536):∀ (d p:Nat),p+d=12->∀ T:List Bool,T.length=12->(∀ r,r < p->T.getD r false=s.testBit r)->Ev (fun k=>afa k (s:Int) T 12 (p:Int)) (row s)
 | 0,p,hp,T,hT,hb=>by
  refine Ev.succ ?_
  simp only [afa]
  exact aa5 (ab0 Ev.pure (amn hT fun r hr=>hb r (by omega)))
 | d+1,p,hp,T,hT,hb=>by
  refine Ev.succ ?_
  simp only [afa,aja hs (show p < 16 by omega),aaq (show p < 9223372036854775807 by omega)]
  refine aa2 (aaJ (aa2 (aa2 (ahD hs d (p+1) (by omega) _ (by simpa using hT) fun r hr=>?_))))
  rw [Int.toNat_natCast,ac5 _ _ _ _ _ (by omega)]
  by_cases e:r=p
  ·rw [if_pos e,e]
  rw [if_neg e]
  exact hb r (by omega)
theorem amC {s:Nat} (hs:s < 65536):Ev (fun k=>amd k (s:Int)) (row s):=by
 simp only [amd]
 exact aa2 (aaJ (ahD hs 12 0 rfl _ (by simp) fun r hr=>absurd hr (by omega))) (by decide)
theorem ak6 (L:List Nat) {p:Nat} (h:p < L.length):rows (L.take (p+1))=rows (L.take p) ++ [row (L.getD p 0)]:=by
 have e:L.getD p 0=L[p]:=by simp [h]
 have t:L.take (p+1)=L.take p ++ [L[p]]:=by rw [List.take_add_one,List.getElem?_eq_getElem h];rfl
 unfold rows
 rw [e,t,List.map_append]
 rfl
theorem agw {L:List Nat} {n:Nat} (hL:Tab n L) (hn:n<=600):∀ (d p:Nat),p+d=n->Ev (fun k=>afd k (rows (L.take p)) (ints L) (n:Int) (p:Int)) (rows L)
 | 0,p,hp=>by
  refine Ev.succ ?_
  simp only [afd]
  refine aa5 (ab0 Ev.pure ?_)
  rw [List.take_of_length_le (by have:=hL.1;omega)]
 | d+1,p,hp=>by
  have hl:=hL.1
  have ih:=agw hL hn d (p+1) (by omega)
  rw [ak6 L (by omega)] at ih
  refine Ev.succ ?_
  simp only [afd,acP,ab5,acr,List.length_take,aaq (show p < 9223372036854775807 by omega)]
  exact aa2 (aa2 (aa2 (Ev.bind (amC (Nat.lt_of_lt_of_le (hL.2 p) (by decide))) (aa2 ih))))
theorem aks {c:List SQ} (h:CV (qs c)):∃ L,LT c L/\Ev (fun k=>Saq.f k c) (rows L)/\Ev (fun k=>Sa2.f k c) (rows L):=by
 obtain⟨L,hL,e1,e2⟩:=akr h
 refine⟨L,hL,e1,?_⟩
 simp only [Sa2.f]
 refine Ev.bind (amh c) (aa2 (Ev.bind e2 ?_) (decide_eq_true h))
 rw [ab5,hL.tab.1]
 exact agw hL.tab (abb h).2 c.length 0 (Nat.zero_add _)
theorem ajs {c:List SQ} (h:¬ CV (qs c)):Ev (fun k=>Saq.f k c) []/\Ev (fun k=>Sa2.f k c) []:=by
 refine⟨?_,?_⟩
 ·simp only [Saq.f]
  exact aaJ (Ev.bind (acI c) (aa5 Ev.pure (by simpa [cvB] using h)))
 simp only [Sa2.f]
 exact Ev.bind (amh c) (aa5 Ev.pure (by simpa [cvB] using h))
theorem adX (v:List Bool) (h:v.length<=1000):∀ (d p:Nat),p+d=v.length->Ev (fun k=>aeY k v v (p:Int)) true
 | 0,p,hp=>by
  refine Ev.succ ?_
  simp only [aeY]
  exact aa5 Ev.pure
 | d+1,p,hp=>by
  refine Ev.succ ?_
  simp only [aeY,aaq (show p < 9223372036854775807 by omega)]
  exact aa2 (aa2 (aa2 (aa5 (adX v h d (p+1) (by omega)))))
theorem agf (v:List Bool) (h:v.length<=1000):Ev (fun k=>SbI.f k v v) true:=by
 simp only [SbI.f]
 exact aa2 (adX v h v.length 0 (Nat.zero_add _))
theorem adW {L:List Nat} (h:L.length<=1000):∀ (d p:Nat),p+d=L.length->Ev (fun k=>aeX k (rows L) (rows L) (p:Int)) true
 | 0,p,hp=>by
  have hl:=acr L
  refine Ev.succ ?_
  simp only [aeX]
  exact aa5 Ev.pure
 | d+1,p,hp=>by
  have hl:=acr L
  refine Ev.succ ?_
  simp only [aeX,ah3 (show p < L.length by omega),aaq (show p < 9223372036854775807 by omega)]
  exact aa2 (aa2 (aa2 (Ev.bind (agf _ (by rw [abo];omega)) (aa2 (adW h d (p+1) (by omega)) rfl))))
theorem acA {L:List Nat} (h:L.length<=1000):Ev (fun k=>SbJ.f k (rows L) (rows L)) true:=by
 simp only [SbJ.f]
 exact aa2 (adW h L.length 0 (Nat.zero_add _))
theorem afI {T:List Bool} (h:T.length=12) (hz:∀ r,T.getD r false=false):∀ (d p:Nat),p+d=12->Ev (fun k=>adE k T (p:Int)) false
 | 0,p,hp=>by
  refine Ev.succ ?_
  simp only [adE]
  exact aa5 Ev.pure
 | d+1,p,hp=>by
  refine Ev.succ ?_
  simp only [adE,abJ,hz,aaq (show p < 9223372036854775807 by omega)]
  exact aa2 (aa2 (aa5 (afI h hz d (p+1) (by omega))))
theorem akq {c:List Q} {i r:Nat} (h:(at_ c i).op=10) (hl:Live c i r):False:=by
 cases hl with
 | use _ u =>
  unfold uses at u
  omega
 | flow _ _ j _ =>
  simp [nx,h] at j
theorem ae7 {c:List SQ} (h:CV (qs c)) {L:List Nat} (hL:LT c L):∀ (d p:Nat),p+d=c.length->Ev (fun k=>acG k c (rows L) (p:Int)) true
 | 0,p,hp=>by
  refine Ev.succ ?_
  simp only [acG]
  exact aa5 Ev.pure
 | d+1,p,hp=>by
  have hn:=(abb h).2
  have hl:=hL.tab.1
  have hr:=acr L
  have hp':p < c.length:=by omega
  have ih:=ae7 h hL d (p+1) (by omega)
  obtain⟨_,⟨a0,a1⟩,_⟩:=abC (abM h hp')
  simp only [q_] at a0 a1
  refine Ev.succ ?_
  simp only [acG,ac4,ah3 (show p < L.length by omega),abo,aaq (show p < 9223372036854775807 by omega)]
  refine aa2 (aa2 ?_)
  by_cases e:(qa c p).f0=10
  ·refine aa2 (aa2 (Ev.bind (a:=false) ?_ (aa5 (aa5 ih (by omega)) (by simp)))) e
   simp only [SbH.f]
   refine afI (abo _) (fun r=>?_) 12 0 rfl
   by_cases hr:r < 12
   ·rw [acO _ _ hr]
    by_cases b:(L.getD p 0).testBit r=true
    ·exact absurd ((hL.iff p hp' r).1 b) (fun hh=>akq (by rw [ac6];exact e) hh)
    simpa using b
   rw [List.getD_eq_getElem?_getD,List.getElem?_eq_none (by rw [abo];omega)]
   rfl
  refine aa5 ?_ e
  by_cases e9:(qa c p).f0=9
  ·refine aa2 (aa2 (aa2 (aa2 (aa2 ih ?_)))) e9
   rw [aiU a0 a1]
   refine (hL.iff p hp' _).2 (Live.use (by rw [ab2];exact hp') ?_)
   rw [ac6]
   refine Or.inl ⟨Or.inr (Or.inr (Or.inr e9)),?_⟩
   show (qa c p).f2=((qa c p).f2.toNat:Int)
   omega
  exact aa5 ih e9
theorem ahC {l:List Int} (hw:∀ x∈l,(Lit.int .u8 x).wf=true):An (fun k=>SbG.f k l) (fun v=>v=true):=by
 simp only [SbG.f]
 refine aaM (fun _=>aai rfl) (fun _=>An.bind (ahc hw) fun c hc=>?_)
 by_cases h:CV (qs c)
 ·obtain⟨L,hL,e1,e2⟩:=aks h
  have h6:=abb h
  have hl:=hL.tab.1
  refine amk (Ev.bind e2 (Ev.bind e1 (Ev.bind (acA (L:=L) (by omega)) (aa2 (Ev.succ ?_) rfl)))) rfl
  simp only [afU]
  exact aa5 (ae7 h hL c.length 0 (Nat.zero_add _)) (by rw [beq_iff_eq,acr];omega)
 obtain⟨e1,e2⟩:=ajs h
 refine amk (Ev.bind e2 (Ev.bind e1 (Ev.bind (acA (L:=[]) (by simp)) (aa2 (Ev.succ ?_) rfl)))) rfl
 simp only [afU]
 exact aa2 (Ev.bind (acA (L:=[]) (by simp)) Ev.pure) (by simp)
end Go.Proofs.YtebpplallecogaaGreat.M
namespace Go.Proofs.YtebpplallecogaaGreat.Pure
open Go.Proofs.YtebpplallecogaaGreat.M
theorem FnLiveEnd:SbG.Pure:=by
 intro l _ _ hw
 obtain⟨v,e,h⟩:=ahC hw
 subst h
 exact e.get
end Go.Proofs.YtebpplallecogaaGreat.Pure
namespace Go.Proofs.YtebpplallecogaaGreat.fnLiveEnd
open Go.ChangeShapes Go.WideShapes Go.ChangeAt Go.RowKit
open Go.ChangeMaps (open_string shut_string)
theorem own : ownKnob Tryz.prog.godebug = none := by kernel_rfl
theorem laidOut : laidOutB Tryz.prog = true := by kernel_rfl
def IsRow (k : IntKind) (w : World) (a : Option Addr) (len cap : Nat) (zs : List Int) : Prop :=
  (a = none ∧ len = 0 ∧ cap = 0 ∧ zs = []) ∨
  ∃ x, a = some x ∧ len ≤ cap ∧ cap ≤ maxLen ∧ zs.length = cap ∧ (∀ i, i < zs.length → w.cell? (x.add i) = some (.int k (zs.getD i 0))) ∧ ∀ n ∈ zs, (Lit.int k n).wf = true
theorem lifted (os : Os) (started : os.Started) (H : Type) (enc : TypeId × Value → H) :
    ReturnsInHanded {} Tryz.checked os 5 .any (Rows.fnLiveEndSpec.pre6 enc Tryz.prog Tryz.f5 Rows.fnLiveEndRow.domain false) (Rows.fnLiveEndSpec.post enc Tryz.prog Tryz.f5 false true false false) := by
  refine returnsInHanded_of_change_sized (C := Tryz.checked) own started (by kernel_rfl) Tryz.func5
    (ChangeSpec.witness6 (enc := enc) (C := Tryz.checked) false ⟨#[], #[.slice none 0 0], []⟩ 8 (by kernel_rfl) (by kernel_rfl) (by kernel_rfl) (by kernel_rfl)) ?_
  intro W base args ds gs before hval0 hW hcnd hsz0 _
  have hsz : (DataW.weightsEach Tryz.prog (Tryz.f5.params.toList ++ Rows.fnLiveEndSpec.plain.varTypes Tryz.prog) (ds ++ gs)).all (· ≤ reachBytes) = true := hsz0
  have hval : ∀ (j : Nat) t v, Tryz.f5.params[j]? = some t → args[j]? = some v → Value.okWide Tryz.prog W .any base t v := hval0
  have hW' := hW
  obtain ⟨p, q, hA0, hV, rfl, hfz, hnd⟩ := hW
  have hA : DataW.TrodAll enc Tryz.prog W 0 (fun _ => true) true Tryz.f5.params.toList args.toList ds p := hA0
  rw [Tryz.params5] at hA hval hsz
  obtain ⟨v0, vs0, d0, ds0, p0, q0, hargs, rfl, rfl, h0, r0⟩ := trodAll_cons hA
  obtain ⟨rfl, rfl, rfl⟩ := trodAll_nil r0
  obtain rfl : args = #[v0] := by cases args; simp_all
  obtain ⟨rfl, rfl⟩ := trodVars_none hV
  obtain ⟨a0, len0, cap0, rfl⟩ := okWide_slice Tryz.underlying22 (hval 0 22 v0 rfl rfl)
  have k0 := h0
  have lt0 : ∀ x ∈ p0, x.block < W.heap.size := by obtain ⟨m, hm⟩ := k0; exact DataW.trod_lt m _ _ _ hm
  obtain ⟨z0, w0⟩ : ∃ zs, IsRow .u8 W a0 len0 cap0 zs := by
    obtain ⟨fuel, hf⟩ := h0
    rcases open_ints Tryz.underlying22 Tryz.underlying5 (by kernel_rfl) hf with ⟨hcs, _⟩ | ⟨x, l, c, zs, hcs, _, hl, hm, hz, _, hcell, hwz⟩
    · simp [Value.cells] at hcs
      obtain ⟨rfl, rfl, rfl⟩ := hcs
      exact ⟨[], .inl ⟨rfl, rfl, rfl, rfl⟩⟩
    · simp [Value.cells] at hcs
      obtain ⟨rfl, rfl, rfl⟩ := hcs
      exact ⟨zs, .inr ⟨_, rfl, hl, hm, by simpa using hz, hcell, hwz⟩⟩
  have y0 : len0 * 1 ≤ 140737488351232 := Go.Proofs.YtebpplallecogaaGreatW.PrintWords.sized_ints hsz (j := 0) (t := 22) rfl rfl Tryz.underlying22 Tryz.underlying5 (by kernel_rfl) (by kernel_rfl) h0
  clear hA0 hval0 hsz0 hsz
  refine (M.SbG.walk Pure.FnLiveEnd a0 len0 cap0 z0 W w0 y0).mono fun e W' ⟨he, bel⟩ => ?_
  subst he
  exact ⟨_, rfl, _, _, _, [], _, [], hW', trodAll_mk1 (shut_bool Tryz.underlying4 _), (trodAll_cons_mk (Below.trod laidOut (by kernel_rfl) (of_decide_eq_true (by kernel_rfl)) k0 bel lt0) trodAll_mk0), rfl, bel.frame _, fun h => by cases h⟩
theorem over : Rows.fnLiveEndRow.holds Tryz.pinned (OpenSpec.ofChange Rows.fnLiveEndSpec) :=
  OpenClaim.holds_of_wide 5 Tryz.f5 rfl rfl rfl rfl rfl rfl rfl ⟨rfl, rfl, rfl, rfl, rfl⟩ rfl rfl rfl rfl rfl (by kernel_rfl) Tryz.func5 (by kernel_rfl)
    (of_decide_eq_true (by kernel_rfl)) (by unfold Func.isWrapper; first | (rw [if_pos (by decide +kernel)]; kernel_rfl) | (rw [if_neg (by decide +kernel)]; exact ⟨rfl, rfl⟩))
    (fun os started H enc _ => lifted os started H enc)
theorem proved : Rows.FnLiveEndSaid := over
#print axioms proved
end Go.Proofs.YtebpplallecogaaGreat.fnLiveEnd
namespace Go.Proofs.YtebpplallecogaaGreat
/-- The row, under a short name, for the claim. -/
theorem fnLiveEnd_holds : Rows.FnLiveEndSaid := fnLiveEnd.proved
end Go.Proofs.YtebpplallecogaaGreat
