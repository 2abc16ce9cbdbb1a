/- A function as plain Lean and its contract: written by a program of this session's, turned from the kit's print. -/
import Derived.Test.YtebpplallecogaaGreatDI4
import Derived.WalkSpells
import Derived.Test.YtebpplallecogaaGreatRows
import Derived.WalkKit
import Derived.ProofKit
import Derived.OpenShut
import Derived.ShutString
import Derived.ChangeOld
import Derived.Below
import Derived.SizedLaws
import Derived.Test.YtebpplallecogaaGreatDIWSized
set_option linter.unusedVariables false
set_option linter.unusedSimpArgs false
set_option maxHeartbeats 8000000
set_option maxRecDepth 100000
namespace Go.Proofs.YtebpplallecogaaGreat.M
open Go.Proofs.Tryz Go.RowKit Go.Proofs.YtebpplallecogaaGreatW.PrintWords Go.Proofs.YtebpplallecogaaGreatW.PrintLast Go.Proofs.YtebpplallecogaaGreatW.PrintMore Kd
attribute [local go_sem] aal aaj aaz aay aae aad aak aai
def als (k:Nat) (aj:List Int) (aA:Int):Option ((List S27) × Int):=(alr k aj aA).bind fun ah=>((aaZ k aj ah.2 36).bind fun ak=>(if ak.1=0 then (if 0 < (ah.1.length:Int) then (some ((ah.1.set (0:Int).toNat (⟨(aa0 ah.1 0).f0,12,(aa0 ah.1 0).f2,(aa0 ah.1 0).f3,(aa0 ah.1 0).f4⟩:S27)),ak.2)) else (none)) else (if ak.1=1 then (if ah.1.length < 3518437208883 then (some ((ah.1 ++ [(⟨9,0,0,0,0⟩:S27)]),ak.2)) else (none)) else (if ak.1=2 then (if 0 < (ah.1.length:Int) then (some ((ah.1.set (0:Int).toNat (⟨4,0,0,0,(ah.1.length:Int)⟩:S27)),ak.2)) else (none)) else (if ak.1=3 then (some ((([]:List S27)),ak.2)) else (some (ah.1,ak.2)))))))
theorem alu (k g:Nat) (aj:List Int) (aA:Int) (r1:List S27) (r2:Int) (w0 w:World) (hI:Sab w0 w g aj aA) (hB:Below w0.heap.size w0 w) (h:als k aj aA=some (r1,r2)) :
  Calls prog 33 #[.pointer (some ⟨g,0,none⟩)] w fun e w'=>∃ dS:Value,e = .returned (dS)/\Kd.R k27 27 w' w.heap.size (fun _=>True) dS r1/\Sab w0 w' g aj r2/\Below w0.heap.size w0 w'/\aa6 w w' g none:=by
 have eG:=underlying27
 have HI0:=aM hI
 have HK:=aM (aaJ w g none)
 have HL:=aM hB.size
 clear hI
 have HW0:=aM hB.size
 have HB:=aM hB
 clear hB
 have H:=h;unfold als at H
 clear h
 obtain⟨⟨ae,ai⟩,A2,H⟩:=qE H
 try dsimp only at H
 obtain⟨⟨aC,aD⟩,A3,H⟩:=qE H
 try dsimp only at H
 replace H:=jE H;rcases H with ⟨dG,dH,H⟩ | ⟨c4,dG,dH,H⟩
 ·replace H:=jU H;obtain⟨c5,H⟩:=H
  have eH:=decide_eq_true c5
  have eO:decide (0 < ae.length)=true:=decide_eq_true (by omega)
  clear c5
  obtain⟨bZ,aH⟩:=ky ((ae.set (0:Int).toNat (⟨(aa0 ae 0).f0,12,(aa0 ae 0).f2,(aa0 ae 0).f3,(aa0 ae 0).f4⟩:S27)):List S27)
  replace H:=kv aH H
  obtain⟨rfl,rfl⟩:=oJ2 H
  go_enter func33,ntmps33
  go_wp2_with (first|((with_reducible refine jc 51 5 ?_);refine jM func51 (adl k g aj aA ae ai w0 _ (qI HI0) qB A2.out) ?_;rintro aG w7 ⟨ho0,hi,hb,hk⟩;have aa:=aM (R_lower ho0 kU);replace HK:=kI hk;replace HB:=aM hb;replace HI0:=aM hi;clear hb hk hi;(try clear ho0))|((with_reducible refine jc 52 7 ?_);refine jK func52 (aab k g aj ai 36 aC aD w0 _ (qI HI0) qB A3.out) ?_;rintro w8 ⟨hi,hb,hk⟩;replace aa:=aM (R_mono (R_keep (Sab.apart (show Sab w0 _ g aj ai from qI HI0) (qR aa) (by decide)) hk (fun _ h=>h.2)) (fun _ h=>h.1));replace HK:=kI hk;replace HB:=aM hb;replace HI0:=aM hi;clear hb hk hi;have p6:0<=(0:Int):=(by omega);have q6:(0:Int) < ((ae.length:Int):Int):=qD;have fq:(0 < ae.length)=True:=eq_true (by omega);obtain⟨aZ,dU,dV,dW,eP,fu,dX⟩:=R_form aa.out (by omega);(first|cases dV|(injection dV with ea_ en_ ec_;(first|subst ea_|(injection ea_ with ea_;subst ea_));subst ec_;clear en_));have eQ:=aM dW;have fw:=aM dX;clear dW eP dX;obtain⟨fA,dI,dY,bg,bi⟩:=R_elem aa.out z27 (0:Int) p6 q6;obtain rfl:=acB dY;have bK:w8.cell? ⟨aZ,(0:Int).toNat*5,none⟩=some (iV ((aa0 ae 0).f0)):=bg 0 _ rfl;have bL:w8.cell? ⟨aZ,(0:Int).toNat*5+1,none⟩=some (iV ((aa0 ae 0).f1)):=bg 1 _ rfl;have bM:w8.cell? ⟨aZ,(0:Int).toNat*5+2,none⟩=some (iV ((aa0 ae 0).f2)):=bg 2 _ rfl;have bN:w8.cell? ⟨aZ,(0:Int).toNat*5+3,none⟩=some (iV ((aa0 ae 0).f3)):=bg 3 _ rfl;have bO:w8.cell? ⟨aZ,(0:Int).toNat*5+4,none⟩=some (iV ((aa0 ae 0).f4)):=bg 4 _ rfl;have bP:w8.frozen? ⟨aZ,(0:Int).toNat*5,none⟩=false:=bi 0;have bQ:w8.frozen? ⟨aZ,(0:Int).toNat*5+1,none⟩=false:=bi 1;have bR:w8.frozen? ⟨aZ,(0:Int).toNat*5+2,none⟩=false:=bi 2;have bS:w8.frozen? ⟨aZ,(0:Int).toNat*5+3,none⟩=false:=bi 3;have bT:w8.frozen? ⟨aZ,(0:Int).toNat*5+4,none⟩=false:=bi 4;clear dI bg bi dY;(try rw [show ((0:Int)).toNat=0 from rfl] at bK);(try simp only [Nat.reduceMul,Nat.zero_mul,Nat.zero_add,Nat.reduceAdd] at bK);(try rw [show ((0:Int)).toNat=0 from rfl] at bP);(try simp only [Nat.reduceMul,Nat.zero_mul,Nat.zero_add,Nat.reduceAdd] at bP);(try rw [show ((0:Int)).toNat=0 from rfl] at bL);(try simp only [Nat.reduceMul,Nat.zero_mul,Nat.zero_add,Nat.reduceAdd] at bL);(try rw [show ((0:Int)).toNat=0 from rfl] at bQ);(try simp only [Nat.reduceMul,Nat.zero_mul,Nat.zero_add,Nat.reduceAdd] at bQ);(try rw [show ((0:Int)).toNat=0 from rfl] at bM);(try simp only [Nat.reduceMul,Nat.zero_mul,Nat.zero_add,Nat.reduceAdd] at bM);(try rw [show ((0:Int)).toNat=0 from rfl] at bR);(try simp only [Nat.reduceMul,Nat.zero_mul,Nat.zero_add,Nat.reduceAdd] at bR);(try rw [show ((0:Int)).toNat=0 from rfl] at bN);(try simp only [Nat.reduceMul,Nat.zero_mul,Nat.zero_add,Nat.reduceAdd] at bN);(try rw [show ((0:Int)).toNat=0 from rfl] at bS);(try simp only [Nat.reduceMul,Nat.zero_mul,Nat.zero_add,Nat.reduceAdd] at bS);(try rw [show ((0:Int)).toNat=0 from rfl] at bO);(try simp only [Nat.reduceMul,Nat.zero_mul,Nat.zero_add,Nat.reduceAdd] at bO);(try rw [show ((0:Int)).toNat=0 from rfl] at bT);(try simp only [Nat.reduceMul,Nat.zero_mul,Nat.zero_add,Nat.reduceAdd] at bT);replace p6:=eq_true p6;replace q6:=eq_true q6;have dZ:=aM (show Kd.R k27 27 w8 w.heap.size (fun _=>True) (.slice (some ⟨aZ,0,none⟩) ae.length dU) ae from (qR aa));obtain⟨fB,cu,d9,bV,cz⟩:=R_elem dZ.out z27 (0:Int) (by omega) (by have h_:(0:Int) < ((ae.length:Int):Int):=qD;first|exact h_|(have e_:=(R_reads' aa.out).1;omega)|simpa using h_);obtain rfl:=acB d9;have dJ:=R_seg dZ.out (0:Int) (by omega) (by have h_:(0:Int) < ((ae.length:Int):Int):=qD;first|exact h_|(have e_:=(R_reads' aa.out).1;omega)|simpa using h_) (seg:=[iV 12]) (j:=1) cu bV (show 2<=5 from by decide) (x':=(⟨(aa0 ae 0).f0,12,(aa0 ae 0).f2,(aa0 ae 0).f3,(aa0 ae 0).f4⟩:S27)) (aaV _ _ _ (⟨(aa0 ae 0).f0,12,(aa0 ae 0).f2,(aa0 ae 0).f3,(aa0 ae 0).f4⟩:S27) ) (fun _ hk=>hk);have bu:=bV 1 _ rfl;(try simp only [show (k27).sz=5 from rfl,Nat.mul_one,Nat.add_zero] at bu);(try rw [show ((0:Int)).toNat=0 from rfl] at bu);(try simp only [Nat.reduceMul,Nat.zero_mul,Nat.zero_add,Nat.reduceAdd] at bu);have bv:=cz 1;(try simp only [show (k27).sz=5 from rfl,Nat.mul_one,Nat.add_zero] at bv);(try rw [show ((0:Int)).toNat=0 from rfl] at bv);(try simp only [Nat.reduceMul,Nat.zero_mul,Nat.zero_add,Nat.reduceAdd] at bv);clear cu bV cz d9)|((with_reducible refine aaB (t:=3) (p:=12) rfl ?_);refine aar (t:=3) (p:=12) (v:=?dK) (w1:=(w8.setCell ⟨aZ,1,none⟩ (iV 12))) ?hg ?ho ?hn ?hr ?_;(case ho=>rfl);(case hg=>rfl);(case hn=>rfl);(case hr=>first|(go_simp;done)|(go_simp;rfl));intro dL hw;have hg:w8.grownBy dL (some aZ):=(by rw [hw];exact dJ.2);have hp_:Kd.R k27 27 dL w.heap.size (fun _=>True) (.slice (some ⟨aZ,0,none⟩) ae.length dU) bZ:=(by rw [hw,aH.out];exact dJ.1);clear dJ;replace HI0:=aM (Sab.grown (qI HI0) hg (ac5 HI0.out aa.out (by decide)));replace HB:=aM ((by rw [hw];exact aac (HB.out) (Nat.le_trans HL.out eQ.out):Below w0.heap.size w0 dL));replace HK:=aM (aa6.trans qH (aaQ hg g) (R_base2 aa.out));replace aa:=aM hp_;clear hg hw hp_))
  go_ret
  exact⟨_,qW,qR aa,qI HI0,qB,qH⟩
 replace H:=jE H;rcases H with ⟨cB,cK,H⟩ | ⟨c11,cB,cK,H⟩
 ·replace H:=jL H;obtain⟨cO,H⟩:=H
  obtain⟨ed,aI⟩:=ky ((ae ++ [(⟨9,0,0,0,0⟩:S27)]):List S27)
  replace H:=kv aI H
  obtain⟨rfl,rfl⟩:=oJ2 H
  go_enter func33,ntmps33
  go_wp2_with (first|((with_reducible refine jc 51 5 ?_);refine jM func51 (adl k g aj aA ae ai w0 _ (qI HI0) qB A2.out) ?_;rintro aG fC ⟨ho0,hi,hb,hk⟩;have aa:=aM (R_lower ho0 kU);replace HK:=kI hk;replace HB:=aM hb;replace HI0:=aM hi;clear hb hk hi;(try clear ho0))|((with_reducible refine jc 52 7 ?_);refine jK func52 (aab k g aj ai 36 aC aD w0 _ (qI HI0) qB A3.out) ?_;rintro fD ⟨hi,hb,hk⟩;replace aa:=aM (R_mono (R_keep (Sab.apart (show Sab w0 _ g aj ai from qI HI0) (qR aa) (by decide)) hk (fun _ h=>h.2)) (fun _ h=>h.1));replace HK:=kI hk;replace HB:=aM hb;replace HI0:=aM hi;clear hb hk hi)|((with_reducible refine aaa (b:=.append) (xs:=#[.tmp 15,.tmp 17]) rfl ?_);at_builtin;refine R_append k27 w.heap.size rfl (.tmp 15) (.tmp 17) 23 27 (.agg #[(iV 0),(iV 0),(iV 0),(iV 0),(iV 0)]) 40 rfl underlying23 aba rfl (by decide) (by omega) aG ae (⟨9,0,0,0,0⟩:S27) [iV 9,iV 0,iV 0,iV 0,iV 0] (fun _=>True) (fun _=>False) rfl rfl ?aP (fun _ hk=>hk.elim) ?aF ?aO (Below.refl _ _) ?aS ?aL ?_;(case aP=>exact aaV _ _ _ (⟨9,0,0,0,0⟩:S27));(case aF=>exact (fun _ _=>trivial));(case aO=>exact (qR aa));(case aS=>exact kU);(case aL=>have:=cO.out;omega);intro ek fE ho hb hg hat;rw [<- aI.out] at ho;have bW:=aM ho;replace HI0:=aM (Sab.grown (qI HI0) hg (ac5 HI0.out aa.out (by decide)));replace HB:=aM (abG qB HL.out hb);replace HK:=aM (aa6.trans qH (aaQ hg g) (R_base2 aa.out));clear aa;clear ho hb hg hat))
  go_ret
  exact⟨_,qW,qR bW,qI HI0,qB,qH⟩
 replace H:=jE H;rcases H with ⟨df,dh,H⟩ | ⟨c16,df,dh,H⟩
 ·replace H:=jU H;obtain⟨c17,H⟩:=H
  have eu:=decide_eq_true c17
  have eB:decide (0 < ae.length)=true:=decide_eq_true (by omega)
  clear c17
  obtain⟨di,aJ⟩:=ky ((ae.set (0:Int).toNat (⟨4,0,0,0,(ae.length:Int)⟩:S27)):List S27)
  replace H:=kv aJ H
  obtain⟨rfl,rfl⟩:=oJ2 H
  go_enter func33,ntmps33
  go_wp2_with (first|((with_reducible refine jc 51 5 ?_);refine jM func51 (adl k g aj aA ae ai w0 _ (qI HI0) qB A2.out) ?_;rintro aG fF ⟨ho0,hi,hb,hk⟩;have aa:=aM (R_lower ho0 kU);replace HK:=kI hk;replace HB:=aM hb;replace HI0:=aM hi;clear hb hk hi;(try clear ho0))|((with_reducible refine jc 52 7 ?_);refine jK func52 (aab k g aj ai 36 aC aD w0 _ (qI HI0) qB A3.out) ?_;rintro bn ⟨hi,hb,hk⟩;replace aa:=aM (R_mono (R_keep (Sab.apart (show Sab w0 _ g aj ai from qI HI0) (qR aa) (by decide)) hk (fun _ h=>h.2)) (fun _ h=>h.1));replace HK:=kI hk;replace HB:=aM hb;replace HI0:=aM hi;clear hb hk hi;obtain⟨eT,dn,dM⟩:=R_slice aa.out;subst dM;have dN:0<=(0:Int):=(by omega);have dO:(0:Int) < ((ae.length:Int):Int):=qD;have eU:(0 < ae.length)=True:=eq_true (by omega);obtain⟨au,eX,dw,dx,dP,eY,dz⟩:=R_form aa.out (by omega);(first|cases dw|(injection dw with ea_ en_ ec_;(first|subst ea_|(injection ea_ with ea_;subst ea_));subst ec_;clear en_));have bz:=aM dx;have eZ:=aM dz;clear dx dP dz;obtain⟨fe,dA,dB,ax,ay⟩:=R_elem aa.out z27 (0:Int) dN dO;obtain rfl:=acB dB;have bA:bn.cell? ⟨au,(0:Int).toNat*5,none⟩=some (iV ((aa0 ae 0).f0)):=ax 0 _ rfl;have bB:bn.cell? ⟨au,(0:Int).toNat*5+1,none⟩=some (iV ((aa0 ae 0).f1)):=ax 1 _ rfl;have bC:bn.cell? ⟨au,(0:Int).toNat*5+2,none⟩=some (iV ((aa0 ae 0).f2)):=ax 2 _ rfl;have bD:bn.cell? ⟨au,(0:Int).toNat*5+3,none⟩=some (iV ((aa0 ae 0).f3)):=ax 3 _ rfl;have bE:bn.cell? ⟨au,(0:Int).toNat*5+4,none⟩=some (iV ((aa0 ae 0).f4)):=ax 4 _ rfl;have bF:bn.frozen? ⟨au,(0:Int).toNat*5,none⟩=false:=ay 0;have bG:bn.frozen? ⟨au,(0:Int).toNat*5+1,none⟩=false:=ay 1;have bH:bn.frozen? ⟨au,(0:Int).toNat*5+2,none⟩=false:=ay 2;have bI:bn.frozen? ⟨au,(0:Int).toNat*5+3,none⟩=false:=ay 3;have bJ:bn.frozen? ⟨au,(0:Int).toNat*5+4,none⟩=false:=ay 4;clear dA ax ay dB;(try rw [show ((0:Int)).toNat=0 from rfl] at bA);(try simp only [Nat.reduceMul,Nat.zero_mul,Nat.zero_add,Nat.reduceAdd] at bA);(try rw [show ((0:Int)).toNat=0 from rfl] at bF);(try simp only [Nat.reduceMul,Nat.zero_mul,Nat.zero_add,Nat.reduceAdd] at bF);(try rw [show ((0:Int)).toNat=0 from rfl] at bB);(try simp only [Nat.reduceMul,Nat.zero_mul,Nat.zero_add,Nat.reduceAdd] at bB);(try rw [show ((0:Int)).toNat=0 from rfl] at bG);(try simp only [Nat.reduceMul,Nat.zero_mul,Nat.zero_add,Nat.reduceAdd] at bG);(try rw [show ((0:Int)).toNat=0 from rfl] at bC);(try simp only [Nat.reduceMul,Nat.zero_mul,Nat.zero_add,Nat.reduceAdd] at bC);(try rw [show ((0:Int)).toNat=0 from rfl] at bH);(try simp only [Nat.reduceMul,Nat.zero_mul,Nat.zero_add,Nat.reduceAdd] at bH);(try rw [show ((0:Int)).toNat=0 from rfl] at bD);(try simp only [Nat.reduceMul,Nat.zero_mul,Nat.zero_add,Nat.reduceAdd] at bD);(try rw [show ((0:Int)).toNat=0 from rfl] at bI);(try simp only [Nat.reduceMul,Nat.zero_mul,Nat.zero_add,Nat.reduceAdd] at bI);(try rw [show ((0:Int)).toNat=0 from rfl] at bE);(try simp only [Nat.reduceMul,Nat.zero_mul,Nat.zero_add,Nat.reduceAdd] at bE);(try rw [show ((0:Int)).toNat=0 from rfl] at bJ);(try simp only [Nat.reduceMul,Nat.zero_mul,Nat.zero_add,Nat.reduceAdd] at bJ);replace dN:=eq_true dN;replace dO:=eq_true dO;have dC:=aM (show Kd.R k27 27 bn w.heap.size (fun _=>True) (.slice (some ⟨au,0,none⟩) ae.length dn) ae from (qR aa));obtain⟨fo,bU,dD,av,az⟩:=R_elem dC.out z27 (0:Int) (by omega) (by have h_:(0:Int) < ((ae.length:Int):Int):=qD;first|exact h_|(have e_:=(R_reads' aa.out).1;omega)|simpa using h_);obtain rfl:=acB dD;have bX:=R_seg dC.out (0:Int) (by omega) (by have h_:(0:Int) < ((ae.length:Int):Int):=qD;first|exact h_|(have e_:=(R_reads' aa.out).1;omega)|simpa using h_) (seg:=[iV 4,iV 0,iV 0,iV 0,iV (ae.length:Int)]) (j:=0) bU av (show 5<=5 from by decide) (x':=(⟨4,0,0,0,(ae.length:Int)⟩:S27)) (aaV _ _ _ (⟨4,0,0,0,(ae.length:Int)⟩:S27) ) (fun _ hk=>hk);have aK:=av 0 _ rfl;(try simp only [show (k27).sz=5 from rfl,Nat.mul_one,Nat.add_zero] at aK);(try rw [show ((0:Int)).toNat=0 from rfl] at aK);(try simp only [Nat.reduceMul,Nat.zero_mul,Nat.zero_add,Nat.reduceAdd] at aK);have aN:=az 0;(try simp only [show (k27).sz=5 from rfl,Nat.mul_one,Nat.add_zero] at aN);(try rw [show ((0:Int)).toNat=0 from rfl] at aN);(try simp only [Nat.reduceMul,Nat.zero_mul,Nat.zero_add,Nat.reduceAdd] at aN);have aQ:=av 1 _ rfl;(try simp only [show (k27).sz=5 from rfl,Nat.mul_one,Nat.add_zero] at aQ);(try rw [show ((0:Int)).toNat=0 from rfl] at aQ);(try simp only [Nat.reduceMul,Nat.zero_mul,Nat.zero_add,Nat.reduceAdd] at aQ);have aR:=az 1;(try simp only [show (k27).sz=5 from rfl,Nat.mul_one,Nat.add_zero] at aR);(try rw [show ((0:Int)).toNat=0 from rfl] at aR);(try simp only [Nat.reduceMul,Nat.zero_mul,Nat.zero_add,Nat.reduceAdd] at aR);have aT:=av 2 _ rfl;(try simp only [show (k27).sz=5 from rfl,Nat.mul_one,Nat.add_zero] at aT);(try rw [show ((0:Int)).toNat=0 from rfl] at aT);(try simp only [Nat.reduceMul,Nat.zero_mul,Nat.zero_add,Nat.reduceAdd] at aT);have aU:=az 2;(try simp only [show (k27).sz=5 from rfl,Nat.mul_one,Nat.add_zero] at aU);(try rw [show ((0:Int)).toNat=0 from rfl] at aU);(try simp only [Nat.reduceMul,Nat.zero_mul,Nat.zero_add,Nat.reduceAdd] at aU);have aV:=av 3 _ rfl;(try simp only [show (k27).sz=5 from rfl,Nat.mul_one,Nat.add_zero] at aV);(try rw [show ((0:Int)).toNat=0 from rfl] at aV);(try simp only [Nat.reduceMul,Nat.zero_mul,Nat.zero_add,Nat.reduceAdd] at aV);have aW:=az 3;(try simp only [show (k27).sz=5 from rfl,Nat.mul_one,Nat.add_zero] at aW);(try rw [show ((0:Int)).toNat=0 from rfl] at aW);(try simp only [Nat.reduceMul,Nat.zero_mul,Nat.zero_add,Nat.reduceAdd] at aW);have aX:=av 4 _ rfl;(try simp only [show (k27).sz=5 from rfl,Nat.mul_one,Nat.add_zero] at aX);(try rw [show ((0:Int)).toNat=0 from rfl] at aX);(try simp only [Nat.reduceMul,Nat.zero_mul,Nat.zero_add,Nat.reduceAdd] at aX);have aY:=az 4;(try simp only [show (k27).sz=5 from rfl,Nat.mul_one,Nat.add_zero] at aY);(try rw [show ((0:Int)).toNat=0 from rfl] at aY);(try simp only [Nat.reduceMul,Nat.zero_mul,Nat.zero_add,Nat.reduceAdd] at aY);clear bU av az dD)|((with_reducible refine aaB (t:=27) (p:=25) rfl ?_);refine aar (t:=27) (p:=25) (v:=?dQ) (w1:=(((((bn.setCell ⟨au,0,none⟩ (iV 4)).setCell ⟨au,1,none⟩ (iV 0)).setCell ⟨au,2,none⟩ (iV 0)).setCell ⟨au,3,none⟩ (iV 0)).setCell ⟨au,4,none⟩ (iV (ae.length:Int)))) ?hg ?ho ?hn ?hr ?_;(case ho=>rfl);(case hg=>rfl);(case hn=>rfl);(case hr=>first|(go_simp;done)|(go_simp;rfl));intro dR hw;have hg:bn.grownBy dR (some au):=(by rw [hw];exact bX.2);have hp_:Kd.R k27 27 dR w.heap.size (fun _=>True) (.slice (some ⟨au,0,none⟩) ae.length dn) di:=(by rw [hw,aJ.out];exact bX.1);clear bX;replace HI0:=aM (Sab.grown (qI HI0) hg (ac5 HI0.out aa.out (by decide)));replace HB:=aM ((by rw [hw];exact aac (aac (aac (aac (aac (HB.out) (Nat.le_trans HL.out bz.out)) (Nat.le_trans HL.out bz.out)) (Nat.le_trans HL.out bz.out)) (Nat.le_trans HL.out bz.out)) (Nat.le_trans HL.out bz.out):Below w0.heap.size w0 dR));replace HK:=aM (aa6.trans qH (aaQ hg g) (R_base2 aa.out));replace aa:=aM hp_;clear hg hw hp_))
  go_ret
  exact⟨_,qW,qR aa,qI HI0,qB,qH⟩
 replace H:=jE H;rcases H with ⟨dE,dF,H⟩ | ⟨c24,dE,dF,H⟩
 ·obtain⟨eD,aB⟩:=ky ([]:List S27)
  replace H:=kv aB H
  obtain⟨rfl,rfl⟩:=oJ2 H
  go_enter func33,ntmps33
  go_wp2_with (first|((with_reducible refine jc 51 5 ?_);refine jM func51 (adl k g aj aA ae ai w0 _ (qI HI0) qB A2.out) ?_;rintro aG fG ⟨ho0,hi,hb,hk⟩;have aa:=aM (R_lower ho0 kU);replace HK:=kI hk;replace HB:=aM hb;replace HI0:=aM hi;clear hb hk hi;(try clear ho0))|((with_reducible refine jc 52 7 ?_);refine jK func52 (aab k g aj ai 36 aC aD w0 _ (qI HI0) qB A3.out) ?_;rintro fH ⟨hi,hb,hk⟩;replace aa:=aM (R_mono (R_keep (Sab.apart (show Sab w0 _ g aj ai from qI HI0) (qR aa) (by decide)) hk (fun _ h=>h.2)) (fun _ h=>h.1));replace HK:=kI hk;replace HB:=aM hb;replace HI0:=aM hi;clear hb hk hi)|((with_reducible refine jd 28 ?_);refine jV k27 27 ([]:List S27) [] (aa9 _ _) ?_;intro eF fI bq hb;replace bq:=kr aB bq;have bY:=aM (R_lower (R_new' bq (R_lt (qR aa))) kU);replace aa:=kO aa bq hb;replace HI0:=aM (Sab.below (qI HI0) hb);replace HK:=kY hb;replace HB:=kH hb;clear hb bq))
  go_ret
  exact⟨_,qW,by (with_reducible repeat (first|apply R_alloc|apply R_drewN|apply R_drew));exact R_mono bY.out (fun _ hk=>trivial),qI HI0,qB,qH⟩
 obtain⟨rfl,rfl⟩:=oJ2 H
 go_enter func33,ntmps33
 go_wp2_with (first|((with_reducible refine jc 51 5 ?_);refine jM func51 (adl k g aj aA ae ai w0 _ (qI HI0) qB A2.out) ?_;rintro aG fJ ⟨ho0,hi,hb,hk⟩;have aa:=aM (R_lower ho0 kU);replace HK:=kI hk;replace HB:=aM hb;replace HI0:=aM hi;clear hb hk hi;(try clear ho0))|((with_reducible refine jc 52 7 ?_);refine jK func52 (aab k g aj ai 36 aC aD w0 _ (qI HI0) qB A3.out) ?_;rintro fK ⟨hi,hb,hk⟩;replace aa:=aM (R_mono (R_keep (Sab.apart (show Sab w0 _ g aj ai from qI HI0) (qR aa) (by decide)) hk (fun _ h=>h.2)) (fun _ h=>h.1));replace HK:=kI hk;replace HB:=aM hb;replace HI0:=aM hi;clear hb hk hi))
 go_ret
 exact⟨_,qW,qR aa,qI HI0,qB,qH⟩
end Go.Proofs.YtebpplallecogaaGreat.M
namespace Go.Proofs.YtebpplallecogaaGreat.M
open Go.Proofs.Tryz Go.RowKit Go.Proofs.YtebpplallecogaaGreatW.PrintWords Go.Proofs.YtebpplallecogaaGreatW.PrintLast Go.Proofs.YtebpplallecogaaGreatW.PrintMore
attribute [local go_sem] aal aaj aaz aay aae aad aak aai
def al8 (l0:List Int):Option (List Int × Int):=if (l0.length:Int) > 2000 then (if 2000<=(l0.length:Int) then (some (l0.take 2000,0)) else (none)) else (some (l0,0))
theorem al9 (A0:Option Addr) (c0:Nat) (l0 r1:List Int) (r2:Int) (w0 w:World) (hB:Below w0.heap.size w0 w) (hr0:Kd.C (Kd.int .u8) w0 A0 l0.length l0) (hc0:l0.length<=c0) (h:al8 l0=some (r1,r2)) :
  Calls prog 34 #[.slice A0 l0.length c0] w fun e w'=>∃ g_:Nat,e = .returned (.pointer (some ⟨g_,0,none⟩))/\Sab w0 w' g_ r1 r2/\Below w0.heap.size w0 w'/\Below w.heap.size w w':=by
 have aG:=underlying71
 have aB:=aM hr0
 have aH:=aM hc0
 clear hr0 hc0
 have HBW:=jb_ w
 have HW0:=aM hB.size
 have HB:=aM hB
 clear hB
 have H:=h;unfold al8 at H
 clear h
 by_cases c2:(l0.length:Int) > 2000
 ·rw [if_pos c2] at H
  have ay:=decide_eq_true c2
  have az:decide (2000 < l0.length)=true:=decide_eq_true (by omega)
  clear c2
  replace H:=jJ H;obtain⟨aI,aJ,H⟩:=H
  obtain⟨rfl,rfl⟩:=oJ2 H
  obtain⟨i04,av,_,ax,_⟩:=info_parts aqw
  obtain⟨aC,aD,aF⟩:=ah6 (P:=prog) (Value.int .u8) 0 22 5 .i64 underlying22 av ax A0 c0 l0 2000 (by omega) (qD) aH.out
  have af:=aM (Kd.C_of_reads (h1:=fun _=>rfl) (aD _ (Kd.reads_of_C aB.out)))
  have aA:=aM aF
  clear aD aF av ax
  go_enter func34,ntmps34
  go_wp2_with (first|((with_reducible refine jd 10 ?_);refine aeb ?hg (N:=10) ?hd (cs:=#[.slice A0 (l0.take 2000).length c0,iV 0]) (t:=71) ?hr ?_;(case hd=>rfl);(case hg=>rfl);(case hr=>first|(go_simp;done)|(go_simp;rfl));intro aa hg w5 hbox hb;have ag:=aM hbox;have ah:=aM ((by rw [hg];exact (aa4 (by repeat (first|(with_reducible first|exact HBW.out|apply aaE|apply aat|apply aaf)|exact HBW.out))):w.heap.size<=aa));have ai:=aM ((Nat.le_trans HW0.out (by rw [hg];exact (aa4 (by repeat (first|(with_reducible first|exact HBW.out|apply aaE|apply aat|apply aaf)|exact HBW.out))):w.heap.size<=aa):w0.heap.size<=aa));replace HBW:=aM (abS HBW.out hb);replace HB:=kH hb;clear hb hbox hg))
  go_ret
  exact⟨_,rfl,(show Sab w0 _ aa (l0.take 2000) 0 from ⟨_,_,qK ag,ai.out,af.out⟩),qB,by repeat (first|(with_reducible first|exact HBW.out|apply aaE|apply aat|apply aaf|refine aac ?_ ah.out)|exact HBW.out)⟩
 rw [if_neg c2] at H
 have ay:=decide_eq_false c2
 have az:decide (2000 < l0.length)=false:=decide_eq_false (by omega)
 clear c2
 obtain⟨rfl,rfl⟩:=oJ2 H
 go_enter func34,ntmps34
 go_wp2_with (first|((with_reducible refine jd 10 ?_);refine jY _ 71 ?_;intro ae hg w6 aj hb;have ak:=aM ((by rw [hg];exact (aa4 (by repeat (first|(with_reducible first|exact HBW.out|apply aaE|apply aat|apply aaf)|exact HBW.out))):w.heap.size<=ae));have au:=aM ((Nat.le_trans HW0.out (by rw [hg];exact (aa4 (by repeat (first|(with_reducible first|exact HBW.out|apply aaE|apply aat|apply aaf)|exact HBW.out))):w.heap.size<=ae):w0.heap.size<=ae));replace HBW:=aM (abS HBW.out hb);replace HB:=kH hb;clear hb hg))
 go_ret
 exact⟨_,rfl,(show Sab w0 _ ae l0 0 from ⟨_,_,qK aj,au.out,aB.out⟩),qB,by repeat (first|(with_reducible first|exact HBW.out|apply aaE|apply aat|apply aaf|refine aac ?_ ak.out)|exact HBW.out)⟩
def am0 (k:Nat) (l0:List Int):Option ((List S27)):=(al8 l0).bind fun aa=>((als k aa.1 aa.2).bind fun ak=>(some ak.1))
theorem am1 (k:Nat) (A0:Option Addr) (c0:Nat) (l0:List Int) (r:List S27) (w:World) (hr0:Kd.C (Kd.int .u8) w A0 l0.length l0) (hc0:l0.length<=c0) (h:am0 k l0=some r) :
  Calls prog 14 #[.slice A0 l0.length c0] w fun e w'=>∃ az:Value,e = .returned (az)/\Kd.R k27 27 w' w.heap.size (fun _=>True) az r/\Below w.heap.size w w':=by
 have aB:=aM hr0
 have aC:=aM hc0
 clear hr0 hc0
 have HB:=jb_ w
 have H:=h;unfold am0 at H
 clear h
 obtain⟨⟨ah,ai⟩,A2,H⟩:=qE H
 try dsimp only at H
 obtain⟨⟨av,ax⟩,A3,H⟩:=qE H
 try dsimp only at H
 obtain rfl:=oJ H
 go_enter func14,ntmps14
 go_wp2_with (first|((with_reducible refine jc 34 4 ?_);refine jM func34 (al9 _ _ l0 ah ai w _ qB aB.out aC.out A2.out) ?_;rintro aj w4 ⟨hi,hb,hb2⟩;have ag:=aM hi;replace HB:=aM hb;(try clear hb);(try clear hb2);(try clear hi))|((with_reducible refine jc 33 5 ?_);refine jM func33 (alu k aj ah ai av ax w _ (qI ag) qB A3.out) ?_;rintro aA w5 ⟨ho0,hi,hb,hk⟩;have au:=kL ho0;replace HB:=aM hb;replace ag:=aM hi;(try clear hb);(try clear hk);(try clear hi);(try clear ho0)))
 go_ret
 exact⟨_,qW,qR au,qB⟩
def ajO (a0 a1:Int):Option (Bool):=if 0<=a1 then (some ((Go.bits .and .u16 (shr .u16 a0 a1) 1) == 1)) else (none)
theorem ag3 (a0 a1:Int) (r:Bool) (w:World) (h:ajO a0 a1=some r) :
  Calls prog 53 #[.int .u16 a0,iV a1] w fun e w'=>e = .returned (.bool r)/\aaD w w':=by
 have H:=h;unfold ajO at H
 clear h
 replace H:=jJ H;obtain⟨ah,ai,H⟩:=H
 obtain⟨ae,aa⟩:∃ j_:Int,(shr .u16 a0 a1)=j_:=⟨_,rfl⟩
 replace H:(some ((Go.bits .and .u16 (ae) 1) == 1))=some r:=by first|(rw [aa] at H;exact H)|(simp only [aa] at H ⊢;exact H)
 have af:(a0 / 2 ^ min a1.toNat 16)=ae:=aa
 have ag:a1<=16->(a0 / 2 ^ a1.toNat)=ae:=ahu aa
 obtain rfl:=oJ H
 go_enter func53,ntmps53
 go_wp2
 go_ret
 exact⟨by first|rfl|(simp;done)|(simp only [<- aa] <;> (first|rfl|simp))|(simp [*];done),by repeat (first|exact aaO _|apply aaD.step)⟩
end Go.Proofs.YtebpplallecogaaGreat.M
namespace Go.Proofs.YtebpplallecogaaGreat.M
open Go.Proofs.Tryz Go.RowKit Go.Proofs.YtebpplallecogaaGreatW.PrintWords Go.Proofs.YtebpplallecogaaGreatW.PrintLast Go.Proofs.YtebpplallecogaaGreatW.PrintMore Kd
attribute [local go_sem] aal aaj aaz aay aae aad aak aai
def adp:Nat->List S27->List Int->List Int->List S27->Int->Int->Option (List Int)
 | 0,_,_,_,_,_,_=>none
 | k+1,x0,x3,x4,aK,bg,aG=>if aG < bg then (if 0<=aG then (if aG < (aK.length:Int) then ((aiF ((aa0 aK aG).f0) ((aa0 aK aG).f1) ((aa0 aK aG).f2) ((aa0 aK aG).f3) ((aa0 aK aG).f4)).bind fun aN=>(if aN>=0 then (if ((aa0 aK aG).f0)=7 then (adp k x0 x3 x4 aK bg (wrap64 (aG+1))) else ((Sa7.f k x0 x4 aG).bind fun aJ=>((ajO aJ aN).bind fun aU=>(if aU=true then (adp k x0 x3 x4 aK bg (wrap64 (aG+1))) else (if x3.length < 17592186044416 then (adp k x0 (x3 ++ [aG]) x4 aK bg (wrap64 (aG+1))) else (none)))))) else (adp k x0 x3 x4 aK bg (wrap64 (aG+1))))) else (none)) else (none)) else (some x3)
def Sa5.f (k:Nat) (l0:List S27):Option (List Int):=(Sa6.f k l0).bind fun az=>(adp k l0 ([]:List Int) az l0 (l0.length:Int) 0)
theorem aoO {G:Prop} (h:G:=by
  go_wp2_with (first|((with_reducible refine jd 6 ?_);refine jY _ 27 ?_;intro ae hg bu af hb;have aV:=kG hg;replace ay:=kR ay hb;replace ax:=kR ax hb;replace HB:=kH hb;clear hb hg;have bv:=jz5 af)|((with_reducible refine jc 50 18 ?_);refine jG func50 #[.agg #[iV ((aa0 l0 aa).f0),iV ((aa0 l0 aa).f1),iV ((aa0 l0 aa).f2),iV ((aa0 l0 aa).f3),iV ((aa0 l0 aa).f4)]] ?_;refine (Sac.calls _ _ _ _ _ _ _ (aa1.out (by assumption))).mono ?_;rintro e bz ⟨rfl,hb⟩;refine⟨_,rfl,?_⟩;replace ay:=aM (R_below (by (with_reducible repeat (first|apply R_alloc|apply R_drewN|apply R_drew));exact (R_mono (R_far (p:=⟨ae,4,none⟩) (R_far (p:=⟨ae,3,none⟩) (R_far (p:=⟨ae,2,none⟩) (R_far (p:=⟨ae,1,none⟩) (R_far (p:=⟨ae,0,none⟩) (R_types ay.out af.out (by decide)) (fun _ hk=>hk.2) (iV ((aa0 l0 aa).f0))) (fun _ hk=>hk.2) (iV ((aa0 l0 aa).f1))) (fun _ hk=>hk.2) (iV ((aa0 l0 aa).f2))) (fun _ hk=>hk.2) (iV ((aa0 l0 aa).f3))) (fun _ hk=>hk.2) (iV ((aa0 l0 aa).f4))) (fun _ h_=>h_.1))) hb);replace ax:=aM (R_below (by (with_reducible repeat (first|apply R_alloc|apply R_drewN|apply R_drew));exact (R_mono (R_far (p:=⟨ae,4,none⟩) (R_far (p:=⟨ae,3,none⟩) (R_far (p:=⟨ae,2,none⟩) (R_far (p:=⟨ae,1,none⟩) (R_far (p:=⟨ae,0,none⟩) (R_types ax.out af.out (by decide)) (fun _ hk=>hk.2) (iV ((aa0 l0 aa).f0))) (fun _ hk=>hk.2) (iV ((aa0 l0 aa).f1))) (fun _ hk=>hk.2) (iV ((aa0 l0 aa).f2))) (fun _ hk=>hk.2) (iV ((aa0 l0 aa).f3))) (fun _ hk=>hk.2) (iV ((aa0 l0 aa).f4))) (fun _ h_=>h_.1))) hb);replace af:=aM (abC (g:=ae) (qF af) hb);replace HB:=kH hb;clear hb;(try clear hk);have bA:=jz5 af;obtain⟨bB,bC,aW⟩:=R_slice ax.out;subst aW)|(go_at_call 44;(with_reducible refine (Sa7.calls k1 _ _ l0 _ _ az aa aJ _ ?aC ?aD ?aQ ?aR bJ.out).mono ?_);(case aC=>exact kb aX HB);(case aD=>exact bD.out);(case aQ=>exact kJ ax);(case aR=>exact (kp ax));rintro e bE ⟨rfl,hb⟩;replace ay:=kR ay hb;replace ax:=kR ax hb;replace af:=kB af hb;replace HB:=kH hb;clear hb)|(go_at_call 53;(with_reducible refine (ag3 _ _ _ _ (aa1.out (by assumption))).mono ?_);rintro e w' ⟨rfl,⟨nd,rfl⟩⟩))
  go_roundg k1
  case measure=>have:=bq.out;omega
  exact⟨_,_,qZ,H',⟨by have:=bq.out;omega⟩,⟨qR ay⟩,⟨qR ax⟩,⟨qB⟩⟩):G:=h
theorem Sa5.calls (k:Nat) (A0:Option Addr) (c0:Nat) (l0:List S27) (r:List Int) (w:World) (hr0:Kd.C k27 w A0 l0.length l0) (hc0:l0.length<=c0) (h:Sa5.f k l0=some r) :
  Calls prog 35 #[.slice A0 l0.length c0] w fun e w'=>∃ bK:Value,e = .returned (bK)/\Kd.R (Kd.int .i64) 3 w' w.heap.size (fun _=>True) bK r/\Below w.heap.size w w':=by
 have bO:=underlying27
 have aX:=aM hr0
 have bD:=aM hc0
 clear hr0 hc0
 have HB:=jb_ w
 have H:=h;unfold Sa5.f at H
 clear h
 obtain⟨az,A2,H⟩:=qE H
 try dsimp only at H
 have H':=aM H
 clear H
 go_enter func35,ntmps35
 go_wp2_with (first|((with_reducible refine jc 41 9 ?_);refine jM func41 (Sa6.calls k _ _ l0 az _ (kC aX.out) bD.out A2.out) ?_;rintro bi w3 ⟨ho0,hb⟩;have aY:=kL ho0;replace HB:=kH hb;clear hb;(try clear ho0)))
 go_loopg [3,12] k (fun kq v3 v12 w'=>∃ (aT:List Int) (aa:Int),v12 = iV aa/\aa1 (adp kq l0 aT az l0 (l0.length:Int) aa=some r)/\aa1 (kq<=k)/\aa1 (Kd.R (Kd.int .i64) 3 w' w.heap.size (fun _=>True) v3 aT)/\aa1 (Kd.R (Kd.int .u16) 60 w' w.heap.size (fun _=>True) bi az)/\aa1 (Below w.heap.size w w'))
 case atStart=>exact⟨(([]:List Int)),(0),qZ,H',⟨Nat.le_refl _⟩,⟨by first|exact R_nil _ _ _ _ _|exact N_nil _ _ _ _ _|exact V_nil _ _ _ _ _|exact Q_nil _ _ _ _ _|exact S_nil _ _ _ _ _⟩,⟨qR aY⟩,⟨qB⟩⟩
 clear H'
 obtain⟨aT,aa,rfl,HA,bq,ay,ax,HB⟩:=hrel
 rcases gk with _|k1
 ·exact absurd HA.out (by simp [adp])
 have H:=HA.out
 clear HA
 simp only [adp] at H
 replace H:=jD H;rcases H with ⟨bF,H⟩ | ⟨bF,H⟩
 ·replace H:=jI H;obtain⟨bP,H⟩:=H
  replace H:=jI H;obtain⟨bQ,H⟩:=H
  obtain⟨aN,A7,H⟩:=qE H
  try dsimp only at H
  replace H:=jD H;rcases H with ⟨bG,H⟩ | ⟨bG,H⟩
  ·replace H:=jE H;rcases H with ⟨bH,bI,H⟩ | ⟨c9,bH,bI,H⟩
   ·have H':=aM H
    clear H
    have au:0<=(aa:Int):=qD
    have av:aa < (l0.length:Int):=qD
    obtain⟨aH,aA,ag,ah,ai,aj,ak⟩:=aaG aX.out aa au av
    cases aA
    replace ag:=kx HB ag
    replace ah:=kx HB ah
    replace ai:=kx HB ai
    replace aj:=kx HB aj
    replace ak:=kx HB ak
    replace au:=eq_true au
    replace av:=eq_true av
    exact aoO
   obtain⟨aJ,bJ,H⟩:=qE H
   try dsimp only at H
   obtain⟨aU,bS,H⟩:=qE H
   try dsimp only at H
   replace H:=jB H;rcases H with ⟨rfl,H⟩ | ⟨rfl,H⟩
   ·have H':=aM H
    clear H
    have au:0<=(aa:Int):=qD
    have av:aa < (l0.length:Int):=qD
    obtain⟨aH,aA,ag,ah,ai,aj,ak⟩:=aaG aX.out aa au av
    cases aA
    replace ag:=kx HB ag
    replace ah:=kx HB ah
    replace ai:=kx HB ai
    replace aj:=kx HB aj
    replace ak:=kx HB ak
    replace au:=eq_true au
    replace av:=eq_true av
    exact aoO
   replace H:=jL H;obtain⟨bn,H⟩:=H
   obtain⟨bL,aI⟩:=ky ((aT ++ [aa]):List Int)
   replace H:=kv aI H
   have H':=aM H
   clear H
   have au:0<=(aa:Int):=qD
   have av:aa < (l0.length:Int):=qD
   obtain⟨aH,aA,ag,ah,ai,aj,ak⟩:=aaG aX.out aa au av
   cases aA
   replace ag:=kx HB ag
   replace ah:=kx HB ah
   replace ai:=kx HB ai
   replace aj:=kx HB aj
   replace ak:=kx HB ak
   replace au:=eq_true au
   replace av:=eq_true av
   go_wp2_with (first|((with_reducible refine jd 6 ?_);refine jY _ 27 ?_;intro ae hg bu af hb;have aV:=kG hg;replace ay:=kR ay hb;replace ax:=kR ax hb;replace HB:=kH hb;clear hb hg;have bv:=jz5 af)|((with_reducible refine jc 50 18 ?_);refine jG func50 #[.agg #[iV ((aa0 l0 aa).f0),iV ((aa0 l0 aa).f1),iV ((aa0 l0 aa).f2),iV ((aa0 l0 aa).f3),iV ((aa0 l0 aa).f4)]] ?_;refine (Sac.calls _ _ _ _ _ _ _ (aa1.out (by assumption))).mono ?_;rintro e bz ⟨rfl,hb⟩;refine⟨_,rfl,?_⟩;replace ay:=aM (R_below (by (with_reducible repeat (first|apply R_alloc|apply R_drewN|apply R_drew));exact (R_mono (R_far (p:=⟨ae,4,none⟩) (R_far (p:=⟨ae,3,none⟩) (R_far (p:=⟨ae,2,none⟩) (R_far (p:=⟨ae,1,none⟩) (R_far (p:=⟨ae,0,none⟩) (R_types ay.out af.out (by decide)) (fun _ hk=>hk.2) (iV ((aa0 l0 aa).f0))) (fun _ hk=>hk.2) (iV ((aa0 l0 aa).f1))) (fun _ hk=>hk.2) (iV ((aa0 l0 aa).f2))) (fun _ hk=>hk.2) (iV ((aa0 l0 aa).f3))) (fun _ hk=>hk.2) (iV ((aa0 l0 aa).f4))) (fun _ h_=>h_.1))) hb);replace ax:=aM (R_below (by (with_reducible repeat (first|apply R_alloc|apply R_drewN|apply R_drew));exact (R_mono (R_far (p:=⟨ae,4,none⟩) (R_far (p:=⟨ae,3,none⟩) (R_far (p:=⟨ae,2,none⟩) (R_far (p:=⟨ae,1,none⟩) (R_far (p:=⟨ae,0,none⟩) (R_types ax.out af.out (by decide)) (fun _ hk=>hk.2) (iV ((aa0 l0 aa).f0))) (fun _ hk=>hk.2) (iV ((aa0 l0 aa).f1))) (fun _ hk=>hk.2) (iV ((aa0 l0 aa).f2))) (fun _ hk=>hk.2) (iV ((aa0 l0 aa).f3))) (fun _ hk=>hk.2) (iV ((aa0 l0 aa).f4))) (fun _ h_=>h_.1))) hb);replace af:=aM (abC (g:=ae) (qF af) hb);replace HB:=kH hb;clear hb;(try clear hk);have bA:=jz5 af;obtain⟨bB,bC,aW⟩:=R_slice ax.out;subst aW)|(go_at_call 44;(with_reducible refine (Sa7.calls k1 _ _ l0 _ _ az aa aJ _ ?aC ?aD ?aQ ?aR bJ.out).mono ?_);(case aC=>exact kb aX HB);(case aD=>exact bD.out);(case aQ=>exact kJ ax);(case aR=>exact (kp ax));rintro e bE ⟨rfl,hb⟩;replace ay:=kR ay hb;replace ax:=kR ax hb;replace af:=kB af hb;replace HB:=kH hb;clear hb)|(go_at_call 53;(with_reducible refine (ag3 _ _ _ _ (aa1.out (by assumption))).mono ?_);rintro e w' ⟨rfl,⟨nd,rfl⟩⟩)|((with_reducible refine aaa (b:=.append) (xs:=#[.tmp 35,.tmp 37]) rfl ?_);at_builtin;refine R_append (Kd.int .i64) (w0:=w) w.heap.size rfl (.tmp 35) (.tmp 37) 43 3 (iV 0) 8 rfl underlying43 akD rfl (by decide) (by omega) u3 aT aa [iV aa] (fun _=>True) (fun _=>False) rfl rfl ?aP (fun _ hk=>hk.elim) ?aF ?aO ?aB ?aS ?aL ?_;(case aP=>exact rfl);(case aB=>exact qB);(case aF=>exact (fun _ _=>trivial));(case aO=>exact (qR ay));(case aS=>exact (aa4 qB));(case aL=>have:=bn.out;omega);intro bM bR ho hb hg hat;rw [<- aI.out] at ho;have aZ:=aM ho;replace ax:=aM (R_over' (qR ax) (R_typed (qR ay)) (by decide) hg);replace af:=aM (aaq (g:=ae) (qK af) hg (R_ne ay.out af.out (by decide)));replace HB:=aM hb;clear ay;clear ho hb hg hat))
   go_roundg k1
   case measure=>have:=bq.out;omega
   exact⟨_,_,qZ,H',⟨by have:=bq.out;omega⟩,⟨qR aZ⟩,⟨qR ax⟩,⟨qB⟩⟩
  have H':=aM H
  clear H
  have au:0<=(aa:Int):=qD
  have av:aa < (l0.length:Int):=qD
  obtain⟨aH,aA,ag,ah,ai,aj,ak⟩:=aaG aX.out aa au av
  cases aA
  replace ag:=kx HB ag
  replace ah:=kx HB ah
  replace ai:=kx HB ai
  replace aj:=kx HB aj
  replace ak:=kx HB ak
  replace au:=eq_true au
  replace av:=eq_true av
  exact aoO
 obtain rfl:=oJ H
 go_wp2
 go_ret
 exact⟨_,qW,qR ay,qB⟩
end Go.Proofs.YtebpplallecogaaGreat.M
namespace Go.Proofs.YtebpplallecogaaGreat.M
open Go.Proofs.Tryz Go.RowKit Go.Proofs.YtebpplallecogaaGreatW.PrintWords Go.Proofs.YtebpplallecogaaGreatW.PrintLast Go.Proofs.YtebpplallecogaaGreatW.PrintMore
def amq (l0:List S27):Option (List S27):=if l0.length < 3518437208883 then some l0 else none
set_option maxHeartbeats 1000000 in
theorem amr (A0:Option Addr) (c0:Nat) (l0 r:List S27) (w:World) (hr0:Kd.C k27 w A0 l0.length l0) (hc0:l0.length<=c0) (h:amq l0=some r) :
  Calls prog 39 #[.slice A0 l0.length c0] w fun e w'=>∃ aa:Value,e = .returned aa/\Kd.R k27 27 w' w.heap.size (fun _=>True) aa r/\Below w.heap.size w w':=by
 unfold amq at h
 split at h
 next hl =>
  injection h with h
  subst h
  have HL:=aM hl
  clear hl
  cases A0 with
  | none =>
   have e0:l0=[]:=by
    cases l0 with
    | nil=>rfl
    | cons x xs=>obtain⟨ad,_,e,_⟩:=Kd.C_get hr0 z27 0 (by omega) (by simp);cases e
   subst e0
   have he:=fun (W:World) (n:Nat)=>Lib.run_eql_slice_nil (P:=prog) W 23 27 none n c0 0 0 underlying23
   go_enter func39,ntmps39
   go_wp2
   go_ret
   exact⟨_,rfl,Kd.R_nil _ _ _ _ _,Below.refl _ _⟩
  | some ad =>
   have ae:=aM hr0
   clear hr0
   have HB:=jb_ w
   have he:=fun (W:World) (n:Nat)=>Lib.run_eql_slice_nil (P:=prog) W 23 27 (some ad) n c0 0 0 underlying23
   go_enter func39,ntmps39
   go_wp2_with (first|((with_reducible refine jd 5 ?_);refine Kd.R_lit k27 _ 27 ?hg (N:=5) ?hd (xs:=([]:List S27)) (inner:=[]) (ok:=fun _=>True) (okp:=fun _=>True) ?hr ?hp (fun _ hk=>hk) trivial (Below.refl _ _) (Nat.le_refl _) (by simp) ?_;(case hd=>rfl);(case hg=>rfl);(case hr=>first|(go_simp;done)|(go_simp;rfl));(case hp=>exact (aa9 _ _));intro v1 w1 ho hb hg_ hnew_;clear hg_ hnew_;have HO:=aM ho;replace HB:=kH hb;clear hb ho)|((with_reducible refine aaa (b:=.append) (xs:=#[.tmp 5,.tmp 6]) rfl ?_);at_builtin;refine Kd.R_append_rows k27 (w0:=w) w.heap.size rfl (.tmp 5) (.tmp 6) 23 27 (.agg #[(iV 0),(iV 0),(iV 0),(iV 0),(iV 0)]) 40 rfl underlying23 aba rfl (by decide) (by omega) v1 [] l0 _ _ _ (fun _=>True) (fun _=>False) rfl rfl ?aO ?aR (fun _ _ h=>h) (fun _ h=>h.elim) ?aF ?aB ?aS ?aL ?_;(case aR=>exact Kd.C_below ae.out HB.out);(case aB=>exact HB.out);(case aF=>exact (fun _ _=>trivial));(case aO=>exact HO.out);(case aS=>exact aa4 HB.out);(case aL=>have:=HL.out;simp only [List.length_nil];omega);intro v2 w2 ho hb hg hat;have HB2:=aM hb;have af:=aM ho;clear ho hb hg hat))
   go_ret
   exact⟨_,rfl,af.out,HB2.out⟩
 next=>cases h
end Go.Proofs.YtebpplallecogaaGreat.M
namespace Go.Proofs.YtebpplallecogaaGreat.M
open Go.Proofs.Tryz Go.RowKit Go.Proofs.YtebpplallecogaaGreatW.PrintWords Go.Proofs.YtebpplallecogaaGreatW.PrintLast Go.Proofs.YtebpplallecogaaGreatW.PrintMore Kd
attribute [local go_sem] aal aaj aaz aay aae aad aak aai
def afd:Nat->List S27->List Int->Int->Int->Option ((List S27) × Bool)
 | 0,_,_,_,_=>none
 | k+1,x4,aY,bV,aH=>if aH < bV then (if 0<=aH then (if aH < (aY.length:Int) then (if 0<=(rd aY aH) then (if (rd aY aH) < (x4.length:Int) then (afd k (x4.set ((rd aY aH):Int).toNat (⟨4,0,0,0,wrap64 ((rd aY aH)+1)⟩:S27)) aY bV (wrap64 (aH+1))) else (none)) else (none)) else (none)) else (none)) else (some (x4,true))
def Sa1.f (k:Nat) (l0:List S27):Option ((List S27) × Bool):=(Sa0.f k l0).bind fun aI=>(if aI=true then ((amq l0).bind fun aA=>((Sa5.f k l0).bind fun aa=>(afd k aA aa (aa.length:Int) 0))) else (some (([]:List S27),false)))
theorem Sa1.calls (k:Nat) (A0:Option Addr) (c0:Nat) (l0 r1:List S27) (r2:Bool) (w:World) (hr0:Kd.C k27 w A0 l0.length l0) (hc0:l0.length<=c0) (h:Sa1.f k l0=some (r1,r2)) :
  Calls prog 15 #[.slice A0 l0.length c0] w fun e w'=>∃ bW:Value,e = .returned (.tuple #[bW,.bool r2])/\Kd.R k27 27 w' w.heap.size (fun _=>True) bW r1/\Below w.heap.size w w':=by
 have cO:=underlying27
 have bE:=aM hr0
 have bF:=aM hc0
 clear hr0 hc0
 have HB:=jb_ w
 have H:=h;unfold Sa1.f at H
 clear h
 obtain⟨aI,A2,H⟩:=qE H
 try dsimp only at H
 replace H:=jB H;rcases H with ⟨rfl,H⟩ | ⟨rfl,H⟩
 ·obtain⟨aA,A4,H⟩:=qE H
  try dsimp only at H
  obtain⟨aa,A5,H⟩:=qE H
  try dsimp only at H
  have H':=aM H
  clear H
  go_enter func15,ntmps15
  go_wp2_with (first|((with_reducible refine jc 18 8 ?_);refine jK func18 (Sa0.calls k _ _ l0 true _ (kC bE.out) bF.out A2.out) ?_;intro w6 hb;replace HB:=kH hb;clear hb)|((with_reducible refine jc 39 11 ?_);refine jM func39 (amr _ _ l0 aA _ (kb bE HB) bF.out A4.out) ?_;rintro aZ w7 ⟨ho0,hb⟩;have ay:=kL ho0;replace HB:=kH hb;clear hb;(try clear ho0))|((with_reducible refine jc 35 13 ?_);refine jM func35 (Sa5.calls k _ _ l0 aa _ (kb bE HB) bF.out A5.out) ?_;rintro bX w8 ⟨ho0,hb⟩;have aC:=kL ho0;replace ay:=kR ay hb;replace HB:=kH hb;clear hb;(try clear ho0);obtain⟨df,dh,di⟩:=R_slice aC.out;subst di))
  go_loopg [15] k (fun kq v15 w'=>∃ (ag:List S27) (ae:Int),v15 = iV ae/\aa1 (afd kq ag aa (aa.length:Int) ae=some (r1,r2))/\aa1 (kq<=k)/\aa1 (Kd.R k27 27 w' w.heap.size (fun _=>True) aZ ag)/\aa1 (Kd.R (Kd.int .i64) 3 w' w.heap.size (fun _=>True) (.slice df aa.length dh) aa)/\aa1 (Below w.heap.size w w'))
  case atStart=>exact⟨(aA),(0),qZ,H',⟨Nat.le_refl _⟩,⟨qR ay⟩,⟨qR aC⟩,⟨qB⟩⟩
  clear H'
  obtain⟨ag,ae,rfl,HA,bY,ax,aB,HB⟩:=hrel
  rcases gk with _|k1
  ·exact absurd HA.out (by simp [afd])
  have H:=HA.out
  clear HA
  simp only [afd] at H
  replace H:=jD H;rcases H with ⟨bg,H⟩ | ⟨bg,H⟩
  ·replace H:=jI H;obtain⟨bZ,H⟩:=H
   replace H:=jI H;obtain⟨cu,H⟩:=H
   replace H:=jI H;obtain⟨cz,H⟩:=H
   replace H:=jI H;obtain⟨cB,H⟩:=H
   obtain⟨bi,az⟩:=ky ((ag.set ((rd aa ae):Int).toNat (⟨4,0,0,0,wrap64 ((rd aa ae)+1)⟩:S27)):List S27)
   replace H:=kv az H
   have H':=aM H
   clear H
   have aD:0<=(ae:Int):=qD
   have aF:ae < (aa.length:Int):=qD
   obtain⟨bG,bn,bq⟩:=Kd.at_int (R_reads' aB.out).2.2 ae aD aF
   cases bn
   replace aD:=eq_true aD
   replace aF:=eq_true aF
   have bH:0<=((rd aa ae):Int):=qD
   have bI:((rd aa ae):Int) < ((ag.length:Int):Int):=qD
   obtain⟨af,aK,bu,bv,bJ,dn,bz⟩:=R_form ax.out (by omega)
   (first|cases bu|(injection bu with ea_ en_ ec_;(first|subst ea_|(injection ea_ with ea_;subst ea_));subst ec_;clear en_))
   have aG:=aM bv
   have dw:=aM bz
   clear bv bJ bz
   obtain⟨dx,bA,bB,ak,au⟩:=R_elem ax.out z27 ((rd aa ae):Int) bH bI
   obtain rfl:=acB bB
   have bK:wr.cell? ⟨af,((rd aa ae):Int).toNat*5,none⟩=some (iV ((aa0 ag (rd aa ae)).f0)):=ak 0 _ rfl
   have bL:wr.cell? ⟨af,((rd aa ae):Int).toNat*5+1,none⟩=some (iV ((aa0 ag (rd aa ae)).f1)):=ak 1 _ rfl
   have bM:wr.cell? ⟨af,((rd aa ae):Int).toNat*5+2,none⟩=some (iV ((aa0 ag (rd aa ae)).f2)):=ak 2 _ rfl
   have bN:wr.cell? ⟨af,((rd aa ae):Int).toNat*5+3,none⟩=some (iV ((aa0 ag (rd aa ae)).f3)):=ak 3 _ rfl
   have bO:wr.cell? ⟨af,((rd aa ae):Int).toNat*5+4,none⟩=some (iV ((aa0 ag (rd aa ae)).f4)):=ak 4 _ rfl
   have bP:wr.frozen? ⟨af,((rd aa ae):Int).toNat*5,none⟩=false:=au 0
   have bQ:wr.frozen? ⟨af,((rd aa ae):Int).toNat*5+1,none⟩=false:=au 1
   have bR:wr.frozen? ⟨af,((rd aa ae):Int).toNat*5+2,none⟩=false:=au 2
   have bS:wr.frozen? ⟨af,((rd aa ae):Int).toNat*5+3,none⟩=false:=au 3
   have bT:wr.frozen? ⟨af,((rd aa ae):Int).toNat*5+4,none⟩=false:=au 4
   clear bA ak au bB
   replace bH:=eq_true bH
   replace bI:=eq_true bI
   have bC:=aM (show Kd.R k27 27 wr w.heap.size (fun _=>True) (.slice (some ⟨af,0,none⟩) ag.length aK) ag from (qR ax))
   obtain⟨dz,aJ,bD,aj,av⟩:=R_elem bC.out z27 ((rd aa ae):Int) (qD) (by have h_:((rd aa ae):Int) < ((ag.length:Int):Int):=qD;first|exact h_|(have e_:=(R_reads' ax.out).1;omega)|simpa using h_)
   obtain rfl:=acB bD
   have aL:=R_seg bC.out ((rd aa ae):Int) (qD) (by have h_:((rd aa ae):Int) < ((ag.length:Int):Int):=qD;first|exact h_|(have e_:=(R_reads' ax.out).1;omega)|simpa using h_) (seg:=[iV 4,iV 0,iV 0,iV 0,iV (wrap64 ((rd aa ae)+1))]) (j:=0) aJ aj (show 5<=5 from by decide) (x':=(⟨4,0,0,0,wrap64 ((rd aa ae)+1)⟩:S27)) (aaV _ _ _ (⟨4,0,0,0,wrap64 ((rd aa ae)+1)⟩:S27) ) (fun _ hk=>hk)
   have aN:=aj 0 _ rfl
   (try simp only [show (k27).sz=5 from rfl,Nat.mul_one,Nat.add_zero] at aN)
   have aO:=av 0
   (try simp only [show (k27).sz=5 from rfl,Nat.mul_one,Nat.add_zero] at aO)
   have aP:=aj 1 _ rfl
   (try simp only [show (k27).sz=5 from rfl,Nat.mul_one,Nat.add_zero] at aP)
   have aQ:=av 1
   (try simp only [show (k27).sz=5 from rfl,Nat.mul_one,Nat.add_zero] at aQ)
   have aR:=aj 2 _ rfl
   (try simp only [show (k27).sz=5 from rfl,Nat.mul_one,Nat.add_zero] at aR)
   have aS:=av 2
   (try simp only [show (k27).sz=5 from rfl,Nat.mul_one,Nat.add_zero] at aS)
   have aT:=aj 3 _ rfl
   (try simp only [show (k27).sz=5 from rfl,Nat.mul_one,Nat.add_zero] at aT)
   have aU:=av 3
   (try simp only [show (k27).sz=5 from rfl,Nat.mul_one,Nat.add_zero] at aU)
   have aV:=aj 4 _ rfl
   (try simp only [show (k27).sz=5 from rfl,Nat.mul_one,Nat.add_zero] at aV)
   have aW:=av 4
   (try simp only [show (k27).sz=5 from rfl,Nat.mul_one,Nat.add_zero] at aW)
   clear aJ aj av bD
   go_wp2_with (first|((with_reducible refine aaB (t:=27) (p:=24) rfl ?_);refine aar (t:=27) (p:=24) (v:=?bU) (w1:=(((((wr.setCell ⟨af,((rd aa ae):Int).toNat*5,none⟩ (iV 4)).setCell ⟨af,((rd aa ae):Int).toNat*5+1,none⟩ (iV 0)).setCell ⟨af,((rd aa ae):Int).toNat*5+2,none⟩ (iV 0)).setCell ⟨af,((rd aa ae):Int).toNat*5+3,none⟩ (iV 0)).setCell ⟨af,((rd aa ae):Int).toNat*5+4,none⟩ (iV (wrap64 ((rd aa ae)+1))))) ?hg ?ho ?hn ?hr ?_;(case ho=>rfl);(case hg=>rfl);(case hn=>rfl);(case hr=>first|(go_simp;done)|(go_simp;rfl));intro aX hw;have hg:wr.grownBy aX (some af):=(by rw [hw];exact aL.2);have hp_:Kd.R k27 27 aX w.heap.size (fun _=>True) (.slice (some ⟨af,0,none⟩) ag.length aK) bi:=(by rw [hw,az.out];exact aL.1);clear aL;replace aB:=aM (R_over' (v:=(.slice (some ⟨af,0,none⟩) ag.length aK)) (qR aB) (R_typed ax.out) (by decide) hg);replace ax:=aM hp_;replace HB:=aM ((by rw [hw];exact aac (aac (aac (aac (aac (HB.out) aG.out) aG.out) aG.out) aG.out) aG.out:Below w.heap.size w aX));clear hg hw hp_))
   go_roundg k1
   case measure=>have:=bY.out;omega
   exact⟨_,_,qZ,H',⟨by have:=bY.out;omega⟩,⟨qR ax⟩,⟨qR aB⟩,⟨qB⟩⟩
  obtain⟨rfl,rfl⟩:=oJ2 H
  go_wp2
  go_ret2
  exact⟨_,qW,qR ax,qB⟩
 obtain⟨rfl,rfl⟩:=oJ2 H
 go_enter func15,ntmps15
 go_wp2_with (first|((with_reducible refine jc 18 8 ?_);refine jK func18 (Sa0.calls k _ _ l0 false _ (kC bE.out) bF.out A2.out) ?_;intro dA hb;replace HB:=kH hb;clear hb))
 go_ret2
 exact⟨_,qW,by first|exact R_nil _ _ _ _ _|exact N_nil _ _ _ _ _|exact V_nil _ _ _ _ _|exact Q_nil _ _ _ _ _|exact S_nil _ _ _ _ _,qB⟩
end Go.Proofs.YtebpplallecogaaGreat.M
namespace Go.Proofs.YtebpplallecogaaGreat.M
open Go.Proofs.Tryz Go.RowKit Go.Proofs.YtebpplallecogaaGreatW.PrintWords Go.Proofs.YtebpplallecogaaGreatW.PrintLast Go.Proofs.YtebpplallecogaaGreatW.PrintMore
attribute [local go_sem] aal aaj aaz aay aae aad aak aai
attribute [local go_sem high] aph
def aeY:Nat->List S27->List S27->Int->Option (Bool)
 | 0,_,_,_=>none
 | k+1,x0,x1,x5=>if x5 < (x0.length:Int) then (if 0<=x5 then (if x5 < (x1.length:Int) then (if (!(((aa0 x0 x5).f0) == ((aa0 x1 x5).f0)) || (!(((aa0 x0 x5).f1) == ((aa0 x1 x5).f1)) || (!(((aa0 x0 x5).f2) == ((aa0 x1 x5).f2)) || (!(((aa0 x0 x5).f3) == ((aa0 x1 x5).f3)) || (!(((aa0 x0 x5).f4) == ((aa0 x1 x5).f4)))))))=true then (some false) else (aeY k x0 x1 (wrap64 (x5+1)))) else (none)) else (none)) else (some true)
def SbI.f (k:Nat) (l0 l1:List S27):Option (Bool):=if (l0.length:Int)=(l1.length:Int) then (aeY k l0 l1 0) else (some false)
theorem SbI.calls (k:Nat) (A0:Option Addr) (c0:Nat) (l0:List S27) (A1:Option Addr) (c1:Nat) (l1:List S27) (r:Bool) (w:World) (hr0:Kd.C k27 w A0 l0.length l0) (hc0:l0.length<=c0) (hr1:Kd.C k27 w A1 l1.length l1) (hc1:l1.length<=c1) (h:SbI.f k l0 l1=some r) :
  Calls prog 17 #[.slice A0 l0.length c0,.slice A1 l1.length c1] w fun e w'=>e = .returned (.bool r)/\aaD w w':=by
 have aQ:=underlying27
 have aN:=aM hr0
 have aT:=aM hc0
 clear hr0 hc0
 have HR1:=aM hr1
 have aU:=aM hc1
 clear hr1 hc1
 have H:=h;unfold SbI.f at H
 clear h
 by_cases c3:(l0.length:Int)=(l1.length:Int)
 ·rw [if_pos c3] at H
  have aC:((l0.length:Int) == (l1.length:Int))=true:=beq_iff_eq.mpr c3
  have aD:((l0.length:Int) != (l1.length:Int))=false:=bne_eq_false_iff_eq.mpr c3
  have aF:(l0.length == l1.length)=true:=by first|simpa using c3|(simp at c3 ⊢;omega)
  clear c3
  have H':=aM H
  clear H
  go_enter func17,ntmps17
  go_wp2
  repeat (go_quiet (fail);try go_wp2)
  go_loopg [5] k (fun kq v5 w'=>∃ (aa:Int),v5 = iV aa/\aa1 (aeY kq l0 l1 aa=some r)/\aa1 (kq<=k)/\aaD w w')
  case atStart=>exact⟨(0),qZ,H',⟨Nat.le_refl _⟩,by repeat (first|exact aaO _|apply aaD.step)⟩
  clear H'
  try clear c1;try clear c3;try clear aC;try clear aD;try clear aF
  obtain⟨aa,rfl,HA,aO,⟨m1,rfl⟩⟩:=hrel
  rcases gk with _|k1
  ·exact absurd HA.out (by simp [aeY])
  have H:=HA.out
  clear HA
  simp only [aeY] at H
  replace H:=jD H;rcases H with ⟨aK,H⟩ | ⟨aK,H⟩
  ·replace H:=jI H;obtain⟨aR,H⟩:=H
   replace H:=jI H;obtain⟨aS,H⟩:=H
   by_cases c7:(!(((aa0 l0 aa).f0) == ((aa0 l1 aa).f0)) || (!(((aa0 l0 aa).f1) == ((aa0 l1 aa).f1)) || (!(((aa0 l0 aa).f2) == ((aa0 l1 aa).f2)) || (!(((aa0 l0 aa).f3) == ((aa0 l1 aa).f3)) || (!(((aa0 l0 aa).f4) == ((aa0 l1 aa).f4)))))))=true
   ·rw [if_pos c7] at H
    have aL:(!(((aa0 l0 aa).f0) == ((aa0 l1 aa).f0)) || (!(((aa0 l0 aa).f1) == ((aa0 l1 aa).f1)) || (!(((aa0 l0 aa).f2) == ((aa0 l1 aa).f2)) || (!(((aa0 l0 aa).f3) == ((aa0 l1 aa).f3)) || (!(((aa0 l0 aa).f4) == ((aa0 l1 aa).f4)))))))=true:=c7
    clear c7
    obtain rfl:=oJ H
    obtain⟨aA,ae,af,ag,ah,ai,aj,aG,aH⟩:=aky aN aa
    cases ae
    obtain⟨aB,ak,au,av,ax,ay,az,aI,aJ⟩:=aky HR1 aa
    cases ak
    go_wp2
    repeat (go_quiet (fail);try go_wp2)
    go_ret
    exact⟨qZ,qU⟩
   rw [if_neg c7] at H
   have aL:(!(((aa0 l0 aa).f0) == ((aa0 l1 aa).f0)) || (!(((aa0 l0 aa).f1) == ((aa0 l1 aa).f1)) || (!(((aa0 l0 aa).f2) == ((aa0 l1 aa).f2)) || (!(((aa0 l0 aa).f3) == ((aa0 l1 aa).f3)) || (!(((aa0 l0 aa).f4) == ((aa0 l1 aa).f4)))))))=false:=by simpa using c7
   clear c7
   have H':=aM H
   clear H
   obtain⟨aA,ae,af,ag,ah,ai,aj,aG,aH⟩:=aky aN aa
   cases ae
   obtain⟨aB,ak,au,av,ax,ay,az,aI,aJ⟩:=aky HR1 aa
   cases ak
   go_wp2
   repeat (go_quiet (fail);try go_wp2)
   go_roundg k1
   case measure=>have:=aO.out;omega
   exact⟨(wrap64 (aa+1)),qZ,H',⟨by have:=aO.out;omega⟩,by repeat (first|exact aaO _|apply aaD.step)⟩
  obtain rfl:=oJ H
  go_wp2
  repeat (go_quiet (fail);try go_wp2)
  go_ret
  exact⟨qZ,qU⟩
 rw [if_neg c3] at H
 have aC:((l0.length:Int) == (l1.length:Int))=false:=beq_eq_false_iff_ne.mpr c3
 have aD:((l0.length:Int) != (l1.length:Int))=true:=bne_iff_ne.mpr c3
 have aF:(l0.length == l1.length)=false:=by first|simpa using c3|(simp at c3 ⊢;omega)
 obtain rfl:=oJ H
 go_enter func17,ntmps17
 go_wp2
 repeat (go_quiet (fail);try go_wp2)
 go_ret
 exact⟨qZ,qU⟩
def afb:Nat->Int->List Bool->Int->Int->Option (List Bool)
 | 0,_,_,_,_=>none
 | k+1,x0,x3,x7,x8=>if x8 < x7 then ((ajO x0 x8).bind fun ai=>(if 0<=x8 then (if x8 < (x3.length:Int) then (afb k x0 (x3.set (x8:Int).toNat ai) x7 (wrap64 (x8+1))) else (none)) else (none))) else (some x3)
def amk (k:Nat) (a0:Int):Option (List Bool):=if 12<=281474976710656 then ((some (List.replicate 12 false:List Bool)).bind fun af=>(afb k a0 af (af.length:Int) 0)) else (none)
theorem aml (k:Nat) (a0:Int) (r:List Bool) (w:World) (h:amk k a0=some r) :
  Calls prog 42 #[.int .u16 a0] w fun e w'=>∃ aR:Value,e = .returned (aR)/\Kd.R Kd.bool 4 w' w.heap.size (fun _=>True) aR r/\Below w.heap.size w w':=by
 have HB:=jb_ w
 have H:=h;unfold amk at H
 clear h
 replace H:=jJ H;obtain⟨aG,aH,H⟩:=H
 obtain⟨af,ah⟩:=ky ((List.replicate 12 false):List Bool)
 replace H:=kv ah H
 have H':=aM H
 clear H
 go_enter func42,ntmps42
 go_wp2_with (first|((with_reducible refine jd 5 ?_);refine Kd.R_make Kd.bool _ 4 rfl (N:=5) rfl 37 _ _ rfl 12 rfl rfl underlying37 (.bool false) 1 akC rfl (by decide) (by omega) false (ok:=fun _=>True) (okp:=fun _=>True) rfl (fun _ hk=>hk) trivial (by omega) (by omega) (Below.refl _ _) (Nat.le_refl _) ?_;intro aS w3 aA hb hg_ hnew_;clear hg_ hnew_;replace aA:=kr ah aA;have au:=kL aA;replace HB:=kH hb;clear hb aA;obtain⟨aT,aI,bg⟩:=Kd.R_slice au.out;subst bg))
 go_loopg [8] k (fun kq v8 w'=>∃ (aj:List Bool) (aa:Int),v8 = iV aa/\aa1 (afb kq a0 aj (af.length:Int) aa=some r)/\aa1 (kq<=k)/\aa1 (Kd.R Kd.bool 4 w' w.heap.size (fun _=>True) (.slice aT af.length aI) aj)/\aa1 (Below w.heap.size w w'))
 case atStart=>exact⟨(af),(0),qZ,H',⟨Nat.le_refl _⟩,⟨qR au⟩,⟨qB⟩⟩
 clear H'
 try clear aG;try clear aH
 obtain⟨aj,aa,rfl,HA,aU,ae,HB⟩:=hrel
 have ag:=(Kd.R_reads' ae.out).1
 rw [ag] at ae
 (try simp only [ag])
 rcases gk with _|k1
 ·exact absurd HA.out (by simp [afb])
 have H:=HA.out
 clear HA
 simp only [afb] at H
 by_cases c6:aa < (af.length:Int)
 ·rw [if_pos c6] at H
  have av:=decide_eq_true c6
  (try simp only [ag] at av)
  clear c6
  obtain⟨ai,A7,H⟩:=qE H
  try dsimp only at H
  replace H:=jI H;obtain⟨bi,H⟩:=H
  replace H:=jI H;obtain⟨bn,H⟩:=H
  obtain⟨aB,ak⟩:=ky ((aj.set (aa:Int).toNat ai):List Bool)
  replace H:=kv ak H
  have H':=aM H
  clear H
  go_wp2_with (first|((with_reducible refine jc 53 15 ?_);refine jG func53 #[.int .u16 a0,iV aa] ?_;refine (ag3 _ _ _ _ (aa1.out (by assumption))).mono ?_;rintro e w' ⟨rfl,⟨nd,rfl⟩⟩;refine⟨_,rfl,?_⟩;(try (rw [abm wr];generalize hq_:World.drewN wr _=wr;have aV:aa1 (Kd.R Kd.bool 4 wr w.heap.size (fun _=>True) (.slice aT aj.length aI) aj):=⟨by rw [<- hq_];exact (qR ae)⟩;have aW:aa1 (Below w.heap.size w wr):=⟨by rw [<- hq_];exact qB⟩;clear ae HB hq_;have ae:=aV;have HB:=aW;clear aV aW));have aJ:0<=(aa:Int):=qD;have aK:(aa:Int) < ((aj.length:Int):Int):=qD;obtain⟨ax,bq,aC,aD,aL,bu,aF⟩:=Kd.R_form ae.out (by omega);(first|cases aC|(injection aC with ea_ en_ ec_;(first|subst ea_|(injection ea_ with ea_;subst ea_));subst ec_;clear en_));have aN:=aM aD;have bv:=aM aF;clear aD aL aF;obtain⟨aO,aP⟩:=Kd.R_celln false ae.out (aa:Int) aJ aK;replace aJ:=eq_true aJ;replace aK:=eq_true aK;obtain⟨aX,aY⟩:=Kd.R_celln false ae.out (aa:Int) (qD) (qD);have ay:=Kd.R_putg ae.out (aa:Int) ai)|((with_reducible refine aaB (t:=4) (p:=16) rfl ?_);refine aar (t:=4) (p:=16) (v:=?aQ) (w1:=(wr.setCell ⟨ax,(aa:Int).toNat,none⟩ (.bool ai))) ?hg ?ho ?hn ?hr ?_;(case ho=>rfl);(case hg=>rfl);(case hn=>rfl);(case hr=>first|(go_simp;done)|(go_simp;rfl));intro az hw;have hg:wr.grownBy az (some ax):=(by rw [hw];exact ay.2);have hp_:Kd.R Kd.bool 4 az w.heap.size (fun _=>True) (.slice (some ⟨ax,0,none⟩) aj.length aI) aB:=(by rw [hw,ak.out];exact ay.1);clear ay;replace ae:=aM hp_;replace HB:=aM ((by rw [hw];exact aac (HB.out) aN.out:Below w.heap.size w az));clear hg hw hp_))
  (try simp only [<- ag])
  go_roundg k1
  case measure=>have:=aU.out;omega
  exact⟨_,_,qZ,H',⟨by have:=aU.out;omega⟩,⟨by (try simp only [ag]);(with_reducible repeat (first|apply Kd.R_alloc|apply Kd.R_drewN|apply Kd.R_drew));exact ae.out⟩,⟨qB⟩⟩
 rw [if_neg c6] at H
 have av:=decide_eq_false c6
 (try simp only [ag] at av)
 clear c6
 obtain rfl:=oJ H
 go_wp2
 go_ret
 exact⟨_,qW,qR ae,qB⟩
def ag6:Nat->List S27->Int->Bool->Option (List Bool)
 | 0,_,_,_=>none
 | k+1,x0,x1,aN=>if aN=true then (some ([]:List Bool)) else ((Sa6.f k x0).bind fun ag=>((Sa7.f k x0 ag x1).bind fun ah=>((amk k ah).bind fun au=>(some au))))
def ags (k:Nat) (l0:List S27) (a1:Int):Option (List Bool):=(Sa0.f k l0).bind fun av=>(if av=true then (if a1 < 0 then (ag6 k l0 a1 true) else (ag6 k l0 a1 (decide (a1>=(l0.length:Int))))) else (ag6 k l0 a1 true))
theorem aqf {G:Prop} (h:G:=by
  go_wp2_with (first|((with_reducible refine jc 18 6 ?_);refine jK func18 (Sa0.calls k _ _ l0 true _ (kb aA HB) aB.out A4.out) ?_;intro aC hb;replace HB:=kH hb;clear hb))
  go_meet
  exact⟨_,_,qZ,H',⟨by first|omega|exact Nat.le_refl _⟩,⟨qB⟩⟩):G:=h
theorem ag7 (k:Nat) (A0:Option Addr) (c0:Nat) (l0:List S27) (a1:Int) (r:List Bool) (w:World) (hr0:Kd.C k27 w A0 l0.length l0) (hc0:l0.length<=c0) (h:ags k l0 a1=some r) :
  Calls prog 24 #[.slice A0 l0.length c0,iV a1] w fun e w'=>∃ aI:Value,e = .returned (aI)/\Kd.R Kd.bool 4 w' w.heap.size (fun _=>True) aI r/\Below w.heap.size w w':=by
 have aA:=aM hr0
 have aB:=aM hc0
 clear hr0 hc0
 have HB:=jb_ w
 have H:=h;unfold ags at H
 clear h
 have aD:=aM H
 clear H
 go_enter func24,ntmps24
 go_upto_region 1 with (fail)
 go_cut [17] (fun v17 wc=>∃ (kq:Nat) (ai:Bool),v17 = .bool ai/\aa1 (ag6 kq l0 a1 ai=some r)/\aa1 (kq<=k)/\aa1 (Below w.heap.size w wc))
 case first =>
  have H:=aD.out
  clear aD
  obtain⟨av,A4,H⟩:=qE H
  try dsimp only at H
  replace H:=jB H;rcases H with ⟨rfl,H⟩ | ⟨rfl,H⟩
  ·replace H:=jD H;rcases H with ⟨aj,H⟩ | ⟨aj,H⟩
   ·(first|rw [aj]|(simp only [aas,aaw];rw [aj])|skip)
    have H':=aM H
    clear H
    exact aqf
   (first|rw [aj]|(simp only [aas,aaw];rw [aj])|skip)
   have H':=aM H
   clear H
   exact aqf
  have H':=aM H
  clear H
  go_wp2_with (first|((with_reducible refine jc 18 6 ?_);refine jK func18 (Sa0.calls k _ _ l0 false _ (kb aA HB) aB.out A4.out) ?_;intro aC hb;replace HB:=kH hb;clear hb))
  go_meet
  exact⟨_,_,qZ,H',⟨by first|omega|exact Nat.le_refl _⟩,⟨qB⟩⟩
 clear aD
 obtain⟨kq,ai,rfl,HA,HJ2,HB⟩:=hcut
 cases kq with
 | zero=>exact absurd HA.out (by simp [ag6])
 | succ aJ =>
  have H:=HA.out
  clear HA
  simp only [ag6] at H
  replace H:=jB H;rcases H with ⟨rfl,H⟩ | ⟨rfl,H⟩
  ·obtain rfl:=oJ H
   go_wp2
   go_ret
   exact⟨_,qW,by first|exact Kd.R_nil _ _ _ _ _|exact Kd.N_nil _ _ _ _ _|exact Kd.V_nil _ _ _ _ _|exact Kd.Q_nil _ _ _ _ _|exact Kd.S_nil _ _ _ _ _,qB⟩
  obtain⟨ag,aP,H⟩:=qE H
  try dsimp only at H
  obtain⟨ah,aQ,H⟩:=qE H
  try dsimp only at H
  obtain⟨au,aU,H⟩:=qE H
  try dsimp only at H
  obtain rfl:=oJ H
  go_wp2_with (first|((with_reducible refine jc 41 20 ?_);refine jM func41 (Sa6.calls aJ _ _ l0 ag _ (kb aA HB) aB.out aP.out) ?_;rintro aK aR ⟨ak,hb⟩;have aa:=kL ak;replace HB:=kH hb;clear hb;(try clear ak);obtain⟨aF,aG,aH⟩:=Kd.R_slice aa.out;subst aH)|((with_reducible refine jc 44 22 ?_);refine jK func44 (Sa7.calls aJ _ _ l0 _ _ ag a1 ah _ (kb aA HB) aB.out (kJ aa) (kp aa) aQ.out) ?_;intro aS hb;replace aa:=kR aa hb;replace HB:=kH hb;clear hb)|((with_reducible refine jc 42 23 ?_);refine jG func42 #[.int .u16 ah] ?_;refine (aml _ _ _ _ (aa1.out (by assumption))).mono ?_;rintro e aT ⟨aL,rfl,ak,hb⟩;refine⟨_,rfl,?_⟩;have ax:=kL ak;replace aa:=kR aa hb;replace HB:=kH hb;clear hb;(try clear ak)))
  go_ret
  exact⟨_,qW,qR ax,qB⟩
end Go.Proofs.YtebpplallecogaaGreat.M
namespace Go.Proofs.YtebpplallecogaaGreat.M
open Go.Proofs.Tryz Go.RowKit Go.Proofs.YtebpplallecogaaGreatW.PrintWords Go.Proofs.YtebpplallecogaaGreatW.PrintLast Go.Proofs.YtebpplallecogaaGreatW.PrintMore Kd
attribute [local go_sem] aal aaj aaz aay aae aad aak aai
attribute [local go_sem high] aph
mutual
def afU:Nat->List Int->List Int->Bool->Option (Bool)
 | 0,_,_,_=>none
 | k+1,x0,x1,x20=>if x20=true then (some true) else ((am0 k x0).bind fun af=>((Sa1.f k af).bind fun aC=>((Sak.f k af).bind fun aJ=>(if (aC.2 != aJ.2)=true then (aeZ k x1 af aC.1 aC.2 aJ.1 aJ.2 true) else ((SbI.f k aC.1 aJ.1).bind fun gP=>(if gP=true then (aeZ k x1 af aC.1 aC.2 aJ.1 aJ.2 (!aC.2)) else (aeZ k x1 af aC.1 aC.2 aJ.1 aJ.2 true)))))))
def aeZ:Nat->List Int->List S27->List S27->Bool->List S27->Bool->Bool->Option (Bool)
 | 0,_,_,_,_,_,_,_=>none
 | k+1,x1,x5,x6,x7,x8,x9,lh=>if lh=true then (if (x7 == x9)=true then ((SbI.f k x6 x8).bind fun eD=>(some eD)) else (some false)) else (if (x5.length:Int)=0 then (none) else (if 0<=((x1.length:Int) % (x5.length:Int)) then (if ((x1.length:Int) % (x5.length:Int)) < (x5.length:Int) then (if ((aa0 x5 ((x1.length:Int) % (x5.length:Int))).f0)=1 then ((ags k x5 ((x1.length:Int) % (x5.length:Int))).bind fun aN=>(if 0<=((aa0 x5 ((x1.length:Int) % (x5.length:Int))).f1) then (if ((aa0 x5 ((x1.length:Int) % (x5.length:Int))).f1) < (aN.length:Int) then (if ((x1.length:Int) % (x5.length:Int)) < (x6.length:Int) then (some ((!(abJ false aN ((aa0 x5 ((x1.length:Int) % (x5.length:Int))).f1))) == (!(((aa0 x6 ((x1.length:Int) % (x5.length:Int))).f0) == ((aa0 x5 ((x1.length:Int) % (x5.length:Int))).f0)) || (!(((aa0 x6 ((x1.length:Int) % (x5.length:Int))).f1) == ((aa0 x5 ((x1.length:Int) % (x5.length:Int))).f1)) || (!(((aa0 x6 ((x1.length:Int) % (x5.length:Int))).f2) == ((aa0 x5 ((x1.length:Int) % (x5.length:Int))).f2)) || (!(((aa0 x6 ((x1.length:Int) % (x5.length:Int))).f3) == ((aa0 x5 ((x1.length:Int) % (x5.length:Int))).f3)) || (!(((aa0 x6 ((x1.length:Int) % (x5.length:Int))).f4) == ((aa0 x5 ((x1.length:Int) % (x5.length:Int))).f4))))))))) else (none)) else (none)) else (none))) else (if ((aa0 x5 ((x1.length:Int) % (x5.length:Int))).f0)=2 then ((ags k x5 ((x1.length:Int) % (x5.length:Int))).bind fun aO=>(if 0<=((aa0 x5 ((x1.length:Int) % (x5.length:Int))).f1) then (if ((aa0 x5 ((x1.length:Int) % (x5.length:Int))).f1) < (aO.length:Int) then (if ((x1.length:Int) % (x5.length:Int)) < (x6.length:Int) then (some ((!(abJ false aO ((aa0 x5 ((x1.length:Int) % (x5.length:Int))).f1))) == (!(((aa0 x6 ((x1.length:Int) % (x5.length:Int))).f0) == ((aa0 x5 ((x1.length:Int) % (x5.length:Int))).f0)) || (!(((aa0 x6 ((x1.length:Int) % (x5.length:Int))).f1) == ((aa0 x5 ((x1.length:Int) % (x5.length:Int))).f1)) || (!(((aa0 x6 ((x1.length:Int) % (x5.length:Int))).f2) == ((aa0 x5 ((x1.length:Int) % (x5.length:Int))).f2)) || (!(((aa0 x6 ((x1.length:Int) % (x5.length:Int))).f3) == ((aa0 x5 ((x1.length:Int) % (x5.length:Int))).f3)) || (!(((aa0 x6 ((x1.length:Int) % (x5.length:Int))).f4) == ((aa0 x5 ((x1.length:Int) % (x5.length:Int))).f4))))))))) else (none)) else (none)) else (none))) else (if ((aa0 x5 ((x1.length:Int) % (x5.length:Int))).f0)=3 then ((ags k x5 ((x1.length:Int) % (x5.length:Int))).bind fun aP=>(if 0<=((aa0 x5 ((x1.length:Int) % (x5.length:Int))).f1) then (if ((aa0 x5 ((x1.length:Int) % (x5.length:Int))).f1) < (aP.length:Int) then (if ((x1.length:Int) % (x5.length:Int)) < (x6.length:Int) then (some ((!(abJ false aP ((aa0 x5 ((x1.length:Int) % (x5.length:Int))).f1))) == (!(((aa0 x6 ((x1.length:Int) % (x5.length:Int))).f0) == ((aa0 x5 ((x1.length:Int) % (x5.length:Int))).f0)) || (!(((aa0 x6 ((x1.length:Int) % (x5.length:Int))).f1) == ((aa0 x5 ((x1.length:Int) % (x5.length:Int))).f1)) || (!(((aa0 x6 ((x1.length:Int) % (x5.length:Int))).f2) == ((aa0 x5 ((x1.length:Int) % (x5.length:Int))).f2)) || (!(((aa0 x6 ((x1.length:Int) % (x5.length:Int))).f3) == ((aa0 x5 ((x1.length:Int) % (x5.length:Int))).f3)) || (!(((aa0 x6 ((x1.length:Int) % (x5.length:Int))).f4) == ((aa0 x5 ((x1.length:Int) % (x5.length:Int))).f4))))))))) else (none)) else (none)) else (none))) else (if ((x1.length:Int) % (x5.length:Int)) < (x6.length:Int) then (some (false == (!(((aa0 x6 ((x1.length:Int) % (x5.length:Int))).f0) == ((aa0 x5 ((x1.length:Int) % (x5.length:Int))).f0)) || (!(((aa0 x6 ((x1.length:Int) % (x5.length:Int))).f1) == ((aa0 x5 ((x1.length:Int) % (x5.length:Int))).f1)) || (!(((aa0 x6 ((x1.length:Int) % (x5.length:Int))).f2) == ((aa0 x5 ((x1.length:Int) % (x5.length:Int))).f2)) || (!(((aa0 x6 ((x1.length:Int) % (x5.length:Int))).f3) == ((aa0 x5 ((x1.length:Int) % (x5.length:Int))).f3)) || (!(((aa0 x6 ((x1.length:Int) % (x5.length:Int))).f4) == ((aa0 x5 ((x1.length:Int) % (x5.length:Int))).f4))))))))) else (none))))) else (none)) else (none)))
end
def alk (k:Nat) (l0 l1:List Int):Option (Bool):=if (l0.length:Int) > 1048576 then (afU k l0 l1 true) else (afU k l0 l1 (decide ((l1.length:Int) > 1048576)))
def alo:Bool × List (List Nat × List Nat):=(true,[([],[]),([0],[0]),([1],[1]),([1],[1]),([2,3,1,1],[1,2,3]),([1],[1]),([1],[1]),([5,6,1],[1,5,6]),([7,1],[1,7]),([8,1],[1,8]),([4,9,1],[1,4,9]),([10,1],[1,10]),([11,1],[1,11]),([1,12],[1,12]),([13,4,0,1,2,3,4,5,6,7,8,9,10,11,12,13],[13])])
def aoF:List Nat:=[0,1,3,3,15,3,3,99,227,483,1023,2047,4095,8191,16383]
theorem aek:acz .any (opsOf f6 10)=alo:=by kernel_rfl
theorem adx:ab9 alo.2 aoF=true:=by kernel_rfl
def aln:Bool × List (List Nat × List Nat):=(true,[([],[]),([],[]),([],[]),([1,2],[1,2]),([3],[3]),([],[]),([],[]),([5,6],[5,6]),([7],[7]),([4,8],[4,8]),([0,9],[0,9]),([10,0,1,2,3,4,5,6,7,8,9,10],[10])])
def aoE:List Nat:=[0,0,0,6,14,0,0,96,224,510,1023,2047]
theorem aej:acz .any (opsOf f6 11)=aln:=by kernel_rfl
theorem adw:ab9 aln.2 aoE=true:=by kernel_rfl
theorem abp {P:Program} {md:Region.Mode} {ops:Array Oper} {Q:Exit->Act->World->Prop} {S S':World->Prop} (hs:∀ w,S' w->S w):∀ (fuel:Nat) (l:Array Bool) (a:Act) (w:World),S' w->aah P md ops Q S' [] fuel l a w->aah P md ops Q S [] fuel l a w
 | 0,_,_,_,_,h=>h
 | fuel+1,_,_,_,hw,h=>⟨h.1,fun i hi=>wpOp_mono (fun a' w' h'=>⟨fun _ _=>hs _ (h'.1 (by simp) hw),abp hs fuel _ a' w' (h'.1 (by simp) hw) h'.2⟩) (h.2 i hi)⟩
theorem alm (k:Nat) (A0:Option Addr) (c0:Nat) (l0:List Int) (A1:Option Addr) (c1:Nat) (l1:List Int) (r:Bool) (w:World) (hr0:Kd.C (Kd.int .u8) w A0 l0.length l0) (hc0:l0.length<=c0) (hr1:Kd.C (Kd.int .u8) w A1 l1.length l1) (hc1:l1.length<=c1) (h:alk k l0 l1=some r) :
  Calls prog 6 #[.slice A0 l0.length c0,.slice A1 l1.length c1] w fun e w'=>e = .returned (.bool r)/\Below w.heap.size w w':=by
 have lu:=underlying27
 have lv:=aM hr0
 have lw:=aM hc0
 clear hr0 hc0
 have HR1:=aM hr1
 have mH:=aM hc1
 clear hr1 hc1
 have HB:=jb_ w
 have H:=h;unfold alk at H
 clear h
 have ji:=aM H
 clear H
 go_enter func6,ntmps6
 go_upto_region 1 with (fail)
 go_cut [20] (fun v20 wc=>∃ (kq:Nat) (eF:Bool),v20 = .bool eF/\aa1 (afU kq l0 l1 eF=some r)/\aa1 (kq<=k)/\aa1 (Below w.heap.size w wc))
 case first =>
  have H:=ji.out
  clear ji
  by_cases c4:(l0.length:Int) > 1048576
  ·rw [if_pos c4] at H
   have eG:=decide_eq_true c4
   have jk:decide (1048576 < l0.length)=true:=decide_eq_true (by omega)
   clear c4
   (first|rw [eG]|(simp only [aas,aaw];rw [eG])|skip)
   have H':=aM H
   clear H
   go_wp2
   go_meet
   exact⟨_,(true),qZ,H',⟨by first|omega|exact Nat.le_refl _⟩,⟨qB⟩⟩
  rw [if_neg c4] at H
  have eG:=decide_eq_false c4
  have jk:decide (1048576 < l0.length)=false:=decide_eq_false (by omega)
  clear c4
  (first|rw [eG]|(simp only [aas,aaw];rw [eG])|skip)
  have H':=aM H
  clear H
  go_wp2
  go_meet
  exact⟨_,(decide ((l1.length:Int) > 1048576)),qZ,H',⟨by first|omega|exact Nat.le_refl _⟩,⟨qB⟩⟩
 clear ji
 try clear c1
 obtain⟨kq,eF,rfl,HA,HJ2,HB⟩:=hcut
 cases kq with
 | zero=>exact absurd HA.out (by simp [afU])
 | succ ik =>
  have H:=HA.out
  clear HA
  simp only [afU] at H
  replace H:=jB H;rcases H with ⟨rfl,H⟩ | ⟨rfl,H⟩
  ·obtain rfl:=oJ H
   go_wp2
   go_ret
   exact⟨qW,qB⟩
  obtain⟨af,A6,H⟩:=qE H
  try dsimp only at H
  obtain⟨⟨ag,au⟩,A7,H⟩:=qE H
  try dsimp only at H
  obtain⟨⟨bq,av⟩,A8,H⟩:=qE H
  try dsimp only at H
  have jl:=aM H
  clear H
  go_upto_region 6 with (first|((with_reducible refine jc 14 22 ?_);refine jM func14 (am1 ik _ _ l0 af _ (kb lv HB) lw.out A6.out) ?_;rintro jH mI ⟨ho0,hb⟩;have ak:=kL ho0;replace HB:=kH hb;clear hb;(try clear ho0);obtain⟨eH,bz,jm⟩:=R_slice ak.out;subst jm)|((with_reducible refine jc 15 25 ?_);refine jM func15 (Sa1.calls ik _ _ af ag au _ (kJ ak) (kp ak) A7.out) ?_;rintro eO mJ ⟨ho0,hb⟩;have az:=aM (R_lower (R_new' ho0 (R_lt (qR ak))) (aa4 qB));replace ak:=kO ak ho0 hb;replace HB:=kH hb;clear hb;(try clear ho0))|((with_reducible refine jc 16 30 ?_);refine jM func16 (Sak.calls ik _ _ af bq av _ (kJ ak) (kp ak) A8.out) ?_;rintro eP mK ⟨ho0,hb⟩;have aD:=aM (R_lower (R_new' (R_new' ho0 (R_lt (qR ak))) (R_lt (qR az))) (aa4 qB));replace ak:=kO ak ho0 hb;replace az:=kO az ho0 hb;replace HB:=kH hb;clear hb;(try clear ho0)))
  (try simp only [Act.put,List.setIfInBounds_toArray,List.set_cons_zero,List.set_cons_succ])
  go_cut [45] (fun v45 wc=>∃ (kq:Nat) (eQ:Bool),v45 = .bool eQ/\aa1 (aeZ kq l1 af ag au bq av eQ=some r)/\aa1 (kq<=ik)/\aa1 (Kd.R k27 27 wc w.heap.size (fun k_=>some k_≠(eO:Value).ownBlock/\some k_≠(eP:Value).ownBlock) (.slice eH af.length bz) af)/\aa1 (Kd.R k27 27 wc w.heap.size (fun k_=>some k_≠((.slice eH af.length bz):Value).ownBlock/\some k_≠(eP:Value).ownBlock) eO ag)/\aa1 (Kd.R k27 27 wc w.heap.size (fun k_=>some k_≠((.slice eH af.length bz):Value).ownBlock/\some k_≠(eO:Value).ownBlock) eP bq)/\aa1 (Below w.heap.size w wc))
  case first =>
   have H:=jl.out
   clear jl
   by_cases c14:(au != av)=true
   ·rw [if_pos c14] at H
    have bA:(au != av)=true:=c14
    (try (have il:decide (au=av)=false:=by simpa using c14))
    (try (have iq:(au == av)=false:=by simpa using c14))
    (try (have jN:¬ (au=av):=by simpa using c14))
    clear c14
    (first|rw [bA]|(simp only [aas,aaw];rw [bA])|skip)
    have H':=aM H
    clear H
    go_wp2
    go_meet
    exact⟨_,(true),qZ,H',⟨by have:=HJ2.out;first|omega|exact Nat.le_refl _⟩,⟨by (with_reducible repeat (first|apply R_alloc|apply R_drewN|apply R_drew));exact R_mono ak.out (fun _ hk=>⟨hk.1.2,hk.2⟩)⟩,⟨by (with_reducible repeat (first|apply R_alloc|apply R_drewN|apply R_drew));exact R_mono az.out (fun _ hk=>⟨hk.1.2,hk.2⟩)⟩,⟨by (with_reducible repeat (first|apply R_alloc|apply R_drewN|apply R_drew));exact R_mono aD.out (fun _ hk=>⟨hk.1.2,hk.2⟩)⟩,⟨qB⟩⟩
   rw [if_neg c14] at H
   have bA:(au != av)=false:=by simpa using c14
   (try (have il:decide (au=av)=true:=by simpa using c14))
   (try (have iq:(au == av)=true:=by simpa using c14))
   clear c14
   (first|rw [bA]|(simp only [aas,aaw];rw [bA])|skip)
   obtain⟨gP,jQ,H⟩:=qE H
   try dsimp only at H
   replace H:=jB H;rcases H with ⟨rfl,H⟩ | ⟨rfl,H⟩
   ·have H':=aM H
    clear H
    obtain⟨lC,lD,jo⟩:=R_slice az.out
    subst jo
    obtain⟨lF,lG,jr⟩:=R_slice aD.out
    subst jr
    go_wp2_with (first|(go_at_call 17;(with_reducible refine (SbI.calls ik _ _ ag _ _ bq true _ ?ax ?ay ?bB ?bC jQ.out).mono ?_);(case ax=>exact kJ az);(case ay=>exact (kp az));(case bB=>exact kJ aD);(case bC=>exact (kp aD));rintro e w' ⟨rfl,⟨nd,rfl⟩⟩))
    go_meet
    exact⟨_,_,qZ,H',⟨by have:=HJ2.out;first|omega|exact Nat.le_refl _⟩,⟨by (with_reducible repeat (first|apply R_alloc|apply R_drewN|apply R_drew));exact R_mono ak.out (fun _ hk=>⟨hk.1.2,hk.2⟩)⟩,⟨by (with_reducible repeat (first|apply R_alloc|apply R_drewN|apply R_drew));exact R_mono az.out (fun _ hk=>⟨hk.1.2,hk.2⟩)⟩,⟨by (with_reducible repeat (first|apply R_alloc|apply R_drewN|apply R_drew));exact R_mono aD.out (fun _ hk=>⟨hk.1.2,hk.2⟩)⟩,⟨qB⟩⟩
   have H':=aM H
   clear H
   obtain⟨lH,lI,jv⟩:=R_slice az.out
   subst jv
   obtain⟨lJ,lK,jw⟩:=R_slice aD.out
   subst jw
   go_wp2_with (first|(go_at_call 17;(with_reducible refine (SbI.calls ik _ _ ag _ _ bq false _ ?ax ?ay ?bB ?bC jQ.out).mono ?_);(case ax=>exact kJ az);(case ay=>exact (kp az));(case bB=>exact kJ aD);(case bC=>exact (kp aD));rintro e w' ⟨rfl,⟨nd,rfl⟩⟩))
   go_meet
   exact⟨_,_,qZ,H',⟨by have:=HJ2.out;first|omega|exact Nat.le_refl _⟩,⟨by (with_reducible repeat (first|apply R_alloc|apply R_drewN|apply R_drew));exact R_mono ak.out (fun _ hk=>⟨hk.1.2,hk.2⟩)⟩,⟨by (with_reducible repeat (first|apply R_alloc|apply R_drewN|apply R_drew));exact R_mono az.out (fun _ hk=>⟨hk.1.2,hk.2⟩)⟩,⟨by (with_reducible repeat (first|apply R_alloc|apply R_drewN|apply R_drew));exact R_mono aD.out (fun _ hk=>⟨hk.1.2,hk.2⟩)⟩,⟨qB⟩⟩
  clear jl
  try clear c1
  obtain⟨kq,eQ,rfl,HA,mO,ah,ai,aj,HB⟩:=hcut
  cases kq with
  | zero=>exact absurd HA.out (by simp [aeZ])
  | succ gQ =>
   have H:=HA.out
   clear HA
   simp only [aeZ] at H
   replace H:=jB H;rcases H with ⟨rfl,H⟩ | ⟨rfl,H⟩
   ·by_cases eT:(au == av)=true
    ·rw [if_pos eT] at H
     have iw:(au == av)=true:=eT
     (try (have iy:decide (au=av)=true:=by simpa using eT))
     (try (have iA:(au == av)=true:=by simpa using eT))
     clear eT
     obtain⟨eD,lL,H⟩:=qE H
     try dsimp only at H
     obtain rfl:=oJ H
     obtain⟨lM,lN,jy⟩:=R_slice ai.out
     subst jy
     obtain⟨lQ,lS,jA⟩:=R_slice aj.out
     subst jA
     go_wp2_with (first|(go_at_call 17;(with_reducible refine (SbI.calls gQ _ _ ag _ _ bq eD _ ?ax ?ay ?bB ?bC lL.out).mono ?_);(case ax=>exact kJ ai);(case ay=>exact (kp ai));(case bB=>exact kJ aj);(case bC=>exact (kp aj));rintro e w' ⟨rfl,⟨nd,rfl⟩⟩))
     go_ret
     exact⟨qW,qB⟩
    rw [if_neg eT] at H
    have iw:(au == av)=false:=by simpa using eT
    (try (have iy:decide (au=av)=false:=by simpa using eT))
    (try (have iA:(au == av)=false:=by simpa using eT))
    (try (have jS:¬ (au=av):=by simpa using eT))
    clear eT
    obtain rfl:=oJ H
    go_wp2
    go_ret
    exact⟨qW,qB⟩
   by_cases iB:(af.length:Int)=0
   ·rw [if_pos iB] at H
    exact absurd H (by simp)
   rw [if_neg iB] at H
   have jT:((af.length:Int) == 0)=false:=beq_eq_false_iff_ne.mpr iB
   have jW:((af.length:Int) != 0)=true:=bne_iff_ne.mpr iB
   have jZ:¬ (af=[]):=fun h_=>iB (by rw [h_];rfl)
   obtain⟨aa,aQ⟩:∃ j_:Int,((l1.length:Int) % (af.length:Int))=j_:=⟨_,rfl⟩
   replace H:(if 0<=(aa) then (if (aa) < (af.length:Int) then (if ((aa0 af (aa)).f0)=1 then ((ags gQ af (aa)).bind fun aN=>(if 0<=((aa0 af (aa)).f1) then (if ((aa0 af (aa)).f1) < (aN.length:Int) then (if (aa) < (ag.length:Int) then (some ((!(abJ false aN ((aa0 af (aa)).f1))) == (!(((aa0 ag (aa)).f0) == ((aa0 af (aa)).f0)) || (!(((aa0 ag (aa)).f1) == ((aa0 af (aa)).f1)) || (!(((aa0 ag (aa)).f2) == ((aa0 af (aa)).f2)) || (!(((aa0 ag (aa)).f3) == ((aa0 af (aa)).f3)) || (!(((aa0 ag (aa)).f4) == ((aa0 af (aa)).f4))))))))) else (none)) else (none)) else (none))) else (if ((aa0 af (aa)).f0)=2 then ((ags gQ af (aa)).bind fun aO=>(if 0<=((aa0 af (aa)).f1) then (if ((aa0 af (aa)).f1) < (aO.length:Int) then (if (aa) < (ag.length:Int) then (some ((!(abJ false aO ((aa0 af (aa)).f1))) == (!(((aa0 ag (aa)).f0) == ((aa0 af (aa)).f0)) || (!(((aa0 ag (aa)).f1) == ((aa0 af (aa)).f1)) || (!(((aa0 ag (aa)).f2) == ((aa0 af (aa)).f2)) || (!(((aa0 ag (aa)).f3) == ((aa0 af (aa)).f3)) || (!(((aa0 ag (aa)).f4) == ((aa0 af (aa)).f4))))))))) else (none)) else (none)) else (none))) else (if ((aa0 af (aa)).f0)=3 then ((ags gQ af (aa)).bind fun aP=>(if 0<=((aa0 af (aa)).f1) then (if ((aa0 af (aa)).f1) < (aP.length:Int) then (if (aa) < (ag.length:Int) then (some ((!(abJ false aP ((aa0 af (aa)).f1))) == (!(((aa0 ag (aa)).f0) == ((aa0 af (aa)).f0)) || (!(((aa0 ag (aa)).f1) == ((aa0 af (aa)).f1)) || (!(((aa0 ag (aa)).f2) == ((aa0 af (aa)).f2)) || (!(((aa0 ag (aa)).f3) == ((aa0 af (aa)).f3)) || (!(((aa0 ag (aa)).f4) == ((aa0 af (aa)).f4))))))))) else (none)) else (none)) else (none))) else (if (aa) < (ag.length:Int) then (some (false == (!(((aa0 ag (aa)).f0) == ((aa0 af (aa)).f0)) || (!(((aa0 ag (aa)).f1) == ((aa0 af (aa)).f1)) || (!(((aa0 ag (aa)).f2) == ((aa0 af (aa)).f2)) || (!(((aa0 ag (aa)).f3) == ((aa0 af (aa)).f3)) || (!(((aa0 ag (aa)).f4) == ((aa0 af (aa)).f4))))))))) else (none))))) else (none)) else (none))=some r:=by first|(rw [aQ] at H;exact H)|(simp only [aQ] at H ⊢;exact H)
   replace H:=jI H;obtain⟨j4,H⟩:=H
   replace H:=jI H;obtain⟨j5,H⟩:=H
   replace H:=jE H;rcases H with ⟨iC,iD,H⟩ | ⟨mQ,iC,iD,H⟩
   ·obtain⟨aN,lT,H⟩:=qE H
    try dsimp only at H
    replace H:=jI H;obtain⟨j6,H⟩:=H
    replace H:=jI H;obtain⟨kg,H⟩:=H
    replace H:=jI H;obtain⟨ko,H⟩:=H
    obtain rfl:=oJ H
    have aA:0<=((aa):Int):=qD
    have aB:(aa) < (af.length:Int):=qD
    obtain⟨ae,aR,aS,aT,aU,aV,aW⟩:=aaG (R_reads' ah.out).2.2 (aa) aA aB
    cases aR
    replace aA:=eq_true aA
    replace aB:=eq_true aB
    try go_wp2
    replace ah:=aM (R_drew ah.out)
    replace ai:=aM (R_drew ai.out)
    replace aj:=aM (R_drew aj.out)
    replace HB:=aM (aaf HB.out)
    have eU:0<=((aa):Int):=qD
    have eX:(aa) < (af.length:Int):=qD
    obtain⟨gT,iE,bD,bE,bF,bG,bH⟩:=aaG (R_reads' ah.out).2.2 (aa) eU eX
    obtain rfl:ae=gT:=(by injection iE)
    replace eU:=eq_true eU
    replace eX:=eq_true eX
    refine abl (n:=15) (S:=fun w'=>w'.cell? (ae.add (((aa)).toNat*5))=some (iV ((aa0 af (aa)).f0))/\w'.cell? ⟨(ae.add (((aa)).toNat*5)).block,(ae.add (((aa)).toNat*5)).off+1,none⟩=some (iV ((aa0 af (aa)).f1))/\w'.cell? ⟨(ae.add (((aa)).toNat*5)).block,(ae.add (((aa)).toNat*5)).off+2,none⟩=some (iV ((aa0 af (aa)).f2))/\w'.cell? ⟨(ae.add (((aa)).toNat*5)).block,(ae.add (((aa)).toNat*5)).off+3,none⟩=some (iV ((aa0 af (aa)).f3))/\w'.cell? ⟨(ae.add (((aa)).toNat*5)).block,(ae.add (((aa)).toNat*5)).off+4,none⟩=some (iV ((aa0 af (aa)).f4))) (ds:=[]) (jb 15 0) (by kernel_rfl) rfl rfl ⟨bD,bE,bF,bG,bH⟩ (fun hHeld=>?_);refine aaL aek adx (fun HT_ HW_=>?_)
    generalize wc.drew=mR at ah ai aj HB bD bE bF bG bH hHeld ⊢
    refine jp 0 81 (jb 15 1) ?_
    refine jp 1 82 (jb 15 3) ?_
    refine jp 2 83 (jb 15 7) ?_
    refine jp 3 84 (jb 15 15) ?_
    refine jp 5 86 (jb 15 47) ?_
    refine jp 6 87 (jb 15 111) ?_
    refine jp 7 88 (jb 15 239) ?_
    refine jp 8 89 (jb 15 495) ?_
    refine jt 9 90 (jb 15 1007) ?_
    refine acK (i:=4) (N:=some 85) (jb 15 1023) rfl rfl (aaR HT_.out (by kernel_rfl)) (by decide) (fun K hK=>?_)
    refine abn func24 (by kernel_rfl) rfl #[.slice (some ae) af.length bz,iV aa] (by rfl) rfl rfl (by (try simp only [List.map_toArray,List.map_cons,List.map_nil]);first|done|(simp only [aQ];rfl)|rfl|(simp only [List.length_drop,List.length_take];rfl)) ?_
    with_reducible refine (ag7 gQ _ _ af aa aN _ ?ax ?ay lT.out).mono ?_
    (case ax=>exact kJ ah)
    (case ay=>exact (kp ah))
    rintro e lU ⟨ku,rfl,ho0,hb⟩
    have eY:=(hb.cell (World.block_lt_of_cell? _ _ (hHeld.1))).trans (hHeld.1)
    have eZ:=(hb.cell (World.block_lt_of_cell? _ _ (hHeld.2.1))).trans (hHeld.2.1)
    have fe:=(hb.cell (World.block_lt_of_cell? _ _ (hHeld.2.2.1))).trans (hHeld.2.2.1)
    have fo:=(hb.cell (World.block_lt_of_cell? _ _ (hHeld.2.2.2.1))).trans (hHeld.2.2.2.1)
    have fq:=(hb.cell (World.block_lt_of_cell? _ _ (hHeld.2.2.2.2))).trans (hHeld.2.2.2.2)
    refine⟨_,rfl,?_⟩
    have aX:=kL ho0
    replace ah:=kR ah hb
    replace ai:=kR ai hb
    replace aj:=kR aj hb
    replace HB:=kH hb
    (try clear hb)
    (try clear hb2)
    (try clear hk)
    (try clear hi)
    (try clear ho0)
    obtain⟨lV,lW,iF⟩:=R_slice aX.out
    (first|subst iF|(injection iF with bu ek bv;have eu:=bu.symm;have eB:=bv.symm;clear bu ek bv;subst eu;subst eB))
    have fu:0<=(((aa0 af (aa)).f1):Int):=qD
    have fw:((aa0 af (aa)).f1) < (aN.length:Int):=qD
    obtain⟨gU,iG,fA⟩:=Kd.at_bool (R_reads' aX.out).2.2 ((aa0 af (aa)).f1) fu fw
    cases iG
    replace fu:=eq_true fu
    replace fw:=eq_true fw
    refine hK.out _ _ ⟨eY,eZ,fe,fo,fq⟩ (fun hHeld=>?_)
    clear hK K
    refine aaA (a':=?_) ?_ ?_
    rotate_left
    ·show Act.put _ (some 85) _=_
     simp only [Act.put,List.setIfInBounds_toArray,List.set_cons_zero,List.set_cons_succ,aas,aaw]
     rfl
    replace hHeld:=And.intro hHeld.1 (And.intro hHeld.2.1 (And.intro hHeld.2.2.1 (And.intro hHeld.2.2.2.1 (And.intro hHeld.2.2.2.2 fA))))
    refine abp (S':=fun w'=>w'.cell? (ae.add (((aa)).toNat*5))=some (iV ((aa0 af (aa)).f0))/\w'.cell? ⟨(ae.add (((aa)).toNat*5)).block,(ae.add (((aa)).toNat*5)).off+1,none⟩=some (iV ((aa0 af (aa)).f1))/\w'.cell? ⟨(ae.add (((aa)).toNat*5)).block,(ae.add (((aa)).toNat*5)).off+2,none⟩=some (iV ((aa0 af (aa)).f2))/\w'.cell? ⟨(ae.add (((aa)).toNat*5)).block,(ae.add (((aa)).toNat*5)).off+3,none⟩=some (iV ((aa0 af (aa)).f3))/\w'.cell? ⟨(ae.add (((aa)).toNat*5)).block,(ae.add (((aa)).toNat*5)).off+4,none⟩=some (iV ((aa0 af (aa)).f4))/\w'.cell? (gU.add (((aa0 af (aa)).f1)).toNat)=some (.bool (abJ false aN ((aa0 af (aa)).f1)))) (fun _ h=>⟨h.1,h.2.1,h.2.2.1,h.2.2.2.1,h.2.2.2.2.1⟩) _ _ _ _ hHeld ?_
    refine jp 10 91 (jb 15 2047) ?_
    refine jt 11 92 (jb 15 4095) ?_
    refine jp 12 93 (jb 15 8191) ?_
    refine jp 13 94 (jb 15 16383) ?_
    refine jp 14 12 (jb 15 32767) ?_
    refine abI (ab5 HT_.out (by kernel_rfl)) ?_
    try go_wp2
    replace ah:=aM (R_drew ah.out)
    replace ai:=aM (R_drew ai.out)
    replace aj:=aM (R_drew aj.out)
    replace aX:=aM (R_drew aX.out)
    replace HB:=aM (aaf HB.out)
    obtain⟨lX,lY,iH⟩:=R_slice ai.out
    (first|subst iH|(injection iH with bu ek bv;have eu:=bu.symm;have eB:=bv.symm;clear bu ek bv;subst eu;subst eB))
    have fB:0<=((aa):Int):=qD
    have fC:(aa) < (ag.length:Int):=qD
    obtain⟨aF,iI,bI,bJ,bK,bL,bM⟩:=aaG (R_reads' ai.out).2.2 (aa) fB fC
    cases iI
    replace fB:=eq_true fB
    replace fC:=eq_true fC
    have fD:0<=((aa):Int):=qD
    have fE:(aa) < (af.length:Int):=qD
    obtain⟨gV,iJ,bN,bO,bP,bQ,bR⟩:=aaG (R_reads' ah.out).2.2 (aa) fD fE
    obtain rfl:ae=gV:=(by injection iJ)
    replace fD:=eq_true fD
    replace fE:=eq_true fE
    refine abl (n:=12) (S:=fun w'=>w'.cell? (aF.add (((aa)).toNat*5))=some (iV ((aa0 ag (aa)).f0))/\w'.cell? ⟨(aF.add (((aa)).toNat*5)).block,(aF.add (((aa)).toNat*5)).off+1,none⟩=some (iV ((aa0 ag (aa)).f1))/\w'.cell? ⟨(aF.add (((aa)).toNat*5)).block,(aF.add (((aa)).toNat*5)).off+2,none⟩=some (iV ((aa0 ag (aa)).f2))/\w'.cell? ⟨(aF.add (((aa)).toNat*5)).block,(aF.add (((aa)).toNat*5)).off+3,none⟩=some (iV ((aa0 ag (aa)).f3))/\w'.cell? ⟨(aF.add (((aa)).toNat*5)).block,(aF.add (((aa)).toNat*5)).off+4,none⟩=some (iV ((aa0 ag (aa)).f4))/\w'.cell? (ae.add (((aa)).toNat*5))=some (iV ((aa0 af (aa)).f0))/\w'.cell? ⟨(ae.add (((aa)).toNat*5)).block,(ae.add (((aa)).toNat*5)).off+1,none⟩=some (iV ((aa0 af (aa)).f1))/\w'.cell? ⟨(ae.add (((aa)).toNat*5)).block,(ae.add (((aa)).toNat*5)).off+2,none⟩=some (iV ((aa0 af (aa)).f2))/\w'.cell? ⟨(ae.add (((aa)).toNat*5)).block,(ae.add (((aa)).toNat*5)).off+3,none⟩=some (iV ((aa0 af (aa)).f3))/\w'.cell? ⟨(ae.add (((aa)).toNat*5)).block,(ae.add (((aa)).toNat*5)).off+4,none⟩=some (iV ((aa0 af (aa)).f4))) (ds:=[]) (jb 12 0) (by kernel_rfl) rfl rfl ⟨bI,bJ,bK,bL,bM,bN,bO,bP,bQ,bR⟩ (fun hHeld=>?_);refine aaL aej adw (fun HT_ HW_=>?_)
    generalize lU.drew=mU at ah ai aj aX HB bI bJ bK bL bM bN bO bP bQ bR hHeld ⊢
    refine jp 0 95 (jb 12 1) ?_
    refine jp 1 96 (jb 12 3) ?_
    refine jp 2 97 (jb 12 7) ?_
    refine jp 3 98 (jb 12 15) ?_
    refine jp 5 100 (jb 12 47) ?_
    refine jp 6 101 (jb 12 111) ?_
    refine jp 7 102 (jb 12 239) ?_
    refine jt 4 99 (jb 12 255) ?_
    refine jt 8 103 (jb 12 511) ?_
    refine jp 9 104 (jb 12 1023) ?_
    refine jp 10 105 (jb 12 2047) ?_
    refine jp 11 4 (jb 12 4095) ?_
    refine abI (ab5 HT_.out (by kernel_rfl)) ?_
    try go_wp2
    go_ret
    exact⟨by first|rfl|(simp [aan,aam] <;> rfl)|(simp only [<- aQ];first|rfl|(simp [aan,aam] <;> rfl))|(simp [*,aan,aam] <;> rfl),qB⟩
   replace H:=jE H;rcases H with ⟨iK,iL,H⟩ | ⟨c40,iK,iL,H⟩
   ·obtain⟨aO,lZ,H⟩:=qE H
    try dsimp only at H
    replace H:=jI H;obtain⟨kD,H⟩:=H
    replace H:=jI H;obtain⟨kE,H⟩:=H
    replace H:=jI H;obtain⟨kF,H⟩:=H
    obtain rfl:=oJ H
    have aA:0<=((aa):Int):=qD
    have aB:(aa) < (af.length:Int):=qD
    obtain⟨ae,aR,aS,aT,aU,aV,aW⟩:=aaG (R_reads' ah.out).2.2 (aa) aA aB
    cases aR
    replace aA:=eq_true aA
    replace aB:=eq_true aB
    have aK:0<=((aa):Int):=qD
    have aL:(aa) < (af.length:Int):=qD
    obtain⟨aY,bS,bT,bU,bV,bW,bX⟩:=aaG (R_reads' ah.out).2.2 (aa) aK aL
    obtain rfl:ae=aY:=(by injection bS)
    replace aK:=eq_true aK
    replace aL:=eq_true aL
    try go_wp2
    replace ah:=aM (R_drew ah.out)
    replace ai:=aM (R_drew ai.out)
    replace aj:=aM (R_drew aj.out)
    replace HB:=aM (aaf HB.out)
    have fF:0<=((aa):Int):=qD
    have fG:(aa) < (af.length:Int):=qD
    obtain⟨gW,iM,bY,bZ,cu,cz,cB⟩:=aaG (R_reads' ah.out).2.2 (aa) fF fG
    obtain rfl:ae=gW:=(by injection iM)
    replace fF:=eq_true fF
    replace fG:=eq_true fG
    refine abl (n:=15) (S:=fun w'=>w'.cell? (ae.add (((aa)).toNat*5))=some (iV ((aa0 af (aa)).f0))/\w'.cell? ⟨(ae.add (((aa)).toNat*5)).block,(ae.add (((aa)).toNat*5)).off+1,none⟩=some (iV ((aa0 af (aa)).f1))/\w'.cell? ⟨(ae.add (((aa)).toNat*5)).block,(ae.add (((aa)).toNat*5)).off+2,none⟩=some (iV ((aa0 af (aa)).f2))/\w'.cell? ⟨(ae.add (((aa)).toNat*5)).block,(ae.add (((aa)).toNat*5)).off+3,none⟩=some (iV ((aa0 af (aa)).f3))/\w'.cell? ⟨(ae.add (((aa)).toNat*5)).block,(ae.add (((aa)).toNat*5)).off+4,none⟩=some (iV ((aa0 af (aa)).f4))) (ds:=[]) (jb 15 0) (by kernel_rfl) rfl rfl ⟨bY,bZ,cu,cz,cB⟩ (fun hHeld=>?_);refine aaL aek adx (fun HT_ HW_=>?_)
    generalize wc.drew=mV at ah ai aj HB bY bZ cu cz cB hHeld ⊢
    refine jp 0 81 (jb 15 1) ?_
    refine jp 1 82 (jb 15 3) ?_
    refine jp 2 83 (jb 15 7) ?_
    refine jp 3 84 (jb 15 15) ?_
    refine jp 5 86 (jb 15 47) ?_
    refine jp 6 87 (jb 15 111) ?_
    refine jp 7 88 (jb 15 239) ?_
    refine jp 8 89 (jb 15 495) ?_
    refine jt 9 90 (jb 15 1007) ?_
    refine acK (i:=4) (N:=some 85) (jb 15 1023) rfl rfl (aaR HT_.out (by kernel_rfl)) (by decide) (fun K hK=>?_)
    refine abn func24 (by kernel_rfl) rfl #[.slice (some ae) af.length bz,iV aa] (by rfl) rfl rfl (by (try simp only [List.map_toArray,List.map_cons,List.map_nil]);first|done|(simp only [aQ];rfl)|rfl|(simp only [List.length_drop,List.length_take];rfl)) ?_
    with_reducible refine (ag7 gQ _ _ af aa aO _ ?ax ?ay lZ.out).mono ?_
    (case ax=>exact kJ ah)
    (case ay=>exact (kp ah))
    rintro e l8 ⟨kP,rfl,ho0,hb⟩
    have eY:=(hb.cell (World.block_lt_of_cell? _ _ (hHeld.1))).trans (hHeld.1)
    have eZ:=(hb.cell (World.block_lt_of_cell? _ _ (hHeld.2.1))).trans (hHeld.2.1)
    have fe:=(hb.cell (World.block_lt_of_cell? _ _ (hHeld.2.2.1))).trans (hHeld.2.2.1)
    have fo:=(hb.cell (World.block_lt_of_cell? _ _ (hHeld.2.2.2.1))).trans (hHeld.2.2.2.1)
    have fq:=(hb.cell (World.block_lt_of_cell? _ _ (hHeld.2.2.2.2))).trans (hHeld.2.2.2.2)
    refine⟨_,rfl,?_⟩
    have aZ:=kL ho0
    replace ah:=kR ah hb
    replace ai:=kR ai hb
    replace aj:=kR aj hb
    replace HB:=kH hb
    (try clear hb)
    (try clear hb2)
    (try clear hk)
    (try clear hi)
    (try clear ho0)
    obtain⟨l9,ma,iN⟩:=R_slice aZ.out
    (first|subst iN|(injection iN with bu ek bv;have eu:=bu.symm;have eB:=bv.symm;clear bu ek bv;subst eu;subst eB))
    have fH:0<=(((aa0 af (aa)).f1):Int):=qD
    have fI:((aa0 af (aa)).f1) < (aO.length:Int):=qD
    obtain⟨gX,iO,fJ⟩:=Kd.at_bool (R_reads' aZ.out).2.2 ((aa0 af (aa)).f1) fH fI
    cases iO
    replace fH:=eq_true fH
    replace fI:=eq_true fI
    refine hK.out _ _ ⟨eY,eZ,fe,fo,fq⟩ (fun hHeld=>?_)
    clear hK K
    refine aaA (a':=?_) ?_ ?_
    rotate_left
    ·show Act.put _ (some 85) _=_
     simp only [Act.put,List.setIfInBounds_toArray,List.set_cons_zero,List.set_cons_succ,aas,aaw]
     rfl
    replace hHeld:=And.intro hHeld.1 (And.intro hHeld.2.1 (And.intro hHeld.2.2.1 (And.intro hHeld.2.2.2.1 (And.intro hHeld.2.2.2.2 fJ))))
    refine abp (S':=fun w'=>w'.cell? (ae.add (((aa)).toNat*5))=some (iV ((aa0 af (aa)).f0))/\w'.cell? ⟨(ae.add (((aa)).toNat*5)).block,(ae.add (((aa)).toNat*5)).off+1,none⟩=some (iV ((aa0 af (aa)).f1))/\w'.cell? ⟨(ae.add (((aa)).toNat*5)).block,(ae.add (((aa)).toNat*5)).off+2,none⟩=some (iV ((aa0 af (aa)).f2))/\w'.cell? ⟨(ae.add (((aa)).toNat*5)).block,(ae.add (((aa)).toNat*5)).off+3,none⟩=some (iV ((aa0 af (aa)).f3))/\w'.cell? ⟨(ae.add (((aa)).toNat*5)).block,(ae.add (((aa)).toNat*5)).off+4,none⟩=some (iV ((aa0 af (aa)).f4))/\w'.cell? (gX.add (((aa0 af (aa)).f1)).toNat)=some (.bool (abJ false aO ((aa0 af (aa)).f1)))) (fun _ h=>⟨h.1,h.2.1,h.2.2.1,h.2.2.2.1,h.2.2.2.2.1⟩) _ _ _ _ hHeld ?_
    refine jp 10 91 (jb 15 2047) ?_
    refine jt 11 92 (jb 15 4095) ?_
    refine jp 12 93 (jb 15 8191) ?_
    refine jp 13 94 (jb 15 16383) ?_
    refine jp 14 12 (jb 15 32767) ?_
    refine abI (ab5 HT_.out (by kernel_rfl)) ?_
    try go_wp2
    replace ah:=aM (R_drew ah.out)
    replace ai:=aM (R_drew ai.out)
    replace aj:=aM (R_drew aj.out)
    replace aZ:=aM (R_drew aZ.out)
    replace HB:=aM (aaf HB.out)
    obtain⟨mf,mg,iP⟩:=R_slice ai.out
    (first|subst iP|(injection iP with bu ek bv;have eu:=bu.symm;have eB:=bv.symm;clear bu ek bv;subst eu;subst eB))
    have fK:0<=((aa):Int):=qD
    have fM:(aa) < (ag.length:Int):=qD
    obtain⟨aG,iQ,cK,cO,df,dh,di⟩:=aaG (R_reads' ai.out).2.2 (aa) fK fM
    cases iQ
    replace fK:=eq_true fK
    replace fM:=eq_true fM
    have fO:0<=((aa):Int):=qD
    have fP:(aa) < (af.length:Int):=qD
    obtain⟨gY,iR,dn,dw,dx,dz,dA⟩:=aaG (R_reads' ah.out).2.2 (aa) fO fP
    obtain rfl:ae=gY:=(by injection iR)
    replace fO:=eq_true fO
    replace fP:=eq_true fP
    refine abl (n:=12) (S:=fun w'=>w'.cell? (aG.add (((aa)).toNat*5))=some (iV ((aa0 ag (aa)).f0))/\w'.cell? ⟨(aG.add (((aa)).toNat*5)).block,(aG.add (((aa)).toNat*5)).off+1,none⟩=some (iV ((aa0 ag (aa)).f1))/\w'.cell? ⟨(aG.add (((aa)).toNat*5)).block,(aG.add (((aa)).toNat*5)).off+2,none⟩=some (iV ((aa0 ag (aa)).f2))/\w'.cell? ⟨(aG.add (((aa)).toNat*5)).block,(aG.add (((aa)).toNat*5)).off+3,none⟩=some (iV ((aa0 ag (aa)).f3))/\w'.cell? ⟨(aG.add (((aa)).toNat*5)).block,(aG.add (((aa)).toNat*5)).off+4,none⟩=some (iV ((aa0 ag (aa)).f4))/\w'.cell? (ae.add (((aa)).toNat*5))=some (iV ((aa0 af (aa)).f0))/\w'.cell? ⟨(ae.add (((aa)).toNat*5)).block,(ae.add (((aa)).toNat*5)).off+1,none⟩=some (iV ((aa0 af (aa)).f1))/\w'.cell? ⟨(ae.add (((aa)).toNat*5)).block,(ae.add (((aa)).toNat*5)).off+2,none⟩=some (iV ((aa0 af (aa)).f2))/\w'.cell? ⟨(ae.add (((aa)).toNat*5)).block,(ae.add (((aa)).toNat*5)).off+3,none⟩=some (iV ((aa0 af (aa)).f3))/\w'.cell? ⟨(ae.add (((aa)).toNat*5)).block,(ae.add (((aa)).toNat*5)).off+4,none⟩=some (iV ((aa0 af (aa)).f4))) (ds:=[]) (jb 12 0) (by kernel_rfl) rfl rfl ⟨cK,cO,df,dh,di,dn,dw,dx,dz,dA⟩ (fun hHeld=>?_);refine aaL aej adw (fun HT_ HW_=>?_)
    generalize l8.drew=mW at ah ai aj aZ HB cK cO df dh di dn dw dx dz dA hHeld ⊢
    refine jp 0 95 (jb 12 1) ?_
    refine jp 1 96 (jb 12 3) ?_
    refine jp 2 97 (jb 12 7) ?_
    refine jp 3 98 (jb 12 15) ?_
    refine jp 5 100 (jb 12 47) ?_
    refine jp 6 101 (jb 12 111) ?_
    refine jp 7 102 (jb 12 239) ?_
    refine jt 4 99 (jb 12 255) ?_
    refine jt 8 103 (jb 12 511) ?_
    refine jp 9 104 (jb 12 1023) ?_
    refine jp 10 105 (jb 12 2047) ?_
    refine jp 11 4 (jb 12 4095) ?_
    refine abI (ab5 HT_.out (by kernel_rfl)) ?_
    try go_wp2
    go_ret
    exact⟨by first|rfl|(simp [aan,aam] <;> rfl)|(simp only [<- aQ];first|rfl|(simp [aan,aam] <;> rfl))|(simp [*,aan,aam] <;> rfl),qB⟩
   replace H:=jE H;rcases H with ⟨iT,iU,H⟩ | ⟨mX,iT,iU,H⟩
   ·obtain⟨aP,mh,H⟩:=qE H
    try dsimp only at H
    replace H:=jI H;obtain⟨kV,H⟩:=H
    replace H:=jI H;obtain⟨kX,H⟩:=H
    replace H:=jI H;obtain⟨kZ,H⟩:=H
    obtain rfl:=oJ H
    have aA:0<=((aa):Int):=qD
    have aB:(aa) < (af.length:Int):=qD
    obtain⟨ae,aR,aS,aT,aU,aV,aW⟩:=aaG (R_reads' ah.out).2.2 (aa) aA aB
    cases aR
    replace aA:=eq_true aA
    replace aB:=eq_true aB
    have aK:0<=((aa):Int):=qD
    have aL:(aa) < (af.length:Int):=qD
    obtain⟨aY,bS,bT,bU,bV,bW,bX⟩:=aaG (R_reads' ah.out).2.2 (aa) aK aL
    obtain rfl:ae=aY:=(by injection bS)
    replace aK:=eq_true aK
    replace aL:=eq_true aL
    have bg:0<=((aa):Int):=qD
    have bi:(aa) < (af.length:Int):=qD
    obtain⟨ed,fQ,fT,fU,fV,fZ,gm⟩:=aaG (R_reads' ah.out).2.2 (aa) bg bi
    obtain rfl:ae=ed:=(by injection fQ)
    replace bg:=eq_true bg
    replace bi:=eq_true bi
    try go_wp2
    replace ah:=aM (R_drew ah.out)
    replace ai:=aM (R_drew ai.out)
    replace aj:=aM (R_drew aj.out)
    replace HB:=aM (aaf HB.out)
    have gp:0<=((aa):Int):=qD
    have gq:(aa) < (af.length:Int):=qD
    obtain⟨gZ,iW,dB,dC,dD,dE,dF⟩:=aaG (R_reads' ah.out).2.2 (aa) gp gq
    obtain rfl:ae=gZ:=(by injection iW)
    replace gp:=eq_true gp
    replace gq:=eq_true gq
    refine abl (n:=15) (S:=fun w'=>w'.cell? (ae.add (((aa)).toNat*5))=some (iV ((aa0 af (aa)).f0))/\w'.cell? ⟨(ae.add (((aa)).toNat*5)).block,(ae.add (((aa)).toNat*5)).off+1,none⟩=some (iV ((aa0 af (aa)).f1))/\w'.cell? ⟨(ae.add (((aa)).toNat*5)).block,(ae.add (((aa)).toNat*5)).off+2,none⟩=some (iV ((aa0 af (aa)).f2))/\w'.cell? ⟨(ae.add (((aa)).toNat*5)).block,(ae.add (((aa)).toNat*5)).off+3,none⟩=some (iV ((aa0 af (aa)).f3))/\w'.cell? ⟨(ae.add (((aa)).toNat*5)).block,(ae.add (((aa)).toNat*5)).off+4,none⟩=some (iV ((aa0 af (aa)).f4))) (ds:=[]) (jb 15 0) (by kernel_rfl) rfl rfl ⟨dB,dC,dD,dE,dF⟩ (fun hHeld=>?_);refine aaL aek adx (fun HT_ HW_=>?_)
    generalize wc.drew=mY at ah ai aj HB dB dC dD dE dF hHeld ⊢
    refine jp 0 81 (jb 15 1) ?_
    refine jp 1 82 (jb 15 3) ?_
    refine jp 2 83 (jb 15 7) ?_
    refine jp 3 84 (jb 15 15) ?_
    refine jp 5 86 (jb 15 47) ?_
    refine jp 6 87 (jb 15 111) ?_
    refine jp 7 88 (jb 15 239) ?_
    refine jp 8 89 (jb 15 495) ?_
    refine jt 9 90 (jb 15 1007) ?_
    refine acK (i:=4) (N:=some 85) (jb 15 1023) rfl rfl (aaR HT_.out (by kernel_rfl)) (by decide) (fun K hK=>?_)
    refine abn func24 (by kernel_rfl) rfl #[.slice (some ae) af.length bz,iV aa] (by rfl) rfl rfl (by (try simp only [List.map_toArray,List.map_cons,List.map_nil]);first|done|(simp only [aQ];rfl)|rfl|(simp only [List.length_drop,List.length_take];rfl)) ?_
    with_reducible refine (ag7 gQ _ _ af aa aP _ ?ax ?ay mh.out).mono ?_
    (case ax=>exact kJ ah)
    (case ay=>exact (kp ah))
    rintro e mi ⟨lc,rfl,ho0,hb⟩
    have eY:=(hb.cell (World.block_lt_of_cell? _ _ (hHeld.1))).trans (hHeld.1)
    have eZ:=(hb.cell (World.block_lt_of_cell? _ _ (hHeld.2.1))).trans (hHeld.2.1)
    have fe:=(hb.cell (World.block_lt_of_cell? _ _ (hHeld.2.2.1))).trans (hHeld.2.2.1)
    have fo:=(hb.cell (World.block_lt_of_cell? _ _ (hHeld.2.2.2.1))).trans (hHeld.2.2.2.1)
    have fq:=(hb.cell (World.block_lt_of_cell? _ _ (hHeld.2.2.2.2))).trans (hHeld.2.2.2.2)
    refine⟨_,rfl,?_⟩
    have bn:=kL ho0
    replace ah:=kR ah hb
    replace ai:=kR ai hb
    replace aj:=kR aj hb
    replace HB:=kH hb
    (try clear hb)
    (try clear hb2)
    (try clear hk)
    (try clear hi)
    (try clear ho0)
    obtain⟨mo,mq,iX⟩:=R_slice bn.out
    (first|subst iX|(injection iX with bu ek bv;have eu:=bu.symm;have eB:=bv.symm;clear bu ek bv;subst eu;subst eB))
    have gu:0<=(((aa0 af (aa)).f1):Int):=qD
    have gy:((aa0 af (aa)).f1) < (aP.length:Int):=qD
    obtain⟨ib,iY,gz⟩:=Kd.at_bool (R_reads' bn.out).2.2 ((aa0 af (aa)).f1) gu gy
    cases iY
    replace gu:=eq_true gu
    replace gy:=eq_true gy
    refine hK.out _ _ ⟨eY,eZ,fe,fo,fq⟩ (fun hHeld=>?_)
    clear hK K
    refine aaA (a':=?_) ?_ ?_
    rotate_left
    ·show Act.put _ (some 85) _=_
     simp only [Act.put,List.setIfInBounds_toArray,List.set_cons_zero,List.set_cons_succ,aas,aaw]
     rfl
    replace hHeld:=And.intro hHeld.1 (And.intro hHeld.2.1 (And.intro hHeld.2.2.1 (And.intro hHeld.2.2.2.1 (And.intro hHeld.2.2.2.2 gz))))
    refine abp (S':=fun w'=>w'.cell? (ae.add (((aa)).toNat*5))=some (iV ((aa0 af (aa)).f0))/\w'.cell? ⟨(ae.add (((aa)).toNat*5)).block,(ae.add (((aa)).toNat*5)).off+1,none⟩=some (iV ((aa0 af (aa)).f1))/\w'.cell? ⟨(ae.add (((aa)).toNat*5)).block,(ae.add (((aa)).toNat*5)).off+2,none⟩=some (iV ((aa0 af (aa)).f2))/\w'.cell? ⟨(ae.add (((aa)).toNat*5)).block,(ae.add (((aa)).toNat*5)).off+3,none⟩=some (iV ((aa0 af (aa)).f3))/\w'.cell? ⟨(ae.add (((aa)).toNat*5)).block,(ae.add (((aa)).toNat*5)).off+4,none⟩=some (iV ((aa0 af (aa)).f4))/\w'.cell? (ib.add (((aa0 af (aa)).f1)).toNat)=some (.bool (abJ false aP ((aa0 af (aa)).f1)))) (fun _ h=>⟨h.1,h.2.1,h.2.2.1,h.2.2.2.1,h.2.2.2.2.1⟩) _ _ _ _ hHeld ?_
    refine jp 10 91 (jb 15 2047) ?_
    refine jt 11 92 (jb 15 4095) ?_
    refine jp 12 93 (jb 15 8191) ?_
    refine jp 13 94 (jb 15 16383) ?_
    refine jp 14 12 (jb 15 32767) ?_
    refine abI (ab5 HT_.out (by kernel_rfl)) ?_
    try go_wp2
    replace ah:=aM (R_drew ah.out)
    replace ai:=aM (R_drew ai.out)
    replace aj:=aM (R_drew aj.out)
    replace bn:=aM (R_drew bn.out)
    replace HB:=aM (aaf HB.out)
    obtain⟨mr,mD,iZ⟩:=R_slice ai.out
    (first|subst iZ|(injection iZ with bu ek bv;have eu:=bu.symm;have eB:=bv.symm;clear bu ek bv;subst eu;subst eB))
    have gB:0<=((aa):Int):=qD
    have gD:(aa) < (ag.length:Int):=qD
    obtain⟨aH,ja,dG,dH,dI,dJ,dK⟩:=aaG (R_reads' ai.out).2.2 (aa) gB gD
    cases ja
    replace gB:=eq_true gB
    replace gD:=eq_true gD
    have gF:0<=((aa):Int):=qD
    have gG:(aa) < (af.length:Int):=qD
    obtain⟨ic,je,dL,dM,dN,dO,dP⟩:=aaG (R_reads' ah.out).2.2 (aa) gF gG
    obtain rfl:ae=ic:=(by injection je)
    replace gF:=eq_true gF
    replace gG:=eq_true gG
    refine abl (n:=12) (S:=fun w'=>w'.cell? (aH.add (((aa)).toNat*5))=some (iV ((aa0 ag (aa)).f0))/\w'.cell? ⟨(aH.add (((aa)).toNat*5)).block,(aH.add (((aa)).toNat*5)).off+1,none⟩=some (iV ((aa0 ag (aa)).f1))/\w'.cell? ⟨(aH.add (((aa)).toNat*5)).block,(aH.add (((aa)).toNat*5)).off+2,none⟩=some (iV ((aa0 ag (aa)).f2))/\w'.cell? ⟨(aH.add (((aa)).toNat*5)).block,(aH.add (((aa)).toNat*5)).off+3,none⟩=some (iV ((aa0 ag (aa)).f3))/\w'.cell? ⟨(aH.add (((aa)).toNat*5)).block,(aH.add (((aa)).toNat*5)).off+4,none⟩=some (iV ((aa0 ag (aa)).f4))/\w'.cell? (ae.add (((aa)).toNat*5))=some (iV ((aa0 af (aa)).f0))/\w'.cell? ⟨(ae.add (((aa)).toNat*5)).block,(ae.add (((aa)).toNat*5)).off+1,none⟩=some (iV ((aa0 af (aa)).f1))/\w'.cell? ⟨(ae.add (((aa)).toNat*5)).block,(ae.add (((aa)).toNat*5)).off+2,none⟩=some (iV ((aa0 af (aa)).f2))/\w'.cell? ⟨(ae.add (((aa)).toNat*5)).block,(ae.add (((aa)).toNat*5)).off+3,none⟩=some (iV ((aa0 af (aa)).f3))/\w'.cell? ⟨(ae.add (((aa)).toNat*5)).block,(ae.add (((aa)).toNat*5)).off+4,none⟩=some (iV ((aa0 af (aa)).f4))) (ds:=[]) (jb 12 0) (by kernel_rfl) rfl rfl ⟨dG,dH,dI,dJ,dK,dL,dM,dN,dO,dP⟩ (fun hHeld=>?_);refine aaL aej adw (fun HT_ HW_=>?_)
    generalize mi.drew=mZ at ah ai aj bn HB dG dH dI dJ dK dL dM dN dO dP hHeld ⊢
    refine jp 0 95 (jb 12 1) ?_
    refine jp 1 96 (jb 12 3) ?_
    refine jp 2 97 (jb 12 7) ?_
    refine jp 3 98 (jb 12 15) ?_
    refine jp 5 100 (jb 12 47) ?_
    refine jp 6 101 (jb 12 111) ?_
    refine jp 7 102 (jb 12 239) ?_
    refine jt 4 99 (jb 12 255) ?_
    refine jt 8 103 (jb 12 511) ?_
    refine jp 9 104 (jb 12 1023) ?_
    refine jp 10 105 (jb 12 2047) ?_
    refine jp 11 4 (jb 12 4095) ?_
    refine abI (ab5 HT_.out (by kernel_rfl)) ?_
    try go_wp2
    go_ret
    exact⟨by first|rfl|(simp [aan,aam] <;> rfl)|(simp only [<- aQ];first|rfl|(simp [aan,aam] <;> rfl))|(simp [*,aan,aam] <;> rfl),qB⟩
   replace H:=jI H;obtain⟨lg,H⟩:=H
   obtain rfl:=oJ H
   have aA:0<=((aa):Int):=qD
   have aB:(aa) < (af.length:Int):=qD
   obtain⟨ae,aR,aS,aT,aU,aV,aW⟩:=aaG (R_reads' ah.out).2.2 (aa) aA aB
   cases aR
   replace aA:=eq_true aA
   replace aB:=eq_true aB
   have aK:0<=((aa):Int):=qD
   have aL:(aa) < (af.length:Int):=qD
   obtain⟨aY,bS,bT,bU,bV,bW,bX⟩:=aaG (R_reads' ah.out).2.2 (aa) aK aL
   obtain rfl:ae=aY:=(by injection bS)
   replace aK:=eq_true aK
   replace aL:=eq_true aL
   have bg:0<=((aa):Int):=qD
   have bi:(aa) < (af.length:Int):=qD
   obtain⟨ed,fQ,fT,fU,fV,fZ,gm⟩:=aaG (R_reads' ah.out).2.2 (aa) bg bi
   obtain rfl:ae=ed:=(by injection fQ)
   replace bg:=eq_true bg
   replace bi:=eq_true bi
   try go_wp2
   replace ah:=aM (R_drew ah.out)
   replace ai:=aM (R_drew ai.out)
   replace aj:=aM (R_drew aj.out)
   replace HB:=aM (aaf HB.out)
   refine abl (n:=15) (S:=fun w'=>True) (ds:=[]) (jb 15 0) (by kernel_rfl) rfl rfl trivial (fun hHeld=>?_);refine aaL aek adx (fun HT_ HW_=>?_)
   generalize wc.drew=mE at ah ai aj HB hHeld ⊢
   refine jp 0 81 (jb 15 1) ?_
   refine jp 1 82 (jb 15 3) ?_
   refine acZ (i:=2) (N:=some 83) (v:=undef) (a':=?_) (jb 15 7) rfl rfl (acS HT_.out (by kernel_rfl)) (fun _ _ _ h=>h) (Or.inr ⟨by rfl,rfl⟩) ?_ ?_
   rotate_left
   ·simp only [Act.put,List.setIfInBounds_toArray,List.set_cons_zero,List.set_cons_succ,aas,aaw]
    rfl
   refine acZ (i:=3) (N:=some 84) (v:=undef) (a':=?_) (jb 15 15) rfl rfl (acS HT_.out (by kernel_rfl)) (fun _ _ _ h=>h) (Or.inr ⟨by rfl,rfl⟩) ?_ ?_
   rotate_left
   ·simp only [Act.put,List.setIfInBounds_toArray,List.set_cons_zero,List.set_cons_succ,aas,aaw]
    rfl
   refine acZ (i:=4) (N:=some 85) (v:=undef) (a':=?_) (jb 15 31) rfl rfl (acS HT_.out (by kernel_rfl)) (fun _ _ _ h=>h) (Or.inr ⟨by rfl,rfl⟩) ?_ ?_
   rotate_left
   ·simp only [Act.put,List.setIfInBounds_toArray,List.set_cons_zero,List.set_cons_succ,aas,aaw]
    rfl
   refine acZ (i:=5) (N:=some 86) (v:=undef) (a':=?_) (jb 15 63) rfl rfl (acS HT_.out (by kernel_rfl)) (fun _ _ _ h=>h) (Or.inr ⟨by rfl,rfl⟩) ?_ ?_
   rotate_left
   ·simp only [Act.put,List.setIfInBounds_toArray,List.set_cons_zero,List.set_cons_succ,aas,aaw]
    rfl
   refine acZ (i:=6) (N:=some 87) (v:=undef) (a':=?_) (jb 15 127) rfl rfl (acS HT_.out (by kernel_rfl)) (fun _ _ _ h=>h) (Or.inr ⟨by rfl,rfl⟩) ?_ ?_
   rotate_left
   ·simp only [Act.put,List.setIfInBounds_toArray,List.set_cons_zero,List.set_cons_succ,aas,aaw]
    rfl
   refine acZ (i:=7) (N:=some 88) (v:=undef) (a':=?_) (jb 15 255) rfl rfl (acS HT_.out (by kernel_rfl)) (fun _ _ _ h=>h) (Or.inr ⟨by rfl,rfl⟩) ?_ ?_
   rotate_left
   ·simp only [Act.put,List.setIfInBounds_toArray,List.set_cons_zero,List.set_cons_succ,aas,aaw]
    rfl
   refine acZ (i:=8) (N:=some 89) (v:=undef) (a':=?_) (jb 15 511) rfl rfl (acS HT_.out (by kernel_rfl)) (fun _ _ _ h=>h) (Or.inr ⟨by rfl,rfl⟩) ?_ ?_
   rotate_left
   ·simp only [Act.put,List.setIfInBounds_toArray,List.set_cons_zero,List.set_cons_succ,aas,aaw]
    rfl
   refine acZ (i:=9) (N:=some 90) (v:=undef) (a':=?_) (jb 15 1023) rfl rfl (acS HT_.out (by kernel_rfl)) (fun _ _ _ h=>h) (Or.inr ⟨by rfl,rfl⟩) ?_ ?_
   rotate_left
   ·simp only [Act.put,List.setIfInBounds_toArray,List.set_cons_zero,List.set_cons_succ,aas,aaw]
    rfl
   refine acZ (i:=10) (N:=some 91) (v:=undef) (a':=?_) (jb 15 2047) rfl rfl (acS HT_.out (by kernel_rfl)) (fun _ _ _ h=>h) (Or.inr ⟨by rfl,rfl⟩) ?_ ?_
   rotate_left
   ·simp only [Act.put,List.setIfInBounds_toArray,List.set_cons_zero,List.set_cons_succ,aas,aaw]
    rfl
   refine acZ (i:=11) (N:=some 92) (v:=undef) (a':=?_) (jb 15 4095) rfl rfl (acS HT_.out (by kernel_rfl)) (fun _ _ _ h=>h) (Or.inr ⟨by rfl,rfl⟩) ?_ ?_
   rotate_left
   ·simp only [Act.put,List.setIfInBounds_toArray,List.set_cons_zero,List.set_cons_succ,aas,aaw]
    rfl
   refine acZ (i:=12) (N:=some 93) (v:=undef) (a':=?_) (jb 15 8191) rfl rfl (acS HT_.out (by kernel_rfl)) (fun _ _ _ h=>h) (Or.inr ⟨by rfl,rfl⟩) ?_ ?_
   rotate_left
   ·simp only [Act.put,List.setIfInBounds_toArray,List.set_cons_zero,List.set_cons_succ,aas,aaw]
    rfl
   refine jp 13 94 (jb 15 16383) ?_
   refine jp 14 12 (jb 15 32767) ?_
   refine abI (ab5 HT_.out (by kernel_rfl)) ?_
   try go_wp2
   replace ah:=aM (R_drew ah.out)
   replace ai:=aM (R_drew ai.out)
   replace aj:=aM (R_drew aj.out)
   replace HB:=aM (aaf HB.out)
   obtain⟨mF,mG,jf⟩:=R_slice ai.out
   (first|subst jf|(injection jf with bu ek bv;have eu:=bu.symm;have eB:=bv.symm;clear bu ek bv;subst eu;subst eB))
   have gH:0<=((aa):Int):=qD
   have gI:(aa) < (ag.length:Int):=qD
   obtain⟨aI,jg,dQ,dR,dS,dU,dV⟩:=aaG (R_reads' ai.out).2.2 (aa) gH gI
   cases jg
   replace gH:=eq_true gH
   replace gI:=eq_true gI
   have gJ:0<=((aa):Int):=qD
   have gK:(aa) < (af.length:Int):=qD
   obtain⟨ig,jh,dW,dX,dY,dZ,d9⟩:=aaG (R_reads' ah.out).2.2 (aa) gJ gK
   obtain rfl:ae=ig:=(by injection jh)
   replace gJ:=eq_true gJ
   replace gK:=eq_true gK
   refine abl (n:=12) (S:=fun w'=>w'.cell? (aI.add (((aa)).toNat*5))=some (iV ((aa0 ag (aa)).f0))/\w'.cell? ⟨(aI.add (((aa)).toNat*5)).block,(aI.add (((aa)).toNat*5)).off+1,none⟩=some (iV ((aa0 ag (aa)).f1))/\w'.cell? ⟨(aI.add (((aa)).toNat*5)).block,(aI.add (((aa)).toNat*5)).off+2,none⟩=some (iV ((aa0 ag (aa)).f2))/\w'.cell? ⟨(aI.add (((aa)).toNat*5)).block,(aI.add (((aa)).toNat*5)).off+3,none⟩=some (iV ((aa0 ag (aa)).f3))/\w'.cell? ⟨(aI.add (((aa)).toNat*5)).block,(aI.add (((aa)).toNat*5)).off+4,none⟩=some (iV ((aa0 ag (aa)).f4))/\w'.cell? (ae.add (((aa)).toNat*5))=some (iV ((aa0 af (aa)).f0))/\w'.cell? ⟨(ae.add (((aa)).toNat*5)).block,(ae.add (((aa)).toNat*5)).off+1,none⟩=some (iV ((aa0 af (aa)).f1))/\w'.cell? ⟨(ae.add (((aa)).toNat*5)).block,(ae.add (((aa)).toNat*5)).off+2,none⟩=some (iV ((aa0 af (aa)).f2))/\w'.cell? ⟨(ae.add (((aa)).toNat*5)).block,(ae.add (((aa)).toNat*5)).off+3,none⟩=some (iV ((aa0 af (aa)).f3))/\w'.cell? ⟨(ae.add (((aa)).toNat*5)).block,(ae.add (((aa)).toNat*5)).off+4,none⟩=some (iV ((aa0 af (aa)).f4))) (ds:=[]) (jb 12 0) (by kernel_rfl) rfl rfl ⟨dQ,dR,dS,dU,dV,dW,dX,dY,dZ,d9⟩ (fun hHeld=>?_);refine aaL aej adw (fun HT_ HW_=>?_)
   generalize mE.drew=ng at ah ai aj HB dQ dR dS dU dV dW dX dY dZ d9 hHeld ⊢
   refine jp 0 95 (jb 12 1) ?_
   refine jp 1 96 (jb 12 3) ?_
   refine jp 2 97 (jb 12 7) ?_
   refine jp 3 98 (jb 12 15) ?_
   refine jp 5 100 (jb 12 47) ?_
   refine jp 6 101 (jb 12 111) ?_
   refine jp 7 102 (jb 12 239) ?_
   refine jt 4 99 (jb 12 255) ?_
   refine jt 8 103 (jb 12 511) ?_
   refine jp 9 104 (jb 12 1023) ?_
   refine jp 10 105 (jb 12 2047) ?_
   refine jp 11 4 (jb 12 4095) ?_
   refine abI (ab5 HT_.out (by kernel_rfl)) ?_
   try go_wp2
   go_ret
   exact⟨by first|rfl|(simp [aan,aam] <;> rfl)|(simp only [<- aQ];first|rfl|(simp [aan,aam] <;> rfl))|(simp [*,aan,aam] <;> rfl),qB⟩
/-- THE ONE PURE STATEMENT of SbH: yours. -/
def aji:Prop:=∀ (l0:List Int) (l1:List Int),l0.length<=maxLen->l0.length*1<=140737488351232->(∀ x∈l0,(Lit.int .u8 x).wf=true)->l1.length<=maxLen->l1.length*1<=140737488351232->(∀ x∈l1,(Lit.int .u8 x).wf=true)->∃ k,alk k l0 l1=some true
theorem aqj (P:aji) (a0:Option Addr) (gM cap0:Nat) (z0:List Int) (a1:Option Addr) (gN gL:Nat) (z1:List Int) (w:World) (w0:(a0=none/\gM=0/\cap0=0/\z0=[])\/∃ x,a0=some x/\gM<=cap0/\cap0<=maxLen/\z0.length=cap0/\(∀ i,i < z0.length->w.cell? (x.add i)=some (.int .u8 (z0.getD i 0)))/\∀ n∈z0,(Lit.int .u8 n).wf=true) (y0:gM*1<=140737488351232) (w1:(a1=none/\gN=0/\gL=0/\z1=[])\/∃ x,a1=some x/\gN<=gL/\gL<=maxLen/\z1.length=gL/\(∀ i,i < z1.length->w.cell? (x.add i)=some (.int .u8 (z1.getD i 0)))/\∀ n∈z1,(Lit.int .u8 n).wf=true) (y1:gN*1<=140737488351232) :
  Calls prog 6 #[.slice a0 gM cap0,.slice a1 gN gL] w fun e w'=>e = .returned (.bool true)/\Below w.heap.size w w':=by
 obtain⟨l0,rfl,hr0,hm0,hw0,hc0⟩:=adq w0
 obtain⟨l1,rfl,hr1,hm1,hw1,hc1⟩:=adq w1
 obtain⟨k,h⟩:=P l0 l1 hm0 y0 hw0 hm1 y1 hw1
 refine (alm k _ _ l0 _ _ l1 true w (C_of_reads (d:=(0:Int)) (h1:=fun _=>rfl) hr0) hc0 (C_of_reads (d:=(0:Int)) (h1:=fun _=>rfl) hr1) hc1 h).mono ?_
 rintro e w' ⟨rfl,hd⟩
 exact⟨rfl,hd⟩
end Go.Proofs.YtebpplallecogaaGreat.M
namespace Go.Proofs.YtebpplallecogaaGreat.M
open Go.Proofs.Tryz Go.RowKit Go.Proofs.YtebpplallecogaaGreatW.PrintWords Go.Proofs.YtebpplallecogaaGreatW.PrintLast Go.Proofs.YtebpplallecogaaGreatW.PrintMore
attribute [local go_sem] aal aaj aaz aay aae aad aak aai
def alY:Nat->List S27->Int->Bool->Option (List Bool)
 | 0,_,_,_=>none
 | k+1,x0,x1,aP=>if aP=true then (some (([]:List Bool))) else ((Saq.f k x0).bind fun ah=>((SaW.f k x0 ah x1).bind fun aj=>(some aj)))
def apW (k:Nat) (l0:List S27) (a1:Int):Option (List Bool):=(Sag.f k l0).bind fun av=>(if av=true then ((adC a1 0 (wrap64 ((l0.length:Int) - 1))).bind fun ai=>(alY k l0 a1 (!ai))) else (alY k l0 a1 true))
end Go.Proofs.YtebpplallecogaaGreat.M
namespace Go.Proofs.YtebpplallecogaaGreat.M
open Go.Proofs.Tryz Go.RowKit Go.Proofs.YtebpplallecogaaGreatW.PrintWords Go.Proofs.YtebpplallecogaaGreatW.PrintLast Go.Proofs.YtebpplallecogaaGreatW.PrintMore Kd
attribute [local go_sem] aal aaj aaz aay aae aad aak aai
end Go.Proofs.YtebpplallecogaaGreat.M
namespace Go.Proofs.YtebpplallecogaaGreat.M
open Go.Proofs.Tryz Go.RowKit Go.Proofs.YtebpplallecogaaGreatW.PrintWords Go.Proofs.YtebpplallecogaaGreatW.PrintLast Go.Proofs.YtebpplallecogaaGreatW.PrintMore
attribute [local go_sem] aal aaj aaz aay aae aad aak aai
end Go.Proofs.YtebpplallecogaaGreat.M
namespace Go.Proofs.YtebpplallecogaaGreat.M
open Go.Proofs.Tryz Go.RowKit Go.Proofs.YtebpplallecogaaGreatW.PrintWords Go.Proofs.YtebpplallecogaaGreatW.PrintLast Go.Proofs.YtebpplallecogaaGreatW.PrintMore PM
theorem ajw {a b:Nat} (h:∀ r,a.testBit r=true->b.testBit r=true):a<=b:=by
 have e:a ||| b=b:=by
  apply Nat.eq_of_testBit_eq
  intro r
  rw [Nat.testBit_or]
  cases h1:a.testBit r
  ·rfl
  rw [h r h1]
  rfl
 rw [<- e]
 exact Nat.left_le_or
theorem sum_set:∀ (L:List Nat) (i x:Nat),i < L.length->(L.set i x).sum+L.getD i 0=L.sum+x
 | a :: L,0,x,h=>by simp;omega
 | a :: L,i+1,x,h=>by
  have:=sum_set L i x (by simpa using h)
  simp only [List.set_cons_succ,List.sum_cons,List.getD_cons_succ]
  omega
theorem anl:∀ (L:List Nat),(∀ x∈L,x < 4096)->L.sum<=4096*L.length
 | [],h=>by simp
 | a :: L,h=>by
  have:=anl L (fun x hx=>h x (List.mem_cons_of_mem _ hx))
  have:=h a List.mem_cons_self
  simp only [List.sum_cons,List.length_cons]
  omega
theorem ao9 {n:Nat} {L:List Nat} (h:Tab n L):L.sum<=4096*n:=by
 rw [<- h.1]
 refine anl L fun x hx=>?_
 obtain⟨i,hi,e⟩:=List.getElem_of_mem hx
 have:=h.2 i
 rw [List.getD_eq_getElem?_getD,List.getElem?_eq_getElem hi] at this
 rw [<- e]
 exact this
theorem ahL {c:List SQ} (h:CV (qs c)) {L:List Nat} (hL:Tab c.length L) {i:Nat} (hi:i < c.length) (r:Nat):(bf c L i).testBit r=true↔((∃ j∈nx (q_ (qa c i)) i,(L.getD j 0).testBit r=true)/\sets (q_ (qa c i))≠r)\/uses (q_ (qa c i)) r:=by
 unfold bf
 rw [aoD (abK h hi) (agG hL _ _)]
 unfold aft
 rw [ahD]
 simp
/-- Below the next round,and within what is live. -/
structure Good (c:List SQ) (L:List Nat):Prop where
 tab:Tab c.length L
 up:∀ i,i < c.length->∀ r,(L.getD i 0).testBit r=true->(bf c L i).testBit r=true
 sound:∀ i,i < c.length->∀ r,(L.getD i 0).testBit r=true->Live (qs c) i r
theorem Good.step {c:List SQ} (h:CV (qs c)) {L:List Nat} (g:Good c L) {i:Nat} (hi:i < c.length):Good c (L.set i (bf c L i)):=by
 have hT:=g.tab.set i (bf c L i) (amR h g.tab hi)
 have hget:∀ j,(L.set i (bf c L i)).getD j 0=if j=i then bf c L i else L.getD j 0:=fun j=>ac2 L i j _ 0 (by rw [g.tab.1];exact hi)
 have hmono:∀ j r,j < c.length->(L.getD j 0).testBit r=true->((L.set i (bf c L i)).getD j 0).testBit r=true:=by
  intro j r hj hb
  rw [hget]
  split
  ·rename_i e
   subst e
   exact g.up j hi r hb
  exact hb
 have hbf:∀ j r,j < c.length->(bf c L j).testBit r=true->(bf c (L.set i (bf c L i)) j).testBit r=true:=by
  intro j r hj hb
  rw [ahL h g.tab hj] at hb
  rw [ahL h hT hj]
  rcases hb with ⟨⟨t,ht,hb⟩,hs⟩|hb
  ·exact .inl ⟨⟨t,ht,hmono t r (akn h hj t ht) hb⟩,hs⟩
  exact .inr hb
 refine⟨hT,fun j hj r hb=>?_,fun j hj r hb=>?_⟩
 ·rw [hget] at hb
  split at hb
  ·rename_i e
   subst e
   exact hbf j r hj hb
  exact hbf j r hj (g.up j hj r hb)
 rw [hget] at hb
 split at hb
 ·rename_i e
  subst e
  rw [ahL h g.tab hj] at hb
  rcases hb with ⟨⟨t,ht,hb⟩,hs⟩|hb
  ·exact Live.flow (by rw [ab0];exact hj) (by rw [acm];exact hs) (by rw [acm];exact ht) (g.sound t (akn h hj t ht) r hb)
  exact Live.use (by rw [ab0];exact hj) (by rw [acm];exact hb)
 exact g.sound j hj r hb
theorem aiP {c:List SQ} (h:CV (qs c)):∀ (i:Nat),i<=c.length->∀ (L:List Nat) (b:Bool),Good c L->Good c (rnd c i L b).1
 | 0,hi,L,b,g=>g
 | i+1,hi,L,b,g=>aiP h i (by omega) _ _ (g.step h (by omega))
theorem ahw {c:List SQ}:∀ (i:Nat),i<=c.length->∀ (L:List Nat) (b:Bool),L.length=c.length->(rnd c i L b).2=false->b=false/\(rnd c i L b).1=L/\∀ j,j < i->bf c L j=L.getD j 0
 | 0,hi,L,b,hl,e=>⟨e,rfl,fun j hj=>by omega⟩
 | i+1,hi,L,b,hl,e=>by
  obtain⟨e1,e2,e3⟩:=ahw i (by omega) (L.set i (bf c L i)) _ (by rw [List.length_set];exact hl) e
  have f:=Bool.or_eq_false_iff.1 e1
  have f2:bf c L i=L.getD i 0:=by simpa using f.2
  have f3:L.set i (bf c L i)=L:=by rw [f2];exact afn (by omega)
  rw [f3] at e3
  refine⟨f.1,e2.trans f3,fun j hj=>?_⟩
  by_cases hji:j=i
  ·rw [hji]
   exact f2
  exact e3 j (by omega)
theorem ak9 {c:List SQ} (h:CV (qs c)):∀ (i:Nat),i<=c.length->∀ (L:List Nat) (b:Bool),Good c L->L.sum<=(rnd c i L b).1.sum/\((rnd c i L b).2=true->b=true\/L.sum < (rnd c i L b).1.sum)
 | 0,hi,L,b,g=>⟨Nat.le_refl _,fun e=>.inl e⟩
 | i+1,hi,L,b,g=>by
  obtain⟨h1,h2⟩:=ak9 h i (by omega) (L.set i (bf c L i)) (b || !decide (bf c L i=L.getD i 0)) (g.step h (i:=i) (by omega))
  have hs:=sum_set L i (bf c L i) (by rw [g.tab.1];omega)
  have hle:=ajw (g.up i (by omega))
  simp only [rnd]
  refine⟨by omega,fun e=>?_⟩
  rcases h2 e with e2|e2
  ·rcases Bool.or_eq_true_iff.1 e2 with e3|e3
   ·exact .inl e3
   have:bf c L i≠L.getD i 0:=by simpa using e3
   exact .inr (by omega)
  exact .inr (by omega)
/-- The table of what is live before each quad. -/
structure LT (c:List SQ) (L:List Nat):Prop where
 tab:Tab c.length L
 iff:∀ i,i < c.length->∀ r,(L.getD i 0).testBit r=true↔Live (qs c) i r
theorem ahC {c:List SQ} (h:CV (qs c)):∀ (m:Nat) (L:List Nat),Good c L->4096*c.length < m+L.sum->∃ T,LT c T/\Ev (fun k=>aeo k c (rows L)) (rows T)/\Ev (fun k=>ado k c (ints L) true) (ints T)
 | 0,L,g,hm=>by
  have:=ao9 g.tab
  omega
 | m+1,L,g,hm=>by
  have h6:=abb h
  have hw:wrap64 ((c.length:Int) - 1)=(c.length:Int) - 1:=aaS (by omega) (by omega)
  have hr:=SaY.out h c.length (Nat.le_refl _) L false g.tab
  have hi:∀ v,Ev (fun k=>ado k c (ints (rnd c c.length L false).1) (rnd c c.length L false).2) v->Ev (fun k=>ac0 k c (ints L) false ((c.length:Int) - 1)) v:=fun v=>Sa6.out h c.length (Nat.le_refl _) L false g.tab
  cases e:(rnd c c.length L false).2 with
  | false =>
   obtain⟨_,e2,e3⟩:=ahw c.length (Nat.le_refl _) L false g.tab.1 e
   refine⟨L,⟨g.tab,fun i hi r=>?_⟩,?_,?_⟩
   ·refine live_of_closed (c:=qs c) (T:=fun i r=>i < c.length->(L.getD i 0).testBit r=true) (fun i r hi' ht=>g.sound i (by rwa [ab0] at hi') r (ht (by rwa [ab0] at hi'))) ?_ ?_ i r (by rw [ab0];exact hi) |>.symm.trans ⟨fun x=>x hi,fun x _=>x⟩ |>.symm
    ·intro i r _ hu hi
     rw [<- e3 i hi,ahL h g.tab hi]
     rw [acm] at hu
     exact .inr hu
    intro i j r _ hs hj ht hi
    rw [<- e3 i hi,ahL h g.tab hi]
    rw [acm] at hs hj
    exact .inl ⟨⟨j,hj,ht (akn h hi j hj)⟩,hs⟩
   ·refine Ev.succ ?_
    simp only [aeo,SaY.f,hw]
    refine Ev.bind hr ?_
    refine aa5 (aaX Ev.pure ?_) ?_
    ·rw [e2]
    simp [e]
   refine Ev.succ ?_
   simp only [ado,hw]
   refine aa2 (hi _ ?_)
   rw [e,e2]
   refine Ev.succ ?_
   simp only [ado]
   exact aa5 Ev.pure
  | true =>
   have hs:=(ak9 h c.length (Nat.le_refl _) L false g).2 e
   have hs':L.sum < (rnd c c.length L false).1.sum:=by
    rcases hs with x|x
    ·cases x
    exact x
   obtain⟨T,t1,t2,t3⟩:=ahC h m (rnd c c.length L false).1 (aiP h c.length (Nat.le_refl _) L false g) (by omega)
   refine⟨T,t1,?_,?_⟩
   ·refine Ev.succ ?_
    simp only [aeo,SaY.f,hw]
    refine Ev.bind hr (aa2 t2 ?_)
    exact e
   refine Ev.succ ?_
   simp only [ado,hw]
   refine aa2 (hi _ ?_)
   rw [e]
   exact t3
theorem akE {c:List SQ}:Good c (List.replicate c.length 0):=by
 have z:∀ i,(List.replicate c.length 0).getD i 0=0:=by
  intro i
  rw [List.getD_eq_getElem?_getD,List.getElem?_replicate]
  split <;> rfl
 refine⟨⟨by simp,fun i=>by rw [z];decide⟩,fun i hi r hb=>?_,fun i hi r hb=>?_⟩ <;>
 ·rw [z] at hb
  simp at hb
theorem ahZ {c:List SQ} (h6:c.length<=600) {v:List (List Bool)} (g:Ev (fun k=>aeo k c (rows (List.replicate c.length 0))) v):∀ (d p:Nat),p+d=c.length->Ev (fun k=>af3 k c (rows (List.replicate p 0)) (p:Int)) v
 | 0,p,hp=>by
  refine Ev.succ ?_
  simp only [af3]
  refine aa5 ?_
  rw [show p=c.length from by omega]
  exact g
 | d+1,p,hp=>by
  refine Ev.succ ?_
  simp only [af3,ah5,List.length_replicate,aav (show p < 9223372036854775807 by omega)]
  refine aa2 (aa2 (aa2 ?_))
  have:=ahZ h6 g d (p+1) (by omega)
  rw [List.replicate_succ',show rows (List.replicate p 0 ++ [0])=rows (List.replicate p 0) ++ [List.replicate 12 false] from by simp [rows,row_zero]] at this
  exact this
/-- Both answer one table: what is live. -/
theorem aih {c:List SQ} (h:CV (qs c)):∃ T,LT c T/\Ev (fun k=>Saq.f k c) (rows T)/\Ev (fun k=>Sa6.f k c) (ints T):=by
 have h6:=abb h
 obtain⟨T,t1,t2,t3⟩:=ahC h (4096*c.length+1) (List.replicate c.length 0) akE (by omega)
 refine⟨T,t1,?_,?_⟩
 ·simp only [Saq.f]
  refine aaH (Ev.bind (ach c) (aa2 ?_ (decide_eq_true h)))
  exact ahZ h6.2 t2 c.length 0 (by omega)
 simp only [Sa6.f,Int.toNat_natCast]
 refine aa2 (aa2 ?_)
 rw [show List.replicate c.length (0:Int)=ints (List.replicate c.length 0) from by simp [ints]]
 exact t3
theorem aja {s r:Nat} (hs:s < 65536) (hr:r < 16):ajO (s:Int) (r:Int)=some (s.testBit r):=by
 unfold ajO
 rw [if_pos (by omega),aoB hs hr]
/-- A quad is dead. -/
def dd (c:List SQ) (L:List Nat) (i:Nat):Bool:=((qa c i).f0 == 1 || (qa c i).f0 == 2 || (qa c i).f0 == 3) && !(aft (q_ (qa c i)) i L).testBit (qa c i).f1.toNat
def aeN (c:List SQ) (L:List Nat) (i:Nat):SQ:=if dd c L i=true then ⟨4,0,0,0,((i+1:Nat):Int)⟩ else qa c i
def adg (L:List Nat) (c:List SQ):List SQ:=(List.range c.length).map (aeN c L)
theorem abB (L:List Nat) (c:List SQ):(adg L c).length=c.length:=by simp [adg]
theorem adf (L:List Nat) {c:List SQ} {i:Nat} (h:i < c.length):qa (adg L c) i=aeN c L i:=by simp [adg,qa,List.getD_eq_getElem?_getD,h]
theorem aiT {s:Nat} {r:Int} (h0:0<=r) (h1:r < 12):abJ false (row s) r=s.testBit r.toNat:=by
 have:=abT false (row s) r.toNat
 rw [Int.toNat_of_nonneg h0] at this
 rw [this]
 exact ad7 _ _ (by omega)
theorem aqD {c:List SQ} (h:CV (qs c)) {i:Nat} (hi:i < c.length) (L:List Nat):ale (qa c i).f0 (qa c i).f1 (qa c i).f2 (qa c i).f3 (qa c i).f4 (row (aft (q_ (qa c i)) i L))=some (dd c L i):=by
 obtain⟨⟨d0,d1⟩,_⟩:=abz (abK h hi)
 simp only [q_] at d0 d1
 unfold ale dd
 rw [aiT d0 d1,abv]
 by_cases c1:(qa c i).f0=1
 ·rw [if_pos c1,if_pos d0,if_pos (show (qa c i).f1 < ((12:Nat):Int) by omega)]
  simp [c1]
 rw [if_neg c1]
 by_cases c2:(qa c i).f0=2
 ·rw [if_pos c2,if_pos d0,if_pos (show (qa c i).f1 < ((12:Nat):Int) by omega)]
  simp [c2]
 rw [if_neg c2]
 by_cases c3:(qa c i).f0=3
 ·rw [if_pos c3,if_pos d0,if_pos (show (qa c i).f1 < ((12:Nat):Int) by omega)]
  simp [c3]
 rw [if_neg c3]
 simp [c1,c2,c3]
theorem Sak.out {c:List SQ} (h:CV (qs c)) {L:List Nat} (hL:Tab c.length L):∀ (d p:Nat),p+d=c.length->Ev (fun k=>aep k c ((adg L c).take p) (rows L) (p:Int)) (adg L c,true)
 | 0,p,hp=>by
  refine Ev.succ ?_
  simp only [aep]
  refine aa5 (aaX Ev.pure ?_)
  rw [List.take_of_length_le (by rw [abB];omega)]
 | d+1,p,hp=>by
  have h6:=abb h
  have hi:p < c.length:=by omega
  refine Ev.succ ?_
  have lt:((adg L c).take p).length < 3518437208883:=by rw [List.length_take,abB];omega
  have ih:=Sak.out h hL d (p+1) (by omega)
  have e:(adg L c).take p ++ [aeN c L p]=(adg L c).take (p+1):=by
   rw [<- adf L hi]
   exact abU _ (by rw [abB];exact hi)
  rw [<- e] at ih
  simp only [aep,ac1,aav (show p < 9223372036854775807 by omega)]
  refine aa2 (aa2 (Ev.bind (amb h hL hi) ?_))
  rw [aqD h hi]
  refine aaH ?_
  by_cases g:dd c L p=true
  ·rw [aeN,if_pos g] at ih
   exact aa2 (aa2 ih lt)
  rw [aeN,if_neg g] at ih
  exact aa5 (aa2 ih lt)
/-- The dead quads from p on. -/
def acO (c:List SQ) (L:List Nat):List Nat:=(List.range c.length).filter (dd c L)
def upto (c:List SQ) (L:List Nat) (p:Nat):List Nat:=(List.range p).filter (dd c L)
theorem ak1 (c:List SQ) (L:List Nat) (p:Nat):upto c L (p+1)=upto c L p ++ (if dd c L p=true then [p] else []):=by
 unfold upto
 rw [List.range_succ,List.filter_append]
 congr 1
 by_cases h:dd c L p=true <;> simp [h]
theorem aiL (c:List SQ) (L:List Nat) (p:Nat):(upto c L p).length<=p:=by
 have:=List.length_filter_le (dd c L) (List.range p)
 rwa [List.length_range] at this
theorem Sa5.out {c:List SQ} (h:CV (qs c)) {L:List Nat} (hL:Tab c.length L):∀ (d p:Nat),p+d=c.length->Ev (fun k=>adp k c (ints (upto c L p)) (ints L) c (c.length:Int) (p:Int)) (ints (acO c L))
 | 0,p,hp=>by
  refine Ev.succ ?_
  simp only [adp]
  refine aa5 (aaX Ev.pure ?_)
  rw [show p=c.length from by omega]
  rfl
 | d+1,p,hp=>by
  have h6:=abb h
  have hi:p < c.length:=by omega
  have hs:aiF (qa c p).f0 (qa c p).f1 (qa c p).f2 (qa c p).f3 (qa c p).f4=some (sets (q_ (qa c p))):=aq5 (q_ (qa c p))
  have ih:=Sa5.out h hL d (p+1) (by omega)
  rw [ak1] at ih
  have ha:=agG hL (q_ (qa c p)) p
  obtain⟨⟨d0,d1⟩,_⟩:=abz (abK h hi)
  simp only [q_] at d0 d1
  refine Ev.succ ?_
  simp only [adp,ac1,hs,aav (show p < 9223372036854775807 by omega)]
  refine aa2 (aa2 (aa2 (aaH ?_)))
  by_cases g:(qa c p).f0=1\/(qa c p).f0=2\/(qa c p).f0=3
  ·have es:sets (q_ (qa c p))=(qa c p).f1:=by
    unfold sets
    exact if_pos (by show (qa c p).f0=1\/(qa c p).f0=2\/(qa c p).f0=3\/(qa c p).f0=7;omega)
   have gd:dd c L p = !(aft (q_ (qa c p)) p L).testBit (qa c p).f1.toNat:=by
    unfold dd
    rcases g with g|g|g <;> simp [g]
   rw [es]
   refine aa2 (aa5 (Ev.bind (amo h hL hi) ?_))
   have hb:=aja (s:=aft (q_ (qa c p)) p L) (r:=(qa c p).f1.toNat) (by omega) (by omega)
   rw [Int.toNat_of_nonneg d0] at hb
   rw [hb]
   refine aaH ?_
   cases t:(aft (q_ (qa c p)) p L).testBit (qa c p).f1.toNat with
   | true =>
    refine aa2 ?_ rfl
    rw [gd,t] at ih
    simpa using ih
   | false =>
    refine aa5 (aa2 ?_ (by rw [ab6];have:=aiL c L p;omega)) (by simp)
    rw [gd,t] at ih
    have e:ints (upto c L p) ++ [(p:Int)]=ints (upto c L p ++ [p]):=by simp [ints]
    rw [e]
    simpa using ih
  have gd:dd c L p=false:=by
   unfold dd
   have g1:(qa c p).f0≠1:=by omega
   have g2:(qa c p).f0≠2:=by omega
   have g3:(qa c p).f0≠3:=by omega
   simp [g1,g2,g3]
  rw [gd] at ih
  simp only [Bool.false_eq_true,if_false,List.append_nil] at ih
  by_cases g7:(qa c p).f0=7
  ·have es:sets (q_ (qa c p))=(qa c p).f1:=by
    unfold sets
    exact if_pos (.inr (.inr (.inr g7)))
   rw [es]
   exact aa2 (aa2 ih)
  have es:sets (q_ (qa c p)) = -1:=by
   unfold sets
   exact if_neg (by show ¬ ((qa c p).f0=1\/(qa c p).f0=2\/(qa c p).f0=3\/(qa c p).f0=7);omega)
  rw [es]
  exact aa5 ih
theorem Sa1.out {c:List SQ} (h:CV (qs c)) {L:List Nat}:∀ (d p:Nat),p+d=(acO c L).length->∀ x:List SQ,x.length=c.length->(∀ i,i < c.length->qa x i=if i∈(acO c L).take p then ⟨4,0,0,0,((i+1:Nat):Int)⟩ else qa c i)->Ev (fun k=>afd k x (ints (acO c L)) ((acO c L).length:Int) (p:Int)) (adg L c,true)
 | 0,p,hp,x,hx,hq=>by
  refine Ev.succ ?_
  simp only [afd]
  refine aa5 (aaX Ev.pure ?_)
  have:x=adg L c:=by
   apply List.ext_getElem (by rw [hx,abB])
   intro i h1 h2
   have e:=hq i (by omega)
   have e2:=adf L (c:=c) (i:=i) (by omega)
   rw [List.take_of_length_le (by omega)] at e
   have e3:qa x i=qa (adg L c) i:=by
    rw [e,e2,aeN]
    unfold acO
    by_cases g:dd c L i=true
    ·rw [if_pos (by simp [g];omega),if_pos g]
    rw [if_neg (by simp [g]),if_neg g]
   unfold qa at e3
   rwa [List.getD_eq_getElem?_getD,List.getD_eq_getElem?_getD,List.getElem?_eq_getElem h1,List.getElem?_eq_getElem h2] at e3
  rw [this]
 | d+1,p,hp,x,hx,hq=>by
  have h6:=abb h
  have hm:(acO c L).getD p 0∈acO c L:=acM (by omega)
  have hlt:(acO c L).getD p 0 < c.length:=by
   unfold acO at hm ⊢
   exact List.mem_range.1 (List.mem_filter.1 hm).1
  have hdl:(acO c L).length<=c.length:=aiL c L c.length
  refine Ev.succ ?_
  simp only [afd,ab6,ad9,hx,Int.toNat_natCast,aav (show p < 9223372036854775807 by omega),aav (show (acO c L).getD p 0 < 9223372036854775807 by omega)]
  refine aa2 (aa2 (aa2 (aa2 (aa2 ?_))))
  refine Sa1.out h d (p+1) (by omega) _ (by rw [List.length_set];exact hx) fun i hi=>?_
  unfold qa
  rw [ac2 x _ i _ _ (by omega),<- abU 0 (show p < (acO c L).length by omega)]
  by_cases e:i=(acO c L).getD p 0
  ·rw [if_pos e,if_pos (by simp [e]),e]
  rw [if_neg e]
  have:=hq i hi
  unfold qa at this
  rw [this]
  by_cases g:i∈(acO c L).take p
  ·rw [if_pos g,if_pos (by simp [g])]
  rw [if_neg g,if_neg]
  rw [List.mem_append,List.mem_singleton]
  exact fun y=>y.elim g e
theorem ais {c:List SQ} (h:CV (qs c)) (L:List Nat):CV (qs (adg L c)):=by
 have h6:=abb h
 refine akM (by rw [abB];exact h6.1) (by rw [abB];exact h6.2) (fun i hi=>?_) ?_
 ·rw [abB] at hi ⊢
  rw [adf L hi,aeN]
  split
  ·rename_i g
   have lt:i+1 < c.length:=by
    have hl:=adS h
    have:i≠c.length - 1:=by
     intro e
     rw [<- e] at hl
     unfold dd at g
     rcases hl with hl|hl <;> simp [hl] at g
    omega
   exact .inr (.inr (.inr (.inl ⟨rfl,rfl,rfl,rfl,by show (0:Int)<=((i+1:Nat):Int);omega,by show ((i+1:Nat):Int) < (c.length:Int);omega⟩)))
  exact abK h hi
 rw [abB,adf L (by omega),aeN]
 split
 ·exact .inr rfl
 exact adS h
/-- Both answer one code,and it is valid. -/
theorem aoC {c:List SQ} (h:CV (qs c)):∃ v,v.length=c.length/\CV (qs v)/\Ev (fun k=>Sak.f k c) (v,true)/\Ev (fun k=>Sa1.f k c) (v,true):=by
 have h6:=abb h
 obtain⟨L,hL,e1,e2⟩:=aih h
 refine⟨adg L c,abB L c,ais h L,?_,?_⟩
 ·simp only [Sak.f]
  exact aaH (Ev.bind (ach c) (aa2 (Ev.bind e1 (Sak.out h hL.1 c.length 0 (Nat.zero_add _))) (decide_eq_true h)))
 simp only [Sa1.f,amq]
 refine Ev.bind (ajo c) (aa2 (Ev.bind (ab8 (if_pos (by omega))) (Ev.bind (F:=fun k=>Sa5.f k c) (a:=ints (acO c L)) ?_ ?_)) (decide_eq_true h))
 ·simp only [Sa5.f]
  exact Ev.bind e2 (Sa5.out h hL.1 c.length 0 (Nat.zero_add _))
 rw [ab6]
 exact Sa1.out h (acO c L).length 0 (Nat.zero_add _) c rfl fun i hi=>by simp
end Go.Proofs.YtebpplallecogaaGreat.M
namespace Go.Proofs.YtebpplallecogaaGreat.M
open Go.Proofs.Tryz Go.RowKit Go.Proofs.YtebpplallecogaaGreatW.PrintWords Go.Proofs.YtebpplallecogaaGreatW.PrintLast Go.Proofs.YtebpplallecogaaGreatW.PrintMore
attribute [local go_sem] aal aaj aaz aay aae aad aak aai
end Go.Proofs.YtebpplallecogaaGreat.M
namespace Go.Proofs.YtebpplallecogaaGreat.M
open Go.Proofs.Tryz Go.RowKit Go.Proofs.YtebpplallecogaaGreatW.PrintWords Go.Proofs.YtebpplallecogaaGreatW.PrintLast Go.Proofs.YtebpplallecogaaGreatW.PrintMore PM
abbrev SE:=S90
/-- With fuel enough,F answers what P says. -/
def An {α:Type} (F:Nat->Option α) (P:α->Prop):Prop:=∃ v,Ev F v/\P v
theorem amu {α:Type} {F:Nat->Option α} {P:α->Prop} {v:α} (e:Ev F v) (p:P v):An F P:=⟨v,e,p⟩
theorem aag {α:Type} {P:α->Prop} {v:α} (p:P v):An (fun _=>Option.some v) P:=⟨v,Ev.pure,p⟩
theorem An.bind {α β:Type} {F:Nat->Option α} {G:Nat->α->Option β} {P:α->Prop} {Q:β->Prop} (h:An F P) (g:∀ a,P a->An (fun k=>G k a) Q):An (fun k=>(F k).bind (G k)) Q:=by
 obtain⟨a,e,p⟩:=h
 obtain⟨b,e',q⟩:=g a p
 exact⟨b,Ev.bind e e',q⟩
theorem abd {α β:Type} {a:α} {G:Nat->α->Option β} {Q:β->Prop} (g:An (fun k=>G k a) Q):An (fun k=>(Option.some a).bind (G k)) Q:=g
theorem aaM {α:Type} {F:Nat->Option α} {P:α->Prop} (h:An (fun k=>F (k+1)) P):An F P:=by
 obtain⟨v,e,p⟩:=h
 exact⟨v,Ev.succ e,p⟩
theorem aaF {α:Type} {c:Prop} [Decidable c] {A B:Nat->Option α} {P:α->Prop} (g:An A P) (h:c:=by first|assumption|omega|(simp;done)|(simp;omega)):An (fun k=>if c then A k else B k) P:=by
 simp only [if_pos h]
 exact g
theorem ab1 {α:Type} {c:Prop} [Decidable c] {A B:Nat->Option α} {P:α->Prop} (g:An B P) (h:¬ c:=by first|assumption|omega|(simp;done)|(simp;omega)):An (fun k=>if c then A k else B k) P:=by
 simp only [if_neg h]
 exact g
theorem aaK {α:Type} {c:Prop} [Decidable c] {A B:Nat->Option α} {P:α->Prop} (g:c->An A P) (g':¬ c->An B P):An (fun k=>if c then A k else B k) P:=by
 by_cases h:c
 ·exact aaF (g h) h
 exact ab1 (g' h) h
theorem An.mono {α:Type} {F:Nat->Option α} {P Q:α->Prop} (h:An F P) (g:∀ v,P v->Q v):An F Q:=by
 obtain⟨v,e,p⟩:=h
 exact⟨v,e,g v p⟩
def Bt (b:List Int):Prop:=b.length<=2000/\∀ x∈b,0<=x/\x < 256
theorem Bt.at_ {b:List Int} (h:Bt b) {i:Int} (h0:0<=i) (h1:i < b.length):0<=rd b i/\rd b i < 256:=by
 unfold rd
 have hi:i.toNat < b.length:=by omega
 have e:b.getD i.toNat 0=b[i.toNat]:=by simp [hi]
 rw [e]
 exact h.2 _ (List.getElem_mem _)
theorem ajq {x n:Int} (hx:0<=x) (hn:1<=n):0<=x.tmod n/\x.tmod n < n:=by
 rw [Int.tmod_eq_emod_of_nonneg hx]
 exact⟨Int.emod_nonneg _ (by omega),Int.emod_lt_of_pos _ (by omega)⟩
theorem ao3 (x y:Int) (h0:0<=x) (h1:x < 2 ^ 62) (h2:0<=y) (h3:y < 2 ^ 62):0<=Go.bits .xor .i64 x y:=by
 obtain⟨a,rfl⟩:=Int.eq_ofNat_of_zero_le h0
 obtain⟨b,rfl⟩:=Int.eq_ofNat_of_zero_le h2
 have ha:a < 2 ^ 62:=by exact_mod_cast h1
 have hb:b < 2 ^ 62:=by exact_mod_cast h3
 have hp:(2:Nat) ^ 62<=2 ^ IntKind.i64.bits:=by decide
 have ha':a % 2 ^ IntKind.i64.bits=a:=Nat.mod_eq_of_lt (Nat.lt_of_lt_of_le ha hp)
 have hb':b % 2 ^ IntKind.i64.bits=b:=Nat.mod_eq_of_lt (Nat.lt_of_lt_of_le hb hp)
 have hx:a ^^^ b < 2 ^ 62:=Nat.xor_lt_two_pow ha hb
 simp only [Go.bits,BitVec.ofInt_natCast,BitVec.toNat_xor,BitVec.toNat_ofNat,ha',hb']
 rw [IntKind.wrap_i64]
 omega
theorem aop (y z q d:Int) (hy:0<=y) (hy1:y < 256) (hz:0<=z) (hz1:z < 256) (hq:0<=q) (hq1:q<=1000000) (hd:0<=d) (hd1:d<=q) :
  0<=Go.bits .xor .i64 (wrap64 ((wrap64 ((wrap64 ((wrap64 ((wrap64 y)*131))+(wrap64 ((wrap64 z)*1117))))+(wrap64 (q*29))))+(wrap64 ((wrap64 d)*53)))) (wrap64 (Int.tdiv (wrap64 ((wrap64 ((wrap64 ((wrap64 ((wrap64 y)*131))+(wrap64 ((wrap64 z)*1117))))+(wrap64 (q*29))))+(wrap64 ((wrap64 d)*53)))) 64)):=by
 have e:wrap64 ((wrap64 ((wrap64 ((wrap64 ((wrap64 y)*131))+(wrap64 ((wrap64 z)*1117))))+(wrap64 (q*29))))+(wrap64 ((wrap64 d)*53)))=y*131+z*1117+q*29+d*53:=by unfold wrap64;omega
 rw [e]
 have h0:0<=y*131+z*1117+q*29+d*53:=by omega
 have h1:y*131+z*1117+q*29+d*53 < 1000000000000:=by omega
 generalize y*131+z*1117+q*29+d*53=X at h0 h1
 have h2:wrap64 (X.tdiv 64)=X / 64:=by rw [Int.tdiv_eq_ediv_of_nonneg h0];unfold wrap64;omega
 rw [h2]
 exact ao3 X (X / 64) h0 (by omega) (by omega) (by omega)
theorem aol {b:List Int} (hb:Bt b) {p n:Int} (h:0<=p/\p+1<=1000000):An (fun k=>aaZ k b p n) (fun v=>0<=v.1/\(1<=n->v.1 < n)/\v.2=p+1):=by
 obtain⟨h0,h1⟩:=h
 have e1:wrap64 (p+1)=p+1:=aaS (by omega) (by omega)
 have e2:wrap64 (p+1 - 1)=p:=by rw [aaS (by omega) (by omega)];omega
 have t:An (fun k=>aeX k n true b (p+1)) (fun v=>0<=v.1/\(1<=n->v.1 < n)/\v.2=p+1)\/1<=n:=by
  by_cases c:1<=n
  ·exact Or.inr c
  refine Or.inl (aaM ?_)
  simp only [aeX]
  exact aaF (aag ⟨by simp,fun h=>absurd h c,rfl⟩)
 simp only [aaZ,e1]
 refine aaK (fun c=>t.resolve_right (by omega)) (fun c=>?_)
 refine aaM ?_
 simp only [aeX,e2]
 refine aaK (fun c'=>aag ⟨by simp,fun h=>by simp only;omega,rfl⟩) (fun c'=>?_)
 have hl:1<=(b.length:Int):=by
  have:(b.length:Int)≠0:=by simpa using c'
  omega
 have hl2:=hb.1
 refine aaK (fun d=>?_) (fun d=>?_)
 ·refine aaF (ab1 (aag ?_))
  obtain⟨r0,r1⟩:=hb.at_ h0 d
  rw [aaS (by omega) (by omega)]
  exact⟨(ajq r0 (by omega)).1,fun h=>(ajq r0 h).2,rfl⟩
 obtain⟨i0,i1⟩:=ajq (x:=p) h0 hl
 have e3:wrap64 (wrap64 (p*7)+3)=p*7+3:=by unfold wrap64;omega
 obtain⟨j0,j1⟩:=ajq (x:=p*7+3) (by omega) hl
 obtain⟨y0,y1⟩:=hb.at_ i0 i1
 obtain⟨z0,z1⟩:=hb.at_ j0 j1
 simp only [e3]
 refine ab1 (aaF (aaF (aaF (aaF (ab1 (aag ?_))))))
 have d0:0<=p.tdiv b.length:=Int.tdiv_nonneg h0 (by omega)
 have d1:p.tdiv b.length<=p:=by rw [Int.tdiv_eq_ediv_of_nonneg h0];exact Int.ediv_le_self _ h0
 have m:=aop _ _ p _ y0 y1 z0 z1 h0 (by omega) d0 d1
 exact⟨(ajq m (by omega)).1,fun h=>(ajq m h).2,rfl⟩
theorem aau {b:List Int} (hb:Bt b) {p:Int} (n:Int) (h:0<=p/\p+1<=1000000) (hn:1<=n:=by omega):An (fun k=>aaZ k b p n) (fun v=>0<=v.1/\v.1 < n/\v.2=p+1) :=
 (aol hb h).mono fun v h=>⟨h.1,h.2.1 hn,h.2.2⟩
theorem abA {b:List Int} (hb:Bt b) {p:Int} (h:0<=p/\p+1<=1000000):An (fun k=>ael k b p) (fun v=>v.2=p+1):=by
 simp only [ael]
 exact An.bind (aau hb 6 h) fun v h=>aag h.2.2
theorem aj5 {b:List Int} (hb:Bt b) {p:Int} (h:0<=p/\p+1<=1000000):An (fun k=>ajJ k b p) (fun v=>1<=v.1/\v.1<=12/\v.2=p+1):=by
 simp only [ajJ]
 refine An.bind (aau hb 12 h) fun v h=>aag ?_
 rw [aaS (by omega) (by omega)]
 simp only
 omega
theorem ajT (n:Int):∃ v,aeQ n=some v:=by
 unfold aeQ
 split
 ·exact⟨_,rfl⟩
 split <;> exact⟨_,rfl⟩
theorem ajA {b:List Int} (hb:Bt b) {p:Int} (h:0<=p/\p+5<=1000000):An (fun k=>al3 k b p) (fun v=>p<=v.2/\v.2<=p+5):=by
 simp only [al3]
 refine An.bind (aau hb 6 (by omega)) fun v h1=>?_
 refine aaK (fun c=>abd (An.bind (aau hb 8 (by omega)) fun u h2=>aaF (aaF (aag (by simp only;omega)) (by simp only [List.length_cons,List.length_nil];omega)))) (fun c=>aaK (fun c=>?_) (fun c=>aaK (fun c=>An.bind (aau hb 200 (by omega)) fun u h2=>aag (by simp only;omega)) (fun c=>An.bind (aau hb 20 (by omega)) fun u h2=>aag (by simp only;omega))))
 refine An.bind (aau hb 256 (by omega)) fun v1 h1=>An.bind (aau hb 256 (by omega)) fun v2 h2=>An.bind (aau hb 256 (by omega)) fun v3 h3=>An.bind (aau hb 200 (by omega)) fun v4 h4=>?_
 obtain⟨x,hx⟩:=ajT (wrap64 ((wrap64 ((wrap64 ((wrap64 (v1.1*65536))+(wrap64 (v2.1*256))))+v3.1))*(wrap64 (1+v4.1))))
 simp only [hx]
 exact abd (aag (by simp only;omega))
def okE:Nat->SE->Prop
 | 0,_=>False
 | d+1,e=>(e.f0=0/\0<=e.f1/\e.f1<=99999/\e.f2=[])\/(e.f0=13/\0<=e.f1/\e.f1<=3/\e.f2=[])\/(1<=e.f0/\e.f0<=12/\e.f1=0/\∃ a b,e.f2=[a,b]/\okE d a/\okE d b)
theorem akl:∀ {d:Nat} {e:SE},okE d e->okE (d+1) e
 | 0,_,h=>h.elim
 | d+1,e,h=>by
  rcases h with h|h | ⟨h1,h2,h3,a,b,h4,h5,h6⟩
  ·exact Or.inl h
  ·exact Or.inr (Or.inl h)
  exact Or.inr (Or.inr ⟨h1,h2,h3,a,b,h4,akl h5,akl h6⟩)
theorem ahA {d d':Nat} {e:SE} (h:okE d e) (hd:d<=d'):okE d' e:=by
 induction hd with
 | refl=>exact h
 | step _ ih=>exact akl ih
theorem agz {b:List Int} (hb:Bt b) {p:Int} (h:0<=p/\p+2<=1000000):An (fun k=>al5 k b p) (fun v=>okE 1 ⟨v.1,v.2.1,v.2.2.1⟩/\p<=v.2.2.2/\v.2.2.2<=p+2):=by
 simp only [al5,afj]
 refine An.bind (aau hb 4 (by omega)) fun v h1=>?_
 refine aaK (fun c=>An.bind (aau hb 4 (by omega)) fun u h2=>abd (aag ⟨Or.inl ⟨rfl,h2.1,by simp only;omega,rfl⟩,by simp only;omega⟩)) (fun c=>aaK (fun c=>?_) (fun c=>An.bind (aau hb 4 (by omega)) fun u h2=>abd (aag ⟨Or.inr (Or.inl ⟨rfl,h2.1,by simp only;omega,rfl⟩),by simp only;omega⟩)))
 refine abd (An.bind (aau hb 8 (by omega)) fun u h2=>aaF (aaF (abd (aag ⟨Or.inl ⟨rfl,?_⟩,by simp only;omega⟩)) (by simp only [List.length_cons,List.length_nil];omega)))
 obtain⟨u1,u2⟩:=u
 obtain⟨m,rfl⟩:=Int.eq_ofNat_of_zero_le h2.1
 have hm:m < 8:=by have:=h2.2.1;simp only at this;omega
 simp only [aiR]
 match m,hm with
 | 0,_=>simp
 | 1,_=>simp
 | 2,_=>simp
 | 3,_=>simp
 | 4,_=>simp
 | 5,_=>simp
 | 6,_=>simp
 | 7,_=>simp
def cE:Nat->Int
 | 0=>2
 | d+1=>2+2*cE d
theorem anx:∀ d,2<=cE d
 | 0=>by simp [cE]
 | d+1=>by have:=anx d;simp only [cE];omega
theorem aeK {b:List Int} (hb:Bt b):∀ (d:Nat) (p:Int),d<=100->0<=p/\p+cE d<=1000000->An (fun k=>adi k b p ((d+1:Nat):Int)) (fun v=>okE (d+1) ⟨v.1,v.2.1,v.2.2.1⟩/\p<=v.2.2.2/\v.2.2.2<=p+cE d)
 | 0,p,_,h=>by
  refine aaM ?_
  simp only [adi]
  refine aaF (aaM ?_)
  simp only [afT]
  exact aaF (An.bind (agz hb h) fun v h=>aag h)
 | d+1,p,hd,h=>by
  have c2:=anx d
  simp only [cE] at h ⊢
  refine aaM ?_
  simp only [adi]
  refine ab1 (An.bind (aau hb 3 (by omega)) fun v h1=>aaM ?_)
  simp only [afT]
  refine aaK (fun c=>An.bind (agz hb (by omega)) fun u h2=>aag ⟨ahA h2.1 (by omega),by simp only;omega⟩) (fun c=>?_)
  have e:wrap64 (((d+1+1:Nat):Int) - 1)=((d+1:Nat):Int):=by rw [aaS (by omega) (by omega)];omega
  refine An.bind (aj5 hb (by omega)) fun o h3=>?_
  simp only [e]
  refine An.bind (aeK hb d o.2 (by omega) (by omega)) fun x h4=>?_
  refine An.bind (aeK hb d x.2.2.2 (by omega) (by omega)) fun y h5=>?_
  simp only [ahR]
  exact abd (aag ⟨Or.inr (Or.inr ⟨h3.1,h3.2.1,rfl,_,_,rfl,h4.1,h5.1⟩),by simp only;omega⟩)
/-- One more than what was picked is a depth. -/
theorem ads {b:List Int} (hb:Bt b) {p x:Int} (hx:0<=x/\x < 3) (h:0<=p/\p+14<=1000000):An (fun k=>adi k b p (wrap64 (1+x))) (fun v=>okE 3 ⟨v.1,v.2.1,v.2.2.1⟩/\p<=v.2.2.2/\v.2.2.2<=p+14):=by
 obtain⟨m,rfl⟩:=Int.eq_ofNat_of_zero_le hx.1
 rw [aaS (by omega) (by omega),show (1:Int)+(m:Int)=((m+1:Nat):Int) by omega]
 have hc:cE m<=14:=by
  match m,hx with
  | 0,_=>decide
  | 1,_=>decide
  | 2,_=>decide
  | m+3,h=>omega
 exact (aeK hb m p (by omega) (by omega)).mono fun v h=>⟨ahA h.1 (by omega),by omega⟩
abbrev ST:=S92
def anm (x:ST):Prop:=x.f4=[]/\x.f5=[]/\((x.f0=1/\0<=x.f1/\x.f1<=3/\x.f2=0/\okE 3 x.f3)\/(x.f0=4/\x.f1=0/\0<=x.f2/\x.f2<=2/\okE 3 x.f3)\/(x.f0=5/\0<=x.f1/\x.f1<=3/\0<=x.f2/\x.f2<=2/\x.f3=⟨0,0,[]⟩)\/(x.f0=6/\x.f1=0/\x.f2=0/\x.f3=⟨0,0,[]⟩)\/(x.f0=7/\x.f1=0/\x.f2=0/\okE 3 x.f3))
def okS:Nat->ST->Prop
 | 0,x=>anm x
 | n+1,x=>anm x\/((x.f0=2\/x.f0=3/\x.f5=[])/\x.f1=0/\x.f2=0/\okE 3 x.f3/\x.f4.length<=5/\x.f5.length<=5/\(∀ y∈x.f4,okS n y)/\(∀ y∈x.f5,okS n y))
theorem adb {n:Nat} {x:ST} (h:anm x):okS n x:=by
 cases n with
 | zero=>exact h
 | succ n=>exact Or.inl h
/-- What a draw of a statement answers,as a statement;the reader behind it. -/
def tS (v:Int × Int × Int × Int × Int × List SE × List ST × List ST × Int):ST:=⟨v.1,v.2.1,v.2.2.1,⟨v.2.2.2.1,v.2.2.2.2.1,v.2.2.2.2.2.1⟩,v.2.2.2.2.2.2.1,v.2.2.2.2.2.2.2.1⟩
theorem afE {b:List Int} (hb:Bt b) {p:Int} (h:0<=p/\p+16<=1000000):An (fun k=>ajG k b p) (fun v=>anm (tS v)/\p<=v.2.2.2.2.2.2.2.2/\v.2.2.2.2.2.2.2.2<=p+16):=by
 simp only [ajG]
 refine An.bind (aau hb 3 (by omega)) fun v h1=>An.bind (aau hb 3 (by omega)) fun u h2=>An.bind (ads hb (by omega) (by omega)) fun e h3=>aag ?_
 exact⟨⟨rfl,rfl,Or.inl ⟨rfl,h1.1,by simp only [tS];omega,rfl,h3.1⟩⟩,by simp only;omega⟩
theorem agy {b:List Int} (hb:Bt b) {p x:Int} (hx:x<=3) (h:0<=p/\p+18<=1000000):An (fun k=>alv k b p x) (fun v=>anm (tS v)/\p<=v.2.2.2.2.2.2.2.2/\v.2.2.2.2.2.2.2.2<=p+18):=by
 simp only [alv]
 refine aaK (fun c=>An.bind (afE hb (by omega)) fun v h1=>aag ⟨h1.1,by simp only;omega⟩) (fun c=>?_)
 refine An.bind (aau hb x (by omega)) fun v h1=>An.bind (aau hb 2 (by omega)) fun u h2=>aaK (fun c=>?_) (fun c=>?_)
 ·refine An.bind (aau hb 3 (by omega)) fun y h3=>An.bind (ads hb (by omega) (by omega)) fun e h4=>aag ?_
  exact⟨⟨rfl,rfl,Or.inr (Or.inl ⟨rfl,rfl,h1.1,by simp only [tS];omega,h4.1⟩)⟩,by simp only;omega⟩
 refine An.bind (aau hb 3 (by omega)) fun y h3=>aag ?_
 exact⟨⟨rfl,rfl,Or.inr (Or.inr (Or.inl ⟨rfl,h3.1,by simp only [tS];omega,h1.1,by simp only [tS];omega,rfl⟩))⟩,by simp only;omega⟩
def cS:Nat->Int
 | 0=>19
 | n+1=>18+4*cS n
theorem agE:∀ n,19<=cS n
 | 0=>by simp [cS]
 | n+1=>by have:=agE n;simp only [cS];omega
/-- What is drawn for one statement of a nest n. -/
def agI (b:List Int) (n:Nat):Prop:=∀ (x:Int),x<=3->∀ (l:Bool) (p:Int),0<=p/\p+cS n<=1000000->An (fun k=>ajF k b p x (n:Int) l) (fun v=>v.1.length<=2/\(∀ y∈v.1,okS n y)/\p<=v.2/\v.2<=p+cS n)
theorem ahK {b:List Int} {n:Nat} (hs:agI b n) {x:Int} (hx:x<=3) (l:Bool) {m:Nat} (hm:m<=10):∀ (d i:Nat),i+d=m->∀ (o:List ST) (p:Int),o.length<=2*i->(∀ y∈o,okS n y)->0<=p/\p+(d:Int)*cS n<=1000000->An (fun k=>aed k x (n:Int) (m:Int) l o (i:Int) b p) (fun v=>v.1.length<=2*m/\(∀ y∈v.1,okS n y)/\p<=v.2/\v.2<=p+(d:Int)*cS n)
 | 0,i,hi,o,p,ho,hy,h=>by
  refine aaM ?_
  simp only [aed]
  exact ab1 (aag ⟨by simp only;omega,hy,by simp only;omega⟩)
 | d+1,i,hi,o,p,ho,hy,h=>by
  have c2:=agE n
  have e:((d+1:Nat):Int)*cS n=(d:Int)*cS n+cS n:=by rw [show ((d+1:Nat):Int)=(d:Int)+1 from rfl,Int.add_mul,Int.one_mul]
  have e0:0<=(d:Int)*cS n:=Int.mul_nonneg (by omega) (by omega)
  rw [e] at h ⊢
  refine aaM ?_
  simp only [aed,aav (show i < 9223372036854775807 by omega)]
  refine aaF (An.bind (hs x hx l p (by omega)) fun v h1=>?_)
  refine aaF ?_
  refine (ahK hs hx l hm d (i+1) (by omega) (o ++ v.1) v.2 (by simp;omega) (by
   intro y hy'
   rcases List.mem_append.1 hy' with q|q
   ·exact hy y q
   exact h1.2.1 y q) (by omega)).mono fun u h2=>⟨h2.1,h2.2.1,by omega⟩
theorem aje {b:List Int} {n:Nat} (hs:agI b n) {x:Int} (hx:x<=3) (l:Bool) {m:Int} (hm:0<=m/\m<=10) (p:Int) (h:0<=p/\p+m*cS n<=1000000):An (fun k=>afi k b p x (n:Int) m l) (fun v=>(v.1.length:Int)<=2*m/\(∀ y∈v.1,okS n y)/\p<=v.2/\v.2<=p+m*cS n):=by
 obtain⟨m,rfl⟩:=Int.eq_ofNat_of_zero_le hm.1
 refine aaM ?_
 simp only [afi]
 exact (ahK hs hx l (by omega) m 0 (Nat.zero_add _) [] p (by simp) (by simp) h).mono fun u h2=>⟨by omega,h2.2⟩
/-- A block of at most two. -/
theorem afR {b:List Int} {n:Nat} (hs:agI b n) {x:Int} (hx:x<=3) (l:Bool) {m:Int} (hm:0<=m/\m < 3) (p:Int) (h:0<=p/\p+2*cS n<=1000000):An (fun k=>afi k b p x (n:Int) m l) (fun v=>v.1.length<=4/\(∀ y∈v.1,okS n y)/\p<=v.2/\v.2<=p+2*cS n):=by
 have e:m*cS n<=2*cS n:=Int.mul_le_mul_of_nonneg_right (by omega) (by have:=agE n;omega)
 exact (aje hs hx l (by omega) p (by omega)).mono fun u h2=>⟨by omega,h2.2.1,by omega⟩
theorem aqx {b:List Int} (hb:Bt b) {n:Nat} (hn:n<=1000) (hs:agI b n) {x:Int} (hx:x<=3) (l:Bool) (p:Int) (h:0<=p/\p+17+4*cS n<=1000000):An (fun k=>ajI k b p x ((n+1:Nat):Int) l) (fun v=>okS (n+1) (tS v)/\p<=v.2.2.2.2.2.2.2.2/\v.2.2.2.2.2.2.2.2<=p+17+4*cS n):=by
 have c2:=agE n
 have e:wrap64 (((n+1:Nat):Int) - 1)=(n:Int):=by rw [aaS (by omega) (by omega)];omega
 refine aaM ?_
 simp only [ajI,e]
 refine An.bind (aau hb 2 (by omega)) fun v h1=>An.bind (ads hb (by omega) (by omega)) fun q h2=>An.bind (aau hb 3 (by omega)) fun u h3=>An.bind (afR hs hx l (by omega) _ (by omega)) fun c h4=>An.bind (aau hb 3 (by omega)) fun u' h5=>An.bind (afR hs hx l (by omega) _ (by omega)) fun c' h6=>aag ?_
 exact⟨Or.inr ⟨Or.inl rfl,rfl,rfl,h2.1,Nat.le_trans h4.1 (by omega),Nat.le_trans h6.1 (by omega),h4.2.1,h6.2.1⟩,by simp only;omega⟩
theorem aig {x:Int} (h:0<=x/\x<=99999):okE 1 ⟨0,x,[]⟩:=Or.inl ⟨rfl,h.1,h.2,rfl⟩
theorem akk:okE 1 ⟨13,3,[]⟩:=Or.inr (Or.inl ⟨rfl,by decide,by decide,rfl⟩)
theorem aor {b:List Int} (hb:Bt b) {n:Nat} (hn:n<=1000) (hs:agI b n) {x:Int} (hx:x<=3) (p:Int) (h:0<=p/\p+17+4*cS n<=1000000):An (fun k=>ajH k b p x ((n+1:Nat):Int)) (fun v=>v.1.length<=2/\(∀ y∈v.1,okS (n+1) y)/\p<=v.2/\v.2<=p+17+4*cS n):=by
 have c2:=agE n
 have e:wrap64 (((n+1:Nat):Int) - 1)=(n:Int):=by rw [aaS (by omega) (by omega)];omega
 refine aaM ?_
 simp only [ajH,afj,ahR,e]
 refine An.bind (aau hb 3 (by omega)) fun v h1=>An.bind (afR hs hx false (by omega) _ (by omega)) fun c h2=>?_
 refine abd (abd (abd (abd (An.bind (aau hb 3 (by omega)) fun u h3=>abd (abd (abd ?_))))))
 refine aaF (abd (aag ⟨by simp,?_,by simp only;omega⟩)) (by simp only [List.length_cons,List.length_nil];omega)
 have hw:wrap64 (1+u.1)=1+u.1:=aaS (by omega) (by omega)
 intro y hy
 rcases List.mem_cons.1 hy with rfl|hy
 ·exact Or.inl ⟨rfl,rfl,Or.inl ⟨rfl,by simp,by simp,rfl,ahA (aig (x:=0) (by decide)) (by omega)⟩⟩
 rcases List.mem_cons.1 hy with rfl|hy
 ·refine Or.inr ⟨Or.inr ⟨rfl,rfl⟩,rfl,rfl,?_,?_,by simp,?_,by simp⟩
  ·exact ahA (d:=2) (Or.inr (Or.inr ⟨by simp only;omega,by simp only;omega,rfl,_,_,rfl,akk,by rw [hw];exact aig (x:=1+u.1) (by omega)⟩)) (by omega)
  ·simp only [List.length_append,List.length_cons,List.length_nil]
   omega
  intro z hz
  rcases List.mem_append.1 hz with q|q
  ·exact h2.2.1 z q
  obtain rfl:=List.mem_singleton.1 q
  exact adb ⟨rfl,rfl,Or.inl ⟨rfl,by simp,by simp,rfl,ahA (d:=2) (Or.inr (Or.inr ⟨by simp only;omega,by simp only;omega,rfl,_,_,rfl,akk,aig (x:=1) (by decide)⟩)) (by omega)⟩⟩
 cases hy
theorem ada {n:Nat} {x:ST} (h:okS n x):∀ y∈[x],okS n y:=fun y hy=>by rw [List.mem_singleton.1 hy];exact h
theorem ae1 {b:List Int} (hb:Bt b) {n:Nat} {p:Int} (h:0<=p/\p+15<=1000000):An (fun k=>(aaZ k b p 3).bind fun t=>(adi k b t.2 (wrap64 (1+t.1))).bind fun e=>some ([(⟨7,0,0,⟨e.1,e.2.1,e.2.2.1⟩,[],[]⟩:ST)],e.2.2.2)) (fun v=>v.1.length<=2/\(∀ y∈v.1,okS n y)/\p<=v.2/\v.2<=p+15):=by
 refine An.bind (aau hb 3 (by omega)) fun v h1=>An.bind (ads hb (by omega) (by omega)) fun e h2=>aag ?_
 exact⟨by simp,ada (adb ⟨rfl,rfl,Or.inr (Or.inr (Or.inr (Or.inr ⟨rfl,rfl,rfl,h2.1⟩)))⟩),by simp only;omega⟩
theorem aoa {b:List Int} (hb:Bt b):∀ n,n<=1000->agI b n:=by
 intro n hn
 induction n with
 | zero=>?_
 | succ n ih=>?_
 all_goals
  intro x hx l p h
  refine aaM ?_
  simp only [ajF]
  simp only [cS] at h ⊢
 ·refine An.bind (aau hb 10 (by omega)) fun v h1=>?_
  have j2:∀ c,An (fun k=>adG k x v.1 c b v.2) (fun u=>u.1.length<=2/\(∀ y∈u.1,okS 0 y)/\p<=u.2/\u.2<=p+19):=by
   intro c
   refine aaM ?_
   simp only [adG]
   refine aaK (fun c=>An.bind (agy hb hx (by omega)) fun t h2=>aag ⟨by simp,ada (adb h2.1),by simp only;omega⟩) (fun c=>aaK (fun c=>aag ⟨by simp,ada (adb ⟨rfl,rfl,Or.inr (Or.inr (Or.inr (Or.inl ⟨rfl,rfl,rfl,rfl⟩)))⟩),by simp only;omega⟩) (fun c=>?_))
   exact (ae1 hb (n:=0) (by omega)).mono fun u h=>⟨h.1,h.2.1,by omega⟩
  have j1:An (fun k=>aec k x ((0:Nat):Int) false b v.2) (fun u=>u.1.length<=2/\(∀ y∈u.1,okS 0 y)/\p<=u.2/\u.2<=p+19):=by
   refine aaM ?_
   simp only [aec]
   exact ab1 ((ae1 hb (n:=0) (by omega)).mono fun u h=>⟨h.1,h.2.1,by omega⟩)
  have j0:∀ c,An (fun k=>adh k x ((0:Nat):Int) l v.1 c b v.2) (fun u=>u.1.length<=2/\(∀ y∈u.1,okS 0 y)/\p<=u.2/\u.2<=p+19):=by
   intro c
   refine aaM ?_
   simp only [adh]
   refine aaK (fun c=>An.bind (afE hb (by omega)) fun t h2=>aag ⟨by simp,ada (adb h2.1),by simp only;omega⟩) (fun c=>aaK (fun c=>ab1 ((ae1 hb (n:=0) (by omega)).mono fun u h=>⟨h.1,h.2.1,by omega⟩)) (fun c=>aaK (fun c=>ab1 j1) (fun c=>aaK (fun c=>j2 _) (fun c=>aaK (fun c=>j2 _) (fun c=>j2 _)))))
  exact aaK (fun c=>j0 _) (fun c=>j0 _)
 have ih:=ih (by omega)
 have c2:=agE n
 refine An.bind (aau hb 10 (by omega)) fun v h1=>?_
 have j2:∀ c,An (fun k=>adG k x v.1 c b v.2) (fun u=>u.1.length<=2/\(∀ y∈u.1,okS (n+1) y)/\p<=u.2/\u.2<=p+(18+4*cS n)):=by
  intro c
  refine aaM ?_
  simp only [adG]
  refine aaK (fun c=>An.bind (agy hb hx (by omega)) fun t h2=>aag ⟨by simp,ada (adb h2.1),by simp only;omega⟩) (fun c=>aaK (fun c=>aag ⟨by simp,ada (adb ⟨rfl,rfl,Or.inr (Or.inr (Or.inr (Or.inl ⟨rfl,rfl,rfl,rfl⟩)))⟩),by simp only;omega⟩) (fun c=>?_))
  exact (ae1 hb (n:=n+1) (by omega)).mono fun u h=>⟨h.1,h.2.1,by omega⟩
 have j1:∀ c,An (fun k=>aec k x ((n+1:Nat):Int) c b v.2) (fun u=>u.1.length<=2/\(∀ y∈u.1,okS (n+1) y)/\p<=u.2/\u.2<=p+(18+4*cS n)):=by
  intro c
  refine aaM ?_
  simp only [aec]
  refine aaK (fun c=>An.bind (aor hb (by omega) ih hx _ (by omega)) fun u h=>aag ⟨h.1,h.2.1,by simp only;omega⟩) (fun c=>?_)
  exact (ae1 hb (n:=n+1) (by omega)).mono fun u h=>⟨h.1,h.2.1,by omega⟩
 have j0:∀ c,An (fun k=>adh k x ((n+1:Nat):Int) l v.1 c b v.2) (fun u=>u.1.length<=2/\(∀ y∈u.1,okS (n+1) y)/\p<=u.2/\u.2<=p+(18+4*cS n)):=by
  intro c
  refine aaM ?_
  simp only [adh]
  refine aaK (fun c=>An.bind (afE hb (by omega)) fun t h2=>aag ⟨by simp,ada (adb h2.1),by simp only;omega⟩) (fun c=>aaK (fun c=>aaF (An.bind (aqx hb (by omega) ih hx l _ (by omega)) fun t h2=>aag ⟨by simp,ada h2.1,by simp only;omega⟩)) (fun c=>aaK (fun c=>aaF (j1 _)) (fun c=>aaK (fun c=>j2 _) (fun c=>aaK (fun c=>j2 _) (fun c=>j2 _)))))
 exact aaK (fun c=>j0 _) (fun c=>j0 _)
set_option maxRecDepth 100000
theorem aog (l:List ST) (i:Nat):aao l (i:Int)=l.getD i z92:=by simp [aao]
theorem ak6 {l:List ST} {i:Nat} (h:i < l.length):l.getD i z92∈l:=by
 rw [show l.getD i z92=l[i] by simp [h]]
 exact List.getElem_mem _
def cW:Nat->Int
 | 0=>1
 | n+1=>1+10*cW n
theorem anw:∀ n,1<=cW n
 | 0=>by simp [cW]
 | n+1=>by have:=anw n;simp only [cW];omega
theorem aqB {n:Nat} (h:n<=3):cW n<=1111:=by
 match n,h with
 | 0,_=>decide
 | 1,_=>decide
 | 2,_=>decide
 | 3,_=>decide
theorem ahJ {l:List ST} (hl:l.length<=12) {B:Int} (hB:0<=B/\B<=6000) (hc:∀ x∈l,An (fun k=>SaD.f k x.f4) (fun c=>0<=c/\c<=B)/\An (fun k=>SaD.f k x.f5) (fun c=>0<=c/\c<=B)) :
  ∀ (d i:Nat),i+d=l.length->∀ t:Int,0<=t->t<=(i:Int)*12001->An (fun k=>aeB k l t (i:Int)) (fun c=>t<=c/\c<=t+(d:Int)*(1+2*B))
 | 0,i,hi,t,h0,h1=>by
  refine aaM ?_
  simp only [aeB]
  exact ab1 (aag ⟨by omega,by omega⟩)
 | d+1,i,hi,t,h0,h1=>by
  have e:((d+1:Nat):Int)*(1+2*B)=(d:Int)*(1+2*B)+(1+2*B):=by rw [show ((d+1:Nat):Int)=(d:Int)+1 from rfl,Int.add_mul,Int.one_mul]
  rw [e]
  obtain⟨h4,h5⟩:=hc _ (ak6 (show i < l.length by omega))
  refine aaM ?_
  simp only [aeB,aog,aav (show i < 9223372036854775807 by omega)]
  refine aaF (aaF (An.bind h4 fun c k4=>An.bind h5 fun c' k5=>?_))
  have e1:wrap64 (wrap64 (wrap64 (t+1)+c)+c')=t+1+c+c':=by unfold wrap64;omega
  rw [e1]
  exact (ahJ hl hB hc d (i+1) (by omega) (t+1+c+c') (by omega) (by omega)).mono fun u h=>⟨by omega,by omega⟩
theorem afO {l:List ST} (hl:l.length<=12) {B:Int} (hB:0<=B/\B<=6000) (hc:∀ x∈l,An (fun k=>SaD.f k x.f4) (fun c=>0<=c/\c<=B)/\An (fun k=>SaD.f k x.f5) (fun c=>0<=c/\c<=B)):An (fun k=>SaD.f k l) (fun c=>0<=c/\c<=(l.length:Int)*(1+2*B)):=by
 refine aaM ?_
 simp only [SaD.f]
 exact (ahJ hl hB hc l.length 0 (Nat.zero_add _) 0 (by omega) (by omega)).mono fun u h=>⟨h.1,by omega⟩
theorem ae8 {B:Int} (h:0<=B):An (fun k=>SaD.f k []) (fun c=>0<=c/\c<=B) :=
 (afO (l:=[]) (by simp) (B:=0) (by omega) (by simp)).mono fun u h'=>⟨h'.1,by simp at h';omega⟩
theorem ahe:∀ n,n<=3->∀ l:List ST,(∀ x∈l,okS n x)->l.length<=12->An (fun k=>SaD.f k l) (fun c=>0<=c/\c<=(l.length:Int)*cW n)
 | 0,_,l,h,hl=>by
  refine (afO hl (B:=0) (by omega) fun x hx=>?_).mono fun u h'=>⟨h'.1,by simp only [cW];omega⟩
  obtain⟨e4,e5,_⟩:anm x:=h x hx
  rw [e4,e5]
  exact⟨ae8 (by omega),ae8 (by omega)⟩
 | n+1,hn,l,h,hl=>by
  have w0:=anw n
  have w1:=aqB (n:=n) (by omega)
  refine (afO hl (B:=5*cW n) (by omega) fun x hx=>?_).mono fun u h'=>⟨h'.1,by rw [show cW (n+1)=1+2*(5*cW n) by simp only [cW];omega];exact h'.2⟩
  rcases h x hx with ⟨e4,e5,_⟩ | ⟨_,_,_,_,l4,l5,h4,h5⟩
  ·rw [e4,e5]
   exact⟨ae8 (by omega),ae8 (by omega)⟩
  have m4:(x.f4.length:Int)*cW n<=5*cW n:=Int.mul_le_mul_of_nonneg_right (by omega) (by omega)
  have m5:(x.f5.length:Int)*cW n<=5*cW n:=Int.mul_le_mul_of_nonneg_right (by omega) (by omega)
  exact⟨(ahe n (by omega) x.f4 h4 (by omega)).mono fun u k=>⟨k.1,by omega⟩,(ahe n (by omega) x.f5 h5 (by omega)).mono fun u k=>⟨k.1,by omega⟩⟩
/-- What aa answers. -/
def okL (l:List ST):Prop:=l.length<=12/\(∀ x∈l,okS 3 x)/\∃ c:Int,c<=16/\Ev (fun k=>SaD.f k l) c
theorem ap4 {b:List Int} (p:Int):∀ (d:Nat) (o:List ST),o.length=d->d<=12->(∀ x∈o,okS 3 x)->An (fun k=>aeW k o b p) (fun v=>okL v.1/\v.2=p):=by
 intro d
 induction d with
 | zero=>?_
 | succ d ih=>?_
 all_goals
  intro o ho hd h
  obtain⟨c,e,c0,c1⟩:=ahe 3 (by omega) o h (by omega)
  refine aaM ?_
  simp only [aeW]
  refine An.bind (amu (P:=fun u=>u=c) e rfl) fun u hu=>?_
  subst hu
  refine aaK (fun g=>?_) (fun g=>aag ⟨⟨by show o.length<=12;omega,h,u,by omega,e⟩,rfl⟩)
 ·rw [ho] at c1
  simp at c1
  omega
 have e1:wrap64 ((o.length:Int) - 1)=(d:Int):=by rw [ho,aaS (by omega) (by omega)];omega
 rw [e1]
 refine aaF (aaF ?_)
 rw [Int.toNat_natCast]
 exact ih (o.take d) (by rw [List.length_take];omega) (by omega) fun x hx=>h x (List.mem_of_mem_take hx)
theorem aik {b:List Int} (hb:Bt b) {x p:Int} (hx:x<=3) (h:0<=p/\p+9600<=1000000):An (fun k=>akZ k b p x) (fun v=>okL v.1/\p<=v.2/\v.2<=p+9600):=by
 have e3:cS 3=1594:=by decide
 simp only [akZ]
 refine An.bind (aau hb 6 (by omega)) fun v h1=>?_
 have e1:wrap64 (1+v.1)=1+v.1:=aaS (by omega) (by omega)
 have e2:(1+v.1)*cS 3<=6*cS 3:=Int.mul_le_mul_of_nonneg_right (by omega) (by omega)
 rw [e1]
 refine An.bind (aje (n:=3) (aoa hb 3 (by omega)) hx true (m:=1+v.1) (by omega) v.2 (by omega)) fun c h2=>?_
 exact (ap4 c.2 c.1.length c.1 rfl (by omega) h2.2.1).mono fun u h3=>⟨h3.1,by omega,by omega⟩
theorem ail:∀ (d:Nat) (e:SE),okE d e->∀ a:Int,d<=a->a<=5->Ev (fun k=>ahm k e.f0 e.f1 e.f2 a) true
 | 0,_,h,_,_,_=>h.elim
 | d+1,⟨f0,f1,f2⟩,h,a,ha,ha'=>by
  refine Ev.succ ?_
  simp only [ahm,ahl,aiC]
  refine aa5 ?_
  rcases h with ⟨q0,q1,q2,q3⟩ | ⟨q0,q1,q2,q3⟩ | ⟨q0,q1,q2,x,y,q3,q4,q5⟩
  ·simp only at q0 q1 q2 q3
   subst q0;subst q3
   exact aa2 (aaH (aa2 (aaX Ev.pure rfl) (by simp;omega)))
  ·simp only at q0 q1 q2 q3
   subst q0;subst q3
   exact aa5 (aa2 (aaH (aa2 (aaX Ev.pure rfl) (by simp;omega))))
  simp only at q0 q1 q2 q3
  subst q2;subst q3
  have ew:wrap64 (a - 1)=a - 1:=aaS (by omega) (by omega)
  have i1:=ail d x q4 (a - 1) (by omega) (by omega)
  have i2:=ail d y q5 (a - 1) (by omega) (by omega)
  rw [ew]
  refine aa5 (aa5 (aaH (aa2 (aa2 (aa2 (aa2 (Ev.bind i1 (aa2 (aa2 (Ev.bind i2 Ev.pure) (by simp)) rfl)) (by simp)) (by simp)) rfl) (by simp;omega))))
theorem afl {d:Nat} {e:SE} (h:okE d e) (hd:d<=5):Ev (fun k=>aiD k e.f0 e.f1 e.f2) true:=by
 simp only [aiD]
 exact Ev.bind (ail d e h 5 (by omega) (by omega)) Ev.pure
theorem aht {x:ST} (h:anm x) (k0:Int):Ev (fun k=>agq k x.f0 x.f1 x.f2 x.f3.f0 x.f3.f1 x.f3.f2 x.f4 x.f5 k0) true:=by
 obtain⟨f0,f1,f2,f3,f4,f5⟩:=x
 obtain⟨e4,e5,h⟩:=h
 simp only at e4 e5 h
 subst e4;subst e5
 have h2:f0≠2:=by omega
 have h3:f0≠3:=by omega
 refine Ev.succ ?_
 simp only [agq]
 refine aa5 (Ev.succ ?_)
 simp only [adN]
 refine aa2 (Ev.bind ?_ Ev.pure) (by simp [h3])
 simp only [anf]
 refine aa5 (Ev.succ ?_)
 simp only [agU,agp,agr,ahl,ami]
 refine aa5 ?_
 rcases h with ⟨rfl,q1,q2,q3,q4⟩ | ⟨rfl,q1,q2,q3,q4⟩ | ⟨rfl,q1,q2,q3,q4,q5⟩ | ⟨rfl,q1,q2,q3⟩ | ⟨rfl,q1,q2,q3⟩
 ·refine aa2 (Ev.bind (a:=true) (aa2 (aaH (aaX Ev.pure (by simp;omega)))) (aa2 (Ev.bind (a:=true) (aa5 (aaX Ev.pure (by simp;omega))) (aa2 (Ev.bind (afl q4 (by omega)) Ev.pure) rfl)) rfl))
 ·refine aa5 (aa2 (Ev.bind (a:=true) (aa5 (aaX Ev.pure (by simp;omega))) (aa2 (Ev.bind (a:=true) (aa2 (aaH (aaX Ev.pure (by simp;omega)))) (aa2 (Ev.bind (afl q4 (by omega)) Ev.pure) rfl)) rfl)))
 ·subst q5
  exact aa5 (aa5 (aa2 (Ev.bind (a:=true) (aa2 (aaH (aaX Ev.pure (by simp;omega)))) (aa2 (Ev.bind (a:=true) (aa2 (aaH (aaX Ev.pure (by simp;omega)))) (aa2 (Ev.bind (a:=true) (aa2 (aa2 (aaX Ev.pure rfl) rfl) rfl) Ev.pure) rfl)) rfl))))
 ·subst q3
  exact aa5 (aa5 (aa5 (aa2 (Ev.bind (a:=true) (aa5 (aaX Ev.pure (by simp;omega))) (aa2 (Ev.bind (a:=true) (aa5 (aaX Ev.pure (by simp;omega))) (aa2 (Ev.bind (a:=true) (aa2 (aa2 (aaX Ev.pure rfl) rfl) rfl) Ev.pure) rfl)) rfl)))))
 exact aa5 (aa5 (aa5 (aa5 (aa2 (Ev.bind (a:=true) (aa5 (aaX Ev.pure (by simp;omega))) (aa2 (Ev.bind (a:=true) (aa5 (aaX Ev.pure (by simp;omega))) (aa2 (Ev.bind (afl q3 (by omega)) Ev.pure) rfl)) rfl))))))
theorem agF {l:List ST} (hl:l.length<=12) {a:Int} (hx:∀ x∈l,Ev (fun k=>agq k x.f0 x.f1 x.f2 x.f3.f0 x.f3.f1 x.f3.f2 x.f4 x.f5 a) true):∀ (d i:Nat),i+d=l.length->Ev (fun k=>aeC k l a (i:Int)) true
 | 0,i,hi=>by
  refine Ev.succ ?_
  simp only [aeC]
  exact aa5 Ev.pure
 | d+1,i,hi=>by
  refine Ev.succ ?_
  simp only [aeC,aog,aav (show i < 9223372036854775807 by omega)]
  exact aa2 (aa2 (Ev.bind (hx _ (ak6 (by omega))) (aa2 (agF hl hx d (i+1) (by omega)) rfl)))
theorem aeP {l:List ST} (hl:l.length<=12) {a:Int} (hx:∀ x∈l,Ev (fun k=>agq k x.f0 x.f1 x.f2 x.f3.f0 x.f3.f1 x.f3.f2 x.f4 x.f5 a) true):Ev (fun k=>SaB.f k l a) true:=by
 refine Ev.succ ?_
 simp only [SaB.f]
 exact agF hl hx l.length 0 (Nat.zero_add _)
theorem aon:∀ (n:Nat),n<=3->∀ x:ST,okS n x->Ev (fun k=>agq k x.f0 x.f1 x.f2 x.f3.f0 x.f3.f1 x.f3.f2 x.f4 x.f5 (n:Int)) true
 | 0,_,x,h=>aht h _
 | n+1,hn,x,h=>by
  rcases h with h | ⟨q0,q1,q2,q3,l4,l5,h4,h5⟩
  ·exact aht h _
  have b4:=aeP (l:=x.f4) (by omega) fun y hy=>aon n (by omega) y (h4 y hy)
  have b5:=aeP (l:=x.f5) (by omega) fun y hy=>aon n (by omega) y (h5 y hy)
  have e:wrap64 (((n+1:Nat):Int) - 1)=(n:Int):=by rw [aaS (by omega) (by omega)];omega
  have j1:Ev (fun k=>afa k ((n+1:Nat):Int) false x.f0 x.f1 x.f2 x.f3.f0 x.f3.f1 x.f3.f2 x.f4 x.f5) true:=by
   refine Ev.succ ?_
   simp only [afa,agp,agr,ahl,q1,q2,e]
   exact aa5 (Ev.bind (a:=true) (aa5 (aaX Ev.pure rfl)) (aa2 (Ev.bind (a:=true) (aa5 (aaX Ev.pure rfl)) (aa2 (Ev.bind (afl q3 (by omega)) (aa2 (Ev.bind b4 (aa2 (Ev.bind b5 Ev.pure) rfl)) rfl)) rfl)) rfl))
  refine Ev.succ ?_
  simp only [agq]
  rcases q0 with q0 | ⟨q0,q5⟩
  ·refine aa2 (Ev.succ ?_) q0
   simp only [adN]
   exact aa5 (aa5 (aa5 j1))
  refine aa5 (Ev.succ ?_)
  simp only [adN]
  refine aa5 (aa5 (aa2 ?_ q0)) (by simp [q0])
  rw [q5] at j1 ⊢
  exact j1
theorem ah1 {l:List ST} (h:okL l):Ev (fun k=>alT k l) true:=by
 obtain⟨h1,h2,c,h3,h4⟩:=h
 simp only [alT]
 exact Ev.bind (aeP h1 fun x hx=>aon 3 (by omega) x (h2 x hx)) (aa2 (Ev.bind h4 (aaX Ev.pure (by simpa using h3))) rfl)
/-- Valid quads whose targets are t at most. -/
def upQ (t:Int) (c:List SQ):Prop:=∀ q∈c,∀ m:Int,t < m->QV (q_ q) m
theorem r4:rg 4:=by decide
theorem upQ.le {t u:Int} {c:List SQ} (h:upQ t c) (hu:t<=u):upQ u c:=fun q hq m hm=>h q hq m (by omega)
theorem upQ.app {t:Int} {c d:List SQ} (h:upQ t c) (h':upQ t d):upQ t (c ++ d):=fun q hq=>(List.mem_append.1 hq).elim (h q) (h' q)
theorem upQ.one {t:Int} {q:SQ} (h:∀ m:Int,t < m->QV (q_ q) m):upQ t [q]:=fun x hx=>by rw [List.mem_singleton.1 hx];exact h
theorem ap1 (x y:SE):aaN [x,y] 0=x:=rfl
theorem ap0 (x y:SE):aaN [x,y] 1=y:=rfl
def cX:Nat->Nat
 | 0=>0
 | d+1=>2*cX d+1
theorem aqA {d:Nat} (h:d<=3):cX d<=7:=by
 match d,h with
 | 0,_=>decide
 | 1,_=>decide
 | 2,_=>decide
 | 3,_=>decide
theorem ap2 {c:List SQ} {i:Nat} (h:i < c.length):qa c i∈c:=by
 unfold qa
 rw [show c.getD i z27=c[i] by simp [h]]
 exact List.getElem_mem _
theorem aeL:∀ (d:Nat),d<=3->∀ (e:SE),okE d e->∀ a:Int,0<=a->a+d<=12->An (fun k=>adT k e.f0 e.f1 e.f2 a) (fun c=>1<=c.length/\c.length<=cX d/\upQ (-1) c)
 | 0,_,_,h,_,_,_=>h.elim
 | d+1,hd,⟨f0,f1,f2⟩,h,a,ha,ha'=>by
  have c7:=aqA (d:=d) (by omega)
  refine aaM ?_
  simp only [adT]
  rcases h with ⟨q0,q1,q2,q3⟩ | ⟨q0,q1,q2,q3⟩ | ⟨q0,q1,q2,x,y,q3,q4,q5⟩
  ·simp only at q0 q1 q2
   exact aaF (aag ⟨by simp,by simp [cX],upQ.one fun m hm=>Or.inl ⟨rfl,⟨ha,by simp only [q_];omega⟩,rfl,rfl,by simp only [q_];omega,by simp only [q_];omega⟩⟩)
  ·simp only at q0 q1 q2
   exact ab1 (aaF (aag ⟨by simp,by simp [cX],upQ.one fun m hm=>Or.inr (Or.inl ⟨rfl,⟨ha,by simp only [q_];omega⟩,⟨q1,by simp only [q_];omega⟩,rfl,rfl⟩)⟩))
  simp only at q0 q1 q2 q3
  subst q3
  have hd0:1<=d:=by
   cases d with
   | zero=>exact q4.elim
   | succ d=>omega
  have ew:wrap64 (a+1)=a+1:=aaS (by omega) (by omega)
  simp only [ew,ap1,ap0]
  refine ab1 (ab1 (aaF (An.bind (aeL d (by omega) x q4 a ha (by omega)) fun c h1=>aaF (An.bind (aeL d (by omega) y q5 (a+1) (by omega) (by omega)) fun c' h2=>aaF (abd (aaF (aag ?_) ?_))) (by simp)) (by simp)))
  ·refine⟨by simp;omega,by simp [cX];omega,upQ.app (upQ.app h1.2.2 h2.2.2) (upQ.one fun m hm=>Or.inr (Or.inr (Or.inl ⟨rfl,⟨ha,by simp only [q_];omega⟩,⟨ha,by simp only [q_];omega⟩,⟨by simp only [q_];omega,by simp only [q_];omega⟩,q0,q1⟩)))⟩
  simp only [List.length_append]
  omega
theorem adR {e:SE} (h:okE 3 e):An (fun k=>adT k e.f0 e.f1 e.f2 4) (fun c=>1<=c.length/\c.length<=7/\upQ (-1) c):=aeL 3 (by omega) e h 4 (by omega) (by omega)
theorem ahI:An (fun k=>adT k 0 0 [] 4) (fun c=>1<=c.length/\c.length<=7/\upQ (-1) c):=adR (e:=⟨0,0,[]⟩) (Or.inl ⟨rfl,by simp,by simp,rfl⟩)
def cZ:Nat->Nat
 | 0=>8
 | n+1=>9+10*cZ n
theorem aqz {n:Nat} (h:n<=3):cZ n<=8999/\8<=cZ n:=by
 match n,h with
 | 0,_=>decide
 | 1,_=>decide
 | 2,_=>decide
 | 3,_=>decide
/-- The code of a statement that begins at a. -/
def ajp (Z:Nat) (A:Int) (x:ST):Prop:=∀ a:Int,0<=a->a<=A->An (fun k=>aiH k x.f0 x.f1 x.f2 x.f3.f0 x.f3.f1 x.f3.f2 x.f4 x.f5 a) (fun c=>c.length<=Z/\upQ (a+c.length) c)
theorem aj2 {l:List ST} (hl:l.length<=12) {Z:Nat} (hZ:Z<=9000) {A:Int} (hA:A<=1000000) (hx:∀ x∈l,ajp Z A x) {a:Int} (ha:0<=a) (ha':a+108000<=A):∀ (d i:Nat),i+d=l.length->∀ o:List SQ,o.length<=i*Z->upQ (a+o.length) o->An (fun k=>aez k l a o (i:Int)) (fun c=>c.length<=l.length*Z/\upQ (a+c.length) c)
 | 0,i,hi,o,ho,hu=>by
  refine aaM ?_
  simp only [aez]
  exact ab1 (aag ⟨by rw [show l.length=i by omega];exact ho,hu⟩)
 | d+1,i,hi,o,ho,hu=>by
  have m1:i*Z<=12*9000:=Nat.mul_le_mul (by omega) hZ
  refine aaM ?_
  simp only [aez,aog,aav (show i < 9223372036854775807 by omega)]
  have ew:wrap64 (a+(o.length:Int))=a+o.length:=aaS (by omega) (by omega)
  rw [ew]
  refine aaF (aaF (An.bind (hx _ (ak6 (by omega)) (a+o.length) (by omega) (by omega)) fun c h1=>aaF (aj2 hl hZ hA hx ha ha' d (i+1) (by omega) (o ++ c) ?_ ?_)))
  ·rw [List.length_append,Nat.add_mul,Nat.one_mul]
   omega
  rw [List.length_append]
  exact upQ.app (hu.le (by omega)) (h1.2.le (by omega))
theorem aii {l:List ST} (hl:l.length<=12) {Z:Nat} (hZ:Z<=9000) {A:Int} (hA:A<=1000000) (hx:∀ x∈l,ajp Z A x) {a:Int} (ha:0<=a) (ha':a+108000<=A):An (fun k=>SaM.f k l a) (fun c=>c.length<=l.length*Z/\upQ (a+c.length) c):=by
 refine aaM ?_
 simp only [SaM.f]
 exact aj2 hl hZ hA hx ha ha' l.length 0 (Nat.zero_add _) [] (by simp) (fun q hq=>by cases hq)
theorem ajd {x:ST} (h:anm x) (A:Int):ajp 8 A x:=by
 intro a ha ha'
 obtain⟨f0,f1,f2,f3,f4,f5⟩:=x
 obtain⟨_,_,h⟩:=h
 simp only at h ⊢
 refine aaM ?_
 simp only [aiH]
 rcases h with ⟨rfl,q1,q2,q3,q4⟩ | ⟨rfl,q1,q2,q3,q4⟩ | ⟨rfl,q1,q2,q3,q4,rfl⟩ | ⟨rfl,q1,q2,rfl⟩ | ⟨rfl,q1,q2,q3⟩
 ·refine An.bind (adR q4) fun c h1=>ab1 (ab1 (aaF (aaF (aag ⟨by simp;omega,upQ.app (h1.2.2.le (by omega)) (upQ.one fun m hm=>Or.inr (Or.inl ⟨rfl,⟨q1,by simp only [q_];omega⟩,r4,rfl,rfl⟩))⟩))))
 ·refine An.bind (adR q4) fun c h1=>ab1 (ab1 (ab1 (aaF (aaF (aag ⟨by simp;omega,upQ.app (h1.2.2.le (by omega)) (upQ.one fun m hm=>Or.inr (Or.inr (Or.inr (Or.inr (Or.inr (Or.inl ⟨rfl,rfl,r4,rfl,q2,q3⟩))))))⟩)))))
 ·refine An.bind ahI fun c h1=>ab1 (ab1 (ab1 (ab1 (ab1 (aaF (aag ⟨by simp,upQ.one fun m hm=>Or.inr (Or.inr (Or.inr (Or.inr (Or.inr (Or.inr (Or.inl ⟨rfl,⟨q1,by simp only [q_];omega⟩,rfl,rfl,q3,q4⟩))))))⟩))))))
 ·refine An.bind ahI fun c h1=>ab1 (ab1 (ab1 (ab1 (ab1 (ab1 (aag ⟨by simp,upQ.one fun m hm=>Or.inr (Or.inr (Or.inr (Or.inr (Or.inr (Or.inr (Or.inr (Or.inr ⟨Or.inl rfl,rfl,rfl,rfl,rfl⟩)))))))⟩))))))
 refine An.bind (adR q3) fun c h1=>ab1 (ab1 (ab1 (ab1 (aaF (aaF (aag ⟨by simp;omega,upQ.app (h1.2.2.le (by omega)) (upQ.one fun m hm=>Or.inr (Or.inr (Or.inr (Or.inr (Or.inr (Or.inr (Or.inr (Or.inl ⟨rfl,rfl,r4,rfl,rfl⟩))))))))⟩))))))
theorem akc {n m:Int} (h:0<=n) (h':n < m):QV (q_ ⟨4,0,0,0,n⟩) m:=Or.inr (Or.inr (Or.inr (Or.inl ⟨rfl,rfl,rfl,rfl,h,h'⟩)))
theorem aif {n m:Int} (h:0<=n) (h':n < m):QV (q_ ⟨5,0,4,0,n⟩) m:=Or.inr (Or.inr (Or.inr (Or.inr (Or.inl ⟨rfl,rfl,r4,rfl,h,h'⟩))))
theorem aiv:∀ n,n<=3->∀ x:ST,okS n x->ajp (cZ n) (1000000 - 200000*n) x
 | 0,_,x,h=>ajd h _
 | n+1,hn,x,h=>by
  obtain⟨z1,z0⟩:=aqz (n:=n) (by omega)
  rcases h with h | ⟨q0,q1,q2,q3,l4,l5,h4,h5⟩
  ·intro a ha ha'
   exact (ajd h _ a ha ha').mono fun c hc=>⟨by simp only [cZ];omega,hc.2⟩
  intro a ha ha'
  have m4:x.f4.length*cZ n<=5*cZ n:=Nat.mul_le_mul_right _ l4
  have m5:x.f5.length*cZ n<=5*cZ n:=Nat.mul_le_mul_right _ l5
  have c4:∀ u:Int,0<=u->u<=a+10->An (fun k=>SaM.f k x.f4 u) (fun c=>c.length<=x.f4.length*cZ n/\upQ (u+c.length) c):=fun u hu hu'=>aii (by omega) (by omega) (A:=1000000 - 200000*n) (by omega) (fun y hy=>aiv n (by omega) y (h4 y hy)) hu (by omega)
  have c5:∀ u:Int,0<=u->u<=a+50000->An (fun k=>SaM.f k x.f5 u) (fun c=>c.length<=x.f5.length*cZ n/\upQ (u+c.length) c):=fun u hu hu'=>aii (by omega) (by omega) (A:=1000000 - 200000*n) (by omega) (fun y hy=>aiv n (by omega) y (h5 y hy)) hu (by omega)
  refine aaM ?_
  simp only [aiH]
  refine An.bind (adR q3) fun _ _=>?_
  rcases q0 with q0 | ⟨q0,q5⟩
  ·refine aaF (An.bind (aaM ?_) fun c hc=>aag hc) q0
   simp only [ajQ]
   refine An.bind (adR q3) fun e h1=>?_
   have w1:wrap64 (wrap64 (a+(e.length:Int))+1)=a+e.length+1:=by unfold wrap64;omega
   simp only [w1]
   refine An.bind (c4 _ (by omega) (by omega)) fun b h2=>?_
   have w2:wrap64 (a+(e.length:Int)+1+(b.length:Int))=a+e.length+1+b.length:=by unfold wrap64;omega
   have w3:wrap64 (a+(e.length:Int)+1+(b.length:Int)+1)=a+e.length+1+b.length+1:=by unfold wrap64;omega
   simp only [w2,w3]
   refine aaK (fun z=>?_) (fun z=>?_)
   ·refine aaF (abd (aaF (aag ⟨?_,?_⟩) ?_))
    ·simp only [List.length_append,List.length_cons,List.length_nil,cZ]
     omega
    ·simp only [List.length_append,List.length_cons,List.length_nil]
     exact upQ.app (upQ.app (h1.2.2.le (by omega)) (upQ.one fun m hm=>aif (by omega) (by omega))) (h2.2.le (by omega))
    simp only [List.length_append,List.length_cons,List.length_nil]
    omega
   refine An.bind (c5 _ (by omega) (by omega)) fun d h3=>?_
   have w4:wrap64 (a+(e.length:Int)+1+(b.length:Int)+1+(d.length:Int))=a+e.length+1+b.length+1+d.length:=by unfold wrap64;omega
   simp only [w4]
   refine aaF (abd (aaF (abd (aaF (abd (aaF (aag ⟨?_,?_⟩) ?_)) ?_)) ?_))
   ·simp only [List.length_append,List.length_cons,List.length_nil,cZ]
    omega
   ·simp only [List.length_append,List.length_cons,List.length_nil]
    exact upQ.app (upQ.app (upQ.app (upQ.app (h1.2.2.le (by omega)) (upQ.one fun m hm=>aif (by omega) (by omega))) (h2.2.le (by omega))) (upQ.one fun m hm=>akc (by omega) (by omega))) (h3.2.le (by omega))
   all_goals
    simp only [List.length_append,List.length_cons,List.length_nil]
    omega
  refine ab1 (aaF (An.bind (aaM ?_) fun c hc=>aag hc) q0)
  simp only [ajP]
  refine An.bind (adR q3) fun e h1=>?_
  have w1:wrap64 (wrap64 (a+(e.length:Int))+1)=a+e.length+1:=by unfold wrap64;omega
  simp only [w1]
  refine An.bind (c4 _ (by omega) (by omega)) fun b h2=>?_
  have w2:wrap64 (wrap64 (a+(e.length:Int)+1+(b.length:Int))+1)=a+e.length+1+b.length+1:=by unfold wrap64;omega
  simp only [w2]
  refine aaF (abd (aaF (abd (aaF (aag ⟨?_,?_⟩) ?_)) ?_))
  ·simp only [List.length_append,List.length_cons,List.length_nil,cZ]
   omega
  ·simp only [List.length_append,List.length_cons,List.length_nil]
   exact upQ.app (upQ.app (upQ.app (h1.2.2.le (by omega)) (upQ.one fun m hm=>aif (by omega) (by omega))) (h2.2.le (by omega))) (upQ.one fun m hm=>akc (by omega) (by omega))
  all_goals
   simp only [List.length_append,List.length_cons,List.length_nil]
   omega
theorem agm {l:List ST} (h:okL l):An (fun k=>am3 k l) (fun v=>v.1.length<=600->CV (qs v.1)):=by
 have m1:l.length*cZ 3<=12*9000:=Nat.mul_le_mul h.1 (by decide)
 simp only [am3]
 refine An.bind (amu (P:=fun u=>u=true) (ah1 h) rfl) fun u hu=>aaF (An.bind (aii (Z:=cZ 3) (A:=1000000 - 200000*(3:Nat)) (by have:=h.1;omega) (by decide) (by decide) (fun y hy=>aiv 3 (by omega) y (h.2.1 y hy)) (a:=0) (by omega) (by decide)) fun c h1=>aaF (aag ?_)) hu
 intro h6
 refine⟨by simp [qs],by simpa [qs] using h6,?_,?_⟩
 ·rw [ab0]
  intro i hi
  rw [acm]
  have hm:qa (c ++ [(⟨10,0,0,0,0⟩:SQ)]) i∈c ++ [(⟨10,0,0,0,0⟩:SQ)]:=ap2 hi
  rcases List.mem_append.1 hm with q|q
  ·exact h1.2 _ q _ (by simp;omega)
  rw [List.mem_singleton.1 q]
  exact Or.inr (Or.inr (Or.inr (Or.inr (Or.inr (Or.inr (Or.inr (Or.inr ⟨Or.inr rfl,rfl,rfl,rfl,rfl⟩)))))))
 refine Or.inl ?_
 rw [ab0,acm]
 simp [qa,q_]
/-- One pass of the five answers v for c. -/
def Step:Nat->List SQ->List SQ->Prop
 | 0,c,v=>Ev (fun k=>Sao.f k c) (v,true)
 | 1,c,v=>Ev (fun k=>Saj.f k c) (v,true)
 | 2,c,v=>Ev (fun k=>Sap.f k c) (v,true)
 | 3,c,v=>Ev (fun k=>Sak.f k c) (v,true)
 | _,c,v=>Ev (fun k=>Sax.f k c) (v,true)
theorem step0 {c:List SQ} (h:CV (qs c)):∃ v,CV (qs v)/\Step 0 c v:=by
 obtain⟨U,hU,e⟩:=apY h
 exact⟨_,aio h hU.1.1,e⟩
theorem step1 {c:List SQ} (h:CV (qs c)):∃ v,CV (qs v)/\Step 1 c v:=by
 obtain⟨U,hU,e⟩:=aq1 h
 exact⟨_,aiu h hU.1.1,e⟩
theorem step2 {c:List SQ} (h:CV (qs c)):∃ v,CV (qs v)/\Step 2 c v:=⟨_,aim h,apX h⟩
theorem aqr {c:List SQ} (h:CV (qs c)):∃ v,CV (qs v)/\Step 3 c v:=by
 obtain⟨v,_,hv,e,_⟩:=aoC h
 exact⟨v,hv,e⟩
theorem aqp {c:List SQ} (h:CV (qs c)):∃ v,CV (qs v)/\Step 4 c v:=by
 obtain⟨U,hU,e⟩:=anR h
 exact⟨_,ak7 h hU,e⟩
/-- The first j passes lead from c to y. -/
def aqL:Nat->List SQ->List SQ->Prop
 | 0,c,y=>y=c
 | j+1,c,y=>∃ x,aqL j c x/\Step j x y
theorem akt {c y:List SQ} (h:aqL 5 c y):Ev (fun k=>aiy k c) y:=by
 obtain⟨x4,⟨x3,⟨x2,⟨x1,⟨x0,rfl,s0⟩,s1⟩,s2⟩,s3⟩,s4⟩:=h
 simp only [aiy]
 exact Ev.bind s0 (Ev.bind s1 (Ev.bind s2 (Ev.bind s3 (Ev.bind s4 Ev.pure))))
theorem apt {c:List SQ} (h:CV (qs c)):∃ v,CV (qs v)/\Ev (fun k=>aiy k c) v:=by
 obtain⟨x1,h1,s1⟩:=step0 h
 obtain⟨x2,h2,s2⟩:=step1 h1
 obtain⟨x3,h3,s3⟩:=step2 h2
 obtain⟨x4,h4,s4⟩:=aqr h3
 obtain⟨x5,h5,s5⟩:=aqp h4
 exact⟨x5,h5,akt ⟨_,⟨_,⟨_,⟨_,⟨_,rfl,s1⟩,s2⟩,s3⟩,s4⟩,s5⟩⟩
theorem an7 (t:Int) (x:List SQ):Ev (fun k=>acU k t x t) (x,true):=by
 refine Ev.succ ?_
 simp only [acU]
 exact aa5 Ev.pure
theorem an6 {t:Int} (ht:t<=4) {r:Nat} (hr:(r:Int) < t) {x y:List SQ} (h:Ev (fun k=>aiy k x) y) {z:List SQ × Bool} (hz:Ev (fun k=>acU k t y ((r+1:Nat):Int)) z):Ev (fun k=>acU k t x (r:Int)) z:=by
 refine Ev.succ ?_
 simp only [acU,aav (show r < 9223372036854775807 by omega)]
 exact aa2 (Ev.bind h hz)
theorem Sat.out {t:Nat} (ht:t<=4):∀ (d r:Nat),r+d=t->∀ {x:List SQ},CV (qs x)->∃ v,CV (qs v)/\Ev (fun k=>acU k (t:Int) x (r:Int)) (v,true)
 | 0,r,hr,x,h=>⟨x,h,by rw [show r=t from by omega];exact an7 _ _⟩
 | d+1,r,hr,x,h=>by
  obtain⟨y,hy,e⟩:=apt h
  obtain⟨v,hv,e2⟩:=Sat.out ht d (r+1) (by omega) hy
  exact⟨v,hv,an6 (by omega) (by omega) e e2⟩
/-- A code and how often: what is asked of both. -/
def okT (c:List SQ) (t:Int):Prop:=CV (qs c)/\0<=t/\t<=4
theorem alX {c:List SQ} {t:Int} (h:okT c t) {z:List SQ × Bool} (hz:Ev (fun k=>acU k t c 0) z):Ev (fun k=>Sat.f k c t) z:=by
 have h6:=abb h.1
 simp only [Sat.f,ahl]
 refine Ev.bind (ach c) (aa2 (aaH ?_) (decide_eq_true h.1))
 rw [decide_eq_true h.2]
 refine Ev.succ ?_
 simp only [agM]
 refine aa5 (aaH (aa2 hz ?_)) (by simp)
 simp only [List.length_nil]
 omega
theorem apV {c:List SQ} {t:Int} (h:okT c t):∃ v,CV (qs v)/\Ev (fun k=>Sat.f k c t) (v,true):=by
 obtain⟨v,hv,e⟩:=Sat.out (t:=t.toNat) (by have:=h.2;omega) t.toNat 0 (Nat.zero_add _) h.1
 rw [Int.toNat_of_nonneg h.2.1] at e
 exact⟨v,hv,alX h e⟩
theorem ajx {b:List Int} (hb:Bt b) {p n:Int} (hn:1<=n) (h:0<=p/\p+8<=1000000):An (fun k=>alp k b p n) (fun v=>p<=v.2.2.2.2.2/\v.2.2.2.2.2<=p+8):=by
 have j2:∀ x c q,p<=q->q<=p+1->An (fun k=>af1 k n x c b q) (fun v=>p<=v.2.2.2.2.2/\v.2.2.2.2.2<=p+8):=by
  intro x c q hq hq'
  refine aaM ?_
  simp only [af1]
  refine aaK (fun _=>An.bind (abA hb (by omega)) fun v h1=>An.bind (abA hb (by omega)) fun v h2=>An.bind (abA hb (by omega)) fun v h3=>An.bind (aj5 hb (by omega)) fun v h4=>aag (by simp only;omega)) (fun _=>?_)
  refine aaK (fun _=>An.bind (aau hb n (by omega)) fun v h1=>aag (by simp only;omega)) (fun _=>?_)
  refine aaK (fun _=>An.bind (abA hb (by omega)) fun v h1=>An.bind (aau hb n (by omega)) fun v h2=>aag (by simp only;omega)) (fun _=>?_)
  refine aaK (fun _=>An.bind (abA hb (by omega)) fun v h1=>An.bind (aau hb 2 (by omega)) fun v h2=>aag (by simp only;omega)) (fun _=>?_)
  refine aaK (fun _=>An.bind (abA hb (by omega)) fun v h1=>An.bind (aau hb 2 (by omega)) fun v h2=>aag (by simp only;omega)) (fun _=>?_)
  exact An.bind (aau hb 4 (by omega)) fun v h1=>aaK (fun _=>aag (by simp only;omega)) (fun _=>An.bind (abA hb (by omega)) fun v h2=>aag (by simp only;omega))
 have j1:∀ x c q,p<=q->q<=p+1->An (fun k=>afV k n x c b q) (fun v=>p<=v.2.2.2.2.2/\v.2.2.2.2.2<=p+8):=by
  intro x c q hq hq'
  refine aaM ?_
  simp only [afV]
  refine aaK (fun _=>An.bind (abA hb (by omega)) fun v h1=>An.bind (abA hb (by omega)) fun v h2=>aag (by simp only;omega)) (fun _=>aaK (fun _=>j2 _ _ _ hq hq') (fun _=>aaK (fun _=>j2 _ _ _ hq hq') (fun _=>j2 _ _ _ hq hq')))
 have j0:∀ x c q,p<=q->q<=p+1->An (fun k=>afW k n x c b q) (fun v=>p<=v.2.2.2.2.2/\v.2.2.2.2.2<=p+8):=by
  intro x c q hq hq'
  refine aaM ?_
  simp only [afW]
  refine aaK (fun _=>An.bind (abA hb (by omega)) fun v h1=>An.bind (ajA hb (by omega)) fun v h2=>abd (An.bind (aau hb 4 (by omega)) fun v h3=>aaF (aaF (aag (by simp only;omega)) (by simp only [List.length_cons,List.length_nil];omega)))) (fun _=>aaK (fun _=>j1 _ _ _ hq hq') (fun _=>j1 _ _ _ hq hq'))
 simp only [alp]
 exact An.bind (aau hb 12 (by omega)) fun v h1=>aaK (fun _=>j0 _ _ _ (by omega) (by omega)) (fun _=>j0 _ _ _ (by omega) (by omega))
theorem agx {b:List Int} (hb:Bt b) {m:Nat} (hm:m<=14):∀ (d i:Nat),i+1+d=m->∀ (o:List SQ) (p:Int),o.length=i->0<=p/\p+8*(d:Int)+2<=1000000->An (fun k=>af0 k (m:Int) o (i:Int) b p) (fun v=>1<=v.1.length/\v.1.length<=14/\p<=v.2/\v.2<=p+8*(d:Int)+2)
 | 0,i,hi,o,p,ho,h=>by
  refine aaM ?_
  simp only [af0,aav (show i < 9223372036854775807 by omega)]
  refine ab1 (An.bind (aau hb 3 (by omega)) fun v h1=>aaK (fun _=>An.bind (aau hb (m:Int) (by omega)) fun u h2=>aaF (aag ?_)) (fun _=>aaF (aag ?_)))
  ·simp only [List.length_append,List.length_cons,List.length_nil];omega
  simp only [List.length_append,List.length_cons,List.length_nil];omega
 | d+1,i,hi,o,p,ho,h=>by
  refine aaM ?_
  simp only [af0,aav (show i < 9223372036854775807 by omega)]
  refine aaF (An.bind (ajx hb (by omega) (by omega)) fun v h1=>aaF ?_)
  exact (agx hb hm d (i+1) (by omega) _ v.2.2.2.2.2 (by simp [ho]) (by omega)).mono fun u h2=>⟨h2.1,h2.2.1,by omega,by omega⟩
theorem aeV {b:List Int} (hb:Bt b) {p:Int} (h:0<=p/\p+120<=1000000):An (fun k=>ajK k b p) (fun v=>1<=v.1.length/\v.1.length<=14/\p<=v.2/\v.2<=p+120):=by
 simp only [ajK]
 refine An.bind (aau hb 14 (by omega)) fun v h1=>?_
 obtain⟨v1,v2⟩:=v
 obtain⟨m,rfl⟩:=Int.eq_ofNat_of_zero_le h1.1
 have hm:(m:Int) < 14:=h1.2.1
 have hp:v2=p+1:=h1.2.2
 have e:wrap64 (1+(m:Int))=((m+1:Nat):Int):=by rw [aaS (by omega) (by omega)];omega
 simp only [e]
 exact (agx hb (m:=m+1) (by omega) m 0 (by omega) [] v2 rfl (by omega)).mono fun u h2=>⟨h2.1,h2.2.1,by omega,by omega⟩
theorem ajy {b:List Int} (hb:Bt b) {p:Int} (h:0<=p/\p+9800<=1000000):An (fun k=>alr k b p) (fun v=>1<=v.1.length/\v.1.length<=600/\p<=v.2/\v.2<=p+9800):=by
 simp only [alr]
 refine An.bind (aau hb 2 (by omega)) fun v h1=>aaK (fun _=>An.bind (aeV hb (by omega)) fun u h2=>aag ⟨h2.1,by show u.1.length<=600;omega,by simp only;omega⟩) (fun _=>?_)
 refine An.bind (aik hb (by omega) (by omega)) fun s h2=>An.bind (agm h2.1) fun c h3=>aaK (fun _=>An.bind (aeV hb (by omega)) fun u h4=>aag ⟨h4.1,by show u.1.length<=600;omega,by simp only;omega⟩) (fun g=>?_)
 refine An.bind (aau hb 3 (by omega)) fun t h4=>?_
 have e1:Int.tdiv t.1 2=t.1 / 2:=Int.tdiv_eq_ediv_of_nonneg h4.1
 have e2:wrap64 (Int.tdiv t.1 2)=t.1 / 2:=by rw [e1,aaS (by omega) (by omega)]
 rw [e2]
 obtain⟨r,hr,er⟩:=apV (c:=c.1) (t:=t.1 / 2) ⟨h3 (by omega),by omega,by omega⟩
 have h6:=abb hr
 exact An.bind (amu (P:=fun u=>u=(r,true)) er rfl) fun u hu=>aag (by subst hu;exact⟨h6.1,h6.2,by simp only;omega,by simp only;omega⟩)
theorem ajz {b:List Int} (hb:Bt b) {p:Int} (h:0<=p/\p+9900<=1000000):An (fun k=>als k b p) (fun v=>v.1.length<=601/\p<=v.2/\v.2<=p+9900):=by
 simp only [als]
 refine An.bind (ajy hb (by omega)) fun c h1=>An.bind (aau hb 36 (by omega)) fun v h2=>?_
 refine aaK (fun _=>aaF (aag ?_)) (fun _=>aaK (fun _=>aaF (aag ?_)) (fun _=>aaK (fun _=>aaF (aag ?_)) (fun _=>aaK (fun _=>aag ?_) (fun _=>aag ?_))))
 all_goals
  simp only [List.length_set,List.length_append,List.length_cons,List.length_nil]
  omega
theorem akP {x:Int} (h:(Lit.int .u8 x).wf=true):0<=x/\x < 256:=by
 simp [Lit.wf,IntKind.min,IntKind.max,IntKind.bits,IntKind.signed] at h
 omega
theorem akv {l:List Int} (h:∀ x∈l,(Lit.int .u8 x).wf=true):An (fun _=>al8 l) (fun v=>Bt v.1/\v.2=0):=by
 simp only [al8]
 refine aaK (fun c=>aaF (aag ⟨⟨by simp;omega,fun x hx=>akP (h x (List.mem_of_mem_take hx))⟩,rfl⟩)) (fun c=>aag ⟨⟨by show l.length<=2000;omega,fun x hx=>akP (h x hx)⟩,rfl⟩)
theorem afN {l:List Int} (h:∀ x∈l,(Lit.int .u8 x).wf=true):An (fun k=>am0 k l) (fun v=>v.length<=601):=by
 simp only [am0]
 exact An.bind (akv h) fun v h1=>An.bind (ajz h1.1 (by omega)) fun c h2=>aag h2.1
theorem amx {T:List Bool} {s:Nat} (h:T.length=12) (hb:∀ r,r < 12->T.getD r false=s.testBit r):T=row s:=by
 apply List.ext_getElem (by rw [h,abv])
 intro i h1 h2
 have e1:=hb i (by omega)
 have e2:=ad7 s i (by omega)
 simp [h1] at e1
 simp [h2] at e2
 rw [e1,e2]
theorem ahF {s:Nat} (hs:s < 65536):∀ (d p:Nat),p+d=12->∀ T:List Bool,T.length=12->(∀ r,r < p->T.getD r false=s.testBit r)->Ev (fun k=>afb k (s:Int) T 12 (p:Int)) (row s)
 | 0,p,hp,T,hT,hb=>by
  refine Ev.succ ?_
  simp only [afb]
  exact aa5 (aaX Ev.pure (amx hT fun r hr=>hb r (by omega)))
 | d+1,p,hp,T,hT,hb=>by
  refine Ev.succ ?_
  simp only [afb,aja hs (show p < 16 by omega),aav (show p < 9223372036854775807 by omega)]
  refine aa2 (aaH (aa2 (aa2 (ahF hs d (p+1) (by omega) _ (by simpa using hT) fun r hr=>?_))))
  rw [Int.toNat_natCast,ac2 _ _ _ _ _ (by omega)]
  by_cases e:r=p
  ·rw [if_pos e,e]
  rw [if_neg e]
  exact hb r (by omega)
theorem amK {s:Nat} (hs:s < 65536):Ev (fun k=>amk k (s:Int)) (row s):=by
 simp only [amk]
 exact aa2 (aaH (ahF hs 12 0 rfl _ (by simp) fun r hr=>absurd hr (by omega))) (by decide)
theorem aeU (v:List SQ) (h:v.length<=1000):∀ (d p:Nat),p+d=v.length->Ev (fun k=>aeY k v v (p:Int)) true
 | 0,p,hp=>by
  refine Ev.succ ?_
  simp only [aeY]
  exact aa5 Ev.pure
 | d+1,p,hp=>by
  refine Ev.succ ?_
  simp only [aeY,aav (show p < 9223372036854775807 by omega)]
  exact aa2 (aa2 (aa2 (aa5 (aeU v h d (p+1) (by omega)))))
theorem acH (v:List SQ) (h:v.length<=1000):Ev (fun k=>SbI.f k v v) true:=by
 simp only [SbI.f]
 exact aa2 (aeU v h v.length 0 (Nat.zero_add _))
theorem amO {c:List SQ} (h:¬ CV (qs c)):Ev (fun k=>Sak.f k c) ([],false)/\Ev (fun k=>Sa1.f k c) ([],false):=by
 refine⟨?_,?_⟩
 ·simp only [Sak.f]
  exact aaH (Ev.bind (ach c) (aa5 Ev.pure (by simpa [cvB] using h)))
 simp only [Sa1.f]
 exact Ev.bind (ajo c) (aa5 Ev.pure (by simpa [cvB] using h))
theorem amM {c:List SQ} (h:CV (qs c)):∃ L,LT c L/\Ev (fun k=>Sak.f k c) (adg L c,true)/\Ev (fun k=>Sa1.f k c) (adg L c,true):=by
 have h6:=abb h
 obtain⟨L,hL,e1,e2⟩:=aih h
 have ed:Ev (fun k=>Sa5.f k c) (ints (acO c L)):=by
  simp only [Sa5.f]
  exact Ev.bind e2 (Sa5.out h hL.1 c.length 0 (Nat.zero_add _))
 refine⟨L,hL,?_,?_⟩
 ·simp only [Sak.f]
  exact aaH (Ev.bind (ach c) (aa2 (Ev.bind e1 (Sak.out h hL.1 c.length 0 (Nat.zero_add _))) (decide_eq_true h)))
 simp only [Sa1.f,amq]
 refine Ev.bind (ajo c) (aa2 (Ev.bind (ab8 (if_pos (by omega))) (Ev.bind (F:=fun k=>Sa5.f k c) ed ?_)) (decide_eq_true h))
 rw [ab6]
 exact Sa1.out h (acO c L).length 0 (Nat.zero_add _) c rfl fun i hi=>by simp
theorem LT.uniq {c:List SQ} {L M:List Nat} (h:LT c L) (g:LT c M):L=M:=by
 have l1:=h.tab.1
 have l2:=g.tab.1
 apply List.ext_getElem (by omega)
 intro i h1 h2
 have e:=Nat.eq_of_testBit_eq fun r=>Bool.eq_iff_iff.2 ((h.iff i (by omega) r).trans (g.iff i (by omega) r).symm)
 simpa [h1,h2] using e
theorem ajv {c:List SQ} (h:CV (qs c)) {i:Nat} (hi:i < c.length):∃ L,LT c L/\Ev (fun k=>apW k c (i:Int)) (row (aft (q_ (qa c i)) i L))/\Ev (fun k=>ags k c (i:Int)) (row (aft (q_ (qa c i)) i L)):=by
 have h6:=abb h
 obtain⟨L,hL,e1,e2⟩:=aih h
 have e3:wrap64 ((c.length:Int) - 1)=(c.length:Int) - 1:=aaS (by omega) (by omega)
 refine⟨L,hL,?_,?_⟩
 ·simp only [apW,ahl,e3]
  refine Ev.bind (ach c) (aa2 (aaH (Ev.succ ?_)) (decide_eq_true h))
  simp only [alY]
  exact aa5 (Ev.bind e1 (Ev.bind (amb h hL.tab hi) Ev.pure)) (by simp;omega)
 simp only [ags]
 refine Ev.bind (ajo c) (aa2 (aa5 (Ev.succ ?_)) (decide_eq_true h))
 simp only [ag6]
 have ha:=agG hL.tab (q_ (qa c i)) i
 exact aa5 (Ev.bind e2 (Ev.bind (amo h hL.tab hi) (Ev.bind (amK (by omega)) Ev.pure))) (by simp;omega)
def neQ (a b:SQ):Bool:=(!(a.f0 == b.f0) || (!(a.f1 == b.f1) || (!(a.f2 == b.f2) || (!(a.f3 == b.f3) || (!(a.f4 == b.f4))))))
theorem aiZ (a:SQ):neQ a a=false:=by simp [neQ]
theorem ap6 {a b:SQ} (h:a.f0≠b.f0):neQ a b=true:=by simp [neQ,h]
theorem amN {c:List SQ} {L:List Nat} {n:Nat} (h:(qa c n).f0=1\/(qa c n).f0=2\/(qa c n).f0=3):((!(aft (q_ (qa c n)) n L).testBit (qa c n).f1.toNat) == neQ (aeN c L n) (qa c n))=true:=by
 have e:dd c L n = !(aft (q_ (qa c n)) n L).testBit (qa c n).f1.toNat:=by
  unfold dd
  rcases h with h|h|h <;> simp [h]
 rw [aeN,<- e]
 by_cases g:dd c L n=true
 ·rw [if_pos g,ap6 (by show (4:Int)≠(qa c n).f0;omega),g]
  rfl
 rw [if_neg g,aiZ]
 simpa using g
theorem akL {c:List SQ} {L:List Nat} {n:Nat} (h:¬ ((qa c n).f0=1\/(qa c n).f0=2\/(qa c n).f0=3)):(false == neQ (aeN c L n) (qa c n))=true:=by
 have e:dd c L n=false:=by
  unfold dd
  have h1:(qa c n).f0≠1:=by omega
  have h2:(qa c n).f0≠2:=by omega
  have h3:(qa c n).f0≠3:=by omega
  simp [h1,h2,h3]
 rw [aeN,e,if_neg (by simp),aiZ]
 rfl
theorem ahE {l m:List Int} (hw:∀ x∈l,(Lit.int .u8 x).wf=true):An (fun k=>alk k l m) (fun v=>v=true):=by
 have j:∀ b,An (fun k=>afU k l m b) (fun v=>v=true):=by
  intro b
  refine aaM ?_
  simp only [afU]
  refine aaK (fun _=>aag rfl) (fun _=>An.bind (afN hw) fun c hc=>?_)
  by_cases h:CV (qs c)
  ·obtain⟨L,hL,e1,e2⟩:=amM h
   have h6:=abb h
   have hl:=abB L c
   have hn:m.length % c.length < c.length:=Nat.mod_lt _ (by omega)
   have en:(m.length:Int) % (c.length:Int)=((m.length % c.length:Nat):Int):=(Int.natCast_emod _ _).symm
   generalize m.length % c.length=n at hn en
   obtain⟨M,hM,o1,o2⟩:=ajv h hn
   obtain rfl:=hL.uniq hM
   obtain⟨⟨d0,d1⟩,_⟩:=abz (abK h hn)
   simp only [q_] at d0 d1
   have rl:=abv (aft (q_ (qa c n)) n L)
   refine amu (Ev.bind e2 (Ev.bind e1 (aa5 (Ev.bind (acH (adg L c) (by omega)) (aa2 (Ev.succ ?_) rfl)) (by simp)))) rfl
   simp only [aeZ,en,ac1,adf L hn]
   refine aa5 (aa5 (aa2 (aa2 ?_))) (by simp)
   have fin:(qa c n).f0=1\/(qa c n).f0=2\/(qa c n).f0=3->((!abJ false (row (aft (q_ (qa c n)) n L)) (qa c n).f1) == neQ (aeN c L n) (qa c n))=true:=by
    intro g
    rw [aiT d0 d1]
    exact amN g
   by_cases g1:(qa c n).f0=1
   ·exact aa2 (Ev.bind o2 (aa2 (aa2 (aa2 (aaX Ev.pure (fin (.inl g1))))))) g1
   refine aa5 ?_ g1
   by_cases g2:(qa c n).f0=2
   ·exact aa2 (Ev.bind o2 (aa2 (aa2 (aa2 (aaX Ev.pure (fin (.inr (.inl g2)))))))) g2
   refine aa5 ?_ g2
   by_cases g3:(qa c n).f0=3
   ·exact aa2 (Ev.bind o2 (aa2 (aa2 (aa2 (aaX Ev.pure (fin (.inr (.inr g3)))))))) g3
   exact aa5 (aa2 (aaX Ev.pure (akL (by omega)))) g3
  obtain⟨e1,e2⟩:=amO h
  refine amu (Ev.bind e2 (Ev.bind e1 (aa5 (Ev.bind (acH _ (by simp)) (aa2 (Ev.succ ?_) rfl)) (by simp)))) rfl
  simp only [aeZ]
  exact aa2 (aa2 (Ev.bind (acH _ (by simp)) Ev.pure) (by simp)) (by simp)
 simp only [alk]
 exact aaK (fun _=>j _) (fun _=>j _)
end Go.Proofs.YtebpplallecogaaGreat.M
namespace Go.Proofs.YtebpplallecogaaGreat.Pure
open Go.Proofs.YtebpplallecogaaGreat.M
theorem FnDeadWhy:aji:=by
 intro l m _ _ hw _ _ _
 obtain⟨v,e,h⟩:=ahE (m:=m) hw
 subst h
 exact e.get
end Go.Proofs.YtebpplallecogaaGreat.Pure
namespace Go.Proofs.YtebpplallecogaaGreat.fnDeadWhy
open Go.ChangeShapes Go.WideShapes Go.ChangeAt Go.RowKit
open Go.ChangeMaps (open_string shut_string)
theorem own : ownKnob Tryz.prog.godebug = none := by kernel_rfl
theorem laidOut : laidOutB Tryz.prog = true := by kernel_rfl
def IsRow (k : IntKind) (w : World) (a : Option Addr) (len cap : Nat) (zs : List Int) : Prop :=
  (a = none ∧ len = 0 ∧ cap = 0 ∧ zs = []) ∨
  ∃ x, a = some x ∧ len ≤ cap ∧ cap ≤ maxLen ∧ zs.length = cap ∧ (∀ i, i < zs.length → w.cell? (x.add i) = some (.int k (zs.getD i 0))) ∧ ∀ n ∈ zs, (Lit.int k n).wf = true
theorem lifted (os : Os) (started : os.Started) (H : Type) (enc : TypeId × Value → H) :
    ReturnsInHanded {} Tryz.checked os 6 .any (Rows.fnDeadWhySpec.pre6 enc Tryz.prog Tryz.f6 Rows.fnDeadWhyRow.domain false) (Rows.fnDeadWhySpec.post enc Tryz.prog Tryz.f6 false true false false) := by
  refine returnsInHanded_of_change_sized (C := Tryz.checked) own started (by kernel_rfl) Tryz.func6
    (ChangeSpec.witness6 (enc := enc) (C := Tryz.checked) false ⟨#[], #[.slice none 0 0, .slice none 0 0], []⟩ 8 (by kernel_rfl) (by kernel_rfl) (by kernel_rfl) (by kernel_rfl)) ?_
  intro W base args ds gs before hval0 hW hcnd hsz0 _
  have hsz : (DataW.weightsEach Tryz.prog (Tryz.f6.params.toList ++ Rows.fnDeadWhySpec.plain.varTypes Tryz.prog) (ds ++ gs)).all (· ≤ reachBytes) = true := hsz0
  have hval : ∀ (j : Nat) t v, Tryz.f6.params[j]? = some t → args[j]? = some v → Value.okWide Tryz.prog W .any base t v := hval0
  have hW' := hW
  obtain ⟨p, q, hA0, hV, rfl, hfz, hnd⟩ := hW
  have hA : DataW.TrodAll enc Tryz.prog W 0 (fun _ => true) true Tryz.f6.params.toList args.toList ds p := hA0
  rw [Tryz.params6] at hA hval hsz
  obtain ⟨v0, vs0, d0, ds0, p0, q0, hargs, rfl, rfl, h0, r0⟩ := trodAll_cons hA
  obtain ⟨v1, vs1, d1, ds1, p1, q1, rfl, rfl, rfl, h1, r1⟩ := trodAll_cons r0
  obtain ⟨rfl, rfl, rfl⟩ := trodAll_nil r1
  obtain rfl : args = #[v0, v1] := by cases args; simp_all
  obtain ⟨rfl, rfl⟩ := trodVars_none hV
  obtain ⟨a0, len0, cap0, rfl⟩ := okWide_slice Tryz.underlying22 (hval 0 22 v0 rfl rfl)
  have k0 := h0
  have lt0 : ∀ x ∈ p0, x.block < W.heap.size := by obtain ⟨m, hm⟩ := k0; exact DataW.trod_lt m _ _ _ hm
  obtain ⟨z0, w0⟩ : ∃ zs, IsRow .u8 W a0 len0 cap0 zs := by
    obtain ⟨fuel, hf⟩ := h0
    rcases open_ints Tryz.underlying22 Tryz.underlying5 (by kernel_rfl) hf with ⟨hcs, _⟩ | ⟨x, l, c, zs, hcs, _, hl, hm, hz, _, hcell, hwz⟩
    · simp [Value.cells] at hcs
      obtain ⟨rfl, rfl, rfl⟩ := hcs
      exact ⟨[], .inl ⟨rfl, rfl, rfl, rfl⟩⟩
    · simp [Value.cells] at hcs
      obtain ⟨rfl, rfl, rfl⟩ := hcs
      exact ⟨zs, .inr ⟨_, rfl, hl, hm, by simpa using hz, hcell, hwz⟩⟩
  have y0 : len0 * 1 ≤ 140737488351232 := Go.Proofs.YtebpplallecogaaGreatW.PrintWords.sized_ints hsz (j := 0) (t := 22) rfl rfl Tryz.underlying22 Tryz.underlying5 (by kernel_rfl) (by kernel_rfl) h0
  obtain ⟨a1, len1, cap1, rfl⟩ := okWide_slice Tryz.underlying22 (hval 1 22 v1 rfl rfl)
  have k1 := h1
  have lt1 : ∀ x ∈ p1, x.block < W.heap.size := by obtain ⟨m, hm⟩ := k1; exact DataW.trod_lt m _ _ _ hm
  obtain ⟨z1, w1⟩ : ∃ zs, IsRow .u8 W a1 len1 cap1 zs := by
    obtain ⟨fuel, hf⟩ := h1
    rcases open_ints Tryz.underlying22 Tryz.underlying5 (by kernel_rfl) hf with ⟨hcs, _⟩ | ⟨x, l, c, zs, hcs, _, hl, hm, hz, _, hcell, hwz⟩
    · simp [Value.cells] at hcs
      obtain ⟨rfl, rfl, rfl⟩ := hcs
      exact ⟨[], .inl ⟨rfl, rfl, rfl, rfl⟩⟩
    · simp [Value.cells] at hcs
      obtain ⟨rfl, rfl, rfl⟩ := hcs
      exact ⟨zs, .inr ⟨_, rfl, hl, hm, by simpa using hz, hcell, hwz⟩⟩
  have y1 : len1 * 1 ≤ 140737488351232 := Go.Proofs.YtebpplallecogaaGreatW.PrintWords.sized_ints hsz (j := 1) (t := 22) rfl rfl Tryz.underlying22 Tryz.underlying5 (by kernel_rfl) (by kernel_rfl) h1
  clear hA0 hval0 hsz0 hsz
  refine (M.aqj Pure.FnDeadWhy a0 len0 cap0 z0 a1 len1 cap1 z1 W w0 y0 w1 y1).mono fun e W' ⟨he, bel⟩ => ?_
  subst he
  exact ⟨_, rfl, _, _, _, [], _, [], hW', trodAll_mk1 (shut_bool Tryz.underlying4 _), (trodAll_cons_mk (Below.trod laidOut (by kernel_rfl) (of_decide_eq_true (by kernel_rfl)) k0 bel lt0) (trodAll_cons_mk (Below.trod laidOut (by kernel_rfl) (of_decide_eq_true (by kernel_rfl)) k1 bel lt1) trodAll_mk0)), rfl, bel.frame _, fun h => by cases h⟩
theorem over : Rows.fnDeadWhyRow.holds Tryz.pinned (OpenSpec.ofChange Rows.fnDeadWhySpec) :=
  OpenClaim.holds_of_wide 6 Tryz.f6 rfl rfl rfl rfl rfl rfl rfl ⟨rfl, rfl, rfl, rfl, rfl⟩ rfl rfl rfl rfl rfl (by kernel_rfl) Tryz.func6 (by kernel_rfl)
    (of_decide_eq_true (by kernel_rfl)) (by unfold Func.isWrapper; first | (rw [if_pos (by decide +kernel)]; kernel_rfl) | (rw [if_neg (by decide +kernel)]; exact ⟨rfl, rfl⟩))
    (fun os started H enc _ => lifted os started H enc)
theorem proved : Rows.FnDeadWhySaid := over
#print axioms proved
end Go.Proofs.YtebpplallecogaaGreat.fnDeadWhy
namespace Go.Proofs.YtebpplallecogaaGreat
/-- The row, under a short name, for the claim. -/
theorem fnDeadWhy_holds : Rows.FnDeadWhySaid := fnDeadWhy.proved
end Go.Proofs.YtebpplallecogaaGreat
