/- A function as plain Lean and its contract: written by a program of this session's, turned from the kit's print. -/
import Derived.Test.YtebpplallecogaaGreatDC4
import Derived.WalkSpells
import Derived.Test.YtebpplallecogaaGreatRows
import Derived.WalkKit
import Derived.ProofKit
import Derived.OpenShut
import Derived.ShutString
import Derived.ChangeOld
import Derived.Below
import Derived.SizedLaws
import Derived.Test.YtebpplallecogaaGreatDCWSized
set_option linter.unusedVariables false
set_option linter.unusedSimpArgs false
set_option maxHeartbeats 8000000
set_option maxRecDepth 100000
namespace Go.Proofs.YtebpplallecogaaGreat.M
open Go.Proofs.Tryz Go.RowKit Go.Proofs.YtebpplallecogaaGreatW.PrintWords Go.Proofs.YtebpplallecogaaGreatW.PrintLast Go.Proofs.YtebpplallecogaaGreatW.PrintMore Kd
attribute [local go_sem] aak aai aax aaw aae aad aaj aah
def ali (k:Nat) (aj:List Int) (aA:Int):Option ((List S27) × Int):=(alh k aj aA).bind fun ah=>((ab0 k aj ah.2 36).bind fun ak=>(if ak.1=0 then (if 0 < (ah.1.length:Int) then (some ((ah.1.set (0:Int).toNat (⟨(aa0 ah.1 0).f0,12,(aa0 ah.1 0).f2,(aa0 ah.1 0).f3,(aa0 ah.1 0).f4⟩:S27)),ak.2)) else (none)) else (if ak.1=1 then (if ah.1.length < 3518437208883 then (some ((ah.1 ++ [(⟨9,0,0,0,0⟩:S27)]),ak.2)) else (none)) else (if ak.1=2 then (if 0 < (ah.1.length:Int) then (some ((ah.1.set (0:Int).toNat (⟨4,0,0,0,(ah.1.length:Int)⟩:S27)),ak.2)) else (none)) else (if ak.1=3 then (some ((([]:List S27)),ak.2)) else (some (ah.1,ak.2)))))))
theorem alj (k g:Nat) (aj:List Int) (aA:Int) (r1:List S27) (r2:Int) (w0 w:World) (hI:Sab w0 w g aj aA) (hB:Below w0.heap.size w0 w) (h:ali k aj aA=some (r1,r2)) :
  Calls prog 33 #[.pointer (some ⟨g,0,none⟩)] w fun e w'=>∃ dS:Value,e = .returned (dS)/\Kd.R k27 27 w' w.heap.size (fun _=>True) dS r1/\Sab w0 w' g aj r2/\Below w0.heap.size w0 w'/\aa6 w w' g none:=by
 have eG:=underlying27
 have HI0:=aM hI
 have HK:=aM (aaI w g none)
 have HL:=aM hB.size
 clear hI
 have HW0:=aM hB.size
 have HB:=aM hB
 clear hB
 have H:=h;unfold ali at H
 clear h
 obtain⟨⟨ae,ai⟩,A2,H⟩:=qE H
 try dsimp only at H
 obtain⟨⟨aC,aD⟩,A3,H⟩:=qE H
 try dsimp only at H
 replace H:=jE H;rcases H with ⟨dG,dH,H⟩ | ⟨c4,dG,dH,H⟩
 ·replace H:=jU H;obtain⟨c5,H⟩:=H
  have eH:=decide_eq_true c5
  have eO:decide (0 < ae.length)=true:=decide_eq_true (by omega)
  clear c5
  obtain⟨bZ,aH⟩:=ky ((ae.set (0:Int).toNat (⟨(aa0 ae 0).f0,12,(aa0 ae 0).f2,(aa0 ae 0).f3,(aa0 ae 0).f4⟩:S27)):List S27)
  replace H:=kv aH H
  obtain⟨rfl,rfl⟩:=oJ2 H
  go_enter func33,ntmps33
  go_wp2_with (first|((with_reducible refine jc 51 5 ?_);refine jM func51 (adj k g aj aA ae ai w0 _ (qI HI0) qB A2.out) ?_;rintro aG w7 ⟨ho0,hi,hb,hk⟩;have aa:=aM (R_lower ho0 kU);replace HK:=kI hk;replace HB:=aM hb;replace HI0:=aM hi;clear hb hk hi;(try clear ho0))|((with_reducible refine jc 52 7 ?_);refine jK func52 (aab k g aj ai 36 aC aD w0 _ (qI HI0) qB A3.out) ?_;rintro w8 ⟨hi,hb,hk⟩;replace aa:=aM (R_mono (R_keep (Sab.apart (show Sab w0 _ g aj ai from qI HI0) (qR aa) (by decide)) hk (fun _ h=>h.2)) (fun _ h=>h.1));replace HK:=kI hk;replace HB:=aM hb;replace HI0:=aM hi;clear hb hk hi;have p6:0<=(0:Int):=(by omega);have q6:(0:Int) < ((ae.length:Int):Int):=qD;have fq:(0 < ae.length)=True:=eq_true (by omega);obtain⟨aZ,dU,dV,dW,eP,fu,dX⟩:=R_form aa.out (by omega);(first|cases dV|(injection dV with ea_ en_ ec_;(first|subst ea_|(injection ea_ with ea_;subst ea_));subst ec_;clear en_));have eQ:=aM dW;have fw:=aM dX;clear dW eP dX;obtain⟨fA,dI,dY,bg,bi⟩:=R_elem aa.out z27 (0:Int) p6 q6;obtain rfl:=acz dY;have bK:w8.cell? ⟨aZ,(0:Int).toNat*5,none⟩=some (iV ((aa0 ae 0).f0)):=bg 0 _ rfl;have bL:w8.cell? ⟨aZ,(0:Int).toNat*5+1,none⟩=some (iV ((aa0 ae 0).f1)):=bg 1 _ rfl;have bM:w8.cell? ⟨aZ,(0:Int).toNat*5+2,none⟩=some (iV ((aa0 ae 0).f2)):=bg 2 _ rfl;have bN:w8.cell? ⟨aZ,(0:Int).toNat*5+3,none⟩=some (iV ((aa0 ae 0).f3)):=bg 3 _ rfl;have bO:w8.cell? ⟨aZ,(0:Int).toNat*5+4,none⟩=some (iV ((aa0 ae 0).f4)):=bg 4 _ rfl;have bP:w8.frozen? ⟨aZ,(0:Int).toNat*5,none⟩=false:=bi 0;have bQ:w8.frozen? ⟨aZ,(0:Int).toNat*5+1,none⟩=false:=bi 1;have bR:w8.frozen? ⟨aZ,(0:Int).toNat*5+2,none⟩=false:=bi 2;have bS:w8.frozen? ⟨aZ,(0:Int).toNat*5+3,none⟩=false:=bi 3;have bT:w8.frozen? ⟨aZ,(0:Int).toNat*5+4,none⟩=false:=bi 4;clear dI bg bi dY;(try rw [show ((0:Int)).toNat=0 from rfl] at bK);(try simp only [Nat.reduceMul,Nat.zero_mul,Nat.zero_add,Nat.reduceAdd] at bK);(try rw [show ((0:Int)).toNat=0 from rfl] at bP);(try simp only [Nat.reduceMul,Nat.zero_mul,Nat.zero_add,Nat.reduceAdd] at bP);(try rw [show ((0:Int)).toNat=0 from rfl] at bL);(try simp only [Nat.reduceMul,Nat.zero_mul,Nat.zero_add,Nat.reduceAdd] at bL);(try rw [show ((0:Int)).toNat=0 from rfl] at bQ);(try simp only [Nat.reduceMul,Nat.zero_mul,Nat.zero_add,Nat.reduceAdd] at bQ);(try rw [show ((0:Int)).toNat=0 from rfl] at bM);(try simp only [Nat.reduceMul,Nat.zero_mul,Nat.zero_add,Nat.reduceAdd] at bM);(try rw [show ((0:Int)).toNat=0 from rfl] at bR);(try simp only [Nat.reduceMul,Nat.zero_mul,Nat.zero_add,Nat.reduceAdd] at bR);(try rw [show ((0:Int)).toNat=0 from rfl] at bN);(try simp only [Nat.reduceMul,Nat.zero_mul,Nat.zero_add,Nat.reduceAdd] at bN);(try rw [show ((0:Int)).toNat=0 from rfl] at bS);(try simp only [Nat.reduceMul,Nat.zero_mul,Nat.zero_add,Nat.reduceAdd] at bS);(try rw [show ((0:Int)).toNat=0 from rfl] at bO);(try simp only [Nat.reduceMul,Nat.zero_mul,Nat.zero_add,Nat.reduceAdd] at bO);(try rw [show ((0:Int)).toNat=0 from rfl] at bT);(try simp only [Nat.reduceMul,Nat.zero_mul,Nat.zero_add,Nat.reduceAdd] at bT);replace p6:=eq_true p6;replace q6:=eq_true q6;have dZ:=aM (show Kd.R k27 27 w8 w.heap.size (fun _=>True) (.slice (some ⟨aZ,0,none⟩) ae.length dU) ae from (qR aa));obtain⟨fB,cu,d9,bV,cz⟩:=R_elem dZ.out z27 (0:Int) (by omega) (by have h_:(0:Int) < ((ae.length:Int):Int):=qD;first|exact h_|(have e_:=(R_reads' aa.out).1;omega)|simpa using h_);obtain rfl:=acz d9;have dJ:=R_seg dZ.out (0:Int) (by omega) (by have h_:(0:Int) < ((ae.length:Int):Int):=qD;first|exact h_|(have e_:=(R_reads' aa.out).1;omega)|simpa using h_) (seg:=[iV 12]) (j:=1) cu bV (show 2<=5 from by decide) (x':=(⟨(aa0 ae 0).f0,12,(aa0 ae 0).f2,(aa0 ae 0).f3,(aa0 ae 0).f4⟩:S27)) (aaT _ _ _ (⟨(aa0 ae 0).f0,12,(aa0 ae 0).f2,(aa0 ae 0).f3,(aa0 ae 0).f4⟩:S27) ) (fun _ hk=>hk);have bu:=bV 1 _ rfl;(try simp only [show (k27).sz=5 from rfl,Nat.mul_one,Nat.add_zero] at bu);(try rw [show ((0:Int)).toNat=0 from rfl] at bu);(try simp only [Nat.reduceMul,Nat.zero_mul,Nat.zero_add,Nat.reduceAdd] at bu);have bv:=cz 1;(try simp only [show (k27).sz=5 from rfl,Nat.mul_one,Nat.add_zero] at bv);(try rw [show ((0:Int)).toNat=0 from rfl] at bv);(try simp only [Nat.reduceMul,Nat.zero_mul,Nat.zero_add,Nat.reduceAdd] at bv);clear cu bV cz d9)|((with_reducible refine aau (t:=3) (p:=12) rfl ?_);refine aap (t:=3) (p:=12) (v:=?dK) (w1:=(w8.setCell ⟨aZ,1,none⟩ (iV 12))) ?hg ?ho ?hn ?hr ?_;(case ho=>rfl);(case hg=>rfl);(case hn=>rfl);(case hr=>first|(go_simp;done)|(go_simp;rfl));intro dL hw;have hg:w8.grownBy dL (some aZ):=(by rw [hw];exact dJ.2);have hp_:Kd.R k27 27 dL w.heap.size (fun _=>True) (.slice (some ⟨aZ,0,none⟩) ae.length dU) bZ:=(by rw [hw,aH.out];exact dJ.1);clear dJ;replace HI0:=aM (Sab.grown (qI HI0) hg (ac4 HI0.out aa.out (by decide)));replace HB:=aM ((by rw [hw];exact aac (HB.out) (Nat.le_trans HL.out eQ.out):Below w0.heap.size w0 dL));replace HK:=aM (aa6.trans qH (aaO hg g) (R_base2 aa.out));replace aa:=aM hp_;clear hg hw hp_))
  go_ret
  exact⟨_,qW,qR aa,qI HI0,qB,qH⟩
 replace H:=jE H;rcases H with ⟨cB,cK,H⟩ | ⟨c11,cB,cK,H⟩
 ·replace H:=jL H;obtain⟨cO,H⟩:=H
  obtain⟨ed,aI⟩:=ky ((ae ++ [(⟨9,0,0,0,0⟩:S27)]):List S27)
  replace H:=kv aI H
  obtain⟨rfl,rfl⟩:=oJ2 H
  go_enter func33,ntmps33
  go_wp2_with (first|((with_reducible refine jc 51 5 ?_);refine jM func51 (adj k g aj aA ae ai w0 _ (qI HI0) qB A2.out) ?_;rintro aG fC ⟨ho0,hi,hb,hk⟩;have aa:=aM (R_lower ho0 kU);replace HK:=kI hk;replace HB:=aM hb;replace HI0:=aM hi;clear hb hk hi;(try clear ho0))|((with_reducible refine jc 52 7 ?_);refine jK func52 (aab k g aj ai 36 aC aD w0 _ (qI HI0) qB A3.out) ?_;rintro fD ⟨hi,hb,hk⟩;replace aa:=aM (R_mono (R_keep (Sab.apart (show Sab w0 _ g aj ai from qI HI0) (qR aa) (by decide)) hk (fun _ h=>h.2)) (fun _ h=>h.1));replace HK:=kI hk;replace HB:=aM hb;replace HI0:=aM hi;clear hb hk hi)|((with_reducible refine aaa (b:=.append) (xs:=#[.tmp 15,.tmp 17]) rfl ?_);at_builtin;refine R_append k27 w.heap.size rfl (.tmp 15) (.tmp 17) 23 27 (.agg #[(iV 0),(iV 0),(iV 0),(iV 0),(iV 0)]) 40 rfl underlying23 ab8 rfl (by decide) (by omega) aG ae (⟨9,0,0,0,0⟩:S27) [iV 9,iV 0,iV 0,iV 0,iV 0] (fun _=>True) (fun _=>False) rfl rfl ?aP (fun _ hk=>hk.elim) ?aF ?aO (Below.refl _ _) ?aS ?aL ?_;(case aP=>exact aaT _ _ _ (⟨9,0,0,0,0⟩:S27));(case aF=>exact (fun _ _=>trivial));(case aO=>exact (qR aa));(case aS=>exact kU);(case aL=>have:=cO.out;omega);intro ek fE ho hb hg hat;rw [<- aI.out] at ho;have bW:=aM ho;replace HI0:=aM (Sab.grown (qI HI0) hg (ac4 HI0.out aa.out (by decide)));replace HB:=aM (abF qB HL.out hb);replace HK:=aM (aa6.trans qH (aaO hg g) (R_base2 aa.out));clear aa;clear ho hb hg hat))
  go_ret
  exact⟨_,qW,qR bW,qI HI0,qB,qH⟩
 replace H:=jE H;rcases H with ⟨df,dh,H⟩ | ⟨c16,df,dh,H⟩
 ·replace H:=jU H;obtain⟨c17,H⟩:=H
  have eu:=decide_eq_true c17
  have eB:decide (0 < ae.length)=true:=decide_eq_true (by omega)
  clear c17
  obtain⟨di,aJ⟩:=ky ((ae.set (0:Int).toNat (⟨4,0,0,0,(ae.length:Int)⟩:S27)):List S27)
  replace H:=kv aJ H
  obtain⟨rfl,rfl⟩:=oJ2 H
  go_enter func33,ntmps33
  go_wp2_with (first|((with_reducible refine jc 51 5 ?_);refine jM func51 (adj k g aj aA ae ai w0 _ (qI HI0) qB A2.out) ?_;rintro aG fF ⟨ho0,hi,hb,hk⟩;have aa:=aM (R_lower ho0 kU);replace HK:=kI hk;replace HB:=aM hb;replace HI0:=aM hi;clear hb hk hi;(try clear ho0))|((with_reducible refine jc 52 7 ?_);refine jK func52 (aab k g aj ai 36 aC aD w0 _ (qI HI0) qB A3.out) ?_;rintro bn ⟨hi,hb,hk⟩;replace aa:=aM (R_mono (R_keep (Sab.apart (show Sab w0 _ g aj ai from qI HI0) (qR aa) (by decide)) hk (fun _ h=>h.2)) (fun _ h=>h.1));replace HK:=kI hk;replace HB:=aM hb;replace HI0:=aM hi;clear hb hk hi;obtain⟨eT,dn,dM⟩:=R_slice aa.out;subst dM;have dN:0<=(0:Int):=(by omega);have dO:(0:Int) < ((ae.length:Int):Int):=qD;have eU:(0 < ae.length)=True:=eq_true (by omega);obtain⟨au,eX,dw,dx,dP,eY,dz⟩:=R_form aa.out (by omega);(first|cases dw|(injection dw with ea_ en_ ec_;(first|subst ea_|(injection ea_ with ea_;subst ea_));subst ec_;clear en_));have bz:=aM dx;have eZ:=aM dz;clear dx dP dz;obtain⟨fe,dA,dB,ax,ay⟩:=R_elem aa.out z27 (0:Int) dN dO;obtain rfl:=acz dB;have bA:bn.cell? ⟨au,(0:Int).toNat*5,none⟩=some (iV ((aa0 ae 0).f0)):=ax 0 _ rfl;have bB:bn.cell? ⟨au,(0:Int).toNat*5+1,none⟩=some (iV ((aa0 ae 0).f1)):=ax 1 _ rfl;have bC:bn.cell? ⟨au,(0:Int).toNat*5+2,none⟩=some (iV ((aa0 ae 0).f2)):=ax 2 _ rfl;have bD:bn.cell? ⟨au,(0:Int).toNat*5+3,none⟩=some (iV ((aa0 ae 0).f3)):=ax 3 _ rfl;have bE:bn.cell? ⟨au,(0:Int).toNat*5+4,none⟩=some (iV ((aa0 ae 0).f4)):=ax 4 _ rfl;have bF:bn.frozen? ⟨au,(0:Int).toNat*5,none⟩=false:=ay 0;have bG:bn.frozen? ⟨au,(0:Int).toNat*5+1,none⟩=false:=ay 1;have bH:bn.frozen? ⟨au,(0:Int).toNat*5+2,none⟩=false:=ay 2;have bI:bn.frozen? ⟨au,(0:Int).toNat*5+3,none⟩=false:=ay 3;have bJ:bn.frozen? ⟨au,(0:Int).toNat*5+4,none⟩=false:=ay 4;clear dA ax ay dB;(try rw [show ((0:Int)).toNat=0 from rfl] at bA);(try simp only [Nat.reduceMul,Nat.zero_mul,Nat.zero_add,Nat.reduceAdd] at bA);(try rw [show ((0:Int)).toNat=0 from rfl] at bF);(try simp only [Nat.reduceMul,Nat.zero_mul,Nat.zero_add,Nat.reduceAdd] at bF);(try rw [show ((0:Int)).toNat=0 from rfl] at bB);(try simp only [Nat.reduceMul,Nat.zero_mul,Nat.zero_add,Nat.reduceAdd] at bB);(try rw [show ((0:Int)).toNat=0 from rfl] at bG);(try simp only [Nat.reduceMul,Nat.zero_mul,Nat.zero_add,Nat.reduceAdd] at bG);(try rw [show ((0:Int)).toNat=0 from rfl] at bC);(try simp only [Nat.reduceMul,Nat.zero_mul,Nat.zero_add,Nat.reduceAdd] at bC);(try rw [show ((0:Int)).toNat=0 from rfl] at bH);(try simp only [Nat.reduceMul,Nat.zero_mul,Nat.zero_add,Nat.reduceAdd] at bH);(try rw [show ((0:Int)).toNat=0 from rfl] at bD);(try simp only [Nat.reduceMul,Nat.zero_mul,Nat.zero_add,Nat.reduceAdd] at bD);(try rw [show ((0:Int)).toNat=0 from rfl] at bI);(try simp only [Nat.reduceMul,Nat.zero_mul,Nat.zero_add,Nat.reduceAdd] at bI);(try rw [show ((0:Int)).toNat=0 from rfl] at bE);(try simp only [Nat.reduceMul,Nat.zero_mul,Nat.zero_add,Nat.reduceAdd] at bE);(try rw [show ((0:Int)).toNat=0 from rfl] at bJ);(try simp only [Nat.reduceMul,Nat.zero_mul,Nat.zero_add,Nat.reduceAdd] at bJ);replace dN:=eq_true dN;replace dO:=eq_true dO;have dC:=aM (show Kd.R k27 27 bn w.heap.size (fun _=>True) (.slice (some ⟨au,0,none⟩) ae.length dn) ae from (qR aa));obtain⟨fo,bU,dD,av,az⟩:=R_elem dC.out z27 (0:Int) (by omega) (by have h_:(0:Int) < ((ae.length:Int):Int):=qD;first|exact h_|(have e_:=(R_reads' aa.out).1;omega)|simpa using h_);obtain rfl:=acz dD;have bX:=R_seg dC.out (0:Int) (by omega) (by have h_:(0:Int) < ((ae.length:Int):Int):=qD;first|exact h_|(have e_:=(R_reads' aa.out).1;omega)|simpa using h_) (seg:=[iV 4,iV 0,iV 0,iV 0,iV (ae.length:Int)]) (j:=0) bU av (show 5<=5 from by decide) (x':=(⟨4,0,0,0,(ae.length:Int)⟩:S27)) (aaT _ _ _ (⟨4,0,0,0,(ae.length:Int)⟩:S27) ) (fun _ hk=>hk);have aK:=av 0 _ rfl;(try simp only [show (k27).sz=5 from rfl,Nat.mul_one,Nat.add_zero] at aK);(try rw [show ((0:Int)).toNat=0 from rfl] at aK);(try simp only [Nat.reduceMul,Nat.zero_mul,Nat.zero_add,Nat.reduceAdd] at aK);have aN:=az 0;(try simp only [show (k27).sz=5 from rfl,Nat.mul_one,Nat.add_zero] at aN);(try rw [show ((0:Int)).toNat=0 from rfl] at aN);(try simp only [Nat.reduceMul,Nat.zero_mul,Nat.zero_add,Nat.reduceAdd] at aN);have aQ:=av 1 _ rfl;(try simp only [show (k27).sz=5 from rfl,Nat.mul_one,Nat.add_zero] at aQ);(try rw [show ((0:Int)).toNat=0 from rfl] at aQ);(try simp only [Nat.reduceMul,Nat.zero_mul,Nat.zero_add,Nat.reduceAdd] at aQ);have aR:=az 1;(try simp only [show (k27).sz=5 from rfl,Nat.mul_one,Nat.add_zero] at aR);(try rw [show ((0:Int)).toNat=0 from rfl] at aR);(try simp only [Nat.reduceMul,Nat.zero_mul,Nat.zero_add,Nat.reduceAdd] at aR);have aT:=av 2 _ rfl;(try simp only [show (k27).sz=5 from rfl,Nat.mul_one,Nat.add_zero] at aT);(try rw [show ((0:Int)).toNat=0 from rfl] at aT);(try simp only [Nat.reduceMul,Nat.zero_mul,Nat.zero_add,Nat.reduceAdd] at aT);have aU:=az 2;(try simp only [show (k27).sz=5 from rfl,Nat.mul_one,Nat.add_zero] at aU);(try rw [show ((0:Int)).toNat=0 from rfl] at aU);(try simp only [Nat.reduceMul,Nat.zero_mul,Nat.zero_add,Nat.reduceAdd] at aU);have aV:=av 3 _ rfl;(try simp only [show (k27).sz=5 from rfl,Nat.mul_one,Nat.add_zero] at aV);(try rw [show ((0:Int)).toNat=0 from rfl] at aV);(try simp only [Nat.reduceMul,Nat.zero_mul,Nat.zero_add,Nat.reduceAdd] at aV);have aW:=az 3;(try simp only [show (k27).sz=5 from rfl,Nat.mul_one,Nat.add_zero] at aW);(try rw [show ((0:Int)).toNat=0 from rfl] at aW);(try simp only [Nat.reduceMul,Nat.zero_mul,Nat.zero_add,Nat.reduceAdd] at aW);have aX:=av 4 _ rfl;(try simp only [show (k27).sz=5 from rfl,Nat.mul_one,Nat.add_zero] at aX);(try rw [show ((0:Int)).toNat=0 from rfl] at aX);(try simp only [Nat.reduceMul,Nat.zero_mul,Nat.zero_add,Nat.reduceAdd] at aX);have aY:=az 4;(try simp only [show (k27).sz=5 from rfl,Nat.mul_one,Nat.add_zero] at aY);(try rw [show ((0:Int)).toNat=0 from rfl] at aY);(try simp only [Nat.reduceMul,Nat.zero_mul,Nat.zero_add,Nat.reduceAdd] at aY);clear bU av az dD)|((with_reducible refine aau (t:=27) (p:=25) rfl ?_);refine aap (t:=27) (p:=25) (v:=?dQ) (w1:=(((((bn.setCell ⟨au,0,none⟩ (iV 4)).setCell ⟨au,1,none⟩ (iV 0)).setCell ⟨au,2,none⟩ (iV 0)).setCell ⟨au,3,none⟩ (iV 0)).setCell ⟨au,4,none⟩ (iV (ae.length:Int)))) ?hg ?ho ?hn ?hr ?_;(case ho=>rfl);(case hg=>rfl);(case hn=>rfl);(case hr=>first|(go_simp;done)|(go_simp;rfl));intro dR hw;have hg:bn.grownBy dR (some au):=(by rw [hw];exact bX.2);have hp_:Kd.R k27 27 dR w.heap.size (fun _=>True) (.slice (some ⟨au,0,none⟩) ae.length dn) di:=(by rw [hw,aJ.out];exact bX.1);clear bX;replace HI0:=aM (Sab.grown (qI HI0) hg (ac4 HI0.out aa.out (by decide)));replace HB:=aM ((by rw [hw];exact aac (aac (aac (aac (aac (HB.out) (Nat.le_trans HL.out bz.out)) (Nat.le_trans HL.out bz.out)) (Nat.le_trans HL.out bz.out)) (Nat.le_trans HL.out bz.out)) (Nat.le_trans HL.out bz.out):Below w0.heap.size w0 dR));replace HK:=aM (aa6.trans qH (aaO hg g) (R_base2 aa.out));replace aa:=aM hp_;clear hg hw hp_))
  go_ret
  exact⟨_,qW,qR aa,qI HI0,qB,qH⟩
 replace H:=jE H;rcases H with ⟨dE,dF,H⟩ | ⟨c24,dE,dF,H⟩
 ·obtain⟨eD,aB⟩:=ky ([]:List S27)
  replace H:=kv aB H
  obtain⟨rfl,rfl⟩:=oJ2 H
  go_enter func33,ntmps33
  go_wp2_with (first|((with_reducible refine jc 51 5 ?_);refine jM func51 (adj k g aj aA ae ai w0 _ (qI HI0) qB A2.out) ?_;rintro aG fG ⟨ho0,hi,hb,hk⟩;have aa:=aM (R_lower ho0 kU);replace HK:=kI hk;replace HB:=aM hb;replace HI0:=aM hi;clear hb hk hi;(try clear ho0))|((with_reducible refine jc 52 7 ?_);refine jK func52 (aab k g aj ai 36 aC aD w0 _ (qI HI0) qB A3.out) ?_;rintro fH ⟨hi,hb,hk⟩;replace aa:=aM (R_mono (R_keep (Sab.apart (show Sab w0 _ g aj ai from qI HI0) (qR aa) (by decide)) hk (fun _ h=>h.2)) (fun _ h=>h.1));replace HK:=kI hk;replace HB:=aM hb;replace HI0:=aM hi;clear hb hk hi)|((with_reducible refine jd 28 ?_);refine jV k27 27 ([]:List S27) [] (aa9 _ _) ?_;intro eF fI bq hb;replace bq:=kr aB bq;have bY:=aM (R_lower (R_new' bq (R_lt (qR aa))) kU);replace aa:=kO aa bq hb;replace HI0:=aM (Sab.below (qI HI0) hb);replace HK:=kY hb;replace HB:=kH hb;clear hb bq))
  go_ret
  exact⟨_,qW,by (with_reducible repeat (first|apply R_alloc|apply R_drewN|apply R_drew));exact R_mono bY.out (fun _ hk=>trivial),qI HI0,qB,qH⟩
 obtain⟨rfl,rfl⟩:=oJ2 H
 go_enter func33,ntmps33
 go_wp2_with (first|((with_reducible refine jc 51 5 ?_);refine jM func51 (adj k g aj aA ae ai w0 _ (qI HI0) qB A2.out) ?_;rintro aG fJ ⟨ho0,hi,hb,hk⟩;have aa:=aM (R_lower ho0 kU);replace HK:=kI hk;replace HB:=aM hb;replace HI0:=aM hi;clear hb hk hi;(try clear ho0))|((with_reducible refine jc 52 7 ?_);refine jK func52 (aab k g aj ai 36 aC aD w0 _ (qI HI0) qB A3.out) ?_;rintro fK ⟨hi,hb,hk⟩;replace aa:=aM (R_mono (R_keep (Sab.apart (show Sab w0 _ g aj ai from qI HI0) (qR aa) (by decide)) hk (fun _ h=>h.2)) (fun _ h=>h.1));replace HK:=kI hk;replace HB:=aM hb;replace HI0:=aM hi;clear hb hk hi))
 go_ret
 exact⟨_,qW,qR aa,qI HI0,qB,qH⟩
end Go.Proofs.YtebpplallecogaaGreat.M
namespace Go.Proofs.YtebpplallecogaaGreat.M
open Go.Proofs.Tryz Go.RowKit Go.Proofs.YtebpplallecogaaGreatW.PrintWords Go.Proofs.YtebpplallecogaaGreatW.PrintLast Go.Proofs.YtebpplallecogaaGreatW.PrintMore
attribute [local go_sem] aak aai aax aaw aae aad aaj aah
def al5 (l0:List Int):Option (List Int × Int):=if (l0.length:Int) > 2000 then (if 2000<=(l0.length:Int) then (some (l0.take 2000,0)) else (none)) else (some (l0,0))
theorem al6 (A0:Option Addr) (c0:Nat) (l0 r1:List Int) (r2:Int) (w0 w:World) (hB:Below w0.heap.size w0 w) (hr0:Kd.C (Kd.int .u8) w0 A0 l0.length l0) (hc0:l0.length<=c0) (h:al5 l0=some (r1,r2)) :
  Calls prog 34 #[.slice A0 l0.length c0] w fun e w'=>∃ g_:Nat,e = .returned (.pointer (some ⟨g_,0,none⟩))/\Sab w0 w' g_ r1 r2/\Below w0.heap.size w0 w'/\Below w.heap.size w w':=by
 have aG:=underlying71
 have aB:=aM hr0
 have aH:=aM hc0
 clear hr0 hc0
 have HBW:=jb_ w
 have HW0:=aM hB.size
 have HB:=aM hB
 clear hB
 have H:=h;unfold al5 at H
 clear h
 by_cases c2:(l0.length:Int) > 2000
 ·rw [if_pos c2] at H
  have ay:=decide_eq_true c2
  have az:decide (2000 < l0.length)=true:=decide_eq_true (by omega)
  clear c2
  replace H:=jJ H;obtain⟨aI,aJ,H⟩:=H
  obtain⟨rfl,rfl⟩:=oJ2 H
  obtain⟨i04,av,_,ax,_⟩:=info_parts aqe
  obtain⟨aC,aD,aF⟩:=ah3 (P:=prog) (Value.int .u8) 0 22 5 .i64 underlying22 av ax A0 c0 l0 2000 (by omega) (qD) aH.out
  have af:=aM (Kd.C_of_reads (h1:=fun _=>rfl) (aD _ (Kd.reads_of_C aB.out)))
  have aA:=aM aF
  clear aD aF av ax
  go_enter func34,ntmps34
  go_wp2_with (first|((with_reducible refine jd 10 ?_);refine ae9 ?hg (N:=10) ?hd (cs:=#[.slice A0 (l0.take 2000).length c0,iV 0]) (t:=71) ?hr ?_;(case hd=>rfl);(case hg=>rfl);(case hr=>first|(go_simp;done)|(go_simp;rfl));intro aa hg w5 hbox hb;have ag:=aM hbox;have ah:=aM ((by rw [hg];exact (aa4 (by repeat (first|(with_reducible first|exact HBW.out|apply aaB|apply aar|apply aan)|exact HBW.out))):w.heap.size<=aa));have ai:=aM ((Nat.le_trans HW0.out (by rw [hg];exact (aa4 (by repeat (first|(with_reducible first|exact HBW.out|apply aaB|apply aar|apply aan)|exact HBW.out))):w.heap.size<=aa):w0.heap.size<=aa));replace HBW:=aM (abS HBW.out hb);replace HB:=kH hb;clear hb hbox hg))
  go_ret
  exact⟨_,rfl,(show Sab w0 _ aa (l0.take 2000) 0 from ⟨_,_,qK ag,ai.out,af.out⟩),qB,by repeat (first|(with_reducible first|exact HBW.out|apply aaB|apply aar|apply aan|refine aac ?_ ah.out)|exact HBW.out)⟩
 rw [if_neg c2] at H
 have ay:=decide_eq_false c2
 have az:decide (2000 < l0.length)=false:=decide_eq_false (by omega)
 clear c2
 obtain⟨rfl,rfl⟩:=oJ2 H
 go_enter func34,ntmps34
 go_wp2_with (first|((with_reducible refine jd 10 ?_);refine jY _ 71 ?_;intro ae hg w6 aj hb;have ak:=aM ((by rw [hg];exact (aa4 (by repeat (first|(with_reducible first|exact HBW.out|apply aaB|apply aar|apply aan)|exact HBW.out))):w.heap.size<=ae));have au:=aM ((Nat.le_trans HW0.out (by rw [hg];exact (aa4 (by repeat (first|(with_reducible first|exact HBW.out|apply aaB|apply aar|apply aan)|exact HBW.out))):w.heap.size<=ae):w0.heap.size<=ae));replace HBW:=aM (abS HBW.out hb);replace HB:=kH hb;clear hb hg))
 go_ret
 exact⟨_,rfl,(show Sab w0 _ ae l0 0 from ⟨_,_,qK aj,au.out,aB.out⟩),qB,by repeat (first|(with_reducible first|exact HBW.out|apply aaB|apply aar|apply aan|refine aac ?_ ak.out)|exact HBW.out)⟩
def alL (k:Nat) (l0:List Int):Option ((List S27)):=(al5 l0).bind fun aa=>((ali k aa.1 aa.2).bind fun ak=>(some ak.1))
theorem alM (k:Nat) (A0:Option Addr) (c0:Nat) (l0:List Int) (r:List S27) (w:World) (hr0:Kd.C (Kd.int .u8) w A0 l0.length l0) (hc0:l0.length<=c0) (h:alL k l0=some r) :
  Calls prog 14 #[.slice A0 l0.length c0] w fun e w'=>∃ az:Value,e = .returned (az)/\Kd.R k27 27 w' w.heap.size (fun _=>True) az r/\Below w.heap.size w w':=by
 have aB:=aM hr0
 have aC:=aM hc0
 clear hr0 hc0
 have HB:=jb_ w
 have H:=h;unfold alL at H
 clear h
 obtain⟨⟨ah,ai⟩,A2,H⟩:=qE H
 try dsimp only at H
 obtain⟨⟨av,ax⟩,A3,H⟩:=qE H
 try dsimp only at H
 obtain rfl:=oJ H
 go_enter func14,ntmps14
 go_wp2_with (first|((with_reducible refine jc 34 4 ?_);refine jM func34 (al6 _ _ l0 ah ai w _ qB aB.out aC.out A2.out) ?_;rintro aj w4 ⟨hi,hb,hb2⟩;have ag:=aM hi;replace HB:=aM hb;(try clear hb);(try clear hb2);(try clear hi))|((with_reducible refine jc 33 5 ?_);refine jM func33 (alj k aj ah ai av ax w _ (qI ag) qB A3.out) ?_;rintro aA w5 ⟨ho0,hi,hb,hk⟩;have au:=kL ho0;replace HB:=aM hb;replace ag:=aM hi;(try clear hb);(try clear hk);(try clear hi);(try clear ho0)))
 go_ret
 exact⟨_,qW,qR au,qB⟩
def ajJ (a0 a1:Int):Option (Bool):=if 0<=a1 then (some ((Go.bits .and .u16 (shr .u16 a0 a1) 1) == 1)) else (none)
theorem ag2 (a0 a1:Int) (r:Bool) (w:World) (h:ajJ a0 a1=some r) :
  Calls prog 53 #[.int .u16 a0,iV a1] w fun e w'=>e = .returned (.bool r)/\aaz w w':=by
 have H:=h;unfold ajJ at H
 clear h
 replace H:=jJ H;obtain⟨ah,ai,H⟩:=H
 obtain⟨ae,aa⟩:∃ j_:Int,(shr .u16 a0 a1)=j_:=⟨_,rfl⟩
 replace H:(some ((Go.bits .and .u16 (ae) 1) == 1))=some r:=by first|(rw [aa] at H;exact H)|(simp only [aa] at H ⊢;exact H)
 have af:(a0 / 2 ^ min a1.toNat 16)=ae:=aa
 have ag:a1<=16->(a0 / 2 ^ a1.toNat)=ae:=ahr aa
 obtain rfl:=oJ H
 go_enter func53,ntmps53
 go_wp2
 go_ret
 exact⟨by first|rfl|(simp;done)|(simp only [<- aa] <;> (first|rfl|simp))|(simp [*];done),by repeat (first|exact aaM _|apply aaz.step)⟩
end Go.Proofs.YtebpplallecogaaGreat.M
namespace Go.Proofs.YtebpplallecogaaGreat.M
open Go.Proofs.Tryz Go.RowKit Go.Proofs.YtebpplallecogaaGreatW.PrintWords Go.Proofs.YtebpplallecogaaGreatW.PrintLast Go.Proofs.YtebpplallecogaaGreatW.PrintMore Kd
attribute [local go_sem] aak aai aax aaw aae aad aaj aah
def adn:Nat->List S27->List Int->List Int->List S27->Int->Int->Option (List Int)
 | 0,_,_,_,_,_,_=>none
 | k+1,x0,x3,x4,aK,bg,aG=>if aG < bg then (if 0<=aG then (if aG < (aK.length:Int) then ((aiE ((aa0 aK aG).f0) ((aa0 aK aG).f1) ((aa0 aK aG).f2) ((aa0 aK aG).f3) ((aa0 aK aG).f4)).bind fun aN=>(if aN>=0 then (if ((aa0 aK aG).f0)=7 then (adn k x0 x3 x4 aK bg (wrap64 (aG+1))) else ((Sa7.f k x0 x4 aG).bind fun aJ=>((ajJ aJ aN).bind fun aU=>(if aU=true then (adn k x0 x3 x4 aK bg (wrap64 (aG+1))) else (if x3.length < 17592186044416 then (adn k x0 (x3 ++ [aG]) x4 aK bg (wrap64 (aG+1))) else (none)))))) else (adn k x0 x3 x4 aK bg (wrap64 (aG+1))))) else (none)) else (none)) else (some x3)
def Sa5.f (k:Nat) (l0:List S27):Option (List Int):=(Sa6.f k l0).bind fun az=>(adn k l0 ([]:List Int) az l0 (l0.length:Int) 0)
theorem aoD {G:Prop} (h:G:=by
  go_wp2_with (first|((with_reducible refine jd 6 ?_);refine jY _ 27 ?_;intro ae hg bu af hb;have aV:=kG hg;replace ay:=kR ay hb;replace ax:=kR ax hb;replace HB:=kH hb;clear hb hg;have bv:=jz5 af)|((with_reducible refine jc 50 18 ?_);refine jG func50 #[.agg #[iV ((aa0 l0 aa).f0),iV ((aa0 l0 aa).f1),iV ((aa0 l0 aa).f2),iV ((aa0 l0 aa).f3),iV ((aa0 l0 aa).f4)]] ?_;refine (Sac.calls _ _ _ _ _ _ _ (aa1.out (by assumption))).mono ?_;rintro e bz ⟨rfl,hb⟩;refine⟨_,rfl,?_⟩;replace ay:=aM (R_below (by (with_reducible repeat (first|apply R_alloc|apply R_drewN|apply R_drew));exact (R_mono (R_far (p:=⟨ae,4,none⟩) (R_far (p:=⟨ae,3,none⟩) (R_far (p:=⟨ae,2,none⟩) (R_far (p:=⟨ae,1,none⟩) (R_far (p:=⟨ae,0,none⟩) (R_types ay.out af.out (by decide)) (fun _ hk=>hk.2) (iV ((aa0 l0 aa).f0))) (fun _ hk=>hk.2) (iV ((aa0 l0 aa).f1))) (fun _ hk=>hk.2) (iV ((aa0 l0 aa).f2))) (fun _ hk=>hk.2) (iV ((aa0 l0 aa).f3))) (fun _ hk=>hk.2) (iV ((aa0 l0 aa).f4))) (fun _ h_=>h_.1))) hb);replace ax:=aM (R_below (by (with_reducible repeat (first|apply R_alloc|apply R_drewN|apply R_drew));exact (R_mono (R_far (p:=⟨ae,4,none⟩) (R_far (p:=⟨ae,3,none⟩) (R_far (p:=⟨ae,2,none⟩) (R_far (p:=⟨ae,1,none⟩) (R_far (p:=⟨ae,0,none⟩) (R_types ax.out af.out (by decide)) (fun _ hk=>hk.2) (iV ((aa0 l0 aa).f0))) (fun _ hk=>hk.2) (iV ((aa0 l0 aa).f1))) (fun _ hk=>hk.2) (iV ((aa0 l0 aa).f2))) (fun _ hk=>hk.2) (iV ((aa0 l0 aa).f3))) (fun _ hk=>hk.2) (iV ((aa0 l0 aa).f4))) (fun _ h_=>h_.1))) hb);replace af:=aM (abA (g:=ae) (qF af) hb);replace HB:=kH hb;clear hb;(try clear hk);have bA:=jz5 af;obtain⟨bB,bC,aW⟩:=R_slice ax.out;subst aW)|(go_at_call 44;(with_reducible refine (Sa7.calls k1 _ _ l0 _ _ az aa aJ _ ?aC ?aD ?aQ ?aR bJ.out).mono ?_);(case aC=>exact kb aX HB);(case aD=>exact bD.out);(case aQ=>exact kJ ax);(case aR=>exact (kp ax));rintro e bE ⟨rfl,hb⟩;replace ay:=kR ay hb;replace ax:=kR ax hb;replace af:=kB af hb;replace HB:=kH hb;clear hb)|(go_at_call 53;(with_reducible refine (ag2 _ _ _ _ (aa1.out (by assumption))).mono ?_);rintro e w' ⟨rfl,⟨nd,rfl⟩⟩))
  go_roundg k1
  case measure=>have:=bq.out;omega
  exact⟨_,_,qZ,H',⟨by have:=bq.out;omega⟩,⟨qR ay⟩,⟨qR ax⟩,⟨qB⟩⟩):G:=h
theorem Sa5.calls (k:Nat) (A0:Option Addr) (c0:Nat) (l0:List S27) (r:List Int) (w:World) (hr0:Kd.C k27 w A0 l0.length l0) (hc0:l0.length<=c0) (h:Sa5.f k l0=some r) :
  Calls prog 35 #[.slice A0 l0.length c0] w fun e w'=>∃ bK:Value,e = .returned (bK)/\Kd.R (Kd.int .i64) 3 w' w.heap.size (fun _=>True) bK r/\Below w.heap.size w w':=by
 have bO:=underlying27
 have aX:=aM hr0
 have bD:=aM hc0
 clear hr0 hc0
 have HB:=jb_ w
 have H:=h;unfold Sa5.f at H
 clear h
 obtain⟨az,A2,H⟩:=qE H
 try dsimp only at H
 have H':=aM H
 clear H
 go_enter func35,ntmps35
 go_wp2_with (first|((with_reducible refine jc 41 9 ?_);refine jM func41 (Sa6.calls k _ _ l0 az _ (kC aX.out) bD.out A2.out) ?_;rintro bi w3 ⟨ho0,hb⟩;have aY:=kL ho0;replace HB:=kH hb;clear hb;(try clear ho0)))
 go_loopg [3,12] k (fun kq v3 v12 w'=>∃ (aT:List Int) (aa:Int),v12 = iV aa/\aa1 (adn kq l0 aT az l0 (l0.length:Int) aa=some r)/\aa1 (kq<=k)/\aa1 (Kd.R (Kd.int .i64) 3 w' w.heap.size (fun _=>True) v3 aT)/\aa1 (Kd.R (Kd.int .u16) 60 w' w.heap.size (fun _=>True) bi az)/\aa1 (Below w.heap.size w w'))
 case atStart=>exact⟨(([]:List Int)),(0),qZ,H',⟨Nat.le_refl _⟩,⟨by first|exact R_nil _ _ _ _ _|exact N_nil _ _ _ _ _|exact V_nil _ _ _ _ _|exact Q_nil _ _ _ _ _|exact S_nil _ _ _ _ _⟩,⟨qR aY⟩,⟨qB⟩⟩
 clear H'
 obtain⟨aT,aa,rfl,HA,bq,ay,ax,HB⟩:=hrel
 rcases gk with _|k1
 ·exact absurd HA.out (by simp [adn])
 have H:=HA.out
 clear HA
 simp only [adn] at H
 replace H:=jD H;rcases H with ⟨bF,H⟩ | ⟨bF,H⟩
 ·replace H:=jI H;obtain⟨bP,H⟩:=H
  replace H:=jI H;obtain⟨bQ,H⟩:=H
  obtain⟨aN,A7,H⟩:=qE H
  try dsimp only at H
  replace H:=jD H;rcases H with ⟨bG,H⟩ | ⟨bG,H⟩
  ·replace H:=jE H;rcases H with ⟨bH,bI,H⟩ | ⟨c9,bH,bI,H⟩
   ·have H':=aM H
    clear H
    have au:0<=(aa:Int):=qD
    have av:aa < (l0.length:Int):=qD
    obtain⟨aH,aA,ag,ah,ai,aj,ak⟩:=aaW aX.out aa au av
    cases aA
    replace ag:=kx HB ag
    replace ah:=kx HB ah
    replace ai:=kx HB ai
    replace aj:=kx HB aj
    replace ak:=kx HB ak
    replace au:=eq_true au
    replace av:=eq_true av
    exact aoD
   obtain⟨aJ,bJ,H⟩:=qE H
   try dsimp only at H
   obtain⟨aU,bS,H⟩:=qE H
   try dsimp only at H
   replace H:=jB H;rcases H with ⟨rfl,H⟩ | ⟨rfl,H⟩
   ·have H':=aM H
    clear H
    have au:0<=(aa:Int):=qD
    have av:aa < (l0.length:Int):=qD
    obtain⟨aH,aA,ag,ah,ai,aj,ak⟩:=aaW aX.out aa au av
    cases aA
    replace ag:=kx HB ag
    replace ah:=kx HB ah
    replace ai:=kx HB ai
    replace aj:=kx HB aj
    replace ak:=kx HB ak
    replace au:=eq_true au
    replace av:=eq_true av
    exact aoD
   replace H:=jL H;obtain⟨bn,H⟩:=H
   obtain⟨bL,aI⟩:=ky ((aT ++ [aa]):List Int)
   replace H:=kv aI H
   have H':=aM H
   clear H
   have au:0<=(aa:Int):=qD
   have av:aa < (l0.length:Int):=qD
   obtain⟨aH,aA,ag,ah,ai,aj,ak⟩:=aaW aX.out aa au av
   cases aA
   replace ag:=kx HB ag
   replace ah:=kx HB ah
   replace ai:=kx HB ai
   replace aj:=kx HB aj
   replace ak:=kx HB ak
   replace au:=eq_true au
   replace av:=eq_true av
   go_wp2_with (first|((with_reducible refine jd 6 ?_);refine jY _ 27 ?_;intro ae hg bu af hb;have aV:=kG hg;replace ay:=kR ay hb;replace ax:=kR ax hb;replace HB:=kH hb;clear hb hg;have bv:=jz5 af)|((with_reducible refine jc 50 18 ?_);refine jG func50 #[.agg #[iV ((aa0 l0 aa).f0),iV ((aa0 l0 aa).f1),iV ((aa0 l0 aa).f2),iV ((aa0 l0 aa).f3),iV ((aa0 l0 aa).f4)]] ?_;refine (Sac.calls _ _ _ _ _ _ _ (aa1.out (by assumption))).mono ?_;rintro e bz ⟨rfl,hb⟩;refine⟨_,rfl,?_⟩;replace ay:=aM (R_below (by (with_reducible repeat (first|apply R_alloc|apply R_drewN|apply R_drew));exact (R_mono (R_far (p:=⟨ae,4,none⟩) (R_far (p:=⟨ae,3,none⟩) (R_far (p:=⟨ae,2,none⟩) (R_far (p:=⟨ae,1,none⟩) (R_far (p:=⟨ae,0,none⟩) (R_types ay.out af.out (by decide)) (fun _ hk=>hk.2) (iV ((aa0 l0 aa).f0))) (fun _ hk=>hk.2) (iV ((aa0 l0 aa).f1))) (fun _ hk=>hk.2) (iV ((aa0 l0 aa).f2))) (fun _ hk=>hk.2) (iV ((aa0 l0 aa).f3))) (fun _ hk=>hk.2) (iV ((aa0 l0 aa).f4))) (fun _ h_=>h_.1))) hb);replace ax:=aM (R_below (by (with_reducible repeat (first|apply R_alloc|apply R_drewN|apply R_drew));exact (R_mono (R_far (p:=⟨ae,4,none⟩) (R_far (p:=⟨ae,3,none⟩) (R_far (p:=⟨ae,2,none⟩) (R_far (p:=⟨ae,1,none⟩) (R_far (p:=⟨ae,0,none⟩) (R_types ax.out af.out (by decide)) (fun _ hk=>hk.2) (iV ((aa0 l0 aa).f0))) (fun _ hk=>hk.2) (iV ((aa0 l0 aa).f1))) (fun _ hk=>hk.2) (iV ((aa0 l0 aa).f2))) (fun _ hk=>hk.2) (iV ((aa0 l0 aa).f3))) (fun _ hk=>hk.2) (iV ((aa0 l0 aa).f4))) (fun _ h_=>h_.1))) hb);replace af:=aM (abA (g:=ae) (qF af) hb);replace HB:=kH hb;clear hb;(try clear hk);have bA:=jz5 af;obtain⟨bB,bC,aW⟩:=R_slice ax.out;subst aW)|(go_at_call 44;(with_reducible refine (Sa7.calls k1 _ _ l0 _ _ az aa aJ _ ?aC ?aD ?aQ ?aR bJ.out).mono ?_);(case aC=>exact kb aX HB);(case aD=>exact bD.out);(case aQ=>exact kJ ax);(case aR=>exact (kp ax));rintro e bE ⟨rfl,hb⟩;replace ay:=kR ay hb;replace ax:=kR ax hb;replace af:=kB af hb;replace HB:=kH hb;clear hb)|(go_at_call 53;(with_reducible refine (ag2 _ _ _ _ (aa1.out (by assumption))).mono ?_);rintro e w' ⟨rfl,⟨nd,rfl⟩⟩)|((with_reducible refine aaa (b:=.append) (xs:=#[.tmp 35,.tmp 37]) rfl ?_);at_builtin;refine R_append (Kd.int .i64) (w0:=w) w.heap.size rfl (.tmp 35) (.tmp 37) 43 3 (iV 0) 8 rfl underlying43 akz rfl (by decide) (by omega) u3 aT aa [iV aa] (fun _=>True) (fun _=>False) rfl rfl ?aP (fun _ hk=>hk.elim) ?aF ?aO ?aB ?aS ?aL ?_;(case aP=>exact rfl);(case aB=>exact qB);(case aF=>exact (fun _ _=>trivial));(case aO=>exact (qR ay));(case aS=>exact (aa4 qB));(case aL=>have:=bn.out;omega);intro bM bR ho hb hg hat;rw [<- aI.out] at ho;have aZ:=aM ho;replace ax:=aM (R_over' (qR ax) (R_typed (qR ay)) (by decide) hg);replace af:=aM (aao (g:=ae) (qK af) hg (R_ne ay.out af.out (by decide)));replace HB:=aM hb;clear ay;clear ho hb hg hat))
   go_roundg k1
   case measure=>have:=bq.out;omega
   exact⟨_,_,qZ,H',⟨by have:=bq.out;omega⟩,⟨qR aZ⟩,⟨qR ax⟩,⟨qB⟩⟩
  have H':=aM H
  clear H
  have au:0<=(aa:Int):=qD
  have av:aa < (l0.length:Int):=qD
  obtain⟨aH,aA,ag,ah,ai,aj,ak⟩:=aaW aX.out aa au av
  cases aA
  replace ag:=kx HB ag
  replace ah:=kx HB ah
  replace ai:=kx HB ai
  replace aj:=kx HB aj
  replace ak:=kx HB ak
  replace au:=eq_true au
  replace av:=eq_true av
  exact aoD
 obtain rfl:=oJ H
 go_wp2
 go_ret
 exact⟨_,qW,qR ay,qB⟩
end Go.Proofs.YtebpplallecogaaGreat.M
namespace Go.Proofs.YtebpplallecogaaGreat.M
open Go.Proofs.Tryz Go.RowKit Go.Proofs.YtebpplallecogaaGreatW.PrintWords Go.Proofs.YtebpplallecogaaGreatW.PrintLast Go.Proofs.YtebpplallecogaaGreatW.PrintMore
def amd (l0:List S27):Option (List S27):=if l0.length < 3518437208883 then some l0 else none
set_option maxHeartbeats 1000000 in
theorem ame (A0:Option Addr) (c0:Nat) (l0 r:List S27) (w:World) (hr0:Kd.C k27 w A0 l0.length l0) (hc0:l0.length<=c0) (h:amd l0=some r) :
  Calls prog 39 #[.slice A0 l0.length c0] w fun e w'=>∃ aa:Value,e = .returned aa/\Kd.R k27 27 w' w.heap.size (fun _=>True) aa r/\Below w.heap.size w w':=by
 unfold amd at h
 split at h
 next hl =>
  injection h with h
  subst h
  have HL:=aM hl
  clear hl
  cases A0 with
  | none =>
   have e0:l0=[]:=by
    cases l0 with
    | nil=>rfl
    | cons x xs=>obtain⟨ad,_,e,_⟩:=Kd.C_get hr0 z27 0 (by omega) (by simp);cases e
   subst e0
   have he:=fun (W:World) (n:Nat)=>Lib.run_eql_slice_nil (P:=prog) W 23 27 none n c0 0 0 underlying23
   go_enter func39,ntmps39
   go_wp2
   go_ret
   exact⟨_,rfl,Kd.R_nil _ _ _ _ _,Below.refl _ _⟩
  | some ad =>
   have ae:=aM hr0
   clear hr0
   have HB:=jb_ w
   have he:=fun (W:World) (n:Nat)=>Lib.run_eql_slice_nil (P:=prog) W 23 27 (some ad) n c0 0 0 underlying23
   go_enter func39,ntmps39
   go_wp2_with (first|((with_reducible refine jd 5 ?_);refine Kd.R_lit k27 _ 27 ?hg (N:=5) ?hd (xs:=([]:List S27)) (inner:=[]) (ok:=fun _=>True) (okp:=fun _=>True) ?hr ?hp (fun _ hk=>hk) trivial (Below.refl _ _) (Nat.le_refl _) (by simp) ?_;(case hd=>rfl);(case hg=>rfl);(case hr=>first|(go_simp;done)|(go_simp;rfl));(case hp=>exact (aa9 _ _));intro v1 w1 ho hb hg_ hnew_;clear hg_ hnew_;have HO:=aM ho;replace HB:=kH hb;clear hb ho)|((with_reducible refine aaa (b:=.append) (xs:=#[.tmp 5,.tmp 6]) rfl ?_);at_builtin;refine Kd.R_append_rows k27 (w0:=w) w.heap.size rfl (.tmp 5) (.tmp 6) 23 27 (.agg #[(iV 0),(iV 0),(iV 0),(iV 0),(iV 0)]) 40 rfl underlying23 ab8 rfl (by decide) (by omega) v1 [] l0 _ _ _ (fun _=>True) (fun _=>False) rfl rfl ?aO ?aR (fun _ _ h=>h) (fun _ h=>h.elim) ?aF ?aB ?aS ?aL ?_;(case aR=>exact Kd.C_below ae.out HB.out);(case aB=>exact HB.out);(case aF=>exact (fun _ _=>trivial));(case aO=>exact HO.out);(case aS=>exact aa4 HB.out);(case aL=>have:=HL.out;simp only [List.length_nil];omega);intro v2 w2 ho hb hg hat;have HB2:=aM hb;have af:=aM ho;clear ho hb hg hat))
   go_ret
   exact⟨_,rfl,af.out,HB2.out⟩
 next=>cases h
end Go.Proofs.YtebpplallecogaaGreat.M
namespace Go.Proofs.YtebpplallecogaaGreat.M
open Go.Proofs.Tryz Go.RowKit Go.Proofs.YtebpplallecogaaGreatW.PrintWords Go.Proofs.YtebpplallecogaaGreatW.PrintLast Go.Proofs.YtebpplallecogaaGreatW.PrintMore Kd
attribute [local go_sem] aak aai aax aaw aae aad aaj aah
def afa:Nat->List S27->List Int->Int->Int->Option ((List S27) × Bool)
 | 0,_,_,_,_=>none
 | k+1,x4,aY,bV,aH=>if aH < bV then (if 0<=aH then (if aH < (aY.length:Int) then (if 0<=(rd aY aH) then (if (rd aY aH) < (x4.length:Int) then (afa k (x4.set ((rd aY aH):Int).toNat (⟨4,0,0,0,wrap64 ((rd aY aH)+1)⟩:S27)) aY bV (wrap64 (aH+1))) else (none)) else (none)) else (none)) else (none)) else (some (x4,true))
def Sa1.f (k:Nat) (l0:List S27):Option ((List S27) × Bool):=(Sa0.f k l0).bind fun aI=>(if aI=true then ((amd l0).bind fun aA=>((Sa5.f k l0).bind fun aa=>(afa k aA aa (aa.length:Int) 0))) else (some (([]:List S27),false)))
theorem Sa1.calls (k:Nat) (A0:Option Addr) (c0:Nat) (l0 r1:List S27) (r2:Bool) (w:World) (hr0:Kd.C k27 w A0 l0.length l0) (hc0:l0.length<=c0) (h:Sa1.f k l0=some (r1,r2)) :
  Calls prog 15 #[.slice A0 l0.length c0] w fun e w'=>∃ bW:Value,e = .returned (.tuple #[bW,.bool r2])/\Kd.R k27 27 w' w.heap.size (fun _=>True) bW r1/\Below w.heap.size w w':=by
 have cO:=underlying27
 have bE:=aM hr0
 have bF:=aM hc0
 clear hr0 hc0
 have HB:=jb_ w
 have H:=h;unfold Sa1.f at H
 clear h
 obtain⟨aI,A2,H⟩:=qE H
 try dsimp only at H
 replace H:=jB H;rcases H with ⟨rfl,H⟩ | ⟨rfl,H⟩
 ·obtain⟨aA,A4,H⟩:=qE H
  try dsimp only at H
  obtain⟨aa,A5,H⟩:=qE H
  try dsimp only at H
  have H':=aM H
  clear H
  go_enter func15,ntmps15
  go_wp2_with (first|((with_reducible refine jc 18 8 ?_);refine jK func18 (Sa0.calls k _ _ l0 true _ (kC bE.out) bF.out A2.out) ?_;intro w6 hb;replace HB:=kH hb;clear hb)|((with_reducible refine jc 39 11 ?_);refine jM func39 (ame _ _ l0 aA _ (kb bE HB) bF.out A4.out) ?_;rintro aZ w7 ⟨ho0,hb⟩;have ay:=kL ho0;replace HB:=kH hb;clear hb;(try clear ho0))|((with_reducible refine jc 35 13 ?_);refine jM func35 (Sa5.calls k _ _ l0 aa _ (kb bE HB) bF.out A5.out) ?_;rintro bX w8 ⟨ho0,hb⟩;have aC:=kL ho0;replace ay:=kR ay hb;replace HB:=kH hb;clear hb;(try clear ho0);obtain⟨df,dh,di⟩:=R_slice aC.out;subst di))
  go_loopg [15] k (fun kq v15 w'=>∃ (ag:List S27) (ae:Int),v15 = iV ae/\aa1 (afa kq ag aa (aa.length:Int) ae=some (r1,r2))/\aa1 (kq<=k)/\aa1 (Kd.R k27 27 w' w.heap.size (fun _=>True) aZ ag)/\aa1 (Kd.R (Kd.int .i64) 3 w' w.heap.size (fun _=>True) (.slice df aa.length dh) aa)/\aa1 (Below w.heap.size w w'))
  case atStart=>exact⟨(aA),(0),qZ,H',⟨Nat.le_refl _⟩,⟨qR ay⟩,⟨qR aC⟩,⟨qB⟩⟩
  clear H'
  obtain⟨ag,ae,rfl,HA,bY,ax,aB,HB⟩:=hrel
  rcases gk with _|k1
  ·exact absurd HA.out (by simp [afa])
  have H:=HA.out
  clear HA
  simp only [afa] at H
  replace H:=jD H;rcases H with ⟨bg,H⟩ | ⟨bg,H⟩
  ·replace H:=jI H;obtain⟨bZ,H⟩:=H
   replace H:=jI H;obtain⟨cu,H⟩:=H
   replace H:=jI H;obtain⟨cz,H⟩:=H
   replace H:=jI H;obtain⟨cB,H⟩:=H
   obtain⟨bi,az⟩:=ky ((ag.set ((rd aa ae):Int).toNat (⟨4,0,0,0,wrap64 ((rd aa ae)+1)⟩:S27)):List S27)
   replace H:=kv az H
   have H':=aM H
   clear H
   have aD:0<=(ae:Int):=qD
   have aF:ae < (aa.length:Int):=qD
   obtain⟨bG,bn,bq⟩:=Kd.at_int (R_reads' aB.out).2.2 ae aD aF
   cases bn
   replace aD:=eq_true aD
   replace aF:=eq_true aF
   have bH:0<=((rd aa ae):Int):=qD
   have bI:((rd aa ae):Int) < ((ag.length:Int):Int):=qD
   obtain⟨af,aK,bu,bv,bJ,dn,bz⟩:=R_form ax.out (by omega)
   (first|cases bu|(injection bu with ea_ en_ ec_;(first|subst ea_|(injection ea_ with ea_;subst ea_));subst ec_;clear en_))
   have aG:=aM bv
   have dw:=aM bz
   clear bv bJ bz
   obtain⟨dx,bA,bB,ak,au⟩:=R_elem ax.out z27 ((rd aa ae):Int) bH bI
   obtain rfl:=acz bB
   have bK:wr.cell? ⟨af,((rd aa ae):Int).toNat*5,none⟩=some (iV ((aa0 ag (rd aa ae)).f0)):=ak 0 _ rfl
   have bL:wr.cell? ⟨af,((rd aa ae):Int).toNat*5+1,none⟩=some (iV ((aa0 ag (rd aa ae)).f1)):=ak 1 _ rfl
   have bM:wr.cell? ⟨af,((rd aa ae):Int).toNat*5+2,none⟩=some (iV ((aa0 ag (rd aa ae)).f2)):=ak 2 _ rfl
   have bN:wr.cell? ⟨af,((rd aa ae):Int).toNat*5+3,none⟩=some (iV ((aa0 ag (rd aa ae)).f3)):=ak 3 _ rfl
   have bO:wr.cell? ⟨af,((rd aa ae):Int).toNat*5+4,none⟩=some (iV ((aa0 ag (rd aa ae)).f4)):=ak 4 _ rfl
   have bP:wr.frozen? ⟨af,((rd aa ae):Int).toNat*5,none⟩=false:=au 0
   have bQ:wr.frozen? ⟨af,((rd aa ae):Int).toNat*5+1,none⟩=false:=au 1
   have bR:wr.frozen? ⟨af,((rd aa ae):Int).toNat*5+2,none⟩=false:=au 2
   have bS:wr.frozen? ⟨af,((rd aa ae):Int).toNat*5+3,none⟩=false:=au 3
   have bT:wr.frozen? ⟨af,((rd aa ae):Int).toNat*5+4,none⟩=false:=au 4
   clear bA ak au bB
   replace bH:=eq_true bH
   replace bI:=eq_true bI
   have bC:=aM (show Kd.R k27 27 wr w.heap.size (fun _=>True) (.slice (some ⟨af,0,none⟩) ag.length aK) ag from (qR ax))
   obtain⟨dz,aJ,bD,aj,av⟩:=R_elem bC.out z27 ((rd aa ae):Int) (qD) (by have h_:((rd aa ae):Int) < ((ag.length:Int):Int):=qD;first|exact h_|(have e_:=(R_reads' ax.out).1;omega)|simpa using h_)
   obtain rfl:=acz bD
   have aL:=R_seg bC.out ((rd aa ae):Int) (qD) (by have h_:((rd aa ae):Int) < ((ag.length:Int):Int):=qD;first|exact h_|(have e_:=(R_reads' ax.out).1;omega)|simpa using h_) (seg:=[iV 4,iV 0,iV 0,iV 0,iV (wrap64 ((rd aa ae)+1))]) (j:=0) aJ aj (show 5<=5 from by decide) (x':=(⟨4,0,0,0,wrap64 ((rd aa ae)+1)⟩:S27)) (aaT _ _ _ (⟨4,0,0,0,wrap64 ((rd aa ae)+1)⟩:S27) ) (fun _ hk=>hk)
   have aN:=aj 0 _ rfl
   (try simp only [show (k27).sz=5 from rfl,Nat.mul_one,Nat.add_zero] at aN)
   have aO:=av 0
   (try simp only [show (k27).sz=5 from rfl,Nat.mul_one,Nat.add_zero] at aO)
   have aP:=aj 1 _ rfl
   (try simp only [show (k27).sz=5 from rfl,Nat.mul_one,Nat.add_zero] at aP)
   have aQ:=av 1
   (try simp only [show (k27).sz=5 from rfl,Nat.mul_one,Nat.add_zero] at aQ)
   have aR:=aj 2 _ rfl
   (try simp only [show (k27).sz=5 from rfl,Nat.mul_one,Nat.add_zero] at aR)
   have aS:=av 2
   (try simp only [show (k27).sz=5 from rfl,Nat.mul_one,Nat.add_zero] at aS)
   have aT:=aj 3 _ rfl
   (try simp only [show (k27).sz=5 from rfl,Nat.mul_one,Nat.add_zero] at aT)
   have aU:=av 3
   (try simp only [show (k27).sz=5 from rfl,Nat.mul_one,Nat.add_zero] at aU)
   have aV:=aj 4 _ rfl
   (try simp only [show (k27).sz=5 from rfl,Nat.mul_one,Nat.add_zero] at aV)
   have aW:=av 4
   (try simp only [show (k27).sz=5 from rfl,Nat.mul_one,Nat.add_zero] at aW)
   clear aJ aj av bD
   go_wp2_with (first|((with_reducible refine aau (t:=27) (p:=24) rfl ?_);refine aap (t:=27) (p:=24) (v:=?bU) (w1:=(((((wr.setCell ⟨af,((rd aa ae):Int).toNat*5,none⟩ (iV 4)).setCell ⟨af,((rd aa ae):Int).toNat*5+1,none⟩ (iV 0)).setCell ⟨af,((rd aa ae):Int).toNat*5+2,none⟩ (iV 0)).setCell ⟨af,((rd aa ae):Int).toNat*5+3,none⟩ (iV 0)).setCell ⟨af,((rd aa ae):Int).toNat*5+4,none⟩ (iV (wrap64 ((rd aa ae)+1))))) ?hg ?ho ?hn ?hr ?_;(case ho=>rfl);(case hg=>rfl);(case hn=>rfl);(case hr=>first|(go_simp;done)|(go_simp;rfl));intro aX hw;have hg:wr.grownBy aX (some af):=(by rw [hw];exact aL.2);have hp_:Kd.R k27 27 aX w.heap.size (fun _=>True) (.slice (some ⟨af,0,none⟩) ag.length aK) bi:=(by rw [hw,az.out];exact aL.1);clear aL;replace aB:=aM (R_over' (v:=(.slice (some ⟨af,0,none⟩) ag.length aK)) (qR aB) (R_typed ax.out) (by decide) hg);replace ax:=aM hp_;replace HB:=aM ((by rw [hw];exact aac (aac (aac (aac (aac (HB.out) aG.out) aG.out) aG.out) aG.out) aG.out:Below w.heap.size w aX));clear hg hw hp_))
   go_roundg k1
   case measure=>have:=bY.out;omega
   exact⟨_,_,qZ,H',⟨by have:=bY.out;omega⟩,⟨qR ax⟩,⟨qR aB⟩,⟨qB⟩⟩
  obtain⟨rfl,rfl⟩:=oJ2 H
  go_wp2
  go_ret2
  exact⟨_,qW,qR ax,qB⟩
 obtain⟨rfl,rfl⟩:=oJ2 H
 go_enter func15,ntmps15
 go_wp2_with (first|((with_reducible refine jc 18 8 ?_);refine jK func18 (Sa0.calls k _ _ l0 false _ (kC bE.out) bF.out A2.out) ?_;intro dA hb;replace HB:=kH hb;clear hb))
 go_ret2
 exact⟨_,qW,by first|exact R_nil _ _ _ _ _|exact N_nil _ _ _ _ _|exact V_nil _ _ _ _ _|exact Q_nil _ _ _ _ _|exact S_nil _ _ _ _ _,qB⟩
end Go.Proofs.YtebpplallecogaaGreat.M
namespace Go.Proofs.YtebpplallecogaaGreat.M
open Go.Proofs.Tryz Go.RowKit Go.Proofs.YtebpplallecogaaGreatW.PrintWords Go.Proofs.YtebpplallecogaaGreatW.PrintLast Go.Proofs.YtebpplallecogaaGreatW.PrintMore
attribute [local go_sem] aak aai aax aaw aae aad aaj aah
theorem aqg (d:Nat) (w:World) (x0 y0 x1 y1 x2 y2 x3 y3 x4 y4:Int) :
  (Op.equalIn (d+2) 27 (.agg #[iV x0,iV x1,iV x2,iV x3,iV x4]) (.agg #[iV y0,iV y1,iV y2,iV y3,iV y4])).run prog w = .ok (x0 == y0 && (x1 == y1 && (x2 == y2 && (x3 == y3 && (x4 == y4))))) w:=by
 refine ani underlying27 (by kernel_rfl) ?_
 refine ae5 (by rfl) (by go_simp;rfl) (by go_simp;rfl) (by go_simp) ?_
 refine ae5 (by rfl) (by go_simp;rfl) (by go_simp;rfl) (by go_simp) ?_
 refine ae5 (by rfl) (by go_simp;rfl) (by go_simp;rfl) (by go_simp) ?_
 refine ae5 (by rfl) (by go_simp;rfl) (by go_simp;rfl) (by go_simp) ?_
 exact aj9 (by rfl) (by go_simp;rfl) (by go_simp;rfl) (by go_simp)
attribute [local go_sem high] aqg
def aeU:Nat->List S27->List S27->Int->Option (Bool)
 | 0,_,_,_=>none
 | k+1,x0,x1,x5=>if x5 < (x0.length:Int) then (if 0<=x5 then (if x5 < (x1.length:Int) then (if (!(((aa0 x0 x5).f0) == ((aa0 x1 x5).f0)) || (!(((aa0 x0 x5).f1) == ((aa0 x1 x5).f1)) || (!(((aa0 x0 x5).f2) == ((aa0 x1 x5).f2)) || (!(((aa0 x0 x5).f3) == ((aa0 x1 x5).f3)) || (!(((aa0 x0 x5).f4) == ((aa0 x1 x5).f4)))))))=true then (some false) else (aeU k x0 x1 (wrap64 (x5+1)))) else (none)) else (none)) else (some true)
def SbH.f (k:Nat) (l0 l1:List S27):Option (Bool):=if (l0.length:Int)=(l1.length:Int) then (aeU k l0 l1 0) else (some false)
theorem SbH.calls (k:Nat) (A0:Option Addr) (c0:Nat) (l0:List S27) (A1:Option Addr) (c1:Nat) (l1:List S27) (r:Bool) (w:World) (hr0:Kd.C k27 w A0 l0.length l0) (hc0:l0.length<=c0) (hr1:Kd.C k27 w A1 l1.length l1) (hc1:l1.length<=c1) (h:SbH.f k l0 l1=some r) :
  Calls prog 17 #[.slice A0 l0.length c0,.slice A1 l1.length c1] w fun e w'=>e = .returned (.bool r)/\aaz w w':=by
 have aQ:=underlying27
 have aN:=aM hr0
 have aT:=aM hc0
 clear hr0 hc0
 have HR1:=aM hr1
 have aU:=aM hc1
 clear hr1 hc1
 have H:=h;unfold SbH.f at H
 clear h
 by_cases c3:(l0.length:Int)=(l1.length:Int)
 ·rw [if_pos c3] at H
  have aC:((l0.length:Int) == (l1.length:Int))=true:=beq_iff_eq.mpr c3
  have aD:((l0.length:Int) != (l1.length:Int))=false:=bne_eq_false_iff_eq.mpr c3
  have aF:(l0.length == l1.length)=true:=by first|simpa using c3|(simp at c3 ⊢;omega)
  clear c3
  have H':=aM H
  clear H
  go_enter func17,ntmps17
  go_wp2
  repeat (go_quiet (fail);try go_wp2)
  go_loopg [5] k (fun kq v5 w'=>∃ (aa:Int),v5 = iV aa/\aa1 (aeU kq l0 l1 aa=some r)/\aa1 (kq<=k)/\aaz w w')
  case atStart=>exact⟨(0),qZ,H',⟨Nat.le_refl _⟩,by repeat (first|exact aaM _|apply aaz.step)⟩
  clear H'
  try clear c1;try clear c3;try clear aC;try clear aD;try clear aF
  obtain⟨aa,rfl,HA,aO,⟨m1,rfl⟩⟩:=hrel
  rcases gk with _|k1
  ·exact absurd HA.out (by simp [aeU])
  have H:=HA.out
  clear HA
  simp only [aeU] at H
  replace H:=jD H;rcases H with ⟨aK,H⟩ | ⟨aK,H⟩
  ·replace H:=jI H;obtain⟨aR,H⟩:=H
   replace H:=jI H;obtain⟨aS,H⟩:=H
   by_cases c7:(!(((aa0 l0 aa).f0) == ((aa0 l1 aa).f0)) || (!(((aa0 l0 aa).f1) == ((aa0 l1 aa).f1)) || (!(((aa0 l0 aa).f2) == ((aa0 l1 aa).f2)) || (!(((aa0 l0 aa).f3) == ((aa0 l1 aa).f3)) || (!(((aa0 l0 aa).f4) == ((aa0 l1 aa).f4)))))))=true
   ·rw [if_pos c7] at H
    have aL:(!(((aa0 l0 aa).f0) == ((aa0 l1 aa).f0)) || (!(((aa0 l0 aa).f1) == ((aa0 l1 aa).f1)) || (!(((aa0 l0 aa).f2) == ((aa0 l1 aa).f2)) || (!(((aa0 l0 aa).f3) == ((aa0 l1 aa).f3)) || (!(((aa0 l0 aa).f4) == ((aa0 l1 aa).f4)))))))=true:=c7
    clear c7
    obtain rfl:=oJ H
    obtain⟨aA,ae,af,ag,ah,ai,aj,aG,aH⟩:=aku aN aa
    cases ae
    obtain⟨aB,ak,au,av,ax,ay,az,aI,aJ⟩:=aku HR1 aa
    cases ak
    go_wp2
    repeat (go_quiet (fail);try go_wp2)
    go_ret
    exact⟨qZ,qU⟩
   rw [if_neg c7] at H
   have aL:(!(((aa0 l0 aa).f0) == ((aa0 l1 aa).f0)) || (!(((aa0 l0 aa).f1) == ((aa0 l1 aa).f1)) || (!(((aa0 l0 aa).f2) == ((aa0 l1 aa).f2)) || (!(((aa0 l0 aa).f3) == ((aa0 l1 aa).f3)) || (!(((aa0 l0 aa).f4) == ((aa0 l1 aa).f4)))))))=false:=by simpa using c7
   clear c7
   have H':=aM H
   clear H
   obtain⟨aA,ae,af,ag,ah,ai,aj,aG,aH⟩:=aku aN aa
   cases ae
   obtain⟨aB,ak,au,av,ax,ay,az,aI,aJ⟩:=aku HR1 aa
   cases ak
   go_wp2
   repeat (go_quiet (fail);try go_wp2)
   go_roundg k1
   case measure=>have:=aO.out;omega
   exact⟨(wrap64 (aa+1)),qZ,H',⟨by have:=aO.out;omega⟩,by repeat (first|exact aaM _|apply aaz.step)⟩
  obtain rfl:=oJ H
  go_wp2
  repeat (go_quiet (fail);try go_wp2)
  go_ret
  exact⟨qZ,qU⟩
 rw [if_neg c3] at H
 have aC:((l0.length:Int) == (l1.length:Int))=false:=beq_eq_false_iff_ne.mpr c3
 have aD:((l0.length:Int) != (l1.length:Int))=true:=bne_iff_ne.mpr c3
 have aF:(l0.length == l1.length)=false:=by first|simpa using c3|(simp at c3 ⊢;omega)
 obtain rfl:=oJ H
 go_enter func17,ntmps17
 go_wp2
 repeat (go_quiet (fail);try go_wp2)
 go_ret
 exact⟨qZ,qU⟩
def af7:Nat->Int->List Bool->Int->Int->Option (List Bool)
 | 0,_,_,_,_=>none
 | k+1,x0,x3,x7,x8=>if x8 < x7 then ((ajJ x0 x8).bind fun ai=>(if 0<=x8 then (if x8 < (x3.length:Int) then (af7 k x0 (x3.set (x8:Int).toNat ai) x7 (wrap64 (x8+1))) else (none)) else (none))) else (some x3)
def am9 (k:Nat) (a0:Int):Option (List Bool):=if 12<=281474976710656 then ((some (List.replicate 12 false:List Bool)).bind fun af=>(af7 k a0 af (af.length:Int) 0)) else (none)
theorem ama (k:Nat) (a0:Int) (r:List Bool) (w:World) (h:am9 k a0=some r) :
  Calls prog 42 #[.int .u16 a0] w fun e w'=>∃ aR:Value,e = .returned (aR)/\Kd.R Kd.bool 4 w' w.heap.size (fun _=>True) aR r/\Below w.heap.size w w':=by
 have HB:=jb_ w
 have H:=h;unfold am9 at H
 clear h
 replace H:=jJ H;obtain⟨aG,aH,H⟩:=H
 obtain⟨af,ah⟩:=ky ((List.replicate 12 false):List Bool)
 replace H:=kv ah H
 have H':=aM H
 clear H
 go_enter func42,ntmps42
 go_wp2_with (first|((with_reducible refine jd 5 ?_);refine Kd.R_make Kd.bool _ 4 rfl (N:=5) rfl 37 _ _ rfl 12 rfl rfl underlying37 (.bool false) 1 aky rfl (by decide) (by omega) false (ok:=fun _=>True) (okp:=fun _=>True) rfl (fun _ hk=>hk) trivial (by omega) (by omega) (Below.refl _ _) (Nat.le_refl _) ?_;intro aS w3 aA hb hg_ hnew_;clear hg_ hnew_;replace aA:=kr ah aA;have au:=kL aA;replace HB:=kH hb;clear hb aA;obtain⟨aT,aI,bg⟩:=Kd.R_slice au.out;subst bg))
 go_loopg [8] k (fun kq v8 w'=>∃ (aj:List Bool) (aa:Int),v8 = iV aa/\aa1 (af7 kq a0 aj (af.length:Int) aa=some r)/\aa1 (kq<=k)/\aa1 (Kd.R Kd.bool 4 w' w.heap.size (fun _=>True) (.slice aT af.length aI) aj)/\aa1 (Below w.heap.size w w'))
 case atStart=>exact⟨(af),(0),qZ,H',⟨Nat.le_refl _⟩,⟨qR au⟩,⟨qB⟩⟩
 clear H'
 try clear aG;try clear aH
 obtain⟨aj,aa,rfl,HA,aU,ae,HB⟩:=hrel
 have ag:=(Kd.R_reads' ae.out).1
 rw [ag] at ae
 (try simp only [ag])
 rcases gk with _|k1
 ·exact absurd HA.out (by simp [af7])
 have H:=HA.out
 clear HA
 simp only [af7] at H
 by_cases c6:aa < (af.length:Int)
 ·rw [if_pos c6] at H
  have av:=decide_eq_true c6
  (try simp only [ag] at av)
  clear c6
  obtain⟨ai,A7,H⟩:=qE H
  try dsimp only at H
  replace H:=jI H;obtain⟨bi,H⟩:=H
  replace H:=jI H;obtain⟨bn,H⟩:=H
  obtain⟨aB,ak⟩:=ky ((aj.set (aa:Int).toNat ai):List Bool)
  replace H:=kv ak H
  have H':=aM H
  clear H
  go_wp2_with (first|((with_reducible refine jc 53 15 ?_);refine jG func53 #[.int .u16 a0,iV aa] ?_;refine (ag2 _ _ _ _ (aa1.out (by assumption))).mono ?_;rintro e w' ⟨rfl,⟨nd,rfl⟩⟩;refine⟨_,rfl,?_⟩;(try (rw [abk wr];generalize hq_:World.drewN wr _=wr;have aV:aa1 (Kd.R Kd.bool 4 wr w.heap.size (fun _=>True) (.slice aT aj.length aI) aj):=⟨by rw [<- hq_];exact (qR ae)⟩;have aW:aa1 (Below w.heap.size w wr):=⟨by rw [<- hq_];exact qB⟩;clear ae HB hq_;have ae:=aV;have HB:=aW;clear aV aW));have aJ:0<=(aa:Int):=qD;have aK:(aa:Int) < ((aj.length:Int):Int):=qD;obtain⟨ax,bq,aC,aD,aL,bu,aF⟩:=Kd.R_form ae.out (by omega);(first|cases aC|(injection aC with ea_ en_ ec_;(first|subst ea_|(injection ea_ with ea_;subst ea_));subst ec_;clear en_));have aN:=aM aD;have bv:=aM aF;clear aD aL aF;obtain⟨aO,aP⟩:=Kd.R_celln false ae.out (aa:Int) aJ aK;replace aJ:=eq_true aJ;replace aK:=eq_true aK;obtain⟨aX,aY⟩:=Kd.R_celln false ae.out (aa:Int) (qD) (qD);have ay:=Kd.R_putg ae.out (aa:Int) ai)|((with_reducible refine aau (t:=4) (p:=16) rfl ?_);refine aap (t:=4) (p:=16) (v:=?aQ) (w1:=(wr.setCell ⟨ax,(aa:Int).toNat,none⟩ (.bool ai))) ?hg ?ho ?hn ?hr ?_;(case ho=>rfl);(case hg=>rfl);(case hn=>rfl);(case hr=>first|(go_simp;done)|(go_simp;rfl));intro az hw;have hg:wr.grownBy az (some ax):=(by rw [hw];exact ay.2);have hp_:Kd.R Kd.bool 4 az w.heap.size (fun _=>True) (.slice (some ⟨ax,0,none⟩) aj.length aI) aB:=(by rw [hw,ak.out];exact ay.1);clear ay;replace ae:=aM hp_;replace HB:=aM ((by rw [hw];exact aac (HB.out) aN.out:Below w.heap.size w az));clear hg hw hp_))
  (try simp only [<- ag])
  go_roundg k1
  case measure=>have:=aU.out;omega
  exact⟨_,_,qZ,H',⟨by have:=aU.out;omega⟩,⟨by (try simp only [ag]);(with_reducible repeat (first|apply Kd.R_alloc|apply Kd.R_drewN|apply Kd.R_drew));exact ae.out⟩,⟨qB⟩⟩
 rw [if_neg c6] at H
 have av:=decide_eq_false c6
 (try simp only [ag] at av)
 clear c6
 obtain rfl:=oJ H
 go_wp2
 go_ret
 exact⟨_,qW,qR ae,qB⟩
end Go.Proofs.YtebpplallecogaaGreat.M
namespace Go.Proofs.YtebpplallecogaaGreat.M
open Go.Proofs.Tryz Go.RowKit Go.Proofs.YtebpplallecogaaGreatW.PrintWords Go.Proofs.YtebpplallecogaaGreatW.PrintLast Go.Proofs.YtebpplallecogaaGreatW.PrintMore Kd
attribute [local go_sem] aak aai aax aaw aae aad aaj aah
def af9:Nat->List (List Bool)->List Int->Int->Int->Option ((List (List Bool)))
 | 0,_,_,_,_=>none
 | k+1,x3,aN,aW,aD=>if aD < aW then (if 0<=aD then (if aD < (aN.length:Int) then ((am9 k (rd aN aD)).bind fun af=>(if x3.length < 5864062014805 then (af9 k (x3 ++ [af]) aN aW (wrap64 (aD+1))) else (none))) else (none)) else (none)) else (some x3)
def Sa2.f (k:Nat) (l0:List S27):Option ((List (List Bool))):=(Sa0.f k l0).bind fun aA=>(if aA=true then ((Sa6.f k l0).bind fun aa=>(af9 k ([]:List (List Bool)) aa (aa.length:Int) 0)) else (some ([]:List (List Bool))))
theorem Sa2.calls (k:Nat) (A0:Option Addr) (c0:Nat) (l0:List S27) (r:List (List Bool)) (w:World) (hr0:Kd.C k27 w A0 l0.length l0) (hc0:l0.length<=c0) (h:Sa2.f k l0=some r) :
  Calls prog 20 #[.slice A0 l0.length c0] w fun e w'=>∃ aX:Value,e = .returned (aX)/\Kd.S (Kd.slice 4 Kd.bool) 37 w' w.heap.size (fun _=>True) aX r/\Below w.heap.size w w':=by
 have aQ:=aM hr0
 have aR:=aM hc0
 clear hr0 hc0
 have HB:=jb_ w
 have H:=h;unfold Sa2.f at H
 clear h
 obtain⟨aA,A2,H⟩:=qE H
 try dsimp only at H
 replace H:=jB H;rcases H with ⟨rfl,H⟩ | ⟨rfl,H⟩
 ·obtain⟨aa,A4,H⟩:=qE H
  try dsimp only at H
  have H':=aM H
  clear H
  go_enter func20,ntmps20
  go_wp2_with (first|((with_reducible refine jc 18 7 ?_);refine jK func18 (Sa0.calls k _ _ l0 true _ (kC aQ.out) aR.out A2.out) ?_;intro w5 hb;replace HB:=kH hb;clear hb)|((with_reducible refine jc 41 10 ?_);refine jM func41 (Sa6.calls k _ _ l0 aa _ (kb aQ HB) aR.out A4.out) ?_;rintro aY w6 ⟨ho0,hb⟩;have av:=kL ho0;replace HB:=kH hb;clear hb;(try clear ho0);obtain⟨bv,bz,bA⟩:=R_slice av.out;subst bA))
  go_loopg [3,12] k (fun kq v3 v12 w'=>∃ (ax:List (List Bool)) (ae:Int),v12 = iV ae/\aa1 (af9 kq ax aa (aa.length:Int) ae=some r)/\aa1 (kq<=k)/\aa1 (Kd.S (Kd.slice 4 Kd.bool) 37 w' w.heap.size (fun _=>True) v3 ax)/\aa1 (Kd.R (Kd.int .u16) 60 w' w.heap.size (fun _=>True) (.slice bv aa.length bz) aa)/\aa1 (Below w.heap.size w w'))
  case atStart=>exact⟨(([]:List (List Bool))),(0),qZ,H',⟨Nat.le_refl _⟩,⟨by first|exact S_nil _ _ _ _ _|exact N_nil _ _ _ _ _|exact V_nil _ _ _ _ _|exact Q_nil _ _ _ _ _|exact R_nil _ _ _ _ _⟩,⟨qR av⟩,⟨qB⟩⟩
  clear H'
  obtain⟨ax,ae,rfl,HA,aZ,ak,ag,HB⟩:=hrel
  rcases gk with _|k1
  ·exact absurd HA.out (by simp [af9])
  have H:=HA.out
  clear HA
  simp only [af9] at H
  replace H:=jD H;rcases H with ⟨aT,H⟩ | ⟨aT,H⟩
  ·replace H:=jI H;obtain⟨bB,H⟩:=H
   replace H:=jI H;obtain⟨bg,H⟩:=H
   obtain⟨af,bF,H⟩:=qE H
   try dsimp only at H
   replace H:=jL H;obtain⟨aG,H⟩:=H
   obtain⟨bi,au⟩:=ky ((ax ++ [af]):List (List Bool))
   replace H:=kv au H
   have H':=aM H
   clear H
   have ay:0<=(ae:Int):=qD
   have az:ae < (aa.length:Int):=qD
   obtain⟨aU,aH,aI⟩:=Kd.at_int (R_reads' ag.out).2.2 ae ay az
   cases aH
   replace ay:=eq_true ay
   replace az:=eq_true az
   go_wp2_with (first|((with_reducible refine jc 42 18 ?_);refine jG func42 #[.int .u16 (rd aa ae)] ?_;refine (ama _ _ _ _ (aa1.out (by assumption))).mono ?_;rintro e bC ⟨bn,rfl,ho0,hb⟩;refine⟨_,rfl,?_⟩;have ah:=kL ho0;replace ak:=aM (S_elder' (qS ak) (R_base ho0) hb);replace ag:=kR ag hb;replace HB:=kH hb;clear hb;(try clear ho0);obtain⟨aJ,aK,aV⟩:=R_slice ah.out;subst aV)|((with_reducible refine aaa (b:=.append) (xs:=#[.tmp 16,.tmp 19]) rfl ?_);at_builtin;refine S_append (Kd.slice 4 Kd.bool) (w0:=w) w.heap.size rfl (.tmp 16) (.tmp 19) 33 37 (.slice none 0 0) 24 rfl underlying33 anf rfl (by decide) (by omega) u3 ax af [.slice aJ af.length aK] (fun _=>True) (fun k_=>some k_=(.slice aJ af.length aK:Value).ownBlock) rfl rfl ?aP (fun k_ hk_=>((R_mono (ok':=fun k_=>((fun _=>True)) k_/\some k_≠(u3:Value).ownBlock) (R_apart' (ah.out) (S_typed ak.out) (by decide)) (fun k_ hk=>⟨trivial,hk.2⟩))).1 k_ hk_.symm) ?aF ?aO ?aB ?aS ?aL ?_;(case aP=>exact M_row (R_mono (R_tight rfl (R_mono (ok':=fun k_=>((fun _=>True)) k_/\some k_≠(u3:Value).ownBlock) (R_apart' (ah.out) (S_typed ak.out) (by decide)) (fun k_ hk=>⟨trivial,hk.2⟩))) (fun _ h_=>h_)));(case aB=>exact qB);(case aF=>exact (fun _ _=>trivial));(case aO=>exact (by (with_reducible repeat (first|apply S_alloc|apply S_drewN|apply S_drew));exact S_mono ak.out (by first|exact fun k_ hk=>⟨trivial,fun e_=>hk.2 e_⟩|exact fun k_ hk=>hk)));(case aS=>exact (aa4 qB));(case aL=>have:=aG.out;omega);intro bq bD ho hb hg hat;rw [<- au.out] at ho;have aC:=aM ho;replace ag:=aM (R_over' (qR ag) (S_typed (qS ak)) (by decide) hg);replace HB:=aM hb;clear ak ah;clear ho hb hg hat))
   go_roundg k1
   case measure=>have:=aZ.out;omega
   exact⟨_,_,qZ,H',⟨by have:=aZ.out;omega⟩,⟨qS aC⟩,⟨qR ag⟩,⟨qB⟩⟩
  obtain rfl:=oJ H
  go_wp2
  go_ret
  exact⟨_,qW,qS ak,qB⟩
 obtain rfl:=oJ H
 go_enter func20,ntmps20
 go_wp2_with (first|((with_reducible refine jc 18 7 ?_);refine jK func18 (Sa0.calls k _ _ l0 false _ (kC aQ.out) aR.out A2.out) ?_;intro bE hb;replace HB:=kH hb;clear hb))
 go_ret
 exact⟨_,qW,by first|exact S_nil _ _ _ _ _|exact N_nil _ _ _ _ _|exact V_nil _ _ _ _ _|exact Q_nil _ _ _ _ _|exact R_nil _ _ _ _ _,qB⟩
mutual
def aeV:Nat->List S27->List S27->Bool->List S27->Bool->Bool->Option (Bool)
 | 0,_,_,_,_,_,_=>none
 | k+1,x3,x4,x5,x6,x7,x39=>if x39=true then (if (x5 == x7)=true then ((SbH.f k x4 x6).bind fun bV=>(some bV)) else (some false)) else ((Sa2.f k x3).bind fun aj=>((Sa2.f k x4).bind fun ak=>(aeg k x3 aj ak 0)))
def aeg:Nat->List S27->List (List Bool)->List (List Bool)->Int->Option (Bool)
 | 0,_,_,_,_=>none
 | k+1,x3,x8,x9,bU=>if bU < (x3.length:Int) then (acT k x3 x8 x9 bU 0) else (some true)
def acT:Nat->List S27->List (List Bool)->List (List Bool)->Int->Int->Option (Bool)
 | 0,_,_,_,_,_=>none
 | k+1,x3,x8,x9,bU,dC=>if dC < 12 then (if 0<=bU then (if bU < (x9.length:Int) then (if 0<=dC then (if dC < ((abn x9 bU).length:Int) then (if abU false (abn x9 bU) dC=true then (if bU < (x8.length:Int) then (if dC < ((abn x8 bU).length:Int) then (if (abU false (abn x8 bU) dC=true) then (acT k x3 x8 x9 bU (wrap64 (dC+1))) else (some false)) else (none)) else (none)) else (acT k x3 x8 x9 bU (wrap64 (dC+1)))) else (none)) else (none)) else (none)) else (none)) else (aeg k x3 x8 x9 (wrap64 (bU+1)))
end
def SbG.f (k:Nat) (l0:List Int):Option (Bool):=if (l0.length:Int) > 1048576 then (some true) else ((alL k l0).bind fun af=>((Sa1.f k af).bind fun aJ=>((Sak.f k af).bind fun aL=>(if (aJ.2 != aL.2)=true then (aeV k af aJ.1 aJ.2 aL.1 aL.2 true) else ((SbH.f k aJ.1 aL.1).bind fun dD=>(if dD=true then (aeV k af aJ.1 aJ.2 aL.1 aL.2 (!aJ.2)) else (aeV k af aJ.1 aJ.2 aL.1 aL.2 true)))))))
theorem SbG.calls (k:Nat) (A0:Option Addr) (c0:Nat) (l0:List Int) (r:Bool) (w:World) (hr0:Kd.C (Kd.int .u8) w A0 l0.length l0) (hc0:l0.length<=c0) (h:SbG.f k l0=some r) :
  Calls prog 8 #[.slice A0 l0.length c0] w fun e w'=>e = .returned (.bool r)/\Below w.heap.size w w':=by
 have fC:=aM hr0
 have fD:=aM hc0
 clear hr0 hc0
 have HB:=jb_ w
 have H:=h;unfold SbG.f at H
 clear h
 by_cases c2:(l0.length:Int) > 1048576
 ·rw [if_pos c2] at H
  have dw:=decide_eq_true c2
  have dx:decide (1048576 < l0.length)=true:=decide_eq_true (by omega)
  clear c2
  obtain rfl:=oJ H
  go_enter func8,ntmps8
  go_wp2
  go_ret
  exact⟨qW,qB⟩
 rw [if_neg c2] at H
 have dw:=decide_eq_false c2
 have dx:decide (1048576 < l0.length)=false:=decide_eq_false (by omega)
 clear c2
 obtain⟨af,A3,H⟩:=qE H
 try dsimp only at H
 obtain⟨⟨bn,av⟩,A4,H⟩:=qE H
 try dsimp only at H
 obtain⟨⟨bB,ax⟩,A5,H⟩:=qE H
 try dsimp only at H
 have dW:=aM H
 clear H
 go_enter func8,ntmps8
 go_upto_region 6 with (first|((with_reducible refine jc 14 16 ?_);refine jM func14 (alM k _ _ l0 af _ (kC fC.out) fD.out A3.out) ?_;rintro eU w7 ⟨ho0,hb⟩;have au:=kL ho0;replace HB:=kH hb;clear hb;(try clear ho0);obtain⟨dE,dF,fE⟩:=R_slice au.out;subst fE)|((with_reducible refine jc 15 19 ?_);refine jM func15 (Sa1.calls k _ _ af bn av _ (kJ au) (kp au) A4.out) ?_;rintro bW w9 ⟨ho0,hb⟩;have aA:=aM (R_lower (R_new' ho0 (R_lt (qR au))) (aa4 qB));replace au:=kO au ho0 hb;replace HB:=kH hb;clear hb;(try clear ho0))|((with_reducible refine jc 16 24 ?_);refine jM func16 (Sak.calls k _ _ af bB ax _ (kJ au) (kp au) A5.out) ?_;rintro bX gI ⟨ho0,hb⟩;have aK:=aM (R_lower (R_new' (R_new' ho0 (R_lt (qR au))) (R_lt (qR aA))) (aa4 qB));replace au:=kO au ho0 hb;replace aA:=kO aA ho0 hb;replace HB:=kH hb;clear hb;(try clear ho0)))
 (try simp only [Act.put,List.setIfInBounds_toArray,List.set_cons_zero,List.set_cons_succ])
 go_cut [39] (fun v39 wc=>∃ (kq:Nat) (bY:Bool),v39 = .bool bY/\aa1 (aeV kq af bn av bB ax bY=some r)/\aa1 (kq<=k)/\aa1 (Kd.R k27 27 wc w.heap.size (fun k_=>some k_≠(bW:Value).ownBlock/\some k_≠(bX:Value).ownBlock) (.slice dE af.length dF) af)/\aa1 (Kd.R k27 27 wc w.heap.size (fun k_=>some k_≠((.slice dE af.length dF):Value).ownBlock/\some k_≠(bX:Value).ownBlock) bW bn)/\aa1 (Kd.R k27 27 wc w.heap.size (fun k_=>some k_≠((.slice dE af.length dF):Value).ownBlock/\some k_≠(bW:Value).ownBlock) bX bB)/\aa1 (Below w.heap.size w wc))
 case first =>
  have H:=dW.out
  clear dW
  by_cases c11:(av != ax)=true
  ·rw [if_pos c11] at H
   have bF:(av != ax)=true:=c11
   (try (have dO:decide (av=ax)=false:=by simpa using c11))
   (try (have dP:(av == ax)=false:=by simpa using c11))
   (try (have eX:¬ (av=ax):=by simpa using c11))
   clear c11
   (first|rw [bF]|(simp only [aaA,aaD];rw [bF])|skip)
   have H':=aM H
   clear H
   go_wp2
   go_meet
   exact⟨_,(true),qZ,H',⟨by first|omega|exact Nat.le_refl _⟩,⟨by (with_reducible repeat (first|apply R_alloc|apply R_drewN|apply R_drew));exact R_mono au.out (fun _ hk=>⟨hk.1.2,hk.2⟩)⟩,⟨by (with_reducible repeat (first|apply R_alloc|apply R_drewN|apply R_drew));exact R_mono aA.out (fun _ hk=>⟨hk.1.2,hk.2⟩)⟩,⟨by (with_reducible repeat (first|apply R_alloc|apply R_drewN|apply R_drew));exact R_mono aK.out (fun _ hk=>⟨hk.1.2,hk.2⟩)⟩,⟨qB⟩⟩
  rw [if_neg c11] at H
  have bF:(av != ax)=false:=by simpa using c11
  (try (have dO:decide (av=ax)=true:=by simpa using c11))
  (try (have dP:(av == ax)=true:=by simpa using c11))
  clear c11
  (first|rw [bF]|(simp only [aaA,aaD];rw [bF])|skip)
  obtain⟨dD,eY,H⟩:=qE H
  try dsimp only at H
  replace H:=jB H;rcases H with ⟨rfl,H⟩ | ⟨rfl,H⟩
  ·have H':=aM H
   clear H
   obtain⟨fF,fG,dX⟩:=R_slice aA.out
   subst dX
   obtain⟨fH,fI,dY⟩:=R_slice aK.out
   subst dY
   go_wp2_with (first|(go_at_call 17;(with_reducible refine (SbH.calls k _ _ bn _ _ bB true _ ?aB ?aC ?bG ?bH eY.out).mono ?_);(case aB=>exact kJ aA);(case aC=>exact (kp aA));(case bG=>exact kJ aK);(case bH=>exact (kp aK));rintro e w' ⟨rfl,⟨nd,rfl⟩⟩))
   go_meet
   exact⟨_,_,qZ,H',⟨by first|omega|exact Nat.le_refl _⟩,⟨by (with_reducible repeat (first|apply R_alloc|apply R_drewN|apply R_drew));exact R_mono au.out (fun _ hk=>⟨hk.1.2,hk.2⟩)⟩,⟨by (with_reducible repeat (first|apply R_alloc|apply R_drewN|apply R_drew));exact R_mono aA.out (fun _ hk=>⟨hk.1.2,hk.2⟩)⟩,⟨by (with_reducible repeat (first|apply R_alloc|apply R_drewN|apply R_drew));exact R_mono aK.out (fun _ hk=>⟨hk.1.2,hk.2⟩)⟩,⟨qB⟩⟩
  have H':=aM H
  clear H
  obtain⟨fJ,fK,dZ⟩:=R_slice aA.out
  subst dZ
  obtain⟨fM,fO,d9⟩:=R_slice aK.out
  subst d9
  go_wp2_with (first|(go_at_call 17;(with_reducible refine (SbH.calls k _ _ bn _ _ bB false _ ?aB ?aC ?bG ?bH eY.out).mono ?_);(case aB=>exact kJ aA);(case aC=>exact (kp aA));(case bG=>exact kJ aK);(case bH=>exact (kp aK));rintro e w' ⟨rfl,⟨nd,rfl⟩⟩))
  go_meet
  exact⟨_,_,qZ,H',⟨by first|omega|exact Nat.le_refl _⟩,⟨by (with_reducible repeat (first|apply R_alloc|apply R_drewN|apply R_drew));exact R_mono au.out (fun _ hk=>⟨hk.1.2,hk.2⟩)⟩,⟨by (with_reducible repeat (first|apply R_alloc|apply R_drewN|apply R_drew));exact R_mono aA.out (fun _ hk=>⟨hk.1.2,hk.2⟩)⟩,⟨by (with_reducible repeat (first|apply R_alloc|apply R_drewN|apply R_drew));exact R_mono aK.out (fun _ hk=>⟨hk.1.2,hk.2⟩)⟩,⟨qB⟩⟩
 clear dW
 try clear c2;try clear dw;try clear dx
 obtain⟨kq,bY,rfl,HA,dL,bg,bA,bO,HB⟩:=hcut
 cases kq with
 | zero=>exact absurd HA.out (by simp [aeV])
 | succ dQ =>
  have H:=HA.out
  clear HA
  simp only [aeV] at H
  replace H:=jB H;rcases H with ⟨rfl,H⟩ | ⟨rfl,H⟩
  ·by_cases c19:(av == ax)=true
   ·rw [if_pos c19] at H
    have dR:(av == ax)=true:=c19
    (try (have dS:decide (av=ax)=true:=by simpa using c19))
    (try (have dU:(av == ax)=true:=by simpa using c19))
    clear c19
    obtain⟨bV,fP,H⟩:=qE H
    try dsimp only at H
    obtain rfl:=oJ H
    obtain⟨fQ,fT,ed⟩:=R_slice bA.out
    subst ed
    obtain⟨fU,fV,ek⟩:=R_slice bO.out
    subst ek
    go_wp2_with (first|(go_at_call 17;(with_reducible refine (SbH.calls dQ _ _ bn _ _ bB bV _ ?aB ?aC ?bG ?bH fP.out).mono ?_);(case aB=>exact kJ bA);(case aC=>exact (kp bA));(case bG=>exact kJ bO);(case bH=>exact (kp bO));rintro e w' ⟨rfl,⟨nd,rfl⟩⟩))
    go_ret
    exact⟨qW,qB⟩
   rw [if_neg c19] at H
   have dR:(av == ax)=false:=by simpa using c19
   (try (have dS:decide (av=ax)=false:=by simpa using c19))
   (try (have dU:(av == ax)=false:=by simpa using c19))
   (try (have eZ:¬ (av=ax):=by simpa using c19))
   clear c19
   obtain rfl:=oJ H
   go_wp2
   go_ret
   exact⟨qW,qB⟩
  obtain⟨aj,fZ,H⟩:=qE H
  try dsimp only at H
  obtain⟨ak,gm,H⟩:=qE H
  try dsimp only at H
  have H':=aM H
  clear H
  go_wp2_with (first|((with_reducible refine jc 20 49 ?_);refine jM func20 (Sa2.calls dQ _ _ af aj _ (kJ bg) (kp bg) fZ.out) ?_;rintro bP gJ ⟨ho0,hb⟩;have bC:=aM (S_lower ho0 (aa4 qB));replace bg:=kR bg hb;replace bA:=kR bA hb;replace bO:=kR bO hb;replace HB:=kH hb;clear hb;(try clear ho0);obtain⟨eu,eB,eD⟩:=R_slice bA.out;subst eD)|((with_reducible refine jc 20 51 ?_);refine jM func20 (Sa2.calls dQ _ _ bn ak _ (kJ bA) (kp bA) gm.out) ?_;rintro bQ gK ⟨ho0,hb⟩;have dH:=aM (S_lower (S_new' ho0 (S_lt (qS bC))) (aa4 qB));replace bg:=kR bg hb;replace bA:=kR bA hb;replace bO:=kR bO hb;replace bC:=aM (S_elder' (qS bC) (by first|exact S_base ho0|exact R_base ho0) hb);replace HB:=kH hb;clear hb;(try clear ho0)))
  go_loopg [10] dQ (fun kq v10 w'=>∃ (aa:Int),v10 = iV aa/\aa1 (aeg kq af aj ak aa=some r)/\aa1 (kq<=dQ)/\aa1 (Kd.R k27 27 w' w.heap.size (fun _=>True) (.slice dE af.length dF) af)/\aa1 (Kd.S (Kd.slice 4 Kd.bool) 37 w' w.heap.size (fun k_=>some k_≠(bQ:Value).ownBlock) bP aj)/\aa1 (Kd.S (Kd.slice 4 Kd.bool) 37 w' w.heap.size (fun k_=>some k_≠(bP:Value).ownBlock) bQ ak)/\aa1 (Below w.heap.size w w'))
  case atStart=>exact⟨(0),qZ,H',⟨Nat.le_refl _⟩,⟨by (with_reducible repeat (first|apply R_alloc|apply R_drewN|apply R_drew));exact R_mono bg.out (fun _ hk=>trivial)⟩,⟨by (with_reducible repeat (first|apply S_alloc|apply S_drewN|apply S_drew));exact S_mono bC.out (fun _ hk=>hk.2)⟩,⟨by (with_reducible repeat (first|apply S_alloc|apply S_drewN|apply S_drew));exact S_mono dH.out (fun _ hk=>hk.2)⟩,⟨qB⟩⟩
  clear H'
  try clear c2;try clear dw;try clear dx
  obtain⟨aa,rfl,HA,dM,bg,bi,aN,HB⟩:=hrel
  rcases gk with _|k2
  ·exact absurd HA.out (by simp [aeg])
  have H:=HA.out
  clear HA
  simp only [aeg] at H
  replace H:=jD H;rcases H with ⟨dG,H⟩ | ⟨dG,H⟩
  ·have H':=aM H
   clear H
   go_wp2
   go_loopg [11] k2 (fun kq v11 w'=>∃ (ag:Int),v11 = iV ag/\aa1 (acT kq af aj ak aa ag=some r)/\aa1 (kq<=k2)/\aa1 (Kd.R k27 27 w' w.heap.size (fun _=>True) (.slice dE af.length dF) af)/\aa1 (Kd.S (Kd.slice 4 Kd.bool) 37 w' w.heap.size (fun k_=>some k_≠(bQ:Value).ownBlock) bP aj)/\aa1 (Kd.S (Kd.slice 4 Kd.bool) 37 w' w.heap.size (fun k_=>some k_≠(bP:Value).ownBlock) bQ ak)/\aa1 (Below w.heap.size w w'))
   case atStart=>exact⟨(0),qZ,H',⟨Nat.le_refl _⟩,⟨qR bg⟩,⟨qS bi⟩,⟨qS aN⟩,⟨qB⟩⟩
   clear H'
   try clear c2;try clear dw;try clear dx;try clear dG
   obtain⟨ag,rfl,HA,dN,bg,bi,aN,HB⟩:=hrel
   rcases gk with _|k3
   ·exact absurd HA.out (by simp [acT])
   have H:=HA.out
   clear HA
   simp only [acT] at H
   replace H:=jD H;rcases H with ⟨dV,H⟩ | ⟨dV,H⟩
   ·replace H:=jI H;obtain⟨fe,H⟩:=H
    replace H:=jI H;obtain⟨fo,H⟩:=H
    replace H:=jI H;obtain⟨fq,H⟩:=H
    replace H:=jI H;obtain⟨fu,H⟩:=H
    obtain⟨eF,bZ⟩:∃ b_:Bool,b_=(abU false (abn ak aa) ag):=⟨_,rfl⟩
    replace H:(if eF=true then (if aa < (aj.length:Int) then (if ag < ((abn aj aa).length:Int) then (if (abU false (abn aj aa) ag=true) then (acT k3 af aj ak aa (wrap64 (ag+1))) else (some false)) else (none)) else (none)) else (acT k3 af aj ak aa (wrap64 (ag+1))))=some r:=by rw [<- bZ] at H;exact H
    have bI:=aM bZ;clear bZ
    replace H:=jB H;rcases H with ⟨rfl,H⟩ | ⟨rfl,H⟩
    ·replace H:=jI H;obtain⟨fw,H⟩:=H
     replace H:=jI H;obtain⟨fA,H⟩:=H
     obtain⟨eG,cu⟩:∃ b_:Bool,b_=(abU false (abn aj aa) ag):=⟨_,rfl⟩
     replace H:(if (eG=true) then (acT k3 af aj ak aa (wrap64 (ag+1))) else (some false))=some r:=by rw [<- cu] at H;exact H
     have bR:=aM cu;clear cu
     replace H:=jB H;rcases H with ⟨rfl,H⟩ | ⟨rfl,H⟩
     ·have H':=aM H
      clear H
      obtain⟨gp,gq,eH⟩:=S_slice aN.out
      subst eH
      have aG:0<=(aa:Int):=qD
      have aH:aa < (ak.length:Int):=qD
      obtain⟨cz,bS,bT,bJ,aO,ay,az⟩:=aiw (S_reads' aN.out).2.2 aa aG aH
      cases bJ
      obtain⟨cB,aV,aW,aI⟩:=S_get aN.out [] aa aG (by first|exact aH|exact qD|(have e_:=(S_reads' aN.out).1;omega))
      obtain⟨bK,rfl,ah⟩:=aW
      have ae:=aI 0 _ rfl
      rw [Nat.add_zero,show ((Kd.slice 4 Kd.bool)).sz=1 from rfl,Nat.mul_one] at ae
      replace ae:=Option.some.inj (ae.symm.trans aO)
      rw [ae] at ah
      have bL:=aM (show Kd.R Kd.bool 4 _ _ _ _ (abn ak aa) from ah)
      clear ae ah
      clear aI aV
      have aP:=aM az
      have bM:=aM ay
      clear az ay
      replace aG:=eq_true aG
      replace aH:=eq_true aH
      have aQ:0<=(ag:Int):=qD
      have aR:ag < ((abn ak aa).length:Int):=qD
      obtain⟨cK,bN,aD⟩:=Kd.at_bool (kC aP.out) ag aQ aR
      (try rw [<- bI.out] at aD)
      (try rw [<- bR.out] at aD)
      cases bN
      replace aQ:=eq_true aQ
      replace aR:=eq_true aR
      obtain⟨gu,gy,eO⟩:=S_slice bi.out
      subst eO
      have aX:0<=(aa:Int):=qD
      have aY:aa < (aj.length:Int):=qD
      obtain⟨dI,dz,dA,cO,bq,aS,aT⟩:=aiw (S_reads' bi.out).2.2 aa aX aY
      cases cO
      obtain⟨dJ,bD,bE,aZ⟩:=S_get bi.out [] aa aX (by first|exact aY|exact qD|(have e_:=(S_reads' bi.out).1;omega))
      obtain⟨df,rfl,aF⟩:=bE
      have ai:=aZ 0 _ rfl
      rw [Nat.add_zero,show ((Kd.slice 4 Kd.bool)).sz=1 from rfl,Nat.mul_one] at ai
      replace ai:=Option.some.inj (ai.symm.trans bq)
      rw [ai] at aF
      have dh:=aM (show Kd.R Kd.bool 4 _ _ _ _ (abn aj aa) from aF)
      clear ai aF
      clear aZ bD
      have bu:=aM aT
      have di:=aM aS
      clear aT aS
      replace aX:=eq_true aX
      replace aY:=eq_true aY
      have bv:0<=(ag:Int):=qD
      have bz:ag < ((abn aj aa).length:Int):=qD
      obtain⟨dK,dn,aU⟩:=Kd.at_bool (kC bu.out) ag bv bz
      (try rw [<- bI.out] at aU)
      (try rw [<- bR.out] at aU)
      cases dn
      replace bv:=eq_true bv
      replace bz:=eq_true bz
      go_wp2
      go_roundg k3
      case measure=>have:=dL.out;have:=dM.out;have:=dN.out;omega
      exact⟨(wrap64 (ag+1)),qZ,H',⟨by have:=dL.out;have:=dM.out;have:=dN.out;omega⟩,⟨qR bg⟩,⟨qS bi⟩,⟨qS aN⟩,⟨qB⟩⟩
     obtain rfl:=oJ H
     obtain⟨gz,gB,eP⟩:=S_slice aN.out
     subst eP
     have aG:0<=(aa:Int):=qD
     have aH:aa < (ak.length:Int):=qD
     obtain⟨cz,bS,bT,bJ,aO,ay,az⟩:=aiw (S_reads' aN.out).2.2 aa aG aH
     cases bJ
     obtain⟨cB,aV,aW,aI⟩:=S_get aN.out [] aa aG (by first|exact aH|exact qD|(have e_:=(S_reads' aN.out).1;omega))
     obtain⟨bK,rfl,ah⟩:=aW
     have ae:=aI 0 _ rfl
     rw [Nat.add_zero,show ((Kd.slice 4 Kd.bool)).sz=1 from rfl,Nat.mul_one] at ae
     replace ae:=Option.some.inj (ae.symm.trans aO)
     rw [ae] at ah
     have bL:=aM (show Kd.R Kd.bool 4 _ _ _ _ (abn ak aa) from ah)
     clear ae ah
     clear aI aV
     have aP:=aM az
     have bM:=aM ay
     clear az ay
     replace aG:=eq_true aG
     replace aH:=eq_true aH
     have aQ:0<=(ag:Int):=qD
     have aR:ag < ((abn ak aa).length:Int):=qD
     obtain⟨cK,bN,aD⟩:=Kd.at_bool (kC aP.out) ag aQ aR
     (try rw [<- bI.out] at aD)
     (try rw [<- bR.out] at aD)
     cases bN
     replace aQ:=eq_true aQ
     replace aR:=eq_true aR
     obtain⟨gD,gF,eQ⟩:=S_slice bi.out
     subst eQ
     have aX:0<=(aa:Int):=qD
     have aY:aa < (aj.length:Int):=qD
     obtain⟨dI,dz,dA,cO,bq,aS,aT⟩:=aiw (S_reads' bi.out).2.2 aa aX aY
     cases cO
     obtain⟨dJ,bD,bE,aZ⟩:=S_get bi.out [] aa aX (by first|exact aY|exact qD|(have e_:=(S_reads' bi.out).1;omega))
     obtain⟨df,rfl,aF⟩:=bE
     have ai:=aZ 0 _ rfl
     rw [Nat.add_zero,show ((Kd.slice 4 Kd.bool)).sz=1 from rfl,Nat.mul_one] at ai
     replace ai:=Option.some.inj (ai.symm.trans bq)
     rw [ai] at aF
     have dh:=aM (show Kd.R Kd.bool 4 _ _ _ _ (abn aj aa) from aF)
     clear ai aF
     clear aZ bD
     have bu:=aM aT
     have di:=aM aS
     clear aT aS
     replace aX:=eq_true aX
     replace aY:=eq_true aY
     have bv:0<=(ag:Int):=qD
     have bz:ag < ((abn aj aa).length:Int):=qD
     obtain⟨dK,dn,aU⟩:=Kd.at_bool (kC bu.out) ag bv bz
     (try rw [<- bI.out] at aU)
     (try rw [<- bR.out] at aU)
     cases dn
     replace bv:=eq_true bv
     replace bz:=eq_true bz
     go_wp2
     go_ret
     exact⟨qW,qB⟩
    have H':=aM H
    clear H
    obtain⟨gG,gH,eT⟩:=S_slice aN.out
    subst eT
    have aG:0<=(aa:Int):=qD
    have aH:aa < (ak.length:Int):=qD
    obtain⟨cz,bS,bT,bJ,aO,ay,az⟩:=aiw (S_reads' aN.out).2.2 aa aG aH
    cases bJ
    obtain⟨cB,aV,aW,aI⟩:=S_get aN.out [] aa aG (by first|exact aH|exact qD|(have e_:=(S_reads' aN.out).1;omega))
    obtain⟨bK,rfl,ah⟩:=aW
    have ae:=aI 0 _ rfl
    rw [Nat.add_zero,show ((Kd.slice 4 Kd.bool)).sz=1 from rfl,Nat.mul_one] at ae
    replace ae:=Option.some.inj (ae.symm.trans aO)
    rw [ae] at ah
    have bL:=aM (show Kd.R Kd.bool 4 _ _ _ _ (abn ak aa) from ah)
    clear ae ah
    clear aI aV
    have aP:=aM az
    have bM:=aM ay
    clear az ay
    replace aG:=eq_true aG
    replace aH:=eq_true aH
    have aQ:0<=(ag:Int):=qD
    have aR:ag < ((abn ak aa).length:Int):=qD
    obtain⟨cK,bN,aD⟩:=Kd.at_bool (kC aP.out) ag aQ aR
    (try rw [<- bI.out] at aD)
    cases bN
    replace aQ:=eq_true aQ
    replace aR:=eq_true aR
    go_wp2
    go_roundg k3
    case measure=>have:=dL.out;have:=dM.out;have:=dN.out;omega
    exact⟨(wrap64 (ag+1)),qZ,H',⟨by have:=dL.out;have:=dM.out;have:=dN.out;omega⟩,⟨qR bg⟩,⟨qS bi⟩,⟨qS aN⟩,⟨qB⟩⟩
   have H':=aM H
   clear H
   go_wp2
   go_roundg k3
   case measure=>have:=dL.out;have:=dM.out;have:=dN.out;omega
   exact⟨(wrap64 (aa+1)),qZ,H',⟨by have:=dL.out;have:=dM.out;have:=dN.out;omega⟩,⟨qR bg⟩,⟨qS bi⟩,⟨qS aN⟩,⟨qB⟩⟩
  obtain rfl:=oJ H
  go_wp2
  go_ret
  exact⟨qW,qB⟩
/-- THE ONE PURE STATEMENT of SbG: yours. -/
def SbG.Pure:Prop:=∀ (l0:List Int),l0.length<=maxLen->l0.length*1<=140737488351232->(∀ x∈l0,(Lit.int .u8 x).wf=true)->∃ k,SbG.f k l0=some true
theorem SbG.walk (P:SbG.Pure) (a0:Option Addr) (dB cap0:Nat) (z0:List Int) (w:World) (w0:(a0=none/\dB=0/\cap0=0/\z0=[])\/∃ x,a0=some x/\dB<=cap0/\cap0<=maxLen/\z0.length=cap0/\(∀ i,i < z0.length->w.cell? (x.add i)=some (.int .u8 (z0.getD i 0)))/\∀ n∈z0,(Lit.int .u8 n).wf=true) (y0:dB*1<=140737488351232) :
  Calls prog 8 #[.slice a0 dB cap0] w fun e w'=>e = .returned (.bool true)/\Below w.heap.size w w':=by
 obtain⟨l0,rfl,hr0,hm0,hw0,hc0⟩:=ag6 w0
 obtain⟨k,h⟩:=P l0 hm0 y0 hw0
 refine (SbG.calls k _ _ l0 true w (C_of_reads (d:=(0:Int)) (h1:=fun _=>rfl) hr0) hc0 h).mono ?_
 rintro e w' ⟨rfl,hd⟩
 exact⟨rfl,hd⟩
end Go.Proofs.YtebpplallecogaaGreat.M
namespace Go.Proofs.YtebpplallecogaaGreat.M
open Go.Proofs.Tryz Go.RowKit Go.Proofs.YtebpplallecogaaGreatW.PrintWords Go.Proofs.YtebpplallecogaaGreatW.PrintLast Go.Proofs.YtebpplallecogaaGreatW.PrintMore
attribute [local go_sem] aak aai aax aaw aae aad aaj aah
end Go.Proofs.YtebpplallecogaaGreat.M
namespace Go.Proofs.YtebpplallecogaaGreat.M
open Go.Proofs.Tryz Go.RowKit Go.Proofs.YtebpplallecogaaGreatW.PrintWords Go.Proofs.YtebpplallecogaaGreatW.PrintLast Go.Proofs.YtebpplallecogaaGreatW.PrintMore PM
theorem ajs {a b:Nat} (h:∀ r,a.testBit r=true->b.testBit r=true):a<=b:=by
 have e:a ||| b=b:=by
  apply Nat.eq_of_testBit_eq
  intro r
  rw [Nat.testBit_or]
  cases h1:a.testBit r
  ·rfl
  rw [h r h1]
  rfl
 rw [<- e]
 exact Nat.left_le_or
theorem sum_set:∀ (L:List Nat) (i x:Nat),i < L.length->(L.set i x).sum+L.getD i 0=L.sum+x
 | a :: L,0,x,h=>by simp;omega
 | a :: L,i+1,x,h=>by
  have:=sum_set L i x (by simpa using h)
  simp only [List.set_cons_succ,List.sum_cons,List.getD_cons_succ]
  omega
theorem an8:∀ (L:List Nat),(∀ x∈L,x < 4096)->L.sum<=4096*L.length
 | [],h=>by simp
 | a :: L,h=>by
  have:=an8 L (fun x hx=>h x (List.mem_cons_of_mem _ hx))
  have:=h a List.mem_cons_self
  simp only [List.sum_cons,List.length_cons]
  omega
theorem ao0 {n:Nat} {L:List Nat} (h:Tab n L):L.sum<=4096*n:=by
 rw [<- h.1]
 refine an8 L fun x hx=>?_
 obtain⟨i,hi,e⟩:=List.getElem_of_mem hx
 have:=h.2 i
 rw [List.getD_eq_getElem?_getD,List.getElem?_eq_getElem hi] at this
 rw [<- e]
 exact this
theorem ahH {c:List SQ} (h:CV (qs c)) {L:List Nat} (hL:Tab c.length L) {i:Nat} (hi:i < c.length) (r:Nat):(bf c L i).testBit r=true↔((∃ j∈nx (q_ (qa c i)) i,(L.getD j 0).testBit r=true)/\sets (q_ (qa c i))≠r)\/uses (q_ (qa c i)) r:=by
 unfold bf
 rw [aou (abR h hi) (ahK hL _ _)]
 unfold aft
 rw [afG]
 simp
/-- Below the next round,and within what is live. -/
structure Good (c:List SQ) (L:List Nat):Prop where
 tab:Tab c.length L
 up:∀ i,i < c.length->∀ r,(L.getD i 0).testBit r=true->(bf c L i).testBit r=true
 sound:∀ i,i < c.length->∀ r,(L.getD i 0).testBit r=true->Live (qs c) i r
theorem Good.step {c:List SQ} (h:CV (qs c)) {L:List Nat} (g:Good c L) {i:Nat} (hi:i < c.length):Good c (L.set i (bf c L i)):=by
 have hT:=g.tab.set i (bf c L i) (amF h g.tab hi)
 have hget:∀ j,(L.set i (bf c L i)).getD j 0=if j=i then bf c L i else L.getD j 0:=fun j=>ac1 L i j _ 0 (by rw [g.tab.1];exact hi)
 have hmono:∀ j r,j < c.length->(L.getD j 0).testBit r=true->((L.set i (bf c L i)).getD j 0).testBit r=true:=by
  intro j r hj hb
  rw [hget]
  split
  ·rename_i e
   subst e
   exact g.up j hi r hb
  exact hb
 have hbf:∀ j r,j < c.length->(bf c L j).testBit r=true->(bf c (L.set i (bf c L i)) j).testBit r=true:=by
  intro j r hj hb
  rw [ahH h g.tab hj] at hb
  rw [ahH h hT hj]
  rcases hb with ⟨⟨t,ht,hb⟩,hs⟩|hb
  ·exact .inl ⟨⟨t,ht,hmono t r (ajr h hj t ht) hb⟩,hs⟩
  exact .inr hb
 refine⟨hT,fun j hj r hb=>?_,fun j hj r hb=>?_⟩
 ·rw [hget] at hb
  split at hb
  ·rename_i e
   subst e
   exact hbf j r hj hb
  exact hbf j r hj (g.up j hj r hb)
 rw [hget] at hb
 split at hb
 ·rename_i e
  subst e
  rw [ahH h g.tab hj] at hb
  rcases hb with ⟨⟨t,ht,hb⟩,hs⟩|hb
  ·exact Live.flow (by rw [aaP];exact hj) (by rw [abJ];exact hs) (by rw [abJ];exact ht) (g.sound t (ajr h hj t ht) r hb)
  exact Live.use (by rw [aaP];exact hj) (by rw [abJ];exact hb)
 exact g.sound j hj r hb
theorem aiO {c:List SQ} (h:CV (qs c)):∀ (i:Nat),i<=c.length->∀ (L:List Nat) (b:Bool),Good c L->Good c (rnd c i L b).1
 | 0,hi,L,b,g=>g
 | i+1,hi,L,b,g=>aiO h i (by omega) _ _ (g.step h (by omega))
theorem aht {c:List SQ}:∀ (i:Nat),i<=c.length->∀ (L:List Nat) (b:Bool),L.length=c.length->(rnd c i L b).2=false->b=false/\(rnd c i L b).1=L/\∀ j,j < i->bf c L j=L.getD j 0
 | 0,hi,L,b,hl,e=>⟨e,rfl,fun j hj=>by omega⟩
 | i+1,hi,L,b,hl,e=>by
  obtain⟨e1,e2,e3⟩:=aht i (by omega) (L.set i (bf c L i)) _ (by rw [List.length_set];exact hl) e
  have f:=Bool.or_eq_false_iff.1 e1
  have f2:bf c L i=L.getD i 0:=by simpa using f.2
  have f3:L.set i (bf c L i)=L:=by rw [f2];exact afl (by omega)
  rw [f3] at e3
  refine⟨f.1,e2.trans f3,fun j hj=>?_⟩
  by_cases hji:j=i
  ·rw [hji]
   exact f2
  exact e3 j (by omega)
theorem ak6 {c:List SQ} (h:CV (qs c)):∀ (i:Nat),i<=c.length->∀ (L:List Nat) (b:Bool),Good c L->L.sum<=(rnd c i L b).1.sum/\((rnd c i L b).2=true->b=true\/L.sum < (rnd c i L b).1.sum)
 | 0,hi,L,b,g=>⟨Nat.le_refl _,fun e=>.inl e⟩
 | i+1,hi,L,b,g=>by
  obtain⟨h1,h2⟩:=ak6 h i (by omega) (L.set i (bf c L i)) (b || !decide (bf c L i=L.getD i 0)) (g.step h (i:=i) (by omega))
  have hs:=sum_set L i (bf c L i) (by rw [g.tab.1];omega)
  have hle:=ajs (g.up i (by omega))
  simp only [rnd]
  refine⟨by omega,fun e=>?_⟩
  rcases h2 e with e2|e2
  ·rcases Bool.or_eq_true_iff.1 e2 with e3|e3
   ·exact .inl e3
   have:bf c L i≠L.getD i 0:=by simpa using e3
   exact .inr (by omega)
  exact .inr (by omega)
/-- The table of what is live before each quad. -/
structure LT (c:List SQ) (L:List Nat):Prop where
 tab:Tab c.length L
 iff:∀ i,i < c.length->∀ r,(L.getD i 0).testBit r=true↔Live (qs c) i r
theorem ahz {c:List SQ} (h:CV (qs c)):∀ (m:Nat) (L:List Nat),Good c L->4096*c.length < m+L.sum->∃ T,LT c T/\Ev (fun k=>ael k c (rows L)) (rows T)/\Ev (fun k=>adm k c (ints L) true) (ints T)
 | 0,L,g,hm=>by
  have:=ao0 g.tab
  omega
 | m+1,L,g,hm=>by
  have h6:=ab9 h
  have hw:wrap64 ((c.length:Int) - 1)=(c.length:Int) - 1:=aaS (by omega) (by omega)
  have hr:=SaX.out h c.length (Nat.le_refl _) L false g.tab
  have hi:∀ v,Ev (fun k=>adm k c (ints (rnd c c.length L false).1) (rnd c c.length L false).2) v->Ev (fun k=>ac0 k c (ints L) false ((c.length:Int) - 1)) v:=fun v=>Sa6.out h c.length (Nat.le_refl _) L false g.tab
  cases e:(rnd c c.length L false).2 with
  | false =>
   obtain⟨_,e2,e3⟩:=aht c.length (Nat.le_refl _) L false g.tab.1 e
   refine⟨L,⟨g.tab,fun i hi r=>?_⟩,?_,?_⟩
   ·refine live_of_closed (c:=qs c) (T:=fun i r=>i < c.length->(L.getD i 0).testBit r=true) (fun i r hi' ht=>g.sound i (by rwa [aaP] at hi') r (ht (by rwa [aaP] at hi'))) ?_ ?_ i r (by rw [aaP];exact hi) |>.symm.trans ⟨fun x=>x hi,fun x _=>x⟩ |>.symm
    ·intro i r _ hu hi
     rw [<- e3 i hi,ahH h g.tab hi]
     rw [abJ] at hu
     exact .inr hu
    intro i j r _ hs hj ht hi
    rw [<- e3 i hi,ahH h g.tab hi]
    rw [abJ] at hs hj
    exact .inl ⟨⟨j,hj,ht (ajr h hi j hj)⟩,hs⟩
   ·refine Ev.succ ?_
    simp only [ael,SaX.f,hw]
    refine Ev.bind hr ?_
    refine aa5 (aaX Ev.pure ?_) ?_
    ·rw [e2]
    simp [e]
   refine Ev.succ ?_
   simp only [adm,hw]
   refine aa2 (hi _ ?_)
   rw [e,e2]
   refine Ev.succ ?_
   simp only [adm]
   exact aa5 Ev.pure
  | true =>
   have hs:=(ak6 h c.length (Nat.le_refl _) L false g).2 e
   have hs':L.sum < (rnd c c.length L false).1.sum:=by
    rcases hs with x|x
    ·cases x
    exact x
   obtain⟨T,t1,t2,t3⟩:=ahz h m (rnd c c.length L false).1 (aiO h c.length (Nat.le_refl _) L false g) (by omega)
   refine⟨T,t1,?_,?_⟩
   ·refine Ev.succ ?_
    simp only [ael,SaX.f,hw]
    refine Ev.bind hr (aa2 t2 ?_)
    exact e
   refine Ev.succ ?_
   simp only [adm,hw]
   refine aa2 (hi _ ?_)
   rw [e]
   exact t3
theorem akA {c:List SQ}:Good c (List.replicate c.length 0):=by
 have z:∀ i,(List.replicate c.length 0).getD i 0=0:=by
  intro i
  rw [List.getD_eq_getElem?_getD,List.getElem?_replicate]
  split <;> rfl
 refine⟨⟨by simp,fun i=>by rw [z];decide⟩,fun i hi r hb=>?_,fun i hi r hb=>?_⟩ <;>
 ·rw [z] at hb
  simp at hb
theorem ahX {c:List SQ} (h6:c.length<=600) {v:List (List Bool)} (g:Ev (fun k=>ael k c (rows (List.replicate c.length 0))) v):∀ (d p:Nat),p+d=c.length->Ev (fun k=>aeZ k c (rows (List.replicate p 0)) (p:Int)) v
 | 0,p,hp=>by
  refine Ev.succ ?_
  simp only [aeZ]
  refine aa5 ?_
  rw [show p=c.length from by omega]
  exact g
 | d+1,p,hp=>by
  refine Ev.succ ?_
  simp only [aeZ,adp,List.length_replicate,aaq (show p < 9223372036854775807 by omega)]
  refine aa2 (aa2 (aa2 ?_))
  have:=ahX h6 g d (p+1) (by omega)
  rw [List.replicate_succ',show rows (List.replicate p 0 ++ [0])=rows (List.replicate p 0) ++ [List.replicate 12 false] from by simp [rows,row_zero]] at this
  exact this
/-- Both answer one table: what is live. -/
theorem aig {c:List SQ} (h:CV (qs c)):∃ T,LT c T/\Ev (fun k=>Saq.f k c) (rows T)/\Ev (fun k=>Sa6.f k c) (ints T):=by
 have h6:=ab9 h
 obtain⟨T,t1,t2,t3⟩:=ahz h (4096*c.length+1) (List.replicate c.length 0) akA (by omega)
 refine⟨T,t1,?_,?_⟩
 ·simp only [Saq.f]
  refine aaG (Ev.bind (acp c) (aa2 ?_ (decide_eq_true h)))
  exact ahX h6.2 t2 c.length 0 (by omega)
 simp only [Sa6.f,Int.toNat_natCast]
 refine aa2 (aa2 ?_)
 rw [show List.replicate c.length (0:Int)=ints (List.replicate c.length 0) from by simp [ints]]
 exact t3
theorem aj7 {s r:Nat} (hs:s < 65536) (hr:r < 16):ajJ (s:Int) (r:Int)=some (s.testBit r):=by
 unfold ajJ
 rw [if_pos (by omega),aos hs hr]
/-- A quad is dead. -/
def dd (c:List SQ) (L:List Nat) (i:Nat):Bool:=((qa c i).f0 == 1 || (qa c i).f0 == 2 || (qa c i).f0 == 3) && !(aft (q_ (qa c i)) i L).testBit (qa c i).f1.toNat
def afe (c:List SQ) (L:List Nat) (i:Nat):SQ:=if dd c L i=true then ⟨4,0,0,0,((i+1:Nat):Int)⟩ else qa c i
def ad1 (L:List Nat) (c:List SQ):List SQ:=(List.range c.length).map (afe c L)
theorem abv (L:List Nat) (c:List SQ):(ad1 L c).length=c.length:=by simp [ad1]
theorem acA (L:List Nat) {c:List SQ} {i:Nat} (h:i < c.length):qa (ad1 L c) i=afe c L i:=by simp [ad1,qa,List.getD_eq_getElem?_getD,h]
theorem amn {s:Nat} {r:Int} (h0:0<=r) (h1:r < 12):abU false (row s) r=s.testBit r.toNat:=by
 have:=abI false (row s) r.toNat
 rw [Int.toNat_of_nonneg h0] at this
 rw [this]
 exact acJ _ _ (by omega)
theorem aqm {c:List SQ} (h:CV (qs c)) {i:Nat} (hi:i < c.length) (L:List Nat):alb (qa c i).f0 (qa c i).f1 (qa c i).f2 (qa c i).f3 (qa c i).f4 (row (aft (q_ (qa c i)) i L))=some (dd c L i):=by
 obtain⟨⟨d0,d1⟩,_⟩:=abE (abR h hi)
 simp only [q_] at d0 d1
 unfold alb dd
 rw [amn d0 d1,abu]
 by_cases c1:(qa c i).f0=1
 ·rw [if_pos c1,if_pos d0,if_pos (show (qa c i).f1 < ((12:Nat):Int) by omega)]
  simp [c1]
 rw [if_neg c1]
 by_cases c2:(qa c i).f0=2
 ·rw [if_pos c2,if_pos d0,if_pos (show (qa c i).f1 < ((12:Nat):Int) by omega)]
  simp [c2]
 rw [if_neg c2]
 by_cases c3:(qa c i).f0=3
 ·rw [if_pos c3,if_pos d0,if_pos (show (qa c i).f1 < ((12:Nat):Int) by omega)]
  simp [c3]
 rw [if_neg c3]
 simp [c1,c2,c3]
theorem Sak.out {c:List SQ} (h:CV (qs c)) {L:List Nat} (hL:Tab c.length L):∀ (d p:Nat),p+d=c.length->Ev (fun k=>aem k c ((ad1 L c).take p) (rows L) (p:Int)) (ad1 L c,true)
 | 0,p,hp=>by
  refine Ev.succ ?_
  simp only [aem]
  refine aa5 (aaX Ev.pure ?_)
  rw [List.take_of_length_le (by rw [abv];omega)]
 | d+1,p,hp=>by
  have h6:=ab9 h
  have hi:p < c.length:=by omega
  refine Ev.succ ?_
  have lt:((ad1 L c).take p).length < 3518437208883:=by rw [List.length_take,abv];omega
  have ih:=Sak.out h hL d (p+1) (by omega)
  have e:(ad1 L c).take p ++ [afe c L p]=(ad1 L c).take (p+1):=by
   rw [<- acA L hi]
   exact abT _ (by rw [abv];exact hi)
  rw [<- e] at ih
  simp only [aem,ac5,aaq (show p < 9223372036854775807 by omega)]
  refine aa2 (aa2 (Ev.bind (anN h hL hi) ?_))
  rw [aqm h hi]
  refine aaG ?_
  by_cases g:dd c L p=true
  ·rw [afe,if_pos g] at ih
   exact aa2 (aa2 ih lt)
  rw [afe,if_neg g] at ih
  exact aa5 (aa2 ih lt)
/-- The dead quads from p on. -/
def acP (c:List SQ) (L:List Nat):List Nat:=(List.range c.length).filter (dd c L)
def upto (c:List SQ) (L:List Nat) (p:Nat):List Nat:=(List.range p).filter (dd c L)
theorem ajX (c:List SQ) (L:List Nat) (p:Nat):upto c L (p+1)=upto c L p ++ (if dd c L p=true then [p] else []):=by
 unfold upto
 rw [List.range_succ,List.filter_append]
 congr 1
 by_cases h:dd c L p=true <;> simp [h]
theorem aiK (c:List SQ) (L:List Nat) (p:Nat):(upto c L p).length<=p:=by
 have:=List.length_filter_le (dd c L) (List.range p)
 rwa [List.length_range] at this
theorem Sa5.out {c:List SQ} (h:CV (qs c)) {L:List Nat} (hL:Tab c.length L):∀ (d p:Nat),p+d=c.length->Ev (fun k=>adn k c (ints (upto c L p)) (ints L) c (c.length:Int) (p:Int)) (ints (acP c L))
 | 0,p,hp=>by
  refine Ev.succ ?_
  simp only [adn]
  refine aa5 (aaX Ev.pure ?_)
  rw [show p=c.length from by omega]
  rfl
 | d+1,p,hp=>by
  have h6:=ab9 h
  have hi:p < c.length:=by omega
  have hs:aiE (qa c p).f0 (qa c p).f1 (qa c p).f2 (qa c p).f3 (qa c p).f4=some (sets (q_ (qa c p))):=apO (q_ (qa c p))
  have ih:=Sa5.out h hL d (p+1) (by omega)
  rw [ajX] at ih
  have ha:=ahK hL (q_ (qa c p)) p
  obtain⟨⟨d0,d1⟩,_⟩:=abE (abR h hi)
  simp only [q_] at d0 d1
  refine Ev.succ ?_
  simp only [adn,ac5,hs,aaq (show p < 9223372036854775807 by omega)]
  refine aa2 (aa2 (aa2 (aaG ?_)))
  by_cases g:(qa c p).f0=1\/(qa c p).f0=2\/(qa c p).f0=3
  ·have es:sets (q_ (qa c p))=(qa c p).f1:=by
    unfold sets
    exact if_pos (by show (qa c p).f0=1\/(qa c p).f0=2\/(qa c p).f0=3\/(qa c p).f0=7;omega)
   have gd:dd c L p = !(aft (q_ (qa c p)) p L).testBit (qa c p).f1.toNat:=by
    unfold dd
    rcases g with g|g|g <;> simp [g]
   rw [es]
   refine aa2 (aa5 (Ev.bind (anR h hL hi) ?_))
   have hb:=aj7 (s:=aft (q_ (qa c p)) p L) (r:=(qa c p).f1.toNat) (by omega) (by omega)
   rw [Int.toNat_of_nonneg d0] at hb
   rw [hb]
   refine aaG ?_
   cases t:(aft (q_ (qa c p)) p L).testBit (qa c p).f1.toNat with
   | true =>
    refine aa2 ?_ rfl
    rw [gd,t] at ih
    simpa using ih
   | false =>
    refine aa5 (aa2 ?_ (by rw [aaZ];have:=aiK c L p;omega)) (by simp)
    rw [gd,t] at ih
    have e:ints (upto c L p) ++ [(p:Int)]=ints (upto c L p ++ [p]):=by simp [ints]
    rw [e]
    simpa using ih
  have gd:dd c L p=false:=by
   unfold dd
   have g1:(qa c p).f0≠1:=by omega
   have g2:(qa c p).f0≠2:=by omega
   have g3:(qa c p).f0≠3:=by omega
   simp [g1,g2,g3]
  rw [gd] at ih
  simp only [Bool.false_eq_true,if_false,List.append_nil] at ih
  by_cases g7:(qa c p).f0=7
  ·have es:sets (q_ (qa c p))=(qa c p).f1:=by
    unfold sets
    exact if_pos (.inr (.inr (.inr g7)))
   rw [es]
   exact aa2 (aa2 ih)
  have es:sets (q_ (qa c p)) = -1:=by
   unfold sets
   exact if_neg (by show ¬ ((qa c p).f0=1\/(qa c p).f0=2\/(qa c p).f0=3\/(qa c p).f0=7);omega)
  rw [es]
  exact aa5 ih
theorem Sa1.out {c:List SQ} (h:CV (qs c)) {L:List Nat}:∀ (d p:Nat),p+d=(acP c L).length->∀ x:List SQ,x.length=c.length->(∀ i,i < c.length->qa x i=if i∈(acP c L).take p then ⟨4,0,0,0,((i+1:Nat):Int)⟩ else qa c i)->Ev (fun k=>afa k x (ints (acP c L)) ((acP c L).length:Int) (p:Int)) (ad1 L c,true)
 | 0,p,hp,x,hx,hq=>by
  refine Ev.succ ?_
  simp only [afa]
  refine aa5 (aaX Ev.pure ?_)
  have:x=ad1 L c:=by
   apply List.ext_getElem (by rw [hx,abv])
   intro i h1 h2
   have e:=hq i (by omega)
   have e2:=acA L (c:=c) (i:=i) (by omega)
   rw [List.take_of_length_le (by omega)] at e
   have e3:qa x i=qa (ad1 L c) i:=by
    rw [e,e2,afe]
    unfold acP
    by_cases g:dd c L i=true
    ·rw [if_pos (by simp [g];omega),if_pos g]
    rw [if_neg (by simp [g]),if_neg g]
   unfold qa at e3
   rwa [List.getD_eq_getElem?_getD,List.getD_eq_getElem?_getD,List.getElem?_eq_getElem h1,List.getElem?_eq_getElem h2] at e3
  rw [this]
 | d+1,p,hp,x,hx,hq=>by
  have h6:=ab9 h
  have hm:(acP c L).getD p 0∈acP c L:=acN (by omega)
  have hlt:(acP c L).getD p 0 < c.length:=by
   unfold acP at hm ⊢
   exact List.mem_range.1 (List.mem_filter.1 hm).1
  have hdl:(acP c L).length<=c.length:=aiK c L c.length
  refine Ev.succ ?_
  simp only [afa,aaZ,acK,hx,Int.toNat_natCast,aaq (show p < 9223372036854775807 by omega),aaq (show (acP c L).getD p 0 < 9223372036854775807 by omega)]
  refine aa2 (aa2 (aa2 (aa2 (aa2 ?_))))
  refine Sa1.out h d (p+1) (by omega) _ (by rw [List.length_set];exact hx) fun i hi=>?_
  unfold qa
  rw [ac1 x _ i _ _ (by omega),<- abT 0 (show p < (acP c L).length by omega)]
  by_cases e:i=(acP c L).getD p 0
  ·rw [if_pos e,if_pos (by simp [e]),e]
  rw [if_neg e]
  have:=hq i hi
  unfold qa at this
  rw [this]
  by_cases g:i∈(acP c L).take p
  ·rw [if_pos g,if_pos (by simp [g])]
  rw [if_neg g,if_neg]
  rw [List.mem_append,List.mem_singleton]
  exact fun y=>y.elim g e
theorem afN {c:List SQ} (h:CV (qs c)) (L:List Nat):CV (qs (ad1 L c)):=by
 have h6:=ab9 h
 refine akH (by rw [abv];exact h6.1) (by rw [abv];exact h6.2) (fun i hi=>?_) ?_
 ·rw [abv] at hi ⊢
  rw [acA L hi,afe]
  split
  ·rename_i g
   have lt:i+1 < c.length:=by
    have hl:=adO h
    have:i≠c.length - 1:=by
     intro e
     rw [<- e] at hl
     unfold dd at g
     rcases hl with hl|hl <;> simp [hl] at g
    omega
   exact .inr (.inr (.inr (.inl ⟨rfl,rfl,rfl,rfl,by show (0:Int)<=((i+1:Nat):Int);omega,by show ((i+1:Nat):Int) < (c.length:Int);omega⟩)))
  exact abR h hi
 rw [abv,acA L (by omega),afe]
 split
 ·exact .inr rfl
 exact adO h
/-- Both answer one code,and it is valid. -/
theorem aot {c:List SQ} (h:CV (qs c)):∃ v,v.length=c.length/\CV (qs v)/\Ev (fun k=>Sak.f k c) (v,true)/\Ev (fun k=>Sa1.f k c) (v,true):=by
 have h6:=ab9 h
 obtain⟨L,hL,e1,e2⟩:=aig h
 refine⟨ad1 L c,abv L c,afN h L,?_,?_⟩
 ·simp only [Sak.f]
  exact aaG (Ev.bind (acp c) (aa2 (Ev.bind e1 (Sak.out h hL.1 c.length 0 (Nat.zero_add _))) (decide_eq_true h)))
 simp only [Sa1.f,amd]
 refine Ev.bind (ajk c) (aa2 (Ev.bind (ab7 (if_pos (by omega))) (Ev.bind (F:=fun k=>Sa5.f k c) (a:=ints (acP c L)) ?_ ?_)) (decide_eq_true h))
 ·simp only [Sa5.f]
  exact Ev.bind e2 (Sa5.out h hL.1 c.length 0 (Nat.zero_add _))
 rw [aaZ]
 exact Sa1.out h (acP c L).length 0 (Nat.zero_add _) c rfl fun i hi=>by simp
end Go.Proofs.YtebpplallecogaaGreat.M
namespace Go.Proofs.YtebpplallecogaaGreat.M
open Go.Proofs.Tryz Go.RowKit Go.Proofs.YtebpplallecogaaGreatW.PrintWords Go.Proofs.YtebpplallecogaaGreatW.PrintLast Go.Proofs.YtebpplallecogaaGreatW.PrintMore
attribute [local go_sem] aak aai aax aaw aae aad aaj aah
end Go.Proofs.YtebpplallecogaaGreat.M
namespace Go.Proofs.YtebpplallecogaaGreat.M
open Go.Proofs.Tryz Go.RowKit Go.Proofs.YtebpplallecogaaGreatW.PrintWords Go.Proofs.YtebpplallecogaaGreatW.PrintLast Go.Proofs.YtebpplallecogaaGreatW.PrintMore PM
abbrev SE:=S90
/-- With fuel enough,F answers what P says. -/
def An {α:Type} (F:Nat->Option α) (P:α->Prop):Prop:=∃ v,Ev F v/\P v
theorem amh {α:Type} {F:Nat->Option α} {P:α->Prop} {v:α} (e:Ev F v) (p:P v):An F P:=⟨v,e,p⟩
theorem aaf {α:Type} {P:α->Prop} {v:α} (p:P v):An (fun _=>Option.some v) P:=⟨v,Ev.pure,p⟩
theorem An.bind {α β:Type} {F:Nat->Option α} {G:Nat->α->Option β} {P:α->Prop} {Q:β->Prop} (h:An F P) (g:∀ a,P a->An (fun k=>G k a) Q):An (fun k=>(F k).bind (G k)) Q:=by
 obtain⟨a,e,p⟩:=h
 obtain⟨b,e',q⟩:=g a p
 exact⟨b,Ev.bind e e',q⟩
theorem aba {α β:Type} {a:α} {G:Nat->α->Option β} {Q:β->Prop} (g:An (fun k=>G k a) Q):An (fun k=>(Option.some a).bind (G k)) Q:=g
theorem aaL {α:Type} {F:Nat->Option α} {P:α->Prop} (h:An (fun k=>F (k+1)) P):An F P:=by
 obtain⟨v,e,p⟩:=h
 exact⟨v,Ev.succ e,p⟩
theorem aaC {α:Type} {c:Prop} [Decidable c] {A B:Nat->Option α} {P:α->Prop} (g:An A P) (h:c:=by first|assumption|omega|(simp;done)|(simp;omega)):An (fun k=>if c then A k else B k) P:=by
 simp only [if_pos h]
 exact g
theorem ab1 {α:Type} {c:Prop} [Decidable c] {A B:Nat->Option α} {P:α->Prop} (g:An B P) (h:¬ c:=by first|assumption|omega|(simp;done)|(simp;omega)):An (fun k=>if c then A k else B k) P:=by
 simp only [if_neg h]
 exact g
theorem aaJ {α:Type} {c:Prop} [Decidable c] {A B:Nat->Option α} {P:α->Prop} (g:c->An A P) (g':¬ c->An B P):An (fun k=>if c then A k else B k) P:=by
 by_cases h:c
 ·exact aaC (g h) h
 exact ab1 (g' h) h
theorem An.mono {α:Type} {F:Nat->Option α} {P Q:α->Prop} (h:An F P) (g:∀ v,P v->Q v):An F Q:=by
 obtain⟨v,e,p⟩:=h
 exact⟨v,e,g v p⟩
def Bt (b:List Int):Prop:=b.length<=2000/\∀ x∈b,0<=x/\x < 256
theorem Bt.at_ {b:List Int} (h:Bt b) {i:Int} (h0:0<=i) (h1:i < b.length):0<=rd b i/\rd b i < 256:=by
 unfold rd
 have hi:i.toNat < b.length:=by omega
 have e:b.getD i.toNat 0=b[i.toNat]:=by simp [hi]
 rw [e]
 exact h.2 _ (List.getElem_mem _)
theorem ajm {x n:Int} (hx:0<=x) (hn:1<=n):0<=x.tmod n/\x.tmod n < n:=by
 rw [Int.tmod_eq_emod_of_nonneg hx]
 exact⟨Int.emod_nonneg _ (by omega),Int.emod_lt_of_pos _ (by omega)⟩
theorem anU (x y:Int) (h0:0<=x) (h1:x < 2 ^ 62) (h2:0<=y) (h3:y < 2 ^ 62):0<=Go.bits .xor .i64 x y:=by
 obtain⟨a,rfl⟩:=Int.eq_ofNat_of_zero_le h0
 obtain⟨b,rfl⟩:=Int.eq_ofNat_of_zero_le h2
 have ha:a < 2 ^ 62:=by exact_mod_cast h1
 have hb:b < 2 ^ 62:=by exact_mod_cast h3
 have hp:(2:Nat) ^ 62<=2 ^ IntKind.i64.bits:=by decide
 have ha':a % 2 ^ IntKind.i64.bits=a:=Nat.mod_eq_of_lt (Nat.lt_of_lt_of_le ha hp)
 have hb':b % 2 ^ IntKind.i64.bits=b:=Nat.mod_eq_of_lt (Nat.lt_of_lt_of_le hb hp)
 have hx:a ^^^ b < 2 ^ 62:=Nat.xor_lt_two_pow ha hb
 simp only [Go.bits,BitVec.ofInt_natCast,BitVec.toNat_xor,BitVec.toNat_ofNat,ha',hb']
 rw [IntKind.wrap_i64]
 omega
theorem aog (y z q d:Int) (hy:0<=y) (hy1:y < 256) (hz:0<=z) (hz1:z < 256) (hq:0<=q) (hq1:q<=1000000) (hd:0<=d) (hd1:d<=q) :
  0<=Go.bits .xor .i64 (wrap64 ((wrap64 ((wrap64 ((wrap64 ((wrap64 y)*131))+(wrap64 ((wrap64 z)*1117))))+(wrap64 (q*29))))+(wrap64 ((wrap64 d)*53)))) (wrap64 (Int.tdiv (wrap64 ((wrap64 ((wrap64 ((wrap64 ((wrap64 y)*131))+(wrap64 ((wrap64 z)*1117))))+(wrap64 (q*29))))+(wrap64 ((wrap64 d)*53)))) 64)):=by
 have e:wrap64 ((wrap64 ((wrap64 ((wrap64 ((wrap64 y)*131))+(wrap64 ((wrap64 z)*1117))))+(wrap64 (q*29))))+(wrap64 ((wrap64 d)*53)))=y*131+z*1117+q*29+d*53:=by unfold wrap64;omega
 rw [e]
 have h0:0<=y*131+z*1117+q*29+d*53:=by omega
 have h1:y*131+z*1117+q*29+d*53 < 1000000000000:=by omega
 generalize y*131+z*1117+q*29+d*53=X at h0 h1
 have h2:wrap64 (X.tdiv 64)=X / 64:=by rw [Int.tdiv_eq_ediv_of_nonneg h0];unfold wrap64;omega
 rw [h2]
 exact anU X (X / 64) h0 (by omega) (by omega) (by omega)
theorem aoc {b:List Int} (hb:Bt b) {p n:Int} (h:0<=p/\p+1<=1000000):An (fun k=>ab0 k b p n) (fun v=>0<=v.1/\(1<=n->v.1 < n)/\v.2=p+1):=by
 obtain⟨h0,h1⟩:=h
 have e1:wrap64 (p+1)=p+1:=aaS (by omega) (by omega)
 have e2:wrap64 (p+1 - 1)=p:=by rw [aaS (by omega) (by omega)];omega
 have t:An (fun k=>aeT k n true b (p+1)) (fun v=>0<=v.1/\(1<=n->v.1 < n)/\v.2=p+1)\/1<=n:=by
  by_cases c:1<=n
  ·exact Or.inr c
  refine Or.inl (aaL ?_)
  simp only [aeT]
  exact aaC (aaf ⟨by simp,fun h=>absurd h c,rfl⟩)
 simp only [ab0,e1]
 refine aaJ (fun c=>t.resolve_right (by omega)) (fun c=>?_)
 refine aaL ?_
 simp only [aeT,e2]
 refine aaJ (fun c'=>aaf ⟨by simp,fun h=>by simp only;omega,rfl⟩) (fun c'=>?_)
 have hl:1<=(b.length:Int):=by
  have:(b.length:Int)≠0:=by simpa using c'
  omega
 have hl2:=hb.1
 refine aaJ (fun d=>?_) (fun d=>?_)
 ·refine aaC (ab1 (aaf ?_))
  obtain⟨r0,r1⟩:=hb.at_ h0 d
  rw [aaS (by omega) (by omega)]
  exact⟨(ajm r0 (by omega)).1,fun h=>(ajm r0 h).2,rfl⟩
 obtain⟨i0,i1⟩:=ajm (x:=p) h0 hl
 have e3:wrap64 (wrap64 (p*7)+3)=p*7+3:=by unfold wrap64;omega
 obtain⟨j0,j1⟩:=ajm (x:=p*7+3) (by omega) hl
 obtain⟨y0,y1⟩:=hb.at_ i0 i1
 obtain⟨z0,z1⟩:=hb.at_ j0 j1
 simp only [e3]
 refine ab1 (aaC (aaC (aaC (aaC (ab1 (aaf ?_))))))
 have d0:0<=p.tdiv b.length:=Int.tdiv_nonneg h0 (by omega)
 have d1:p.tdiv b.length<=p:=by rw [Int.tdiv_eq_ediv_of_nonneg h0];exact Int.ediv_le_self _ h0
 have m:=aog _ _ p _ y0 y1 z0 z1 h0 (by omega) d0 d1
 exact⟨(ajm m (by omega)).1,fun h=>(ajm m h).2,rfl⟩
theorem aas {b:List Int} (hb:Bt b) {p:Int} (n:Int) (h:0<=p/\p+1<=1000000) (hn:1<=n:=by omega):An (fun k=>ab0 k b p n) (fun v=>0<=v.1/\v.1 < n/\v.2=p+1) :=
 (aoc hb h).mono fun v h=>⟨h.1,h.2.1 hn,h.2.2⟩
theorem abz {b:List Int} (hb:Bt b) {p:Int} (h:0<=p/\p+1<=1000000):An (fun k=>aeh k b p) (fun v=>v.2=p+1):=by
 simp only [aeh]
 exact An.bind (aas hb 6 h) fun v h=>aaf h.2.2
theorem aj2 {b:List Int} (hb:Bt b) {p:Int} (h:0<=p/\p+1<=1000000):An (fun k=>ajF k b p) (fun v=>1<=v.1/\v.1<=12/\v.2=p+1):=by
 simp only [ajF]
 refine An.bind (aas hb 12 h) fun v h=>aaf ?_
 rw [aaS (by omega) (by omega)]
 simp only
 omega
theorem ajP (n:Int):∃ v,aeM n=some v:=by
 unfold aeM
 split
 ·exact⟨_,rfl⟩
 split <;> exact⟨_,rfl⟩
theorem ajw {b:List Int} (hb:Bt b) {p:Int} (h:0<=p/\p+5<=1000000):An (fun k=>al0 k b p) (fun v=>p<=v.2/\v.2<=p+5):=by
 simp only [al0]
 refine An.bind (aas hb 6 (by omega)) fun v h1=>?_
 refine aaJ (fun c=>aba (An.bind (aas hb 8 (by omega)) fun u h2=>aaC (aaC (aaf (by simp only;omega)) (by simp only [List.length_cons,List.length_nil];omega)))) (fun c=>aaJ (fun c=>?_) (fun c=>aaJ (fun c=>An.bind (aas hb 200 (by omega)) fun u h2=>aaf (by simp only;omega)) (fun c=>An.bind (aas hb 20 (by omega)) fun u h2=>aaf (by simp only;omega))))
 refine An.bind (aas hb 256 (by omega)) fun v1 h1=>An.bind (aas hb 256 (by omega)) fun v2 h2=>An.bind (aas hb 256 (by omega)) fun v3 h3=>An.bind (aas hb 200 (by omega)) fun v4 h4=>?_
 obtain⟨x,hx⟩:=ajP (wrap64 ((wrap64 ((wrap64 ((wrap64 (v1.1*65536))+(wrap64 (v2.1*256))))+v3.1))*(wrap64 (1+v4.1))))
 simp only [hx]
 exact aba (aaf (by simp only;omega))
def okE:Nat->SE->Prop
 | 0,_=>False
 | d+1,e=>(e.f0=0/\0<=e.f1/\e.f1<=99999/\e.f2=[])\/(e.f0=13/\0<=e.f1/\e.f1<=3/\e.f2=[])\/(1<=e.f0/\e.f0<=12/\e.f1=0/\∃ a b,e.f2=[a,b]/\okE d a/\okE d b)
theorem akh:∀ {d:Nat} {e:SE},okE d e->okE (d+1) e
 | 0,_,h=>h.elim
 | d+1,e,h=>by
  rcases h with h|h | ⟨h1,h2,h3,a,b,h4,h5,h6⟩
  ·exact Or.inl h
  ·exact Or.inr (Or.inl h)
  exact Or.inr (Or.inr ⟨h1,h2,h3,a,b,h4,akh h5,akh h6⟩)
theorem ahx {d d':Nat} {e:SE} (h:okE d e) (hd:d<=d'):okE d' e:=by
 induction hd with
 | refl=>exact h
 | step _ ih=>exact akh ih
theorem agx {b:List Int} (hb:Bt b) {p:Int} (h:0<=p/\p+2<=1000000):An (fun k=>al2 k b p) (fun v=>okE 1 ⟨v.1,v.2.1,v.2.2.1⟩/\p<=v.2.2.2/\v.2.2.2<=p+2):=by
 simp only [al2,afh]
 refine An.bind (aas hb 4 (by omega)) fun v h1=>?_
 refine aaJ (fun c=>An.bind (aas hb 4 (by omega)) fun u h2=>aba (aaf ⟨Or.inl ⟨rfl,h2.1,by simp only;omega,rfl⟩,by simp only;omega⟩)) (fun c=>aaJ (fun c=>?_) (fun c=>An.bind (aas hb 4 (by omega)) fun u h2=>aba (aaf ⟨Or.inr (Or.inl ⟨rfl,h2.1,by simp only;omega,rfl⟩),by simp only;omega⟩)))
 refine aba (An.bind (aas hb 8 (by omega)) fun u h2=>aaC (aaC (aba (aaf ⟨Or.inl ⟨rfl,?_⟩,by simp only;omega⟩)) (by simp only [List.length_cons,List.length_nil];omega)))
 obtain⟨u1,u2⟩:=u
 obtain⟨m,rfl⟩:=Int.eq_ofNat_of_zero_le h2.1
 have hm:m < 8:=by have:=h2.2.1;simp only at this;omega
 simp only [aiQ]
 match m,hm with
 | 0,_=>simp
 | 1,_=>simp
 | 2,_=>simp
 | 3,_=>simp
 | 4,_=>simp
 | 5,_=>simp
 | 6,_=>simp
 | 7,_=>simp
def cE:Nat->Int
 | 0=>2
 | d+1=>2+2*cE d
theorem anl:∀ d,2<=cE d
 | 0=>by simp [cE]
 | d+1=>by have:=anl d;simp only [cE];omega
theorem aeH {b:List Int} (hb:Bt b):∀ (d:Nat) (p:Int),d<=100->0<=p/\p+cE d<=1000000->An (fun k=>adg k b p ((d+1:Nat):Int)) (fun v=>okE (d+1) ⟨v.1,v.2.1,v.2.2.1⟩/\p<=v.2.2.2/\v.2.2.2<=p+cE d)
 | 0,p,_,h=>by
  refine aaL ?_
  simp only [adg]
  refine aaC (aaL ?_)
  simp only [afT]
  exact aaC (An.bind (agx hb h) fun v h=>aaf h)
 | d+1,p,hd,h=>by
  have c2:=anl d
  simp only [cE] at h ⊢
  refine aaL ?_
  simp only [adg]
  refine ab1 (An.bind (aas hb 3 (by omega)) fun v h1=>aaL ?_)
  simp only [afT]
  refine aaJ (fun c=>An.bind (agx hb (by omega)) fun u h2=>aaf ⟨ahx h2.1 (by omega),by simp only;omega⟩) (fun c=>?_)
  have e:wrap64 (((d+1+1:Nat):Int) - 1)=((d+1:Nat):Int):=by rw [aaS (by omega) (by omega)];omega
  refine An.bind (aj2 hb (by omega)) fun o h3=>?_
  simp only [e]
  refine An.bind (aeH hb d o.2 (by omega) (by omega)) fun x h4=>?_
  refine An.bind (aeH hb d x.2.2.2 (by omega) (by omega)) fun y h5=>?_
  simp only [ahP]
  exact aba (aaf ⟨Or.inr (Or.inr ⟨h3.1,h3.2.1,rfl,_,_,rfl,h4.1,h5.1⟩),by simp only;omega⟩)
/-- One more than what was picked is a depth. -/
theorem adq {b:List Int} (hb:Bt b) {p x:Int} (hx:0<=x/\x < 3) (h:0<=p/\p+14<=1000000):An (fun k=>adg k b p (wrap64 (1+x))) (fun v=>okE 3 ⟨v.1,v.2.1,v.2.2.1⟩/\p<=v.2.2.2/\v.2.2.2<=p+14):=by
 obtain⟨m,rfl⟩:=Int.eq_ofNat_of_zero_le hx.1
 rw [aaS (by omega) (by omega),show (1:Int)+(m:Int)=((m+1:Nat):Int) by omega]
 have hc:cE m<=14:=by
  match m,hx with
  | 0,_=>decide
  | 1,_=>decide
  | 2,_=>decide
  | m+3,h=>omega
 exact (aeH hb m p (by omega) (by omega)).mono fun v h=>⟨ahx h.1 (by omega),by omega⟩
abbrev ST:=S92
def an9 (x:ST):Prop:=x.f4=[]/\x.f5=[]/\((x.f0=1/\0<=x.f1/\x.f1<=3/\x.f2=0/\okE 3 x.f3)\/(x.f0=4/\x.f1=0/\0<=x.f2/\x.f2<=2/\okE 3 x.f3)\/(x.f0=5/\0<=x.f1/\x.f1<=3/\0<=x.f2/\x.f2<=2/\x.f3=⟨0,0,[]⟩)\/(x.f0=6/\x.f1=0/\x.f2=0/\x.f3=⟨0,0,[]⟩)\/(x.f0=7/\x.f1=0/\x.f2=0/\okE 3 x.f3))
def okS:Nat->ST->Prop
 | 0,x=>an9 x
 | n+1,x=>an9 x\/((x.f0=2\/x.f0=3/\x.f5=[])/\x.f1=0/\x.f2=0/\okE 3 x.f3/\x.f4.length<=5/\x.f5.length<=5/\(∀ y∈x.f4,okS n y)/\(∀ y∈x.f5,okS n y))
theorem adb {n:Nat} {x:ST} (h:an9 x):okS n x:=by
 cases n with
 | zero=>exact h
 | succ n=>exact Or.inl h
/-- What a draw of a statement answers,as a statement;the reader behind it. -/
def tS (v:Int × Int × Int × Int × Int × List SE × List ST × List ST × Int):ST:=⟨v.1,v.2.1,v.2.2.1,⟨v.2.2.2.1,v.2.2.2.2.1,v.2.2.2.2.2.1⟩,v.2.2.2.2.2.2.1,v.2.2.2.2.2.2.2.1⟩
theorem afC {b:List Int} (hb:Bt b) {p:Int} (h:0<=p/\p+16<=1000000):An (fun k=>ajC k b p) (fun v=>an9 (tS v)/\p<=v.2.2.2.2.2.2.2.2/\v.2.2.2.2.2.2.2.2<=p+16):=by
 simp only [ajC]
 refine An.bind (aas hb 3 (by omega)) fun v h1=>An.bind (aas hb 3 (by omega)) fun u h2=>An.bind (adq hb (by omega) (by omega)) fun e h3=>aaf ?_
 exact⟨⟨rfl,rfl,Or.inl ⟨rfl,h1.1,by simp only [tS];omega,rfl,h3.1⟩⟩,by simp only;omega⟩
theorem agw {b:List Int} (hb:Bt b) {p x:Int} (hx:x<=3) (h:0<=p/\p+18<=1000000):An (fun k=>akU k b p x) (fun v=>an9 (tS v)/\p<=v.2.2.2.2.2.2.2.2/\v.2.2.2.2.2.2.2.2<=p+18):=by
 simp only [akU]
 refine aaJ (fun c=>An.bind (afC hb (by omega)) fun v h1=>aaf ⟨h1.1,by simp only;omega⟩) (fun c=>?_)
 refine An.bind (aas hb x (by omega)) fun v h1=>An.bind (aas hb 2 (by omega)) fun u h2=>aaJ (fun c=>?_) (fun c=>?_)
 ·refine An.bind (aas hb 3 (by omega)) fun y h3=>An.bind (adq hb (by omega) (by omega)) fun e h4=>aaf ?_
  exact⟨⟨rfl,rfl,Or.inr (Or.inl ⟨rfl,rfl,h1.1,by simp only [tS];omega,h4.1⟩)⟩,by simp only;omega⟩
 refine An.bind (aas hb 3 (by omega)) fun y h3=>aaf ?_
 exact⟨⟨rfl,rfl,Or.inr (Or.inr (Or.inl ⟨rfl,h3.1,by simp only [tS];omega,h1.1,by simp only [tS];omega,rfl⟩))⟩,by simp only;omega⟩
def cS:Nat->Int
 | 0=>19
 | n+1=>18+4*cS n
theorem agC:∀ n,19<=cS n
 | 0=>by simp [cS]
 | n+1=>by have:=agC n;simp only [cS];omega
/-- What is drawn for one statement of a nest n. -/
def agF (b:List Int) (n:Nat):Prop:=∀ (x:Int),x<=3->∀ (l:Bool) (p:Int),0<=p/\p+cS n<=1000000->An (fun k=>ajB k b p x (n:Int) l) (fun v=>v.1.length<=2/\(∀ y∈v.1,okS n y)/\p<=v.2/\v.2<=p+cS n)
theorem ahG {b:List Int} {n:Nat} (hs:agF b n) {x:Int} (hx:x<=3) (l:Bool) {m:Nat} (hm:m<=10):∀ (d i:Nat),i+d=m->∀ (o:List ST) (p:Int),o.length<=2*i->(∀ y∈o,okS n y)->0<=p/\p+(d:Int)*cS n<=1000000->An (fun k=>aeb k x (n:Int) (m:Int) l o (i:Int) b p) (fun v=>v.1.length<=2*m/\(∀ y∈v.1,okS n y)/\p<=v.2/\v.2<=p+(d:Int)*cS n)
 | 0,i,hi,o,p,ho,hy,h=>by
  refine aaL ?_
  simp only [aeb]
  exact ab1 (aaf ⟨by simp only;omega,hy,by simp only;omega⟩)
 | d+1,i,hi,o,p,ho,hy,h=>by
  have c2:=agC n
  have e:((d+1:Nat):Int)*cS n=(d:Int)*cS n+cS n:=by rw [show ((d+1:Nat):Int)=(d:Int)+1 from rfl,Int.add_mul,Int.one_mul]
  have e0:0<=(d:Int)*cS n:=Int.mul_nonneg (by omega) (by omega)
  rw [e] at h ⊢
  refine aaL ?_
  simp only [aeb,aaq (show i < 9223372036854775807 by omega)]
  refine aaC (An.bind (hs x hx l p (by omega)) fun v h1=>?_)
  refine aaC ?_
  refine (ahG hs hx l hm d (i+1) (by omega) (o ++ v.1) v.2 (by simp;omega) (by
   intro y hy'
   rcases List.mem_append.1 hy' with q|q
   ·exact hy y q
   exact h1.2.1 y q) (by omega)).mono fun u h2=>⟨h2.1,h2.2.1,by omega⟩
theorem ajb {b:List Int} {n:Nat} (hs:agF b n) {x:Int} (hx:x<=3) (l:Bool) {m:Int} (hm:0<=m/\m<=10) (p:Int) (h:0<=p/\p+m*cS n<=1000000):An (fun k=>afg k b p x (n:Int) m l) (fun v=>(v.1.length:Int)<=2*m/\(∀ y∈v.1,okS n y)/\p<=v.2/\v.2<=p+m*cS n):=by
 obtain⟨m,rfl⟩:=Int.eq_ofNat_of_zero_le hm.1
 refine aaL ?_
 simp only [afg]
 exact (ahG hs hx l (by omega) m 0 (Nat.zero_add _) [] p (by simp) (by simp) h).mono fun u h2=>⟨by omega,h2.2⟩
/-- A block of at most two. -/
theorem afR {b:List Int} {n:Nat} (hs:agF b n) {x:Int} (hx:x<=3) (l:Bool) {m:Int} (hm:0<=m/\m < 3) (p:Int) (h:0<=p/\p+2*cS n<=1000000):An (fun k=>afg k b p x (n:Int) m l) (fun v=>v.1.length<=4/\(∀ y∈v.1,okS n y)/\p<=v.2/\v.2<=p+2*cS n):=by
 have e:m*cS n<=2*cS n:=Int.mul_le_mul_of_nonneg_right (by omega) (by have:=agC n;omega)
 exact (ajb hs hx l (by omega) p (by omega)).mono fun u h2=>⟨by omega,h2.2.1,by omega⟩
theorem aqf {b:List Int} (hb:Bt b) {n:Nat} (hn:n<=1000) (hs:agF b n) {x:Int} (hx:x<=3) (l:Bool) (p:Int) (h:0<=p/\p+17+4*cS n<=1000000):An (fun k=>ajE k b p x ((n+1:Nat):Int) l) (fun v=>okS (n+1) (tS v)/\p<=v.2.2.2.2.2.2.2.2/\v.2.2.2.2.2.2.2.2<=p+17+4*cS n):=by
 have c2:=agC n
 have e:wrap64 (((n+1:Nat):Int) - 1)=(n:Int):=by rw [aaS (by omega) (by omega)];omega
 refine aaL ?_
 simp only [ajE,e]
 refine An.bind (aas hb 2 (by omega)) fun v h1=>An.bind (adq hb (by omega) (by omega)) fun q h2=>An.bind (aas hb 3 (by omega)) fun u h3=>An.bind (afR hs hx l (by omega) _ (by omega)) fun c h4=>An.bind (aas hb 3 (by omega)) fun u' h5=>An.bind (afR hs hx l (by omega) _ (by omega)) fun c' h6=>aaf ?_
 exact⟨Or.inr ⟨Or.inl rfl,rfl,rfl,h2.1,Nat.le_trans h4.1 (by omega),Nat.le_trans h6.1 (by omega),h4.2.1,h6.2.1⟩,by simp only;omega⟩
theorem aif {x:Int} (h:0<=x/\x<=99999):okE 1 ⟨0,x,[]⟩:=Or.inl ⟨rfl,h.1,h.2,rfl⟩
theorem akg:okE 1 ⟨13,3,[]⟩:=Or.inr (Or.inl ⟨rfl,by decide,by decide,rfl⟩)
theorem aoi {b:List Int} (hb:Bt b) {n:Nat} (hn:n<=1000) (hs:agF b n) {x:Int} (hx:x<=3) (p:Int) (h:0<=p/\p+17+4*cS n<=1000000):An (fun k=>ajD k b p x ((n+1:Nat):Int)) (fun v=>v.1.length<=2/\(∀ y∈v.1,okS (n+1) y)/\p<=v.2/\v.2<=p+17+4*cS n):=by
 have c2:=agC n
 have e:wrap64 (((n+1:Nat):Int) - 1)=(n:Int):=by rw [aaS (by omega) (by omega)];omega
 refine aaL ?_
 simp only [ajD,afh,ahP,e]
 refine An.bind (aas hb 3 (by omega)) fun v h1=>An.bind (afR hs hx false (by omega) _ (by omega)) fun c h2=>?_
 refine aba (aba (aba (aba (An.bind (aas hb 3 (by omega)) fun u h3=>aba (aba (aba ?_))))))
 refine aaC (aba (aaf ⟨by simp,?_,by simp only;omega⟩)) (by simp only [List.length_cons,List.length_nil];omega)
 have hw:wrap64 (1+u.1)=1+u.1:=aaS (by omega) (by omega)
 intro y hy
 rcases List.mem_cons.1 hy with rfl|hy
 ·exact Or.inl ⟨rfl,rfl,Or.inl ⟨rfl,by simp,by simp,rfl,ahx (aif (x:=0) (by decide)) (by omega)⟩⟩
 rcases List.mem_cons.1 hy with rfl|hy
 ·refine Or.inr ⟨Or.inr ⟨rfl,rfl⟩,rfl,rfl,?_,?_,by simp,?_,by simp⟩
  ·exact ahx (d:=2) (Or.inr (Or.inr ⟨by simp only;omega,by simp only;omega,rfl,_,_,rfl,akg,by rw [hw];exact aif (x:=1+u.1) (by omega)⟩)) (by omega)
  ·simp only [List.length_append,List.length_cons,List.length_nil]
   omega
  intro z hz
  rcases List.mem_append.1 hz with q|q
  ·exact h2.2.1 z q
  obtain rfl:=List.mem_singleton.1 q
  exact adb ⟨rfl,rfl,Or.inl ⟨rfl,by simp,by simp,rfl,ahx (d:=2) (Or.inr (Or.inr ⟨by simp only;omega,by simp only;omega,rfl,_,_,rfl,akg,aif (x:=1) (by decide)⟩)) (by omega)⟩⟩
 cases hy
theorem ada {n:Nat} {x:ST} (h:okS n x):∀ y∈[x],okS n y:=fun y hy=>by rw [List.mem_singleton.1 hy];exact h
theorem adY {b:List Int} (hb:Bt b) {n:Nat} {p:Int} (h:0<=p/\p+15<=1000000):An (fun k=>(ab0 k b p 3).bind fun t=>(adg k b t.2 (wrap64 (1+t.1))).bind fun e=>some ([(⟨7,0,0,⟨e.1,e.2.1,e.2.2.1⟩,[],[]⟩:ST)],e.2.2.2)) (fun v=>v.1.length<=2/\(∀ y∈v.1,okS n y)/\p<=v.2/\v.2<=p+15):=by
 refine An.bind (aas hb 3 (by omega)) fun v h1=>An.bind (adq hb (by omega) (by omega)) fun e h2=>aaf ?_
 exact⟨by simp,ada (adb ⟨rfl,rfl,Or.inr (Or.inr (Or.inr (Or.inr ⟨rfl,rfl,rfl,h2.1⟩)))⟩),by simp only;omega⟩
theorem ao1 {b:List Int} (hb:Bt b):∀ n,n<=1000->agF b n:=by
 intro n hn
 induction n with
 | zero=>?_
 | succ n ih=>?_
 all_goals
  intro x hx l p h
  refine aaL ?_
  simp only [ajB]
  simp only [cS] at h ⊢
 ·refine An.bind (aas hb 10 (by omega)) fun v h1=>?_
  have j2:∀ c,An (fun k=>adC k x v.1 c b v.2) (fun u=>u.1.length<=2/\(∀ y∈u.1,okS 0 y)/\p<=u.2/\u.2<=p+19):=by
   intro c
   refine aaL ?_
   simp only [adC]
   refine aaJ (fun c=>An.bind (agw hb hx (by omega)) fun t h2=>aaf ⟨by simp,ada (adb h2.1),by simp only;omega⟩) (fun c=>aaJ (fun c=>aaf ⟨by simp,ada (adb ⟨rfl,rfl,Or.inr (Or.inr (Or.inr (Or.inl ⟨rfl,rfl,rfl,rfl⟩)))⟩),by simp only;omega⟩) (fun c=>?_))
   exact (adY hb (n:=0) (by omega)).mono fun u h=>⟨h.1,h.2.1,by omega⟩
  have j1:An (fun k=>aea k x ((0:Nat):Int) false b v.2) (fun u=>u.1.length<=2/\(∀ y∈u.1,okS 0 y)/\p<=u.2/\u.2<=p+19):=by
   refine aaL ?_
   simp only [aea]
   exact ab1 ((adY hb (n:=0) (by omega)).mono fun u h=>⟨h.1,h.2.1,by omega⟩)
  have j0:∀ c,An (fun k=>adf k x ((0:Nat):Int) l v.1 c b v.2) (fun u=>u.1.length<=2/\(∀ y∈u.1,okS 0 y)/\p<=u.2/\u.2<=p+19):=by
   intro c
   refine aaL ?_
   simp only [adf]
   refine aaJ (fun c=>An.bind (afC hb (by omega)) fun t h2=>aaf ⟨by simp,ada (adb h2.1),by simp only;omega⟩) (fun c=>aaJ (fun c=>ab1 ((adY hb (n:=0) (by omega)).mono fun u h=>⟨h.1,h.2.1,by omega⟩)) (fun c=>aaJ (fun c=>ab1 j1) (fun c=>aaJ (fun c=>j2 _) (fun c=>aaJ (fun c=>j2 _) (fun c=>j2 _)))))
  exact aaJ (fun c=>j0 _) (fun c=>j0 _)
 have ih:=ih (by omega)
 have c2:=agC n
 refine An.bind (aas hb 10 (by omega)) fun v h1=>?_
 have j2:∀ c,An (fun k=>adC k x v.1 c b v.2) (fun u=>u.1.length<=2/\(∀ y∈u.1,okS (n+1) y)/\p<=u.2/\u.2<=p+(18+4*cS n)):=by
  intro c
  refine aaL ?_
  simp only [adC]
  refine aaJ (fun c=>An.bind (agw hb hx (by omega)) fun t h2=>aaf ⟨by simp,ada (adb h2.1),by simp only;omega⟩) (fun c=>aaJ (fun c=>aaf ⟨by simp,ada (adb ⟨rfl,rfl,Or.inr (Or.inr (Or.inr (Or.inl ⟨rfl,rfl,rfl,rfl⟩)))⟩),by simp only;omega⟩) (fun c=>?_))
  exact (adY hb (n:=n+1) (by omega)).mono fun u h=>⟨h.1,h.2.1,by omega⟩
 have j1:∀ c,An (fun k=>aea k x ((n+1:Nat):Int) c b v.2) (fun u=>u.1.length<=2/\(∀ y∈u.1,okS (n+1) y)/\p<=u.2/\u.2<=p+(18+4*cS n)):=by
  intro c
  refine aaL ?_
  simp only [aea]
  refine aaJ (fun c=>An.bind (aoi hb (by omega) ih hx _ (by omega)) fun u h=>aaf ⟨h.1,h.2.1,by simp only;omega⟩) (fun c=>?_)
  exact (adY hb (n:=n+1) (by omega)).mono fun u h=>⟨h.1,h.2.1,by omega⟩
 have j0:∀ c,An (fun k=>adf k x ((n+1:Nat):Int) l v.1 c b v.2) (fun u=>u.1.length<=2/\(∀ y∈u.1,okS (n+1) y)/\p<=u.2/\u.2<=p+(18+4*cS n)):=by
  intro c
  refine aaL ?_
  simp only [adf]
  refine aaJ (fun c=>An.bind (afC hb (by omega)) fun t h2=>aaf ⟨by simp,ada (adb h2.1),by simp only;omega⟩) (fun c=>aaJ (fun c=>aaC (An.bind (aqf hb (by omega) ih hx l _ (by omega)) fun t h2=>aaf ⟨by simp,ada h2.1,by simp only;omega⟩)) (fun c=>aaJ (fun c=>aaC (j1 _)) (fun c=>aaJ (fun c=>j2 _) (fun c=>aaJ (fun c=>j2 _) (fun c=>j2 _)))))
 exact aaJ (fun c=>j0 _) (fun c=>j0 _)
set_option maxRecDepth 100000
theorem ao7 (l:List ST) (i:Nat):aal l (i:Int)=l.getD i z92:=by simp [aal]
theorem ak2 {l:List ST} {i:Nat} (h:i < l.length):l.getD i z92∈l:=by
 rw [show l.getD i z92=l[i] by simp [h]]
 exact List.getElem_mem _
def cW:Nat->Int
 | 0=>1
 | n+1=>1+10*cW n
theorem ank:∀ n,1<=cW n
 | 0=>by simp [cW]
 | n+1=>by have:=ank n;simp only [cW];omega
theorem aqk {n:Nat} (h:n<=3):cW n<=1111:=by
 match n,h with
 | 0,_=>decide
 | 1,_=>decide
 | 2,_=>decide
 | 3,_=>decide
theorem ahF {l:List ST} (hl:l.length<=12) {B:Int} (hB:0<=B/\B<=6000) (hc:∀ x∈l,An (fun k=>SaC.f k x.f4) (fun c=>0<=c/\c<=B)/\An (fun k=>SaC.f k x.f5) (fun c=>0<=c/\c<=B)) :
  ∀ (d i:Nat),i+d=l.length->∀ t:Int,0<=t->t<=(i:Int)*12001->An (fun k=>aey k l t (i:Int)) (fun c=>t<=c/\c<=t+(d:Int)*(1+2*B))
 | 0,i,hi,t,h0,h1=>by
  refine aaL ?_
  simp only [aey]
  exact ab1 (aaf ⟨by omega,by omega⟩)
 | d+1,i,hi,t,h0,h1=>by
  have e:((d+1:Nat):Int)*(1+2*B)=(d:Int)*(1+2*B)+(1+2*B):=by rw [show ((d+1:Nat):Int)=(d:Int)+1 from rfl,Int.add_mul,Int.one_mul]
  rw [e]
  obtain⟨h4,h5⟩:=hc _ (ak2 (show i < l.length by omega))
  refine aaL ?_
  simp only [aey,ao7,aaq (show i < 9223372036854775807 by omega)]
  refine aaC (aaC (An.bind h4 fun c k4=>An.bind h5 fun c' k5=>?_))
  have e1:wrap64 (wrap64 (wrap64 (t+1)+c)+c')=t+1+c+c':=by unfold wrap64;omega
  rw [e1]
  exact (ahF hl hB hc d (i+1) (by omega) (t+1+c+c') (by omega) (by omega)).mono fun u h=>⟨by omega,by omega⟩
theorem afO {l:List ST} (hl:l.length<=12) {B:Int} (hB:0<=B/\B<=6000) (hc:∀ x∈l,An (fun k=>SaC.f k x.f4) (fun c=>0<=c/\c<=B)/\An (fun k=>SaC.f k x.f5) (fun c=>0<=c/\c<=B)):An (fun k=>SaC.f k l) (fun c=>0<=c/\c<=(l.length:Int)*(1+2*B)):=by
 refine aaL ?_
 simp only [SaC.f]
 exact (ahF hl hB hc l.length 0 (Nat.zero_add _) 0 (by omega) (by omega)).mono fun u h=>⟨h.1,by omega⟩
theorem ae6 {B:Int} (h:0<=B):An (fun k=>SaC.f k []) (fun c=>0<=c/\c<=B) :=
 (afO (l:=[]) (by simp) (B:=0) (by omega) (by simp)).mono fun u h'=>⟨h'.1,by simp at h';omega⟩
theorem ahc:∀ n,n<=3->∀ l:List ST,(∀ x∈l,okS n x)->l.length<=12->An (fun k=>SaC.f k l) (fun c=>0<=c/\c<=(l.length:Int)*cW n)
 | 0,_,l,h,hl=>by
  refine (afO hl (B:=0) (by omega) fun x hx=>?_).mono fun u h'=>⟨h'.1,by simp only [cW];omega⟩
  obtain⟨e4,e5,_⟩:an9 x:=h x hx
  rw [e4,e5]
  exact⟨ae6 (by omega),ae6 (by omega)⟩
 | n+1,hn,l,h,hl=>by
  have w0:=ank n
  have w1:=aqk (n:=n) (by omega)
  refine (afO hl (B:=5*cW n) (by omega) fun x hx=>?_).mono fun u h'=>⟨h'.1,by rw [show cW (n+1)=1+2*(5*cW n) by simp only [cW];omega];exact h'.2⟩
  rcases h x hx with ⟨e4,e5,_⟩ | ⟨_,_,_,_,l4,l5,h4,h5⟩
  ·rw [e4,e5]
   exact⟨ae6 (by omega),ae6 (by omega)⟩
  have m4:(x.f4.length:Int)*cW n<=5*cW n:=Int.mul_le_mul_of_nonneg_right (by omega) (by omega)
  have m5:(x.f5.length:Int)*cW n<=5*cW n:=Int.mul_le_mul_of_nonneg_right (by omega) (by omega)
  exact⟨(ahc n (by omega) x.f4 h4 (by omega)).mono fun u k=>⟨k.1,by omega⟩,(ahc n (by omega) x.f5 h5 (by omega)).mono fun u k=>⟨k.1,by omega⟩⟩
/-- What aa answers. -/
def okL (l:List ST):Prop:=l.length<=12/\(∀ x∈l,okS 3 x)/\∃ c:Int,c<=16/\Ev (fun k=>SaC.f k l) c
theorem aoT {b:List Int} (p:Int):∀ (d:Nat) (o:List ST),o.length=d->d<=12->(∀ x∈o,okS 3 x)->An (fun k=>aeS k o b p) (fun v=>okL v.1/\v.2=p):=by
 intro d
 induction d with
 | zero=>?_
 | succ d ih=>?_
 all_goals
  intro o ho hd h
  obtain⟨c,e,c0,c1⟩:=ahc 3 (by omega) o h (by omega)
  refine aaL ?_
  simp only [aeS]
  refine An.bind (amh (P:=fun u=>u=c) e rfl) fun u hu=>?_
  subst hu
  refine aaJ (fun g=>?_) (fun g=>aaf ⟨⟨by show o.length<=12;omega,h,u,by omega,e⟩,rfl⟩)
 ·rw [ho] at c1
  simp at c1
  omega
 have e1:wrap64 ((o.length:Int) - 1)=(d:Int):=by rw [ho,aaS (by omega) (by omega)];omega
 rw [e1]
 refine aaC (aaC ?_)
 rw [Int.toNat_natCast]
 exact ih (o.take d) (by rw [List.length_take];omega) (by omega) fun x hx=>h x (List.mem_of_mem_take hx)
theorem aij {b:List Int} (hb:Bt b) {x p:Int} (hx:x<=3) (h:0<=p/\p+9600<=1000000):An (fun k=>akW k b p x) (fun v=>okL v.1/\p<=v.2/\v.2<=p+9600):=by
 have e3:cS 3=1594:=by decide
 simp only [akW]
 refine An.bind (aas hb 6 (by omega)) fun v h1=>?_
 have e1:wrap64 (1+v.1)=1+v.1:=aaS (by omega) (by omega)
 have e2:(1+v.1)*cS 3<=6*cS 3:=Int.mul_le_mul_of_nonneg_right (by omega) (by omega)
 rw [e1]
 refine An.bind (ajb (n:=3) (ao1 hb 3 (by omega)) hx true (m:=1+v.1) (by omega) v.2 (by omega)) fun c h2=>?_
 exact (aoT c.2 c.1.length c.1 rfl (by omega) h2.2.1).mono fun u h3=>⟨h3.1,by omega,by omega⟩
theorem aik:∀ (d:Nat) (e:SE),okE d e->∀ a:Int,d<=a->a<=5->Ev (fun k=>ahj k e.f0 e.f1 e.f2 a) true
 | 0,_,h,_,_,_=>h.elim
 | d+1,⟨f0,f1,f2⟩,h,a,ha,ha'=>by
  refine Ev.succ ?_
  simp only [ahj,ahO,aiB]
  refine aa5 ?_
  rcases h with ⟨q0,q1,q2,q3⟩ | ⟨q0,q1,q2,q3⟩ | ⟨q0,q1,q2,x,y,q3,q4,q5⟩
  ·simp only at q0 q1 q2 q3
   subst q0;subst q3
   exact aa2 (aaG (aa2 (aaX Ev.pure rfl) (by simp;omega)))
  ·simp only at q0 q1 q2 q3
   subst q0;subst q3
   exact aa5 (aa2 (aaG (aa2 (aaX Ev.pure rfl) (by simp;omega))))
  simp only at q0 q1 q2 q3
  subst q2;subst q3
  have ew:wrap64 (a - 1)=a - 1:=aaS (by omega) (by omega)
  have i1:=aik d x q4 (a - 1) (by omega) (by omega)
  have i2:=aik d y q5 (a - 1) (by omega) (by omega)
  rw [ew]
  refine aa5 (aa5 (aaG (aa2 (aa2 (aa2 (aa2 (Ev.bind i1 (aa2 (aa2 (Ev.bind i2 Ev.pure) (by simp)) rfl)) (by simp)) (by simp)) rfl) (by simp;omega))))
theorem afj {d:Nat} {e:SE} (h:okE d e) (hd:d<=5):Ev (fun k=>aiC k e.f0 e.f1 e.f2) true:=by
 simp only [aiC]
 exact Ev.bind (aik d e h 5 (by omega) (by omega)) Ev.pure
theorem ahq {x:ST} (h:an9 x) (k0:Int):Ev (fun k=>agn k x.f0 x.f1 x.f2 x.f3.f0 x.f3.f1 x.f3.f2 x.f4 x.f5 k0) true:=by
 obtain⟨f0,f1,f2,f3,f4,f5⟩:=x
 obtain⟨e4,e5,h⟩:=h
 simp only at e4 e5 h
 subst e4;subst e5
 have h2:f0≠2:=by omega
 have h3:f0≠3:=by omega
 refine Ev.succ ?_
 simp only [agn]
 refine aa5 (Ev.succ ?_)
 simp only [adJ]
 refine aa2 (Ev.bind ?_ Ev.pure) (by simp [h3])
 simp only [an2]
 refine aa5 (Ev.succ ?_)
 simp only [agR,agm,agp,ahO,am7]
 refine aa5 ?_
 rcases h with ⟨rfl,q1,q2,q3,q4⟩ | ⟨rfl,q1,q2,q3,q4⟩ | ⟨rfl,q1,q2,q3,q4,q5⟩ | ⟨rfl,q1,q2,q3⟩ | ⟨rfl,q1,q2,q3⟩
 ·refine aa2 (Ev.bind (a:=true) (aa2 (aaG (aaX Ev.pure (by simp;omega)))) (aa2 (Ev.bind (a:=true) (aa5 (aaX Ev.pure (by simp;omega))) (aa2 (Ev.bind (afj q4 (by omega)) Ev.pure) rfl)) rfl))
 ·refine aa5 (aa2 (Ev.bind (a:=true) (aa5 (aaX Ev.pure (by simp;omega))) (aa2 (Ev.bind (a:=true) (aa2 (aaG (aaX Ev.pure (by simp;omega)))) (aa2 (Ev.bind (afj q4 (by omega)) Ev.pure) rfl)) rfl)))
 ·subst q5
  exact aa5 (aa5 (aa2 (Ev.bind (a:=true) (aa2 (aaG (aaX Ev.pure (by simp;omega)))) (aa2 (Ev.bind (a:=true) (aa2 (aaG (aaX Ev.pure (by simp;omega)))) (aa2 (Ev.bind (a:=true) (aa2 (aa2 (aaX Ev.pure rfl) rfl) rfl) Ev.pure) rfl)) rfl))))
 ·subst q3
  exact aa5 (aa5 (aa5 (aa2 (Ev.bind (a:=true) (aa5 (aaX Ev.pure (by simp;omega))) (aa2 (Ev.bind (a:=true) (aa5 (aaX Ev.pure (by simp;omega))) (aa2 (Ev.bind (a:=true) (aa2 (aa2 (aaX Ev.pure rfl) rfl) rfl) Ev.pure) rfl)) rfl)))))
 exact aa5 (aa5 (aa5 (aa5 (aa2 (Ev.bind (a:=true) (aa5 (aaX Ev.pure (by simp;omega))) (aa2 (Ev.bind (a:=true) (aa5 (aaX Ev.pure (by simp;omega))) (aa2 (Ev.bind (afj q3 (by omega)) Ev.pure) rfl)) rfl))))))
theorem agD {l:List ST} (hl:l.length<=12) {a:Int} (hx:∀ x∈l,Ev (fun k=>agn k x.f0 x.f1 x.f2 x.f3.f0 x.f3.f1 x.f3.f2 x.f4 x.f5 a) true):∀ (d i:Nat),i+d=l.length->Ev (fun k=>aez k l a (i:Int)) true
 | 0,i,hi=>by
  refine Ev.succ ?_
  simp only [aez]
  exact aa5 Ev.pure
 | d+1,i,hi=>by
  refine Ev.succ ?_
  simp only [aez,ao7,aaq (show i < 9223372036854775807 by omega)]
  exact aa2 (aa2 (Ev.bind (hx _ (ak2 (by omega))) (aa2 (agD hl hx d (i+1) (by omega)) rfl)))
theorem aeL {l:List ST} (hl:l.length<=12) {a:Int} (hx:∀ x∈l,Ev (fun k=>agn k x.f0 x.f1 x.f2 x.f3.f0 x.f3.f1 x.f3.f2 x.f4 x.f5 a) true):Ev (fun k=>SaA.f k l a) true:=by
 refine Ev.succ ?_
 simp only [SaA.f]
 exact agD hl hx l.length 0 (Nat.zero_add _)
theorem aoe:∀ (n:Nat),n<=3->∀ x:ST,okS n x->Ev (fun k=>agn k x.f0 x.f1 x.f2 x.f3.f0 x.f3.f1 x.f3.f2 x.f4 x.f5 (n:Int)) true
 | 0,_,x,h=>ahq h _
 | n+1,hn,x,h=>by
  rcases h with h | ⟨q0,q1,q2,q3,l4,l5,h4,h5⟩
  ·exact ahq h _
  have b4:=aeL (l:=x.f4) (by omega) fun y hy=>aoe n (by omega) y (h4 y hy)
  have b5:=aeL (l:=x.f5) (by omega) fun y hy=>aoe n (by omega) y (h5 y hy)
  have e:wrap64 (((n+1:Nat):Int) - 1)=(n:Int):=by rw [aaS (by omega) (by omega)];omega
  have j1:Ev (fun k=>af6 k ((n+1:Nat):Int) false x.f0 x.f1 x.f2 x.f3.f0 x.f3.f1 x.f3.f2 x.f4 x.f5) true:=by
   refine Ev.succ ?_
   simp only [af6,agm,agp,ahO,q1,q2,e]
   exact aa5 (Ev.bind (a:=true) (aa5 (aaX Ev.pure rfl)) (aa2 (Ev.bind (a:=true) (aa5 (aaX Ev.pure rfl)) (aa2 (Ev.bind (afj q3 (by omega)) (aa2 (Ev.bind b4 (aa2 (Ev.bind b5 Ev.pure) rfl)) rfl)) rfl)) rfl))
  refine Ev.succ ?_
  simp only [agn]
  rcases q0 with q0 | ⟨q0,q5⟩
  ·refine aa2 (Ev.succ ?_) q0
   simp only [adJ]
   exact aa5 (aa5 (aa5 j1))
  refine aa5 (Ev.succ ?_)
  simp only [adJ]
  refine aa5 (aa5 (aa2 ?_ q0)) (by simp [q0])
  rw [q5] at j1 ⊢
  exact j1
theorem agY {l:List ST} (h:okL l):Ev (fun k=>alF k l) true:=by
 obtain⟨h1,h2,c,h3,h4⟩:=h
 simp only [alF]
 exact Ev.bind (aeL h1 fun x hx=>aoe 3 (by omega) x (h2 x hx)) (aa2 (Ev.bind h4 (aaX Ev.pure (by simpa using h3))) rfl)
/-- Valid quads whose targets are t at most. -/
def upQ (t:Int) (c:List SQ):Prop:=∀ q∈c,∀ m:Int,t < m->QV (q_ q) m
theorem r4:rg 4:=by decide
theorem upQ.le {t u:Int} {c:List SQ} (h:upQ t c) (hu:t<=u):upQ u c:=fun q hq m hm=>h q hq m (by omega)
theorem upQ.app {t:Int} {c d:List SQ} (h:upQ t c) (h':upQ t d):upQ t (c ++ d):=fun q hq=>(List.mem_append.1 hq).elim (h q) (h' q)
theorem upQ.one {t:Int} {q:SQ} (h:∀ m:Int,t < m->QV (q_ q) m):upQ t [q]:=fun x hx=>by rw [List.mem_singleton.1 hx];exact h
theorem aoQ (x y:SE):aaK [x,y] 0=x:=rfl
theorem aoP (x y:SE):aaK [x,y] 1=y:=rfl
def cX:Nat->Nat
 | 0=>0
 | d+1=>2*cX d+1
theorem aqj {d:Nat} (h:d<=3):cX d<=7:=by
 match d,h with
 | 0,_=>decide
 | 1,_=>decide
 | 2,_=>decide
 | 3,_=>decide
theorem aoR {c:List SQ} {i:Nat} (h:i < c.length):qa c i∈c:=by
 unfold qa
 rw [show c.getD i z27=c[i] by simp [h]]
 exact List.getElem_mem _
theorem aeI:∀ (d:Nat),d<=3->∀ (e:SE),okE d e->∀ a:Int,0<=a->a+d<=12->An (fun k=>adQ k e.f0 e.f1 e.f2 a) (fun c=>1<=c.length/\c.length<=cX d/\upQ (-1) c)
 | 0,_,_,h,_,_,_=>h.elim
 | d+1,hd,⟨f0,f1,f2⟩,h,a,ha,ha'=>by
  have c7:=aqj (d:=d) (by omega)
  refine aaL ?_
  simp only [adQ]
  rcases h with ⟨q0,q1,q2,q3⟩ | ⟨q0,q1,q2,q3⟩ | ⟨q0,q1,q2,x,y,q3,q4,q5⟩
  ·simp only at q0 q1 q2
   exact aaC (aaf ⟨by simp,by simp [cX],upQ.one fun m hm=>Or.inl ⟨rfl,⟨ha,by simp only [q_];omega⟩,rfl,rfl,by simp only [q_];omega,by simp only [q_];omega⟩⟩)
  ·simp only at q0 q1 q2
   exact ab1 (aaC (aaf ⟨by simp,by simp [cX],upQ.one fun m hm=>Or.inr (Or.inl ⟨rfl,⟨ha,by simp only [q_];omega⟩,⟨q1,by simp only [q_];omega⟩,rfl,rfl⟩)⟩))
  simp only at q0 q1 q2 q3
  subst q3
  have hd0:1<=d:=by
   cases d with
   | zero=>exact q4.elim
   | succ d=>omega
  have ew:wrap64 (a+1)=a+1:=aaS (by omega) (by omega)
  simp only [ew,aoQ,aoP]
  refine ab1 (ab1 (aaC (An.bind (aeI d (by omega) x q4 a ha (by omega)) fun c h1=>aaC (An.bind (aeI d (by omega) y q5 (a+1) (by omega) (by omega)) fun c' h2=>aaC (aba (aaC (aaf ?_) ?_))) (by simp)) (by simp)))
  ·refine⟨by simp;omega,by simp [cX];omega,upQ.app (upQ.app h1.2.2 h2.2.2) (upQ.one fun m hm=>Or.inr (Or.inr (Or.inl ⟨rfl,⟨ha,by simp only [q_];omega⟩,⟨ha,by simp only [q_];omega⟩,⟨by simp only [q_];omega,by simp only [q_];omega⟩,q0,q1⟩)))⟩
  simp only [List.length_append]
  omega
theorem adN {e:SE} (h:okE 3 e):An (fun k=>adQ k e.f0 e.f1 e.f2 4) (fun c=>1<=c.length/\c.length<=7/\upQ (-1) c):=aeI 3 (by omega) e h 4 (by omega) (by omega)
theorem ahE:An (fun k=>adQ k 0 0 [] 4) (fun c=>1<=c.length/\c.length<=7/\upQ (-1) c):=adN (e:=⟨0,0,[]⟩) (Or.inl ⟨rfl,by simp,by simp,rfl⟩)
def cZ:Nat->Nat
 | 0=>8
 | n+1=>9+10*cZ n
theorem aqi {n:Nat} (h:n<=3):cZ n<=8999/\8<=cZ n:=by
 match n,h with
 | 0,_=>decide
 | 1,_=>decide
 | 2,_=>decide
 | 3,_=>decide
/-- The code of a statement that begins at a. -/
def ajl (Z:Nat) (A:Int) (x:ST):Prop:=∀ a:Int,0<=a->a<=A->An (fun k=>aiG k x.f0 x.f1 x.f2 x.f3.f0 x.f3.f1 x.f3.f2 x.f4 x.f5 a) (fun c=>c.length<=Z/\upQ (a+c.length) c)
theorem aiZ {l:List ST} (hl:l.length<=12) {Z:Nat} (hZ:Z<=9000) {A:Int} (hA:A<=1000000) (hx:∀ x∈l,ajl Z A x) {a:Int} (ha:0<=a) (ha':a+108000<=A):∀ (d i:Nat),i+d=l.length->∀ o:List SQ,o.length<=i*Z->upQ (a+o.length) o->An (fun k=>aew k l a o (i:Int)) (fun c=>c.length<=l.length*Z/\upQ (a+c.length) c)
 | 0,i,hi,o,ho,hu=>by
  refine aaL ?_
  simp only [aew]
  exact ab1 (aaf ⟨by rw [show l.length=i by omega];exact ho,hu⟩)
 | d+1,i,hi,o,ho,hu=>by
  have m1:i*Z<=12*9000:=Nat.mul_le_mul (by omega) hZ
  refine aaL ?_
  simp only [aew,ao7,aaq (show i < 9223372036854775807 by omega)]
  have ew:wrap64 (a+(o.length:Int))=a+o.length:=aaS (by omega) (by omega)
  rw [ew]
  refine aaC (aaC (An.bind (hx _ (ak2 (by omega)) (a+o.length) (by omega) (by omega)) fun c h1=>aaC (aiZ hl hZ hA hx ha ha' d (i+1) (by omega) (o ++ c) ?_ ?_)))
  ·rw [List.length_append,Nat.add_mul,Nat.one_mul]
   omega
  rw [List.length_append]
  exact upQ.app (hu.le (by omega)) (h1.2.le (by omega))
theorem aih {l:List ST} (hl:l.length<=12) {Z:Nat} (hZ:Z<=9000) {A:Int} (hA:A<=1000000) (hx:∀ x∈l,ajl Z A x) {a:Int} (ha:0<=a) (ha':a+108000<=A):An (fun k=>SaL.f k l a) (fun c=>c.length<=l.length*Z/\upQ (a+c.length) c):=by
 refine aaL ?_
 simp only [SaL.f]
 exact aiZ hl hZ hA hx ha ha' l.length 0 (Nat.zero_add _) [] (by simp) (fun q hq=>by cases hq)
theorem aja {x:ST} (h:an9 x) (A:Int):ajl 8 A x:=by
 intro a ha ha'
 obtain⟨f0,f1,f2,f3,f4,f5⟩:=x
 obtain⟨_,_,h⟩:=h
 simp only at h ⊢
 refine aaL ?_
 simp only [aiG]
 rcases h with ⟨rfl,q1,q2,q3,q4⟩ | ⟨rfl,q1,q2,q3,q4⟩ | ⟨rfl,q1,q2,q3,q4,rfl⟩ | ⟨rfl,q1,q2,rfl⟩ | ⟨rfl,q1,q2,q3⟩
 ·refine An.bind (adN q4) fun c h1=>ab1 (ab1 (aaC (aaC (aaf ⟨by simp;omega,upQ.app (h1.2.2.le (by omega)) (upQ.one fun m hm=>Or.inr (Or.inl ⟨rfl,⟨q1,by simp only [q_];omega⟩,r4,rfl,rfl⟩))⟩))))
 ·refine An.bind (adN q4) fun c h1=>ab1 (ab1 (ab1 (aaC (aaC (aaf ⟨by simp;omega,upQ.app (h1.2.2.le (by omega)) (upQ.one fun m hm=>Or.inr (Or.inr (Or.inr (Or.inr (Or.inr (Or.inl ⟨rfl,rfl,r4,rfl,q2,q3⟩))))))⟩)))))
 ·refine An.bind ahE fun c h1=>ab1 (ab1 (ab1 (ab1 (ab1 (aaC (aaf ⟨by simp,upQ.one fun m hm=>Or.inr (Or.inr (Or.inr (Or.inr (Or.inr (Or.inr (Or.inl ⟨rfl,⟨q1,by simp only [q_];omega⟩,rfl,rfl,q3,q4⟩))))))⟩))))))
 ·refine An.bind ahE fun c h1=>ab1 (ab1 (ab1 (ab1 (ab1 (ab1 (aaf ⟨by simp,upQ.one fun m hm=>Or.inr (Or.inr (Or.inr (Or.inr (Or.inr (Or.inr (Or.inr (Or.inr ⟨Or.inl rfl,rfl,rfl,rfl,rfl⟩)))))))⟩))))))
 refine An.bind (adN q3) fun c h1=>ab1 (ab1 (ab1 (ab1 (aaC (aaC (aaf ⟨by simp;omega,upQ.app (h1.2.2.le (by omega)) (upQ.one fun m hm=>Or.inr (Or.inr (Or.inr (Or.inr (Or.inr (Or.inr (Or.inr (Or.inl ⟨rfl,rfl,r4,rfl,rfl⟩))))))))⟩))))))
theorem ak8 {n m:Int} (h:0<=n) (h':n < m):QV (q_ ⟨4,0,0,0,n⟩) m:=Or.inr (Or.inr (Or.inr (Or.inl ⟨rfl,rfl,rfl,rfl,h,h'⟩)))
theorem aid {n m:Int} (h:0<=n) (h':n < m):QV (q_ ⟨5,0,4,0,n⟩) m:=Or.inr (Or.inr (Or.inr (Or.inr (Or.inl ⟨rfl,rfl,r4,rfl,h,h'⟩))))
theorem ait:∀ n,n<=3->∀ x:ST,okS n x->ajl (cZ n) (1000000 - 200000*n) x
 | 0,_,x,h=>aja h _
 | n+1,hn,x,h=>by
  obtain⟨z1,z0⟩:=aqi (n:=n) (by omega)
  rcases h with h | ⟨q0,q1,q2,q3,l4,l5,h4,h5⟩
  ·intro a ha ha'
   exact (aja h _ a ha ha').mono fun c hc=>⟨by simp only [cZ];omega,hc.2⟩
  intro a ha ha'
  have m4:x.f4.length*cZ n<=5*cZ n:=Nat.mul_le_mul_right _ l4
  have m5:x.f5.length*cZ n<=5*cZ n:=Nat.mul_le_mul_right _ l5
  have c4:∀ u:Int,0<=u->u<=a+10->An (fun k=>SaL.f k x.f4 u) (fun c=>c.length<=x.f4.length*cZ n/\upQ (u+c.length) c):=fun u hu hu'=>aih (by omega) (by omega) (A:=1000000 - 200000*n) (by omega) (fun y hy=>ait n (by omega) y (h4 y hy)) hu (by omega)
  have c5:∀ u:Int,0<=u->u<=a+50000->An (fun k=>SaL.f k x.f5 u) (fun c=>c.length<=x.f5.length*cZ n/\upQ (u+c.length) c):=fun u hu hu'=>aih (by omega) (by omega) (A:=1000000 - 200000*n) (by omega) (fun y hy=>ait n (by omega) y (h5 y hy)) hu (by omega)
  refine aaL ?_
  simp only [aiG]
  refine An.bind (adN q3) fun _ _=>?_
  rcases q0 with q0 | ⟨q0,q5⟩
  ·refine aaC (An.bind (aaL ?_) fun c hc=>aaf hc) q0
   simp only [ajM]
   refine An.bind (adN q3) fun e h1=>?_
   have w1:wrap64 (wrap64 (a+(e.length:Int))+1)=a+e.length+1:=by unfold wrap64;omega
   simp only [w1]
   refine An.bind (c4 _ (by omega) (by omega)) fun b h2=>?_
   have w2:wrap64 (a+(e.length:Int)+1+(b.length:Int))=a+e.length+1+b.length:=by unfold wrap64;omega
   have w3:wrap64 (a+(e.length:Int)+1+(b.length:Int)+1)=a+e.length+1+b.length+1:=by unfold wrap64;omega
   simp only [w2,w3]
   refine aaJ (fun z=>?_) (fun z=>?_)
   ·refine aaC (aba (aaC (aaf ⟨?_,?_⟩) ?_))
    ·simp only [List.length_append,List.length_cons,List.length_nil,cZ]
     omega
    ·simp only [List.length_append,List.length_cons,List.length_nil]
     exact upQ.app (upQ.app (h1.2.2.le (by omega)) (upQ.one fun m hm=>aid (by omega) (by omega))) (h2.2.le (by omega))
    simp only [List.length_append,List.length_cons,List.length_nil]
    omega
   refine An.bind (c5 _ (by omega) (by omega)) fun d h3=>?_
   have w4:wrap64 (a+(e.length:Int)+1+(b.length:Int)+1+(d.length:Int))=a+e.length+1+b.length+1+d.length:=by unfold wrap64;omega
   simp only [w4]
   refine aaC (aba (aaC (aba (aaC (aba (aaC (aaf ⟨?_,?_⟩) ?_)) ?_)) ?_))
   ·simp only [List.length_append,List.length_cons,List.length_nil,cZ]
    omega
   ·simp only [List.length_append,List.length_cons,List.length_nil]
    exact upQ.app (upQ.app (upQ.app (upQ.app (h1.2.2.le (by omega)) (upQ.one fun m hm=>aid (by omega) (by omega))) (h2.2.le (by omega))) (upQ.one fun m hm=>ak8 (by omega) (by omega))) (h3.2.le (by omega))
   all_goals
    simp only [List.length_append,List.length_cons,List.length_nil]
    omega
  refine ab1 (aaC (An.bind (aaL ?_) fun c hc=>aaf hc) q0)
  simp only [ajL]
  refine An.bind (adN q3) fun e h1=>?_
  have w1:wrap64 (wrap64 (a+(e.length:Int))+1)=a+e.length+1:=by unfold wrap64;omega
  simp only [w1]
  refine An.bind (c4 _ (by omega) (by omega)) fun b h2=>?_
  have w2:wrap64 (wrap64 (a+(e.length:Int)+1+(b.length:Int))+1)=a+e.length+1+b.length+1:=by unfold wrap64;omega
  simp only [w2]
  refine aaC (aba (aaC (aba (aaC (aaf ⟨?_,?_⟩) ?_)) ?_))
  ·simp only [List.length_append,List.length_cons,List.length_nil,cZ]
   omega
  ·simp only [List.length_append,List.length_cons,List.length_nil]
   exact upQ.app (upQ.app (upQ.app (h1.2.2.le (by omega)) (upQ.one fun m hm=>aid (by omega) (by omega))) (h2.2.le (by omega))) (upQ.one fun m hm=>ak8 (by omega) (by omega))
  all_goals
   simp only [List.length_append,List.length_cons,List.length_nil]
   omega
theorem agk {l:List ST} (h:okL l):An (fun k=>alO k l) (fun v=>v.1.length<=600->CV (qs v.1)):=by
 have m1:l.length*cZ 3<=12*9000:=Nat.mul_le_mul h.1 (by decide)
 simp only [alO]
 refine An.bind (amh (P:=fun u=>u=true) (agY h) rfl) fun u hu=>aaC (An.bind (aih (Z:=cZ 3) (A:=1000000 - 200000*(3:Nat)) (by have:=h.1;omega) (by decide) (by decide) (fun y hy=>ait 3 (by omega) y (h.2.1 y hy)) (a:=0) (by omega) (by decide)) fun c h1=>aaC (aaf ?_)) hu
 intro h6
 refine⟨by simp [qs],by simpa [qs] using h6,?_,?_⟩
 ·rw [aaP]
  intro i hi
  rw [abJ]
  have hm:qa (c ++ [(⟨10,0,0,0,0⟩:SQ)]) i∈c ++ [(⟨10,0,0,0,0⟩:SQ)]:=aoR hi
  rcases List.mem_append.1 hm with q|q
  ·exact h1.2 _ q _ (by simp;omega)
  rw [List.mem_singleton.1 q]
  exact Or.inr (Or.inr (Or.inr (Or.inr (Or.inr (Or.inr (Or.inr (Or.inr ⟨Or.inr rfl,rfl,rfl,rfl,rfl⟩)))))))
 refine Or.inl ?_
 rw [aaP,abJ]
 simp [qa,q_]
/-- One pass of the five answers v for c. -/
def Step:Nat->List SQ->List SQ->Prop
 | 0,c,v=>Ev (fun k=>Sao.f k c) (v,true)
 | 1,c,v=>Ev (fun k=>Saj.f k c) (v,true)
 | 2,c,v=>Ev (fun k=>Sap.f k c) (v,true)
 | 3,c,v=>Ev (fun k=>Sak.f k c) (v,true)
 | _,c,v=>Ev (fun k=>Saw.f k c) (v,true)
theorem step0 {c:List SQ} (h:CV (qs c)):∃ v,CV (qs v)/\Step 0 c v:=by
 obtain⟨U,hU,e⟩:=apH h
 exact⟨_,ain h hU.1.1,e⟩
theorem step1 {c:List SQ} (h:CV (qs c)):∃ v,CV (qs v)/\Step 1 c v:=by
 obtain⟨U,hU,e⟩:=apK h
 exact⟨_,ais h hU.1.1,e⟩
theorem step2 {c:List SQ} (h:CV (qs c)):∃ v,CV (qs v)/\Step 2 c v:=⟨_,ail h,apG h⟩
theorem aq9 {c:List SQ} (h:CV (qs c)):∃ v,CV (qs v)/\Step 3 c v:=by
 obtain⟨v,_,hv,e,_⟩:=aot h
 exact⟨v,hv,e⟩
theorem aq8 {c:List SQ} (h:CV (qs c)):∃ v,CV (qs v)/\Step 4 c v:=by
 obtain⟨U,hU,e⟩:=anF h
 exact⟨_,ak3 h hU,e⟩
/-- The first j passes lead from c to y. -/
def aqv:Nat->List SQ->List SQ->Prop
 | 0,c,y=>y=c
 | j+1,c,y=>∃ x,aqv j c x/\Step j x y
theorem akp {c y:List SQ} (h:aqv 5 c y):Ev (fun k=>aix k c) y:=by
 obtain⟨x4,⟨x3,⟨x2,⟨x1,⟨x0,rfl,s0⟩,s1⟩,s2⟩,s3⟩,s4⟩:=h
 simp only [aix]
 exact Ev.bind s0 (Ev.bind s1 (Ev.bind s2 (Ev.bind s3 (Ev.bind s4 Ev.pure))))
theorem ape {c:List SQ} (h:CV (qs c)):∃ v,CV (qs v)/\Ev (fun k=>aix k c) v:=by
 obtain⟨x1,h1,s1⟩:=step0 h
 obtain⟨x2,h2,s2⟩:=step1 h1
 obtain⟨x3,h3,s3⟩:=step2 h2
 obtain⟨x4,h4,s4⟩:=aq9 h3
 obtain⟨x5,h5,s5⟩:=aq8 h4
 exact⟨x5,h5,akp ⟨_,⟨_,⟨_,⟨_,⟨_,rfl,s1⟩,s2⟩,s3⟩,s4⟩,s5⟩⟩
theorem amU (t:Int) (x:List SQ):Ev (fun k=>acV k t x t) (x,true):=by
 refine Ev.succ ?_
 simp only [acV]
 exact aa5 Ev.pure
theorem amT {t:Int} (ht:t<=4) {r:Nat} (hr:(r:Int) < t) {x y:List SQ} (h:Ev (fun k=>aix k x) y) {z:List SQ × Bool} (hz:Ev (fun k=>acV k t y ((r+1:Nat):Int)) z):Ev (fun k=>acV k t x (r:Int)) z:=by
 refine Ev.succ ?_
 simp only [acV,aaq (show r < 9223372036854775807 by omega)]
 exact aa2 (Ev.bind h hz)
theorem Sas.out {t:Nat} (ht:t<=4):∀ (d r:Nat),r+d=t->∀ {x:List SQ},CV (qs x)->∃ v,CV (qs v)/\Ev (fun k=>acV k (t:Int) x (r:Int)) (v,true)
 | 0,r,hr,x,h=>⟨x,h,by rw [show r=t from by omega];exact amU _ _⟩
 | d+1,r,hr,x,h=>by
  obtain⟨y,hy,e⟩:=ape h
  obtain⟨v,hv,e2⟩:=Sas.out ht d (r+1) (by omega) hy
  exact⟨v,hv,amT (by omega) (by omega) e e2⟩
/-- A code and how often: what is asked of both. -/
def okT (c:List SQ) (t:Int):Prop:=CV (qs c)/\0<=t/\t<=4
theorem alJ {c:List SQ} {t:Int} (h:okT c t) {z:List SQ × Bool} (hz:Ev (fun k=>acV k t c 0) z):Ev (fun k=>Sas.f k c t) z:=by
 have h6:=ab9 h.1
 simp only [Sas.f,ahO]
 refine Ev.bind (acp c) (aa2 (aaG ?_) (decide_eq_true h.1))
 rw [decide_eq_true h.2]
 refine Ev.succ ?_
 simp only [agJ]
 refine aa5 (aaG (aa2 hz ?_)) (by simp)
 simp only [List.length_nil]
 omega
theorem apF {c:List SQ} {t:Int} (h:okT c t):∃ v,CV (qs v)/\Ev (fun k=>Sas.f k c t) (v,true):=by
 obtain⟨v,hv,e⟩:=Sas.out (t:=t.toNat) (by have:=h.2;omega) t.toNat 0 (Nat.zero_add _) h.1
 rw [Int.toNat_of_nonneg h.2.1] at e
 exact⟨v,hv,alJ h e⟩
theorem ajt {b:List Int} (hb:Bt b) {p n:Int} (hn:1<=n) (h:0<=p/\p+8<=1000000):An (fun k=>alf k b p n) (fun v=>p<=v.2.2.2.2.2/\v.2.2.2.2.2<=p+8):=by
 have j2:∀ x c q,p<=q->q<=p+1->An (fun k=>aeX k n x c b q) (fun v=>p<=v.2.2.2.2.2/\v.2.2.2.2.2<=p+8):=by
  intro x c q hq hq'
  refine aaL ?_
  simp only [aeX]
  refine aaJ (fun _=>An.bind (abz hb (by omega)) fun v h1=>An.bind (abz hb (by omega)) fun v h2=>An.bind (abz hb (by omega)) fun v h3=>An.bind (aj2 hb (by omega)) fun v h4=>aaf (by simp only;omega)) (fun _=>?_)
  refine aaJ (fun _=>An.bind (aas hb n (by omega)) fun v h1=>aaf (by simp only;omega)) (fun _=>?_)
  refine aaJ (fun _=>An.bind (abz hb (by omega)) fun v h1=>An.bind (aas hb n (by omega)) fun v h2=>aaf (by simp only;omega)) (fun _=>?_)
  refine aaJ (fun _=>An.bind (abz hb (by omega)) fun v h1=>An.bind (aas hb 2 (by omega)) fun v h2=>aaf (by simp only;omega)) (fun _=>?_)
  refine aaJ (fun _=>An.bind (abz hb (by omega)) fun v h1=>An.bind (aas hb 2 (by omega)) fun v h2=>aaf (by simp only;omega)) (fun _=>?_)
  exact An.bind (aas hb 4 (by omega)) fun v h1=>aaJ (fun _=>aaf (by simp only;omega)) (fun _=>An.bind (abz hb (by omega)) fun v h2=>aaf (by simp only;omega))
 have j1:∀ x c q,p<=q->q<=p+1->An (fun k=>afU k n x c b q) (fun v=>p<=v.2.2.2.2.2/\v.2.2.2.2.2<=p+8):=by
  intro x c q hq hq'
  refine aaL ?_
  simp only [afU]
  refine aaJ (fun _=>An.bind (abz hb (by omega)) fun v h1=>An.bind (abz hb (by omega)) fun v h2=>aaf (by simp only;omega)) (fun _=>aaJ (fun _=>j2 _ _ _ hq hq') (fun _=>aaJ (fun _=>j2 _ _ _ hq hq') (fun _=>j2 _ _ _ hq hq')))
 have j0:∀ x c q,p<=q->q<=p+1->An (fun k=>afV k n x c b q) (fun v=>p<=v.2.2.2.2.2/\v.2.2.2.2.2<=p+8):=by
  intro x c q hq hq'
  refine aaL ?_
  simp only [afV]
  refine aaJ (fun _=>An.bind (abz hb (by omega)) fun v h1=>An.bind (ajw hb (by omega)) fun v h2=>aba (An.bind (aas hb 4 (by omega)) fun v h3=>aaC (aaC (aaf (by simp only;omega)) (by simp only [List.length_cons,List.length_nil];omega)))) (fun _=>aaJ (fun _=>j1 _ _ _ hq hq') (fun _=>j1 _ _ _ hq hq'))
 simp only [alf]
 exact An.bind (aas hb 12 (by omega)) fun v h1=>aaJ (fun _=>j0 _ _ _ (by omega) (by omega)) (fun _=>j0 _ _ _ (by omega) (by omega))
theorem agu {b:List Int} (hb:Bt b) {m:Nat} (hm:m<=14):∀ (d i:Nat),i+1+d=m->∀ (o:List SQ) (p:Int),o.length=i->0<=p/\p+8*(d:Int)+2<=1000000->An (fun k=>aeW k (m:Int) o (i:Int) b p) (fun v=>1<=v.1.length/\v.1.length<=14/\p<=v.2/\v.2<=p+8*(d:Int)+2)
 | 0,i,hi,o,p,ho,h=>by
  refine aaL ?_
  simp only [aeW,aaq (show i < 9223372036854775807 by omega)]
  refine ab1 (An.bind (aas hb 3 (by omega)) fun v h1=>aaJ (fun _=>An.bind (aas hb (m:Int) (by omega)) fun u h2=>aaC (aaf ?_)) (fun _=>aaC (aaf ?_)))
  ·simp only [List.length_append,List.length_cons,List.length_nil];omega
  simp only [List.length_append,List.length_cons,List.length_nil];omega
 | d+1,i,hi,o,p,ho,h=>by
  refine aaL ?_
  simp only [aeW,aaq (show i < 9223372036854775807 by omega)]
  refine aaC (An.bind (ajt hb (by omega) (by omega)) fun v h1=>aaC ?_)
  exact (agu hb hm d (i+1) (by omega) _ v.2.2.2.2.2 (by simp [ho]) (by omega)).mono fun u h2=>⟨h2.1,h2.2.1,by omega,by omega⟩
theorem aeR {b:List Int} (hb:Bt b) {p:Int} (h:0<=p/\p+120<=1000000):An (fun k=>ajG k b p) (fun v=>1<=v.1.length/\v.1.length<=14/\p<=v.2/\v.2<=p+120):=by
 simp only [ajG]
 refine An.bind (aas hb 14 (by omega)) fun v h1=>?_
 obtain⟨v1,v2⟩:=v
 obtain⟨m,rfl⟩:=Int.eq_ofNat_of_zero_le h1.1
 have hm:(m:Int) < 14:=h1.2.1
 have hp:v2=p+1:=h1.2.2
 have e:wrap64 (1+(m:Int))=((m+1:Nat):Int):=by rw [aaS (by omega) (by omega)];omega
 simp only [e]
 exact (agu hb (m:=m+1) (by omega) m 0 (by omega) [] v2 rfl (by omega)).mono fun u h2=>⟨h2.1,h2.2.1,by omega,by omega⟩
theorem aju {b:List Int} (hb:Bt b) {p:Int} (h:0<=p/\p+9800<=1000000):An (fun k=>alh k b p) (fun v=>1<=v.1.length/\v.1.length<=600/\p<=v.2/\v.2<=p+9800):=by
 simp only [alh]
 refine An.bind (aas hb 2 (by omega)) fun v h1=>aaJ (fun _=>An.bind (aeR hb (by omega)) fun u h2=>aaf ⟨h2.1,by show u.1.length<=600;omega,by simp only;omega⟩) (fun _=>?_)
 refine An.bind (aij hb (by omega) (by omega)) fun s h2=>An.bind (agk h2.1) fun c h3=>aaJ (fun _=>An.bind (aeR hb (by omega)) fun u h4=>aaf ⟨h4.1,by show u.1.length<=600;omega,by simp only;omega⟩) (fun g=>?_)
 refine An.bind (aas hb 3 (by omega)) fun t h4=>?_
 have e1:Int.tdiv t.1 2=t.1 / 2:=Int.tdiv_eq_ediv_of_nonneg h4.1
 have e2:wrap64 (Int.tdiv t.1 2)=t.1 / 2:=by rw [e1,aaS (by omega) (by omega)]
 rw [e2]
 obtain⟨r,hr,er⟩:=apF (c:=c.1) (t:=t.1 / 2) ⟨h3 (by omega),by omega,by omega⟩
 have h6:=ab9 hr
 exact An.bind (amh (P:=fun u=>u=(r,true)) er rfl) fun u hu=>aaf (by subst hu;exact⟨h6.1,h6.2,by simp only;omega,by simp only;omega⟩)
theorem ajv {b:List Int} (hb:Bt b) {p:Int} (h:0<=p/\p+9900<=1000000):An (fun k=>ali k b p) (fun v=>v.1.length<=601/\p<=v.2/\v.2<=p+9900):=by
 simp only [ali]
 refine An.bind (aju hb (by omega)) fun c h1=>An.bind (aas hb 36 (by omega)) fun v h2=>?_
 refine aaJ (fun _=>aaC (aaf ?_)) (fun _=>aaJ (fun _=>aaC (aaf ?_)) (fun _=>aaJ (fun _=>aaC (aaf ?_)) (fun _=>aaJ (fun _=>aaf ?_) (fun _=>aaf ?_))))
 all_goals
  simp only [List.length_set,List.length_append,List.length_cons,List.length_nil]
  omega
theorem akK {x:Int} (h:(Lit.int .u8 x).wf=true):0<=x/\x < 256:=by
 simp [Lit.wf,IntKind.min,IntKind.max,IntKind.bits,IntKind.signed] at h
 omega
theorem akr {l:List Int} (h:∀ x∈l,(Lit.int .u8 x).wf=true):An (fun _=>al5 l) (fun v=>Bt v.1/\v.2=0):=by
 simp only [al5]
 refine aaJ (fun c=>aaC (aaf ⟨⟨by simp;omega,fun x hx=>akK (h x (List.mem_of_mem_take hx))⟩,rfl⟩)) (fun c=>aaf ⟨⟨by show l.length<=2000;omega,fun x hx=>akK (h x hx)⟩,rfl⟩)
theorem afM {l:List Int} (h:∀ x∈l,(Lit.int .u8 x).wf=true):An (fun k=>alL k l) (fun v=>v.length<=601):=by
 simp only [alL]
 exact An.bind (akr h) fun v h1=>An.bind (ajv h1.1 (by omega)) fun c h2=>aaf h2.1
theorem amk {T:List Bool} {s:Nat} (h:T.length=12) (hb:∀ r,r < 12->T.getD r false=s.testBit r):T=row s:=by
 apply List.ext_getElem (by rw [h,abu])
 intro i h1 h2
 have e1:=hb i (by omega)
 have e2:=acJ s i (by omega)
 simp [h1] at e1
 simp [h2] at e2
 rw [e1,e2]
theorem ahB {s:Nat} (hs:s < 65536):∀ (d p:Nat),p+d=12->∀ T:List Bool,T.length=12->(∀ r,r < p->T.getD r false=s.testBit r)->Ev (fun k=>af7 k (s:Int) T 12 (p:Int)) (row s)
 | 0,p,hp,T,hT,hb=>by
  refine Ev.succ ?_
  simp only [af7]
  exact aa5 (aaX Ev.pure (amk hT fun r hr=>hb r (by omega)))
 | d+1,p,hp,T,hT,hb=>by
  refine Ev.succ ?_
  simp only [af7,aj7 hs (show p < 16 by omega),aaq (show p < 9223372036854775807 by omega)]
  refine aa2 (aaG (aa2 (aa2 (ahB hs d (p+1) (by omega) _ (by simpa using hT) fun r hr=>?_))))
  rw [Int.toNat_natCast,ac1 _ _ _ _ _ (by omega)]
  by_cases e:r=p
  ·rw [if_pos e,e]
  rw [if_neg e]
  exact hb r (by omega)
theorem amz {s:Nat} (hs:s < 65536):Ev (fun k=>am9 k (s:Int)) (row s):=by
 simp only [am9]
 exact aa2 (aaG (ahB hs 12 0 rfl _ (by simp) fun r hr=>absurd hr (by omega))) (by decide)
theorem ak5 (L:List Nat) {p:Nat} (h:p < L.length):rows (L.take (p+1))=rows (L.take p) ++ [row (L.getD p 0)]:=by
 have e:L.getD p 0=L[p]:=by simp [h]
 have t:L.take (p+1)=L.take p ++ [L[p]]:=by rw [List.take_add_one,List.getElem?_eq_getElem h];rfl
 unfold rows
 rw [e,t,List.map_append]
 rfl
theorem agv {L:List Nat} {n:Nat} (hL:Tab n L) (hn:n<=600):∀ (d p:Nat),p+d=n->Ev (fun k=>af9 k (rows (L.take p)) (ints L) (n:Int) (p:Int)) (rows L)
 | 0,p,hp=>by
  refine Ev.succ ?_
  simp only [af9]
  refine aa5 (aaX Ev.pure ?_)
  rw [List.take_of_length_le (by have:=hL.1;omega)]
 | d+1,p,hp=>by
  have hl:=hL.1
  have ih:=agv hL hn d (p+1) (by omega)
  rw [ak5 L (by omega)] at ih
  refine Ev.succ ?_
  simp only [af9,acK,aaZ,adp,List.length_take,aaq (show p < 9223372036854775807 by omega)]
  exact aa2 (aa2 (aa2 (Ev.bind (amz (Nat.lt_of_lt_of_le (hL.2 p) (by decide))) (aa2 ih))))
theorem ahA {c:List SQ} (h:CV (qs c)):∃ L,LT c L/\Ev (fun k=>Saq.f k c) (rows L)/\Ev (fun k=>Sa2.f k c) (rows L):=by
 obtain⟨L,hL,e1,e2⟩:=aig h
 refine⟨L,hL,e1,?_⟩
 simp only [Sa2.f]
 refine Ev.bind (ajk c) (aa2 (Ev.bind e2 ?_) (decide_eq_true h))
 rw [aaZ,hL.tab.1]
 exact agv hL.tab (ab9 h).2 c.length 0 (Nat.zero_add _)
theorem ako {c:List SQ} (h:CV (qs c)) {L:List Nat} (hL:LT c L) {i r:Nat} (hl:Live (qs (ad1 L c)) i r):Live (qs c) i r:=by
 have hlen:=abv L c
 induction hl with
 | @use i r hi u =>
  rw [aaP,hlen] at hi
  rw [abJ,acA L hi] at u
  by_cases g:dd c L i=true
  ·rw [afe,if_pos g] at u
   unfold uses at u
   simp [q_] at u
  rw [afe,if_neg g] at u
  exact Live.use (by rw [aaP];exact hi) (by rw [abJ];exact u)
 | @flow i j r hi hs hj _ ih =>
  rw [aaP,hlen] at hi
  rw [abJ,acA L hi] at hs hj
  by_cases g:dd c L i=true
  ·rw [afe,if_pos g] at hj
   have hj':j=i+1:=by simpa [nx,q_] using hj
   subst hj'
   have gd:=g
   unfold dd at gd
   have aa:(qa c i).f0=1\/(qa c i).f0=2\/(qa c i).f0=3:=by
    simp only [Bool.and_eq_true,Bool.or_eq_true,beq_iff_eq] at gd
    omega
   have nxe:nx (q_ (qa c i)) i=[i+1]:=by
    unfold nx
    rw [if_neg (by show ¬ (qa c i).f0=10;omega),if_neg (by show ¬ (qa c i).f0=4;omega),if_neg (by show ¬ (qa c i).f0=5;omega)]
   have se:sets (q_ (qa c i))=(qa c i).f1:=by
    unfold sets
    exact if_pos (by show (qa c i).f0=1\/(qa c i).f0=2\/(qa c i).f0=3\/(qa c i).f0=7;omega)
   have jm:i+1∈nx (q_ (qa c i)) i:=by rw [nxe];exact List.mem_singleton.2 rfl
   refine Live.flow (j:=i+1) (by rw [aaP];exact hi) ?_ (by rw [abJ];exact jm) ih
   rw [abJ,se]
   intro e
   have b1:=(hL.iff (i+1) (ajr h hi _ jm) r).2 ih
   have b2:(aft (q_ (qa c i)) i L).testBit r=true:=by
    unfold aft
    rw [afG]
    exact .inr ⟨_,jm,b1⟩
   rw [show (qa c i).f1.toNat=r by omega,b2] at gd
   simp at gd
  rw [afe,if_neg g] at hs hj
  exact Live.flow (by rw [aaP];exact hi) (by rw [abJ];exact hs) (by rw [abJ];exact hj) ih
theorem aeQ (v:List SQ) (h:v.length<=1000):∀ (d p:Nat),p+d=v.length->Ev (fun k=>aeU k v v (p:Int)) true
 | 0,p,hp=>by
  refine Ev.succ ?_
  simp only [aeU]
  exact aa5 Ev.pure
 | d+1,p,hp=>by
  refine Ev.succ ?_
  simp only [aeU,aaq (show p < 9223372036854775807 by omega)]
  exact aa2 (aa2 (aa2 (aa5 (aeQ v h d (p+1) (by omega)))))
theorem acG (v:List SQ) (h:v.length<=1000):Ev (fun k=>SbH.f k v v) true:=by
 simp only [SbH.f]
 exact aa2 (aeQ v h v.length 0 (Nat.zero_add _))
theorem amC {c:List SQ} (h:¬ CV (qs c)):Ev (fun k=>Sak.f k c) ([],false)/\Ev (fun k=>Sa1.f k c) ([],false):=by
 refine⟨?_,?_⟩
 ·simp only [Sak.f]
  exact aaG (Ev.bind (acp c) (aa5 Ev.pure (by simpa [cvB] using h)))
 simp only [Sa1.f]
 exact Ev.bind (ajk c) (aa5 Ev.pure (by simpa [cvB] using h))
theorem amB {c:List SQ} (h:CV (qs c)):∃ L,LT c L/\Ev (fun k=>Sak.f k c) (ad1 L c,true)/\Ev (fun k=>Sa1.f k c) (ad1 L c,true):=by
 have h6:=ab9 h
 obtain⟨L,hL,e1,e2⟩:=aig h
 have ed:Ev (fun k=>Sa5.f k c) (ints (acP c L)):=by
  simp only [Sa5.f]
  exact Ev.bind e2 (Sa5.out h hL.1 c.length 0 (Nat.zero_add _))
 refine⟨L,hL,?_,?_⟩
 ·simp only [Sak.f]
  exact aaG (Ev.bind (acp c) (aa2 (Ev.bind e1 (Sak.out h hL.1 c.length 0 (Nat.zero_add _))) (decide_eq_true h)))
 simp only [Sa1.f,amd]
 refine Ev.bind (ajk c) (aa2 (Ev.bind (ab7 (if_pos (by omega))) (Ev.bind (F:=fun k=>Sa5.f k c) ed ?_)) (decide_eq_true h))
 rw [aaZ]
 exact Sa1.out h (acP c L).length 0 (Nat.zero_add _) c rfl fun i hi=>by simp
theorem ae4 {c:List SQ} {A B:List Nat} (hA:A.length=c.length) (hB:B.length=c.length) (hn:c.length<=600) {i:Nat} (hi:i < c.length) (hs:∀ r,(B.getD i 0).testBit r=true->(A.getD i 0).testBit r=true) (k0:Ev (fun k=>aeg k c (rows A) (rows B) (((i+1:Nat)):Int)) true):∀ (e r:Nat),r+e=12->Ev (fun k=>acT k c (rows A) (rows B) (i:Int) (r:Int)) true
 | 0,r,hr=>by
  refine Ev.succ ?_
  simp only [acT,aaq (show i < 9223372036854775807 by omega)]
  exact aa5 k0
 | e+1,r,hr=>by
  have ih:=ae4 hA hB hn hi hs k0 e (r+1) (by omega)
  have lA:=adp A
  have lB:=adp B
  refine Ev.succ ?_
  simp only [acT,ah2 (show i < A.length by omega),ah2 (show i < B.length by omega),abu,abI,acJ _ _ (show r < 12 by omega),aaq (show r < 9223372036854775807 by omega)]
  refine aa2 (aa2 (aa2 (aa2 (aa2 ?_))))
  by_cases b:(B.getD i 0).testBit r=true
  ·exact aa2 (aa2 (aa2 (aa2 ih (hs r b)))) b
  exact aa5 ih b
theorem adA {c:List SQ} {A B:List Nat} (hA:A.length=c.length) (hB:B.length=c.length) (hn:c.length<=600) (hs:∀ i,i < c.length->∀ r,(B.getD i 0).testBit r=true->(A.getD i 0).testBit r=true):∀ (d p:Nat),p+d=c.length->Ev (fun k=>aeg k c (rows A) (rows B) (p:Int)) true
 | 0,p,hp=>by
  refine Ev.succ ?_
  simp only [aeg]
  exact aa5 Ev.pure
 | d+1,p,hp=>by
  refine Ev.succ ?_
  simp only [aeg]
  exact aa2 (ae4 hA hB hn (by omega) (hs p (by omega)) (adA hA hB hn hs d (p+1) (by omega)) 12 0 rfl)
theorem ahb {l:List Int} (hw:∀ x∈l,(Lit.int .u8 x).wf=true):An (fun k=>SbG.f k l) (fun v=>v=true):=by
 simp only [SbG.f]
 refine aaJ (fun _=>aaf rfl) (fun _=>An.bind (afM hw) fun c hc=>?_)
 by_cases h:CV (qs c)
 ·obtain⟨L,hL,e1,e2⟩:=amB h
  have h6:=(ab9 h).2
  have hl:=abv L c
  obtain⟨A,hA,_,a2⟩:=ahA h
  obtain⟨B,hB,_,b2⟩:=ahA (afN h L)
  refine amh (Ev.bind e2 (Ev.bind e1 (aa5 (Ev.bind (acG (ad1 L c) (by omega)) (aa2 (Ev.succ ?_) rfl)) (by simp)))) rfl
  simp only [aeV]
  refine aa5 (Ev.bind a2 (Ev.bind b2 (adA hA.tab.1 (by rw [hB.tab.1];exact hl) h6 (fun i hi r hb=>?_) c.length 0 (Nat.zero_add _)))) (by simp)
  exact (hA.iff i hi r).2 (ako h hL ((hB.iff i (by omega) r).1 hb))
 obtain⟨e1,e2⟩:=amC h
 refine amh (Ev.bind e2 (Ev.bind e1 (aa5 (Ev.bind (acG _ (by simp)) (aa2 (Ev.succ ?_) rfl)) (by simp)))) rfl
 simp only [aeV]
 exact aa2 (aa2 (Ev.bind (acG _ (by simp)) Ev.pure) (by simp)) (by simp)
end Go.Proofs.YtebpplallecogaaGreat.M
namespace Go.Proofs.YtebpplallecogaaGreat.Pure
open Go.Proofs.YtebpplallecogaaGreat.M
theorem FnDeadLive:SbG.Pure:=by
 intro l _ _ hw
 obtain⟨v,e,h⟩:=ahb hw
 subst h
 exact e.get
end Go.Proofs.YtebpplallecogaaGreat.Pure
namespace Go.Proofs.YtebpplallecogaaGreat.fnDeadLive
open Go.ChangeShapes Go.WideShapes Go.ChangeAt Go.RowKit
open Go.ChangeMaps (open_string shut_string)
theorem own : ownKnob Tryz.prog.godebug = none := by kernel_rfl
theorem laidOut : laidOutB Tryz.prog = true := by kernel_rfl
def IsRow (k : IntKind) (w : World) (a : Option Addr) (len cap : Nat) (zs : List Int) : Prop :=
  (a = none ∧ len = 0 ∧ cap = 0 ∧ zs = []) ∨
  ∃ x, a = some x ∧ len ≤ cap ∧ cap ≤ maxLen ∧ zs.length = cap ∧ (∀ i, i < zs.length → w.cell? (x.add i) = some (.int k (zs.getD i 0))) ∧ ∀ n ∈ zs, (Lit.int k n).wf = true
theorem lifted (os : Os) (started : os.Started) (H : Type) (enc : TypeId × Value → H) :
    ReturnsInHanded {} Tryz.checked os 8 .any (Rows.fnDeadLiveSpec.pre6 enc Tryz.prog Tryz.f8 Rows.fnDeadLiveRow.domain false) (Rows.fnDeadLiveSpec.post enc Tryz.prog Tryz.f8 false true false false) := by
  refine returnsInHanded_of_change_sized (C := Tryz.checked) own started (by kernel_rfl) Tryz.func8
    (ChangeSpec.witness6 (enc := enc) (C := Tryz.checked) false ⟨#[], #[.slice none 0 0], []⟩ 8 (by kernel_rfl) (by kernel_rfl) (by kernel_rfl) (by kernel_rfl)) ?_
  intro W base args ds gs before hval0 hW hcnd hsz0 _
  have hsz : (DataW.weightsEach Tryz.prog (Tryz.f8.params.toList ++ Rows.fnDeadLiveSpec.plain.varTypes Tryz.prog) (ds ++ gs)).all (· ≤ reachBytes) = true := hsz0
  have hval : ∀ (j : Nat) t v, Tryz.f8.params[j]? = some t → args[j]? = some v → Value.okWide Tryz.prog W .any base t v := hval0
  have hW' := hW
  obtain ⟨p, q, hA0, hV, rfl, hfz, hnd⟩ := hW
  have hA : DataW.TrodAll enc Tryz.prog W 0 (fun _ => true) true Tryz.f8.params.toList args.toList ds p := hA0
  rw [Tryz.params8] at hA hval hsz
  obtain ⟨v0, vs0, d0, ds0, p0, q0, hargs, rfl, rfl, h0, r0⟩ := trodAll_cons hA
  obtain ⟨rfl, rfl, rfl⟩ := trodAll_nil r0
  obtain rfl : args = #[v0] := by cases args; simp_all
  obtain ⟨rfl, rfl⟩ := trodVars_none hV
  obtain ⟨a0, len0, cap0, rfl⟩ := okWide_slice Tryz.underlying22 (hval 0 22 v0 rfl rfl)
  have k0 := h0
  have lt0 : ∀ x ∈ p0, x.block < W.heap.size := by obtain ⟨m, hm⟩ := k0; exact DataW.trod_lt m _ _ _ hm
  obtain ⟨z0, w0⟩ : ∃ zs, IsRow .u8 W a0 len0 cap0 zs := by
    obtain ⟨fuel, hf⟩ := h0
    rcases open_ints Tryz.underlying22 Tryz.underlying5 (by kernel_rfl) hf with ⟨hcs, _⟩ | ⟨x, l, c, zs, hcs, _, hl, hm, hz, _, hcell, hwz⟩
    · simp [Value.cells] at hcs
      obtain ⟨rfl, rfl, rfl⟩ := hcs
      exact ⟨[], .inl ⟨rfl, rfl, rfl, rfl⟩⟩
    · simp [Value.cells] at hcs
      obtain ⟨rfl, rfl, rfl⟩ := hcs
      exact ⟨zs, .inr ⟨_, rfl, hl, hm, by simpa using hz, hcell, hwz⟩⟩
  have y0 : len0 * 1 ≤ 140737488351232 := Go.Proofs.YtebpplallecogaaGreatW.PrintWords.sized_ints hsz (j := 0) (t := 22) rfl rfl Tryz.underlying22 Tryz.underlying5 (by kernel_rfl) (by kernel_rfl) h0
  clear hA0 hval0 hsz0 hsz
  refine (M.SbG.walk Pure.FnDeadLive a0 len0 cap0 z0 W w0 y0).mono fun e W' ⟨he, bel⟩ => ?_
  subst he
  exact ⟨_, rfl, _, _, _, [], _, [], hW', trodAll_mk1 (shut_bool Tryz.underlying4 _), (trodAll_cons_mk (Below.trod laidOut (by kernel_rfl) (of_decide_eq_true (by kernel_rfl)) k0 bel lt0) trodAll_mk0), rfl, bel.frame _, fun h => by cases h⟩
theorem over : Rows.fnDeadLiveRow.holds Tryz.pinned (OpenSpec.ofChange Rows.fnDeadLiveSpec) :=
  OpenClaim.holds_of_wide 8 Tryz.f8 rfl rfl rfl rfl rfl rfl rfl ⟨rfl, rfl, rfl, rfl, rfl⟩ rfl rfl rfl rfl rfl (by kernel_rfl) Tryz.func8 (by kernel_rfl)
    (of_decide_eq_true (by kernel_rfl)) (by unfold Func.isWrapper; first | (rw [if_pos (by decide +kernel)]; kernel_rfl) | (rw [if_neg (by decide +kernel)]; exact ⟨rfl, rfl⟩))
    (fun os started H enc _ => lifted os started H enc)
theorem proved : Rows.FnDeadLiveSaid := over
#print axioms proved
end Go.Proofs.YtebpplallecogaaGreat.fnDeadLive
namespace Go.Proofs.YtebpplallecogaaGreat
/-- The row, under a short name, for the claim. -/
theorem fnDeadLive_holds : Rows.FnDeadLiveSaid := fnDeadLive.proved
end Go.Proofs.YtebpplallecogaaGreat
